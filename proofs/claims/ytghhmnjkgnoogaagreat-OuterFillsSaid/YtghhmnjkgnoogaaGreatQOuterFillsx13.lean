-- Written by this session's own program (wip/tools/mkprint.py) over the kit's printer, with overrides.
import Derived.Test.YtghhmnjkgnoogaaGreatTOuterFillsa
import Derived.Test.YtghhmnjkgnoogaaGreatQOuterFillsx0
import Derived.Test.YtghhmnjkgnoogaaGreatQOuterFillsx1
import Derived.Test.YtghhmnjkgnoogaaGreatQOuterFillsx6
import Derived.Test.YtghhmnjkgnoogaaGreatQOuterFillsx7
import Derived.Test.YtghhmnjkgnoogaaGreatQOuterFillsx12
namespace Go.Proofs.YtghhmnjkgnoogaaGreat.POuterFills
open Go.RowKit Go.Mine Go.Proofs.YtghhmnjkgnoogaaGreatW.PrintWords Go.Proofs.YtghhmnjkgnoogaaGreatW.PrintLast Go.Proofs.YtghhmnjkgnoogaaGreatW.PrintMore
attribute [local go_sem] max2_int min2_int max_two min_two max_three min_three max_four min_four   -- for this text's walks alone
set_option linter.unusedVariables false
set_option linter.unusedSimpArgs false
/-! ### mosaiclaw09_OuterFills: function 5 -/
def mosaiclaw09_OuterFills.j0 : Nat → List ByteArray → Bool → Int → Int → Int → Int → Option (Bool)
 | 0, _, _, _, _, _, _ => none
 | k + 1, x1, x21, x428000, x428001, x428002, x428003 => if x21 = true then ((mosaiclaw09_awake.f k).bind fun t429 => (some t429)) else ((outer_Fill.f k x428000 x428001 x428002 x428003 x1).bind fun bt430 => ((mosaiclaw09_Ref.f x428000 x428001 x428002 x428003).bind fun bt434 => ((mosaicref09_Fill.f k bt434.1 bt434.2.1 bt434.2.2.1 bt434.2.2.2 x1).bind fun bt438 => ((mosaiclaw09_awake.f k).bind fun t442 => (if t442 = true then ((mosaicref03_Same.f k bt430.1 bt438.1).bind fun t443 => (if t443 = true then (some (bt430.2 == bt438.2)) else (some false))) else (some false))))))
def mosaiclaw09_OuterFills.f (k : Nat) (a0_0 : Int) (a0_1 : Int) (a0_2 : Int) (a0_3 : Int) (l1 : List ByteArray) : Option (Bool) := (mosaiclaw09_few.f k l1).bind fun t428 => (if t428 = true then (if a0_1 > 30 then (mosaiclaw09_OuterFills.j0 k l1 true a0_0 a0_1 a0_2 a0_3) else (mosaiclaw09_OuterFills.j0 k l1 (decide (a0_2 > 15)) a0_0 a0_1 a0_2 a0_3)) else (mosaiclaw09_OuterFills.j0 k l1 true a0_0 a0_1 a0_2 a0_3))
theorem mosaiclaw09_OuterFills.mono_l : ∀ k, (∀ y0 y1 y2 y3 y4 y5, LeO (mosaiclaw09_OuterFills.j0 k y0 y1 y2 y3 y4 y5) (mosaiclaw09_OuterFills.j0 (k + 1) y0 y1 y2 y3 y4 y5))
 | 0 => fun _ _ _ _ _ _ r h => by simp [mosaiclaw09_OuterFills.j0] at h
 | k + 1 => by
  have ih0 := mosaiclaw09_OuterFills.mono_l k
  ·
   intro y0 y1 y2 y3 y4 y5
   unfold mosaiclaw09_OuterFills.j0
   repeat' first | (with_reducible first | apply ih0 | apply mosaiclaw09_awake.mono | apply mosaiclaw09_few.mono | apply mosaicref03_Same.mono | apply mosaicref09_Fill.mono | apply outer_Fill.mono | exact LeO.refl _ | exact LeO.none _ | refine LeO.ite ?_ ?_ | refine LeO.bind ?_ (fun _ => ?_)) | apply ih0 | apply mosaiclaw09_awake.mono | apply mosaiclaw09_few.mono | apply mosaicref03_Same.mono | apply mosaicref09_Fill.mono | apply outer_Fill.mono | exact LeO.none _ | refine LeO.ite ?_ ?_ | refine LeO.bind ?_ (fun _ => ?_)
theorem mosaiclaw09_OuterFills.mono : ∀ a0 a1 a2 a3 a4 k, LeO (mosaiclaw09_OuterFills.f k a0 a1 a2 a3 a4) (mosaiclaw09_OuterFills.f (k + 1) a0 a1 a2 a3 a4) := by
 intro a0 a1 a2 a3 a4 k
 have ih0 := mosaiclaw09_OuterFills.mono_l k
 unfold mosaiclaw09_OuterFills.f
 repeat' first | (with_reducible first | apply ih0 | apply mosaiclaw09_awake.mono | apply mosaiclaw09_few.mono | apply mosaicref03_Same.mono | apply mosaicref09_Fill.mono | apply outer_Fill.mono | exact LeO.refl _ | exact LeO.none _ | refine LeO.ite ?_ ?_ | refine LeO.bind ?_ (fun _ => ?_)) | apply ih0 | apply mosaiclaw09_awake.mono | apply mosaiclaw09_few.mono | apply mosaicref03_Same.mono | apply mosaicref09_Fill.mono | apply outer_Fill.mono | exact LeO.none _ | refine LeO.ite ?_ ?_ | refine LeO.bind ?_ (fun _ => ?_)
set_option maxHeartbeats 8000000 in
set_option maxRecDepth 100000 in
theorem mosaiclaw09_OuterFills.calls (k : Nat) (a0_0 : Int) (a0_1 : Int) (a0_2 : Int) (a0_3 : Int) (A1 : Option Addr) (c1 : Nat) (l1 : List ByteArray) (r : Bool) (w : World) (hr1 : Kd.C Kd.string w A1 l1.length l1) (hc1 : l1.length ≤ c1) (h : mosaiclaw09_OuterFills.f k a0_0 a0_1 a0_2 a0_3 l1 = some r) :
  Calls Tryz.prog 5 #[.agg #[.int .i64 a0_0, .int .i64 a0_1, .int .i64 a0_2, .int .i64 a0_3], .slice A1 l1.length c1] w fun e w' => e = .returned (.bool r) ∧ Below w.heap.size w w' := by
 have hu23 := Tryz.underlying23; have HR1 := Aside0.mk hr1
 have HC1 := Aside0.mk hc1
 clear hr1 hc1; have HB := Aside0.mk (Below.refl w.heap.size w)
 have H : ((mosaiclaw09_few.f k l1).bind fun t428 => (if t428 = true then (if a0_1 > 30 then (mosaiclaw09_OuterFills.j0 k l1 true a0_0 a0_1 a0_2 a0_3) else (mosaiclaw09_OuterFills.j0 k l1 (decide (a0_2 > 15)) a0_0 a0_1 a0_2 a0_3)) else (mosaiclaw09_OuterFills.j0 k l1 true a0_0 a0_1 a0_2 a0_3))) = some r := h
 clear h; have HC3 := Aside0.mk H
 clear H; go_enter Tryz.func5, Tryz.ntmps5
 go_upto_region 1 with (first | ((with_reducible refine gate_dst (N := 2) rfl ?_); refine box_event ?hg (N := 2) ?hd (cs := #[.int .i64 a0_0, .int .i64 a0_1, .int .i64 a0_2, .int .i64 a0_3]) (t := 23) ?hr ?_; (case hd => rfl); (case hg => rfl); (case hr => first | (go_simp; done) | (go_simp; rfl)); intro gb427 hg w4 hbox hb; have BK427 := Aside0.mk (hbox); have GW427 := Aside0.mk ((zg : w.heap.size ≤ gb427)); have GE427 := Aside0.mk ((zg : w.heap.size ≤ gb427)); replace HB := Aside0.mk (below_step zB hb); clear hb hbox hg))
 (try simp only [Act.put, List.setIfInBounds_toArray, List.set_cons_zero, List.set_cons_succ])
 go_cut [21] (fun v21 wc => ∃ (kq : Nat) (x21_2 : Bool), v21 = .bool x21_2 ∧ Aside0 (mosaiclaw09_OuterFills.j0 kq l1 x21_2 a0_0 a0_1 a0_2 a0_3 = some r) ∧ Aside0 (kq ≤ k) ∧ Aside0 (wc.heap[gb427]? = some (.cells #[.int .i64 a0_0, .int .i64 a0_1, .int .i64 a0_2, .int .i64 a0_3] 23 (0, 0))) ∧ Aside0 (Below w.heap.size w wc))
 case first =>
  have H := HC3.out; clear HC3; replace H := Option.bind_eq_some_iff.mp H
  obtain ⟨t428, A50, H⟩ := H
  replace H : (if t428 = true then (if a0_1 > 30 then (mosaiclaw09_OuterFills.j0 k l1 true a0_0 a0_1 a0_2 a0_3) else (mosaiclaw09_OuterFills.j0 k l1 (decide (a0_2 > 15)) a0_0 a0_1 a0_2 a0_3)) else (mosaiclaw09_OuterFills.j0 k l1 true a0_0 a0_1 a0_2 a0_3)) = some r := H
  have A5 := Aside0.mk A50
  clear A50; by_cases c6 : t428 = true
  ·
   subst c6
   have H1 : (if a0_1 > 30 then (mosaiclaw09_OuterFills.j0 k l1 true a0_0 a0_1 a0_2 a0_3) else (mosaiclaw09_OuterFills.j0 k l1 (decide (a0_2 > 15)) a0_0 a0_1 a0_2 a0_3)) = some r := by rw [if_pos rfl] at H; exact H
   clear H; have H := H1; clear H1; by_cases c7 : a0_1 > 30
   ·
    rw [if_pos c7] at H
    have c7b0 : decide (30 < a0_1) = true := decide_eq_true c7
    clear c7; (first | rw [c7b0] | (simp only [i64_w, i32_w]; rw [c7b0]) | skip)
    have H' := Aside0.mk H
    clear H; go_wp2_with (first | ((with_reducible refine gate_callee (f := 18) rfl ?_); refine goesL_ (some 10) rfl rfl Tryz.func18 (by kernel_rfl) rfl #[.slice A1 l1.length c1] rfl zM ?_; (with_reducible refine (mosaiclaw09_few.calls k _ _ l1 true _ ?side1 ?side2 A5.out).mono ?_); (case side1 => exact zCB HR1); (case side2 => exact HC1.out); rintro e w' ⟨rfl, ⟨nd, rfl⟩⟩; refine ⟨_, rfl, ?_⟩; obtain ⟨hcz8_0, hcz8_1, hcz8_2, hcz8_3⟩ := cZ4 BK427; obtain ⟨hfz8_0, hfz8_1, hfz8_2, hfz8_3⟩ := dZ4 BK427))
    go_meet
    case rel => exact ⟨_, (true), zF, H', ⟨by first | omega | exact Nat.le_refl _⟩, ⟨zk BK427⟩, ⟨zB⟩⟩
   ·
    rw [if_neg c7] at H
    have c7b0 : decide (30 < a0_1) = false := decide_eq_false c7
    clear c7; (first | rw [c7b0] | (simp only [i64_w, i32_w]; rw [c7b0]) | skip)
    have H' := Aside0.mk H
    clear H; go_wp2_with (first | ((with_reducible refine gate_callee (f := 18) rfl ?_); refine goesL_ (some 10) rfl rfl Tryz.func18 (by kernel_rfl) rfl #[.slice A1 l1.length c1] rfl zM ?_; (with_reducible refine (mosaiclaw09_few.calls k _ _ l1 true _ ?side1 ?side2 A5.out).mono ?_); (case side1 => exact zCB HR1); (case side2 => exact HC1.out); rintro e w' ⟨rfl, ⟨nd, rfl⟩⟩; refine ⟨_, rfl, ?_⟩; obtain ⟨hcz9_0, hcz9_1, hcz9_2, hcz9_3⟩ := cZ4 BK427; obtain ⟨hfz9_0, hfz9_1, hfz9_2, hfz9_3⟩ := dZ4 BK427))
    go_meet
    case rel => exact ⟨_, (decide (a0_2 > 15)), zF, H', ⟨by first | omega | exact Nat.le_refl _⟩, ⟨zk BK427⟩, ⟨zB⟩⟩
  ·
   replace c6 := Bool.eq_false_iff.mpr c6
   subst c6
   have H1 : (mosaiclaw09_OuterFills.j0 k l1 true a0_0 a0_1 a0_2 a0_3) = some r := by rw [if_neg (show ¬ (false = true) by decide)] at H; exact H
   clear H; have H := H1; clear H1; have H' := Aside0.mk H
   clear H; go_wp2_with (first | ((with_reducible refine gate_callee (f := 18) rfl ?_); refine goesL_ (some 10) rfl rfl Tryz.func18 (by kernel_rfl) rfl #[.slice A1 l1.length c1] rfl zM ?_; (with_reducible refine (mosaiclaw09_few.calls k _ _ l1 false _ ?side1 ?side2 A5.out).mono ?_); (case side1 => exact zCB HR1); (case side2 => exact HC1.out); rintro e w' ⟨rfl, ⟨nd, rfl⟩⟩; refine ⟨_, rfl, ?_⟩))
   go_meet
   case rel => exact ⟨_, (true), zF, H', ⟨by first | omega | exact Nat.le_refl _⟩, ⟨zk BK427⟩, ⟨zB⟩⟩
 case rest =>
  clear HC3; obtain ⟨kq, x21_2, rfl, HA, HJ2, BK427, HB⟩ := hcut
  cases kq with
  | zero => exact absurd HA.out (by simp [mosaiclaw09_OuterFills.j0])
  | succ kj2 =>
   have H := HA.out; clear HA; simp only [mosaiclaw09_OuterFills.j0] at H
   by_cases c10 : x21_2 = true
   ·
    subst c10
    have H1 : ((mosaiclaw09_awake.f kj2).bind fun t429 => (some t429)) = some r := by rw [if_pos rfl] at H; exact H
    clear H; have H := H1; clear H1; replace H := Option.bind_eq_some_iff.mp H
    obtain ⟨t429, A110, H⟩ := H
    replace H : (some t429) = some r := H
    have A11 := Aside0.mk A110
    clear A110; obtain rfl := Option.some.inj H
    go_wp2_with (first | ((with_reducible refine gate_callee (f := 11) rfl ?_); refine goesL_ (some 22) rfl rfl Tryz.func11 (by kernel_rfl) rfl #[] rfl zM ?_; (with_reducible refine (mosaiclaw09_awake.calls kj2  t429 _ A11.out).mono ?_); rintro e w12 ⟨rfl, hb⟩; refine ⟨_, rfl, ?_⟩; replace BK427 := Aside0.mk (blk_below (zk BK427) hb); replace HB := Aside0.mk (below_step zB hb); (try clear hb); (try clear hb2); (try clear hk); (try clear hi)))
    go_ret
    exact ⟨zE, zB⟩
   ·
    replace c10 := Bool.eq_false_iff.mpr c10
    subst c10
    have H1 : ((outer_Fill.f kj2 a0_0 a0_1 a0_2 a0_3 l1).bind fun bt430 => ((mosaiclaw09_Ref.f a0_0 a0_1 a0_2 a0_3).bind fun bt434 => ((mosaicref09_Fill.f kj2 bt434.1 bt434.2.1 bt434.2.2.1 bt434.2.2.2 l1).bind fun bt438 => ((mosaiclaw09_awake.f kj2).bind fun t442 => (if t442 = true then ((mosaicref03_Same.f kj2 bt430.1 bt438.1).bind fun t443 => (if t443 = true then (some (bt430.2 == bt438.2)) else (some false))) else (some false)))))) = some r := by rw [if_neg (show ¬ (false = true) by decide)] at H; exact H
    clear H; have H := H1; clear H1; replace H := Option.bind_eq_some_iff.mp H
    obtain ⟨⟨t430, t433⟩, A130, H⟩ := H
    replace H : ((mosaiclaw09_Ref.f a0_0 a0_1 a0_2 a0_3).bind fun bt434 => ((mosaicref09_Fill.f kj2 bt434.1 bt434.2.1 bt434.2.2.1 bt434.2.2.2 l1).bind fun bt438 => ((mosaiclaw09_awake.f kj2).bind fun t442 => (if t442 = true then ((mosaicref03_Same.f kj2 t430 bt438.1).bind fun t443 => (if t443 = true then (some (t433 == bt438.2)) else (some false))) else (some false))))) = some r := H
    have A13 := Aside0.mk A130
    clear A130; replace H := Option.bind_eq_some_iff.mp H
    obtain ⟨⟨t434, t435, t436, t437⟩, A140, H⟩ := H
    replace H : ((mosaicref09_Fill.f kj2 t434 t435 t436 t437 l1).bind fun bt438 => ((mosaiclaw09_awake.f kj2).bind fun t442 => (if t442 = true then ((mosaicref03_Same.f kj2 t430 bt438.1).bind fun t443 => (if t443 = true then (some (t433 == bt438.2)) else (some false))) else (some false)))) = some r := H
    have A14 := Aside0.mk A140
    clear A140; replace H := Option.bind_eq_some_iff.mp H
    obtain ⟨⟨t438, t441⟩, A150, H⟩ := H
    replace H : ((mosaiclaw09_awake.f kj2).bind fun t442 => (if t442 = true then ((mosaicref03_Same.f kj2 t430 t438).bind fun t443 => (if t443 = true then (some (t433 == t441)) else (some false))) else (some false))) = some r := H
    have A15 := Aside0.mk A150
    clear A150; replace H := Option.bind_eq_some_iff.mp H
    obtain ⟨t442, A160, H⟩ := H
    replace H : (if t442 = true then ((mosaicref03_Same.f kj2 t430 t438).bind fun t443 => (if t443 = true then (some (t433 == t441)) else (some false))) else (some false)) = some r := H
    have A16 := Aside0.mk A160
    clear A160; by_cases c17 : t442 = true
    ·
     subst c17
     have H1 : ((mosaicref03_Same.f kj2 t430 t438).bind fun t443 => (if t443 = true then (some (t433 == t441)) else (some false))) = some r := by rw [if_pos rfl] at H; exact H
     clear H; have H := H1; clear H1; replace H := Option.bind_eq_some_iff.mp H
     obtain ⟨t443, A180, H⟩ := H
     replace H : (if t443 = true then (some (t433 == t441)) else (some false)) = some r := H
     have A18 := Aside0.mk A180
     clear A180; by_cases c19 : t443 = true
     ·
      subst c19
      have H1 : (some (t433 == t441)) = some r := by rw [if_pos rfl] at H; exact H
      clear H; have H := H1; clear H1; obtain rfl := Option.some.inj H
      obtain ⟨hcz20_0, hcz20_1, hcz20_2, hcz20_3⟩ := cZ4 BK427
      obtain ⟨hfz20_0, hfz20_1, hfz20_2, hfz20_3⟩ := dZ4 BK427; go_wp2_with (first | ((with_reducible refine gate_callee (f := 24) rfl ?_); refine goesL_ (some 26) rfl rfl Tryz.func24 (by kernel_rfl) rfl #[.agg #[.int .i64 a0_0, .int .i64 a0_1, .int .i64 a0_2, .int .i64 a0_3], .slice A1 l1.length c1] rfl zM ?_; (with_reducible refine (outer_Fill.calls kj2 a0_0 a0_1 a0_2 a0_3 _ _ l1 t430 t433 _ ?side1 ?side2 A13.out).mono ?_); (case side1 => exact zCB HR1); (case side2 => exact HC1.out); rintro e w21 ⟨v431, rfl, ho0, hb⟩; refine ⟨_, rfl, ?_⟩; have HO432 := Aside0.mk (Kd.R_lower ho0 (below_size zB)); replace BK427 := Aside0.mk (blk_below (zk BK427) hb); replace HB := Aside0.mk (below_step zB hb); (try clear hb); (try clear hb2); (try clear hk); (try clear hi); (try clear ho0); obtain ⟨hcz22_0, hcz22_1, hcz22_2, hcz22_3⟩ := cZ4 BK427; obtain ⟨hfz22_0, hfz22_1, hfz22_2, hfz22_3⟩ := dZ4 BK427) | ((with_reducible refine gate_callee (f := 6) rfl ?_); refine goesL_ (some 31) rfl rfl Tryz.func6 (by kernel_rfl) rfl #[.agg #[.int .i64 a0_0, .int .i64 a0_1, .int .i64 a0_2, .int .i64 a0_3]] rfl zM ?_; (with_reducible refine (mosaiclaw09_Ref.calls a0_0 a0_1 a0_2 a0_3 t434 t435 t436 t437 _ A14.out).mono ?_); rintro e w23 ⟨rfl, hb⟩; refine ⟨_, rfl, ?_⟩; replace HO432 := Aside0.mk (Kd.R_below (zR HO432) hb); replace BK427 := Aside0.mk (blk_below (zk BK427) hb); replace HB := Aside0.mk (below_step zB hb); (try clear hb); (try clear hb2); (try clear hk); (try clear hi)) | ((with_reducible refine gate_callee (f := 25) rfl ?_); refine goesL_ (some 33) rfl rfl Tryz.func25 (by kernel_rfl) rfl #[.agg #[.int .i64 t434, .int .i64 t435, .int .i64 t436, .int .i64 t437], .slice A1 l1.length c1] rfl zM ?_; (with_reducible refine (mosaicref09_Fill.calls kj2 t434 t435 t436 t437 _ _ l1 t438 t441 _ ?side1 ?side2 A15.out).mono ?_); (case side1 => exact zCB HR1); (case side2 => exact HC1.out); rintro e w24 ⟨v439, rfl, ho0, hb⟩; refine ⟨_, rfl, ?_⟩; have n0_ := Aside0.mk (Kd.R_elder' (by (with_reducible repeat (first | apply Kd.R_alloc | apply Kd.R_drewN | apply Kd.R_drew)); exact HO432.out) (Kd.R_base ho0) hb); have n1_ := Aside0.mk (Kd.R_lower (Kd.R_new' ho0 (Kd.R_lt (by (with_reducible repeat (first | apply Kd.R_alloc | apply Kd.R_drewN | apply Kd.R_drew)); exact HO432.out))) (below_size zB)); have n2_ := Aside0.mk (blk_below (zk BK427) hb); have n3_ := Aside0.mk (below_step zB hb); clear HO432; clear BK427; clear HB; have HO432 := n0_; have HO440 := n1_; have BK427 := n2_; have HB := n3_; clear n0_ n1_ n2_ n3_; (try clear hb); (try clear hb2); (try clear hk); (try clear hi); (try clear ho0)) | ((with_reducible refine gate_callee (f := 11) rfl ?_); refine goesL_ (some 36) rfl rfl Tryz.func11 (by kernel_rfl) rfl #[] rfl zM ?_; (with_reducible refine (mosaiclaw09_awake.calls kj2  true _ A16.out).mono ?_); rintro e w25 ⟨rfl, hb⟩; refine ⟨_, rfl, ?_⟩; replace HO432 := Aside0.mk (Kd.R_below (zR HO432) hb); replace HO440 := Aside0.mk (Kd.R_below (zR HO440) hb); replace BK427 := Aside0.mk (blk_below (zk BK427) hb); replace HB := Aside0.mk (below_step zB hb); (try clear hb); (try clear hb2); (try clear hk); (try clear hi); obtain ⟨Ao26, co26, eo26⟩ := Kd.R_slice HO432.out; subst eo26; obtain ⟨Ao27, co27, eo27⟩ := Kd.R_slice HO440.out; subst eo27) | (go_at_call 21; (with_reducible refine (mosaicref03_Same.calls kj2 _ _ t430 _ _ t438 true _ ?side1 ?side2 ?side3 ?side4 A18.out).mono ?_); (case side1 => exact zRC HO432); (case side2 => exact (Kd.R_reads' HO432.out).2.1); (case side3 => exact zRC HO440); (case side4 => exact (Kd.R_reads' HO440.out).2.1); rintro e w' ⟨rfl, ⟨nd, rfl⟩⟩))
      go_ret
      exact ⟨zE, zB⟩
     ·
      replace c19 := Bool.eq_false_iff.mpr c19
      subst c19
      have H1 : (some false) = some r := by rw [if_neg (show ¬ (false = true) by decide)] at H; exact H
      clear H; have H := H1; clear H1; obtain rfl := Option.some.inj H
      obtain ⟨hcz28_0, hcz28_1, hcz28_2, hcz28_3⟩ := cZ4 BK427
      obtain ⟨hfz28_0, hfz28_1, hfz28_2, hfz28_3⟩ := dZ4 BK427; go_wp2_with (first | ((with_reducible refine gate_callee (f := 24) rfl ?_); refine goesL_ (some 26) rfl rfl Tryz.func24 (by kernel_rfl) rfl #[.agg #[.int .i64 a0_0, .int .i64 a0_1, .int .i64 a0_2, .int .i64 a0_3], .slice A1 l1.length c1] rfl zM ?_; (with_reducible refine (outer_Fill.calls kj2 a0_0 a0_1 a0_2 a0_3 _ _ l1 t430 t433 _ ?side1 ?side2 A13.out).mono ?_); (case side1 => exact zCB HR1); (case side2 => exact HC1.out); rintro e w29 ⟨v431, rfl, ho0, hb⟩; refine ⟨_, rfl, ?_⟩; have HO432 := Aside0.mk (Kd.R_lower ho0 (below_size zB)); replace BK427 := Aside0.mk (blk_below (zk BK427) hb); replace HB := Aside0.mk (below_step zB hb); (try clear hb); (try clear hb2); (try clear hk); (try clear hi); (try clear ho0); obtain ⟨hcz30_0, hcz30_1, hcz30_2, hcz30_3⟩ := cZ4 BK427; obtain ⟨hfz30_0, hfz30_1, hfz30_2, hfz30_3⟩ := dZ4 BK427) | ((with_reducible refine gate_callee (f := 6) rfl ?_); refine goesL_ (some 31) rfl rfl Tryz.func6 (by kernel_rfl) rfl #[.agg #[.int .i64 a0_0, .int .i64 a0_1, .int .i64 a0_2, .int .i64 a0_3]] rfl zM ?_; (with_reducible refine (mosaiclaw09_Ref.calls a0_0 a0_1 a0_2 a0_3 t434 t435 t436 t437 _ A14.out).mono ?_); rintro e w31 ⟨rfl, hb⟩; refine ⟨_, rfl, ?_⟩; replace HO432 := Aside0.mk (Kd.R_below (zR HO432) hb); replace BK427 := Aside0.mk (blk_below (zk BK427) hb); replace HB := Aside0.mk (below_step zB hb); (try clear hb); (try clear hb2); (try clear hk); (try clear hi)) | ((with_reducible refine gate_callee (f := 25) rfl ?_); refine goesL_ (some 33) rfl rfl Tryz.func25 (by kernel_rfl) rfl #[.agg #[.int .i64 t434, .int .i64 t435, .int .i64 t436, .int .i64 t437], .slice A1 l1.length c1] rfl zM ?_; (with_reducible refine (mosaicref09_Fill.calls kj2 t434 t435 t436 t437 _ _ l1 t438 t441 _ ?side1 ?side2 A15.out).mono ?_); (case side1 => exact zCB HR1); (case side2 => exact HC1.out); rintro e w32 ⟨v439, rfl, ho0, hb⟩; refine ⟨_, rfl, ?_⟩; have n0_ := Aside0.mk (Kd.R_elder' (by (with_reducible repeat (first | apply Kd.R_alloc | apply Kd.R_drewN | apply Kd.R_drew)); exact HO432.out) (Kd.R_base ho0) hb); have n1_ := Aside0.mk (Kd.R_lower (Kd.R_new' ho0 (Kd.R_lt (by (with_reducible repeat (first | apply Kd.R_alloc | apply Kd.R_drewN | apply Kd.R_drew)); exact HO432.out))) (below_size zB)); have n2_ := Aside0.mk (blk_below (zk BK427) hb); have n3_ := Aside0.mk (below_step zB hb); clear HO432; clear BK427; clear HB; have HO432 := n0_; have HO440 := n1_; have BK427 := n2_; have HB := n3_; clear n0_ n1_ n2_ n3_; (try clear hb); (try clear hb2); (try clear hk); (try clear hi); (try clear ho0)) | ((with_reducible refine gate_callee (f := 11) rfl ?_); refine goesL_ (some 36) rfl rfl Tryz.func11 (by kernel_rfl) rfl #[] rfl zM ?_; (with_reducible refine (mosaiclaw09_awake.calls kj2  true _ A16.out).mono ?_); rintro e w33 ⟨rfl, hb⟩; refine ⟨_, rfl, ?_⟩; replace HO432 := Aside0.mk (Kd.R_below (zR HO432) hb); replace HO440 := Aside0.mk (Kd.R_below (zR HO440) hb); replace BK427 := Aside0.mk (blk_below (zk BK427) hb); replace HB := Aside0.mk (below_step zB hb); (try clear hb); (try clear hb2); (try clear hk); (try clear hi); obtain ⟨Ao34, co34, eo34⟩ := Kd.R_slice HO432.out; subst eo34; obtain ⟨Ao35, co35, eo35⟩ := Kd.R_slice HO440.out; subst eo35) | (go_at_call 21; (with_reducible refine (mosaicref03_Same.calls kj2 _ _ t430 _ _ t438 false _ ?side1 ?side2 ?side3 ?side4 A18.out).mono ?_); (case side1 => exact zRC HO432); (case side2 => exact (Kd.R_reads' HO432.out).2.1); (case side3 => exact zRC HO440); (case side4 => exact (Kd.R_reads' HO440.out).2.1); rintro e w' ⟨rfl, ⟨nd, rfl⟩⟩))
      go_ret
      exact ⟨zE, zB⟩
    ·
     replace c17 := Bool.eq_false_iff.mpr c17
     subst c17
     have H1 : (some false) = some r := by rw [if_neg (show ¬ (false = true) by decide)] at H; exact H
     clear H; have H := H1; clear H1; obtain rfl := Option.some.inj H
     obtain ⟨hcz36_0, hcz36_1, hcz36_2, hcz36_3⟩ := cZ4 BK427
     obtain ⟨hfz36_0, hfz36_1, hfz36_2, hfz36_3⟩ := dZ4 BK427; go_wp2_with (first | ((with_reducible refine gate_callee (f := 24) rfl ?_); refine goesL_ (some 26) rfl rfl Tryz.func24 (by kernel_rfl) rfl #[.agg #[.int .i64 a0_0, .int .i64 a0_1, .int .i64 a0_2, .int .i64 a0_3], .slice A1 l1.length c1] rfl zM ?_; (with_reducible refine (outer_Fill.calls kj2 a0_0 a0_1 a0_2 a0_3 _ _ l1 t430 t433 _ ?side1 ?side2 A13.out).mono ?_); (case side1 => exact zCB HR1); (case side2 => exact HC1.out); rintro e w37 ⟨v431, rfl, ho0, hb⟩; refine ⟨_, rfl, ?_⟩; have HO432 := Aside0.mk (Kd.R_lower ho0 (below_size zB)); replace BK427 := Aside0.mk (blk_below (zk BK427) hb); replace HB := Aside0.mk (below_step zB hb); (try clear hb); (try clear hb2); (try clear hk); (try clear hi); (try clear ho0); obtain ⟨hcz38_0, hcz38_1, hcz38_2, hcz38_3⟩ := cZ4 BK427; obtain ⟨hfz38_0, hfz38_1, hfz38_2, hfz38_3⟩ := dZ4 BK427) | ((with_reducible refine gate_callee (f := 6) rfl ?_); refine goesL_ (some 31) rfl rfl Tryz.func6 (by kernel_rfl) rfl #[.agg #[.int .i64 a0_0, .int .i64 a0_1, .int .i64 a0_2, .int .i64 a0_3]] rfl zM ?_; (with_reducible refine (mosaiclaw09_Ref.calls a0_0 a0_1 a0_2 a0_3 t434 t435 t436 t437 _ A14.out).mono ?_); rintro e w39 ⟨rfl, hb⟩; refine ⟨_, rfl, ?_⟩; replace HO432 := Aside0.mk (Kd.R_below (zR HO432) hb); replace BK427 := Aside0.mk (blk_below (zk BK427) hb); replace HB := Aside0.mk (below_step zB hb); (try clear hb); (try clear hb2); (try clear hk); (try clear hi)) | ((with_reducible refine gate_callee (f := 25) rfl ?_); refine goesL_ (some 33) rfl rfl Tryz.func25 (by kernel_rfl) rfl #[.agg #[.int .i64 t434, .int .i64 t435, .int .i64 t436, .int .i64 t437], .slice A1 l1.length c1] rfl zM ?_; (with_reducible refine (mosaicref09_Fill.calls kj2 t434 t435 t436 t437 _ _ l1 t438 t441 _ ?side1 ?side2 A15.out).mono ?_); (case side1 => exact zCB HR1); (case side2 => exact HC1.out); rintro e w40 ⟨v439, rfl, ho0, hb⟩; refine ⟨_, rfl, ?_⟩; have n0_ := Aside0.mk (Kd.R_elder' (by (with_reducible repeat (first | apply Kd.R_alloc | apply Kd.R_drewN | apply Kd.R_drew)); exact HO432.out) (Kd.R_base ho0) hb); have n1_ := Aside0.mk (Kd.R_lower (Kd.R_new' ho0 (Kd.R_lt (by (with_reducible repeat (first | apply Kd.R_alloc | apply Kd.R_drewN | apply Kd.R_drew)); exact HO432.out))) (below_size zB)); have n2_ := Aside0.mk (blk_below (zk BK427) hb); have n3_ := Aside0.mk (below_step zB hb); clear HO432; clear BK427; clear HB; have HO432 := n0_; have HO440 := n1_; have BK427 := n2_; have HB := n3_; clear n0_ n1_ n2_ n3_; (try clear hb); (try clear hb2); (try clear hk); (try clear hi); (try clear ho0)) | ((with_reducible refine gate_callee (f := 11) rfl ?_); refine goesL_ (some 36) rfl rfl Tryz.func11 (by kernel_rfl) rfl #[] rfl zM ?_; (with_reducible refine (mosaiclaw09_awake.calls kj2  false _ A16.out).mono ?_); rintro e w41 ⟨rfl, hb⟩; refine ⟨_, rfl, ?_⟩; replace HO432 := Aside0.mk (Kd.R_below (zR HO432) hb); replace HO440 := Aside0.mk (Kd.R_below (zR HO440) hb); replace BK427 := Aside0.mk (blk_below (zk BK427) hb); replace HB := Aside0.mk (below_step zB hb); (try clear hb); (try clear hb2); (try clear hk); (try clear hi)))
     go_ret
     exact ⟨zE, zB⟩
def mosaiclaw09_OuterFills.Pure : Prop := ∀ (a0_0 : Int) (a0_1 : Int) (a0_2 : Int) (a0_3 : Int) (l1 : List ByteArray), ((Lit.int .i64 a0_0).wf = true) → ((Lit.int .i64 a0_1).wf = true) → ((Lit.int .i64 a0_2).wf = true) → ((Lit.int .i64 a0_3).wf = true) → (l1.length ≤ maxLen) → (∀ y ∈ l1, y.size ≤ maxLen) → ∃ k, mosaiclaw09_OuterFills.f k a0_0 a0_1 a0_2 a0_3 l1 = some true
theorem mosaiclaw09_OuterFills.walk (P : mosaiclaw09_OuterFills.Pure) (a0_0 : Int) (a0_1 : Int) (a0_2 : Int) (a0_3 : Int) (A1 : Option Addr) (c1 : Nat) (l1 : List ByteArray) (w : World) (hr1 : Kd.C Kd.string w A1 l1.length l1) (hc1 : l1.length ≤ c1) (hi0_0 : (Lit.int .i64 a0_0).wf = true) (hi0_1 : (Lit.int .i64 a0_1).wf = true) (hi0_2 : (Lit.int .i64 a0_2).wf = true) (hi0_3 : (Lit.int .i64 a0_3).wf = true) (hm1 : l1.length ≤ maxLen) (hw1 : ∀ y ∈ l1, y.size ≤ maxLen) :
  Calls Tryz.prog 5 #[.agg #[.int .i64 a0_0, .int .i64 a0_1, .int .i64 a0_2, .int .i64 a0_3], .slice A1 l1.length c1] w fun e w' => e = .returned (.bool true) ∧ Below w.heap.size w w' := by
 obtain ⟨k, h⟩ := P a0_0 a0_1 a0_2 a0_3 l1 hi0_0 hi0_1 hi0_2 hi0_3 hm1 hw1
 refine (mosaiclaw09_OuterFills.calls k a0_0 a0_1 a0_2 a0_3 A1 c1 l1 true w hr1 hc1 h).mono ?_
 rintro e w' ⟨rfl, hd⟩
 exact ⟨rfl, hd⟩
end Go.Proofs.YtghhmnjkgnoogaaGreat.POuterFills
