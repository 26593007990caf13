-- Written by this session's own program (wip/tools/mkprint.py) over the kit's printer, with overrides.
import Derived.Test.YtghhmnjkgnoogaaGreatTOuterFillsa
import Derived.Test.YtghhmnjkgnoogaaGreatQOuterFillsx0
import Derived.Test.YtghhmnjkgnoogaaGreatQOuterFillsx7
import Derived.Test.YtghhmnjkgnoogaaGreatQOuterFillsx8
import Derived.Test.YtghhmnjkgnoogaaGreatQOuterFillsx10
namespace Go.Proofs.YtghhmnjkgnoogaaGreat.POuterFills
open Go.RowKit Go.Mine Go.Proofs.YtghhmnjkgnoogaaGreatW.PrintWords Go.Proofs.YtghhmnjkgnoogaaGreatW.PrintLast Go.Proofs.YtghhmnjkgnoogaaGreatW.PrintMore
attribute [local go_sem] max2_int min2_int max_two min_two max_three min_three max_four min_four   -- for this text's walks alone
set_option linter.unusedVariables false
set_option linter.unusedSimpArgs false
/-! ### mosaicref09_Joins: function 14 -/
mutual
def mosaicref09_Joins.j0 : Nat → Int → Int → Int → Int → Int → Int → Option (List Int)
 | 0, _, _, _, _, _, _ => none
 | k + 1, x1, x5, x347000, x347001, x347002, x347003 => (mosaicref02_Num.f k x347000 7).bind fun t347 => (if 5 + t347.size ≤ 9223372036854775807 then ((mosaicref02_Num.f k x1 2).bind fun t348 => (if ((⟨#[111, 117, 116, 101, 114]⟩ : ByteArray) ++ t347).size + t348.size ≤ 9223372036854775807 then ((mosaicref04_Gen_Pick.f k (((⟨#[111, 117, 116, 101, 114]⟩ : ByteArray) ++ t347) ++ t348) 0 x347002 x5).bind fun bt350 => (mosaicref09_Joins.l0 k bt350.2.2 ([] : List Int) 0 x347000 x347001 x347002 x347003)) else (none))) else (none))
def mosaicref09_Joins.l0 : Nat → List Int → List Int → Int → Int → Int → Int → Int → Option (List Int)
 | 0, _, _, _, _, _, _, _ => none
 | k + 1, x7, x8, x9, x347000, x347001, x347002, x347003 => if x9 < x347002 then ((mosaicref09_Has.f k x7 x9).bind fun t355 => (if t355 = true then (if x8.length < 17592186044416 then (mosaicref09_Joins.l0 k x7 (x8 ++ [x9]) (wrap64 (x9 + 1)) x347000 x347001 x347002 x347003) else (none)) else (mosaicref09_Joins.l0 k x7 x8 (wrap64 (x9 + 1)) x347000 x347001 x347002 x347003))) else (some x8)
end
def mosaicref09_Joins.f (k : Nat) (a0_0 : Int) (a0_1 : Int) (a0_2 : Int) (a0_3 : Int) (a1 : Int) : Option (List Int) := if a0_3 > a0_2 then (mosaicref09_Joins.j0 k a1 a0_2 a0_0 a0_1 a0_2 a0_3) else (mosaicref09_Joins.j0 k a1 a0_3 a0_0 a0_1 a0_2 a0_3)
theorem mosaicref09_Joins.mono_l : ∀ k, (∀ y0 y1 y2 y3 y4 y5, LeO (mosaicref09_Joins.j0 k y0 y1 y2 y3 y4 y5) (mosaicref09_Joins.j0 (k + 1) y0 y1 y2 y3 y4 y5)) ∧ (∀ y0 y1 y2 y3 y4 y5 y6, LeO (mosaicref09_Joins.l0 k y0 y1 y2 y3 y4 y5 y6) (mosaicref09_Joins.l0 (k + 1) y0 y1 y2 y3 y4 y5 y6))
 | 0 => ⟨fun _ _ _ _ _ _ r h => by simp [mosaicref09_Joins.j0] at h, fun _ _ _ _ _ _ _ r h => by simp [mosaicref09_Joins.l0] at h⟩
 | k + 1 => by
  obtain ⟨ih0, ih1⟩ := mosaicref09_Joins.mono_l k
  refine ⟨?_, ?_⟩ <;> intros <;> (first | unfold mosaicref09_Joins.j0 | unfold mosaicref09_Joins.l0)
  all_goals repeat' first | (with_reducible first | apply ih0 | apply ih1 | apply mosaicref02_Num.mono | apply mosaicref04_Gen_Pick.mono | apply mosaicref09_Has.mono | exact LeO.refl _ | exact LeO.none _ | refine LeO.ite ?_ ?_ | refine LeO.bind ?_ (fun _ => ?_)) | apply ih0 | apply ih1 | apply mosaicref02_Num.mono | apply mosaicref04_Gen_Pick.mono | apply mosaicref09_Has.mono | exact LeO.none _ | refine LeO.ite ?_ ?_ | refine LeO.bind ?_ (fun _ => ?_)
theorem mosaicref09_Joins.mono : ∀ a0 a1 a2 a3 a4 k, LeO (mosaicref09_Joins.f k a0 a1 a2 a3 a4) (mosaicref09_Joins.f (k + 1) a0 a1 a2 a3 a4) := by
 intro a0 a1 a2 a3 a4 k
 obtain ⟨ih0, ih1⟩ := mosaicref09_Joins.mono_l k
 unfold mosaicref09_Joins.f
 repeat' first | (with_reducible first | apply ih0 | apply ih1 | apply mosaicref02_Num.mono | apply mosaicref04_Gen_Pick.mono | apply mosaicref09_Has.mono | exact LeO.refl _ | exact LeO.none _ | refine LeO.ite ?_ ?_ | refine LeO.bind ?_ (fun _ => ?_)) | apply ih0 | apply ih1 | apply mosaicref02_Num.mono | apply mosaicref04_Gen_Pick.mono | apply mosaicref09_Has.mono | exact LeO.none _ | refine LeO.ite ?_ ?_ | refine LeO.bind ?_ (fun _ => ?_)
set_option maxHeartbeats 8000000 in
set_option maxRecDepth 100000 in
theorem mosaicref09_Joins.calls (k : Nat) (a0_0 : Int) (a0_1 : Int) (a0_2 : Int) (a0_3 : Int) (a1 : Int) (r : List Int) (w : World) (h : mosaicref09_Joins.f k a0_0 a0_1 a0_2 a0_3 a1 = some r) :
  Calls Tryz.prog 14 #[.agg #[.int .i64 a0_0, .int .i64 a0_1, .int .i64 a0_2, .int .i64 a0_3], .int .i64 a1] w fun e w' => ∃ v0_ : Value, e = .returned (v0_) ∧ Kd.R (Kd.int .i64) 3 w' w.heap.size (fun _ => True) v0_ r ∧ Below w.heap.size w w' := by
 have hf_ : ∀ (a b c : Value) (W : World), Sem.run Tryz.prog (Instr.field 58 (.agg #[a, b, c]) 1) W = .ok c W := (by intro a b c W; kernel_rfl)
 have hu24 := Tryz.underlying24; have hu56 := Tryz.underlying56; have HB := Aside0.mk (Below.refl w.heap.size w)
 have H : (if a0_3 > a0_2 then (mosaicref09_Joins.j0 k a1 a0_2 a0_0 a0_1 a0_2 a0_3) else (mosaicref09_Joins.j0 k a1 a0_3 a0_0 a0_1 a0_2 a0_3)) = some r := h
 clear h; have HC3 := Aside0.mk H
 clear H; go_enter Tryz.func14, Tryz.ntmps14
 go_upto_if 15 with (first | ((with_reducible refine gate_dst (N := 2) rfl ?_); refine box_event ?hg (N := 2) ?hd (cs := #[.int .i64 a0_0, .int .i64 a0_1, .int .i64 a0_2, .int .i64 a0_3]) (t := 24) ?hr ?_; (case hd => rfl); (case hg => rfl); (case hr => first | (go_simp; done) | (go_simp; rfl)); intro gb346 hg w4 hbox hb; have BK346 := Aside0.mk (hbox); have GW346 := Aside0.mk ((zg : w.heap.size ≤ gb346)); have GE346 := Aside0.mk ((zg : w.heap.size ≤ gb346)); replace HB := Aside0.mk (below_step zB hb); clear hb hbox hg; obtain ⟨hcz5_0, hcz5_1, hcz5_2, hcz5_3⟩ := cZ4 BK346; obtain ⟨hfz5_0, hfz5_1, hfz5_2, hfz5_3⟩ := dZ4 BK346))
 (try simp only [Act.put, List.setIfInBounds_toArray, List.set_cons_zero, List.set_cons_succ])
 go_cut [5] (fun v5 wc => ∃ (kq : Nat) (x5_2 : Int), v5 = .int .i64 x5_2 ∧ Aside0 (mosaicref09_Joins.j0 kq a1 x5_2 a0_0 a0_1 a0_2 a0_3 = some r) ∧ Aside0 (kq ≤ k) ∧ Aside0 (wc.heap[gb346]? = some (.cells #[.int .i64 a0_0, .int .i64 a0_1, .int .i64 a0_2, .int .i64 a0_3] 24 (0, 0))) ∧ Aside0 (Below w.heap.size w wc))
 case first =>
  have H := HC3.out; clear HC3; by_cases c6 : a0_3 > a0_2
  ·
   rw [if_pos c6] at H
   have c6b0 : decide (a0_2 < a0_3) = true := decide_eq_true c6
   clear c6; (first | rw [c6b0] | (simp only [i64_w, i32_w]; rw [c6b0]) | skip)
   have H' := Aside0.mk H
   clear H; obtain ⟨hcz7_0, hcz7_1, hcz7_2, hcz7_3⟩ := cZ4 BK346
   obtain ⟨hfz7_0, hfz7_1, hfz7_2, hfz7_3⟩ := dZ4 BK346; go_wp2
   go_meet
   case rel => exact ⟨_, (a0_2), zF, H', ⟨by first | omega | exact Nat.le_refl _⟩, ⟨zk BK346⟩, ⟨zB⟩⟩
  ·
   rw [if_neg c6] at H
   have c6b0 : decide (a0_2 < a0_3) = false := decide_eq_false c6
   clear c6; (first | rw [c6b0] | (simp only [i64_w, i32_w]; rw [c6b0]) | skip)
   have H' := Aside0.mk H
   clear H; go_wp2
   go_meet
   case rel => exact ⟨_, (a0_3), zF, H', ⟨by first | omega | exact Nat.le_refl _⟩, ⟨zk BK346⟩, ⟨zB⟩⟩
 case rest =>
  clear HC3; obtain ⟨kq, x5_2, rfl, HA, HJ2, BK346, HB⟩ := hcut
  cases kq with
  | zero => exact absurd HA.out (by simp [mosaicref09_Joins.j0])
  | succ kj2 =>
   have H := HA.out; clear HA; simp only [mosaicref09_Joins.j0] at H
   replace H := Option.bind_eq_some_iff.mp H
   obtain ⟨t347, A80, H⟩ := H
   replace H : (if 5 + t347.size ≤ 9223372036854775807 then ((mosaicref02_Num.f kj2 a1 2).bind fun t348 => (if ((⟨#[111, 117, 116, 101, 114]⟩ : ByteArray) ++ t347).size + t348.size ≤ 9223372036854775807 then ((mosaicref04_Gen_Pick.f kj2 (((⟨#[111, 117, 116, 101, 114]⟩ : ByteArray) ++ t347) ++ t348) 0 a0_2 x5_2).bind fun bt350 => (mosaicref09_Joins.l0 kj2 bt350.2.2 ([] : List Int) 0 a0_0 a0_1 a0_2 a0_3)) else (none))) else (none)) = some r := H
   have A8 := Aside0.mk A80
   clear A80; by_cases c9 : 5 + t347.size ≤ 9223372036854775807
   ·
    rw [if_pos c9] at H
    have c9b0 := eq_true c9
    (try (have c9b0s := eq_true c9; simp only [ByteArray.size_append, Int.natCast_add] at c9b0s))
    have c9b1 : decide (5 + t347.size ≤ 9223372036854775807) = true := decide_eq_true c9
    try have c9b2 : (9223372036854775807 < 5 + t347.size) = False := eq_false (Nat.not_lt.2 c9)
    replace H := Option.bind_eq_some_iff.mp H
    obtain ⟨t348, A100, H⟩ := H
    replace H : (if ((⟨#[111, 117, 116, 101, 114]⟩ : ByteArray) ++ t347).size + t348.size ≤ 9223372036854775807 then ((mosaicref04_Gen_Pick.f kj2 (((⟨#[111, 117, 116, 101, 114]⟩ : ByteArray) ++ t347) ++ t348) 0 a0_2 x5_2).bind fun bt350 => (mosaicref09_Joins.l0 kj2 bt350.2.2 ([] : List Int) 0 a0_0 a0_1 a0_2 a0_3)) else (none)) = some r := H
    have A10 := Aside0.mk A100
    clear A100; by_cases c11 : ((⟨#[111, 117, 116, 101, 114]⟩ : ByteArray) ++ t347).size + t348.size ≤ 9223372036854775807
    ·
     rw [if_pos c11] at H
     have c11b0 := eq_true c11
     (try (have c11b0s := eq_true c11; simp only [ByteArray.size_append, Int.natCast_add] at c11b0s))
     have c11b1 : decide (((⟨#[111, 117, 116, 101, 114]⟩ : ByteArray) ++ t347).size + t348.size ≤ 9223372036854775807) = true := decide_eq_true c11
     (try (have zl0_ : (⟨#[111, 117, 116, 101, 114]⟩ : ByteArray).size = 5 := rfl; have c11b1s := c11b1; simp only [ByteArray.size_append, Int.natCast_add, zl0_] at c11b1s; clear zl0_))
     (try (have zl0_ : (⟨#[111, 117, 116, 101, 114]⟩ : ByteArray).size = 5 := rfl; have c11b1r := c11b1; simp only [ByteArray.size_append, zl0_] at c11b1r; clear zl0_))
     try have c11b2 : (9223372036854775807 < ((⟨#[111, 117, 116, 101, 114]⟩ : ByteArray) ++ t347).size + t348.size) = False := eq_false (Nat.not_lt.2 c11)
     (try (have zl0_ : (⟨#[111, 117, 116, 101, 114]⟩ : ByteArray).size = 5 := rfl; have c11b2s := c11b2; simp only [ByteArray.size_append, Int.natCast_add, zl0_] at c11b2s; clear zl0_))
     (try (have zl0_ : (⟨#[111, 117, 116, 101, 114]⟩ : ByteArray).size = 5 := rfl; have c11b2r := c11b2; simp only [ByteArray.size_append, zl0_] at c11b2r; clear zl0_))
     replace H := Option.bind_eq_some_iff.mp H
     obtain ⟨⟨t350, t351, t352⟩, A120, H⟩ := H
     replace H : (mosaicref09_Joins.l0 kj2 t352 ([] : List Int) 0 a0_0 a0_1 a0_2 a0_3) = some r := H
     have A12 := Aside0.mk A120
     clear A120; have H' := Aside0.mk H
     clear H; obtain ⟨hcz13_0, hcz13_1, hcz13_2, hcz13_3⟩ := cZ4 BK346
     obtain ⟨hfz13_0, hfz13_1, hfz13_2, hfz13_3⟩ := dZ4 BK346; go_wp2_with (first | ((with_reducible refine gate_callee (f := 30) rfl ?_); refine goesL_ (some 20) rfl rfl Tryz.func30 (by kernel_rfl) rfl #[.int .i64 a0_0, .int .i64 7] rfl zM ?_; (with_reducible refine (mosaicref02_Num.calls kj2 a0_0 7 t347 _ A8.out).mono ?_); rintro e w14 ⟨rfl, hb⟩; refine ⟨_, rfl, ?_⟩; replace BK346 := Aside0.mk (blk_below (zk BK346) hb); replace HB := Aside0.mk (below_step zB hb); (try clear hb); (try clear hb2); (try clear hk); (try clear hi)) | ((with_reducible refine gate_callee (f := 30) rfl ?_); refine goesL_ (some 23) rfl rfl Tryz.func30 (by kernel_rfl) rfl #[.int .i64 a1, .int .i64 2] rfl zM ?_; (with_reducible refine (mosaicref02_Num.calls kj2 a1 2 t348 _ A10.out).mono ?_); rintro e w15 ⟨rfl, hb⟩; refine ⟨_, rfl, ?_⟩; replace BK346 := Aside0.mk (blk_below (zk BK346) hb); replace HB := Aside0.mk (below_step zB hb); (try clear hb); (try clear hb2); (try clear hk); (try clear hi)) | ((with_reducible refine gate_dst (N := 6) rfl ?_); refine box_event ?hg (N := 6) ?hd (cs := #[.string (⟨#[]⟩ : ByteArray), .int .i64 0]) (t := 56) ?hr ?_; (case hd => rfl); (case hg => rfl); (case hr => first | (go_simp; done) | (go_simp; rfl)); intro gb349 hg w16 hbox hb; have n0_ := Aside0.mk (blk_below (zk BK346) hb); have n1_ := Aside0.mk (below_step zB hb); have n2_ := Aside0.mk (hbox); have n3_ := Aside0.mk ((zg : w.heap.size ≤ gb349)); have n4_ := Aside0.mk ((zg : w.heap.size ≤ gb349)); have n5_ := Aside0.mk ((by rw [hg]; exact Nat.ne_of_lt (blk_lt (zk BK346)) : gb346 ≠ gb349)); have n6_ := Aside0.mk ((by rw [hg]; exact Nat.ne_of_gt (blk_lt (zk BK346)) : gb349 ≠ gb346)); clear BK346; clear HB; have BK346 := n0_; have HB := n1_; have BK349 := n2_; have GW349 := n3_; have GE349 := n4_; have NB346_349 := n5_; have NB349_346 := n6_; clear n0_ n1_ n2_ n3_ n4_ n5_ n6_; clear hb hbox hg; have hnb17 := NB349_346.out; have hnc17 := NB346_349.out; obtain ⟨hcz18_0, hcz18_1⟩ := cZ2 BK349; obtain ⟨hfz18_0, hfz18_1⟩ := dZ2 BK349; obtain ⟨hcz19_0, hcz19_1, hcz19_2, hcz19_3⟩ := cZ4 BK346; obtain ⟨hfz19_0, hfz19_1, hfz19_2, hfz19_3⟩ := dZ4 BK346) | ((with_reducible refine gate_callee (f := 31) rfl ?_); refine goesL_ (some 30) rfl rfl Tryz.func31 (by kernel_rfl) rfl #[.agg #[.string (((⟨#[111, 117, 116, 101, 114]⟩ : ByteArray) ++ t347) ++ t348), .int .i64 0], .int .i64 a0_2, .int .i64 x5_2] rfl zM ?_; (with_reducible refine (mosaicref04_Gen_Pick.calls kj2 (((⟨#[111, 117, 116, 101, 114]⟩ : ByteArray) ++ t347) ++ t348) 0 a0_2 x5_2 t350 t351 t352 _ A12.out).mono ?_); rintro e w20 ⟨v353, rfl, ho0, hb⟩; refine ⟨_, rfl, ?_⟩; have HO354 := Aside0.mk (Kd.R_lower ho0 (below_size zB)); replace BK346 := Aside0.mk (blk_below (g := gb346) (o := .cells #[.int .i64 a0_0, .int .i64 a0_1, .int .i64 a0_2, .int .i64 a0_3] 24 (0, 0)) (by (with_reducible repeat (first | refine blk_drewN ?_ _ | refine blk_drew ?_ | refine blk_alloc ?_ _)); refine blk_far ?_ NB346_349.out _; (with_reducible repeat (first | refine blk_drewN ?_ _ | refine blk_drew ?_ | refine blk_alloc ?_ _)); refine blk_far ?_ NB346_349.out _; (with_reducible repeat (first | refine blk_drewN ?_ _ | refine blk_drew ?_ | refine blk_alloc ?_ _)); exact BK346.out) hb); replace BK349 := Aside0.mk (blk_below (g := gb349) (o := .cells #[.string (((⟨#[111, 117, 116, 101, 114]⟩ : ByteArray) ++ t347) ++ t348), .int .i64 0] 56 (0, 0)) (by (with_reducible repeat (first | refine blk_drewN ?_ _ | refine blk_drew ?_ | refine blk_alloc ?_ _)); refine blk_put (cs := #[.string (((⟨#[111, 117, 116, 101, 114]⟩ : ByteArray) ++ t347) ++ t348), .int .i64 0]) ?_ 1 _ rfl; (with_reducible repeat (first | refine blk_drewN ?_ _ | refine blk_drew ?_ | refine blk_alloc ?_ _)); refine blk_put (cs := #[.string (⟨#[]⟩ : ByteArray), .int .i64 0]) ?_ 0 _ rfl; (with_reducible repeat (first | refine blk_drewN ?_ _ | refine blk_drew ?_ | refine blk_alloc ?_ _)); exact BK349.out) hb); replace HB := Aside0.mk (below_step zB hb); (try clear hb); (try clear hb2); (try clear hk); (try clear hi); (try clear ho0)))
     go_loopg [8, 9] kj2 (fun kq v8 v9 w' => ∃ (x8_2 : List Int) (x9_2 : Int), v9 = .int .i64 x9_2 ∧ Aside0 (mosaicref09_Joins.l0 kq t352 x8_2 x9_2 a0_0 a0_1 a0_2 a0_3 = some r) ∧ Aside0 (kq ≤ kj2) ∧ Aside0 (Kd.R (Kd.int .i64) 3 w' w.heap.size (fun k_ => some k_ ≠ (v8 : Value).ownBlock) v353 t352) ∧ Aside0 (Kd.R (Kd.int .i64) 3 w' w.heap.size (fun k_ => some k_ ≠ (v353 : Value).ownBlock) v8 x8_2) ∧ Aside0 (w'.heap[gb346]? = some (.cells #[.int .i64 a0_0, .int .i64 a0_1, .int .i64 a0_2, .int .i64 a0_3] 24 (0, 0))) ∧ Aside0 (w'.heap[gb349]? = some (.cells #[.string (((⟨#[111, 117, 116, 101, 114]⟩ : ByteArray) ++ t347) ++ t348), .int .i64 0] 56 (0, 0))) ∧ Aside0 (Below w.heap.size w w'))
     case atStart => exact ⟨(([] : List Int)), (0), zF, H', ⟨Nat.le_refl _⟩, ⟨by (with_reducible repeat (first | apply Kd.R_alloc | apply Kd.R_drewN | apply Kd.R_drew)); exact Kd.R_mono HO354.out (fun _ hk => (by simp [Value.ownBlock]))⟩, ⟨by first | exact Kd.R_nil _ _ _ _ _ | exact Kd.N_nil _ _ _ _ _ | exact Kd.V_nil _ _ _ _ _ | exact Kd.Q_nil _ _ _ _ _ | exact Kd.S_nil _ _ _ _ _⟩, ⟨zk BK346⟩, ⟨zk BK349⟩, ⟨zB⟩⟩
     case round =>
      clear H'
      obtain ⟨x8_2, x9_2, rfl, HA, HK2, HO_7, HO_8, BK346, BK349, HB⟩ := hrel
      cases gk with
      | zero => exact absurd HA.out (by simp [mosaicref09_Joins.l0])
      | succ k2 =>
       have H := HA.out; clear HA; simp only [mosaicref09_Joins.l0] at H
       by_cases c21 : x9_2 < a0_2
       ·
        rw [if_pos c21] at H
        have c21b0 : decide (x9_2 < a0_2) = true := decide_eq_true c21
        clear c21; replace H := Option.bind_eq_some_iff.mp H
        obtain ⟨t355, A220, H⟩ := H
        replace H : (if t355 = true then (if x8_2.length < 17592186044416 then (mosaicref09_Joins.l0 k2 t352 (x8_2 ++ [x9_2]) (wrap64 (x9_2 + 1)) a0_0 a0_1 a0_2 a0_3) else (none)) else (mosaicref09_Joins.l0 k2 t352 x8_2 (wrap64 (x9_2 + 1)) a0_0 a0_1 a0_2 a0_3)) = some r := H
        have A22 := Aside0.mk A220
        clear A220; by_cases c23 : t355 = true
        ·
         subst c23
         have H1 : (if x8_2.length < 17592186044416 then (mosaicref09_Joins.l0 k2 t352 (x8_2 ++ [x9_2]) (wrap64 (x9_2 + 1)) a0_0 a0_1 a0_2 a0_3) else (none)) = some r := by rw [if_pos rfl] at H; exact H
         clear H; have H := H1; clear H1; by_cases c24 : x8_2.length < 17592186044416
         ·
          rw [if_pos c24] at H
          have LMc24 := Aside0.mk c24
          clear c24; obtain ⟨y356, hy356⟩ : ∃ y_ : List Int, y_ = (x8_2 ++ [x9_2]) := ⟨_, rfl⟩
          replace H : (mosaicref09_Joins.l0 k2 t352 y356 (wrap64 (x9_2 + 1)) a0_0 a0_1 a0_2 a0_3) = some r := by first | (rw [hy356]; with_reducible exact H) | (have H2_ := (Option.bind_some _ _).symm.trans H; rw [hy356]; with_reducible exact H2_) | (have H2_ := (Option.bind_some _ _).symm.trans H; with_reducible exact H2_) | with_reducible exact H | (rw [hy356]; exact H) | exact H
          have Ny356 := Aside0.mk hy356
          clear hy356; have H' := Aside0.mk H
          clear H; have hnb25 := NB346_349.out; have hnc25 := NB349_346.out; obtain ⟨hcz26_0, hcz26_1, hcz26_2, hcz26_3⟩ := cZ4 BK346
          obtain ⟨hfz26_0, hfz26_1, hfz26_2, hfz26_3⟩ := dZ4 BK346; obtain ⟨Ao27, co27, eo27⟩ := Kd.R_slice HO_7.out
          subst eo27
          go_wp2_with (first | ((with_reducible refine gate_callee (f := 32) rfl ?_); refine goesL_ (some 40) rfl rfl Tryz.func32 (by kernel_rfl) rfl #[.slice Ao27 t352.length co27, .int .i64 x9_2] rfl zM ?_; (with_reducible refine (mosaicref09_Has.calls k2 _ _ t352 x9_2 true _ ?side1 ?side2 A22.out).mono ?_); (case side1 => exact zRC HO_7); (case side2 => exact (Kd.R_reads' HO_7.out).2.1); rintro e w' ⟨rfl, ⟨nd, rfl⟩⟩; refine ⟨_, rfl, ?_⟩) | ((with_reducible refine gate_builtin (b := .append) (xs := #[.tmp 41, .tmp 43]) rfl ?_); at_builtin; refine Kd.R_append (Kd.int .i64) (w0 := w) w.heap.size rfl (.tmp 41) (.tmp 43) 26 3 (.int .i64 0) 8 rfl Tryz.underlying26 info3 rfl (by decide) (by omega) u8 x8_2 x9_2 [.int .i64 x9_2] (fun k_ => some k_ ≠ (.slice Ao27 t352.length co27 : Value).ownBlock) (fun _ => False) rfl rfl ?aP (fun _ hk => hk.elim) ?aF ?aO ?aB ?aS ?aL ?_; (case aP => exact rfl); (case aB => exact zB); (case aF => exact (fun k_ hk => Kd.fresh' (Kd.R_lt (by (with_reducible repeat (first | apply Kd.R_alloc | apply Kd.R_drewN | apply Kd.R_drew)); exact HO_7.out)) k_ hk)); (case aO => exact (by (with_reducible repeat (first | apply Kd.R_alloc | apply Kd.R_drewN | apply Kd.R_drew)); exact HO_8.out)); (case aS => exact (below_size zB)); (case aL => have := LMc24.out; omega); intro v357 w28 ho hb hg hat; rw [← Ny356.out] at ho; replace HO_7 := Aside0.mk (Kd.R_after (ok := (fun _ => True)) (by (with_reducible repeat (first | apply Kd.R_alloc | apply Kd.R_drewN | apply Kd.R_drew)); exact Kd.R_mono HO_7.out (fun _ hk => ⟨trivial, hk⟩)) hg hat); replace BK346 := Aside0.mk (blk_grown (zk BK346) hg (Kd.R_ne HO_8.out BK346.out (by decide))); replace BK349 := Aside0.mk (blk_grown (zk BK349) hg (Kd.R_ne HO_8.out BK349.out (by decide))); have HO358 := Aside0.mk (ho); replace HB := Aside0.mk (hb); clear HO_8; clear ho hb hg hat))
          go_roundg k2
          case measure => have := HJ2.out; have := HK2.out; omega
          case rel => exact ⟨(y356), (wrap64 (x9_2 + 1)), zF, H', ⟨by have := HJ2.out; have := HK2.out; omega⟩, ⟨by (with_reducible repeat (first | apply Kd.R_alloc | apply Kd.R_drewN | apply Kd.R_drew)); exact Kd.R_mono HO_7.out (fun _ hk => hk.2)⟩, ⟨zR HO358⟩, ⟨zk BK346⟩, ⟨zk BK349⟩, ⟨zB⟩⟩
         ·
          rw [if_neg c24] at H
          exact absurd H (by simp)
        ·
         replace c23 := Bool.eq_false_iff.mpr c23
         subst c23
         have H1 : (mosaicref09_Joins.l0 k2 t352 x8_2 (wrap64 (x9_2 + 1)) a0_0 a0_1 a0_2 a0_3) = some r := by rw [if_neg (show ¬ (false = true) by decide)] at H; exact H
         clear H; have H := H1; clear H1; have H' := Aside0.mk H
         clear H; have hnb29 := NB346_349.out; have hnc29 := NB349_346.out; obtain ⟨hcz30_0, hcz30_1, hcz30_2, hcz30_3⟩ := cZ4 BK346
         obtain ⟨hfz30_0, hfz30_1, hfz30_2, hfz30_3⟩ := dZ4 BK346; obtain ⟨Ao31, co31, eo31⟩ := Kd.R_slice HO_7.out
         subst eo31
         go_wp2_with (first | ((with_reducible refine gate_callee (f := 32) rfl ?_); refine goesL_ (some 40) rfl rfl Tryz.func32 (by kernel_rfl) rfl #[.slice Ao31 t352.length co31, .int .i64 x9_2] rfl zM ?_; (with_reducible refine (mosaicref09_Has.calls k2 _ _ t352 x9_2 false _ ?side1 ?side2 A22.out).mono ?_); (case side1 => exact zRC HO_7); (case side2 => exact (Kd.R_reads' HO_7.out).2.1); rintro e w' ⟨rfl, ⟨nd, rfl⟩⟩; refine ⟨_, rfl, ?_⟩))
         go_roundg k2
         case measure => have := HJ2.out; have := HK2.out; omega
         case rel => exact ⟨(x8_2), (wrap64 (x9_2 + 1)), zF, H', ⟨by have := HJ2.out; have := HK2.out; omega⟩, ⟨zR HO_7⟩, ⟨zR HO_8⟩, ⟨zk BK346⟩, ⟨zk BK349⟩, ⟨zB⟩⟩
       ·
        rw [if_neg c21] at H
        have c21b0 : decide (x9_2 < a0_2) = false := decide_eq_false c21
        clear c21; obtain rfl := Option.some.inj H
        have hnb32 := NB346_349.out; have hnc32 := NB349_346.out; obtain ⟨hcz33_0, hcz33_1, hcz33_2, hcz33_3⟩ := cZ4 BK346
        obtain ⟨hfz33_0, hfz33_1, hfz33_2, hfz33_3⟩ := dZ4 BK346; go_wp2
        go_ret
        exact ⟨_, zE, by (with_reducible repeat (first | apply Kd.R_alloc | apply Kd.R_drewN | apply Kd.R_drew)); exact Kd.R_mono HO_8.out (fun _ hk => trivial), zB⟩
    ·
     rw [if_neg c11] at H
     exact absurd H (by simp)
   ·
    rw [if_neg c9] at H
    exact absurd H (by simp)
/-! ### mosaicref09_Table: function 34 -/
def mosaicref09_Table.l0 : Nat → List (List Int) → Int → Int → Int → Int → Int → Option ((List (List Int)))
 | 0, _, _, _, _, _, _ => none
 | k + 1, x3, x4, x360000, x360001, x360002, x360003 => if x4 < x360001 then ((mosaicref09_Joins.f k x360000 x360001 x360002 x360003 x4).bind fun t360 => (if x3.length < 5864062014805 then (mosaicref09_Table.l0 k (x3 ++ [t360]) (wrap64 (x4 + 1)) x360000 x360001 x360002 x360003) else (none))) else (some x3)
def mosaicref09_Table.f (k : Nat) (a0_0 : Int) (a0_1 : Int) (a0_2 : Int) (a0_3 : Int) : Option ((List (List Int))) := mosaicref09_Table.l0 k ([] : List (List Int)) 0 a0_0 a0_1 a0_2 a0_3
theorem mosaicref09_Table.mono_l : ∀ k, (∀ y0 y1 y2 y3 y4 y5, LeO (mosaicref09_Table.l0 k y0 y1 y2 y3 y4 y5) (mosaicref09_Table.l0 (k + 1) y0 y1 y2 y3 y4 y5))
 | 0 => fun _ _ _ _ _ _ r h => by simp [mosaicref09_Table.l0] at h
 | k + 1 => by
  have ih0 := mosaicref09_Table.mono_l k
  ·
   intro y0 y1 y2 y3 y4 y5
   unfold mosaicref09_Table.l0
   repeat' first | (with_reducible first | apply ih0 | apply mosaicref09_Joins.mono | exact LeO.refl _ | exact LeO.none _ | refine LeO.ite ?_ ?_ | refine LeO.bind ?_ (fun _ => ?_)) | apply ih0 | apply mosaicref09_Joins.mono | exact LeO.none _ | refine LeO.ite ?_ ?_ | refine LeO.bind ?_ (fun _ => ?_)
theorem mosaicref09_Table.mono : ∀ a0 a1 a2 a3 k, LeO (mosaicref09_Table.f k a0 a1 a2 a3) (mosaicref09_Table.f (k + 1) a0 a1 a2 a3) := by
 intro a0 a1 a2 a3 k
 have ih0 := mosaicref09_Table.mono_l k
 unfold mosaicref09_Table.f
 repeat' first | (with_reducible first | apply ih0 | apply mosaicref09_Joins.mono | exact LeO.refl _ | exact LeO.none _ | refine LeO.ite ?_ ?_ | refine LeO.bind ?_ (fun _ => ?_)) | apply ih0 | apply mosaicref09_Joins.mono | exact LeO.none _ | refine LeO.ite ?_ ?_ | refine LeO.bind ?_ (fun _ => ?_)
set_option maxHeartbeats 8000000 in
set_option maxRecDepth 100000 in
theorem mosaicref09_Table.calls (k : Nat) (a0_0 : Int) (a0_1 : Int) (a0_2 : Int) (a0_3 : Int) (r : List (List Int)) (w : World) (h : mosaicref09_Table.f k a0_0 a0_1 a0_2 a0_3 = some r) :
  Calls Tryz.prog 34 #[.agg #[.int .i64 a0_0, .int .i64 a0_1, .int .i64 a0_2, .int .i64 a0_3]] w fun e w' => ∃ v0_ : Value, e = .returned (v0_) ∧ Kd.S (Kd.slice 3 (Kd.int .i64)) 26 w' w.heap.size (fun _ => True) v0_ r ∧ Below w.heap.size w w' := by
 have hu24 := Tryz.underlying24; have HB := Aside0.mk (Below.refl w.heap.size w)
 have H : (mosaicref09_Table.l0 k ([] : List (List Int)) 0 a0_0 a0_1 a0_2 a0_3) = some r := h
 clear h; have H' := Aside0.mk H
 clear H; go_enter Tryz.func34, Tryz.ntmps34
 go_wp2_with (first | ((with_reducible refine gate_dst (N := 1) rfl ?_); refine box_event ?hg (N := 1) ?hd (cs := #[.int .i64 a0_0, .int .i64 a0_1, .int .i64 a0_2, .int .i64 a0_3]) (t := 24) ?hr ?_; (case hd => rfl); (case hg => rfl); (case hr => first | (go_simp; done) | (go_simp; rfl)); intro gb359 hg w2 hbox hb; have BK359 := Aside0.mk (hbox); have GW359 := Aside0.mk ((zg : w.heap.size ≤ gb359)); have GE359 := Aside0.mk ((zg : w.heap.size ≤ gb359)); replace HB := Aside0.mk (below_step zB hb); clear hb hbox hg))
 go_loopg [3, 4] k (fun kq v3 v4 w' => ∃ (x3_1 : List (List Int)) (x4_1 : Int), v4 = .int .i64 x4_1 ∧ Aside0 (mosaicref09_Table.l0 kq x3_1 x4_1 a0_0 a0_1 a0_2 a0_3 = some r) ∧ Aside0 (kq ≤ k) ∧ Aside0 (Kd.S (Kd.slice 3 (Kd.int .i64)) 26 w' w.heap.size (fun _ => True) v3 x3_1) ∧ Aside0 (w'.heap[gb359]? = some (.cells #[.int .i64 a0_0, .int .i64 a0_1, .int .i64 a0_2, .int .i64 a0_3] 24 (0, 0))) ∧ Aside0 (Below w.heap.size w w'))
 case atStart => exact ⟨(([] : List (List Int))), (0), zF, H', ⟨Nat.le_refl _⟩, ⟨by first | exact Kd.S_nil _ _ _ _ _ | exact Kd.N_nil _ _ _ _ _ | exact Kd.V_nil _ _ _ _ _ | exact Kd.Q_nil _ _ _ _ _ | exact Kd.R_nil _ _ _ _ _⟩, ⟨zk BK359⟩, ⟨zB⟩⟩
 case round =>
  clear H'
  obtain ⟨x3_1, x4_1, rfl, HA, HK1, HO_3, BK359, HB⟩ := hrel
  cases gk with
  | zero => exact absurd HA.out (by simp [mosaicref09_Table.l0])
  | succ k1 =>
   have H := HA.out; clear HA; simp only [mosaicref09_Table.l0] at H
   by_cases c3 : x4_1 < a0_1
   ·
    rw [if_pos c3] at H
    have c3b0 : decide (x4_1 < a0_1) = true := decide_eq_true c3
    clear c3; replace H := Option.bind_eq_some_iff.mp H
    obtain ⟨t360, A40, H⟩ := H
    replace H : (if x3_1.length < 5864062014805 then (mosaicref09_Table.l0 k1 (x3_1 ++ [t360]) (wrap64 (x4_1 + 1)) a0_0 a0_1 a0_2 a0_3) else (none)) = some r := H
    have A4 := Aside0.mk A40
    clear A40; by_cases c5 : x3_1.length < 5864062014805
    ·
     rw [if_pos c5] at H
     have LMc5 := Aside0.mk c5
     clear c5; obtain ⟨y363, hy363⟩ : ∃ y_ : List (List Int), y_ = (x3_1 ++ [t360]) := ⟨_, rfl⟩
     replace H : (mosaicref09_Table.l0 k1 y363 (wrap64 (x4_1 + 1)) a0_0 a0_1 a0_2 a0_3) = some r := by first | (rw [hy363]; with_reducible exact H) | (have H2_ := (Option.bind_some _ _).symm.trans H; rw [hy363]; with_reducible exact H2_) | (have H2_ := (Option.bind_some _ _).symm.trans H; with_reducible exact H2_) | with_reducible exact H | (rw [hy363]; exact H) | exact H
     have Ny363 := Aside0.mk hy363
     clear hy363; have H' := Aside0.mk H
     clear H; obtain ⟨hcz6_0, hcz6_1, hcz6_2, hcz6_3⟩ := cZ4 BK359
     obtain ⟨hfz6_0, hfz6_1, hfz6_2, hfz6_3⟩ := dZ4 BK359; go_wp2_with (first | ((with_reducible refine gate_callee (f := 14) rfl ?_); refine goesL_ (some 14) rfl rfl Tryz.func14 (by kernel_rfl) rfl #[.agg #[.int .i64 a0_0, .int .i64 a0_1, .int .i64 a0_2, .int .i64 a0_3], .int .i64 x4_1] rfl zM ?_; (with_reducible refine (mosaicref09_Joins.calls k1 a0_0 a0_1 a0_2 a0_3 x4_1 t360 _ A4.out).mono ?_); rintro e w7 ⟨v361, rfl, ho0, hb⟩; refine ⟨_, rfl, ?_⟩; replace HO_3 := Aside0.mk (Kd.S_elder' (by (with_reducible repeat (first | apply Kd.S_alloc | apply Kd.S_drewN | apply Kd.S_drew)); exact HO_3.out) (Kd.R_base ho0) hb); have HO362 := Aside0.mk (Kd.R_lower ho0 (below_size zB)); replace BK359 := Aside0.mk (blk_below (zk BK359) hb); replace HB := Aside0.mk (below_step zB hb); (try clear hb); (try clear hb2); (try clear hk); (try clear hi); (try clear ho0); obtain ⟨Ao9, co9, eo9⟩ := Kd.R_slice HO362.out; subst eo9) | ((with_reducible refine gate_builtin (b := .append) (xs := #[.tmp 11, .tmp 15]) rfl ?_); at_builtin; refine Kd.S_append (Kd.slice 3 (Kd.int .i64)) (w0 := w) w.heap.size rfl (.tmp 11) (.tmp 15) 30 26 (.slice none 0 0) 24 rfl Tryz.underlying30 info26 rfl (by decide) (by omega) u3 x3_1 t360 [.slice Ao9 t360.length co9] (fun _ => True) (fun k_ => some k_ = (.slice Ao9 t360.length co9 : Value).ownBlock) rfl rfl ?aP (fun k_ hk_ => ((Kd.R_mono (ok' := fun k_ => ((fun _ => True)) k_ ∧ some k_ ≠ (u3 : Value).ownBlock) (Kd.R_apart' (HO362.out) (Kd.S_typed HO_3.out) (by decide)) (fun k_ hk => ⟨trivial, hk.2⟩))).1 k_ hk_.symm) ?aF ?aO ?aB ?aS ?aL ?_; (case aP => exact Kd.M_row (Kd.R_mono (Kd.R_tight rfl (Kd.R_mono (ok' := fun k_ => ((fun _ => True)) k_ ∧ some k_ ≠ (u3 : Value).ownBlock) (Kd.R_apart' (HO362.out) (Kd.S_typed HO_3.out) (by decide)) (fun k_ hk => ⟨trivial, hk.2⟩))) (fun _ h_ => h_))); (case aB => exact zB); (case aF => exact (fun _ _ => trivial)); (case aO => exact (by (with_reducible repeat (first | apply Kd.S_alloc | apply Kd.S_drewN | apply Kd.S_drew)); exact Kd.S_mono HO_3.out (fun k_ hk => ⟨trivial, fun e_ => hk.2 e_⟩))); (case aS => exact (below_size zB)); (case aL => have := LMc5.out; omega); intro v364 w8 ho hb hg hat; rw [← Ny363.out] at ho; replace BK359 := Aside0.mk (blk_grown (zk BK359) hg (Kd.S_ne HO_3.out BK359.out (by decide))); have HO365 := Aside0.mk (ho); replace HB := Aside0.mk (hb); clear HO_3 HO362; clear ho hb hg hat))
     go_roundg k1
     case measure => have := HK1.out; omega
     case rel => exact ⟨(y363), (wrap64 (x4_1 + 1)), zF, H', ⟨by have := HK1.out; omega⟩, ⟨zS HO365⟩, ⟨zk BK359⟩, ⟨zB⟩⟩
    ·
     rw [if_neg c5] at H
     exact absurd H (by simp)
   ·
    rw [if_neg c3] at H
    have c3b0 : decide (x4_1 < a0_1) = false := decide_eq_false c3
    clear c3; obtain rfl := Option.some.inj H
    obtain ⟨hcz10_0, hcz10_1, hcz10_2, hcz10_3⟩ := cZ4 BK359
    obtain ⟨hfz10_0, hfz10_1, hfz10_2, hfz10_3⟩ := dZ4 BK359; go_wp2
    go_ret
    exact ⟨_, zE, by (with_reducible repeat (first | apply Kd.S_alloc | apply Kd.S_drewN | apply Kd.S_drew)); exact HO_3.out, zB⟩
/-! ### mosaicref09_Rules: function 17 -/
def mosaicref09_Rules.l0 : Nat → List (List Int) → List (List Int) → Int → Int → Int → Int → Int → Option ((List (List Int)))
 | 0, _, _, _, _, _, _, _ => none
 | k + 1, x3, x4, x5, x367000, x367001, x367002, x367003 => if x5 < x367002 then ((mosaicref09_members.f k x3 x5).bind fun t370 => (if t370.length < 17592186044416 then (if x4.length < 5864062014805 then (mosaicref09_Rules.l0 k x3 (x4 ++ [(t370 ++ [wrap64 (x367001 + x5)])]) (wrap64 (x5 + 1)) x367000 x367001 x367002 x367003) else (none)) else (none))) else (some x4)
def mosaicref09_Rules.f (k : Nat) (a0_0 : Int) (a0_1 : Int) (a0_2 : Int) (a0_3 : Int) : Option ((List (List Int))) := (mosaicref09_Table.f k a0_0 a0_1 a0_2 a0_3).bind fun t367 => (mosaicref09_Rules.l0 k t367 ([] : List (List Int)) 0 a0_0 a0_1 a0_2 a0_3)
theorem mosaicref09_Rules.mono_l : ∀ k, (∀ y0 y1 y2 y3 y4 y5 y6, LeO (mosaicref09_Rules.l0 k y0 y1 y2 y3 y4 y5 y6) (mosaicref09_Rules.l0 (k + 1) y0 y1 y2 y3 y4 y5 y6))
 | 0 => fun _ _ _ _ _ _ _ r h => by simp [mosaicref09_Rules.l0] at h
 | k + 1 => by
  have ih0 := mosaicref09_Rules.mono_l k
  ·
   intro y0 y1 y2 y3 y4 y5 y6
   unfold mosaicref09_Rules.l0
   repeat' first | (with_reducible first | apply ih0 | apply mosaicref09_Table.mono | apply mosaicref09_members.mono | exact LeO.refl _ | exact LeO.none _ | refine LeO.ite ?_ ?_ | refine LeO.bind ?_ (fun _ => ?_)) | apply ih0 | apply mosaicref09_Table.mono | apply mosaicref09_members.mono | exact LeO.none _ | refine LeO.ite ?_ ?_ | refine LeO.bind ?_ (fun _ => ?_)
theorem mosaicref09_Rules.mono : ∀ a0 a1 a2 a3 k, LeO (mosaicref09_Rules.f k a0 a1 a2 a3) (mosaicref09_Rules.f (k + 1) a0 a1 a2 a3) := by
 intro a0 a1 a2 a3 k
 have ih0 := mosaicref09_Rules.mono_l k
 unfold mosaicref09_Rules.f
 repeat' first | (with_reducible first | apply ih0 | apply mosaicref09_Table.mono | apply mosaicref09_members.mono | exact LeO.refl _ | exact LeO.none _ | refine LeO.ite ?_ ?_ | refine LeO.bind ?_ (fun _ => ?_)) | apply ih0 | apply mosaicref09_Table.mono | apply mosaicref09_members.mono | exact LeO.none _ | refine LeO.ite ?_ ?_ | refine LeO.bind ?_ (fun _ => ?_)
set_option maxHeartbeats 8000000 in
set_option maxRecDepth 100000 in
theorem mosaicref09_Rules.calls (k : Nat) (a0_0 : Int) (a0_1 : Int) (a0_2 : Int) (a0_3 : Int) (r : List (List Int)) (w : World) (h : mosaicref09_Rules.f k a0_0 a0_1 a0_2 a0_3 = some r) :
  Calls Tryz.prog 17 #[.agg #[.int .i64 a0_0, .int .i64 a0_1, .int .i64 a0_2, .int .i64 a0_3]] w fun e w' => ∃ v0_ : Value, e = .returned (v0_) ∧ Kd.S (Kd.slice 3 (Kd.int .i64)) 26 w' w.heap.size (fun _ => True) v0_ r ∧ Below w.heap.size w w' := by
 have hu24 := Tryz.underlying24; have HB := Aside0.mk (Below.refl w.heap.size w)
 have H : ((mosaicref09_Table.f k a0_0 a0_1 a0_2 a0_3).bind fun t367 => (mosaicref09_Rules.l0 k t367 ([] : List (List Int)) 0 a0_0 a0_1 a0_2 a0_3)) = some r := h
 clear h; replace H := Option.bind_eq_some_iff.mp H
 obtain ⟨t367, A20, H⟩ := H
 replace H : (mosaicref09_Rules.l0 k t367 ([] : List (List Int)) 0 a0_0 a0_1 a0_2 a0_3) = some r := H
 have A2 := Aside0.mk A20
 clear A20; have H' := Aside0.mk H
 clear H; go_enter Tryz.func17, Tryz.ntmps17
 go_wp2_with (first | ((with_reducible refine gate_dst (N := 1) rfl ?_); refine box_event ?hg (N := 1) ?hd (cs := #[.int .i64 a0_0, .int .i64 a0_1, .int .i64 a0_2, .int .i64 a0_3]) (t := 24) ?hr ?_; (case hd => rfl); (case hg => rfl); (case hr => first | (go_simp; done) | (go_simp; rfl)); intro gb366 hg w3 hbox hb; have BK366 := Aside0.mk (hbox); have GW366 := Aside0.mk ((zg : w.heap.size ≤ gb366)); have GE366 := Aside0.mk ((zg : w.heap.size ≤ gb366)); replace HB := Aside0.mk (below_step zB hb); clear hb hbox hg; obtain ⟨hcz4_0, hcz4_1, hcz4_2, hcz4_3⟩ := cZ4 BK366; obtain ⟨hfz4_0, hfz4_1, hfz4_2, hfz4_3⟩ := dZ4 BK366) | ((with_reducible refine gate_callee (f := 34) rfl ?_); refine goesL_ (some 8) rfl rfl Tryz.func34 (by kernel_rfl) rfl #[.agg #[.int .i64 a0_0, .int .i64 a0_1, .int .i64 a0_2, .int .i64 a0_3]] rfl zM ?_; (with_reducible refine (mosaicref09_Table.calls k a0_0 a0_1 a0_2 a0_3 t367 _ A2.out).mono ?_); rintro e w5 ⟨v368, rfl, ho0, hb⟩; refine ⟨_, rfl, ?_⟩; have HO369 := Aside0.mk (Kd.S_lower ho0 (below_size zB)); replace BK366 := Aside0.mk (blk_below (zk BK366) hb); replace HB := Aside0.mk (below_step zB hb); (try clear hb); (try clear hb2); (try clear hk); (try clear hi); (try clear ho0)))
 go_loopg [4, 5] k (fun kq v4 v5 w' => ∃ (x4_1 : List (List Int)) (x5_1 : Int), v5 = .int .i64 x5_1 ∧ Aside0 (mosaicref09_Rules.l0 kq t367 x4_1 x5_1 a0_0 a0_1 a0_2 a0_3 = some r) ∧ Aside0 (kq ≤ k) ∧ Aside0 (Kd.S (Kd.slice 3 (Kd.int .i64)) 26 w' w.heap.size (fun k_ => some k_ ≠ (v4 : Value).ownBlock) v368 t367) ∧ Aside0 (Kd.S (Kd.slice 3 (Kd.int .i64)) 26 w' w.heap.size (fun k_ => some k_ ≠ (v368 : Value).ownBlock) v4 x4_1) ∧ Aside0 (w'.heap[gb366]? = some (.cells #[.int .i64 a0_0, .int .i64 a0_1, .int .i64 a0_2, .int .i64 a0_3] 24 (0, 0))) ∧ Aside0 (Below w.heap.size w w'))
 case atStart => exact ⟨(([] : List (List Int))), (0), zF, H', ⟨Nat.le_refl _⟩, ⟨by (with_reducible repeat (first | apply Kd.S_alloc | apply Kd.S_drewN | apply Kd.S_drew)); exact Kd.S_mono HO369.out (fun _ hk => (by simp [Value.ownBlock]))⟩, ⟨by first | exact Kd.S_nil _ _ _ _ _ | exact Kd.N_nil _ _ _ _ _ | exact Kd.V_nil _ _ _ _ _ | exact Kd.Q_nil _ _ _ _ _ | exact Kd.R_nil _ _ _ _ _⟩, ⟨zk BK366⟩, ⟨zB⟩⟩
 case round =>
  clear H'
  obtain ⟨x4_1, x5_1, rfl, HA, HK1, HO_3, HO_4, BK366, HB⟩ := hrel
  cases gk with
  | zero => exact absurd HA.out (by simp [mosaicref09_Rules.l0])
  | succ k1 =>
   have H := HA.out; clear HA; simp only [mosaicref09_Rules.l0] at H
   by_cases c6 : x5_1 < a0_2
   ·
    rw [if_pos c6] at H
    have c6b0 : decide (x5_1 < a0_2) = true := decide_eq_true c6
    clear c6; replace H := Option.bind_eq_some_iff.mp H
    obtain ⟨t370, A70, H⟩ := H
    replace H : (if t370.length < 17592186044416 then (if x4_1.length < 5864062014805 then (mosaicref09_Rules.l0 k1 t367 (x4_1 ++ [(t370 ++ [wrap64 (a0_1 + x5_1)])]) (wrap64 (x5_1 + 1)) a0_0 a0_1 a0_2 a0_3) else (none)) else (none)) = some r := H
    have A7 := Aside0.mk A70
    clear A70; by_cases c8 : t370.length < 17592186044416
    ·
     rw [if_pos c8] at H
     have LMc8 := Aside0.mk c8
     clear c8; obtain ⟨y373, hy373⟩ : ∃ y_ : List Int, y_ = (t370 ++ [wrap64 (a0_1 + x5_1)]) := ⟨_, rfl⟩
     replace H : (if x4_1.length < 5864062014805 then (mosaicref09_Rules.l0 k1 t367 (x4_1 ++ [y373]) (wrap64 (x5_1 + 1)) a0_0 a0_1 a0_2 a0_3) else (none)) = some r := by first | (rw [hy373]; with_reducible exact H) | (have H2_ := (Option.bind_some _ _).symm.trans H; rw [hy373]; with_reducible exact H2_) | (have H2_ := (Option.bind_some _ _).symm.trans H; with_reducible exact H2_) | with_reducible exact H | (rw [hy373]; exact H) | exact H
     have Ny373 := Aside0.mk hy373
     clear hy373; by_cases c9 : x4_1.length < 5864062014805
     ·
      rw [if_pos c9] at H
      have LMc9 := Aside0.mk c9
      clear c9; obtain ⟨y376, hy376⟩ : ∃ y_ : List (List Int), y_ = (x4_1 ++ [y373]) := ⟨_, rfl⟩
      replace H : (mosaicref09_Rules.l0 k1 t367 y376 (wrap64 (x5_1 + 1)) a0_0 a0_1 a0_2 a0_3) = some r := by first | (rw [hy376]; with_reducible exact H) | (have H2_ := (Option.bind_some _ _).symm.trans H; rw [hy376]; with_reducible exact H2_) | (have H2_ := (Option.bind_some _ _).symm.trans H; with_reducible exact H2_) | with_reducible exact H | (rw [hy376]; exact H) | exact H
      have Ny376 := Aside0.mk hy376
      clear hy376; have H' := Aside0.mk H
      clear H; obtain ⟨hcz10_0, hcz10_1, hcz10_2, hcz10_3⟩ := cZ4 BK366
      obtain ⟨hfz10_0, hfz10_1, hfz10_2, hfz10_3⟩ := dZ4 BK366; obtain ⟨Ao11, co11, eo11⟩ := Kd.S_slice HO_3.out
      subst eo11
      go_wp2_with (first | ((with_reducible refine gate_callee (f := 33) rfl ?_); refine goesL_ (some 17) rfl rfl Tryz.func33 (by kernel_rfl) rfl #[.slice Ao11 t367.length co11, .int .i64 x5_1] rfl zM ?_; (with_reducible refine (mosaicref09_members.calls k1 _ _ t367 x5_1 t370 _ ?side1 ?side2 A7.out).mono ?_); (case side1 => exact zSC HO_3); (case side2 => exact (Kd.S_reads' HO_3.out).2.1); rintro e w12 ⟨v371, rfl, ho0, hb⟩; refine ⟨_, rfl, ?_⟩; replace HO_3 := Aside0.mk (Kd.S_elder' (by (with_reducible repeat (first | apply Kd.S_alloc | apply Kd.S_drewN | apply Kd.S_drew)); exact HO_3.out) (Kd.R_base ho0) hb); replace HO_4 := Aside0.mk (Kd.S_elder' (by (with_reducible repeat (first | apply Kd.S_alloc | apply Kd.S_drewN | apply Kd.S_drew)); exact HO_4.out) (Kd.R_base ho0) hb); have HO372 := Aside0.mk (Kd.R_lower ho0 (below_size zB)); replace BK366 := Aside0.mk (blk_below (zk BK366) hb); replace HB := Aside0.mk (below_step zB hb); (try clear hb); (try clear hb2); (try clear hk); (try clear hi); (try clear ho0); obtain ⟨hcz13_0, hcz13_1, hcz13_2, hcz13_3⟩ := cZ4 BK366; obtain ⟨hfz13_0, hfz13_1, hfz13_2, hfz13_3⟩ := dZ4 BK366) | ((with_reducible refine gate_builtin (b := .append) (xs := #[.tmp 18, .tmp 23]) rfl ?_); at_builtin; refine Kd.R_append (Kd.int .i64) (w0 := w) w.heap.size rfl (.tmp 18) (.tmp 23) 26 3 (.int .i64 0) 8 rfl Tryz.underlying26 info3 rfl (by decide) (by omega) v371 t370 (wrap64 (a0_1 + x5_1)) [.int .i64 (wrap64 (a0_1 + x5_1))] (fun _ => True) (fun _ => False) rfl rfl ?aP (fun _ hk => hk.elim) ?aF ?aO ?aB ?aS ?aL ?_; (case aP => exact rfl); (case aB => exact zB); (case aF => exact (fun _ _ => trivial)); (case aO => exact (by (with_reducible repeat (first | apply Kd.R_alloc | apply Kd.R_drewN | apply Kd.R_drew)); exact HO372.out)); (case aS => exact (below_size zB)); (case aL => have := LMc8.out; omega); intro v374 w14 ho hb hg hat; rw [← Ny373.out] at ho; replace HO_3 := Aside0.mk (Kd.S_after (ok := (fun k_ => some k_ ≠ (u4 : Value).ownBlock)) (by (with_reducible repeat (first | apply Kd.S_alloc | apply Kd.S_drewN | apply Kd.S_drew)); exact HO_3.out) hg hat); replace HO_4 := Aside0.mk (Kd.S_after (ok := (fun k_ => some k_ ≠ (.slice Ao11 t367.length co11 : Value).ownBlock)) (by (with_reducible repeat (first | apply Kd.S_alloc | apply Kd.S_drewN | apply Kd.S_drew)); exact HO_4.out) hg hat); replace BK366 := Aside0.mk (blk_grown (zk BK366) hg (Kd.R_ne HO372.out BK366.out (by decide))); have HO375 := Aside0.mk (ho); replace HB := Aside0.mk (hb); clear HO372; clear ho hb hg hat; obtain ⟨Ao16, co16, eo16⟩ := Kd.R_slice HO375.out; subst eo16) | ((with_reducible refine gate_builtin (b := .append) (xs := #[.tmp 25, .tmp 27]) rfl ?_); at_builtin; refine Kd.S_append (Kd.slice 3 (Kd.int .i64)) (w0 := w) w.heap.size rfl (.tmp 25) (.tmp 27) 30 26 (.slice none 0 0) 24 rfl Tryz.underlying30 info26 rfl (by decide) (by omega) u4 x4_1 y373 [.slice Ao16 y373.length co16] (fun k_ => some k_ ≠ (.slice Ao11 t367.length co11 : Value).ownBlock) (fun k_ => some k_ = (.slice Ao16 y373.length co16 : Value).ownBlock) rfl rfl ?aP (fun k_ hk_ => ((Kd.R_mono (ok' := fun k_ => ((fun k_ => some k_ ≠ (.slice Ao11 t367.length co11 : Value).ownBlock)) k_ ∧ some k_ ≠ (u4 : Value).ownBlock) (Kd.R_apart' (Kd.R_apart' (HO375.out) (Kd.S_typed HO_3.out) (by decide)) (Kd.S_typed HO_4.out) (by decide)) (fun k_ hk => ⟨hk.1.2, hk.2⟩))).1 k_ hk_.symm) ?aF ?aO ?aB ?aS ?aL ?_; (case aP => exact Kd.M_row (Kd.R_mono (Kd.R_tight rfl (Kd.R_mono (ok' := fun k_ => ((fun k_ => some k_ ≠ (.slice Ao11 t367.length co11 : Value).ownBlock)) k_ ∧ some k_ ≠ (u4 : Value).ownBlock) (Kd.R_apart' (Kd.R_apart' (HO375.out) (Kd.S_typed HO_3.out) (by decide)) (Kd.S_typed HO_4.out) (by decide)) (fun k_ hk => ⟨hk.1.2, hk.2⟩))) (fun _ h_ => h_))); (case aB => exact zB); (case aF => exact (fun k_ hk => Kd.fresh' (Kd.S_lt (by (with_reducible repeat (first | apply Kd.S_alloc | apply Kd.S_drewN | apply Kd.S_drew)); exact HO_3.out)) k_ hk)); (case aO => exact (by (with_reducible repeat (first | apply Kd.S_alloc | apply Kd.S_drewN | apply Kd.S_drew)); exact Kd.S_mono HO_4.out (fun k_ hk => ⟨hk.1, fun e_ => hk.2 e_⟩))); (case aS => exact (below_size zB)); (case aL => have := LMc9.out; omega); intro v377 w15 ho hb hg hat; rw [← Ny376.out] at ho; replace HO_3 := Aside0.mk (Kd.S_after (ok := (fun k_ => some k_ ≠ (.slice Ao16 y373.length co16 : Value).ownBlock)) (by (with_reducible repeat (first | apply Kd.S_alloc | apply Kd.S_drewN | apply Kd.S_drew)); exact Kd.S_mono HO_3.out (fun _ hk => ⟨hk.2, hk.1⟩)) hg hat); replace BK366 := Aside0.mk (blk_grown (zk BK366) hg (Kd.S_ne HO_4.out BK366.out (by decide))); have HO378 := Aside0.mk (ho); replace HB := Aside0.mk (hb); clear HO_4 HO375; clear ho hb hg hat))
      go_roundg k1
      case measure => have := HK1.out; omega
      case rel => exact ⟨(y376), (wrap64 (x5_1 + 1)), zF, H', ⟨by have := HK1.out; omega⟩, ⟨by (with_reducible repeat (first | apply Kd.S_alloc | apply Kd.S_drewN | apply Kd.S_drew)); exact Kd.S_mono HO_3.out (fun _ hk => hk.2)⟩, ⟨zS HO378⟩, ⟨zk BK366⟩, ⟨zB⟩⟩
     ·
      rw [if_neg c9] at H
      exact absurd H (by simp)
    ·
     rw [if_neg c8] at H
     exact absurd H (by simp)
   ·
    rw [if_neg c6] at H
    have c6b0 : decide (x5_1 < a0_2) = false := decide_eq_false c6
    clear c6; obtain rfl := Option.some.inj H
    obtain ⟨hcz17_0, hcz17_1, hcz17_2, hcz17_3⟩ := cZ4 BK366
    obtain ⟨hfz17_0, hfz17_1, hfz17_2, hfz17_3⟩ := dZ4 BK366; go_wp2
    go_ret
    exact ⟨_, zE, by (with_reducible repeat (first | apply Kd.S_alloc | apply Kd.S_drewN | apply Kd.S_drew)); exact Kd.S_mono HO_4.out (fun _ hk => trivial), zB⟩
/-! ### mosaicref07_May: function 60 -/
def mosaicref07_May.f (a0 : Int) : Option (Bool) := if a0 ≥ 1 then (some (decide (a0 ≤ 64))) else (some false)
set_option maxHeartbeats 8000000 in
set_option maxRecDepth 100000 in
theorem mosaicref07_May.calls (a0 : Int) (r : Bool) (w : World) (h : mosaicref07_May.f a0 = some r) :
  Calls Tryz.prog 60 #[.int .i64 a0] w fun e w' => e = .returned (.bool r) ∧ Drawn0 w w' := by
 have H : (if a0 ≥ 1 then (some (decide (a0 ≤ 64))) else (some false)) = some r := h
 clear h; by_cases c2 : a0 ≥ 1
 ·
  rw [if_pos c2] at H
  have c2b0 : decide (1 ≤ a0) = true := decide_eq_true c2
  clear c2; obtain rfl := Option.some.inj H
  go_enter Tryz.func60, Tryz.ntmps60
  go_wp2
  go_ret
  exact ⟨by first | rfl | (simp; done) | (simp [*]; done), by repeat (first | exact Drawn0.refl _ | apply Drawn0.step)⟩
 ·
  rw [if_neg c2] at H
  have c2b0 : decide (1 ≤ a0) = false := decide_eq_false c2
  clear c2; obtain rfl := Option.some.inj H
  go_enter Tryz.func60, Tryz.ntmps60
  go_wp2
  go_ret
  exact ⟨by first | rfl | (simp; done) | (simp [*]; done), by repeat (first | exact Drawn0.refl _ | apply Drawn0.step)⟩
/-! ### mosaicref07_Zero: function 43 -/
def mosaicref07_Zero.l0 : Nat → Int → List Int → Int → Option (ByteArray)
 | 0, _, _, _ => none
 | k + 1, x0, x3, x4 => if x4 < x0 then ((mosaicref07_May.f x0).bind fun t379 => (if t379 = true then (if x3.length < 140737488355328 then (mosaicref07_Zero.l0 k x0 (x3 ++ [0]) (wrap64 (x4 + 1))) else (none)) else (some (strOfNums x3)))) else (some (strOfNums x3))
def mosaicref07_Zero.f (k : Nat) (a0 : Int) : Option (ByteArray) := mosaicref07_Zero.l0 k a0 ([] : List Int) 0
theorem mosaicref07_Zero.mono_l : ∀ k, (∀ y0 y1 y2, LeO (mosaicref07_Zero.l0 k y0 y1 y2) (mosaicref07_Zero.l0 (k + 1) y0 y1 y2))
 | 0 => fun _ _ _ r h => by simp [mosaicref07_Zero.l0] at h
 | k + 1 => by
  have ih0 := mosaicref07_Zero.mono_l k
  ·
   intro y0 y1 y2
   unfold mosaicref07_Zero.l0
   repeat' first | (with_reducible first | apply ih0 | exact LeO.refl _ | exact LeO.none _ | refine LeO.ite ?_ ?_ | refine LeO.bind ?_ (fun _ => ?_)) | apply ih0 | exact LeO.none _ | refine LeO.ite ?_ ?_ | refine LeO.bind ?_ (fun _ => ?_)
theorem mosaicref07_Zero.mono : ∀ a0 k, LeO (mosaicref07_Zero.f k a0) (mosaicref07_Zero.f (k + 1) a0) := by
 intro a0 k
 have ih0 := mosaicref07_Zero.mono_l k
 unfold mosaicref07_Zero.f
 repeat' first | (with_reducible first | apply ih0 | exact LeO.refl _ | exact LeO.none _ | refine LeO.ite ?_ ?_ | refine LeO.bind ?_ (fun _ => ?_)) | apply ih0 | exact LeO.none _ | refine LeO.ite ?_ ?_ | refine LeO.bind ?_ (fun _ => ?_)
set_option maxHeartbeats 8000000 in
set_option maxRecDepth 100000 in
theorem mosaicref07_Zero.calls (k : Nat) (a0 : Int) (r : ByteArray) (w : World) (h : mosaicref07_Zero.f k a0 = some r) :
  Calls Tryz.prog 43 #[.int .i64 a0] w fun e w' => e = .returned (.string r) ∧ Below w.heap.size w w' := by
 have HB := Aside0.mk (Below.refl w.heap.size w)
 have H : (mosaicref07_Zero.l0 k a0 ([] : List Int) 0) = some r := h
 clear h; have H' := Aside0.mk H
 clear H; go_enter Tryz.func43, Tryz.ntmps43
 go_wp2
 go_loopg [3, 4] k (fun kq v3 v4 w' => ∃ (x3_1 : List Int) (x4_1 : Int), v4 = .int .i64 x4_1 ∧ Aside0 (mosaicref07_Zero.l0 kq a0 x3_1 x4_1 = some r) ∧ Aside0 (kq ≤ k) ∧ Aside0 (Kd.R (Kd.int .u8) 5 w' w.heap.size (fun _ => True) v3 x3_1) ∧ Aside0 (Below w.heap.size w w'))
 case atStart => exact ⟨(([] : List Int)), (0), zF, H', ⟨Nat.le_refl _⟩, ⟨by first | exact Kd.R_nil _ _ _ _ _ | exact Kd.N_nil _ _ _ _ _ | exact Kd.V_nil _ _ _ _ _ | exact Kd.Q_nil _ _ _ _ _ | exact Kd.S_nil _ _ _ _ _⟩, ⟨zB⟩⟩
 case round =>
  clear H'
  obtain ⟨x3_1, x4_1, rfl, HA, HK1, HO_3, HB⟩ := hrel
  cases gk with
  | zero => exact absurd HA.out (by simp [mosaicref07_Zero.l0])
  | succ k1 =>
   have H := HA.out; clear HA; simp only [mosaicref07_Zero.l0] at H
   by_cases c2 : x4_1 < a0
   ·
    rw [if_pos c2] at H
    have c2b0 : decide (x4_1 < a0) = true := decide_eq_true c2
    clear c2; replace H := Option.bind_eq_some_iff.mp H
    obtain ⟨t379, A30, H⟩ := H
    replace H : (if t379 = true then (if x3_1.length < 140737488355328 then (mosaicref07_Zero.l0 k1 a0 (x3_1 ++ [0]) (wrap64 (x4_1 + 1))) else (none)) else (some (strOfNums x3_1))) = some r := H
    have A3 := Aside0.mk A30
    clear A30; by_cases c4 : t379 = true
    ·
     subst c4
     have H1 : (if x3_1.length < 140737488355328 then (mosaicref07_Zero.l0 k1 a0 (x3_1 ++ [0]) (wrap64 (x4_1 + 1))) else (none)) = some r := by rw [if_pos rfl] at H; exact H
     clear H; have H := H1; clear H1; by_cases c5 : x3_1.length < 140737488355328
     ·
      rw [if_pos c5] at H
      have LMc5 := Aside0.mk c5
      clear c5; obtain ⟨y380, hy380⟩ : ∃ y_ : List Int, y_ = (x3_1 ++ [0]) := ⟨_, rfl⟩
      replace H : (mosaicref07_Zero.l0 k1 a0 y380 (wrap64 (x4_1 + 1))) = some r := by first | (rw [hy380]; with_reducible exact H) | (have H2_ := (Option.bind_some _ _).symm.trans H; rw [hy380]; with_reducible exact H2_) | (have H2_ := (Option.bind_some _ _).symm.trans H; with_reducible exact H2_) | with_reducible exact H | (rw [hy380]; exact H) | exact H
      have Ny380 := Aside0.mk hy380
      clear hy380; have H' := Aside0.mk H
      clear H; go_wp2_with (first | (go_at_call 60; (with_reducible refine (mosaicref07_May.calls a0 true _ A3.out).mono ?_); rintro e w' ⟨rfl, ⟨nd, rfl⟩⟩) | ((with_reducible refine gate_builtin (b := .append) (xs := #[.tmp 14, .tmp 15]) rfl ?_); at_builtin; refine Kd.R_append (Kd.int .u8) (w0 := w) w.heap.size rfl (.tmp 14) (.tmp 15) 90 5 (.int .u8 0) 1 rfl Tryz.underlying90 info5 rfl (by decide) (by omega) u3 x3_1 0 [.int .u8 0] (fun _ => True) (fun _ => False) rfl rfl ?aP (fun _ hk => hk.elim) ?aF ?aO ?aB ?aS ?aL ?_; (case aP => exact rfl); (case aB => exact zB); (case aF => exact (fun _ _ => trivial)); (case aO => exact (by (with_reducible repeat (first | apply Kd.R_alloc | apply Kd.R_drewN | apply Kd.R_drew)); exact HO_3.out)); (case aS => exact (below_size zB)); (case aL => have := LMc5.out; omega); intro v381 w6 ho hb hg hat; rw [← Ny380.out] at ho; have HO382 := Aside0.mk (ho); replace HB := Aside0.mk (hb); clear HO_3; clear ho hb hg hat))
      go_roundg k1
      case measure => have := HK1.out; omega
      case rel => exact ⟨(y380), (wrap64 (x4_1 + 1)), zF, H', ⟨by have := HK1.out; omega⟩, ⟨zR HO382⟩, ⟨zB⟩⟩
     ·
      rw [if_neg c5] at H
      exact absurd H (by simp)
    ·
     replace c4 := Bool.eq_false_iff.mpr c4
     subst c4
     have H1 : (some (strOfNums x3_1)) = some r := by rw [if_neg (show ¬ (false = true) by decide)] at H; exact H
     clear H; have H := H1; clear H1; obtain rfl := Option.some.inj H
     go_wp2_with (first | (go_at_call 60; (with_reducible refine (mosaicref07_May.calls a0 false _ A3.out).mono ?_); rintro e w' ⟨rfl, ⟨nd, rfl⟩⟩; have hcv7 := own_string (P := Tryz.prog) Tryz.underlying90 Tryz.underlying5 Tryz.underlying9 (Kd.own_of_R HO_3.out); have hcvd8 := fun n_ => own_string (P := Tryz.prog) Tryz.underlying90 Tryz.underlying5 Tryz.underlying9 (Kd.own_of_R (Kd.R_drewN HO_3.out n_))))
     go_ret
     exact ⟨zE, zB⟩
   ·
    rw [if_neg c2] at H
    have c2b0 : decide (x4_1 < a0) = false := decide_eq_false c2
    clear c2; obtain rfl := Option.some.inj H
    have hcv9 := own_string (P := Tryz.prog) Tryz.underlying90 Tryz.underlying5 Tryz.underlying9 (Kd.own_of_R HO_3.out)
    have hcvd10 := fun n_ => own_string (P := Tryz.prog) Tryz.underlying90 Tryz.underlying5 Tryz.underlying9 (Kd.own_of_R (Kd.R_drewN HO_3.out n_))
    go_wp2
    go_ret
    exact ⟨zE, zB⟩
/-! ### mosaicref07_Xor: function 61 -/
/-- The Bools of a number's bits. -/
def mkB61 (w m : Nat) : Array Bool := ⟨(List.range w).map fun i => m.testBit i⟩
def mosaicref07_Xor.l0 : Nat → ByteArray → ByteArray → List Int → Int → Option (ByteArray × Int)
 | 0, _, _, _, _ => none
 | k + 1, x0, x1, x6, x7 => if x7 < (x0.size : Int) then (if 0 ≤ x7 then (if x7 < (x1.size : Int) then (if x6.length < 140737488355328 then (mosaicref07_Xor.l0 k x0 x1 (x6 ++ [Go.bits .xor .u8 (bt x0 x7) (bt x1 x7)]) (wrap64 (x7 + 1))) else (none)) else (none)) else (none)) else (some (strOfNums x6, 0))
def mosaicref07_Xor.f (k : Nat) (a0 : ByteArray) (a1 : ByteArray) : Option (ByteArray × Int) := if (a0.size : Int) = (a1.size : Int) then (mosaicref07_Xor.l0 k a0 a1 ([] : List Int) 0) else (some ((⟨#[]⟩ : ByteArray), 1))
theorem mosaicref07_Xor.mono_l : ∀ k, (∀ y0 y1 y2 y3, LeO (mosaicref07_Xor.l0 k y0 y1 y2 y3) (mosaicref07_Xor.l0 (k + 1) y0 y1 y2 y3))
 | 0 => fun _ _ _ _ r h => by simp [mosaicref07_Xor.l0] at h
 | k + 1 => by
  have ih0 := mosaicref07_Xor.mono_l k
  ·
   intro y0 y1 y2 y3
   unfold mosaicref07_Xor.l0
   repeat' first | (with_reducible first | apply ih0 | exact LeO.refl _ | exact LeO.none _ | refine LeO.ite ?_ ?_ | refine LeO.bind ?_ (fun _ => ?_)) | apply ih0 | exact LeO.none _ | refine LeO.ite ?_ ?_ | refine LeO.bind ?_ (fun _ => ?_)
theorem mosaicref07_Xor.mono : ∀ a0 a1 k, LeO (mosaicref07_Xor.f k a0 a1) (mosaicref07_Xor.f (k + 1) a0 a1) := by
 intro a0 a1 k
 have ih0 := mosaicref07_Xor.mono_l k
 unfold mosaicref07_Xor.f
 repeat' first | (with_reducible first | apply ih0 | exact LeO.refl _ | exact LeO.none _ | refine LeO.ite ?_ ?_ | refine LeO.bind ?_ (fun _ => ?_)) | apply ih0 | exact LeO.none _ | refine LeO.ite ?_ ?_ | refine LeO.bind ?_ (fun _ => ?_)
def mosaicref07_Xor.T7 : Bool × List (List Nat × List Nat) := (true, [([], []), ([], []), ([], []), ([1, 2], [1, 2]), ([], []), ([], []), ([4, 5], [4, 5]), ([3, 6], [3, 6]), ([7], [7]), ([0, 8], [0, 8]), ([9, 9, 0, 1, 2, 3, 4, 5, 6, 7, 8, 9], [0, 9])])
def mosaicref07_Xor.B7 : List Nat := [0, 0, 0, 6, 0, 0, 48, 126, 254, 511, 1023]
theorem mosaicref07_Xor.tab7 : rtab .any (opsOf Tryz.f61 7) = mosaicref07_Xor.T7 := by kernel_rfl
theorem mosaicref07_Xor.bits7 : waitsOk mosaicref07_Xor.T7.2 mosaicref07_Xor.B7 = true := by kernel_rfl
set_option maxHeartbeats 8000000 in
set_option maxRecDepth 100000 in
theorem mosaicref07_Xor.calls (k : Nat) (a0 : ByteArray) (a1 : ByteArray) (r1 : ByteArray) (r2 : Int) (w : World) (h : mosaicref07_Xor.f k a0 a1 = some (r1, r2)) :
  Calls Tryz.prog 61 #[.string a0, .string a1] w fun e w' => e = .returned (.tuple #[.string r1, .int .i64 r2]) ∧ Below w.heap.size w w' := by
 have HB := Aside0.mk (Below.refl w.heap.size w)
 have H : (if (a0.size : Int) = (a1.size : Int) then (mosaicref07_Xor.l0 k a0 a1 ([] : List Int) 0) else (some ((⟨#[]⟩ : ByteArray), 1))) = some (r1, r2) := h
 clear h; by_cases c3 : (a0.size : Int) = (a1.size : Int)
 ·
  rw [if_pos c3] at H
  have c3b0 : ((a0.size : Int) == (a1.size : Int)) = true := beq_iff_eq.mpr c3
  have c3b1 : ((a0.size : Int) != (a1.size : Int)) = false := bne_eq_false_iff_eq.mpr c3
  have c3b2 : (a0.size == a1.size) = true := by first | simpa using c3 | (simp at c3 ⊢; omega)
  clear c3; have H' := Aside0.mk H
  clear H; go_enter Tryz.func61, Tryz.ntmps61
  go_wp2
  go_loopg [6, 7] k (fun kq v6 v7 w' => ∃ (x6_1 : List Int) (x7_1 : Int), v7 = .int .i64 x7_1 ∧ Aside0 (mosaicref07_Xor.l0 kq a0 a1 x6_1 x7_1 = some (r1, r2)) ∧ Aside0 (kq ≤ k) ∧ Aside0 (Kd.R (Kd.int .u8) 5 w' w.heap.size (fun _ => True) v6 x6_1) ∧ Aside0 (Below w.heap.size w w'))
  case atStart => exact ⟨(([] : List Int)), (0), zF, H', ⟨Nat.le_refl _⟩, ⟨by first | exact Kd.R_nil _ _ _ _ _ | exact Kd.N_nil _ _ _ _ _ | exact Kd.V_nil _ _ _ _ _ | exact Kd.Q_nil _ _ _ _ _ | exact Kd.S_nil _ _ _ _ _⟩, ⟨zB⟩⟩
  case round =>
   clear H'
   obtain ⟨x6_1, x7_1, rfl, HA, HK1, HO_6, HB⟩ := hrel
   cases gk with
   | zero => exact absurd HA.out (by simp [mosaicref07_Xor.l0])
   | succ k1 =>
    have H := HA.out; clear HA; simp only [mosaicref07_Xor.l0] at H
    by_cases c4 : x7_1 < (a0.size : Int)
    ·
     rw [if_pos c4] at H
     have c4b0 : decide (x7_1 < (a0.size : Int)) = true := decide_eq_true c4
     clear c4; by_cases c5 : 0 ≤ x7_1
     ·
      rw [if_pos c5] at H
      have c5b0 : decide (0 ≤ x7_1) = true := decide_eq_true c5
      clear c5; by_cases c7 : x7_1 < (a1.size : Int)
      ·
       rw [if_pos c7] at H
       have c7b0 : decide (x7_1 < (a1.size : Int)) = true := decide_eq_true c7
       clear c7; by_cases c9 : x6_1.length < 140737488355328
       ·
        rw [if_pos c9] at H
        have LMc9 := Aside0.mk c9
        clear c9; obtain ⟨y383, hy383⟩ : ∃ y_ : List Int, y_ = (x6_1 ++ [Go.bits .xor .u8 (bt a0 x7_1) (bt a1 x7_1)]) := ⟨_, rfl⟩
        replace H : (mosaicref07_Xor.l0 k1 a0 a1 y383 (wrap64 (x7_1 + 1))) = some (r1, r2) := by first | (rw [hy383]; with_reducible exact H) | (have H2_ := (Option.bind_some _ _).symm.trans H; rw [hy383]; with_reducible exact H2_) | (have H2_ := (Option.bind_some _ _).symm.trans H; with_reducible exact H2_) | with_reducible exact H | (rw [hy383]; exact H) | exact H
        have Ny383 := Aside0.mk hy383
        clear hy383; have H' := Aside0.mk H
        clear H; try go_wp2
        replace HO_6 := Aside0.mk (Kd.R_drew HO_6.out)
        replace HB := Aside0.mk (below_drew1 HB.out); have p6 : 0 ≤ (x7_1 : Int) := of_decide_eq_true zA
        have q6 : x7_1 < (a0.size : Int) := of_decide_eq_true zA
        have hx6 := bt_at a0 x7_1
        replace p6 := eq_true p6
        replace q6 := eq_true q6
        have p8 : 0 ≤ (x7_1 : Int) := of_decide_eq_true zA
        have q8 : x7_1 < (a1.size : Int) := of_decide_eq_true zA
        have hx8 := bt_at a1 x7_1
        replace p8 := eq_true p8
        replace q8 := eq_true q8
        refine start_ (n := 11) (S := fun w' => True) (ds := []) (mkB61 11 0) (by kernel_rfl) rfl rfl trivial (fun hHeld => ?_); refine with_tabW mosaicref07_Xor.tab7 mosaicref07_Xor.bits7 (fun HT_ HW_ => ?_)
        generalize wr.drew = w10 at HO_6 HB hHeld ⊢
        refine pX 0 (some 19) (mkB61 11 1) ?_
        refine pX 1 (some 20) (mkB61 11 3) ?_
        refine pX 2 (some 21) (mkB61 11 7) ?_
        refine pX 4 (some 23) (mkB61 11 23) ?_
        refine pX 5 (some 24) (mkB61 11 55) ?_
        refine tT (v := ?_) (a' := ?_) HT_ HW_ hHeld 3 (some 22) (mkB61 11 63) ?_ ?_ ?_; rotate_left 2; (intro w' _; go_simp; with_reducible rfl); (simp only [Act.put, qA, qB, qC, i64_w, i32_w]; rfl)
        refine tT (v := ?_) (a' := ?_) HT_ HW_ hHeld 6 (some 25) (mkB61 11 127) ?_ ?_ ?_; rotate_left 2; (intro w' _; go_simp; with_reducible rfl); (simp only [Act.put, qA, qB, qC, i64_w, i32_w]; rfl)
        refine pX 7 (some 26) (mkB61 11 255) ?_
        refine one_ (i := 8) (N := some 27) (mkB61 11 511) rfl rfl (one_of HT_.out (by kernel_rfl)) (by decide) (fun K hK => ?_)
        refine value_ (w1 := ?_) (v := ?_) (by rfl) rfl ?_ ?_
        rotate_left 2
        ·
         go_simp; constructor
         ·
          rfl
         ·
          rfl
        refine hK.out _ _ trivial (fun hHeld => ?_)
        clear hK K; refine norm_ (a' := ?_) ?_ ?_
        rotate_left
        ·
         show Act.put _ (some 27) _ = _
         simp only [Act.put, List.setIfInBounds_toArray, List.set_cons_zero, List.set_cons_succ, i64_w, i32_w]; rfl
        refine one_ (i := 9) (N := some 28) (mkB61 11 1023) rfl rfl (one_of HT_.out (by kernel_rfl)) (by decide) (fun K hK => ?_)
        refine Kd.R_append_step (Kd.int .u8) (w0 := w) w.heap.size (by rfl) (.tmp 19) (.tmp 27) 90 5 (.int .u8 0) 1 rfl Tryz.underlying90 info5 rfl (by decide) (by omega) u6 x6_1 (Go.bits .xor .u8 (bt a0 x7_1) (bt a1 x7_1)) [.int .u8 (Go.bits .xor .u8 (bt a0 x7_1) (bt a1 x7_1))] (fun _ => True) (fun _ => False) rfl rfl ?aP (fun _ hk => hk.elim) ?aF ?aO ?aB ?aS ?aL ?_
        (case aP => exact rfl)
        (case aB => exact zB)
        (case aF => exact (fun _ _ => trivial))
        (case aO => exact (by (with_reducible repeat (first | apply Kd.R_alloc | apply Kd.R_drewN | apply Kd.R_drew)); exact HO_6.out))
        (case aS => exact (below_size zB))
        (case aL => have := LMc9.out; omega)
        intro v384 w11 ho hb hg hat
        rw [← Ny383.out] at ho
        have HO385 := Aside0.mk (ho)
        replace HB := Aside0.mk (hb)
        clear HO_6 ho hb hg hat; refine hK.out _ _ trivial (fun hHeld => ?_)
        clear hK K; refine norm_ (a' := ?_) ?_ ?_
        rotate_left
        ·
         show Act.put _ (some 28) _ = _
         simp only [Act.put, List.setIfInBounds_toArray, List.set_cons_zero, List.set_cons_succ, i64_w, i32_w]; rfl
        refine pX 10 (some 6) (mkB61 11 2047) ?_
        refine done_ (done_of HT_.out (by kernel_rfl)) ?_
        try go_wp2
        go_roundg k1
        case measure => have := HK1.out; omega
        case rel => exact ⟨(y383), (wrap64 (x7_1 + 1)), zF, H', ⟨by have := HK1.out; omega⟩, ⟨zR HO385⟩, ⟨zB⟩⟩
       ·
        rw [if_neg c9] at H
        exact absurd H (by simp)
      ·
       rw [if_neg c7] at H
       exact absurd H (by simp)
     ·
      rw [if_neg c5] at H
      exact absurd H (by simp)
    ·
     rw [if_neg c4] at H
     have c4b0 : decide (x7_1 < (a0.size : Int)) = false := decide_eq_false c4
     clear c4; simp only [Option.some.injEq, Prod.mk.injEq] at H
     obtain ⟨rfl, rfl⟩ := H
     have hcv12 := own_string (P := Tryz.prog) Tryz.underlying90 Tryz.underlying5 Tryz.underlying9 (Kd.own_of_R HO_6.out)
     have hcvd13 := fun n_ => own_string (P := Tryz.prog) Tryz.underlying90 Tryz.underlying5 Tryz.underlying9 (Kd.own_of_R (Kd.R_drewN HO_6.out n_))
     go_wp2
     go_ret2
     exact ⟨zE, zB⟩
 ·
  rw [if_neg c3] at H
  have c3b0 : ((a0.size : Int) == (a1.size : Int)) = false := beq_eq_false_iff_ne.mpr c3
  have c3b1 : ((a0.size : Int) != (a1.size : Int)) = true := bne_iff_ne.mpr c3
  have c3b2 : (a0.size == a1.size) = false := by first | simpa using c3 | (simp at c3 ⊢; omega)
  simp only [Option.some.injEq, Prod.mk.injEq] at H
  obtain ⟨rfl, rfl⟩ := H
  go_enter Tryz.func61, Tryz.ntmps61
  go_wp2
  go_ret2
  exact ⟨zE, zB⟩
/-! ### mosaicref09_Sum: function 39 -/
def mosaicref09_Sum.l0 : Nat → List ByteArray → List Int → ByteArray → Int → Option (ByteArray)
 | 0, _, _, _, _ => none
 | k + 1, x0, x1, x7, x8 => if x8 < (x1.length : Int) then (if 0 ≤ x8 then (if 0 ≤ (rd x1 x8) then (if (rd x1 x8) < (x0.length : Int) then ((mosaicref07_Xor.f k x7 (rdOf ByteArray.empty x0 (rd x1 x8))).bind fun bt389 => (mosaicref09_Sum.l0 k x0 x1 bt389.1 (wrap64 (x8 + 1)))) else (none)) else (none)) else (none)) else (some x7)
def mosaicref09_Sum.f (k : Nat) (l0 : List ByteArray) (l1 : List Int) (a2 : Int) : Option (ByteArray) := (mosaicref07_Zero.f k a2).bind fun t386 => (mosaicref09_Sum.l0 k l0 l1 t386 0)
theorem mosaicref09_Sum.mono_l : ∀ k, (∀ y0 y1 y2 y3, LeO (mosaicref09_Sum.l0 k y0 y1 y2 y3) (mosaicref09_Sum.l0 (k + 1) y0 y1 y2 y3))
 | 0 => fun _ _ _ _ r h => by simp [mosaicref09_Sum.l0] at h
 | k + 1 => by
  have ih0 := mosaicref09_Sum.mono_l k
  ·
   intro y0 y1 y2 y3
   unfold mosaicref09_Sum.l0
   repeat' first | (with_reducible first | apply ih0 | apply mosaicref07_Xor.mono | apply mosaicref07_Zero.mono | exact LeO.refl _ | exact LeO.none _ | refine LeO.ite ?_ ?_ | refine LeO.bind ?_ (fun _ => ?_)) | apply ih0 | apply mosaicref07_Xor.mono | apply mosaicref07_Zero.mono | exact LeO.none _ | refine LeO.ite ?_ ?_ | refine LeO.bind ?_ (fun _ => ?_)
theorem mosaicref09_Sum.mono : ∀ a0 a1 a2 k, LeO (mosaicref09_Sum.f k a0 a1 a2) (mosaicref09_Sum.f (k + 1) a0 a1 a2) := by
 intro a0 a1 a2 k
 have ih0 := mosaicref09_Sum.mono_l k
 unfold mosaicref09_Sum.f
 repeat' first | (with_reducible first | apply ih0 | apply mosaicref07_Xor.mono | apply mosaicref07_Zero.mono | exact LeO.refl _ | exact LeO.none _ | refine LeO.ite ?_ ?_ | refine LeO.bind ?_ (fun _ => ?_)) | apply ih0 | apply mosaicref07_Xor.mono | apply mosaicref07_Zero.mono | exact LeO.none _ | refine LeO.ite ?_ ?_ | refine LeO.bind ?_ (fun _ => ?_)
set_option maxHeartbeats 8000000 in
set_option maxRecDepth 100000 in
theorem mosaicref09_Sum.calls (k : Nat) (A0 : Option Addr) (c0 : Nat) (l0 : List ByteArray) (A1 : Option Addr) (c1 : Nat) (l1 : List Int) (a2 : Int) (r : ByteArray) (w : World) (hr0 : Kd.C Kd.string w A0 l0.length l0) (hc0 : l0.length ≤ c0) (hr1 : Kd.C (Kd.int .i64) w A1 l1.length l1) (hc1 : l1.length ≤ c1) (h : mosaicref09_Sum.f k l0 l1 a2 = some r) :
  Calls Tryz.prog 39 #[.slice A0 l0.length c0, .slice A1 l1.length c1, .int .i64 a2] w fun e w' => e = .returned (.string r) ∧ Below w.heap.size w w' := by
 have HR0 := Aside0.mk hr0
 have HC0 := Aside0.mk hc0
 clear hr0 hc0; have HR1 := Aside0.mk hr1
 have HC1 := Aside0.mk hc1
 clear hr1 hc1; have HB := Aside0.mk (Below.refl w.heap.size w)
 have H : ((mosaicref07_Zero.f k a2).bind fun t386 => (mosaicref09_Sum.l0 k l0 l1 t386 0)) = some r := h
 clear h; replace H := Option.bind_eq_some_iff.mp H
 obtain ⟨t386, A40, H⟩ := H
 replace H : (mosaicref09_Sum.l0 k l0 l1 t386 0) = some r := H
 have A4 := Aside0.mk A40
 clear A40; have H' := Aside0.mk H
 clear H; go_enter Tryz.func39, Tryz.ntmps39
 go_wp2_with (first | ((with_reducible refine gate_callee (f := 43) rfl ?_); refine goesL_ (some 12) rfl rfl Tryz.func43 (by kernel_rfl) rfl #[.int .i64 a2] rfl zM ?_; (with_reducible refine (mosaicref07_Zero.calls k a2 t386 _ A4.out).mono ?_); rintro e w5 ⟨rfl, hb⟩; refine ⟨_, rfl, ?_⟩; replace HB := Aside0.mk (below_step zB hb); (try clear hb); (try clear hb2); (try clear hk); (try clear hi)))
 go_loopg [7, 8] k (fun kq v7 v8 w' => ∃ (x7_1 : ByteArray) (x8_1 : Int), v7 = .string x7_1 ∧ v8 = .int .i64 x8_1 ∧ Aside0 (mosaicref09_Sum.l0 kq l0 l1 x7_1 x8_1 = some r) ∧ Aside0 (kq ≤ k) ∧ Aside0 (Below w.heap.size w w'))
 case atStart => exact ⟨(t386), (0), zF, zF, H', ⟨Nat.le_refl _⟩, ⟨zB⟩⟩
 case round =>
  clear H'
  obtain ⟨x7_1, x8_1, rfl, rfl, HA, HK1, HB⟩ := hrel
  cases gk with
  | zero => exact absurd HA.out (by simp [mosaicref09_Sum.l0])
  | succ k1 =>
   have H := HA.out; clear HA; simp only [mosaicref09_Sum.l0] at H
   by_cases c6 : x8_1 < (l1.length : Int)
   ·
    rw [if_pos c6] at H
    have c6b0 : decide (x8_1 < (l1.length : Int)) = true := decide_eq_true c6
    clear c6; by_cases c7 : 0 ≤ x8_1
    ·
     rw [if_pos c7] at H
     have c7b0 : decide (0 ≤ x8_1) = true := decide_eq_true c7
     clear c7; by_cases c8 : 0 ≤ (rd l1 x8_1)
     ·
      rw [if_pos c8] at H
      have c8b0 : decide (0 ≤ (rd l1 x8_1)) = true := decide_eq_true c8
      clear c8; by_cases c9 : (rd l1 x8_1) < (l0.length : Int)
      ·
       rw [if_pos c9] at H
       have c9b0 : decide ((rd l1 x8_1) < (l0.length : Int)) = true := decide_eq_true c9
       clear c9; replace H := Option.bind_eq_some_iff.mp H
       obtain ⟨⟨t389, t390⟩, A100, H⟩ := H
       replace H : (mosaicref09_Sum.l0 k1 l0 l1 t389 (wrap64 (x8_1 + 1))) = some r := H
       have A10 := Aside0.mk A100
       clear A100; have H' := Aside0.mk H
       clear H; have p387 : 0 ≤ (x8_1 : Int) := of_decide_eq_true zA
       have q387 : x8_1 < (l1.length : Int) := of_decide_eq_true zA
       obtain ⟨ad387, e387, hx387_0⟩ := Kd.at_int HR1.out x8_1 p387 q387
       cases e387
       (try replace hx387_0 := (HB.out.cell (World.block_lt_of_cell? w _ hx387_0)).trans hx387_0)
       replace p387 := eq_true p387
       replace q387 := eq_true q387
       have p388 : 0 ≤ ((rd l1 x8_1) : Int) := of_decide_eq_true zA
       have q388 : (rd l1 x8_1) < (l0.length : Int) := of_decide_eq_true zA
       obtain ⟨ad388, e388, hx388_0⟩ := Kd.at_string HR0.out (rd l1 x8_1) p388 q388
       cases e388
       (try replace hx388_0 := (HB.out.cell (World.block_lt_of_cell? w _ hx388_0)).trans hx388_0)
       replace p388 := eq_true p388
       replace q388 := eq_true q388
       go_wp2_with (first | ((with_reducible refine gate_callee (f := 61) rfl ?_); refine goesL_ (some 28) rfl rfl Tryz.func61 (by kernel_rfl) rfl #[.string x7_1, .string (rdOf ByteArray.empty l0 (rd l1 x8_1))] rfl zM ?_; (with_reducible refine (mosaicref07_Xor.calls k1 x7_1 (rdOf ByteArray.empty l0 (rd l1 x8_1)) t389 t390 _ A10.out).mono ?_); rintro e w11 ⟨rfl, hb⟩; refine ⟨_, rfl, ?_⟩; replace HB := Aside0.mk (below_step zB hb); (try clear hb); (try clear hb2); (try clear hk); (try clear hi)))
       go_roundg k1
       case measure => have := HK1.out; omega
       case rel => exact ⟨(t389), (wrap64 (x8_1 + 1)), zF, zF, H', ⟨by have := HK1.out; omega⟩, ⟨zB⟩⟩
      ·
       rw [if_neg c9] at H
       exact absurd H (by simp)
     ·
      rw [if_neg c8] at H
      exact absurd H (by simp)
    ·
     rw [if_neg c7] at H
     exact absurd H (by simp)
   ·
    rw [if_neg c6] at H
    have c6b0 : decide (x8_1 < (l1.length : Int)) = false := decide_eq_false c6
    clear c6; obtain rfl := Option.some.inj H
    go_wp2
    go_ret
    exact ⟨zE, zB⟩
/-! ### mosaicref09_size: function 49 -/
mutual
def mosaicref09_size.l0 : Nat → List ByteArray → Int → Int → Option (Int)
 | 0, _, _, _ => none
 | k + 1, x0, x3, x4 => if x4 < (x0.length : Int) then (if 0 ≤ x4 then (if (rdOf ByteArray.empty x0 x4).toList = ([] : List UInt8) then (mosaicref09_size.l0 k x0 x3 (wrap64 (x4 + 1))) else (if x3 = 0 then ((mosaicref07_May.f ((rdOf ByteArray.empty x0 x4).size : Int)).bind fun t393 => (mosaicref09_size.j1 k x0 x3 x4 t393)) else (mosaicref09_size.j1 k x0 x3 x4 false))) else (none)) else (some x3)
def mosaicref09_size.j1 : Nat → List ByteArray → Int → Int → Bool → Option (Int)
 | 0, _, _, _, _ => none
 | k + 1, x0, x3, x4, x25 => if x25 = true then (if 0 ≤ x4 then (if x4 < (x0.length : Int) then (if ((rdOf ByteArray.empty x0 x4).size : Int) = ((rdOf ByteArray.empty x0 x4).size : Int) then (mosaicref09_size.l0 k x0 ((rdOf ByteArray.empty x0 x4).size : Int) (wrap64 (x4 + 1))) else (some 0)) else (none)) else (none)) else (if 0 ≤ x4 then (if x4 < (x0.length : Int) then (if ((rdOf ByteArray.empty x0 x4).size : Int) = x3 then (mosaicref09_size.l0 k x0 x3 (wrap64 (x4 + 1))) else (some 0)) else (none)) else (none))
end
def mosaicref09_size.f (k : Nat) (l0 : List ByteArray) : Option (Int) := mosaicref09_size.l0 k l0 0 0
theorem mosaicref09_size.mono_l : ∀ k, (∀ y0 y1 y2, LeO (mosaicref09_size.l0 k y0 y1 y2) (mosaicref09_size.l0 (k + 1) y0 y1 y2)) ∧ (∀ y0 y1 y2 y3, LeO (mosaicref09_size.j1 k y0 y1 y2 y3) (mosaicref09_size.j1 (k + 1) y0 y1 y2 y3))
 | 0 => ⟨fun _ _ _ r h => by simp [mosaicref09_size.l0] at h, fun _ _ _ _ r h => by simp [mosaicref09_size.j1] at h⟩
 | k + 1 => by
  obtain ⟨ih0, ih1⟩ := mosaicref09_size.mono_l k
  refine ⟨?_, ?_⟩ <;> intros <;> (first | unfold mosaicref09_size.l0 | unfold mosaicref09_size.j1)
  all_goals repeat' first | (with_reducible first | apply ih0 | apply ih1 | exact LeO.refl _ | exact LeO.none _ | refine LeO.ite ?_ ?_ | refine LeO.bind ?_ (fun _ => ?_)) | apply ih0 | apply ih1 | exact LeO.none _ | refine LeO.ite ?_ ?_ | refine LeO.bind ?_ (fun _ => ?_)
theorem mosaicref09_size.mono : ∀ a0 k, LeO (mosaicref09_size.f k a0) (mosaicref09_size.f (k + 1) a0) := by
 intro a0 k
 obtain ⟨ih0, ih1⟩ := mosaicref09_size.mono_l k
 unfold mosaicref09_size.f
 repeat' first | (with_reducible first | apply ih0 | apply ih1 | exact LeO.refl _ | exact LeO.none _ | refine LeO.ite ?_ ?_ | refine LeO.bind ?_ (fun _ => ?_)) | apply ih0 | apply ih1 | exact LeO.none _ | refine LeO.ite ?_ ?_ | refine LeO.bind ?_ (fun _ => ?_)
set_option maxHeartbeats 8000000 in
set_option maxRecDepth 100000 in
theorem mosaicref09_size.calls (k : Nat) (A0 : Option Addr) (c0 : Nat) (l0 : List ByteArray) (r : Int) (w : World) (hr0 : Kd.C Kd.string w A0 l0.length l0) (hc0 : l0.length ≤ c0) (h : mosaicref09_size.f k l0 = some r) :
  Calls Tryz.prog 49 #[.slice A0 l0.length c0] w fun e w' => e = .returned (.int .i64 r) ∧ Drawn0 w w' := by
 have HR0 := Aside0.mk hr0
 have HC0 := Aside0.mk hc0
 clear hr0 hc0; have H : (mosaicref09_size.l0 k l0 0 0) = some r := h
 clear h; have H' := Aside0.mk H
 clear H; go_enter Tryz.func49, Tryz.ntmps49
 go_wp2
 go_loopg [3, 4] k (fun kq v3 v4 w' => ∃ (x3_1 : Int) (x4_1 : Int), v3 = .int .i64 x3_1 ∧ v4 = .int .i64 x4_1 ∧ Aside0 (mosaicref09_size.l0 kq l0 x3_1 x4_1 = some r) ∧ Aside0 (kq ≤ k) ∧ Drawn0 w w')
 case atStart => exact ⟨(0), (0), zF, zF, H', ⟨Nat.le_refl _⟩, by repeat (first | exact Drawn0.refl _ | apply Drawn0.step)⟩
 case round =>
  clear H'
  obtain ⟨x3_1, x4_1, rfl, rfl, HA, HK1, ⟨m1, rfl⟩⟩ := hrel
  cases gk with
  | zero => exact absurd HA.out (by simp [mosaicref09_size.l0])
  | succ k1 =>
   have H := HA.out; clear HA; rw [mosaicref09_size.l0] at H
   by_cases c2 : x4_1 < (l0.length : Int)
   ·
    rw [if_pos c2] at H
    have c2b0 : decide (x4_1 < (l0.length : Int)) = true := decide_eq_true c2
    clear c2; by_cases c3 : 0 ≤ x4_1
    ·
     rw [if_pos c3] at H
     have c3b0 : decide (0 ≤ x4_1) = true := decide_eq_true c3
     clear c3; by_cases c4 : (rdOf ByteArray.empty l0 x4_1).toList = ([] : List UInt8)
     ·
      rw [if_pos c4] at H
      have c4b0 : ((rdOf ByteArray.empty l0 x4_1).toList == ([] : List UInt8)) = true := beq_iff_eq.mpr c4
      have c4b1 : ((rdOf ByteArray.empty l0 x4_1).toList != ([] : List UInt8)) = false := bne_eq_false_iff_eq.mpr c4
      clear c4; have H' := Aside0.mk H
      clear H; have p391 : 0 ≤ (x4_1 : Int) := of_decide_eq_true zA
      have q391 : x4_1 < (l0.length : Int) := of_decide_eq_true zA
      obtain ⟨ad391, e391, hx391_0⟩ := Kd.at_string HR0.out x4_1 p391 q391
      cases e391
      replace p391 := eq_true p391
      replace q391 := eq_true q391
      go_wp2
      go_roundg k1
      case measure => have := HK1.out; omega
      case rel => exact ⟨(x3_1), (wrap64 (x4_1 + 1)), zF, zF, H', ⟨by have := HK1.out; omega⟩, by repeat (first | exact Drawn0.refl _ | apply Drawn0.step)⟩
     ·
      rw [if_neg c4] at H
      have c4b0 : ((rdOf ByteArray.empty l0 x4_1).toList == ([] : List UInt8)) = false := beq_eq_false_iff_ne.mpr c4
      have c4b1 : ((rdOf ByteArray.empty l0 x4_1).toList != ([] : List UInt8)) = true := bne_iff_ne.mpr c4
      have HC5 := Aside0.mk H
      clear H; have p391 : 0 ≤ (x4_1 : Int) := of_decide_eq_true zA
      have q391 : x4_1 < (l0.length : Int) := of_decide_eq_true zA
      obtain ⟨ad391, e391, hx391_0⟩ := Kd.at_string HR0.out x4_1 p391 q391
      cases e391
      replace p391 := eq_true p391
      replace q391 := eq_true q391
      go_upto_region 6 with (fail)
      go_cut [25] (fun v25 wc => ∃ (kq : Nat) (x25_4 : Bool), v25 = .bool x25_4 ∧ Aside0 (mosaicref09_size.j1 kq l0 x3_1 x4_1 x25_4 = some r) ∧ Aside0 (kq ≤ k1) ∧ Drawn0 w wc)
      case first =>
       have H := HC5.out; clear HC5; by_cases c6 : x3_1 = 0
       ·
        rw [if_pos c6] at H
        have c6b0 : (x3_1 == 0) = true := beq_iff_eq.mpr c6
        have c6b1 : (x3_1 != 0) = false := bne_eq_false_iff_eq.mpr c6
        clear c6; (first | rw [c6b0] | (simp only [i64_w, i32_w]; rw [c6b0]) | skip)
        replace H := Option.bind_eq_some_iff.mp H
        obtain ⟨t393, A70, H⟩ := H
        replace H : (mosaicref09_size.j1 k1 l0 x3_1 x4_1 t393) = some r := H
        have A7 := Aside0.mk A70
        clear A70; have H' := Aside0.mk H
        clear H; have p392 : 0 ≤ (x4_1 : Int) := of_decide_eq_true zA
        have q392 : x4_1 < (l0.length : Int) := of_decide_eq_true zA
        obtain ⟨ad392, e392, hx392_0⟩ := Kd.at_string HR0.out x4_1 p392 q392
        obtain rfl : ad391 = ad392 := (by injection e392)
        replace p392 := eq_true p392
        replace q392 := eq_true q392
        go_wp2_with (first | (go_at_call 60; (with_reducible refine (mosaicref07_May.calls ((rdOf ByteArray.empty l0 x4_1).size : Int) t393 _ A7.out).mono ?_); rintro e w' ⟨rfl, ⟨nd, rfl⟩⟩))
        go_meet
        case rel => exact ⟨_, (t393), zF, H', ⟨by have := HK1.out; first | omega | exact Nat.le_refl _⟩, by repeat (first | exact Drawn0.refl _ | apply Drawn0.step)⟩
       ·
        rw [if_neg c6] at H
        have c6b0 : (x3_1 == 0) = false := beq_eq_false_iff_ne.mpr c6
        have c6b1 : (x3_1 != 0) = true := bne_iff_ne.mpr c6
        (first | rw [c6b0] | (simp only [i64_w, i32_w]; rw [c6b0]) | skip)
        have H' := Aside0.mk H
        clear H; go_wp2
        go_meet
        case rel => exact ⟨_, (false), zF, H', ⟨by have := HK1.out; first | omega | exact Nat.le_refl _⟩, by repeat (first | exact Drawn0.refl _ | apply Drawn0.step)⟩
      case rest =>
       clear HC5; (try clear hx3); (try clear hx391_0); (try clear hx392_0); obtain ⟨kq, x25_4, rfl, HA, HJ4, ⟨mc4, rfl⟩⟩ := hcut
       cases kq with
       | zero => exact absurd HA.out (by simp [mosaicref09_size.j1])
       | succ kj4 =>
        have H := HA.out; clear HA; rw [mosaicref09_size.j1] at H
        by_cases c8 : x25_4 = true
        ·
         subst c8
         have H1 : (if 0 ≤ x4_1 then (if x4_1 < (l0.length : Int) then (if ((rdOf ByteArray.empty l0 x4_1).size : Int) = ((rdOf ByteArray.empty l0 x4_1).size : Int) then (mosaicref09_size.l0 kj4 l0 ((rdOf ByteArray.empty l0 x4_1).size : Int) (wrap64 (x4_1 + 1))) else (some 0)) else (none)) else (none)) = some r := by rw [if_pos rfl] at H; exact H
         clear H; have H := H1; clear H1; by_cases c9 : 0 ≤ x4_1
         ·
          rw [if_pos c9] at H
          have c9b0 : decide (0 ≤ x4_1) = true := decide_eq_true c9
          clear c9; by_cases c10 : x4_1 < (l0.length : Int)
          ·
           rw [if_pos c10] at H
           have c10b0 : decide (x4_1 < (l0.length : Int)) = true := decide_eq_true c10
           clear c10; by_cases c11 : ((rdOf ByteArray.empty l0 x4_1).size : Int) = ((rdOf ByteArray.empty l0 x4_1).size : Int)
           ·
            rw [if_pos c11] at H
            have c11b0 : (((rdOf ByteArray.empty l0 x4_1).size : Int) == ((rdOf ByteArray.empty l0 x4_1).size : Int)) = true := beq_iff_eq.mpr c11
            have c11b1 : (((rdOf ByteArray.empty l0 x4_1).size : Int) != ((rdOf ByteArray.empty l0 x4_1).size : Int)) = false := bne_eq_false_iff_eq.mpr c11
            have c11b2 : ((rdOf ByteArray.empty l0 x4_1).size == (rdOf ByteArray.empty l0 x4_1).size) = true := beq_self_eq_true _
            clear c11; have H' := Aside0.mk H
            clear H; have p394 : 0 ≤ (x4_1 : Int) := of_decide_eq_true zA
            have q394 : x4_1 < (l0.length : Int) := of_decide_eq_true zA
            obtain ⟨ad394, e394, hx394_0⟩ := Kd.at_string HR0.out x4_1 p394 q394
            obtain rfl : ad391 = ad394 := (by injection e394)
            replace p394 := eq_true p394
            replace q394 := eq_true q394
            have p395 : 0 ≤ (x4_1 : Int) := of_decide_eq_true zA
            have q395 : x4_1 < (l0.length : Int) := of_decide_eq_true zA
            obtain ⟨ad395, e395, hx395_0⟩ := Kd.at_string HR0.out x4_1 p395 q395
            obtain rfl : ad391 = ad395 := (by injection e395)
            replace p395 := eq_true p395
            replace q395 := eq_true q395
            go_wp2
            go_roundg kj4
            case measure => have := HK1.out; have := HJ4.out; omega
            case rel => exact ⟨(((rdOf ByteArray.empty l0 x4_1).size : Int)), (wrap64 (x4_1 + 1)), zF, zF, H', ⟨by have := HK1.out; have := HJ4.out; omega⟩, by repeat (first | exact Drawn0.refl _ | apply Drawn0.step)⟩
           ·
            exact absurd rfl c11
          ·
           rw [if_neg c10] at H
           exact absurd H (by simp)
         ·
          rw [if_neg c9] at H
          exact absurd H (by simp)
        ·
         replace c8 := Bool.eq_false_iff.mpr c8
         subst c8
         have H1 : (if 0 ≤ x4_1 then (if x4_1 < (l0.length : Int) then (if ((rdOf ByteArray.empty l0 x4_1).size : Int) = x3_1 then (mosaicref09_size.l0 kj4 l0 x3_1 (wrap64 (x4_1 + 1))) else (some 0)) else (none)) else (none)) = some r := by rw [if_neg (show ¬ (false = true) by decide)] at H; exact H
         clear H; have H := H1; clear H1; by_cases c12 : 0 ≤ x4_1
         ·
          rw [if_pos c12] at H
          have c12b0 : decide (0 ≤ x4_1) = true := decide_eq_true c12
          clear c12; by_cases c13 : x4_1 < (l0.length : Int)
          ·
           rw [if_pos c13] at H
           have c13b0 : decide (x4_1 < (l0.length : Int)) = true := decide_eq_true c13
           clear c13; by_cases c14 : ((rdOf ByteArray.empty l0 x4_1).size : Int) = x3_1
           ·
            rw [if_pos c14] at H
            have c14b0 : (((rdOf ByteArray.empty l0 x4_1).size : Int) == x3_1) = true := beq_iff_eq.mpr c14
            have c14b1 : (((rdOf ByteArray.empty l0 x4_1).size : Int) != x3_1) = false := bne_eq_false_iff_eq.mpr c14
            clear c14; have H' := Aside0.mk H
            clear H; have p396 : 0 ≤ (x4_1 : Int) := of_decide_eq_true zA
            have q396 : x4_1 < (l0.length : Int) := of_decide_eq_true zA
            obtain ⟨ad396, e396, hx396_0⟩ := Kd.at_string HR0.out x4_1 p396 q396
            obtain rfl : ad391 = ad396 := (by injection e396)
            replace p396 := eq_true p396
            replace q396 := eq_true q396
            go_wp2
            go_roundg kj4
            case measure => have := HK1.out; have := HJ4.out; omega
            case rel => exact ⟨(x3_1), (wrap64 (x4_1 + 1)), zF, zF, H', ⟨by have := HK1.out; have := HJ4.out; omega⟩, by repeat (first | exact Drawn0.refl _ | apply Drawn0.step)⟩
           ·
            rw [if_neg c14] at H
            have c14b0 : (((rdOf ByteArray.empty l0 x4_1).size : Int) == x3_1) = false := beq_eq_false_iff_ne.mpr c14
            have c14b1 : (((rdOf ByteArray.empty l0 x4_1).size : Int) != x3_1) = true := bne_iff_ne.mpr c14
            obtain rfl := Option.some.inj H
            have p396 : 0 ≤ (x4_1 : Int) := of_decide_eq_true zA
            have q396 : x4_1 < (l0.length : Int) := of_decide_eq_true zA
            obtain ⟨ad396, e396, hx396_0⟩ := Kd.at_string HR0.out x4_1 p396 q396
            obtain rfl : ad391 = ad396 := (by injection e396)
            replace p396 := eq_true p396
            replace q396 := eq_true q396
            go_wp2
            go_ret
            exact ⟨by first | rfl | (simp; done) | (simp [*]; done), by repeat (first | exact Drawn0.refl _ | apply Drawn0.step)⟩
          ·
           rw [if_neg c13] at H
           exact absurd H (by simp)
         ·
          rw [if_neg c12] at H
          exact absurd H (by simp)
    ·
     rw [if_neg c3] at H
     exact absurd H (by simp)
   ·
    rw [if_neg c2] at H
    have c2b0 : decide (x4_1 < (l0.length : Int)) = false := decide_eq_false c2
    clear c2; obtain rfl := Option.some.inj H
    go_wp2
    go_ret
    exact ⟨by first | rfl | (simp; done) | (simp [*]; done), by repeat (first | exact Drawn0.refl _ | apply Drawn0.step)⟩
end Go.Proofs.YtghhmnjkgnoogaaGreat.POuterFills
