-- Written by this session's own program (wip/tools/mkprint.py) over the kit's printer, with overrides.
import Derived.Test.YtghhmnjkgnoogaaGreatTOuterWholesa
import Derived.Test.YtghhmnjkgnoogaaGreatQOuterWholesx0
import Derived.Test.YtghhmnjkgnoogaaGreatQOuterWholesx24
import Derived.Test.YtghhmnjkgnoogaaGreatQOuterWholesx25
namespace Go.Proofs.YtghhmnjkgnoogaaGreat.POuterWholes
open Go.RowKit Go.Mine Go.Proofs.YtghhmnjkgnoogaaGreatW.PrintWords Go.Proofs.YtghhmnjkgnoogaaGreatW.PrintLast Go.Proofs.YtghhmnjkgnoogaaGreatW.PrintMore
attribute [local go_sem] max2_int min2_int max_two min_two max_three min_three max_four min_four   -- for this text's walks alone
set_option linter.unusedVariables false
set_option linter.unusedSimpArgs false
/-! ### mosaicref04_Gen_Below: function 55 -/
mutual
def mosaicref04_Gen_Below.j0 : Nat → Int → Bool → ByteArray → Int → Option (ByteArray × Int × Int)
 | 0, _, _, _, _ => none
 | k + 1, x1, x13, x316000, x316001 => if x13 = true then (some (x316000, x316001, 0)) else (mosaicref04_Gen_Below.l0 k x1 ([] : List Int) 0 x316000 x316001)
def mosaicref04_Gen_Below.l0 : Nat → Int → List Int → Int → ByteArray → Int → Option (ByteArray × Int × Int)
 | 0, _, _, _, _, _ => none
 | k + 1, x1, x5, x6, x316000, x316001 => if x6 < 8 then ((mosaicref04_Gen_word.f k x316000 x316001 (wrap64 (x316001 + x6))).bind fun t317 => (if x5.length < 35184372088832 then (mosaicref04_Gen_Below.l0 k x1 (x5 ++ [(t317) % 4294967296]) (wrap64 (x6 + 1)) x316000 x316001) else (none))) else ((mosaicref04_Choose.f k x5 x1).bind fun bt321 => (some (x316000, wrap64 (x316001 + bt321.2), bt321.1)))
end
def mosaicref04_Gen_Below.f (k : Nat) (a0_0 : ByteArray) (a0_1 : Int) (a1 : Int) : Option (ByteArray × Int × Int) := if a1 < 1 then (mosaicref04_Gen_Below.j0 k a1 true a0_0 a0_1) else (mosaicref04_Gen_Below.j0 k a1 (decide (a1 > 2147483647)) a0_0 a0_1)
theorem mosaicref04_Gen_Below.mono_l : ∀ k, (∀ y0 y1 y2 y3, LeO (mosaicref04_Gen_Below.j0 k y0 y1 y2 y3) (mosaicref04_Gen_Below.j0 (k + 1) y0 y1 y2 y3)) ∧ (∀ y0 y1 y2 y3 y4, LeO (mosaicref04_Gen_Below.l0 k y0 y1 y2 y3 y4) (mosaicref04_Gen_Below.l0 (k + 1) y0 y1 y2 y3 y4))
 | 0 => ⟨fun _ _ _ _ r h => by simp [mosaicref04_Gen_Below.j0] at h, fun _ _ _ _ _ r h => by simp [mosaicref04_Gen_Below.l0] at h⟩
 | k + 1 => by
  obtain ⟨ih0, ih1⟩ := mosaicref04_Gen_Below.mono_l k
  refine ⟨?_, ?_⟩
  ·
   intro y0 y1 y2 y3
   unfold mosaicref04_Gen_Below.j0
   repeat' first
   | (with_reducible exact ih0 _ _ _ _)
   | (with_reducible exact ih1 _ _ _ _ _)
   | (with_reducible exact mosaicref04_Choose.mono _ _ _)
   | (with_reducible exact mosaicref04_Gen_word.mono _ _ _ _)
   | (with_reducible exact LeO.refl _)
   | (with_reducible exact LeO.none _)
   | (with_reducible refine LeO.ite ?_ ?_)
   | (with_reducible refine LeO.bind ?_ (fun _ => ?_))
   | exact ih0 _ _ _ _
   | exact ih1 _ _ _ _ _
   | exact mosaicref04_Choose.mono _ _ _
   | exact mosaicref04_Gen_word.mono _ _ _ _
   | exact LeO.none _
   | refine LeO.ite ?_ ?_
   | refine LeO.bind ?_ (fun _ => ?_)
  ·
   intro y0 y1 y2 y3 y4
   unfold mosaicref04_Gen_Below.l0
   repeat' first
   | (with_reducible exact ih0 _ _ _ _)
   | (with_reducible exact ih1 _ _ _ _ _)
   | (with_reducible exact mosaicref04_Choose.mono _ _ _)
   | (with_reducible exact mosaicref04_Gen_word.mono _ _ _ _)
   | (with_reducible exact LeO.refl _)
   | (with_reducible exact LeO.none _)
   | (with_reducible refine LeO.ite ?_ ?_)
   | (with_reducible refine LeO.bind ?_ (fun _ => ?_))
   | exact ih0 _ _ _ _
   | exact ih1 _ _ _ _ _
   | exact mosaicref04_Choose.mono _ _ _
   | exact mosaicref04_Gen_word.mono _ _ _ _
   | exact LeO.none _
   | refine LeO.ite ?_ ?_
   | refine LeO.bind ?_ (fun _ => ?_)
theorem mosaicref04_Gen_Below.mono : ∀ a0 a1 a2 k, LeO (mosaicref04_Gen_Below.f k a0 a1 a2) (mosaicref04_Gen_Below.f (k + 1) a0 a1 a2) := by
 intro a0 a1 a2 k
 obtain ⟨ih0, ih1⟩ := mosaicref04_Gen_Below.mono_l k
 unfold mosaicref04_Gen_Below.f
 repeat' first
   | (with_reducible exact ih0 _ _ _ _)
   | (with_reducible exact ih1 _ _ _ _ _)
   | (with_reducible exact mosaicref04_Choose.mono _ _ _)
   | (with_reducible exact mosaicref04_Gen_word.mono _ _ _ _)
   | (with_reducible exact LeO.refl _)
   | (with_reducible exact LeO.none _)
   | (with_reducible refine LeO.ite ?_ ?_)
   | (with_reducible refine LeO.bind ?_ (fun _ => ?_))
   | exact ih0 _ _ _ _
   | exact ih1 _ _ _ _ _
   | exact mosaicref04_Choose.mono _ _ _
   | exact mosaicref04_Gen_word.mono _ _ _ _
   | exact LeO.none _
   | refine LeO.ite ?_ ?_
   | refine LeO.bind ?_ (fun _ => ?_)
set_option maxHeartbeats 8000000 in
set_option maxRecDepth 100000 in
theorem mosaicref04_Gen_Below.calls (k : Nat) (a0_0 : ByteArray) (a0_1 : Int) (a1 : Int) (r1 : ByteArray) (r2 : Int) (r3 : Int) (w : World) (h : mosaicref04_Gen_Below.f k a0_0 a0_1 a1 = some (r1, r2, r3)) :
  Calls Tryz.prog 55 #[.agg #[.string a0_0, .int .i64 a0_1], .int .i64 a1] w fun e w' => e = .returned (.agg #[.string r1, .int .i64 r2, .int .i64 r3]) ∧ Below w.heap.size w w' := by
 have hu56 := Tryz.underlying56; have hu80 := Tryz.underlying80; have hu106 := Tryz.underlying106; have HB := Aside0.mk (Below.refl w.heap.size w)
 have H : (if a1 < 1 then (mosaicref04_Gen_Below.j0 k a1 true a0_0 a0_1) else (mosaicref04_Gen_Below.j0 k a1 (decide (a1 > 2147483647)) a0_0 a0_1)) = some (r1, r2, r3) := h
 clear h; have HC3 := Aside0.mk H
 clear H; go_enter Tryz.func55, Tryz.ntmps55
 go_upto_region 1 with (first | ((with_reducible refine gate_dst (N := 2) rfl ?_); refine box_event ?hg (N := 2) ?hd (cs := #[.string a0_0, .int .i64 a0_1]) (t := 56) ?hr ?_; (case hd => rfl); (case hg => rfl); (case hr => first | (go_simp; done) | (go_simp; rfl)); intro gb315 hg w4 hbox hb; have BK315 := Aside0.mk (hbox); have GW315 := Aside0.mk ((zg : w.heap.size ≤ gb315)); have GE315 := Aside0.mk ((zg : w.heap.size ≤ gb315)); replace HB := Aside0.mk (below_step zB hb); clear hb hbox hg) | ((with_reducible refine gate_dst (N := 4) rfl ?_); refine box_event ?hg (N := 4) ?hd (cs := #[.string (⟨#[]⟩ : ByteArray), .int .i64 0, .int .i64 0]) (t := 80) ?hr ?_; (case hd => rfl); (case hg => rfl); (case hr => first | (go_simp; done) | (go_simp; rfl)); intro gb316 hg w5 hbox hb; have n0_ := Aside0.mk (blk_below (zk BK315) hb); have n1_ := Aside0.mk (below_step zB hb); have n2_ := Aside0.mk (hbox); have n3_ := Aside0.mk ((zg : w.heap.size ≤ gb316)); have n4_ := Aside0.mk ((zg : w.heap.size ≤ gb316)); have n5_ := Aside0.mk ((by rw [hg]; exact Nat.ne_of_lt (blk_lt (zk BK315)) : gb315 ≠ gb316)); have n6_ := Aside0.mk ((by rw [hg]; exact Nat.ne_of_gt (blk_lt (zk BK315)) : gb316 ≠ gb315)); clear BK315; clear HB; have BK315 := n0_; have HB := n1_; have BK316 := n2_; have GW316 := n3_; have GE316 := n4_; have NB315_316 := n5_; have NB316_315 := n6_; clear n0_ n1_ n2_ n3_ n4_ n5_ n6_; clear hb hbox hg))
 (try simp only [Act.put, List.setIfInBounds_toArray, List.set_cons_zero, List.set_cons_succ])
 go_cut [13] (fun v13 wc => ∃ (kq : Nat) (x13_2 : Bool), v13 = .bool x13_2 ∧ Aside0 (mosaicref04_Gen_Below.j0 kq a1 x13_2 a0_0 a0_1 = some (r1, r2, r3)) ∧ Aside0 (kq ≤ k) ∧ Aside0 (wc.heap[gb315]? = some (.cells #[.string a0_0, .int .i64 a0_1] 56 (0, 0))) ∧ Aside0 (wc.heap[gb316]? = some (.cells #[.string (⟨#[]⟩ : ByteArray), .int .i64 0, .int .i64 0] 80 (0, 0))) ∧ Aside0 (Below w.heap.size w wc))
 case first =>
  have H := HC3.out; clear HC3; by_cases c6 : a1 < 1
  ·
   rw [if_pos c6] at H
   have c6b0 : decide (a1 < 1) = true := decide_eq_true c6
   clear c6; (first | rw [c6b0] | (simp only [i64_w, i32_w]; rw [c6b0]) | skip)
   have H' := Aside0.mk H
   clear H; go_wp2
   go_meet
   case rel => exact ⟨_, (true), zF, H', ⟨by first | omega | exact Nat.le_refl _⟩, ⟨zk BK315⟩, ⟨zk BK316⟩, ⟨zB⟩⟩
  ·
   rw [if_neg c6] at H
   have c6b0 : decide (a1 < 1) = false := decide_eq_false c6
   clear c6; (first | rw [c6b0] | (simp only [i64_w, i32_w]; rw [c6b0]) | skip)
   have H' := Aside0.mk H
   clear H; go_wp2
   go_meet
   case rel => exact ⟨_, (decide (a1 > 2147483647)), zF, H', ⟨by first | omega | exact Nat.le_refl _⟩, ⟨zk BK315⟩, ⟨zk BK316⟩, ⟨zB⟩⟩
 case rest =>
  clear HC3; (try clear p2); (try clear c5); (try clear c6); (try clear c6b0); obtain ⟨kq, x13_2, rfl, HA, HJ2, BK315, BK316, HB⟩ := hcut
  cases kq with
  | zero => exact absurd HA.out (by simp [mosaicref04_Gen_Below.j0])
  | succ kj2 =>
   have H := HA.out; clear HA; simp only [mosaicref04_Gen_Below.j0] at H
   by_cases c7 : x13_2 = true
   ·
    subst c7
    have H1 : (some (a0_0, a0_1, 0)) = some (r1, r2, r3) := by rw [if_pos rfl] at H; exact H
    clear H; have H := H1; clear H1; simp only [Option.some.injEq, Prod.mk.injEq] at H
    obtain ⟨rfl, rfl, rfl⟩ := H
    have hnb8 := NB315_316.out; have hnc8 := NB316_315.out; obtain ⟨hcz9_0, hcz9_1⟩ := cZ2 BK315
    obtain ⟨hfz9_0, hfz9_1⟩ := dZ2 BK315; obtain ⟨hcz10_0, hcz10_1, hcz10_2⟩ := cZ3 BK316
    obtain ⟨hfz10_0, hfz10_1, hfz10_2⟩ := dZ3 BK316; go_wp2
    refine bodyPost_ret (results_cell_row rfl _ _ gb316 80 #[.string a0_0, .int .i64 a0_1, .int .i64 0] (0, 0) _ rfl (by (with_reducible repeat (first | refine blk_drewN ?_ _ | refine blk_drew ?_ | refine blk_alloc ?_ _)); refine blk_put (cs := #[.string a0_0, .int .i64 a0_1, .int .i64 0]) ?_ 2 _ rfl; (with_reducible repeat (first | refine blk_drewN ?_ _ | refine blk_drew ?_ | refine blk_alloc ?_ _)); refine blk_put (cs := #[.string a0_0, .int .i64 0, .int .i64 0]) ?_ 1 _ rfl; (with_reducible repeat (first | refine blk_drewN ?_ _ | refine blk_drew ?_ | refine blk_alloc ?_ _)); refine blk_put (cs := #[.string (⟨#[]⟩ : ByteArray), .int .i64 0, .int .i64 0]) ?_ 0 _ rfl; (with_reducible repeat (first | refine blk_drewN ?_ _ | refine blk_drew ?_ | refine blk_alloc ?_ _)); exact BK316.out) Tryz.underlying80 rfl (by kernel_rfl)) rfl ?_
    exact ⟨zE, zB⟩
   ·
    replace c7 := Bool.eq_false_iff.mpr c7
    subst c7
    have H1 : (mosaicref04_Gen_Below.l0 kj2 a1 ([] : List Int) 0 a0_0 a0_1) = some (r1, r2, r3) := by rw [if_neg (show ¬ (false = true) by decide)] at H; exact H
    clear H; have H := H1; clear H1; have H' := Aside0.mk H
    clear H; go_wp2
    go_loopg [5, 6] kj2 (fun kq v5 v6 w' => ∃ (x5_2 : List Int) (x6_2 : Int), v6 = .int .i64 x6_2 ∧ Aside0 (mosaicref04_Gen_Below.l0 kq a1 x5_2 x6_2 a0_0 a0_1 = some (r1, r2, r3)) ∧ Aside0 (kq ≤ kj2) ∧ Aside0 (Kd.R (Kd.int .u32) 104 w' w.heap.size (fun _ => True) v5 x5_2) ∧ Aside0 (w'.heap[gb315]? = some (.cells #[.string a0_0, .int .i64 a0_1] 56 (0, 0))) ∧ Aside0 (w'.heap[gb316]? = some (.cells #[.string (⟨#[]⟩ : ByteArray), .int .i64 0, .int .i64 0] 80 (0, 0))) ∧ Aside0 (Below w.heap.size w w'))
    case atStart => exact ⟨(([] : List Int)), (0), zF, H', ⟨Nat.le_refl _⟩, ⟨by first | exact Kd.R_nil _ _ _ _ _ | exact Kd.N_nil _ _ _ _ _ | exact Kd.V_nil _ _ _ _ _ | exact Kd.Q_nil _ _ _ _ _ | exact Kd.S_nil _ _ _ _ _⟩, ⟨zk BK315⟩, ⟨zk BK316⟩, ⟨zB⟩⟩
    case round =>
     clear H'
     (try clear p2); (try clear c5); (try clear c6); (try clear c6b0); (try clear c7); (try clear c8); (try clear hcz10_0); (try clear hcz10_1); (try clear hcz10_2); (try clear hcz9_0); (try clear hcz9_1); (try clear hfz10_0); (try clear hfz10_1); (try clear hfz10_2); (try clear hfz9_0); (try clear hfz9_1); (try clear p2); obtain ⟨x5_2, x6_2, rfl, HA, HK2, HO_5, BK315, BK316, HB⟩ := hrel
     cases gk with
     | zero => exact absurd HA.out (by simp [mosaicref04_Gen_Below.l0])
     | succ k2 =>
      have H := HA.out; clear HA; simp only [mosaicref04_Gen_Below.l0] at H
      by_cases c11 : x6_2 < 8
      ·
       rw [if_pos c11] at H
       have c11b0 : decide (x6_2 < 8) = true := decide_eq_true c11
       clear c11; replace H := Option.bind_eq_some_iff.mp H
       obtain ⟨t317, A120, H⟩ := H
       replace H : (if x5_2.length < 35184372088832 then (mosaicref04_Gen_Below.l0 k2 a1 (x5_2 ++ [(t317) % 4294967296]) (wrap64 (x6_2 + 1)) a0_0 a0_1) else (none)) = some (r1, r2, r3) := H
       have A12 := Aside0.mk A120
       clear A120; by_cases c13 : x5_2.length < 35184372088832
       ·
        rw [if_pos c13] at H
        have LMc13 := Aside0.mk c13
        clear c13; obtain ⟨y318, hy318⟩ : ∃ y_ : List Int, y_ = (x5_2 ++ [(t317) % 4294967296]) := ⟨_, rfl⟩
        replace H : (mosaicref04_Gen_Below.l0 k2 a1 y318 (wrap64 (x6_2 + 1)) a0_0 a0_1) = some (r1, r2, r3) := by first | (rw [hy318]; with_reducible exact H) | (have H2_ := (Option.bind_some _ _).symm.trans H; rw [hy318]; with_reducible exact H2_) | (have H2_ := (Option.bind_some _ _).symm.trans H; with_reducible exact H2_) | with_reducible exact H | (rw [hy318]; exact H) | exact H
        have Ny318 := Aside0.mk hy318
        clear hy318; have H' := Aside0.mk H
        clear H; have hnb14 := NB315_316.out; have hnc14 := NB316_315.out; obtain ⟨hcz15_0, hcz15_1⟩ := cZ2 BK315
        obtain ⟨hfz15_0, hfz15_1⟩ := dZ2 BK315; go_wp2_with (first | ((with_reducible refine gate_callee (f := 75) rfl ?_); refine goesL_ (some 26) rfl rfl Tryz.func75 (by kernel_rfl) rfl #[.agg #[.string a0_0, .int .i64 a0_1], .int .i64 (wrap64 (a0_1 + x6_2))] rfl zM ?_; (with_reducible refine (mosaicref04_Gen_word.calls k2 a0_0 a0_1 (wrap64 (a0_1 + x6_2)) t317 _ A12.out).mono ?_); rintro e w16 ⟨rfl, hb⟩; refine ⟨_, rfl, ?_⟩; replace HO_5 := Aside0.mk (Kd.R_below (zR HO_5) hb); replace BK315 := Aside0.mk (blk_below (zk BK315) hb); replace BK316 := Aside0.mk (blk_below (zk BK316) hb); replace HB := Aside0.mk (below_step zB hb); (try clear hb); (try clear hb2); (try clear hk); (try clear hi)) | ((with_reducible refine gate_builtin (b := .append) (xs := #[.tmp 20, .tmp 28]) rfl ?_); at_builtin; refine Kd.R_append (Kd.int .u32) (w0 := w) w.heap.size rfl (.tmp 20) (.tmp 28) 103 104 (.int .u32 0) 4 rfl Tryz.underlying103 info104 rfl (by decide) (by omega) u5 x5_2 ((t317) % 4294967296) [.int .u32 ((t317) % 4294967296)] (fun _ => True) (fun _ => False) rfl rfl ?aP (fun _ hk => hk.elim) ?aF ?aO ?aB ?aS ?aL ?_; (case aP => exact rfl); (case aB => exact zB); (case aF => exact (fun _ _ => trivial)); (case aO => exact (by (with_reducible repeat (first | apply Kd.R_alloc | apply Kd.R_drewN | apply Kd.R_drew)); exact HO_5.out)); (case aS => exact (below_size zB)); (case aL => have := LMc13.out; omega); intro v319 w17 ho hb hg hat; rw [← Ny318.out] at ho; replace BK315 := Aside0.mk (blk_grown (zk BK315) hg (Kd.R_ne HO_5.out BK315.out (by decide))); replace BK316 := Aside0.mk (blk_grown (zk BK316) hg (Kd.R_ne HO_5.out BK316.out (by decide))); have HO320 := Aside0.mk (ho); replace HB := Aside0.mk (hb); clear HO_5; clear ho hb hg hat))
        go_roundg k2
        case measure => have := HJ2.out; have := HK2.out; omega
        case rel => exact ⟨(y318), (wrap64 (x6_2 + 1)), zF, H', ⟨by have := HJ2.out; have := HK2.out; omega⟩, ⟨zR HO320⟩, ⟨zk BK315⟩, ⟨zk BK316⟩, ⟨zB⟩⟩
       ·
        rw [if_neg c13] at H
        exact absurd H (by simp)
      ·
       rw [if_neg c11] at H
       have c11b0 : decide (x6_2 < 8) = false := decide_eq_false c11
       clear c11; replace H := Option.bind_eq_some_iff.mp H
       obtain ⟨⟨t321, t322⟩, A180, H⟩ := H
       replace H : (some (a0_0, wrap64 (a0_1 + t322), t321)) = some (r1, r2, r3) := H
       have A18 := Aside0.mk A180
       clear A180; simp only [Option.some.injEq, Prod.mk.injEq] at H
       obtain ⟨rfl, rfl, rfl⟩ := H
       obtain ⟨Ao19, co19, eo19⟩ := Kd.R_slice HO_5.out
       subst eo19
       go_wp2_with (first | ((with_reducible refine gate_callee (f := 76) rfl ?_); refine goesL_ (some 32) rfl rfl Tryz.func76 (by kernel_rfl) rfl #[.slice Ao19 x5_2.length co19, .int .i64 a1] rfl zM ?_; (with_reducible refine (mosaicref04_Choose.calls k2 _ _ x5_2 a1 t321 t322 _ ?side1 ?side2 A18.out).mono ?_); (case side1 => repeat (first | exact (Kd.R_reads' HO_5.out).2.2 | (with_reducible refine Kd.C_alloc ?_ _) | (with_reducible refine Kd.C_drewN ?_ _) | (with_reducible refine Kd.C_drew ?_))); (case side2 => exact (Kd.R_reads' HO_5.out).2.1); rintro e w20 ⟨rfl, hb⟩; refine ⟨_, rfl, ?_⟩; replace HO_5 := Aside0.mk (Kd.R_below (zR HO_5) hb); replace BK315 := Aside0.mk (blk_below (zk BK315) hb); replace BK316 := Aside0.mk (blk_below (zk BK316) hb); replace HB := Aside0.mk (below_step zB hb); (try clear hb); (try clear hb2); (try clear hk); (try clear hi)) | ((with_reducible refine gate_dst (N := 7) rfl ?_); refine box_event ?hg (N := 7) ?hd (cs := #[.int .i64 0, .int .i64 0]) (t := 106) ?hr ?_; (case hd => rfl); (case hg => rfl); (case hr => first | (go_simp; done) | (go_simp; rfl)); intro gb323 hg w21 hbox hb; have n0_ := Aside0.mk (Kd.R_below (zR HO_5) hb); have n1_ := Aside0.mk (blk_below (zk BK315) hb); have n2_ := Aside0.mk (blk_below (zk BK316) hb); have n3_ := Aside0.mk (below_step zB hb); have n4_ := Aside0.mk (hbox); have n5_ := Aside0.mk ((zg : w.heap.size ≤ gb323)); have n6_ := Aside0.mk ((zg : w.heap.size ≤ gb323)); have n7_ := Aside0.mk ((by rw [hg]; exact Nat.ne_of_lt (blk_lt (zk BK315)) : gb315 ≠ gb323)); have n8_ := Aside0.mk ((by rw [hg]; exact Nat.ne_of_gt (blk_lt (zk BK315)) : gb323 ≠ gb315)); have n9_ := Aside0.mk ((by rw [hg]; exact Nat.ne_of_lt (blk_lt (zk BK316)) : gb316 ≠ gb323)); have n10_ := Aside0.mk ((by rw [hg]; exact Nat.ne_of_gt (blk_lt (zk BK316)) : gb323 ≠ gb316)); clear HO_5; clear BK315; clear BK316; clear HB; have HO_5 := n0_; have BK315 := n1_; have BK316 := n2_; have HB := n3_; have BK323 := n4_; have GW323 := n5_; have GE323 := n6_; have NB315_323 := n7_; have NB323_315 := n8_; have NB316_323 := n9_; have NB323_316 := n10_; clear n0_ n1_ n2_ n3_ n4_ n5_ n6_ n7_ n8_ n9_ n10_; clear hb hbox hg; have hnb22 := NB323_315.out; have hnc22 := NB315_323.out; have hnb23 := NB323_316.out; have hnc23 := NB316_323.out; obtain ⟨hcz24_0, hcz24_1⟩ := cZ2 BK323; obtain ⟨hfz24_0, hfz24_1⟩ := dZ2 BK323; have hnb25 := NB315_316.out; have hnc25 := NB316_315.out; obtain ⟨hcz26_0, hcz26_1⟩ := cZ2 BK315; obtain ⟨hfz26_0, hfz26_1⟩ := dZ2 BK315; obtain ⟨hcz27_0, hcz27_1, hcz27_2⟩ := cZ3 BK316; obtain ⟨hfz27_0, hfz27_1, hfz27_2⟩ := dZ3 BK316))
       refine bodyPost_ret (results_cell_row rfl _ _ gb316 80 #[.string a0_0, .int .i64 (wrap64 (a0_1 + t322)), .int .i64 t321] (0, 0) _ rfl (by (with_reducible repeat (first | refine blk_drewN ?_ _ | refine blk_drew ?_ | refine blk_alloc ?_ _)); refine blk_put (cs := #[.string a0_0, .int .i64 (wrap64 (a0_1 + t322)), .int .i64 0]) ?_ 2 _ rfl; (with_reducible repeat (first | refine blk_drewN ?_ _ | refine blk_drew ?_ | refine blk_alloc ?_ _)); refine blk_put (cs := #[.string a0_0, .int .i64 0, .int .i64 0]) ?_ 1 _ rfl; (with_reducible repeat (first | refine blk_drewN ?_ _ | refine blk_drew ?_ | refine blk_alloc ?_ _)); refine blk_put (cs := #[.string (⟨#[]⟩ : ByteArray), .int .i64 0, .int .i64 0]) ?_ 0 _ rfl; (with_reducible repeat (first | refine blk_drewN ?_ _ | refine blk_drew ?_ | refine blk_alloc ?_ _)); refine blk_far ?_ NB316_323.out _; (with_reducible repeat (first | refine blk_drewN ?_ _ | refine blk_drew ?_ | refine blk_alloc ?_ _)); refine blk_far ?_ NB316_323.out _; (with_reducible repeat (first | refine blk_drewN ?_ _ | refine blk_drew ?_ | refine blk_alloc ?_ _)); exact BK316.out) Tryz.underlying80 rfl (by kernel_rfl)) rfl ?_
       exact ⟨zE, zB⟩
end Go.Proofs.YtghhmnjkgnoogaaGreat.POuterWholes
