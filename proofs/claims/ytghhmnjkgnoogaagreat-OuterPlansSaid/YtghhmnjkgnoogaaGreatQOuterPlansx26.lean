-- Written by this session's own program (wip/tools/mkprint.py) over the kit's printer, with overrides.
import Derived.Test.YtghhmnjkgnoogaaGreatTOuterPlansa
import Derived.Test.YtghhmnjkgnoogaaGreatQOuterPlansx0
import Derived.Test.YtghhmnjkgnoogaaGreatQOuterPlansx25
namespace Go.Proofs.YtghhmnjkgnoogaaGreat.POuterPlans
open Go.RowKit Go.Mine Go.Proofs.YtghhmnjkgnoogaaGreatW.PrintWords Go.Proofs.YtghhmnjkgnoogaaGreatW.PrintLast Go.Proofs.YtghhmnjkgnoogaaGreatW.PrintMore
attribute [local go_sem] max2_int min2_int max_two min_two max_three min_three max_four min_four   -- for this text's walks alone
set_option linter.unusedVariables false
set_option linter.unusedSimpArgs false
/-! ### mosaicref04_Gen_Pick: function 31 -/
/-- The Bools of a number's bits. -/
def mkB31 (w m : Nat) : Array Bool := ⟨(List.range w).map fun i => m.testBit i⟩
mutual
def mosaicref04_Gen_Pick.j0 : Nat → Int → Int → Bool → ByteArray → Int → Option (ByteArray × Int × List Int)
 | 0, _, _, _, _, _ => none
 | k + 1, x1, x2, x28, x331000, x331001 => if x28 = true then (some (x331000, x331001, ([] : List Int))) else (mosaicref04_Gen_Pick.l0 k x1 x2 ([] : List Int) 0 x331000 x331001)
def mosaicref04_Gen_Pick.l0 : Nat → Int → Int → List Int → Int → ByteArray → Int → Option (ByteArray × Int × List Int)
 | 0, _, _, _, _, _, _ => none
 | k + 1, x1, x2, x7, x8, x331000, x331001 => if x8 < x1 then (if x7.length < 17592186044416 then (mosaicref04_Gen_Pick.l0 k x1 x2 (x7 ++ [x8]) (wrap64 (x8 + 1)) x331000 x331001) else (none)) else (mosaicref04_Gen_Pick.l1 k x1 x2 x7 0 x331000 x331001 ([] : List Int))
def mosaicref04_Gen_Pick.l1 : Nat → Int → Int → List Int → Int → ByteArray → Int → List Int → Option (ByteArray × Int × List Int)
 | 0, _, _, _, _, _, _, _ => none
 | k + 1, x1, x2, x7, x10, x336000, x336001, x336002 => if x10 < x2 then ((mosaicref04_Gen_Below.f k x336000 x336001 (wrap64 (x1 - x10))).bind fun bt336 => (if 0 ≤ x10 then (if x10 < (x7.length : Int) then (if 0 ≤ (wrap64 (x10 + bt336.2.2)) then (if (wrap64 (x10 + bt336.2.2)) < (x7.length : Int) then ((some ((x7.set (x10 : Int).toNat (rd x7 (wrap64 (x10 + bt336.2.2)))).set ((wrap64 (x10 + bt336.2.2)) : Int).toNat (rd x7 x10) : List Int)).bind fun y343 => (if x336002.length < 17592186044416 then (mosaicref04_Gen_Pick.l1 k x1 x2 y343 (wrap64 (x10 + 1)) bt336.1 bt336.2.1 (x336002 ++ [rd y343 x10])) else (none))) else (none)) else (none)) else (none)) else (none))) else (some (x336000, x336001, x336002))
end
def mosaicref04_Gen_Pick.f (k : Nat) (a0_0 : ByteArray) (a0_1 : Int) (a1 : Int) (a2 : Int) : Option (ByteArray × Int × List Int) := if a1 < 0 then (mosaicref04_Gen_Pick.j0 k a1 a2 true a0_0 a0_1) else (if a1 > 4096 then (mosaicref04_Gen_Pick.j0 k a1 a2 true a0_0 a0_1) else (if a2 < 0 then (mosaicref04_Gen_Pick.j0 k a1 a2 true a0_0 a0_1) else (mosaicref04_Gen_Pick.j0 k a1 a2 (decide (a2 > a1)) a0_0 a0_1)))
theorem mosaicref04_Gen_Pick.mono_l : ∀ k, (∀ y0 y1 y2 y3 y4, LeO (mosaicref04_Gen_Pick.j0 k y0 y1 y2 y3 y4) (mosaicref04_Gen_Pick.j0 (k + 1) y0 y1 y2 y3 y4)) ∧ (∀ y0 y1 y2 y3 y4 y5, LeO (mosaicref04_Gen_Pick.l0 k y0 y1 y2 y3 y4 y5) (mosaicref04_Gen_Pick.l0 (k + 1) y0 y1 y2 y3 y4 y5)) ∧ (∀ y0 y1 y2 y3 y4 y5 y6, LeO (mosaicref04_Gen_Pick.l1 k y0 y1 y2 y3 y4 y5 y6) (mosaicref04_Gen_Pick.l1 (k + 1) y0 y1 y2 y3 y4 y5 y6))
 | 0 => ⟨fun _ _ _ _ _ r h => by simp [mosaicref04_Gen_Pick.j0] at h, fun _ _ _ _ _ _ r h => by simp [mosaicref04_Gen_Pick.l0] at h, fun _ _ _ _ _ _ _ r h => by simp [mosaicref04_Gen_Pick.l1] at h⟩
 | k + 1 => by
  obtain ⟨ih0, ih1, ih2⟩ := mosaicref04_Gen_Pick.mono_l k
  refine ⟨?_, ?_, ?_⟩
  ·
   intro y0 y1 y2 y3 y4
   unfold mosaicref04_Gen_Pick.j0
   repeat' first
   | (with_reducible exact ih0 _ _ _ _ _)
   | (with_reducible exact ih1 _ _ _ _ _ _)
   | (with_reducible exact ih2 _ _ _ _ _ _ _)
   | (with_reducible exact mosaicref04_Gen_Below.mono _ _ _ _)
   | (with_reducible exact LeO.refl _)
   | (with_reducible exact LeO.none _)
   | (with_reducible refine LeO.ite ?_ ?_)
   | (with_reducible refine LeO.bind ?_ (fun _ => ?_))
   | exact ih0 _ _ _ _ _
   | exact ih1 _ _ _ _ _ _
   | exact ih2 _ _ _ _ _ _ _
   | exact mosaicref04_Gen_Below.mono _ _ _ _
   | exact LeO.none _
   | refine LeO.ite ?_ ?_
   | refine LeO.bind ?_ (fun _ => ?_)
  ·
   intro y0 y1 y2 y3 y4 y5
   unfold mosaicref04_Gen_Pick.l0
   repeat' first
   | (with_reducible exact ih0 _ _ _ _ _)
   | (with_reducible exact ih1 _ _ _ _ _ _)
   | (with_reducible exact ih2 _ _ _ _ _ _ _)
   | (with_reducible exact mosaicref04_Gen_Below.mono _ _ _ _)
   | (with_reducible exact LeO.refl _)
   | (with_reducible exact LeO.none _)
   | (with_reducible refine LeO.ite ?_ ?_)
   | (with_reducible refine LeO.bind ?_ (fun _ => ?_))
   | exact ih0 _ _ _ _ _
   | exact ih1 _ _ _ _ _ _
   | exact ih2 _ _ _ _ _ _ _
   | exact mosaicref04_Gen_Below.mono _ _ _ _
   | exact LeO.none _
   | refine LeO.ite ?_ ?_
   | refine LeO.bind ?_ (fun _ => ?_)
  ·
   intro y0 y1 y2 y3 y4 y5 y6
   unfold mosaicref04_Gen_Pick.l1
   repeat' first
   | (with_reducible exact ih0 _ _ _ _ _)
   | (with_reducible exact ih1 _ _ _ _ _ _)
   | (with_reducible exact ih2 _ _ _ _ _ _ _)
   | (with_reducible exact mosaicref04_Gen_Below.mono _ _ _ _)
   | (with_reducible exact LeO.refl _)
   | (with_reducible exact LeO.none _)
   | (with_reducible refine LeO.ite ?_ ?_)
   | (with_reducible refine LeO.bind ?_ (fun _ => ?_))
   | exact ih0 _ _ _ _ _
   | exact ih1 _ _ _ _ _ _
   | exact ih2 _ _ _ _ _ _ _
   | exact mosaicref04_Gen_Below.mono _ _ _ _
   | exact LeO.none _
   | refine LeO.ite ?_ ?_
   | refine LeO.bind ?_ (fun _ => ?_)
theorem mosaicref04_Gen_Pick.mono : ∀ a0 a1 a2 a3 k, LeO (mosaicref04_Gen_Pick.f k a0 a1 a2 a3) (mosaicref04_Gen_Pick.f (k + 1) a0 a1 a2 a3) := by
 intro a0 a1 a2 a3 k
 obtain ⟨ih0, ih1, ih2⟩ := mosaicref04_Gen_Pick.mono_l k
 unfold mosaicref04_Gen_Pick.f
 repeat' first
   | (with_reducible exact ih0 _ _ _ _ _)
   | (with_reducible exact ih1 _ _ _ _ _ _)
   | (with_reducible exact ih2 _ _ _ _ _ _ _)
   | (with_reducible exact mosaicref04_Gen_Below.mono _ _ _ _)
   | (with_reducible exact LeO.refl _)
   | (with_reducible exact LeO.none _)
   | (with_reducible refine LeO.ite ?_ ?_)
   | (with_reducible refine LeO.bind ?_ (fun _ => ?_))
   | exact ih0 _ _ _ _ _
   | exact ih1 _ _ _ _ _ _
   | exact ih2 _ _ _ _ _ _ _
   | exact mosaicref04_Gen_Below.mono _ _ _ _
   | exact LeO.none _
   | refine LeO.ite ?_ ?_
   | refine LeO.bind ?_ (fun _ => ?_)
def mosaicref04_Gen_Pick.T18 : Bool × List (List Nat × List Nat) := (true, [([], []), ([0], [0]), ([], []), ([], []), ([2, 3], [2, 3]), ([4], [4]), ([5], [5]), ([1, 6], [1, 6]), ([0, 1, 2, 3, 4, 5, 6, 7], []), ([8, 7, 7, 0, 1, 2, 3, 4, 5, 6, 7], [7, 8])])
def mosaicref04_Gen_Pick.B18 : List Nat := [0, 1, 0, 0, 12, 28, 60, 127, 255, 511]
theorem mosaicref04_Gen_Pick.tab18 : rtab .any (opsOf Tryz.f31 18) = mosaicref04_Gen_Pick.T18 := by kernel_rfl
theorem mosaicref04_Gen_Pick.bits18 : waitsOk mosaicref04_Gen_Pick.T18.2 mosaicref04_Gen_Pick.B18 = true := by kernel_rfl
set_option maxHeartbeats 8000000 in
set_option maxRecDepth 100000 in
theorem mosaicref04_Gen_Pick.calls (k : Nat) (a0_0 : ByteArray) (a0_1 : Int) (a1 : Int) (a2 : Int) (r1 : ByteArray) (r2 : Int) (r3 : List Int) (w : World) (h : mosaicref04_Gen_Pick.f k a0_0 a0_1 a1 a2 = some (r1, r2, r3)) :
  Calls Tryz.prog 31 #[.agg #[.string a0_0, .int .i64 a0_1], .int .i64 a1, .int .i64 a2] w fun e w' => ∃ v2_ : Value, e = .returned (.agg #[.string r1, .int .i64 r2, v2_]) ∧ Kd.R (Kd.int .i64) 3 w' w.heap.size (fun _ => True) v2_ r3 ∧ Below w.heap.size w w' := by
 have hu56 := Tryz.underlying56; have hu58 := Tryz.underlying58; have hu80 := Tryz.underlying80; have HB := Aside0.mk (Below.refl w.heap.size w)
 have H : (if a1 < 0 then (mosaicref04_Gen_Pick.j0 k a1 a2 true a0_0 a0_1) else (if a1 > 4096 then (mosaicref04_Gen_Pick.j0 k a1 a2 true a0_0 a0_1) else (if a2 < 0 then (mosaicref04_Gen_Pick.j0 k a1 a2 true a0_0 a0_1) else (mosaicref04_Gen_Pick.j0 k a1 a2 (decide (a2 > a1)) a0_0 a0_1)))) = some (r1, r2, r3) := h
 clear h; have HC4 := Aside0.mk H
 clear H; go_enter Tryz.func31, Tryz.ntmps31
 go_upto_region 1 with (first | ((with_reducible refine gate_dst (N := 3) rfl ?_); refine box_event ?hg (N := 3) ?hd (cs := #[.string a0_0, .int .i64 a0_1]) (t := 56) ?hr ?_; (case hd => rfl); (case hg => rfl); (case hr => first | (go_simp; done) | (go_simp; rfl)); intro gb330 hg w5 hbox hb; have BK330 := Aside0.mk (hbox); have GW330 := Aside0.mk ((zg : w.heap.size ≤ gb330)); have GE330 := Aside0.mk ((zg : w.heap.size ≤ gb330)); replace HB := Aside0.mk (below_step zB hb); clear hb hbox hg) | ((with_reducible refine gate_dst (N := 6) rfl ?_); refine box_event ?hg (N := 6) ?hd (cs := #[.string (⟨#[]⟩ : ByteArray), .int .i64 0, .slice none 0 0]) (t := 58) ?hr ?_; (case hd => rfl); (case hg => rfl); (case hr => first | (go_simp; done) | (go_simp; rfl)); intro gb331 hg w6 hbox hb; have n0_ := Aside0.mk (blk_below (zk BK330) hb); have n1_ := Aside0.mk (below_step zB hb); have n2_ := Aside0.mk (hbox); have n3_ := Aside0.mk ((zg : w.heap.size ≤ gb331)); have n4_ := Aside0.mk ((zg : w.heap.size ≤ gb331)); have n5_ := Aside0.mk ((by rw [hg]; exact Nat.ne_of_lt (blk_lt (zk BK330)) : gb330 ≠ gb331)); have n6_ := Aside0.mk ((by rw [hg]; exact Nat.ne_of_gt (blk_lt (zk BK330)) : gb331 ≠ gb330)); clear BK330; clear HB; have BK330 := n0_; have HB := n1_; have BK331 := n2_; have GW331 := n3_; have GE331 := n4_; have NB330_331 := n5_; have NB331_330 := n6_; clear n0_ n1_ n2_ n3_ n4_ n5_ n6_; clear hb hbox hg))
 (try simp only [Act.put, List.setIfInBounds_toArray, List.set_cons_zero, List.set_cons_succ])
 go_cut [28] (fun v28 wc => ∃ (kq : Nat) (x28_3 : Bool), v28 = .bool x28_3 ∧ Aside0 (mosaicref04_Gen_Pick.j0 kq a1 a2 x28_3 a0_0 a0_1 = some (r1, r2, r3)) ∧ Aside0 (kq ≤ k) ∧ Aside0 (wc.heap[gb330]? = some (.cells #[.string a0_0, .int .i64 a0_1] 56 (0, 0))) ∧ Aside0 (wc.heap[gb331]? = some (.cells #[.string (⟨#[]⟩ : ByteArray), .int .i64 0, (.slice none 0 0)] 58 (0, 0))) ∧ Aside0 (Below w.heap.size w wc))
 case first =>
  have H := HC4.out; clear HC4; by_cases c7 : a1 < 0
  ·
   rw [if_pos c7] at H
   have c7b0 : decide (a1 < 0) = true := decide_eq_true c7
   clear c7; (first | rw [c7b0] | (simp only [i64_w, i32_w]; rw [c7b0]) | skip)
   have H' := Aside0.mk H
   clear H; go_wp2
   go_meet
   case rel => exact ⟨_, (true), zF, H', ⟨by first | omega | exact Nat.le_refl _⟩, ⟨zk BK330⟩, ⟨zk BK331⟩, ⟨zB⟩⟩
  ·
   rw [if_neg c7] at H
   have c7b0 : decide (a1 < 0) = false := decide_eq_false c7
   clear c7; (first | rw [c7b0] | (simp only [i64_w, i32_w]; rw [c7b0]) | skip)
   by_cases c8 : a1 > 4096
   ·
    rw [if_pos c8] at H
    have c8b0 : decide (4096 < a1) = true := decide_eq_true c8
    clear c8; have H' := Aside0.mk H
    clear H; go_wp2
    go_meet
    case rel => exact ⟨_, (true), zF, H', ⟨by first | omega | exact Nat.le_refl _⟩, ⟨zk BK330⟩, ⟨zk BK331⟩, ⟨zB⟩⟩
   ·
    rw [if_neg c8] at H
    have c8b0 : decide (4096 < a1) = false := decide_eq_false c8
    clear c8; by_cases c9 : a2 < 0
    ·
     rw [if_pos c9] at H
     have c9b0 : decide (a2 < 0) = true := decide_eq_true c9
     clear c9; have H' := Aside0.mk H
     clear H; go_wp2
     go_meet
     case rel => exact ⟨_, (true), zF, H', ⟨by first | omega | exact Nat.le_refl _⟩, ⟨zk BK330⟩, ⟨zk BK331⟩, ⟨zB⟩⟩
    ·
     rw [if_neg c9] at H
     have c9b0 : decide (a2 < 0) = false := decide_eq_false c9
     clear c9; have H' := Aside0.mk H
     clear H; go_wp2
     go_meet
     case rel => exact ⟨_, (decide (a2 > a1)), zF, H', ⟨by first | omega | exact Nat.le_refl _⟩, ⟨zk BK330⟩, ⟨zk BK331⟩, ⟨zB⟩⟩
 case rest =>
  clear HC4; (try clear p2); (try clear c3); (try clear c7); (try clear c7b0); (try clear c8); (try clear c8b0); (try clear c9); (try clear c9b0); obtain ⟨kq, x28_3, rfl, HA, HJ3, BK330, BK331, HB⟩ := hcut
  cases kq with
  | zero => exact absurd HA.out (by simp [mosaicref04_Gen_Pick.j0])
  | succ kj3 =>
   have H := HA.out; clear HA; simp only [mosaicref04_Gen_Pick.j0] at H
   by_cases c10 : x28_3 = true
   ·
    subst c10
    have H1 : (some (a0_0, a0_1, ([] : List Int))) = some (r1, r2, r3) := by rw [if_pos rfl] at H; exact H
    clear H; have H := H1; clear H1; simp only [Option.some.injEq, Prod.mk.injEq] at H
    obtain ⟨rfl, rfl, rfl⟩ := H
    have hnb11 := NB330_331.out; have hnc11 := NB331_330.out; obtain ⟨hcz12_0, hcz12_1⟩ := cZ2 BK330
    obtain ⟨hfz12_0, hfz12_1⟩ := dZ2 BK330; obtain ⟨hcz13_0, hcz13_1, hcz13_2⟩ := cZ3 BK331
    obtain ⟨hfz13_0, hfz13_1, hfz13_2⟩ := dZ3 BK331; go_wp2
    refine bodyPost_ret (results_cell_row rfl _ _ gb331 58 #[.string a0_0, .int .i64 a0_1, .slice none 0 0] (0, 0) _ rfl (by (with_reducible repeat (first | refine blk_drewN ?_ _ | refine blk_drew ?_ | refine blk_alloc ?_ _)); refine blk_put (cs := #[.string a0_0, .int .i64 a0_1, .slice none 0 0]) ?_ 2 _ rfl; (with_reducible repeat (first | refine blk_drewN ?_ _ | refine blk_drew ?_ | refine blk_alloc ?_ _)); refine blk_put (cs := #[.string a0_0, .int .i64 0, .slice none 0 0]) ?_ 1 _ rfl; (with_reducible repeat (first | refine blk_drewN ?_ _ | refine blk_drew ?_ | refine blk_alloc ?_ _)); refine blk_put (cs := #[.string (⟨#[]⟩ : ByteArray), .int .i64 0, .slice none 0 0]) ?_ 0 _ rfl; (with_reducible repeat (first | refine blk_drewN ?_ _ | refine blk_drew ?_ | refine blk_alloc ?_ _)); exact BK331.out) Tryz.underlying58 rfl (by kernel_rfl)) rfl ?_
    exact ⟨_, zE, by first | exact Kd.R_nil _ _ _ _ _ | exact Kd.N_nil _ _ _ _ _ | exact Kd.V_nil _ _ _ _ _ | exact Kd.Q_nil _ _ _ _ _ | exact Kd.S_nil _ _ _ _ _, zB⟩
   ·
    replace c10 := Bool.eq_false_iff.mpr c10
    subst c10
    have H1 : (mosaicref04_Gen_Pick.l0 kj3 a1 a2 ([] : List Int) 0 a0_0 a0_1) = some (r1, r2, r3) := by rw [if_neg (show ¬ (false = true) by decide)] at H; exact H
    clear H; have H := H1; clear H1; have H' := Aside0.mk H
    clear H; go_wp2
    go_loopg [7, 8] kj3 (fun kq v7 v8 w' => ∃ (x7_2 : List Int) (x8_2 : Int), v8 = .int .i64 x8_2 ∧ Aside0 (mosaicref04_Gen_Pick.l0 kq a1 a2 x7_2 x8_2 a0_0 a0_1 = some (r1, r2, r3)) ∧ Aside0 (kq ≤ kj3) ∧ Aside0 (Kd.R (Kd.int .i64) 3 w' w.heap.size (fun _ => True) v7 x7_2) ∧ Aside0 (w'.heap[gb330]? = some (.cells #[.string a0_0, .int .i64 a0_1] 56 (0, 0))) ∧ Aside0 (w'.heap[gb331]? = some (.cells #[.string (⟨#[]⟩ : ByteArray), .int .i64 0, (.slice none 0 0)] 58 (0, 0))) ∧ Aside0 (Below w.heap.size w w'))
    case atStart => exact ⟨(([] : List Int)), (0), zF, H', ⟨Nat.le_refl _⟩, ⟨by first | exact Kd.R_nil _ _ _ _ _ | exact Kd.N_nil _ _ _ _ _ | exact Kd.V_nil _ _ _ _ _ | exact Kd.Q_nil _ _ _ _ _ | exact Kd.S_nil _ _ _ _ _⟩, ⟨zk BK330⟩, ⟨zk BK331⟩, ⟨zB⟩⟩
    case round =>
     clear H'
     (try clear c1); (try clear p2); (try clear c3); (try clear c7); (try clear c7b0); (try clear c8); (try clear c8b0); (try clear c9); (try clear c9b0); (try clear c10); (try clear c11); (try clear hcz12_0); (try clear hcz12_1); (try clear hcz13_0); (try clear hcz13_1); (try clear hcz13_2); (try clear hfz12_0); (try clear hfz12_1); (try clear hfz13_0); (try clear hfz13_1); (try clear hfz13_2); (try clear p2); obtain ⟨x7_2, x8_2, rfl, HA, HK2, HO_7, BK330, BK331, HB⟩ := hrel
     cases gk with
     | zero => exact absurd HA.out (by simp [mosaicref04_Gen_Pick.l0])
     | succ k2 =>
      have H := HA.out; clear HA; simp only [mosaicref04_Gen_Pick.l0] at H
      by_cases c14 : x8_2 < a1
      ·
       rw [if_pos c14] at H
       have c14b0 : decide (x8_2 < a1) = true := decide_eq_true c14
       clear c14; by_cases c15 : x7_2.length < 17592186044416
       ·
        rw [if_pos c15] at H
        have LMc15 := Aside0.mk c15
        clear c15; obtain ⟨y332, hy332⟩ : ∃ y_ : List Int, y_ = (x7_2 ++ [x8_2]) := ⟨_, rfl⟩
        replace H : (mosaicref04_Gen_Pick.l0 k2 a1 a2 y332 (wrap64 (x8_2 + 1)) a0_0 a0_1) = some (r1, r2, r3) := by first | (rw [hy332]; with_reducible exact H) | (have H2_ := (Option.bind_some _ _).symm.trans H; rw [hy332]; with_reducible exact H2_) | (have H2_ := (Option.bind_some _ _).symm.trans H; with_reducible exact H2_) | with_reducible exact H | (rw [hy332]; exact H) | exact H
        have Ny332 := Aside0.mk hy332
        clear hy332; have H' := Aside0.mk H
        clear H; go_wp2_with (first | ((with_reducible refine gate_builtin (b := .append) (xs := #[.tmp 36, .tmp 38]) rfl ?_); at_builtin; refine Kd.R_append (Kd.int .i64) (w0 := w) w.heap.size rfl (.tmp 36) (.tmp 38) 26 3 (.int .i64 0) 8 rfl Tryz.underlying26 info3 rfl (by decide) (by omega) u7 x7_2 x8_2 [.int .i64 x8_2] (fun _ => True) (fun _ => False) rfl rfl ?aP (fun _ hk => hk.elim) ?aF ?aO ?aB ?aS ?aL ?_; (case aP => exact rfl); (case aB => exact zB); (case aF => exact (fun _ _ => trivial)); (case aO => exact (by (with_reducible repeat (first | apply Kd.R_alloc | apply Kd.R_drewN | apply Kd.R_drew)); exact HO_7.out)); (case aS => exact (below_size zB)); (case aL => have := LMc15.out; omega); intro v333 w16 ho hb hg hat; rw [← Ny332.out] at ho; replace BK330 := Aside0.mk (blk_grown (zk BK330) hg (Kd.R_ne HO_7.out BK330.out (by decide))); replace BK331 := Aside0.mk (blk_grown (zk BK331) hg (Kd.R_ne HO_7.out BK331.out (by decide))); have HO334 := Aside0.mk (ho); replace HB := Aside0.mk (hb); clear HO_7; clear ho hb hg hat))
        go_roundg k2
        case measure => have := HJ3.out; have := HK2.out; omega
        case rel => exact ⟨(y332), (wrap64 (x8_2 + 1)), zF, H', ⟨by have := HJ3.out; have := HK2.out; omega⟩, ⟨zR HO334⟩, ⟨zk BK330⟩, ⟨zk BK331⟩, ⟨zB⟩⟩
       ·
        rw [if_neg c15] at H
        exact absurd H (by simp)
      ·
       rw [if_neg c14] at H
       have c14b0 : decide (x8_2 < a1) = false := decide_eq_false c14
       clear c14; have H' := Aside0.mk H
       clear H; have hnb17 := NB330_331.out; have hnc17 := NB331_330.out; obtain ⟨hcz18_0, hcz18_1⟩ := cZ2 BK330
       obtain ⟨hfz18_0, hfz18_1⟩ := dZ2 BK330; go_wp2_with (first | ((with_reducible refine gate_dst (N := 9) rfl ?_); refine box_event ?hg (N := 9) ?hd (cs := #[.string (⟨#[]⟩ : ByteArray), .int .i64 0, .slice none 0 0]) (t := 58) ?hr ?_; (case hd => rfl); (case hg => rfl); (case hr => first | (go_simp; done) | (go_simp; rfl)); intro gb335 hg w19 hbox hb; have n0_ := Aside0.mk (Kd.R_below (zR HO_7) hb); have n1_ := Aside0.mk (blk_below (zk BK330) hb); have n2_ := Aside0.mk (blk_below (zk BK331) hb); have n3_ := Aside0.mk (below_step zB hb); have n4_ := Aside0.mk (hbox); have n5_ := Aside0.mk ((zg : w.heap.size ≤ gb335)); have n6_ := Aside0.mk ((zg : w.heap.size ≤ gb335)); have n7_ := Aside0.mk ((by rw [hg]; exact Nat.ne_of_lt (blk_lt (zk BK330)) : gb330 ≠ gb335)); have n8_ := Aside0.mk ((by rw [hg]; exact Nat.ne_of_gt (blk_lt (zk BK330)) : gb335 ≠ gb330)); have n9_ := Aside0.mk ((by rw [hg]; exact Nat.ne_of_lt (blk_lt (zk BK331)) : gb331 ≠ gb335)); have n10_ := Aside0.mk ((by rw [hg]; exact Nat.ne_of_gt (blk_lt (zk BK331)) : gb335 ≠ gb331)); clear HO_7; clear BK330; clear BK331; clear HB; have HO_7 := n0_; have BK330 := n1_; have BK331 := n2_; have HB := n3_; have BK335 := n4_; have GW335 := n5_; have GE335 := n6_; have NB330_335 := n7_; have NB335_330 := n8_; have NB331_335 := n9_; have NB335_331 := n10_; clear n0_ n1_ n2_ n3_ n4_ n5_ n6_ n7_ n8_ n9_ n10_; clear hb hbox hg; have hnb20 := NB335_330.out; have hnc20 := NB330_335.out; have hnb21 := NB335_331.out; have hnc21 := NB331_335.out; obtain ⟨hcz22_0, hcz22_1, hcz22_2⟩ := cZ3 BK335; obtain ⟨hfz22_0, hfz22_1, hfz22_2⟩ := dZ3 BK335))
       go_loopg [10] k2 (fun kq v10 w' => ∃ (x7_3 : List Int) (x10_3 : Int) (x336000_3 : ByteArray) (x336001_3 : Int) (x336002_3 : List Int) (u336002 : Value), v10 = .int .i64 x10_3 ∧ Aside0 (mosaicref04_Gen_Pick.l1 kq a1 a2 x7_3 x10_3 x336000_3 x336001_3 x336002_3 = some (r1, r2, r3)) ∧ Aside0 (kq ≤ k2) ∧ Aside0 (Kd.R (Kd.int .i64) 3 w' w.heap.size (fun k_ => some k_ ≠ (u336002 : Value).ownBlock) u7 x7_3) ∧ Aside0 (Kd.R (Kd.int .i64) 3 w' w.heap.size (fun k_ => some k_ ≠ (u7 : Value).ownBlock) u336002 x336002_3) ∧ Aside0 (w'.heap[gb330]? = some (.cells #[.string a0_0, .int .i64 a0_1] 56 (0, 0))) ∧ Aside0 (w'.heap[gb331]? = some (.cells #[.string (⟨#[]⟩ : ByteArray), .int .i64 0, (.slice none 0 0)] 58 (0, 0))) ∧ Aside0 (w'.heap[gb335]? = some (.cells #[.string x336000_3, .int .i64 x336001_3, u336002] 58 (0, 0))) ∧ Aside0 (Below w.heap.size w w'))
       case atStart => exact ⟨(x7_2), (0), (a0_0), (a0_1), (([] : List Int)), (.slice none 0 0), zF, H', ⟨Nat.le_refl _⟩, ⟨by (with_reducible repeat (first | apply Kd.R_alloc | apply Kd.R_drewN | apply Kd.R_drew)); exact Kd.R_mono (Kd.R_far (p := ⟨gb335, 2, none⟩) (Kd.R_far (p := ⟨gb335, 1, none⟩) (Kd.R_far (p := ⟨gb335, 0, none⟩) (Kd.R_types HO_7.out BK335.out (by decide)) (fun _ hk => hk.2) (.string a0_0)) (fun _ hk => hk.2) (.int .i64 a0_1)) (fun _ hk => hk.2) (.slice none 0 0)) (fun _ hk => (by simp [Value.ownBlock]))⟩, ⟨by first | exact Kd.R_nil _ _ _ _ _ | exact Kd.N_nil _ _ _ _ _ | exact Kd.V_nil _ _ _ _ _ | exact Kd.Q_nil _ _ _ _ _ | exact Kd.S_nil _ _ _ _ _⟩, ⟨by (with_reducible repeat (first | refine blk_drewN ?_ _ | refine blk_drew ?_ | refine blk_alloc ?_ _)); refine blk_far ?_ NB330_335.out _; (with_reducible repeat (first | refine blk_drewN ?_ _ | refine blk_drew ?_ | refine blk_alloc ?_ _)); refine blk_far ?_ NB330_335.out _; (with_reducible repeat (first | refine blk_drewN ?_ _ | refine blk_drew ?_ | refine blk_alloc ?_ _)); refine blk_far ?_ NB330_335.out _; (with_reducible repeat (first | refine blk_drewN ?_ _ | refine blk_drew ?_ | refine blk_alloc ?_ _)); exact BK330.out⟩, ⟨by (with_reducible repeat (first | refine blk_drewN ?_ _ | refine blk_drew ?_ | refine blk_alloc ?_ _)); refine blk_far ?_ NB331_335.out _; (with_reducible repeat (first | refine blk_drewN ?_ _ | refine blk_drew ?_ | refine blk_alloc ?_ _)); refine blk_far ?_ NB331_335.out _; (with_reducible repeat (first | refine blk_drewN ?_ _ | refine blk_drew ?_ | refine blk_alloc ?_ _)); refine blk_far ?_ NB331_335.out _; (with_reducible repeat (first | refine blk_drewN ?_ _ | refine blk_drew ?_ | refine blk_alloc ?_ _)); exact BK331.out⟩, ⟨by (with_reducible repeat (first | refine blk_drewN ?_ _ | refine blk_drew ?_ | refine blk_alloc ?_ _)); refine blk_put (cs := #[.string a0_0, .int .i64 a0_1, .slice none 0 0]) ?_ 2 _ rfl; (with_reducible repeat (first | refine blk_drewN ?_ _ | refine blk_drew ?_ | refine blk_alloc ?_ _)); refine blk_put (cs := #[.string a0_0, .int .i64 0, .slice none 0 0]) ?_ 1 _ rfl; (with_reducible repeat (first | refine blk_drewN ?_ _ | refine blk_drew ?_ | refine blk_alloc ?_ _)); refine blk_put (cs := #[.string (⟨#[]⟩ : ByteArray), .int .i64 0, .slice none 0 0]) ?_ 0 _ rfl; (with_reducible repeat (first | refine blk_drewN ?_ _ | refine blk_drew ?_ | refine blk_alloc ?_ _)); exact BK335.out⟩, ⟨zB⟩⟩
       case round =>
        clear H'
        (try clear c1); (try clear c2); (try clear p2); (try clear c3); (try clear p6); (try clear c7); (try clear c7b0); (try clear c8); (try clear c8b0); (try clear c9); (try clear c9b0); (try clear c10); (try clear c11); (try clear c14); (try clear c14b0); (try clear c15); (try clear c17); (try clear c20); (try clear c21); (try clear hcz12_0); (try clear hcz12_1); (try clear hcz13_0); (try clear hcz13_1); (try clear hcz13_2); (try clear hcz18_0); (try clear hcz18_1); (try clear hcz22_0); (try clear hcz22_1); (try clear hcz22_2); (try clear hfz12_0); (try clear hfz12_1); (try clear hfz13_0); (try clear hfz13_1); (try clear hfz13_2); (try clear hfz18_0); (try clear hfz18_1); (try clear hfz22_0); (try clear hfz22_1); (try clear hfz22_2); (try clear p2); obtain ⟨x7_3, x10_3, x336000_3, x336001_3, x336002_3, u336002, rfl, HA, HK3, HO_7, HO_336002, BK330, BK331, BK335, HB⟩ := hrel
        cases gk with
        | zero => exact absurd HA.out (by simp [mosaicref04_Gen_Pick.l1])
        | succ k3 =>
         have H := HA.out; clear HA; simp only [mosaicref04_Gen_Pick.l1] at H
         by_cases c23 : x10_3 < a2
         ·
          rw [if_pos c23] at H
          have c23b0 : decide (x10_3 < a2) = true := decide_eq_true c23
          clear c23; replace H := Option.bind_eq_some_iff.mp H
          obtain ⟨⟨t336, t337, t338⟩, A240, H⟩ := H
          replace H : (if 0 ≤ x10_3 then (if x10_3 < (x7_3.length : Int) then (if 0 ≤ (wrap64 (x10_3 + t338)) then (if (wrap64 (x10_3 + t338)) < (x7_3.length : Int) then ((some ((x7_3.set (x10_3 : Int).toNat (rd x7_3 (wrap64 (x10_3 + t338)))).set ((wrap64 (x10_3 + t338)) : Int).toNat (rd x7_3 x10_3) : List Int)).bind fun y343 => (if x336002_3.length < 17592186044416 then (mosaicref04_Gen_Pick.l1 k3 a1 a2 y343 (wrap64 (x10_3 + 1)) t336 t337 (x336002_3 ++ [rd y343 x10_3])) else (none))) else (none)) else (none)) else (none)) else (none)) = some (r1, r2, r3) := H
          have A24 := Aside0.mk A240
          clear A240; by_cases c25 : 0 ≤ x10_3
          ·
           rw [if_pos c25] at H
           have c25b0 : decide (0 ≤ x10_3) = true := decide_eq_true c25
           clear c25; by_cases c26 : x10_3 < (x7_3.length : Int)
           ·
            rw [if_pos c26] at H
            have c26b0 : decide (x10_3 < (x7_3.length : Int)) = true := decide_eq_true c26
            clear c26; obtain ⟨ji27, hji27⟩ : ∃ j_ : Int, (wrap64 (x10_3 + t338)) = j_ := ⟨_, rfl⟩
            replace H : (if 0 ≤ (ji27) then (if (ji27) < (x7_3.length : Int) then ((some ((x7_3.set (x10_3 : Int).toNat (rd x7_3 (ji27))).set ((ji27) : Int).toNat (rd x7_3 x10_3) : List Int)).bind fun y343 => (if x336002_3.length < 17592186044416 then (mosaicref04_Gen_Pick.l1 k3 a1 a2 y343 (wrap64 (x10_3 + 1)) t336 t337 (x336002_3 ++ [rd y343 x10_3])) else (none))) else (none)) else (none)) = some (r1, r2, r3) := by first | (rw [hji27] at H; exact H) | (simp only [hji27] at H ⊢; exact H)
            (try rw [hji27] at A24)
            have hji27w : (IntKind.i64.wrap (x10_3 + t338)) = ji27 := (i64_w _).trans hji27
            by_cases c28 : 0 ≤ (ji27)
            ·
             rw [if_pos c28] at H
             have c28b0 : decide (0 ≤ (ji27)) = true := decide_eq_true c28
             clear c28; by_cases c29 : (ji27) < (x7_3.length : Int)
             ·
              rw [if_pos c29] at H
              have c29b0 : decide ((ji27) < (x7_3.length : Int)) = true := decide_eq_true c29
              clear c29; obtain ⟨y342, hy342⟩ : ∃ y_ : List Int, y_ = (x7_3.set (x10_3 : Int).toNat (rd x7_3 (ji27))) := ⟨_, rfl⟩
              replace H : ((some (y342.set ((ji27) : Int).toNat (rd x7_3 x10_3) : List Int)).bind fun y343 => (if x336002_3.length < 17592186044416 then (mosaicref04_Gen_Pick.l1 k3 a1 a2 y343 (wrap64 (x10_3 + 1)) t336 t337 (x336002_3 ++ [rd y343 x10_3])) else (none))) = some (r1, r2, r3) := by first | (rw [hy342]; with_reducible exact H) | (have H2_ := (Option.bind_some _ _).symm.trans H; rw [hy342]; with_reducible exact H2_) | (have H2_ := (Option.bind_some _ _).symm.trans H; with_reducible exact H2_) | with_reducible exact H | (rw [hy342]; exact H) | exact H
              have Ny342 := Aside0.mk hy342
              clear hy342; obtain ⟨y343, hy343⟩ : ∃ y_ : List Int, y_ = (y342.set ((ji27) : Int).toNat (rd x7_3 x10_3)) := ⟨_, rfl⟩
              replace H : (if x336002_3.length < 17592186044416 then (mosaicref04_Gen_Pick.l1 k3 a1 a2 y343 (wrap64 (x10_3 + 1)) t336 t337 (x336002_3 ++ [rd y343 x10_3])) else (none)) = some (r1, r2, r3) := by first | (rw [hy343]; with_reducible exact H) | (have H2_ := (Option.bind_some _ _).symm.trans H; rw [hy343]; with_reducible exact H2_) | (have H2_ := (Option.bind_some _ _).symm.trans H; with_reducible exact H2_) | with_reducible exact H | (rw [hy343]; exact H) | exact H
              have Ny343 := Aside0.mk hy343
              clear hy343; by_cases c32 : x336002_3.length < 17592186044416
              ·
               rw [if_pos c32] at H
               have LMc32 := Aside0.mk c32
               clear c32; obtain ⟨y345, hy345⟩ : ∃ y_ : List Int, y_ = (x336002_3 ++ [rd y343 x10_3]) := ⟨_, rfl⟩
               replace H : (mosaicref04_Gen_Pick.l1 k3 a1 a2 y343 (wrap64 (x10_3 + 1)) t336 t337 y345) = some (r1, r2, r3) := by first | (rw [hy345]; with_reducible exact H) | (have H2_ := (Option.bind_some _ _).symm.trans H; rw [hy345]; with_reducible exact H2_) | (have H2_ := (Option.bind_some _ _).symm.trans H; with_reducible exact H2_) | with_reducible exact H | (rw [hy345]; exact H) | exact H
               have Ny345 := Aside0.mk hy345
               clear hy345; have H' := Aside0.mk H
               clear H; have hnb33 := NB335_330.out; have hnc33 := NB330_335.out; have hnb34 := NB335_331.out; have hnc34 := NB331_335.out; obtain ⟨hcz35_0, hcz35_1, hcz35_2⟩ := cZ3 BK335
               obtain ⟨hfz35_0, hfz35_1, hfz35_2⟩ := dZ3 BK335; try go_wp2_with (first | ((with_reducible refine gate_callee (f := 55) rfl ?_); refine goesL_ (some 52) rfl rfl Tryz.func55 (by kernel_rfl) rfl #[.agg #[.string x336000_3, .int .i64 x336001_3], .int .i64 (wrap64 (a1 - x10_3))] rfl zM ?_; (with_reducible refine (mosaicref04_Gen_Below.calls k3 x336000_3 x336001_3 (wrap64 (a1 - x10_3)) t336 t337 t338 _ A24.out).mono ?_); rintro e w36 ⟨rfl, hb⟩; refine ⟨_, rfl, ?_⟩; replace HO_7 := Aside0.mk (Kd.R_below (zR HO_7) hb); replace HO_336002 := Aside0.mk (Kd.R_below (zR HO_336002) hb); replace BK330 := Aside0.mk (blk_below (zk BK330) hb); replace BK331 := Aside0.mk (blk_below (zk BK331) hb); replace BK335 := Aside0.mk (blk_below (zk BK335) hb); replace HB := Aside0.mk (below_step zB hb); (try clear hb); (try clear hb2); (try clear hk); (try clear hi)) | ((with_reducible refine gate_dst (N := 11) rfl ?_); refine box_event ?hg (N := 11) ?hd (cs := #[.string (⟨#[]⟩ : ByteArray), .int .i64 0, .int .i64 0]) (t := 80) ?hr ?_; (case hd => rfl); (case hg => rfl); (case hr => first | (go_simp; done) | (go_simp; rfl)); intro gb339 hg w37 hbox hb; have n0_ := Aside0.mk (Kd.R_below (zR HO_7) hb); have n1_ := Aside0.mk (Kd.R_below (zR HO_336002) hb); have n2_ := Aside0.mk (blk_below (zk BK330) hb); have n3_ := Aside0.mk (blk_below (zk BK331) hb); have n4_ := Aside0.mk (blk_below (zk BK335) hb); have n5_ := Aside0.mk (below_step zB hb); have n6_ := Aside0.mk (hbox); have n7_ := Aside0.mk ((zg : w.heap.size ≤ gb339)); have n8_ := Aside0.mk ((zg : w.heap.size ≤ gb339)); have n9_ := Aside0.mk ((by rw [hg]; exact Nat.ne_of_lt (blk_lt (zk BK330)) : gb330 ≠ gb339)); have n10_ := Aside0.mk ((by rw [hg]; exact Nat.ne_of_gt (blk_lt (zk BK330)) : gb339 ≠ gb330)); have n11_ := Aside0.mk ((by rw [hg]; exact Nat.ne_of_lt (blk_lt (zk BK331)) : gb331 ≠ gb339)); have n12_ := Aside0.mk ((by rw [hg]; exact Nat.ne_of_gt (blk_lt (zk BK331)) : gb339 ≠ gb331)); have n13_ := Aside0.mk ((by rw [hg]; exact Nat.ne_of_lt (blk_lt (zk BK335)) : gb335 ≠ gb339)); have n14_ := Aside0.mk ((by rw [hg]; exact Nat.ne_of_gt (blk_lt (zk BK335)) : gb339 ≠ gb335)); clear HO_7; clear HO_336002; clear BK330; clear BK331; clear BK335; clear HB; have HO_7 := n0_; have HO_336002 := n1_; have BK330 := n2_; have BK331 := n3_; have BK335 := n4_; have HB := n5_; have BK339 := n6_; have GW339 := n7_; have GE339 := n8_; have NB330_339 := n9_; have NB339_330 := n10_; have NB331_339 := n11_; have NB339_331 := n12_; have NB335_339 := n13_; have NB339_335 := n14_; clear n0_ n1_ n2_ n3_ n4_ n5_ n6_ n7_ n8_ n9_ n10_ n11_ n12_ n13_ n14_; clear hb hbox hg; have hnb38 := NB339_330.out; have hnc38 := NB330_339.out; have hnb39 := NB339_331.out; have hnc39 := NB331_339.out; have hnb40 := NB339_335.out; have hnc40 := NB335_339.out; obtain ⟨hcz41_0, hcz41_1, hcz41_2⟩ := cZ3 BK339; obtain ⟨hfz41_0, hfz41_1, hfz41_2⟩ := dZ3 BK339) | ((with_reducible refine gate_store (t := 80) (p := 11) rfl ?_); refine store_event (t := 80) (p := 11) (v := ?vo_w42) (w1 := (((w37.setCell ⟨gb339, 0, none⟩ (.string t336)).setCell ⟨gb339, 1, none⟩ (.int .i64 t337)).setCell ⟨gb339, 2, none⟩ (.int .i64 t338))) ?hg ?ho ?hn ?hr ?_; (case ho => rfl); (case hg => rfl); (case hn => rfl); (case hr => first | (go_simp; done) | (go_simp; rfl)); intro w42 hw; have n0_ : Aside0 (Kd.R (Kd.int .i64) 3 w42 w.heap.size (fun k_ => some k_ ≠ (u336002 : Value).ownBlock) u7 x7_3) := ⟨(by rw [hw]; exact (by (with_reducible repeat (first | apply Kd.R_alloc | apply Kd.R_drewN | apply Kd.R_drew)); exact Kd.R_mono (Kd.R_far (p := ⟨gb339, 2, none⟩) (Kd.R_far (p := ⟨gb339, 1, none⟩) (Kd.R_far (p := ⟨gb339, 0, none⟩) (Kd.R_types HO_7.out BK339.out (by decide)) (fun _ hk => hk.2) (.string t336)) (fun _ hk => hk.2) (.int .i64 t337)) (fun _ hk => hk.2) (.int .i64 t338)) (fun _ hk => hk.1)))⟩; have n1_ : Aside0 (Kd.R (Kd.int .i64) 3 w42 w.heap.size (fun k_ => some k_ ≠ (u7 : Value).ownBlock) u336002 x336002_3) := ⟨(by rw [hw]; exact (by (with_reducible repeat (first | apply Kd.R_alloc | apply Kd.R_drewN | apply Kd.R_drew)); exact Kd.R_mono (Kd.R_far (p := ⟨gb339, 2, none⟩) (Kd.R_far (p := ⟨gb339, 1, none⟩) (Kd.R_far (p := ⟨gb339, 0, none⟩) (Kd.R_types HO_336002.out BK339.out (by decide)) (fun _ hk => hk.2) (.string t336)) (fun _ hk => hk.2) (.int .i64 t337)) (fun _ hk => hk.2) (.int .i64 t338)) (fun _ hk => hk.1)))⟩; have n2_ : Aside0 (w42.heap[gb330]? = some (.cells #[.string a0_0, .int .i64 a0_1] 56 (0, 0))) := ⟨(by rw [hw]; exact (by (with_reducible repeat (first | refine blk_drewN ?_ _ | refine blk_drew ?_ | refine blk_alloc ?_ _)); refine blk_far ?_ NB330_339.out _; (with_reducible repeat (first | refine blk_drewN ?_ _ | refine blk_drew ?_ | refine blk_alloc ?_ _)); refine blk_far ?_ NB330_339.out _; (with_reducible repeat (first | refine blk_drewN ?_ _ | refine blk_drew ?_ | refine blk_alloc ?_ _)); refine blk_far ?_ NB330_339.out _; (with_reducible repeat (first | refine blk_drewN ?_ _ | refine blk_drew ?_ | refine blk_alloc ?_ _)); exact BK330.out))⟩; have n3_ : Aside0 (w42.heap[gb331]? = some (.cells #[.string (⟨#[]⟩ : ByteArray), .int .i64 0, .slice none 0 0] 58 (0, 0))) := ⟨(by rw [hw]; exact (by (with_reducible repeat (first | refine blk_drewN ?_ _ | refine blk_drew ?_ | refine blk_alloc ?_ _)); refine blk_far ?_ NB331_339.out _; (with_reducible repeat (first | refine blk_drewN ?_ _ | refine blk_drew ?_ | refine blk_alloc ?_ _)); refine blk_far ?_ NB331_339.out _; (with_reducible repeat (first | refine blk_drewN ?_ _ | refine blk_drew ?_ | refine blk_alloc ?_ _)); refine blk_far ?_ NB331_339.out _; (with_reducible repeat (first | refine blk_drewN ?_ _ | refine blk_drew ?_ | refine blk_alloc ?_ _)); exact BK331.out))⟩; have n4_ : Aside0 (w42.heap[gb335]? = some (.cells #[.string x336000_3, .int .i64 x336001_3, u336002] 58 (0, 0))) := ⟨(by rw [hw]; exact (by (with_reducible repeat (first | refine blk_drewN ?_ _ | refine blk_drew ?_ | refine blk_alloc ?_ _)); refine blk_far ?_ NB335_339.out _; (with_reducible repeat (first | refine blk_drewN ?_ _ | refine blk_drew ?_ | refine blk_alloc ?_ _)); refine blk_far ?_ NB335_339.out _; (with_reducible repeat (first | refine blk_drewN ?_ _ | refine blk_drew ?_ | refine blk_alloc ?_ _)); refine blk_far ?_ NB335_339.out _; (with_reducible repeat (first | refine blk_drewN ?_ _ | refine blk_drew ?_ | refine blk_alloc ?_ _)); exact BK335.out))⟩; have n5_ : Aside0 (w42.heap[gb339]? = some (.cells #[.string t336, .int .i64 t337, .int .i64 t338] 80 (0, 0))) := ⟨(by rw [hw]; exact (by (with_reducible repeat (first | refine blk_drewN ?_ _ | refine blk_drew ?_ | refine blk_alloc ?_ _)); refine blk_put (cs := #[.string t336, .int .i64 t337, .int .i64 0]) ?_ 2 _ rfl; (with_reducible repeat (first | refine blk_drewN ?_ _ | refine blk_drew ?_ | refine blk_alloc ?_ _)); refine blk_put (cs := #[.string t336, .int .i64 0, .int .i64 0]) ?_ 1 _ rfl; (with_reducible repeat (first | refine blk_drewN ?_ _ | refine blk_drew ?_ | refine blk_alloc ?_ _)); refine blk_put (cs := #[.string (⟨#[]⟩ : ByteArray), .int .i64 0, .int .i64 0]) ?_ 0 _ rfl; (with_reducible repeat (first | refine blk_drewN ?_ _ | refine blk_drew ?_ | refine blk_alloc ?_ _)); exact BK339.out))⟩; have n6_ : Aside0 (Below w.heap.size w w42) := ⟨(by rw [hw]; exact zB)⟩; clear hw; clear HO_7; clear HO_336002; clear BK330; clear BK331; clear BK335; clear BK339; clear HB; have HO_7 := n0_; have HO_336002 := n1_; have BK330 := n2_; have BK331 := n3_; have BK335 := n4_; have BK339 := n5_; have HB := n6_; clear n0_ n1_ n2_ n3_ n4_ n5_ n6_; obtain ⟨hcz43_0, hcz43_1, hcz43_2⟩ := cZ3 BK339; obtain ⟨hfz43_0, hfz43_1, hfz43_2⟩ := dZ3 BK339; obtain ⟨hcz44_0, hcz44_1, hcz44_2⟩ := cZ3 BK335; obtain ⟨hfz44_0, hfz44_1, hfz44_2⟩ := dZ3 BK335) | ((with_reducible refine gate_store (t := 56) (p := 55) rfl ?_); refine store_event (t := 56) (p := 55) (v := ?vo_w45) (w1 := ((w42.setCell ⟨gb335, 0, none⟩ (.string t336)).setCell ⟨gb335, 1, none⟩ (.int .i64 t337))) ?hg ?ho ?hn ?hr ?_; (case ho => rfl); (case hg => rfl); (case hn => rfl); (case hr => first | (go_simp; done) | (go_simp; rfl)); intro w45 hw; have n0_ : Aside0 (Kd.R (Kd.int .i64) 3 w45 w.heap.size (fun k_ => some k_ ≠ (u336002 : Value).ownBlock) u7 x7_3) := ⟨(by rw [hw]; exact (by (with_reducible repeat (first | apply Kd.R_alloc | apply Kd.R_drewN | apply Kd.R_drew)); exact Kd.R_mono (Kd.R_far (p := ⟨gb335, 1, none⟩) (Kd.R_far (p := ⟨gb335, 0, none⟩) (Kd.R_types HO_7.out BK335.out (by decide)) (fun _ hk => hk.2) (.string t336)) (fun _ hk => hk.2) (.int .i64 t337)) (fun _ hk => hk.1)))⟩; have n1_ : Aside0 (Kd.R (Kd.int .i64) 3 w45 w.heap.size (fun k_ => some k_ ≠ (u7 : Value).ownBlock) u336002 x336002_3) := ⟨(by rw [hw]; exact (by (with_reducible repeat (first | apply Kd.R_alloc | apply Kd.R_drewN | apply Kd.R_drew)); exact Kd.R_mono (Kd.R_far (p := ⟨gb335, 1, none⟩) (Kd.R_far (p := ⟨gb335, 0, none⟩) (Kd.R_types HO_336002.out BK335.out (by decide)) (fun _ hk => hk.2) (.string t336)) (fun _ hk => hk.2) (.int .i64 t337)) (fun _ hk => hk.1)))⟩; have n2_ : Aside0 (w45.heap[gb330]? = some (.cells #[.string a0_0, .int .i64 a0_1] 56 (0, 0))) := ⟨(by rw [hw]; exact (by (with_reducible repeat (first | refine blk_drewN ?_ _ | refine blk_drew ?_ | refine blk_alloc ?_ _)); refine blk_far ?_ NB330_335.out _; (with_reducible repeat (first | refine blk_drewN ?_ _ | refine blk_drew ?_ | refine blk_alloc ?_ _)); refine blk_far ?_ NB330_335.out _; (with_reducible repeat (first | refine blk_drewN ?_ _ | refine blk_drew ?_ | refine blk_alloc ?_ _)); exact BK330.out))⟩; have n3_ : Aside0 (w45.heap[gb331]? = some (.cells #[.string (⟨#[]⟩ : ByteArray), .int .i64 0, .slice none 0 0] 58 (0, 0))) := ⟨(by rw [hw]; exact (by (with_reducible repeat (first | refine blk_drewN ?_ _ | refine blk_drew ?_ | refine blk_alloc ?_ _)); refine blk_far ?_ NB331_335.out _; (with_reducible repeat (first | refine blk_drewN ?_ _ | refine blk_drew ?_ | refine blk_alloc ?_ _)); refine blk_far ?_ NB331_335.out _; (with_reducible repeat (first | refine blk_drewN ?_ _ | refine blk_drew ?_ | refine blk_alloc ?_ _)); exact BK331.out))⟩; have n4_ : Aside0 (w45.heap[gb335]? = some (.cells #[.string t336, .int .i64 t337, u336002] 58 (0, 0))) := ⟨(by rw [hw]; exact (by (with_reducible repeat (first | refine blk_drewN ?_ _ | refine blk_drew ?_ | refine blk_alloc ?_ _)); refine blk_put (cs := #[.string t336, .int .i64 x336001_3, u336002]) ?_ 1 _ rfl; (with_reducible repeat (first | refine blk_drewN ?_ _ | refine blk_drew ?_ | refine blk_alloc ?_ _)); refine blk_put (cs := #[.string x336000_3, .int .i64 x336001_3, u336002]) ?_ 0 _ rfl; (with_reducible repeat (first | refine blk_drewN ?_ _ | refine blk_drew ?_ | refine blk_alloc ?_ _)); exact BK335.out))⟩; have n5_ : Aside0 (w45.heap[gb339]? = some (.cells #[.string t336, .int .i64 t337, .int .i64 t338] 80 (0, 0))) := ⟨(by rw [hw]; exact (by (with_reducible repeat (first | refine blk_drewN ?_ _ | refine blk_drew ?_ | refine blk_alloc ?_ _)); refine blk_far ?_ NB339_335.out _; (with_reducible repeat (first | refine blk_drewN ?_ _ | refine blk_drew ?_ | refine blk_alloc ?_ _)); refine blk_far ?_ NB339_335.out _; (with_reducible repeat (first | refine blk_drewN ?_ _ | refine blk_drew ?_ | refine blk_alloc ?_ _)); exact BK339.out))⟩; have n6_ : Aside0 (Below w.heap.size w w45) := ⟨(by rw [hw]; exact zB)⟩; clear hw; clear HO_7; clear HO_336002; clear BK330; clear BK331; clear BK335; clear BK339; clear HB; have HO_7 := n0_; have HO_336002 := n1_; have BK330 := n2_; have BK331 := n3_; have BK335 := n4_; have BK339 := n5_; have HB := n6_; clear n0_ n1_ n2_ n3_ n4_ n5_ n6_; obtain ⟨hcz46_0, hcz46_1, hcz46_2⟩ := cZ3 BK339; obtain ⟨hfz46_0, hfz46_1, hfz46_2⟩ := dZ3 BK339; obtain ⟨Ao47, co47, eo47⟩ := Kd.R_slice HO_7.out; subst eo47; have p340 : 0 ≤ (x10_3 : Int) := of_decide_eq_true zA; have q340 : x10_3 < (x7_3.length : Int) := of_decide_eq_true zA; obtain ⟨ad340, e340, hx340_0⟩ := Kd.at_int (Kd.R_reads' HO_7.out).2.2 x10_3 p340 q340; cases e340; replace p340 := eq_true p340; replace q340 := eq_true q340; have p341 : 0 ≤ ((ji27) : Int) := of_decide_eq_true zA; have q341 : (ji27) < (x7_3.length : Int) := of_decide_eq_true zA; obtain ⟨ad341, e341, hx341_0⟩ := Kd.at_int (Kd.R_reads' HO_7.out).2.2 (ji27) p341 q341; obtain rfl : ad340 = ad341 := (by injection e341); replace p341 := eq_true p341; replace q341 := eq_true q341; have p30 : 0 ≤ (x10_3 : Int) := of_decide_eq_true zA; have q30 : (x10_3 : Int) < ((x7_3.length : Int) : Int) := of_decide_eq_true zA; obtain ⟨go30, co30, eo30, gb30, gl30, cl30, HG30⟩ := Kd.R_form HO_7.out (by omega); (first | cases eo30 | (injection eo30 with ea_ en_ ec_; (first | subst ea_ | (injection ea_ with ea_; subst ea_)); subst ec_; clear en_)); have GB30 := Aside0.mk gb30; have GG30 := Aside0.mk HG30; clear gb30 gl30 HG30; (first | simp only [add_plain] at hx340_0 | skip); (first | simp only [add_plain] at hx341_0 | skip); obtain ⟨hx30_0, hf30_0⟩ := Kd.R_celln 0 HO_7.out (x10_3 : Int) p30 q30; replace p30 := eq_true p30; replace q30 := eq_true q30; obtain ⟨hy48_, hz48_⟩ := Kd.R_celln 0 HO_7.out (x10_3 : Int) (of_decide_eq_true zA) (of_decide_eq_true zA); have HP48 := Kd.R_putg HO_7.out (x10_3 : Int) (rd x7_3 (ji27))) | ((with_reducible refine gate_store (t := 3) (p := 70) rfl ?_); refine store_event (t := 3) (p := 70) (v := ?vo_w49) (w1 := (w45.setCell ⟨go30, (x10_3 : Int).toNat, none⟩ (.int .i64 (rd x7_3 (ji27))))) ?hg ?ho ?hn ?hr ?_; (case ho => rfl); (case hg => rfl); (case hn => rfl); (case hr => first | (go_simp; done) | (go_simp; rfl)); intro w49 hw; have hg : w45.grownBy w49 (some go30) := (by rw [hw]; exact HP48.2); have hp_ : Kd.R (Kd.int .i64) 3 w49 w.heap.size (fun k_ => some k_ ≠ (u336002 : Value).ownBlock) (.slice (some ⟨go30, 0, none⟩) x7_3.length co47) y342 := (by rw [hw, Ny342.out]; exact HP48.1); clear HP48; have n0_ := Aside0.mk (hp_); have n1_ := Aside0.mk (Kd.R_after (v := (.slice (some ⟨go30, 0, none⟩) x7_3.length co47)) (v1 := (.slice (some ⟨go30, 0, none⟩) x7_3.length co47)) (ok := (fun _ => True)) (by (with_reducible repeat (first | apply Kd.R_alloc | apply Kd.R_drewN | apply Kd.R_drew)); exact Kd.R_mono HO_336002.out (fun _ hk => ⟨trivial, hk⟩)) hg (.inl rfl)); have n2_ := Aside0.mk (blk_grown (zk BK330) hg (Kd.R_ne HO_7.out BK330.out (by decide))); have n3_ := Aside0.mk (blk_grown (zk BK331) hg (Kd.R_ne HO_7.out BK331.out (by decide))); have n4_ := Aside0.mk (blk_grown (zk BK335) hg (Kd.R_ne HO_7.out BK335.out (by decide))); have n5_ := Aside0.mk (blk_grown (zk BK339) hg (Kd.R_ne HO_7.out BK339.out (by decide))); have n6_ := Aside0.mk ((by rw [hw]; exact below_set (HB.out) GB30.out : Below w.heap.size w w49)); clear HO_7; clear HO_336002; clear BK330; clear BK331; clear BK335; clear BK339; clear HB; have HO_7 := n0_; have HO_336002 := n1_; have BK330 := n2_; have BK331 := n3_; have BK335 := n4_; have BK339 := n5_; have HB := n6_; clear n0_ n1_ n2_ n3_ n4_ n5_ n6_; clear hg hw hp_; have p31 : 0 ≤ ((ji27) : Int) := of_decide_eq_true zA; have q31 : ((ji27) : Int) < ((x7_3.length : Int) : Int) := of_decide_eq_true zA; obtain ⟨hx31_0, hf31_0⟩ := Kd.R_celln 0 HO_7.out ((ji27) : Int) p31 q31; replace p31 := eq_true p31; replace q31 := eq_true q31; obtain ⟨hy50_, hz50_⟩ := Kd.R_celln 0 HO_7.out ((ji27) : Int) (of_decide_eq_true zA) (of_decide_eq_true zA); have HP50 := Kd.R_putg HO_7.out ((ji27) : Int) (rd x7_3 x10_3)) | ((with_reducible refine gate_store (t := 3) (p := 74) rfl ?_); refine store_event (t := 3) (p := 74) (v := ?vo_w51) (w1 := (w49.setCell ⟨go30, ((ji27) : Int).toNat, none⟩ (.int .i64 (rd x7_3 x10_3)))) ?hg ?ho ?hn ?hr ?_; (case ho => rfl); (case hg => rfl); (case hn => rfl); (case hr => first | (go_simp; done) | (go_simp; rfl)); intro w51 hw; have hg : w49.grownBy w51 (some go30) := (by rw [hw]; exact HP50.2); have hp_ : Kd.R (Kd.int .i64) 3 w51 w.heap.size (fun k_ => some k_ ≠ (u336002 : Value).ownBlock) (.slice (some ⟨go30, 0, none⟩) x7_3.length co47) y343 := (by rw [hw, Ny343.out]; exact HP50.1); clear HP50; have n0_ := Aside0.mk (hp_); have n1_ := Aside0.mk (Kd.R_after (v := (.slice (some ⟨go30, 0, none⟩) x7_3.length co47)) (v1 := (.slice (some ⟨go30, 0, none⟩) x7_3.length co47)) (ok := (fun _ => True)) (by (with_reducible repeat (first | apply Kd.R_alloc | apply Kd.R_drewN | apply Kd.R_drew)); exact HO_336002.out) hg (.inl rfl)); have n2_ := Aside0.mk (blk_grown (zk BK330) hg (Kd.R_ne HO_7.out BK330.out (by decide))); have n3_ := Aside0.mk (blk_grown (zk BK331) hg (Kd.R_ne HO_7.out BK331.out (by decide))); have n4_ := Aside0.mk (blk_grown (zk BK335) hg (Kd.R_ne HO_7.out BK335.out (by decide))); have n5_ := Aside0.mk (blk_grown (zk BK339) hg (Kd.R_ne HO_7.out BK339.out (by decide))); have n6_ := Aside0.mk ((by rw [hw]; exact below_set (HB.out) GB30.out : Below w.heap.size w w51)); clear HO_7; clear HO_336002; clear BK330; clear BK331; clear BK335; clear BK339; clear HB; have HO_7 := n0_; have HO_336002 := n1_; have BK330 := n2_; have BK331 := n3_; have BK335 := n4_; have BK339 := n5_; have HB := n6_; clear n0_ n1_ n2_ n3_ n4_ n5_ n6_; clear hg hw hp_))
               replace HO_7 := Aside0.mk (Kd.R_drew HO_7.out)
               replace HO_336002 := Aside0.mk (Kd.R_drew HO_336002.out)
               replace BK330 := Aside0.mk (blk_drew BK330.out)
               replace BK331 := Aside0.mk (blk_drew BK331.out)
               replace BK335 := Aside0.mk (blk_drew BK335.out)
               replace BK339 := Aside0.mk (blk_drew BK339.out)
               replace HB := Aside0.mk (below_drew1 HB.out); have p344 : 0 ≤ (x10_3 : Int) := of_decide_eq_true zA
               have q344 : x10_3 < (y343.length : Int) := (by have h_ : (x10_3 : Int) < ((x7_3.length : Int) : Int) := of_decide_eq_true zA; first | (have e_ := (Kd.R_reads' HO_7.out).1; omega) | simpa only [Ny342.out, Ny343.out, List.length_set] using h_)
               have ql344 : ((x10_3 : Int) < ((x7_3.length : Int) : Int)) = True := eq_true (of_decide_eq_true zA)
               obtain ⟨ad344, e344, hx344_0⟩ := Kd.at_int (Kd.R_reads' HO_7.out).2.2 x10_3 p344 q344
               obtain rfl : (⟨go30, 0, none⟩ : Addr) = ad344 := (by injection e344)
               (first | simp only [add_plain] at hx344_0 | simp only [add_at] at hx344_0 | simp only [Addr.add, Nat.zero_add] at hx344_0 | skip)
               replace p344 := eq_true p344
               replace q344 := eq_true q344
               refine start_ (n := 10) (S := fun w' => w'.cell? ⟨gb335, 0, none⟩ = some (.string t336) ∧ w'.cell? ⟨gb335, 1, none⟩ = some (.int .i64 t337) ∧ w'.cell? ⟨gb335, 2, none⟩ = some (u336002) ∧ w'.cell? ⟨go30, (x10_3).toNat, none⟩ = some (.int .i64 (rd y343 x10_3))) (ds := [7, 9]) (mkB31 10 0) (by kernel_rfl) rfl rfl ⟨(blk_cell BK335.out 0).trans rfl, (blk_cell BK335.out 1).trans rfl, (blk_cell BK335.out 2).trans rfl, hx344_0⟩ (fun hHeld => ?_); refine with_tabW mosaicref04_Gen_Pick.tab18 mosaicref04_Gen_Pick.bits18 (fun HT_ HW_ => ?_)
               generalize w51.drew = w52 at HO_7 HO_336002 BK330 BK331 BK335 BK339 HB hx344_0 hHeld ⊢
               refine pX 0 (some 75) (mkB31 10 1) ?_
               refine pX 2 (some 77) (mkB31 10 5) ?_
               refine pX 3 (some 78) (mkB31 10 13) ?_
               refine pX 4 (some 79) (mkB31 10 29) ?_
               refine tT (v := ?_) (a' := ?_) HT_ HW_ hHeld 1 (some 76) (mkB31 10 31) ?_ ?_ ?_; rotate_left 2; (rintro w' ⟨s0, s1, s2, s3⟩; go_simp; with_reducible rfl); (simp only [Act.put, qA, qB, qC, i64_w, i32_w]; rfl)
               refine tT (v := ?_) (a' := ?_) HT_ HW_ hHeld 5 (some 80) (mkB31 10 63) ?_ ?_ ?_; rotate_left 2; (rintro w' ⟨s0, s1, s2, s3⟩; go_simp; with_reducible rfl); (simp only [Act.put, qA, qB, qC, i64_w, i32_w]; rfl)
               refine one_ (i := 6) (N := some 81) (mkB31 10 127) rfl rfl (one_of HT_.out (by kernel_rfl)) (by decide) (fun K hK => ?_)
               refine value_ (w1 := ?_) (v := ?_) (by rfl) rfl ?_ ?_
               rotate_left 2
               ·
                go_simp; constructor
                ·
                 rfl
                ·
                 rfl
               refine hK.out _ _ ⟨(blk_cell (blk_alloc BK335.out _) 0).trans rfl, (blk_cell (blk_alloc BK335.out _) 1).trans rfl, (blk_cell (blk_alloc BK335.out _) 2).trans rfl, (World.cell?_alloc_lt _ _ _ (World.block_lt_of_cell? _ _ (hHeld.2.2.2))).trans (hHeld.2.2.2)⟩ (fun hHeld => ?_)
               clear hK K; refine norm_ (a' := ?_) ?_ ?_
               rotate_left
               ·
                show Act.put _ (some 81) _ = _
                simp only [Act.put, List.setIfInBounds_toArray, List.set_cons_zero, List.set_cons_succ, i64_w, i32_w]; rfl
               refine last_ (i := 7) (N := some 82) (mkB31 10 255) rfl rfl (one_of HT_.out (by kernel_rfl)) (by decide) (fun K hK => ?_)
               refine Kd.R_append_step (Kd.int .i64) (w0 := w) w.heap.size (by rfl) (.tmp 76) (.tmp 81) 26 3 (.int .i64 0) 8 rfl Tryz.underlying26 info3 rfl (by decide) (by omega) u336002 x336002_3 (rd y343 x10_3) [.int .i64 (rd y343 x10_3)] (fun k_ => some k_ ≠ (.slice (some ⟨go30, 0, none⟩) x7_3.length co47 : Value).ownBlock) (fun _ => False) rfl rfl ?aP (fun _ hk => hk.elim) ?aF ?aO ?aB ?aS ?aL ?_
               (case aP => exact rfl)
               (case aB => exact zB)
               (case aF => exact (fun k_ hk => Kd.fresh' (Kd.R_lt (by (with_reducible repeat (first | apply Kd.R_alloc | apply Kd.R_drewN | apply Kd.R_drew)); exact HO_7.out)) k_ hk))
               (case aO => exact (by (with_reducible repeat (first | apply Kd.R_alloc | apply Kd.R_drewN | apply Kd.R_drew)); exact Kd.R_mono HO_336002.out (fun _ hk => hk.2)))
               (case aS => exact (below_size zB))
               (case aL => have := LMc32.out; omega)
               intro v346 w53 ho hb hg hat
               rw [← Ny345.out] at ho
               replace HO_7 := Aside0.mk (Kd.R_after (ok := (fun _ => True)) (by (with_reducible repeat (first | apply Kd.R_alloc | apply Kd.R_drewN | apply Kd.R_drew)); exact Kd.R_mono HO_7.out (fun _ hk => ⟨trivial, hk⟩)) hg hat)
               replace BK330 := Aside0.mk (blk_grown (zk BK330) hg (Kd.R_ne HO_336002.out BK330.out (by decide)))
               replace BK331 := Aside0.mk (blk_grown (zk BK331) hg (Kd.R_ne HO_336002.out BK331.out (by decide)))
               replace BK335 := Aside0.mk (blk_grown (zk BK335) hg (Kd.R_ne HO_336002.out BK335.out (by decide)))
               replace BK339 := Aside0.mk (blk_grown (zk BK339) hg (Kd.R_ne HO_336002.out BK339.out (by decide)))
               have HO347 := Aside0.mk (ho)
               replace HB := Aside0.mk (hb)
               clear HO_336002 ho hb hg hat; obtain ⟨Ao54, co54, eo54⟩ := Kd.R_slice HO347.out
               (first | subst eo54 | (injection eo54 with f1_ f2_ f3_; have f4_ := f1_.symm; have f5_ := f3_.symm; clear f1_ f2_ f3_; subst f4_; subst f5_))
               refine hK.out _ _ ?_
               clear hK K; refine norm_ (a' := ?_) ?_ ?_
               rotate_left
               ·
                show Act.put _ (some 82) _ = _
                simp only [Act.put, List.setIfInBounds_toArray, List.set_cons_zero, List.set_cons_succ, i64_w, i32_w]; rfl
               refine pX 8 (some 83) (mkB31 10 511) ?_
               refine last_ (i := 9) (N := none) (mkB31 10 1023) rfl rfl (one_of HT_.out (by kernel_rfl)) (by decide) (fun K hK => ?_)
               have hs55 : w53.cell? ⟨gb335, 2, none⟩ = some (u336002) := (blk_cell BK335.out 2).trans rfl
               have hfs55 := blk_frozen BK335.out 2; have hns55_0 := NB330_335.out; have hns55_1 := NB331_335.out; have hns55_3 := NB339_335.out; have hms55_0 := NB335_330.out; have hms55_1 := NB335_331.out; have hms55_3 := NB335_339.out; refine skip_ (w1 := ?_) (by rfl) rfl ?_ ?_
               rotate_left
               ·
                go_simp; rfl
               refine hK.out _ _ ?_
               clear hK K; refine done_ (done_of HT_.out (by kernel_rfl)) ?_
               try go_wp2
               go_roundg k3
               case measure => have := HJ3.out; have := HK2.out; have := HK3.out; omega
               case rel => exact ⟨(y343), (wrap64 (x10_3 + 1)), (t336), (t337), (y345), (.slice Ao54 y345.length co54), zF, H', ⟨by have := HJ3.out; have := HK2.out; have := HK3.out; omega⟩, ⟨by (with_reducible repeat (first | apply Kd.R_alloc | apply Kd.R_drewN | apply Kd.R_drew)); exact Kd.R_mono (Kd.R_far (p := ⟨gb335, 2, none⟩) (Kd.R_types HO_7.out BK335.out (by decide)) (fun _ hk => hk.2) (.slice Ao54 y345.length co54)) (fun _ hk => hk.1.2)⟩, ⟨by (with_reducible repeat (first | apply Kd.R_alloc | apply Kd.R_drewN | apply Kd.R_drew)); exact Kd.R_mono (Kd.R_far (p := ⟨gb335, 2, none⟩) (Kd.R_types HO347.out BK335.out (by decide)) (fun _ hk => hk.2) (.slice Ao54 y345.length co54)) (fun _ hk => hk.1)⟩, ⟨by (with_reducible repeat (first | refine blk_drewN ?_ _ | refine blk_drew ?_ | refine blk_alloc ?_ _)); refine blk_far ?_ NB330_335.out _; (with_reducible repeat (first | refine blk_drewN ?_ _ | refine blk_drew ?_ | refine blk_alloc ?_ _)); exact BK330.out⟩, ⟨by (with_reducible repeat (first | refine blk_drewN ?_ _ | refine blk_drew ?_ | refine blk_alloc ?_ _)); refine blk_far ?_ NB331_335.out _; (with_reducible repeat (first | refine blk_drewN ?_ _ | refine blk_drew ?_ | refine blk_alloc ?_ _)); exact BK331.out⟩, ⟨by (with_reducible repeat (first | refine blk_drewN ?_ _ | refine blk_drew ?_ | refine blk_alloc ?_ _)); refine blk_put (cs := #[.string t336, .int .i64 t337, u336002]) ?_ 2 _ rfl; (with_reducible repeat (first | refine blk_drewN ?_ _ | refine blk_drew ?_ | refine blk_alloc ?_ _)); exact BK335.out⟩, ⟨zB⟩⟩
              ·
               rw [if_neg c32] at H
               exact absurd H (by simp)
             ·
              rw [if_neg c29] at H
              exact absurd H (by simp)
            ·
             rw [if_neg c28] at H
             exact absurd H (by simp)
           ·
            rw [if_neg c26] at H
            exact absurd H (by simp)
          ·
           rw [if_neg c25] at H
           exact absurd H (by simp)
         ·
          rw [if_neg c23] at H
          have c23b0 : decide (x10_3 < a2) = false := decide_eq_false c23
          clear c23; simp only [Option.some.injEq, Prod.mk.injEq] at H
          obtain ⟨rfl, rfl, rfl⟩ := H
          have hnb56 := NB335_330.out; have hnc56 := NB330_335.out; have hnb57 := NB335_331.out; have hnc57 := NB331_335.out; obtain ⟨hcz58_0, hcz58_1, hcz58_2⟩ := cZ3 BK335
          obtain ⟨hfz58_0, hfz58_1, hfz58_2⟩ := dZ3 BK335; have hnb59 := NB331_330.out; have hnc59 := NB330_331.out; obtain ⟨hcz60_0, hcz60_1, hcz60_2⟩ := cZ3 BK331
          obtain ⟨hfz60_0, hfz60_1, hfz60_2⟩ := dZ3 BK331; obtain ⟨Ao61, co61, eo61⟩ := Kd.R_slice HO_336002.out
          subst eo61
          go_wp2
          refine bodyPost_ret (results_cell_row rfl _ _ gb331 58 #[.string x336000_3, .int .i64 x336001_3, .slice Ao61 x336002_3.length co61] (0, 0) _ rfl (by (with_reducible repeat (first | refine blk_drewN ?_ _ | refine blk_drew ?_ | refine blk_alloc ?_ _)); refine blk_put (cs := #[.string x336000_3, .int .i64 x336001_3, .slice none 0 0]) ?_ 2 _ rfl; (with_reducible repeat (first | refine blk_drewN ?_ _ | refine blk_drew ?_ | refine blk_alloc ?_ _)); refine blk_put (cs := #[.string x336000_3, .int .i64 0, .slice none 0 0]) ?_ 1 _ rfl; (with_reducible repeat (first | refine blk_drewN ?_ _ | refine blk_drew ?_ | refine blk_alloc ?_ _)); refine blk_put (cs := #[.string (⟨#[]⟩ : ByteArray), .int .i64 0, .slice none 0 0]) ?_ 0 _ rfl; (with_reducible repeat (first | refine blk_drewN ?_ _ | refine blk_drew ?_ | refine blk_alloc ?_ _)); exact BK331.out) Tryz.underlying58 rfl (by kernel_rfl)) rfl ?_
          exact ⟨_, zE, by (with_reducible repeat (first | apply Kd.R_alloc | apply Kd.R_drewN | apply Kd.R_drew)); exact Kd.R_mono (Kd.R_far (p := ⟨gb331, 2, none⟩) (Kd.R_far (p := ⟨gb331, 1, none⟩) (Kd.R_far (p := ⟨gb331, 0, none⟩) (Kd.R_types HO_336002.out BK331.out (by decide)) (fun _ hk => hk.2) (.string x336000_3)) (fun _ hk => hk.2) (.int .i64 x336001_3)) (fun _ hk => hk.2) (.slice Ao61 x336002_3.length co61)) (fun _ hk => trivial), zB⟩
end Go.Proofs.YtghhmnjkgnoogaaGreat.POuterPlans
