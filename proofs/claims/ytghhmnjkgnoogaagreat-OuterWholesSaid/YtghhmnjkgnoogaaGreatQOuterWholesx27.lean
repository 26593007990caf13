-- Written by this session's own program (wip/tools/mkprint.py) over the kit's printer, with overrides.
import Derived.Test.YtghhmnjkgnoogaaGreatTOuterWholesa
import Derived.Test.YtghhmnjkgnoogaaGreatQOuterWholesx0
import Derived.Test.YtghhmnjkgnoogaaGreatQOuterWholesx26
namespace Go.Proofs.YtghhmnjkgnoogaaGreat.POuterWholes
open Go.RowKit Go.Mine Go.Proofs.YtghhmnjkgnoogaaGreatW.PrintWords Go.Proofs.YtghhmnjkgnoogaaGreatW.PrintLast Go.Proofs.YtghhmnjkgnoogaaGreatW.PrintMore
attribute [local go_sem] max2_int min2_int max_two min_two max_three min_three max_four min_four   -- for this text's walks alone
set_option linter.unusedVariables false
set_option linter.unusedSimpArgs false
/-! ### mosaicref04_Gen_Pick: function 31 -/
/-- The Bools of a number's bits. -/
def mkB31 (w m : Nat) : Array Bool := ⟨(List.range w).map fun i => m.testBit i⟩
mutual
def mosaicref04_Gen_Pick.j0 : Nat → Int → Int → Bool → ByteArray → Int → Option (ByteArray × Int × List Int)
 | 0, _, _, _, _, _ => none
 | k + 1, x1, x2, x28, x325000, x325001 => if x28 = true then (some (x325000, x325001, ([] : List Int))) else (mosaicref04_Gen_Pick.l0 k x1 x2 ([] : List Int) 0 x325000 x325001)
def mosaicref04_Gen_Pick.l0 : Nat → Int → Int → List Int → Int → ByteArray → Int → Option (ByteArray × Int × List Int)
 | 0, _, _, _, _, _, _ => none
 | k + 1, x1, x2, x7, x8, x325000, x325001 => if x8 < x1 then (if x7.length < 17592186044416 then (mosaicref04_Gen_Pick.l0 k x1 x2 (x7 ++ [x8]) (wrap64 (x8 + 1)) x325000 x325001) else (none)) else (mosaicref04_Gen_Pick.l1 k x1 x2 x7 0 x325000 x325001 ([] : List Int))
def mosaicref04_Gen_Pick.l1 : Nat → Int → Int → List Int → Int → ByteArray → Int → List Int → Option (ByteArray × Int × List Int)
 | 0, _, _, _, _, _, _, _ => none
 | k + 1, x1, x2, x7, x10, x330000, x330001, x330002 => if x10 < x2 then ((mosaicref04_Gen_Below.f k x330000 x330001 (wrap64 (x1 - x10))).bind fun bt330 => (if 0 ≤ x10 then (if x10 < (x7.length : Int) then (if 0 ≤ (wrap64 (x10 + bt330.2.2)) then (if (wrap64 (x10 + bt330.2.2)) < (x7.length : Int) then ((some ((x7.set (x10 : Int).toNat (rd x7 (wrap64 (x10 + bt330.2.2)))).set ((wrap64 (x10 + bt330.2.2)) : Int).toNat (rd x7 x10) : List Int)).bind fun y337 => (if x330002.length < 17592186044416 then (mosaicref04_Gen_Pick.l1 k x1 x2 y337 (wrap64 (x10 + 1)) bt330.1 bt330.2.1 (x330002 ++ [rd y337 x10])) else (none))) else (none)) else (none)) else (none)) else (none))) else (some (x330000, x330001, x330002))
end
def mosaicref04_Gen_Pick.f (k : Nat) (a0_0 : ByteArray) (a0_1 : Int) (a1 : Int) (a2 : Int) : Option (ByteArray × Int × List Int) := if a1 < 0 then (mosaicref04_Gen_Pick.j0 k a1 a2 true a0_0 a0_1) else (if a1 > 4096 then (mosaicref04_Gen_Pick.j0 k a1 a2 true a0_0 a0_1) else (if a2 < 0 then (mosaicref04_Gen_Pick.j0 k a1 a2 true a0_0 a0_1) else (mosaicref04_Gen_Pick.j0 k a1 a2 (decide (a2 > a1)) a0_0 a0_1)))
theorem mosaicref04_Gen_Pick.mono_l : ∀ k, (∀ y0 y1 y2 y3 y4, LeO (mosaicref04_Gen_Pick.j0 k y0 y1 y2 y3 y4) (mosaicref04_Gen_Pick.j0 (k + 1) y0 y1 y2 y3 y4)) ∧ (∀ y0 y1 y2 y3 y4 y5, LeO (mosaicref04_Gen_Pick.l0 k y0 y1 y2 y3 y4 y5) (mosaicref04_Gen_Pick.l0 (k + 1) y0 y1 y2 y3 y4 y5)) ∧ (∀ y0 y1 y2 y3 y4 y5 y6, LeO (mosaicref04_Gen_Pick.l1 k y0 y1 y2 y3 y4 y5 y6) (mosaicref04_Gen_Pick.l1 (k + 1) y0 y1 y2 y3 y4 y5 y6))
 | 0 => ⟨fun _ _ _ _ _ r h => by simp [mosaicref04_Gen_Pick.j0] at h, fun _ _ _ _ _ _ r h => by simp [mosaicref04_Gen_Pick.l0] at h, fun _ _ _ _ _ _ _ r h => by simp [mosaicref04_Gen_Pick.l1] at h⟩
 | k + 1 => by
  obtain ⟨ih0, ih1, ih2⟩ := mosaicref04_Gen_Pick.mono_l k
  refine ⟨?_, ?_, ?_⟩
  ·
   intro y0 y1 y2 y3 y4
   unfold mosaicref04_Gen_Pick.j0
   repeat' first
   | (with_reducible exact ih0 _ _ _ _ _)
   | (with_reducible exact ih1 _ _ _ _ _ _)
   | (with_reducible exact ih2 _ _ _ _ _ _ _)
   | (with_reducible exact mosaicref04_Gen_Below.mono _ _ _ _)
   | (with_reducible exact LeO.refl _)
   | (with_reducible exact LeO.none _)
   | (with_reducible refine LeO.ite ?_ ?_)
   | (with_reducible refine LeO.bind ?_ (fun _ => ?_))
   | exact ih0 _ _ _ _ _
   | exact ih1 _ _ _ _ _ _
   | exact ih2 _ _ _ _ _ _ _
   | exact mosaicref04_Gen_Below.mono _ _ _ _
   | exact LeO.none _
   | refine LeO.ite ?_ ?_
   | refine LeO.bind ?_ (fun _ => ?_)
  ·
   intro y0 y1 y2 y3 y4 y5
   unfold mosaicref04_Gen_Pick.l0
   repeat' first
   | (with_reducible exact ih0 _ _ _ _ _)
   | (with_reducible exact ih1 _ _ _ _ _ _)
   | (with_reducible exact ih2 _ _ _ _ _ _ _)
   | (with_reducible exact mosaicref04_Gen_Below.mono _ _ _ _)
   | (with_reducible exact LeO.refl _)
   | (with_reducible exact LeO.none _)
   | (with_reducible refine LeO.ite ?_ ?_)
   | (with_reducible refine LeO.bind ?_ (fun _ => ?_))
   | exact ih0 _ _ _ _ _
   | exact ih1 _ _ _ _ _ _
   | exact ih2 _ _ _ _ _ _ _
   | exact mosaicref04_Gen_Below.mono _ _ _ _
   | exact LeO.none _
   | refine LeO.ite ?_ ?_
   | refine LeO.bind ?_ (fun _ => ?_)
  ·
   intro y0 y1 y2 y3 y4 y5 y6
   unfold mosaicref04_Gen_Pick.l1
   repeat' first
   | (with_reducible exact ih0 _ _ _ _ _)
   | (with_reducible exact ih1 _ _ _ _ _ _)
   | (with_reducible exact ih2 _ _ _ _ _ _ _)
   | (with_reducible exact mosaicref04_Gen_Below.mono _ _ _ _)
   | (with_reducible exact LeO.refl _)
   | (with_reducible exact LeO.none _)
   | (with_reducible refine LeO.ite ?_ ?_)
   | (with_reducible refine LeO.bind ?_ (fun _ => ?_))
   | exact ih0 _ _ _ _ _
   | exact ih1 _ _ _ _ _ _
   | exact ih2 _ _ _ _ _ _ _
   | exact mosaicref04_Gen_Below.mono _ _ _ _
   | exact LeO.none _
   | refine LeO.ite ?_ ?_
   | refine LeO.bind ?_ (fun _ => ?_)
theorem mosaicref04_Gen_Pick.mono : ∀ a0 a1 a2 a3 k, LeO (mosaicref04_Gen_Pick.f k a0 a1 a2 a3) (mosaicref04_Gen_Pick.f (k + 1) a0 a1 a2 a3) := by
 intro a0 a1 a2 a3 k
 obtain ⟨ih0, ih1, ih2⟩ := mosaicref04_Gen_Pick.mono_l k
 unfold mosaicref04_Gen_Pick.f
 repeat' first
   | (with_reducible exact ih0 _ _ _ _ _)
   | (with_reducible exact ih1 _ _ _ _ _ _)
   | (with_reducible exact ih2 _ _ _ _ _ _ _)
   | (with_reducible exact mosaicref04_Gen_Below.mono _ _ _ _)
   | (with_reducible exact LeO.refl _)
   | (with_reducible exact LeO.none _)
   | (with_reducible refine LeO.ite ?_ ?_)
   | (with_reducible refine LeO.bind ?_ (fun _ => ?_))
   | exact ih0 _ _ _ _ _
   | exact ih1 _ _ _ _ _ _
   | exact ih2 _ _ _ _ _ _ _
   | exact mosaicref04_Gen_Below.mono _ _ _ _
   | exact LeO.none _
   | refine LeO.ite ?_ ?_
   | refine LeO.bind ?_ (fun _ => ?_)
def mosaicref04_Gen_Pick.T18 : Bool × List (List Nat × List Nat) := (true, [([], []), ([0], [0]), ([], []), ([], []), ([2, 3], [2, 3]), ([4], [4]), ([5], [5]), ([1, 6], [1, 6]), ([0, 1, 2, 3, 4, 5, 6, 7], []), ([8, 7, 7, 0, 1, 2, 3, 4, 5, 6, 7], [7, 8])])
def mosaicref04_Gen_Pick.B18 : List Nat := [0, 1, 0, 0, 12, 28, 60, 127, 255, 511]
theorem mosaicref04_Gen_Pick.tab18 : rtab .any (opsOf Tryz.f31 18) = mosaicref04_Gen_Pick.T18 := by kernel_rfl
theorem mosaicref04_Gen_Pick.bits18 : waitsOk mosaicref04_Gen_Pick.T18.2 mosaicref04_Gen_Pick.B18 = true := by kernel_rfl
set_option maxHeartbeats 8000000 in
set_option maxRecDepth 100000 in
theorem mosaicref04_Gen_Pick.calls (k : Nat) (a0_0 : ByteArray) (a0_1 : Int) (a1 : Int) (a2 : Int) (r1 : ByteArray) (r2 : Int) (r3 : List Int) (w : World) (h : mosaicref04_Gen_Pick.f k a0_0 a0_1 a1 a2 = some (r1, r2, r3)) :
  Calls Tryz.prog 31 #[.agg #[.string a0_0, .int .i64 a0_1], .int .i64 a1, .int .i64 a2] w fun e w' => ∃ v2_ : Value, e = .returned (.agg #[.string r1, .int .i64 r2, v2_]) ∧ Kd.R (Kd.int .i64) 3 w' w.heap.size (fun _ => True) v2_ r3 ∧ Below w.heap.size w w' := by
 have hu56 := Tryz.underlying56; have hu58 := Tryz.underlying58; have hu80 := Tryz.underlying80; have HB := Aside0.mk (Below.refl w.heap.size w)
 have H : (if a1 < 0 then (mosaicref04_Gen_Pick.j0 k a1 a2 true a0_0 a0_1) else (if a1 > 4096 then (mosaicref04_Gen_Pick.j0 k a1 a2 true a0_0 a0_1) else (if a2 < 0 then (mosaicref04_Gen_Pick.j0 k a1 a2 true a0_0 a0_1) else (mosaicref04_Gen_Pick.j0 k a1 a2 (decide (a2 > a1)) a0_0 a0_1)))) = some (r1, r2, r3) := h
 clear h; have HC4 := Aside0.mk H
 clear H; go_enter Tryz.func31, Tryz.ntmps31
 go_upto_region 1 with (first | ((with_reducible refine gate_dst (N := 3) rfl ?_); refine box_event ?hg (N := 3) ?hd (cs := #[.string a0_0, .int .i64 a0_1]) (t := 56) ?hr ?_; (case hd => rfl); (case hg => rfl); (case hr => first | (go_simp; done) | (go_simp; rfl)); intro gb324 hg w5 hbox hb; have BK324 := Aside0.mk (hbox); have GW324 := Aside0.mk ((zg : w.heap.size ≤ gb324)); have GE324 := Aside0.mk ((zg : w.heap.size ≤ gb324)); replace HB := Aside0.mk (below_step zB hb); clear hb hbox hg) | ((with_reducible refine gate_dst (N := 6) rfl ?_); refine box_event ?hg (N := 6) ?hd (cs := #[.string (⟨#[]⟩ : ByteArray), .int .i64 0, .slice none 0 0]) (t := 58) ?hr ?_; (case hd => rfl); (case hg => rfl); (case hr => first | (go_simp; done) | (go_simp; rfl)); intro gb325 hg w6 hbox hb; have n0_ := Aside0.mk (blk_below (zk BK324) hb); have n1_ := Aside0.mk (below_step zB hb); have n2_ := Aside0.mk (hbox); have n3_ := Aside0.mk ((zg : w.heap.size ≤ gb325)); have n4_ := Aside0.mk ((zg : w.heap.size ≤ gb325)); have n5_ := Aside0.mk ((by rw [hg]; exact Nat.ne_of_lt (blk_lt (zk BK324)) : gb324 ≠ gb325)); have n6_ := Aside0.mk ((by rw [hg]; exact Nat.ne_of_gt (blk_lt (zk BK324)) : gb325 ≠ gb324)); clear BK324; clear HB; have BK324 := n0_; have HB := n1_; have BK325 := n2_; have GW325 := n3_; have GE325 := n4_; have NB324_325 := n5_; have NB325_324 := n6_; clear n0_ n1_ n2_ n3_ n4_ n5_ n6_; clear hb hbox hg))
 (try simp only [Act.put, List.setIfInBounds_toArray, List.set_cons_zero, List.set_cons_succ])
 go_cut [28] (fun v28 wc => ∃ (kq : Nat) (x28_3 : Bool), v28 = .bool x28_3 ∧ Aside0 (mosaicref04_Gen_Pick.j0 kq a1 a2 x28_3 a0_0 a0_1 = some (r1, r2, r3)) ∧ Aside0 (kq ≤ k) ∧ Aside0 (wc.heap[gb324]? = some (.cells #[.string a0_0, .int .i64 a0_1] 56 (0, 0))) ∧ Aside0 (wc.heap[gb325]? = some (.cells #[.string (⟨#[]⟩ : ByteArray), .int .i64 0, (.slice none 0 0)] 58 (0, 0))) ∧ Aside0 (Below w.heap.size w wc))
 case first =>
  have H := HC4.out; clear HC4; by_cases c7 : a1 < 0
  ·
   rw [if_pos c7] at H
   have c7b0 : decide (a1 < 0) = true := decide_eq_true c7
   clear c7; (first | rw [c7b0] | (simp only [i64_w, i32_w]; rw [c7b0]) | skip)
   have H' := Aside0.mk H
   clear H; go_wp2
   go_meet
   case rel => exact ⟨_, (true), zF, H', ⟨by first | omega | exact Nat.le_refl _⟩, ⟨zk BK324⟩, ⟨zk BK325⟩, ⟨zB⟩⟩
  ·
   rw [if_neg c7] at H
   have c7b0 : decide (a1 < 0) = false := decide_eq_false c7
   clear c7; (first | rw [c7b0] | (simp only [i64_w, i32_w]; rw [c7b0]) | skip)
   by_cases c8 : a1 > 4096
   ·
    rw [if_pos c8] at H
    have c8b0 : decide (4096 < a1) = true := decide_eq_true c8
    clear c8; have H' := Aside0.mk H
    clear H; go_wp2
    go_meet
    case rel => exact ⟨_, (true), zF, H', ⟨by first | omega | exact Nat.le_refl _⟩, ⟨zk BK324⟩, ⟨zk BK325⟩, ⟨zB⟩⟩
   ·
    rw [if_neg c8] at H
    have c8b0 : decide (4096 < a1) = false := decide_eq_false c8
    clear c8; by_cases c9 : a2 < 0
    ·
     rw [if_pos c9] at H
     have c9b0 : decide (a2 < 0) = true := decide_eq_true c9
     clear c9; have H' := Aside0.mk H
     clear H; go_wp2
     go_meet
     case rel => exact ⟨_, (true), zF, H', ⟨by first | omega | exact Nat.le_refl _⟩, ⟨zk BK324⟩, ⟨zk BK325⟩, ⟨zB⟩⟩
    ·
     rw [if_neg c9] at H
     have c9b0 : decide (a2 < 0) = false := decide_eq_false c9
     clear c9; have H' := Aside0.mk H
     clear H; go_wp2
     go_meet
     case rel => exact ⟨_, (decide (a2 > a1)), zF, H', ⟨by first | omega | exact Nat.le_refl _⟩, ⟨zk BK324⟩, ⟨zk BK325⟩, ⟨zB⟩⟩
 case rest =>
  clear HC4; (try clear p2); (try clear c3); (try clear c7); (try clear c7b0); (try clear c8); (try clear c8b0); (try clear c9); (try clear c9b0); obtain ⟨kq, x28_3, rfl, HA, HJ3, BK324, BK325, HB⟩ := hcut
  cases kq with
  | zero => exact absurd HA.out (by simp [mosaicref04_Gen_Pick.j0])
  | succ kj3 =>
   have H := HA.out; clear HA; simp only [mosaicref04_Gen_Pick.j0] at H
   by_cases c10 : x28_3 = true
   ·
    subst c10
    have H1 : (some (a0_0, a0_1, ([] : List Int))) = some (r1, r2, r3) := by rw [if_pos rfl] at H; exact H
    clear H; have H := H1; clear H1; simp only [Option.some.injEq, Prod.mk.injEq] at H
    obtain ⟨rfl, rfl, rfl⟩ := H
    have hnb11 := NB324_325.out; have hnc11 := NB325_324.out; obtain ⟨hcz12_0, hcz12_1⟩ := cZ2 BK324
    obtain ⟨hfz12_0, hfz12_1⟩ := dZ2 BK324; obtain ⟨hcz13_0, hcz13_1, hcz13_2⟩ := cZ3 BK325
    obtain ⟨hfz13_0, hfz13_1, hfz13_2⟩ := dZ3 BK325; go_wp2
    refine bodyPost_ret (results_cell_row rfl _ _ gb325 58 #[.string a0_0, .int .i64 a0_1, .slice none 0 0] (0, 0) _ rfl (by (with_reducible repeat (first | refine blk_drewN ?_ _ | refine blk_drew ?_ | refine blk_alloc ?_ _)); refine blk_put (cs := #[.string a0_0, .int .i64 a0_1, .slice none 0 0]) ?_ 2 _ rfl; (with_reducible repeat (first | refine blk_drewN ?_ _ | refine blk_drew ?_ | refine blk_alloc ?_ _)); refine blk_put (cs := #[.string a0_0, .int .i64 0, .slice none 0 0]) ?_ 1 _ rfl; (with_reducible repeat (first | refine blk_drewN ?_ _ | refine blk_drew ?_ | refine blk_alloc ?_ _)); refine blk_put (cs := #[.string (⟨#[]⟩ : ByteArray), .int .i64 0, .slice none 0 0]) ?_ 0 _ rfl; (with_reducible repeat (first | refine blk_drewN ?_ _ | refine blk_drew ?_ | refine blk_alloc ?_ _)); exact BK325.out) Tryz.underlying58 rfl (by kernel_rfl)) rfl ?_
    exact ⟨_, zE, by first | exact Kd.R_nil _ _ _ _ _ | exact Kd.N_nil _ _ _ _ _ | exact Kd.V_nil _ _ _ _ _ | exact Kd.Q_nil _ _ _ _ _ | exact Kd.S_nil _ _ _ _ _, zB⟩
   ·
    replace c10 := Bool.eq_false_iff.mpr c10
    subst c10
    have H1 : (mosaicref04_Gen_Pick.l0 kj3 a1 a2 ([] : List Int) 0 a0_0 a0_1) = some (r1, r2, r3) := by rw [if_neg (show ¬ (false = true) by decide)] at H; exact H
    clear H; have H := H1; clear H1; have H' := Aside0.mk H
    clear H; go_wp2
    go_loopg [7, 8] kj3 (fun kq v7 v8 w' => ∃ (x7_2 : List Int) (x8_2 : Int), v8 = .int .i64 x8_2 ∧ Aside0 (mosaicref04_Gen_Pick.l0 kq a1 a2 x7_2 x8_2 a0_0 a0_1 = some (r1, r2, r3)) ∧ Aside0 (kq ≤ kj3) ∧ Aside0 (Kd.R (Kd.int .i64) 3 w' w.heap.size (fun _ => True) v7 x7_2) ∧ Aside0 (w'.heap[gb324]? = some (.cells #[.string a0_0, .int .i64 a0_1] 56 (0, 0))) ∧ Aside0 (w'.heap[gb325]? = some (.cells #[.string (⟨#[]⟩ : ByteArray), .int .i64 0, (.slice none 0 0)] 58 (0, 0))) ∧ Aside0 (Below w.heap.size w w'))
    case atStart => exact ⟨(([] : List Int)), (0), zF, H', ⟨Nat.le_refl _⟩, ⟨by first | exact Kd.R_nil _ _ _ _ _ | exact Kd.N_nil _ _ _ _ _ | exact Kd.V_nil _ _ _ _ _ | exact Kd.Q_nil _ _ _ _ _ | exact Kd.S_nil _ _ _ _ _⟩, ⟨zk BK324⟩, ⟨zk BK325⟩, ⟨zB⟩⟩
    case round =>
     clear H'
     (try clear c1); (try clear p2); (try clear c3); (try clear c7); (try clear c7b0); (try clear c8); (try clear c8b0); (try clear c9); (try clear c9b0); (try clear c10); (try clear c11); (try clear hcz12_0); (try clear hcz12_1); (try clear hcz13_0); (try clear hcz13_1); (try clear hcz13_2); (try clear hfz12_0); (try clear hfz12_1); (try clear hfz13_0); (try clear hfz13_1); (try clear hfz13_2); (try clear p2); obtain ⟨x7_2, x8_2, rfl, HA, HK2, HO_7, BK324, BK325, HB⟩ := hrel
     cases gk with
     | zero => exact absurd HA.out (by simp [mosaicref04_Gen_Pick.l0])
     | succ k2 =>
      have H := HA.out; clear HA; simp only [mosaicref04_Gen_Pick.l0] at H
      by_cases c14 : x8_2 < a1
      ·
       rw [if_pos c14] at H
       have c14b0 : decide (x8_2 < a1) = true := decide_eq_true c14
       clear c14; by_cases c15 : x7_2.length < 17592186044416
       ·
        rw [if_pos c15] at H
        have LMc15 := Aside0.mk c15
        clear c15; obtain ⟨y326, hy326⟩ : ∃ y_ : List Int, y_ = (x7_2 ++ [x8_2]) := ⟨_, rfl⟩
        replace H : (mosaicref04_Gen_Pick.l0 k2 a1 a2 y326 (wrap64 (x8_2 + 1)) a0_0 a0_1) = some (r1, r2, r3) := by first | (rw [hy326]; with_reducible exact H) | (have H2_ := (Option.bind_some _ _).symm.trans H; rw [hy326]; with_reducible exact H2_) | (have H2_ := (Option.bind_some _ _).symm.trans H; with_reducible exact H2_) | with_reducible exact H | (rw [hy326]; exact H) | exact H
        have Ny326 := Aside0.mk hy326
        clear hy326; have H' := Aside0.mk H
        clear H; go_wp2_with (first | ((with_reducible refine gate_builtin (b := .append) (xs := #[.tmp 36, .tmp 38]) rfl ?_); at_builtin; refine Kd.R_append (Kd.int .i64) (w0 := w) w.heap.size rfl (.tmp 36) (.tmp 38) 26 3 (.int .i64 0) 8 rfl Tryz.underlying26 info3 rfl (by decide) (by omega) u7 x7_2 x8_2 [.int .i64 x8_2] (fun _ => True) (fun _ => False) rfl rfl ?aP (fun _ hk => hk.elim) ?aF ?aO ?aB ?aS ?aL ?_; (case aP => exact rfl); (case aB => exact zB); (case aF => exact (fun _ _ => trivial)); (case aO => exact (by (with_reducible repeat (first | apply Kd.R_alloc | apply Kd.R_drewN | apply Kd.R_drew)); exact HO_7.out)); (case aS => exact (below_size zB)); (case aL => have := LMc15.out; omega); intro v327 w16 ho hb hg hat; rw [← Ny326.out] at ho; replace BK324 := Aside0.mk (blk_grown (zk BK324) hg (Kd.R_ne HO_7.out BK324.out (by decide))); replace BK325 := Aside0.mk (blk_grown (zk BK325) hg (Kd.R_ne HO_7.out BK325.out (by decide))); have HO328 := Aside0.mk (ho); replace HB := Aside0.mk (hb); clear HO_7; clear ho hb hg hat))
        go_roundg k2
        case measure => have := HJ3.out; have := HK2.out; omega
        case rel => exact ⟨(y326), (wrap64 (x8_2 + 1)), zF, H', ⟨by have := HJ3.out; have := HK2.out; omega⟩, ⟨zR HO328⟩, ⟨zk BK324⟩, ⟨zk BK325⟩, ⟨zB⟩⟩
       ·
        rw [if_neg c15] at H
        exact absurd H (by simp)
      ·
       rw [if_neg c14] at H
       have c14b0 : decide (x8_2 < a1) = false := decide_eq_false c14
       clear c14; have H' := Aside0.mk H
       clear H; have hnb17 := NB324_325.out; have hnc17 := NB325_324.out; obtain ⟨hcz18_0, hcz18_1⟩ := cZ2 BK324
       obtain ⟨hfz18_0, hfz18_1⟩ := dZ2 BK324; go_wp2_with (first | ((with_reducible refine gate_dst (N := 9) rfl ?_); refine box_event ?hg (N := 9) ?hd (cs := #[.string (⟨#[]⟩ : ByteArray), .int .i64 0, .slice none 0 0]) (t := 58) ?hr ?_; (case hd => rfl); (case hg => rfl); (case hr => first | (go_simp; done) | (go_simp; rfl)); intro gb329 hg w19 hbox hb; have n0_ := Aside0.mk (Kd.R_below (zR HO_7) hb); have n1_ := Aside0.mk (blk_below (zk BK324) hb); have n2_ := Aside0.mk (blk_below (zk BK325) hb); have n3_ := Aside0.mk (below_step zB hb); have n4_ := Aside0.mk (hbox); have n5_ := Aside0.mk ((zg : w.heap.size ≤ gb329)); have n6_ := Aside0.mk ((zg : w.heap.size ≤ gb329)); have n7_ := Aside0.mk ((by rw [hg]; exact Nat.ne_of_lt (blk_lt (zk BK324)) : gb324 ≠ gb329)); have n8_ := Aside0.mk ((by rw [hg]; exact Nat.ne_of_gt (blk_lt (zk BK324)) : gb329 ≠ gb324)); have n9_ := Aside0.mk ((by rw [hg]; exact Nat.ne_of_lt (blk_lt (zk BK325)) : gb325 ≠ gb329)); have n10_ := Aside0.mk ((by rw [hg]; exact Nat.ne_of_gt (blk_lt (zk BK325)) : gb329 ≠ gb325)); clear HO_7; clear BK324; clear BK325; clear HB; have HO_7 := n0_; have BK324 := n1_; have BK325 := n2_; have HB := n3_; have BK329 := n4_; have GW329 := n5_; have GE329 := n6_; have NB324_329 := n7_; have NB329_324 := n8_; have NB325_329 := n9_; have NB329_325 := n10_; clear n0_ n1_ n2_ n3_ n4_ n5_ n6_ n7_ n8_ n9_ n10_; clear hb hbox hg; have hnb20 := NB329_324.out; have hnc20 := NB324_329.out; have hnb21 := NB329_325.out; have hnc21 := NB325_329.out; obtain ⟨hcz22_0, hcz22_1, hcz22_2⟩ := cZ3 BK329; obtain ⟨hfz22_0, hfz22_1, hfz22_2⟩ := dZ3 BK329))
       go_loopg [10] k2 (fun kq v10 w' => ∃ (x7_3 : List Int) (x10_3 : Int) (x330000_3 : ByteArray) (x330001_3 : Int) (x330002_3 : List Int) (u330002 : Value), v10 = .int .i64 x10_3 ∧ Aside0 (mosaicref04_Gen_Pick.l1 kq a1 a2 x7_3 x10_3 x330000_3 x330001_3 x330002_3 = some (r1, r2, r3)) ∧ Aside0 (kq ≤ k2) ∧ Aside0 (Kd.R (Kd.int .i64) 3 w' w.heap.size (fun k_ => some k_ ≠ (u330002 : Value).ownBlock) u7 x7_3) ∧ Aside0 (Kd.R (Kd.int .i64) 3 w' w.heap.size (fun k_ => some k_ ≠ (u7 : Value).ownBlock) u330002 x330002_3) ∧ Aside0 (w'.heap[gb324]? = some (.cells #[.string a0_0, .int .i64 a0_1] 56 (0, 0))) ∧ Aside0 (w'.heap[gb325]? = some (.cells #[.string (⟨#[]⟩ : ByteArray), .int .i64 0, (.slice none 0 0)] 58 (0, 0))) ∧ Aside0 (w'.heap[gb329]? = some (.cells #[.string x330000_3, .int .i64 x330001_3, u330002] 58 (0, 0))) ∧ Aside0 (Below w.heap.size w w'))
       case atStart => exact ⟨(x7_2), (0), (a0_0), (a0_1), (([] : List Int)), (.slice none 0 0), zF, H', ⟨Nat.le_refl _⟩, ⟨by (with_reducible repeat (first | apply Kd.R_alloc | apply Kd.R_drewN | apply Kd.R_drew)); exact Kd.R_mono (Kd.R_far (p := ⟨gb329, 2, none⟩) (Kd.R_far (p := ⟨gb329, 1, none⟩) (Kd.R_far (p := ⟨gb329, 0, none⟩) (Kd.R_types HO_7.out BK329.out (by decide)) (fun _ hk => hk.2) (.string a0_0)) (fun _ hk => hk.2) (.int .i64 a0_1)) (fun _ hk => hk.2) (.slice none 0 0)) (fun _ hk => (by simp [Value.ownBlock]))⟩, ⟨by first | exact Kd.R_nil _ _ _ _ _ | exact Kd.N_nil _ _ _ _ _ | exact Kd.V_nil _ _ _ _ _ | exact Kd.Q_nil _ _ _ _ _ | exact Kd.S_nil _ _ _ _ _⟩, ⟨by (with_reducible repeat (first | refine blk_drewN ?_ _ | refine blk_drew ?_ | refine blk_alloc ?_ _)); refine blk_far ?_ NB324_329.out _; (with_reducible repeat (first | refine blk_drewN ?_ _ | refine blk_drew ?_ | refine blk_alloc ?_ _)); refine blk_far ?_ NB324_329.out _; (with_reducible repeat (first | refine blk_drewN ?_ _ | refine blk_drew ?_ | refine blk_alloc ?_ _)); refine blk_far ?_ NB324_329.out _; (with_reducible repeat (first | refine blk_drewN ?_ _ | refine blk_drew ?_ | refine blk_alloc ?_ _)); exact BK324.out⟩, ⟨by (with_reducible repeat (first | refine blk_drewN ?_ _ | refine blk_drew ?_ | refine blk_alloc ?_ _)); refine blk_far ?_ NB325_329.out _; (with_reducible repeat (first | refine blk_drewN ?_ _ | refine blk_drew ?_ | refine blk_alloc ?_ _)); refine blk_far ?_ NB325_329.out _; (with_reducible repeat (first | refine blk_drewN ?_ _ | refine blk_drew ?_ | refine blk_alloc ?_ _)); refine blk_far ?_ NB325_329.out _; (with_reducible repeat (first | refine blk_drewN ?_ _ | refine blk_drew ?_ | refine blk_alloc ?_ _)); exact BK325.out⟩, ⟨by (with_reducible repeat (first | refine blk_drewN ?_ _ | refine blk_drew ?_ | refine blk_alloc ?_ _)); refine blk_put (cs := #[.string a0_0, .int .i64 a0_1, .slice none 0 0]) ?_ 2 _ rfl; (with_reducible repeat (first | refine blk_drewN ?_ _ | refine blk_drew ?_ | refine blk_alloc ?_ _)); refine blk_put (cs := #[.string a0_0, .int .i64 0, .slice none 0 0]) ?_ 1 _ rfl; (with_reducible repeat (first | refine blk_drewN ?_ _ | refine blk_drew ?_ | refine blk_alloc ?_ _)); refine blk_put (cs := #[.string (⟨#[]⟩ : ByteArray), .int .i64 0, .slice none 0 0]) ?_ 0 _ rfl; (with_reducible repeat (first | refine blk_drewN ?_ _ | refine blk_drew ?_ | refine blk_alloc ?_ _)); exact BK329.out⟩, ⟨zB⟩⟩
       case round =>
        clear H'
        (try clear c1); (try clear c2); (try clear p2); (try clear c3); (try clear p6); (try clear c7); (try clear c7b0); (try clear c8); (try clear c8b0); (try clear c9); (try clear c9b0); (try clear c10); (try clear c11); (try clear c14); (try clear c14b0); (try clear c15); (try clear c17); (try clear c20); (try clear c21); (try clear hcz12_0); (try clear hcz12_1); (try clear hcz13_0); (try clear hcz13_1); (try clear hcz13_2); (try clear hcz18_0); (try clear hcz18_1); (try clear hcz22_0); (try clear hcz22_1); (try clear hcz22_2); (try clear hfz12_0); (try clear hfz12_1); (try clear hfz13_0); (try clear hfz13_1); (try clear hfz13_2); (try clear hfz18_0); (try clear hfz18_1); (try clear hfz22_0); (try clear hfz22_1); (try clear hfz22_2); (try clear p2); obtain ⟨x7_3, x10_3, x330000_3, x330001_3, x330002_3, u330002, rfl, HA, HK3, HO_7, HO_330002, BK324, BK325, BK329, HB⟩ := hrel
        cases gk with
        | zero => exact absurd HA.out (by simp [mosaicref04_Gen_Pick.l1])
        | succ k3 =>
         have H := HA.out; clear HA; simp only [mosaicref04_Gen_Pick.l1] at H
         by_cases c23 : x10_3 < a2
         ·
          rw [if_pos c23] at H
          have c23b0 : decide (x10_3 < a2) = true := decide_eq_true c23
          clear c23; replace H := Option.bind_eq_some_iff.mp H
          obtain ⟨⟨t330, t331, t332⟩, A240, H⟩ := H
          replace H : (if 0 ≤ x10_3 then (if x10_3 < (x7_3.length : Int) then (if 0 ≤ (wrap64 (x10_3 + t332)) then (if (wrap64 (x10_3 + t332)) < (x7_3.length : Int) then ((some ((x7_3.set (x10_3 : Int).toNat (rd x7_3 (wrap64 (x10_3 + t332)))).set ((wrap64 (x10_3 + t332)) : Int).toNat (rd x7_3 x10_3) : List Int)).bind fun y337 => (if x330002_3.length < 17592186044416 then (mosaicref04_Gen_Pick.l1 k3 a1 a2 y337 (wrap64 (x10_3 + 1)) t330 t331 (x330002_3 ++ [rd y337 x10_3])) else (none))) else (none)) else (none)) else (none)) else (none)) = some (r1, r2, r3) := H
          have A24 := Aside0.mk A240
          clear A240; by_cases c25 : 0 ≤ x10_3
          ·
           rw [if_pos c25] at H
           have c25b0 : decide (0 ≤ x10_3) = true := decide_eq_true c25
           clear c25; by_cases c26 : x10_3 < (x7_3.length : Int)
           ·
            rw [if_pos c26] at H
            have c26b0 : decide (x10_3 < (x7_3.length : Int)) = true := decide_eq_true c26
            clear c26; obtain ⟨ji27, hji27⟩ : ∃ j_ : Int, (wrap64 (x10_3 + t332)) = j_ := ⟨_, rfl⟩
            replace H : (if 0 ≤ (ji27) then (if (ji27) < (x7_3.length : Int) then ((some ((x7_3.set (x10_3 : Int).toNat (rd x7_3 (ji27))).set ((ji27) : Int).toNat (rd x7_3 x10_3) : List Int)).bind fun y337 => (if x330002_3.length < 17592186044416 then (mosaicref04_Gen_Pick.l1 k3 a1 a2 y337 (wrap64 (x10_3 + 1)) t330 t331 (x330002_3 ++ [rd y337 x10_3])) else (none))) else (none)) else (none)) = some (r1, r2, r3) := by first | (rw [hji27] at H; exact H) | (simp only [hji27] at H ⊢; exact H)
            (try rw [hji27] at A24)
            have hji27w : (IntKind.i64.wrap (x10_3 + t332)) = ji27 := (i64_w _).trans hji27
            by_cases c28 : 0 ≤ (ji27)
            ·
             rw [if_pos c28] at H
             have c28b0 : decide (0 ≤ (ji27)) = true := decide_eq_true c28
             clear c28; by_cases c29 : (ji27) < (x7_3.length : Int)
             ·
              rw [if_pos c29] at H
              have c29b0 : decide ((ji27) < (x7_3.length : Int)) = true := decide_eq_true c29
              clear c29; obtain ⟨y336, hy336⟩ : ∃ y_ : List Int, y_ = (x7_3.set (x10_3 : Int).toNat (rd x7_3 (ji27))) := ⟨_, rfl⟩
              replace H : ((some (y336.set ((ji27) : Int).toNat (rd x7_3 x10_3) : List Int)).bind fun y337 => (if x330002_3.length < 17592186044416 then (mosaicref04_Gen_Pick.l1 k3 a1 a2 y337 (wrap64 (x10_3 + 1)) t330 t331 (x330002_3 ++ [rd y337 x10_3])) else (none))) = some (r1, r2, r3) := by first | (rw [hy336]; with_reducible exact H) | (have H2_ := (Option.bind_some _ _).symm.trans H; rw [hy336]; with_reducible exact H2_) | (have H2_ := (Option.bind_some _ _).symm.trans H; with_reducible exact H2_) | with_reducible exact H | (rw [hy336]; exact H) | exact H
              have Ny336 := Aside0.mk hy336
              clear hy336; obtain ⟨y337, hy337⟩ : ∃ y_ : List Int, y_ = (y336.set ((ji27) : Int).toNat (rd x7_3 x10_3)) := ⟨_, rfl⟩
              replace H : (if x330002_3.length < 17592186044416 then (mosaicref04_Gen_Pick.l1 k3 a1 a2 y337 (wrap64 (x10_3 + 1)) t330 t331 (x330002_3 ++ [rd y337 x10_3])) else (none)) = some (r1, r2, r3) := by first | (rw [hy337]; with_reducible exact H) | (have H2_ := (Option.bind_some _ _).symm.trans H; rw [hy337]; with_reducible exact H2_) | (have H2_ := (Option.bind_some _ _).symm.trans H; with_reducible exact H2_) | with_reducible exact H | (rw [hy337]; exact H) | exact H
              have Ny337 := Aside0.mk hy337
              clear hy337; by_cases c32 : x330002_3.length < 17592186044416
              ·
               rw [if_pos c32] at H
               have LMc32 := Aside0.mk c32
               clear c32; obtain ⟨y339, hy339⟩ : ∃ y_ : List Int, y_ = (x330002_3 ++ [rd y337 x10_3]) := ⟨_, rfl⟩
               replace H : (mosaicref04_Gen_Pick.l1 k3 a1 a2 y337 (wrap64 (x10_3 + 1)) t330 t331 y339) = some (r1, r2, r3) := by first | (rw [hy339]; with_reducible exact H) | (have H2_ := (Option.bind_some _ _).symm.trans H; rw [hy339]; with_reducible exact H2_) | (have H2_ := (Option.bind_some _ _).symm.trans H; with_reducible exact H2_) | with_reducible exact H | (rw [hy339]; exact H) | exact H
               have Ny339 := Aside0.mk hy339
               clear hy339; have H' := Aside0.mk H
               clear H; have hnb33 := NB329_324.out; have hnc33 := NB324_329.out; have hnb34 := NB329_325.out; have hnc34 := NB325_329.out; obtain ⟨hcz35_0, hcz35_1, hcz35_2⟩ := cZ3 BK329
               obtain ⟨hfz35_0, hfz35_1, hfz35_2⟩ := dZ3 BK329; try go_wp2_with (first | ((with_reducible refine gate_callee (f := 55) rfl ?_); refine goesL_ (some 52) rfl rfl Tryz.func55 (by kernel_rfl) rfl #[.agg #[.string x330000_3, .int .i64 x330001_3], .int .i64 (wrap64 (a1 - x10_3))] rfl zM ?_; (with_reducible refine (mosaicref04_Gen_Below.calls k3 x330000_3 x330001_3 (wrap64 (a1 - x10_3)) t330 t331 t332 _ A24.out).mono ?_); rintro e w36 ⟨rfl, hb⟩; refine ⟨_, rfl, ?_⟩; replace HO_7 := Aside0.mk (Kd.R_below (zR HO_7) hb); replace HO_330002 := Aside0.mk (Kd.R_below (zR HO_330002) hb); replace BK324 := Aside0.mk (blk_below (zk BK324) hb); replace BK325 := Aside0.mk (blk_below (zk BK325) hb); replace BK329 := Aside0.mk (blk_below (zk BK329) hb); replace HB := Aside0.mk (below_step zB hb); (try clear hb); (try clear hb2); (try clear hk); (try clear hi)) | ((with_reducible refine gate_dst (N := 11) rfl ?_); refine box_event ?hg (N := 11) ?hd (cs := #[.string (⟨#[]⟩ : ByteArray), .int .i64 0, .int .i64 0]) (t := 80) ?hr ?_; (case hd => rfl); (case hg => rfl); (case hr => first | (go_simp; done) | (go_simp; rfl)); intro gb333 hg w37 hbox hb; have n0_ := Aside0.mk (Kd.R_below (zR HO_7) hb); have n1_ := Aside0.mk (Kd.R_below (zR HO_330002) hb); have n2_ := Aside0.mk (blk_below (zk BK324) hb); have n3_ := Aside0.mk (blk_below (zk BK325) hb); have n4_ := Aside0.mk (blk_below (zk BK329) hb); have n5_ := Aside0.mk (below_step zB hb); have n6_ := Aside0.mk (hbox); have n7_ := Aside0.mk ((zg : w.heap.size ≤ gb333)); have n8_ := Aside0.mk ((zg : w.heap.size ≤ gb333)); have n9_ := Aside0.mk ((by rw [hg]; exact Nat.ne_of_lt (blk_lt (zk BK324)) : gb324 ≠ gb333)); have n10_ := Aside0.mk ((by rw [hg]; exact Nat.ne_of_gt (blk_lt (zk BK324)) : gb333 ≠ gb324)); have n11_ := Aside0.mk ((by rw [hg]; exact Nat.ne_of_lt (blk_lt (zk BK325)) : gb325 ≠ gb333)); have n12_ := Aside0.mk ((by rw [hg]; exact Nat.ne_of_gt (blk_lt (zk BK325)) : gb333 ≠ gb325)); have n13_ := Aside0.mk ((by rw [hg]; exact Nat.ne_of_lt (blk_lt (zk BK329)) : gb329 ≠ gb333)); have n14_ := Aside0.mk ((by rw [hg]; exact Nat.ne_of_gt (blk_lt (zk BK329)) : gb333 ≠ gb329)); clear HO_7; clear HO_330002; clear BK324; clear BK325; clear BK329; clear HB; have HO_7 := n0_; have HO_330002 := n1_; have BK324 := n2_; have BK325 := n3_; have BK329 := n4_; have HB := n5_; have BK333 := n6_; have GW333 := n7_; have GE333 := n8_; have NB324_333 := n9_; have NB333_324 := n10_; have NB325_333 := n11_; have NB333_325 := n12_; have NB329_333 := n13_; have NB333_329 := n14_; clear n0_ n1_ n2_ n3_ n4_ n5_ n6_ n7_ n8_ n9_ n10_ n11_ n12_ n13_ n14_; clear hb hbox hg; have hnb38 := NB333_324.out; have hnc38 := NB324_333.out; have hnb39 := NB333_325.out; have hnc39 := NB325_333.out; have hnb40 := NB333_329.out; have hnc40 := NB329_333.out; obtain ⟨hcz41_0, hcz41_1, hcz41_2⟩ := cZ3 BK333; obtain ⟨hfz41_0, hfz41_1, hfz41_2⟩ := dZ3 BK333) | ((with_reducible refine gate_store (t := 80) (p := 11) rfl ?_); refine store_event (t := 80) (p := 11) (v := ?vo_w42) (w1 := (((w37.setCell ⟨gb333, 0, none⟩ (.string t330)).setCell ⟨gb333, 1, none⟩ (.int .i64 t331)).setCell ⟨gb333, 2, none⟩ (.int .i64 t332))) ?hg ?ho ?hn ?hr ?_; (case ho => rfl); (case hg => rfl); (case hn => rfl); (case hr => first | (go_simp; done) | (go_simp; rfl)); intro w42 hw; have n0_ : Aside0 (Kd.R (Kd.int .i64) 3 w42 w.heap.size (fun k_ => some k_ ≠ (u330002 : Value).ownBlock) u7 x7_3) := ⟨(by rw [hw]; exact (by (with_reducible repeat (first | apply Kd.R_alloc | apply Kd.R_drewN | apply Kd.R_drew)); exact Kd.R_mono (Kd.R_far (p := ⟨gb333, 2, none⟩) (Kd.R_far (p := ⟨gb333, 1, none⟩) (Kd.R_far (p := ⟨gb333, 0, none⟩) (Kd.R_types HO_7.out BK333.out (by decide)) (fun _ hk => hk.2) (.string t330)) (fun _ hk => hk.2) (.int .i64 t331)) (fun _ hk => hk.2) (.int .i64 t332)) (fun _ hk => hk.1)))⟩; have n1_ : Aside0 (Kd.R (Kd.int .i64) 3 w42 w.heap.size (fun k_ => some k_ ≠ (u7 : Value).ownBlock) u330002 x330002_3) := ⟨(by rw [hw]; exact (by (with_reducible repeat (first | apply Kd.R_alloc | apply Kd.R_drewN | apply Kd.R_drew)); exact Kd.R_mono (Kd.R_far (p := ⟨gb333, 2, none⟩) (Kd.R_far (p := ⟨gb333, 1, none⟩) (Kd.R_far (p := ⟨gb333, 0, none⟩) (Kd.R_types HO_330002.out BK333.out (by decide)) (fun _ hk => hk.2) (.string t330)) (fun _ hk => hk.2) (.int .i64 t331)) (fun _ hk => hk.2) (.int .i64 t332)) (fun _ hk => hk.1)))⟩; have n2_ : Aside0 (w42.heap[gb324]? = some (.cells #[.string a0_0, .int .i64 a0_1] 56 (0, 0))) := ⟨(by rw [hw]; exact (by (with_reducible repeat (first | refine blk_drewN ?_ _ | refine blk_drew ?_ | refine blk_alloc ?_ _)); refine blk_far ?_ NB324_333.out _; (with_reducible repeat (first | refine blk_drewN ?_ _ | refine blk_drew ?_ | refine blk_alloc ?_ _)); refine blk_far ?_ NB324_333.out _; (with_reducible repeat (first | refine blk_drewN ?_ _ | refine blk_drew ?_ | refine blk_alloc ?_ _)); refine blk_far ?_ NB324_333.out _; (with_reducible repeat (first | refine blk_drewN ?_ _ | refine blk_drew ?_ | refine blk_alloc ?_ _)); exact BK324.out))⟩; have n3_ : Aside0 (w42.heap[gb325]? = some (.cells #[.string (⟨#[]⟩ : ByteArray), .int .i64 0, .slice none 0 0] 58 (0, 0))) := ⟨(by rw [hw]; exact (by (with_reducible repeat (first | refine blk_drewN ?_ _ | refine blk_drew ?_ | refine blk_alloc ?_ _)); refine blk_far ?_ NB325_333.out _; (with_reducible repeat (first | refine blk_drewN ?_ _ | refine blk_drew ?_ | refine blk_alloc ?_ _)); refine blk_far ?_ NB325_333.out _; (with_reducible repeat (first | refine blk_drewN ?_ _ | refine blk_drew ?_ | refine blk_alloc ?_ _)); refine blk_far ?_ NB325_333.out _; (with_reducible repeat (first | refine blk_drewN ?_ _ | refine blk_drew ?_ | refine blk_alloc ?_ _)); exact BK325.out))⟩; have n4_ : Aside0 (w42.heap[gb329]? = some (.cells #[.string x330000_3, .int .i64 x330001_3, u330002] 58 (0, 0))) := ⟨(by rw [hw]; exact (by (with_reducible repeat (first | refine blk_drewN ?_ _ | refine blk_drew ?_ | refine blk_alloc ?_ _)); refine blk_far ?_ NB329_333.out _; (with_reducible repeat (first | refine blk_drewN ?_ _ | refine blk_drew ?_ | refine blk_alloc ?_ _)); refine blk_far ?_ NB329_333.out _; (with_reducible repeat (first | refine blk_drewN ?_ _ | refine blk_drew ?_ | refine blk_alloc ?_ _)); refine blk_far ?_ NB329_333.out _; (with_reducible repeat (first | refine blk_drewN ?_ _ | refine blk_drew ?_ | refine blk_alloc ?_ _)); exact BK329.out))⟩; have n5_ : Aside0 (w42.heap[gb333]? = some (.cells #[.string t330, .int .i64 t331, .int .i64 t332] 80 (0, 0))) := ⟨(by rw [hw]; exact (by (with_reducible repeat (first | refine blk_drewN ?_ _ | refine blk_drew ?_ | refine blk_alloc ?_ _)); refine blk_put (cs := #[.string t330, .int .i64 t331, .int .i64 0]) ?_ 2 _ rfl; (with_reducible repeat (first | refine blk_drewN ?_ _ | refine blk_drew ?_ | refine blk_alloc ?_ _)); refine blk_put (cs := #[.string t330, .int .i64 0, .int .i64 0]) ?_ 1 _ rfl; (with_reducible repeat (first | refine blk_drewN ?_ _ | refine blk_drew ?_ | refine blk_alloc ?_ _)); refine blk_put (cs := #[.string (⟨#[]⟩ : ByteArray), .int .i64 0, .int .i64 0]) ?_ 0 _ rfl; (with_reducible repeat (first | refine blk_drewN ?_ _ | refine blk_drew ?_ | refine blk_alloc ?_ _)); exact BK333.out))⟩; have n6_ : Aside0 (Below w.heap.size w w42) := ⟨(by rw [hw]; exact zB)⟩; clear hw; clear HO_7; clear HO_330002; clear BK324; clear BK325; clear BK329; clear BK333; clear HB; have HO_7 := n0_; have HO_330002 := n1_; have BK324 := n2_; have BK325 := n3_; have BK329 := n4_; have BK333 := n5_; have HB := n6_; clear n0_ n1_ n2_ n3_ n4_ n5_ n6_; obtain ⟨hcz43_0, hcz43_1, hcz43_2⟩ := cZ3 BK333; obtain ⟨hfz43_0, hfz43_1, hfz43_2⟩ := dZ3 BK333; obtain ⟨hcz44_0, hcz44_1, hcz44_2⟩ := cZ3 BK329; obtain ⟨hfz44_0, hfz44_1, hfz44_2⟩ := dZ3 BK329) | ((with_reducible refine gate_store (t := 56) (p := 55) rfl ?_); refine store_event (t := 56) (p := 55) (v := ?vo_w45) (w1 := ((w42.setCell ⟨gb329, 0, none⟩ (.string t330)).setCell ⟨gb329, 1, none⟩ (.int .i64 t331))) ?hg ?ho ?hn ?hr ?_; (case ho => rfl); (case hg => rfl); (case hn => rfl); (case hr => first | (go_simp; done) | (go_simp; rfl)); intro w45 hw; have n0_ : Aside0 (Kd.R (Kd.int .i64) 3 w45 w.heap.size (fun k_ => some k_ ≠ (u330002 : Value).ownBlock) u7 x7_3) := ⟨(by rw [hw]; exact (by (with_reducible repeat (first | apply Kd.R_alloc | apply Kd.R_drewN | apply Kd.R_drew)); exact Kd.R_mono (Kd.R_far (p := ⟨gb329, 1, none⟩) (Kd.R_far (p := ⟨gb329, 0, none⟩) (Kd.R_types HO_7.out BK329.out (by decide)) (fun _ hk => hk.2) (.string t330)) (fun _ hk => hk.2) (.int .i64 t331)) (fun _ hk => hk.1)))⟩; have n1_ : Aside0 (Kd.R (Kd.int .i64) 3 w45 w.heap.size (fun k_ => some k_ ≠ (u7 : Value).ownBlock) u330002 x330002_3) := ⟨(by rw [hw]; exact (by (with_reducible repeat (first | apply Kd.R_alloc | apply Kd.R_drewN | apply Kd.R_drew)); exact Kd.R_mono (Kd.R_far (p := ⟨gb329, 1, none⟩) (Kd.R_far (p := ⟨gb329, 0, none⟩) (Kd.R_types HO_330002.out BK329.out (by decide)) (fun _ hk => hk.2) (.string t330)) (fun _ hk => hk.2) (.int .i64 t331)) (fun _ hk => hk.1)))⟩; have n2_ : Aside0 (w45.heap[gb324]? = some (.cells #[.string a0_0, .int .i64 a0_1] 56 (0, 0))) := ⟨(by rw [hw]; exact (by (with_reducible repeat (first | refine blk_drewN ?_ _ | refine blk_drew ?_ | refine blk_alloc ?_ _)); refine blk_far ?_ NB324_329.out _; (with_reducible repeat (first | refine blk_drewN ?_ _ | refine blk_drew ?_ | refine blk_alloc ?_ _)); refine blk_far ?_ NB324_329.out _; (with_reducible repeat (first | refine blk_drewN ?_ _ | refine blk_drew ?_ | refine blk_alloc ?_ _)); exact BK324.out))⟩; have n3_ : Aside0 (w45.heap[gb325]? = some (.cells #[.string (⟨#[]⟩ : ByteArray), .int .i64 0, .slice none 0 0] 58 (0, 0))) := ⟨(by rw [hw]; exact (by (with_reducible repeat (first | refine blk_drewN ?_ _ | refine blk_drew ?_ | refine blk_alloc ?_ _)); refine blk_far ?_ NB325_329.out _; (with_reducible repeat (first | refine blk_drewN ?_ _ | refine blk_drew ?_ | refine blk_alloc ?_ _)); refine blk_far ?_ NB325_329.out _; (with_reducible repeat (first | refine blk_drewN ?_ _ | refine blk_drew ?_ | refine blk_alloc ?_ _)); exact BK325.out))⟩; have n4_ : Aside0 (w45.heap[gb329]? = some (.cells #[.string t330, .int .i64 t331, u330002] 58 (0, 0))) := ⟨(by rw [hw]; exact (by (with_reducible repeat (first | refine blk_drewN ?_ _ | refine blk_drew ?_ | refine blk_alloc ?_ _)); refine blk_put (cs := #[.string t330, .int .i64 x330001_3, u330002]) ?_ 1 _ rfl; (with_reducible repeat (first | refine blk_drewN ?_ _ | refine blk_drew ?_ | refine blk_alloc ?_ _)); refine blk_put (cs := #[.string x330000_3, .int .i64 x330001_3, u330002]) ?_ 0 _ rfl; (with_reducible repeat (first | refine blk_drewN ?_ _ | refine blk_drew ?_ | refine blk_alloc ?_ _)); exact BK329.out))⟩; have n5_ : Aside0 (w45.heap[gb333]? = some (.cells #[.string t330, .int .i64 t331, .int .i64 t332] 80 (0, 0))) := ⟨(by rw [hw]; exact (by (with_reducible repeat (first | refine blk_drewN ?_ _ | refine blk_drew ?_ | refine blk_alloc ?_ _)); refine blk_far ?_ NB333_329.out _; (with_reducible repeat (first | refine blk_drewN ?_ _ | refine blk_drew ?_ | refine blk_alloc ?_ _)); refine blk_far ?_ NB333_329.out _; (with_reducible repeat (first | refine blk_drewN ?_ _ | refine blk_drew ?_ | refine blk_alloc ?_ _)); exact BK333.out))⟩; have n6_ : Aside0 (Below w.heap.size w w45) := ⟨(by rw [hw]; exact zB)⟩; clear hw; clear HO_7; clear HO_330002; clear BK324; clear BK325; clear BK329; clear BK333; clear HB; have HO_7 := n0_; have HO_330002 := n1_; have BK324 := n2_; have BK325 := n3_; have BK329 := n4_; have BK333 := n5_; have HB := n6_; clear n0_ n1_ n2_ n3_ n4_ n5_ n6_; obtain ⟨hcz46_0, hcz46_1, hcz46_2⟩ := cZ3 BK333; obtain ⟨hfz46_0, hfz46_1, hfz46_2⟩ := dZ3 BK333; obtain ⟨Ao47, co47, eo47⟩ := Kd.R_slice HO_7.out; subst eo47; have p334 : 0 ≤ (x10_3 : Int) := of_decide_eq_true zA; have q334 : x10_3 < (x7_3.length : Int) := of_decide_eq_true zA; obtain ⟨ad334, e334, hx334_0⟩ := Kd.at_int (Kd.R_reads' HO_7.out).2.2 x10_3 p334 q334; cases e334; replace p334 := eq_true p334; replace q334 := eq_true q334; have p335 : 0 ≤ ((ji27) : Int) := of_decide_eq_true zA; have q335 : (ji27) < (x7_3.length : Int) := of_decide_eq_true zA; obtain ⟨ad335, e335, hx335_0⟩ := Kd.at_int (Kd.R_reads' HO_7.out).2.2 (ji27) p335 q335; obtain rfl : ad334 = ad335 := (by injection e335); replace p335 := eq_true p335; replace q335 := eq_true q335; have p30 : 0 ≤ (x10_3 : Int) := of_decide_eq_true zA; have q30 : (x10_3 : Int) < ((x7_3.length : Int) : Int) := of_decide_eq_true zA; obtain ⟨go30, co30, eo30, gb30, gl30, cl30, HG30⟩ := Kd.R_form HO_7.out (by omega); (first | cases eo30 | (injection eo30 with ea_ en_ ec_; (first | subst ea_ | (injection ea_ with ea_; subst ea_)); subst ec_; clear en_)); have GB30 := Aside0.mk gb30; have GG30 := Aside0.mk HG30; clear gb30 gl30 HG30; (first | simp only [add_plain] at hx334_0 | skip); (first | simp only [add_plain] at hx335_0 | skip); obtain ⟨hx30_0, hf30_0⟩ := Kd.R_celln 0 HO_7.out (x10_3 : Int) p30 q30; replace p30 := eq_true p30; replace q30 := eq_true q30; obtain ⟨hy48_, hz48_⟩ := Kd.R_celln 0 HO_7.out (x10_3 : Int) (of_decide_eq_true zA) (of_decide_eq_true zA); have HP48 := Kd.R_putg HO_7.out (x10_3 : Int) (rd x7_3 (ji27))) | ((with_reducible refine gate_store (t := 3) (p := 70) rfl ?_); refine store_event (t := 3) (p := 70) (v := ?vo_w49) (w1 := (w45.setCell ⟨go30, (x10_3 : Int).toNat, none⟩ (.int .i64 (rd x7_3 (ji27))))) ?hg ?ho ?hn ?hr ?_; (case ho => rfl); (case hg => rfl); (case hn => rfl); (case hr => first | (go_simp; done) | (go_simp; rfl)); intro w49 hw; have hg : w45.grownBy w49 (some go30) := (by rw [hw]; exact HP48.2); have hp_ : Kd.R (Kd.int .i64) 3 w49 w.heap.size (fun k_ => some k_ ≠ (u330002 : Value).ownBlock) (.slice (some ⟨go30, 0, none⟩) x7_3.length co47) y336 := (by rw [hw, Ny336.out]; exact HP48.1); clear HP48; have n0_ := Aside0.mk (hp_); have n1_ := Aside0.mk (Kd.R_after (v := (.slice (some ⟨go30, 0, none⟩) x7_3.length co47)) (v1 := (.slice (some ⟨go30, 0, none⟩) x7_3.length co47)) (ok := (fun _ => True)) (by (with_reducible repeat (first | apply Kd.R_alloc | apply Kd.R_drewN | apply Kd.R_drew)); exact Kd.R_mono HO_330002.out (fun _ hk => ⟨trivial, hk⟩)) hg (.inl rfl)); have n2_ := Aside0.mk (blk_grown (zk BK324) hg (Kd.R_ne HO_7.out BK324.out (by decide))); have n3_ := Aside0.mk (blk_grown (zk BK325) hg (Kd.R_ne HO_7.out BK325.out (by decide))); have n4_ := Aside0.mk (blk_grown (zk BK329) hg (Kd.R_ne HO_7.out BK329.out (by decide))); have n5_ := Aside0.mk (blk_grown (zk BK333) hg (Kd.R_ne HO_7.out BK333.out (by decide))); have n6_ := Aside0.mk ((by rw [hw]; exact below_set (HB.out) GB30.out : Below w.heap.size w w49)); clear HO_7; clear HO_330002; clear BK324; clear BK325; clear BK329; clear BK333; clear HB; have HO_7 := n0_; have HO_330002 := n1_; have BK324 := n2_; have BK325 := n3_; have BK329 := n4_; have BK333 := n5_; have HB := n6_; clear n0_ n1_ n2_ n3_ n4_ n5_ n6_; clear hg hw hp_; have p31 : 0 ≤ ((ji27) : Int) := of_decide_eq_true zA; have q31 : ((ji27) : Int) < ((x7_3.length : Int) : Int) := of_decide_eq_true zA; obtain ⟨hx31_0, hf31_0⟩ := Kd.R_celln 0 HO_7.out ((ji27) : Int) p31 q31; replace p31 := eq_true p31; replace q31 := eq_true q31; obtain ⟨hy50_, hz50_⟩ := Kd.R_celln 0 HO_7.out ((ji27) : Int) (of_decide_eq_true zA) (of_decide_eq_true zA); have HP50 := Kd.R_putg HO_7.out ((ji27) : Int) (rd x7_3 x10_3)) | ((with_reducible refine gate_store (t := 3) (p := 74) rfl ?_); refine store_event (t := 3) (p := 74) (v := ?vo_w51) (w1 := (w49.setCell ⟨go30, ((ji27) : Int).toNat, none⟩ (.int .i64 (rd x7_3 x10_3)))) ?hg ?ho ?hn ?hr ?_; (case ho => rfl); (case hg => rfl); (case hn => rfl); (case hr => first | (go_simp; done) | (go_simp; rfl)); intro w51 hw; have hg : w49.grownBy w51 (some go30) := (by rw [hw]; exact HP50.2); have hp_ : Kd.R (Kd.int .i64) 3 w51 w.heap.size (fun k_ => some k_ ≠ (u330002 : Value).ownBlock) (.slice (some ⟨go30, 0, none⟩) x7_3.length co47) y337 := (by rw [hw, Ny337.out]; exact HP50.1); clear HP50; have n0_ := Aside0.mk (hp_); have n1_ := Aside0.mk (Kd.R_after (v := (.slice (some ⟨go30, 0, none⟩) x7_3.length co47)) (v1 := (.slice (some ⟨go30, 0, none⟩) x7_3.length co47)) (ok := (fun _ => True)) (by (with_reducible repeat (first | apply Kd.R_alloc | apply Kd.R_drewN | apply Kd.R_drew)); exact HO_330002.out) hg (.inl rfl)); have n2_ := Aside0.mk (blk_grown (zk BK324) hg (Kd.R_ne HO_7.out BK324.out (by decide))); have n3_ := Aside0.mk (blk_grown (zk BK325) hg (Kd.R_ne HO_7.out BK325.out (by decide))); have n4_ := Aside0.mk (blk_grown (zk BK329) hg (Kd.R_ne HO_7.out BK329.out (by decide))); have n5_ := Aside0.mk (blk_grown (zk BK333) hg (Kd.R_ne HO_7.out BK333.out (by decide))); have n6_ := Aside0.mk ((by rw [hw]; exact below_set (HB.out) GB30.out : Below w.heap.size w w51)); clear HO_7; clear HO_330002; clear BK324; clear BK325; clear BK329; clear BK333; clear HB; have HO_7 := n0_; have HO_330002 := n1_; have BK324 := n2_; have BK325 := n3_; have BK329 := n4_; have BK333 := n5_; have HB := n6_; clear n0_ n1_ n2_ n3_ n4_ n5_ n6_; clear hg hw hp_))
               replace HO_7 := Aside0.mk (Kd.R_drew HO_7.out)
               replace HO_330002 := Aside0.mk (Kd.R_drew HO_330002.out)
               replace BK324 := Aside0.mk (blk_drew BK324.out)
               replace BK325 := Aside0.mk (blk_drew BK325.out)
               replace BK329 := Aside0.mk (blk_drew BK329.out)
               replace BK333 := Aside0.mk (blk_drew BK333.out)
               replace HB := Aside0.mk (below_drew1 HB.out); have p338 : 0 ≤ (x10_3 : Int) := of_decide_eq_true zA
               have q338 : x10_3 < (y337.length : Int) := (by have h_ : (x10_3 : Int) < ((x7_3.length : Int) : Int) := of_decide_eq_true zA; first | (have e_ := (Kd.R_reads' HO_7.out).1; omega) | simpa only [Ny336.out, Ny337.out, List.length_set] using h_)
               have ql338 : ((x10_3 : Int) < ((x7_3.length : Int) : Int)) = True := eq_true (of_decide_eq_true zA)
               obtain ⟨ad338, e338, hx338_0⟩ := Kd.at_int (Kd.R_reads' HO_7.out).2.2 x10_3 p338 q338
               obtain rfl : (⟨go30, 0, none⟩ : Addr) = ad338 := (by injection e338)
               (first | simp only [add_plain] at hx338_0 | simp only [add_at] at hx338_0 | simp only [Addr.add, Nat.zero_add] at hx338_0 | skip)
               replace p338 := eq_true p338
               replace q338 := eq_true q338
               refine start_ (n := 10) (S := fun w' => w'.cell? ⟨gb329, 0, none⟩ = some (.string t330) ∧ w'.cell? ⟨gb329, 1, none⟩ = some (.int .i64 t331) ∧ w'.cell? ⟨gb329, 2, none⟩ = some (u330002) ∧ w'.cell? ⟨go30, (x10_3).toNat, none⟩ = some (.int .i64 (rd y337 x10_3))) (ds := [7, 9]) (mkB31 10 0) (by kernel_rfl) rfl rfl ⟨(blk_cell BK329.out 0).trans rfl, (blk_cell BK329.out 1).trans rfl, (blk_cell BK329.out 2).trans rfl, hx338_0⟩ (fun hHeld => ?_); refine with_tabW mosaicref04_Gen_Pick.tab18 mosaicref04_Gen_Pick.bits18 (fun HT_ HW_ => ?_)
               generalize w51.drew = w52 at HO_7 HO_330002 BK324 BK325 BK329 BK333 HB hx338_0 hHeld ⊢
               refine pX 0 (some 75) (mkB31 10 1) ?_
               refine pX 2 (some 77) (mkB31 10 5) ?_
               refine pX 3 (some 78) (mkB31 10 13) ?_
               refine pX 4 (some 79) (mkB31 10 29) ?_
               refine tT (v := ?_) (a' := ?_) HT_ HW_ hHeld 1 (some 76) (mkB31 10 31) ?_ ?_ ?_; rotate_left 2; (rintro w' ⟨s0, s1, s2, s3⟩; go_simp; with_reducible rfl); (simp only [Act.put, qA, qB, qC, i64_w, i32_w]; rfl)
               refine tT (v := ?_) (a' := ?_) HT_ HW_ hHeld 5 (some 80) (mkB31 10 63) ?_ ?_ ?_; rotate_left 2; (rintro w' ⟨s0, s1, s2, s3⟩; go_simp; with_reducible rfl); (simp only [Act.put, qA, qB, qC, i64_w, i32_w]; rfl)
               refine one_ (i := 6) (N := some 81) (mkB31 10 127) rfl rfl (one_of HT_.out (by kernel_rfl)) (by decide) (fun K hK => ?_)
               refine value_ (w1 := ?_) (v := ?_) (by rfl) rfl ?_ ?_
               rotate_left 2
               ·
                go_simp; constructor
                ·
                 rfl
                ·
                 rfl
               refine hK.out _ _ ⟨(blk_cell (blk_alloc BK329.out _) 0).trans rfl, (blk_cell (blk_alloc BK329.out _) 1).trans rfl, (blk_cell (blk_alloc BK329.out _) 2).trans rfl, (World.cell?_alloc_lt _ _ _ (World.block_lt_of_cell? _ _ (hHeld.2.2.2))).trans (hHeld.2.2.2)⟩ (fun hHeld => ?_)
               clear hK K; refine norm_ (a' := ?_) ?_ ?_
               rotate_left
               ·
                show Act.put _ (some 81) _ = _
                simp only [Act.put, List.setIfInBounds_toArray, List.set_cons_zero, List.set_cons_succ, i64_w, i32_w]; rfl
               refine last_ (i := 7) (N := some 82) (mkB31 10 255) rfl rfl (one_of HT_.out (by kernel_rfl)) (by decide) (fun K hK => ?_)
               refine Kd.R_append_step (Kd.int .i64) (w0 := w) w.heap.size (by rfl) (.tmp 76) (.tmp 81) 26 3 (.int .i64 0) 8 rfl Tryz.underlying26 info3 rfl (by decide) (by omega) u330002 x330002_3 (rd y337 x10_3) [.int .i64 (rd y337 x10_3)] (fun k_ => some k_ ≠ (.slice (some ⟨go30, 0, none⟩) x7_3.length co47 : Value).ownBlock) (fun _ => False) rfl rfl ?aP (fun _ hk => hk.elim) ?aF ?aO ?aB ?aS ?aL ?_
               (case aP => exact rfl)
               (case aB => exact zB)
               (case aF => exact (fun k_ hk => Kd.fresh' (Kd.R_lt (by (with_reducible repeat (first | apply Kd.R_alloc | apply Kd.R_drewN | apply Kd.R_drew)); exact HO_7.out)) k_ hk))
               (case aO => exact (by (with_reducible repeat (first | apply Kd.R_alloc | apply Kd.R_drewN | apply Kd.R_drew)); exact Kd.R_mono HO_330002.out (fun _ hk => hk.2)))
               (case aS => exact (below_size zB))
               (case aL => have := LMc32.out; omega)
               intro v340 w53 ho hb hg hat
               rw [← Ny339.out] at ho
               replace HO_7 := Aside0.mk (Kd.R_after (ok := (fun _ => True)) (by (with_reducible repeat (first | apply Kd.R_alloc | apply Kd.R_drewN | apply Kd.R_drew)); exact Kd.R_mono HO_7.out (fun _ hk => ⟨trivial, hk⟩)) hg hat)
               replace BK324 := Aside0.mk (blk_grown (zk BK324) hg (Kd.R_ne HO_330002.out BK324.out (by decide)))
               replace BK325 := Aside0.mk (blk_grown (zk BK325) hg (Kd.R_ne HO_330002.out BK325.out (by decide)))
               replace BK329 := Aside0.mk (blk_grown (zk BK329) hg (Kd.R_ne HO_330002.out BK329.out (by decide)))
               replace BK333 := Aside0.mk (blk_grown (zk BK333) hg (Kd.R_ne HO_330002.out BK333.out (by decide)))
               have HO341 := Aside0.mk (ho)
               replace HB := Aside0.mk (hb)
               clear HO_330002 ho hb hg hat; obtain ⟨Ao54, co54, eo54⟩ := Kd.R_slice HO341.out
               (first | subst eo54 | (injection eo54 with f1_ f2_ f3_; have f4_ := f1_.symm; have f5_ := f3_.symm; clear f1_ f2_ f3_; subst f4_; subst f5_))
               refine hK.out _ _ ?_
               clear hK K; refine norm_ (a' := ?_) ?_ ?_
               rotate_left
               ·
                show Act.put _ (some 82) _ = _
                simp only [Act.put, List.setIfInBounds_toArray, List.set_cons_zero, List.set_cons_succ, i64_w, i32_w]; rfl
               refine pX 8 (some 83) (mkB31 10 511) ?_
               refine last_ (i := 9) (N := none) (mkB31 10 1023) rfl rfl (one_of HT_.out (by kernel_rfl)) (by decide) (fun K hK => ?_)
               have hs55 : w53.cell? ⟨gb329, 2, none⟩ = some (u330002) := (blk_cell BK329.out 2).trans rfl
               have hfs55 := blk_frozen BK329.out 2; have hns55_0 := NB324_329.out; have hns55_1 := NB325_329.out; have hns55_3 := NB333_329.out; have hms55_0 := NB329_324.out; have hms55_1 := NB329_325.out; have hms55_3 := NB329_333.out; refine skip_ (w1 := ?_) (by rfl) rfl ?_ ?_
               rotate_left
               ·
                go_simp; rfl
               refine hK.out _ _ ?_
               clear hK K; refine done_ (done_of HT_.out (by kernel_rfl)) ?_
               try go_wp2
               go_roundg k3
               case measure => have := HJ3.out; have := HK2.out; have := HK3.out; omega
               case rel => exact ⟨(y337), (wrap64 (x10_3 + 1)), (t330), (t331), (y339), (.slice Ao54 y339.length co54), zF, H', ⟨by have := HJ3.out; have := HK2.out; have := HK3.out; omega⟩, ⟨by (with_reducible repeat (first | apply Kd.R_alloc | apply Kd.R_drewN | apply Kd.R_drew)); exact Kd.R_mono (Kd.R_far (p := ⟨gb329, 2, none⟩) (Kd.R_types HO_7.out BK329.out (by decide)) (fun _ hk => hk.2) (.slice Ao54 y339.length co54)) (fun _ hk => hk.1.2)⟩, ⟨by (with_reducible repeat (first | apply Kd.R_alloc | apply Kd.R_drewN | apply Kd.R_drew)); exact Kd.R_mono (Kd.R_far (p := ⟨gb329, 2, none⟩) (Kd.R_types HO341.out BK329.out (by decide)) (fun _ hk => hk.2) (.slice Ao54 y339.length co54)) (fun _ hk => hk.1)⟩, ⟨by (with_reducible repeat (first | refine blk_drewN ?_ _ | refine blk_drew ?_ | refine blk_alloc ?_ _)); refine blk_far ?_ NB324_329.out _; (with_reducible repeat (first | refine blk_drewN ?_ _ | refine blk_drew ?_ | refine blk_alloc ?_ _)); exact BK324.out⟩, ⟨by (with_reducible repeat (first | refine blk_drewN ?_ _ | refine blk_drew ?_ | refine blk_alloc ?_ _)); refine blk_far ?_ NB325_329.out _; (with_reducible repeat (first | refine blk_drewN ?_ _ | refine blk_drew ?_ | refine blk_alloc ?_ _)); exact BK325.out⟩, ⟨by (with_reducible repeat (first | refine blk_drewN ?_ _ | refine blk_drew ?_ | refine blk_alloc ?_ _)); refine blk_put (cs := #[.string t330, .int .i64 t331, u330002]) ?_ 2 _ rfl; (with_reducible repeat (first | refine blk_drewN ?_ _ | refine blk_drew ?_ | refine blk_alloc ?_ _)); exact BK329.out⟩, ⟨zB⟩⟩
              ·
               rw [if_neg c32] at H
               exact absurd H (by simp)
             ·
              rw [if_neg c29] at H
              exact absurd H (by simp)
            ·
             rw [if_neg c28] at H
             exact absurd H (by simp)
           ·
            rw [if_neg c26] at H
            exact absurd H (by simp)
          ·
           rw [if_neg c25] at H
           exact absurd H (by simp)
         ·
          rw [if_neg c23] at H
          have c23b0 : decide (x10_3 < a2) = false := decide_eq_false c23
          clear c23; simp only [Option.some.injEq, Prod.mk.injEq] at H
          obtain ⟨rfl, rfl, rfl⟩ := H
          have hnb56 := NB329_324.out; have hnc56 := NB324_329.out; have hnb57 := NB329_325.out; have hnc57 := NB325_329.out; obtain ⟨hcz58_0, hcz58_1, hcz58_2⟩ := cZ3 BK329
          obtain ⟨hfz58_0, hfz58_1, hfz58_2⟩ := dZ3 BK329; have hnb59 := NB325_324.out; have hnc59 := NB324_325.out; obtain ⟨hcz60_0, hcz60_1, hcz60_2⟩ := cZ3 BK325
          obtain ⟨hfz60_0, hfz60_1, hfz60_2⟩ := dZ3 BK325; obtain ⟨Ao61, co61, eo61⟩ := Kd.R_slice HO_330002.out
          subst eo61
          go_wp2
          refine bodyPost_ret (results_cell_row rfl _ _ gb325 58 #[.string x330000_3, .int .i64 x330001_3, .slice Ao61 x330002_3.length co61] (0, 0) _ rfl (by (with_reducible repeat (first | refine blk_drewN ?_ _ | refine blk_drew ?_ | refine blk_alloc ?_ _)); refine blk_put (cs := #[.string x330000_3, .int .i64 x330001_3, .slice none 0 0]) ?_ 2 _ rfl; (with_reducible repeat (first | refine blk_drewN ?_ _ | refine blk_drew ?_ | refine blk_alloc ?_ _)); refine blk_put (cs := #[.string x330000_3, .int .i64 0, .slice none 0 0]) ?_ 1 _ rfl; (with_reducible repeat (first | refine blk_drewN ?_ _ | refine blk_drew ?_ | refine blk_alloc ?_ _)); refine blk_put (cs := #[.string (⟨#[]⟩ : ByteArray), .int .i64 0, .slice none 0 0]) ?_ 0 _ rfl; (with_reducible repeat (first | refine blk_drewN ?_ _ | refine blk_drew ?_ | refine blk_alloc ?_ _)); exact BK325.out) Tryz.underlying58 rfl (by kernel_rfl)) rfl ?_
          exact ⟨_, zE, by (with_reducible repeat (first | apply Kd.R_alloc | apply Kd.R_drewN | apply Kd.R_drew)); exact Kd.R_mono (Kd.R_far (p := ⟨gb325, 2, none⟩) (Kd.R_far (p := ⟨gb325, 1, none⟩) (Kd.R_far (p := ⟨gb325, 0, none⟩) (Kd.R_types HO_330002.out BK325.out (by decide)) (fun _ hk => hk.2) (.string x330000_3)) (fun _ hk => hk.2) (.int .i64 x330001_3)) (fun _ hk => hk.2) (.slice Ao61 x330002_3.length co61)) (fun _ hk => trivial), zB⟩
end Go.Proofs.YtghhmnjkgnoogaaGreat.POuterWholes
