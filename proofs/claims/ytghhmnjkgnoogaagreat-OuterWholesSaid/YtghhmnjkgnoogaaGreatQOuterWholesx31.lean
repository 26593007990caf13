-- Written by this session's own program (wip/tools/mkprint.py) over the kit's printer, with overrides.
import Derived.Test.YtghhmnjkgnoogaaGreatTOuterWholesa
import Derived.Test.YtghhmnjkgnoogaaGreatQOuterWholesx0
import Derived.Test.YtghhmnjkgnoogaaGreatQOuterWholesx16
import Derived.Test.YtghhmnjkgnoogaaGreatQOuterWholesx17
import Derived.Test.YtghhmnjkgnoogaaGreatQOuterWholesx28
import Derived.Test.YtghhmnjkgnoogaaGreatQOuterWholesx29
import Derived.Test.YtghhmnjkgnoogaaGreatQOuterWholesx30
namespace Go.Proofs.YtghhmnjkgnoogaaGreat.POuterWholes
open Go.RowKit Go.Mine Go.Proofs.YtghhmnjkgnoogaaGreatW.PrintWords Go.Proofs.YtghhmnjkgnoogaaGreatW.PrintLast Go.Proofs.YtghhmnjkgnoogaaGreatW.PrintMore
attribute [local go_sem] max2_int min2_int max_two min_two max_three min_three max_four min_four   -- for this text's walks alone
set_option linter.unusedVariables false
set_option linter.unusedSimpArgs false
/-! ### mosaicref09_Whole: function 20 -/
/-- The Bools of a number's bits. -/
def mkB20 (w m : Nat) : Array Bool := ⟨(List.range w).map fun i => m.testBit i⟩
mutual
def mosaicref09_Whole.j0 : Nat → List ByteArray → Bool → Int → Int → Int → Int → Option (List ByteArray × Int)
 | 0, _, _, _, _, _, _ => none
 | k + 1, x1, x24, x379000, x379001, x379002, x379003 => if x24 = true then (some (([] : List ByteArray), 1)) else ((mosaicref09_Table.f k x379000 x379001 x379002 x379003).bind fun t381 => (mosaicref09_Whole.l0 k x1 t381 ([] : List ByteArray) 0 x379000 x379001 x379002 x379003))
def mosaicref09_Whole.l0 : Nat → List ByteArray → List (List Int) → List ByteArray → Int → Int → Int → Int → Int → Option (List ByteArray × Int)
 | 0, _, _, _, _, _, _, _, _ => none
 | k + 1, x1, x6, x7, x8, x379000, x379001, x379002, x379003 => if x8 < (x1.length : Int) then (if 0 ≤ x8 then (if x7.length < 8796093022208 then (mosaicref09_Whole.l0 k x1 x6 (x7 ++ [rdOf ByteArray.empty x1 x8]) (wrap64 (x8 + 1)) x379000 x379001 x379002 x379003) else (none)) else (none)) else (mosaicref09_Whole.l1 k x1 x6 x7 0 x379000 x379001 x379002 x379003)
def mosaicref09_Whole.l1 : Nat → List ByteArray → List (List Int) → List ByteArray → Int → Int → Int → Int → Int → Option (List ByteArray × Int)
 | 0, _, _, _, _, _, _, _, _ => none
 | k + 1, x1, x6, x7, x9, x379000, x379001, x379002, x379003 => if x9 < x379002 then ((mosaicref09_members.f k x6 x9).bind fun t388 => (if 0 < (x1.length : Int) then ((mosaicref09_Sum.f k x1 t388 ((rdOf ByteArray.empty x1 0).size : Int)).bind fun t392 => (if x7.length < 8796093022208 then (mosaicref09_Whole.l1 k x1 x6 (x7 ++ [t392]) (wrap64 (x9 + 1)) x379000 x379001 x379002 x379003) else (none))) else (none))) else (some (x7, 0))
end
def mosaicref09_Whole.f (k : Nat) (a0_0 : Int) (a0_1 : Int) (a0_2 : Int) (a0_3 : Int) (l1 : List ByteArray) : Option (List ByteArray × Int) := (mosaicref09_Check.f a0_0 a0_1 a0_2 a0_3).bind fun t379 => (if t379 = true then (if (l1.length : Int) = a0_1 then ((mosaicref09_Sized.f k l1).bind fun t380 => (mosaicref09_Whole.j0 k l1 (!t380) a0_0 a0_1 a0_2 a0_3)) else (mosaicref09_Whole.j0 k l1 true a0_0 a0_1 a0_2 a0_3)) else (mosaicref09_Whole.j0 k l1 true a0_0 a0_1 a0_2 a0_3))
theorem mosaicref09_Whole.mono_l : ∀ k, (∀ y0 y1 y2 y3 y4 y5, LeO (mosaicref09_Whole.j0 k y0 y1 y2 y3 y4 y5) (mosaicref09_Whole.j0 (k + 1) y0 y1 y2 y3 y4 y5)) ∧ (∀ y0 y1 y2 y3 y4 y5 y6 y7, LeO (mosaicref09_Whole.l0 k y0 y1 y2 y3 y4 y5 y6 y7) (mosaicref09_Whole.l0 (k + 1) y0 y1 y2 y3 y4 y5 y6 y7)) ∧ (∀ y0 y1 y2 y3 y4 y5 y6 y7, LeO (mosaicref09_Whole.l1 k y0 y1 y2 y3 y4 y5 y6 y7) (mosaicref09_Whole.l1 (k + 1) y0 y1 y2 y3 y4 y5 y6 y7))
 | 0 => ⟨fun _ _ _ _ _ _ r h => by simp [mosaicref09_Whole.j0] at h, fun _ _ _ _ _ _ _ _ r h => by simp [mosaicref09_Whole.l0] at h, fun _ _ _ _ _ _ _ _ r h => by simp [mosaicref09_Whole.l1] at h⟩
 | k + 1 => by
  obtain ⟨ih0, ih1, ih2⟩ := mosaicref09_Whole.mono_l k
  refine ⟨?_, ?_, ?_⟩
  ·
   intro y0 y1 y2 y3 y4 y5
   unfold mosaicref09_Whole.j0
   repeat' first
   | (with_reducible exact ih0 _ _ _ _ _ _)
   | (with_reducible exact ih1 _ _ _ _ _ _ _ _)
   | (with_reducible exact ih2 _ _ _ _ _ _ _ _)
   | (with_reducible exact mosaicref09_Sized.mono _ _)
   | (with_reducible exact mosaicref09_Sum.mono _ _ _ _)
   | (with_reducible exact mosaicref09_Table.mono _ _ _ _ _)
   | (with_reducible exact mosaicref09_members.mono _ _ _)
   | (with_reducible exact LeO.refl _)
   | (with_reducible exact LeO.none _)
   | (with_reducible refine LeO.ite ?_ ?_)
   | (with_reducible refine LeO.bind ?_ (fun _ => ?_))
   | exact ih0 _ _ _ _ _ _
   | exact ih1 _ _ _ _ _ _ _ _
   | exact ih2 _ _ _ _ _ _ _ _
   | exact mosaicref09_Sized.mono _ _
   | exact mosaicref09_Sum.mono _ _ _ _
   | exact mosaicref09_Table.mono _ _ _ _ _
   | exact mosaicref09_members.mono _ _ _
   | exact LeO.none _
   | refine LeO.ite ?_ ?_
   | refine LeO.bind ?_ (fun _ => ?_)
  ·
   intro y0 y1 y2 y3 y4 y5 y6 y7
   unfold mosaicref09_Whole.l0
   repeat' first
   | (with_reducible exact ih0 _ _ _ _ _ _)
   | (with_reducible exact ih1 _ _ _ _ _ _ _ _)
   | (with_reducible exact ih2 _ _ _ _ _ _ _ _)
   | (with_reducible exact mosaicref09_Sized.mono _ _)
   | (with_reducible exact mosaicref09_Sum.mono _ _ _ _)
   | (with_reducible exact mosaicref09_Table.mono _ _ _ _ _)
   | (with_reducible exact mosaicref09_members.mono _ _ _)
   | (with_reducible exact LeO.refl _)
   | (with_reducible exact LeO.none _)
   | (with_reducible refine LeO.ite ?_ ?_)
   | (with_reducible refine LeO.bind ?_ (fun _ => ?_))
   | exact ih0 _ _ _ _ _ _
   | exact ih1 _ _ _ _ _ _ _ _
   | exact ih2 _ _ _ _ _ _ _ _
   | exact mosaicref09_Sized.mono _ _
   | exact mosaicref09_Sum.mono _ _ _ _
   | exact mosaicref09_Table.mono _ _ _ _ _
   | exact mosaicref09_members.mono _ _ _
   | exact LeO.none _
   | refine LeO.ite ?_ ?_
   | refine LeO.bind ?_ (fun _ => ?_)
  ·
   intro y0 y1 y2 y3 y4 y5 y6 y7
   unfold mosaicref09_Whole.l1
   repeat' first
   | (with_reducible exact ih0 _ _ _ _ _ _)
   | (with_reducible exact ih1 _ _ _ _ _ _ _ _)
   | (with_reducible exact ih2 _ _ _ _ _ _ _ _)
   | (with_reducible exact mosaicref09_Sized.mono _ _)
   | (with_reducible exact mosaicref09_Sum.mono _ _ _ _)
   | (with_reducible exact mosaicref09_Table.mono _ _ _ _ _)
   | (with_reducible exact mosaicref09_members.mono _ _ _)
   | (with_reducible exact LeO.refl _)
   | (with_reducible exact LeO.none _)
   | (with_reducible refine LeO.ite ?_ ?_)
   | (with_reducible refine LeO.bind ?_ (fun _ => ?_))
   | exact ih0 _ _ _ _ _ _
   | exact ih1 _ _ _ _ _ _ _ _
   | exact ih2 _ _ _ _ _ _ _ _
   | exact mosaicref09_Sized.mono _ _
   | exact mosaicref09_Sum.mono _ _ _ _
   | exact mosaicref09_Table.mono _ _ _ _ _
   | exact mosaicref09_members.mono _ _ _
   | exact LeO.none _
   | refine LeO.ite ?_ ?_
   | refine LeO.bind ?_ (fun _ => ?_)
theorem mosaicref09_Whole.mono : ∀ a0 a1 a2 a3 a4 k, LeO (mosaicref09_Whole.f k a0 a1 a2 a3 a4) (mosaicref09_Whole.f (k + 1) a0 a1 a2 a3 a4) := by
 intro a0 a1 a2 a3 a4 k
 obtain ⟨ih0, ih1, ih2⟩ := mosaicref09_Whole.mono_l k
 unfold mosaicref09_Whole.f
 repeat' first
   | (with_reducible exact ih0 _ _ _ _ _ _)
   | (with_reducible exact ih1 _ _ _ _ _ _ _ _)
   | (with_reducible exact ih2 _ _ _ _ _ _ _ _)
   | (with_reducible exact mosaicref09_Sized.mono _ _)
   | (with_reducible exact mosaicref09_Sum.mono _ _ _ _)
   | (with_reducible exact mosaicref09_Table.mono _ _ _ _ _)
   | (with_reducible exact mosaicref09_members.mono _ _ _)
   | (with_reducible exact LeO.refl _)
   | (with_reducible exact LeO.none _)
   | (with_reducible refine LeO.ite ?_ ?_)
   | (with_reducible refine LeO.bind ?_ (fun _ => ?_))
   | exact ih0 _ _ _ _ _ _
   | exact ih1 _ _ _ _ _ _ _ _
   | exact ih2 _ _ _ _ _ _ _ _
   | exact mosaicref09_Sized.mono _ _
   | exact mosaicref09_Sum.mono _ _ _ _
   | exact mosaicref09_Table.mono _ _ _ _ _
   | exact mosaicref09_members.mono _ _ _
   | exact LeO.none _
   | refine LeO.ite ?_ ?_
   | refine LeO.bind ?_ (fun _ => ?_)
def mosaicref09_Whole.T12 : Bool × List (List Nat × List Nat) := (true, [([], []), ([], []), ([], []), ([], []), ([2, 3], [2, 3]), ([], []), ([5], [5]), ([6], [6]), ([7], [7]), ([1, 4, 8, 4], [1, 4, 8]), ([9], [9]), ([0, 10, 9], [0, 10]), ([11, 11, 0, 1, 2, 3, 4, 5, 6, 7, 8, 9, 10, 11], [0, 11])])
def mosaicref09_Whole.B12 : List Nat := [0, 0, 0, 0, 12, 0, 32, 96, 224, 510, 1022, 2047, 4095]
theorem mosaicref09_Whole.tab12 : rtab .any (opsOf Tryz.f20 12) = mosaicref09_Whole.T12 := by kernel_rfl
theorem mosaicref09_Whole.bits12 : waitsOk mosaicref09_Whole.T12.2 mosaicref09_Whole.B12 = true := by kernel_rfl
set_option maxHeartbeats 8000000 in
set_option maxRecDepth 100000 in
theorem mosaicref09_Whole.calls (k : Nat) (a0_0 : Int) (a0_1 : Int) (a0_2 : Int) (a0_3 : Int) (A1 : Option Addr) (c1 : Nat) (l1 : List ByteArray) (r1 : List ByteArray) (r2 : Int) (w : World) (hr1 : Kd.C Kd.string w A1 l1.length l1) (hc1 : l1.length ≤ c1) (h : mosaicref09_Whole.f k a0_0 a0_1 a0_2 a0_3 l1 = some (r1, r2)) :
  Calls Tryz.prog 20 #[.agg #[.int .i64 a0_0, .int .i64 a0_1, .int .i64 a0_2, .int .i64 a0_3], .slice A1 l1.length c1] w fun e w' => ∃ v0_ : Value, e = .returned (.tuple #[v0_, .int .i64 r2]) ∧ Kd.R Kd.string 9 w' w.heap.size (fun _ => True) v0_ r1 ∧ Below w.heap.size w w' := by
 have hu24 := Tryz.underlying24; have HR1 := Aside0.mk hr1
 have HC1 := Aside0.mk hc1
 clear hr1 hc1; have HB := Aside0.mk (Below.refl w.heap.size w)
 have H : ((mosaicref09_Check.f a0_0 a0_1 a0_2 a0_3).bind fun t379 => (if t379 = true then (if (l1.length : Int) = a0_1 then ((mosaicref09_Sized.f k l1).bind fun t380 => (mosaicref09_Whole.j0 k l1 (!t380) a0_0 a0_1 a0_2 a0_3)) else (mosaicref09_Whole.j0 k l1 true a0_0 a0_1 a0_2 a0_3)) else (mosaicref09_Whole.j0 k l1 true a0_0 a0_1 a0_2 a0_3))) = some (r1, r2) := h
 clear h; have HC3 := Aside0.mk H
 clear H; go_enter Tryz.func20, Tryz.ntmps20
 go_upto_region 1 with (first | ((with_reducible refine gate_dst (N := 2) rfl ?_); (try (refine gate_guard (by rfl) ?_; dsimp only)); refine box_event ?hg (N := 2) ?hd (cs := #[.int .i64 a0_0, .int .i64 a0_1, .int .i64 a0_2, .int .i64 a0_3]) (t := 24) ?hr ?_; (case hd => rfl); (case hg => rfl); (case hr => first | (go_simp; done) | (go_simp; rfl)); intro gb378 hg w4 hbox hb; have BK378 := Aside0.mk (hbox); have GW378 := Aside0.mk ((zg : w.heap.size ≤ gb378)); have GE378 := Aside0.mk ((zg : w.heap.size ≤ gb378)); replace HB := Aside0.mk (below_step zB hb); clear hb hbox hg))
 (try simp only [Act.put, List.setIfInBounds_toArray, List.set_cons_zero, List.set_cons_succ])
 go_cut [24] (fun v24 wc => ∃ (kq : Nat) (x24_2 : Bool), v24 = .bool x24_2 ∧ Aside0 (mosaicref09_Whole.j0 kq l1 x24_2 a0_0 a0_1 a0_2 a0_3 = some (r1, r2)) ∧ Aside0 (kq ≤ k) ∧ Aside0 (wc.heap[gb378]? = some (.cells #[.int .i64 a0_0, .int .i64 a0_1, .int .i64 a0_2, .int .i64 a0_3] 24 (0, 0))) ∧ Aside0 (Below w.heap.size w wc))
 case first =>
  have H := HC3.out; clear HC3; replace H := Option.bind_eq_some_iff.mp H
  obtain ⟨t379, A50, H⟩ := H
  replace H : (if t379 = true then (if (l1.length : Int) = a0_1 then ((mosaicref09_Sized.f k l1).bind fun t380 => (mosaicref09_Whole.j0 k l1 (!t380) a0_0 a0_1 a0_2 a0_3)) else (mosaicref09_Whole.j0 k l1 true a0_0 a0_1 a0_2 a0_3)) else (mosaicref09_Whole.j0 k l1 true a0_0 a0_1 a0_2 a0_3)) = some (r1, r2) := H
  have A5 := Aside0.mk A50
  clear A50; by_cases c6 : t379 = true
  ·
   subst c6
   have H1 : (if (l1.length : Int) = a0_1 then ((mosaicref09_Sized.f k l1).bind fun t380 => (mosaicref09_Whole.j0 k l1 (!t380) a0_0 a0_1 a0_2 a0_3)) else (mosaicref09_Whole.j0 k l1 true a0_0 a0_1 a0_2 a0_3)) = some (r1, r2) := by rw [if_pos rfl] at H; exact H
   clear H; have H := H1; clear H1; by_cases c7 : (l1.length : Int) = a0_1
   ·
    rw [if_pos c7] at H
    have c7b0 : ((l1.length : Int) == a0_1) = true := beq_iff_eq.mpr c7
    have c7b1 : ((l1.length : Int) != a0_1) = false := bne_eq_false_iff_eq.mpr c7
    clear c7; (first | rw [c7b0] | (simp only [i64_w, i32_w]; rw [c7b0]) | skip)
    replace H := Option.bind_eq_some_iff.mp H
    obtain ⟨t380, A80, H⟩ := H
    replace H : (mosaicref09_Whole.j0 k l1 (!t380) a0_0 a0_1 a0_2 a0_3) = some (r1, r2) := H
    have A8 := Aside0.mk A80
    clear A80; have H' := Aside0.mk H
    clear H; obtain ⟨hcz9_0, hcz9_1, hcz9_2, hcz9_3⟩ := cZ4 BK378
    obtain ⟨hfz9_0, hfz9_1, hfz9_2, hfz9_3⟩ := dZ4 BK378; go_wp2_with (first | ((with_reducible refine gate_callee (f := 10) rfl ?_); refine goesL_ (some 11) rfl rfl Tryz.func10 (by kernel_rfl) rfl #[.agg #[.int .i64 a0_0, .int .i64 a0_1, .int .i64 a0_2, .int .i64 a0_3]] rfl zM ?_; (with_reducible refine (mosaicref09_Check.calls a0_0 a0_1 a0_2 a0_3 true _ A5.out).mono ?_); rintro e w10 ⟨rfl, hb⟩; refine ⟨_, rfl, ?_⟩; replace BK378 := Aside0.mk (blk_below (zk BK378) hb); replace HB := Aside0.mk (below_step zB hb); (try clear hb); (try clear hb2); (try clear hk); (try clear hi); obtain ⟨hcz11_0, hcz11_1, hcz11_2, hcz11_3⟩ := cZ4 BK378; obtain ⟨hfz11_0, hfz11_1, hfz11_2, hfz11_3⟩ := dZ4 BK378) | (go_at_call 38; (with_reducible refine (mosaicref09_Sized.calls k _ _ l1 t380 _ ?side1 ?side2 A8.out).mono ?_); (case side1 => repeat (first | exact (Kd.C_below HR1.out HB.out) | (with_reducible refine Kd.C_alloc ?_ _) | (with_reducible refine Kd.C_drewN ?_ _) | (with_reducible refine Kd.C_drew ?_))); (case side2 => exact HC1.out); rintro e w' ⟨rfl, ⟨nd, rfl⟩⟩))
    go_meet
    case rel => exact ⟨_, (!t380), zF, H', ⟨by first | omega | exact Nat.le_refl _⟩, ⟨zk BK378⟩, ⟨zB⟩⟩
   ·
    rw [if_neg c7] at H
    have c7b0 : ((l1.length : Int) == a0_1) = false := beq_eq_false_iff_ne.mpr c7
    have c7b1 : ((l1.length : Int) != a0_1) = true := bne_iff_ne.mpr c7
    (first | rw [c7b0] | (simp only [i64_w, i32_w]; rw [c7b0]) | skip)
    have H' := Aside0.mk H
    clear H; obtain ⟨hcz12_0, hcz12_1, hcz12_2, hcz12_3⟩ := cZ4 BK378
    obtain ⟨hfz12_0, hfz12_1, hfz12_2, hfz12_3⟩ := dZ4 BK378; go_wp2_with (first | ((with_reducible refine gate_callee (f := 10) rfl ?_); refine goesL_ (some 11) rfl rfl Tryz.func10 (by kernel_rfl) rfl #[.agg #[.int .i64 a0_0, .int .i64 a0_1, .int .i64 a0_2, .int .i64 a0_3]] rfl zM ?_; (with_reducible refine (mosaicref09_Check.calls a0_0 a0_1 a0_2 a0_3 true _ A5.out).mono ?_); rintro e w13 ⟨rfl, hb⟩; refine ⟨_, rfl, ?_⟩; replace BK378 := Aside0.mk (blk_below (zk BK378) hb); replace HB := Aside0.mk (below_step zB hb); (try clear hb); (try clear hb2); (try clear hk); (try clear hi); obtain ⟨hcz14_0, hcz14_1, hcz14_2, hcz14_3⟩ := cZ4 BK378; obtain ⟨hfz14_0, hfz14_1, hfz14_2, hfz14_3⟩ := dZ4 BK378))
    go_meet
    case rel => exact ⟨_, (true), zF, H', ⟨by first | omega | exact Nat.le_refl _⟩, ⟨zk BK378⟩, ⟨zB⟩⟩
  ·
   replace c6 := Bool.eq_false_iff.mpr c6
   subst c6
   have H1 : (mosaicref09_Whole.j0 k l1 true a0_0 a0_1 a0_2 a0_3) = some (r1, r2) := by rw [if_neg (show ¬ (false = true) by decide)] at H; exact H
   clear H; have H := H1; clear H1; have H' := Aside0.mk H
   clear H; obtain ⟨hcz15_0, hcz15_1, hcz15_2, hcz15_3⟩ := cZ4 BK378
   obtain ⟨hfz15_0, hfz15_1, hfz15_2, hfz15_3⟩ := dZ4 BK378; go_wp2_with (first | ((with_reducible refine gate_callee (f := 10) rfl ?_); refine goesL_ (some 11) rfl rfl Tryz.func10 (by kernel_rfl) rfl #[.agg #[.int .i64 a0_0, .int .i64 a0_1, .int .i64 a0_2, .int .i64 a0_3]] rfl zM ?_; (with_reducible refine (mosaicref09_Check.calls a0_0 a0_1 a0_2 a0_3 false _ A5.out).mono ?_); rintro e w16 ⟨rfl, hb⟩; refine ⟨_, rfl, ?_⟩; replace BK378 := Aside0.mk (blk_below (zk BK378) hb); replace HB := Aside0.mk (below_step zB hb); (try clear hb); (try clear hb2); (try clear hk); (try clear hi)))
   go_meet
   case rel => exact ⟨_, (true), zF, H', ⟨by first | omega | exact Nat.le_refl _⟩, ⟨zk BK378⟩, ⟨zB⟩⟩
 case rest =>
  clear HC3; (try clear c1); (try clear c2); (try clear p2); (try clear c6); (try clear c7); (try clear c7b0); (try clear c7b1); (try clear c10); (try clear hcz11_0); (try clear hcz11_1); (try clear hcz11_2); (try clear hcz11_3); (try clear hcz12_0); (try clear hcz12_1); (try clear hcz12_2); (try clear hcz12_3); (try clear hcz14_0); (try clear hcz14_1); (try clear hcz14_2); (try clear hcz14_3); (try clear hcz15_0); (try clear hcz15_1); (try clear hcz15_2); (try clear hcz15_3); (try clear hcz9_0); (try clear hcz9_1); (try clear hcz9_2); (try clear hcz9_3); (try clear hfz11_0); (try clear hfz11_1); (try clear hfz11_2); (try clear hfz11_3); (try clear hfz12_0); (try clear hfz12_1); (try clear hfz12_2); (try clear hfz12_3); (try clear hfz14_0); (try clear hfz14_1); (try clear hfz14_2); (try clear hfz14_3); (try clear hfz15_0); (try clear hfz15_1); (try clear hfz15_2); (try clear hfz15_3); (try clear hfz9_0); (try clear hfz9_1); (try clear hfz9_2); (try clear hfz9_3); obtain ⟨kq, x24_2, rfl, HA, HJ2, BK378, HB⟩ := hcut
  cases kq with
  | zero => exact absurd HA.out (by simp [mosaicref09_Whole.j0])
  | succ kj2 =>
   have H := HA.out; clear HA; simp only [mosaicref09_Whole.j0] at H
   by_cases c17 : x24_2 = true
   ·
    subst c17
    have H1 : (some (([] : List ByteArray), 1)) = some (r1, r2) := by rw [if_pos rfl] at H; exact H
    clear H; have H := H1; clear H1; simp only [Option.some.injEq, Prod.mk.injEq] at H
    obtain ⟨rfl, rfl⟩ := H
    go_wp2
    go_ret2
    exact ⟨_, zE, by first | exact Kd.R_nil _ _ _ _ _ | exact Kd.N_nil _ _ _ _ _ | exact Kd.V_nil _ _ _ _ _ | exact Kd.Q_nil _ _ _ _ _ | exact Kd.S_nil _ _ _ _ _, zB⟩
   ·
    replace c17 := Bool.eq_false_iff.mpr c17
    subst c17
    have H1 : ((mosaicref09_Table.f kj2 a0_0 a0_1 a0_2 a0_3).bind fun t381 => (mosaicref09_Whole.l0 kj2 l1 t381 ([] : List ByteArray) 0 a0_0 a0_1 a0_2 a0_3)) = some (r1, r2) := by rw [if_neg (show ¬ (false = true) by decide)] at H; exact H
    clear H; have H := H1; clear H1; replace H := Option.bind_eq_some_iff.mp H
    obtain ⟨t381, A180, H⟩ := H
    replace H : (mosaicref09_Whole.l0 kj2 l1 t381 ([] : List ByteArray) 0 a0_0 a0_1 a0_2 a0_3) = some (r1, r2) := H
    have A18 := Aside0.mk A180
    clear A180; have H' := Aside0.mk H
    clear H; obtain ⟨hcz19_0, hcz19_1, hcz19_2, hcz19_3⟩ := cZ4 BK378
    obtain ⟨hfz19_0, hfz19_1, hfz19_2, hfz19_3⟩ := dZ4 BK378; go_wp2_with (first | ((with_reducible refine gate_callee (f := 34) rfl ?_); refine goesL_ (some 26) rfl rfl Tryz.func34 (by kernel_rfl) rfl #[.agg #[.int .i64 a0_0, .int .i64 a0_1, .int .i64 a0_2, .int .i64 a0_3]] rfl zM ?_; (with_reducible refine (mosaicref09_Table.calls kj2 a0_0 a0_1 a0_2 a0_3 t381 _ A18.out).mono ?_); rintro e w20 ⟨v382, rfl, ho0, hb⟩; refine ⟨_, rfl, ?_⟩; have HO383 := Aside0.mk (Kd.S_lower ho0 (below_size zB)); replace BK378 := Aside0.mk (blk_below (zk BK378) hb); replace HB := Aside0.mk (below_step zB hb); (try clear hb); (try clear hb2); (try clear hk); (try clear hi); (try clear ho0)))
    go_loopg [7, 8] kj2 (fun kq v7 v8 w' => ∃ (x7_2 : List ByteArray) (x8_2 : Int), v8 = .int .i64 x8_2 ∧ Aside0 (mosaicref09_Whole.l0 kq l1 t381 x7_2 x8_2 a0_0 a0_1 a0_2 a0_3 = some (r1, r2)) ∧ Aside0 (kq ≤ kj2) ∧ Aside0 (Kd.S (Kd.slice 3 (Kd.int .i64)) 26 w' w.heap.size (fun _ => True) v382 t381) ∧ Aside0 (Kd.R Kd.string 9 w' w.heap.size (fun _ => True) v7 x7_2) ∧ Aside0 (w'.heap[gb378]? = some (.cells #[.int .i64 a0_0, .int .i64 a0_1, .int .i64 a0_2, .int .i64 a0_3] 24 (0, 0))) ∧ Aside0 (Below w.heap.size w w'))
    case atStart => exact ⟨(([] : List ByteArray)), (0), zF, H', ⟨Nat.le_refl _⟩, ⟨zS HO383⟩, ⟨by first | exact Kd.R_nil _ _ _ _ _ | exact Kd.N_nil _ _ _ _ _ | exact Kd.V_nil _ _ _ _ _ | exact Kd.Q_nil _ _ _ _ _ | exact Kd.S_nil _ _ _ _ _⟩, ⟨zk BK378⟩, ⟨zB⟩⟩
    case round =>
     clear H'
     (try clear c1); (try clear c2); (try clear p2); (try clear c3); (try clear c6); (try clear c7); (try clear c7b0); (try clear c7b1); (try clear c10); (try clear c17); (try clear c20); (try clear hcz11_0); (try clear hcz11_1); (try clear hcz11_2); (try clear hcz11_3); (try clear hcz12_0); (try clear hcz12_1); (try clear hcz12_2); (try clear hcz12_3); (try clear hcz14_0); (try clear hcz14_1); (try clear hcz14_2); (try clear hcz14_3); (try clear hcz15_0); (try clear hcz15_1); (try clear hcz15_2); (try clear hcz15_3); (try clear hcz19_0); (try clear hcz19_1); (try clear hcz19_2); (try clear hcz19_3); (try clear hcz9_0); (try clear hcz9_1); (try clear hcz9_2); (try clear hcz9_3); (try clear hfz11_0); (try clear hfz11_1); (try clear hfz11_2); (try clear hfz11_3); (try clear hfz12_0); (try clear hfz12_1); (try clear hfz12_2); (try clear hfz12_3); (try clear hfz14_0); (try clear hfz14_1); (try clear hfz14_2); (try clear hfz14_3); (try clear hfz15_0); (try clear hfz15_1); (try clear hfz15_2); (try clear hfz15_3); (try clear hfz19_0); (try clear hfz19_1); (try clear hfz19_2); (try clear hfz19_3); (try clear hfz9_0); (try clear hfz9_1); (try clear hfz9_2); (try clear hfz9_3); (try clear p2); obtain ⟨x7_2, x8_2, rfl, HA, HK2, HO_6, HO_7, BK378, HB⟩ := hrel
     cases gk with
     | zero => exact absurd HA.out (by simp [mosaicref09_Whole.l0])
     | succ k2 =>
      have H := HA.out; clear HA; simp only [mosaicref09_Whole.l0] at H
      by_cases c21 : x8_2 < (l1.length : Int)
      ·
       rw [if_pos c21] at H
       have c21b0 : decide (x8_2 < (l1.length : Int)) = true := decide_eq_true c21
       clear c21; by_cases c22 : 0 ≤ x8_2
       ·
        rw [if_pos c22] at H
        have c22b0 : decide (0 ≤ x8_2) = true := decide_eq_true c22
        clear c22; by_cases c23 : x7_2.length < 8796093022208
        ·
         rw [if_pos c23] at H
         have LMc23 := Aside0.mk c23
         clear c23; obtain ⟨y385, hy385⟩ : ∃ y_ : List ByteArray, y_ = (x7_2 ++ [rdOf ByteArray.empty l1 x8_2]) := ⟨_, rfl⟩
         replace H : (mosaicref09_Whole.l0 k2 l1 t381 y385 (wrap64 (x8_2 + 1)) a0_0 a0_1 a0_2 a0_3) = some (r1, r2) := by first | (rw [hy385]; with_reducible exact H) | (have H2_ := (Option.bind_some _ _).symm.trans H; rw [hy385]; with_reducible exact H2_) | (have H2_ := (Option.bind_some _ _).symm.trans H; with_reducible exact H2_) | with_reducible exact H | (rw [hy385]; exact H) | exact H
         have Ny385 := Aside0.mk hy385
         clear hy385; have H' := Aside0.mk H
         clear H; have p384 : 0 ≤ (x8_2 : Int) := of_decide_eq_true zA
         have q384 : x8_2 < (l1.length : Int) := of_decide_eq_true zA
         obtain ⟨ad384, e384, hx384_0⟩ := Kd.at_string HR1.out x8_2 p384 q384
         cases e384
         (try replace hx384_0 := (HB.out.cell (World.block_lt_of_cell? w _ hx384_0)).trans hx384_0)
         replace p384 := eq_true p384
         replace q384 := eq_true q384
         go_wp2_with (first | ((with_reducible refine gate_builtin (b := .append) (xs := #[.tmp 33, .tmp 38]) rfl ?_); (try (refine gate_guard (by rfl) ?_; dsimp only)); at_builtin; refine Kd.R_append Kd.string (w0 := w) w.heap.size rfl (.tmp 33) (.tmp 38) 41 9 (.string ⟨#[]⟩) 16 rfl Tryz.underlying41 info9 rfl (by decide) (by omega) u7 x7_2 (rdOf ByteArray.empty l1 x8_2) [.string (rdOf ByteArray.empty l1 x8_2)] (fun _ => True) (fun _ => False) rfl rfl ?aP (fun _ hk => hk.elim) ?aF ?aO ?aB ?aS ?aL ?_; (case aP => exact rfl); (case aB => exact zB); (case aF => exact (fun _ _ => trivial)); (case aO => exact (by (with_reducible repeat (first | apply Kd.R_alloc | apply Kd.R_drewN | apply Kd.R_drew)); exact HO_7.out)); (case aS => exact (below_size zB)); (case aL => have := LMc23.out; omega); intro v386 w24 ho hb hg hat; rw [← Ny385.out] at ho; replace HO_6 := Aside0.mk (Kd.S_over' (by (with_reducible repeat (first | apply Kd.S_alloc | apply Kd.S_drewN | apply Kd.S_drew)); exact HO_6.out) (Kd.R_typed (by (with_reducible repeat (first | apply Kd.R_alloc | apply Kd.R_drewN | apply Kd.R_drew)); exact HO_7.out)) (by decide) hg); replace BK378 := Aside0.mk (blk_grown (zk BK378) hg (Kd.R_ne HO_7.out BK378.out (by decide))); have HO387 := Aside0.mk (ho); replace HB := Aside0.mk (hb); clear HO_7; clear ho hb hg hat))
         go_roundg k2
         case measure => have := HJ2.out; have := HK2.out; omega
         case rel => exact ⟨(y385), (wrap64 (x8_2 + 1)), zF, H', ⟨by have := HJ2.out; have := HK2.out; omega⟩, ⟨zS HO_6⟩, ⟨zR HO387⟩, ⟨zk BK378⟩, ⟨zB⟩⟩
        ·
         rw [if_neg c23] at H
         exact absurd H (by simp)
       ·
        rw [if_neg c22] at H
        exact absurd H (by simp)
      ·
       rw [if_neg c21] at H
       have c21b0 : decide (x8_2 < (l1.length : Int)) = false := decide_eq_false c21
       clear c21; have H' := Aside0.mk H
       clear H; go_wp2
       go_loopg [7, 9] k2 (fun kq v7 v9 w' => ∃ (x7_3 : List ByteArray) (x9_3 : Int), v9 = .int .i64 x9_3 ∧ Aside0 (mosaicref09_Whole.l1 kq l1 t381 x7_3 x9_3 a0_0 a0_1 a0_2 a0_3 = some (r1, r2)) ∧ Aside0 (kq ≤ k2) ∧ Aside0 (Kd.S (Kd.slice 3 (Kd.int .i64)) 26 w' w.heap.size (fun _ => True) v382 t381) ∧ Aside0 (Kd.R Kd.string 9 w' w.heap.size (fun _ => True) v7 x7_3) ∧ Aside0 (w'.heap[gb378]? = some (.cells #[.int .i64 a0_0, .int .i64 a0_1, .int .i64 a0_2, .int .i64 a0_3] 24 (0, 0))) ∧ Aside0 (Below w.heap.size w w'))
       case atStart => exact ⟨(x7_2), (0), zF, H', ⟨Nat.le_refl _⟩, ⟨zS HO_6⟩, ⟨zR HO_7⟩, ⟨zk BK378⟩, ⟨zB⟩⟩
       case round =>
        clear H'
        (try clear c1); (try clear c2); (try clear p2); (try clear c3); (try clear p3); (try clear q3); (try clear hx3); (try clear c6); (try clear p6); (try clear c7); (try clear c7b0); (try clear c7b1); (try clear c10); (try clear c17); (try clear c20); (try clear c21); (try clear c21b0); (try clear c22); (try clear c22b0); (try clear c23); (try clear hcz11_0); (try clear hcz11_1); (try clear hcz11_2); (try clear hcz11_3); (try clear hcz12_0); (try clear hcz12_1); (try clear hcz12_2); (try clear hcz12_3); (try clear hcz14_0); (try clear hcz14_1); (try clear hcz14_2); (try clear hcz14_3); (try clear hcz15_0); (try clear hcz15_1); (try clear hcz15_2); (try clear hcz15_3); (try clear hcz19_0); (try clear hcz19_1); (try clear hcz19_2); (try clear hcz19_3); (try clear hcz9_0); (try clear hcz9_1); (try clear hcz9_2); (try clear hcz9_3); (try clear hfz11_0); (try clear hfz11_1); (try clear hfz11_2); (try clear hfz11_3); (try clear hfz12_0); (try clear hfz12_1); (try clear hfz12_2); (try clear hfz12_3); (try clear hfz14_0); (try clear hfz14_1); (try clear hfz14_2); (try clear hfz14_3); (try clear hfz15_0); (try clear hfz15_1); (try clear hfz15_2); (try clear hfz15_3); (try clear hfz19_0); (try clear hfz19_1); (try clear hfz19_2); (try clear hfz19_3); (try clear hfz9_0); (try clear hfz9_1); (try clear hfz9_2); (try clear hfz9_3); (try clear hx384_0); (try clear p2); (try clear p384); (try clear q384); obtain ⟨x7_3, x9_3, rfl, HA, HK3, HO_6, HO_7, BK378, HB⟩ := hrel
        cases gk with
        | zero => exact absurd HA.out (by simp [mosaicref09_Whole.l1])
        | succ k3 =>
         have H := HA.out; clear HA; simp only [mosaicref09_Whole.l1] at H
         by_cases c25 : x9_3 < a0_2
         ·
          rw [if_pos c25] at H
          have c25b0 : decide (x9_3 < a0_2) = true := decide_eq_true c25
          clear c25; replace H := Option.bind_eq_some_iff.mp H
          obtain ⟨t388, A260, H⟩ := H
          replace H : (if 0 < (l1.length : Int) then ((mosaicref09_Sum.f k3 l1 t388 ((rdOf ByteArray.empty l1 0).size : Int)).bind fun t392 => (if x7_3.length < 8796093022208 then (mosaicref09_Whole.l1 k3 l1 t381 (x7_3 ++ [t392]) (wrap64 (x9_3 + 1)) a0_0 a0_1 a0_2 a0_3) else (none))) else (none)) = some (r1, r2) := H
          have A26 := Aside0.mk A260
          clear A260; by_cases c27 : 0 < (l1.length : Int)
          ·
           rw [if_pos c27] at H
           have c27b0 : decide (0 < (l1.length : Int)) = true := decide_eq_true c27
           have c27b1 : decide (0 < l1.length) = true := decide_eq_true (by omega)
           have c27b2 : (0 < l1.length) := by omega
           clear c27; replace H := Option.bind_eq_some_iff.mp H
           obtain ⟨t392, A280, H⟩ := H
           replace H : (if x7_3.length < 8796093022208 then (mosaicref09_Whole.l1 k3 l1 t381 (x7_3 ++ [t392]) (wrap64 (x9_3 + 1)) a0_0 a0_1 a0_2 a0_3) else (none)) = some (r1, r2) := H
           have A28 := Aside0.mk A280
           clear A280; by_cases c29 : x7_3.length < 8796093022208
           ·
            rw [if_pos c29] at H
            have LMc29 := Aside0.mk c29
            clear c29; obtain ⟨y393, hy393⟩ : ∃ y_ : List ByteArray, y_ = (x7_3 ++ [t392]) := ⟨_, rfl⟩
            replace H : (mosaicref09_Whole.l1 k3 l1 t381 y393 (wrap64 (x9_3 + 1)) a0_0 a0_1 a0_2 a0_3) = some (r1, r2) := by first | (rw [hy393]; with_reducible exact H) | (have H2_ := (Option.bind_some _ _).symm.trans H; rw [hy393]; with_reducible exact H2_) | (have H2_ := (Option.bind_some _ _).symm.trans H; with_reducible exact H2_) | with_reducible exact H | (rw [hy393]; exact H) | exact H
            have Ny393 := Aside0.mk hy393
            clear hy393; have H' := Aside0.mk H
            clear H; obtain ⟨hcz30_0, hcz30_1, hcz30_2, hcz30_3⟩ := cZ4 BK378
            obtain ⟨hfz30_0, hfz30_1, hfz30_2, hfz30_3⟩ := dZ4 BK378; try go_wp2
            replace HO_6 := Aside0.mk (Kd.S_drew HO_6.out)
            replace HO_7 := Aside0.mk (Kd.R_drew HO_7.out)
            replace BK378 := Aside0.mk (blk_drew BK378.out)
            replace HB := Aside0.mk (below_drew1 HB.out); have p391 : 0 ≤ (0 : Int) := (by omega)
            have q391 : 0 < (l1.length : Int) := of_decide_eq_true zA
            obtain ⟨ad391, e391, hx391_0⟩ := Kd.at_string HR1.out 0 p391 q391
            have hw391_0 := hx391_0; (try rw [show ((0 : Int)).toNat = 0 from rfl] at hw391_0)
            (try rw [show 0 * 1 = 0 from rfl] at hw391_0)
            (try rw [Addr.add_zero'] at hw391_0)
            cases e391
            have qi391 : (0 < l1.length) = True := eq_true (by omega)
            (try rw [show ((0 : Int)).toNat = 0 from rfl] at hx391_0)
            (try rw [Addr.add_zero'] at hx391_0)
            (try replace hx391_0 := (HB.out.cell (World.block_lt_of_cell? w _ hx391_0)).trans hx391_0)
            replace p391 := eq_true p391
            replace q391 := eq_true q391
            obtain ⟨Ao32, co32, eo32⟩ := Kd.S_slice HO_6.out
            (first | subst eo32 | (injection eo32 with f1_ f2_ f3_; have f4_ := f1_.symm; have f5_ := f3_.symm; clear f1_ f2_ f3_; subst f4_; subst f5_))
            refine start_ (n := 13) (S := fun w' => w'.cell? ad391 = some (.string (rdOf ByteArray.empty l1 0))) (ds := []) (mkB20 13 0) (by kernel_rfl) rfl rfl ((by first | exact (HB.out.cell (World.block_lt_of_cell? w _ hw391_0)).trans hw391_0 | exact hw391_0)) (fun hHeld => ?_); refine with_tabW mosaicref09_Whole.tab12 mosaicref09_Whole.bits12 (fun HT_ HW_ => ?_)
            generalize wr.drew = w31 at HO_6 HO_7 BK378 HB hx391_0 hHeld ⊢
            refine pX 0 (some 46) (mkB20 13 1) ?_
            refine pX 1 (some 47) (mkB20 13 3) ?_
            refine pX 2 (some 48) (mkB20 13 7) ?_
            refine pX 3 (some 49) (mkB20 13 15) ?_
            refine pX 5 (some 51) (mkB20 13 47) ?_
            refine pX 6 (some 52) (mkB20 13 111) ?_
            refine tT (v := ?_) (a' := ?_) HT_ HW_ hHeld 7 (some 53) (mkB20 13 239) ?_ ?_ ?_; rotate_left 2; (intro w' s0; go_simp; with_reducible rfl); (simp only [Act.put, qA, qB, qC, i64_w, i32_w]; rfl)
            refine pX 8 (some 54) (mkB20 13 495) ?_
            refine one_ (i := 4) (N := some 50) (mkB20 13 511) rfl rfl (one_of HT_.out (by kernel_rfl)) (by decide) (fun K hK => ?_)
            refine goes_ Tryz.func33 (by kernel_rfl) rfl #[.slice Ao32 t381.length co32, .int .i64 x9_3] (by rfl) rfl rfl zM ?_
            with_reducible refine (mosaicref09_members.calls k3 _ _ t381 x9_3 t388 _ ?side1 ?side2 A26.out).mono ?_
            (case side1 => repeat (first | exact (Kd.S_reads' HO_6.out).2.2 | (with_reducible refine Kd.C_alloc ?_ _) | (with_reducible refine Kd.C_drewN ?_ _) | (with_reducible refine Kd.C_drew ?_)))
            (case side2 => exact (Kd.S_reads' HO_6.out).2.1)
            rintro e w33 ⟨v389, rfl, ho0, hb⟩
            refine ⟨_, rfl, ?_⟩; replace HO_6 := Aside0.mk (Kd.S_elder' (by (with_reducible repeat (first | apply Kd.S_alloc | apply Kd.S_drewN | apply Kd.S_drew)); exact HO_6.out) (Kd.R_base ho0) hb)
            replace HO_7 := Aside0.mk (Kd.R_below (zR HO_7) hb)
            have HO390 := Aside0.mk (Kd.R_lower ho0 (below_size zB))
            replace BK378 := Aside0.mk (blk_below (zk BK378) hb)
            replace HB := Aside0.mk (below_step zB hb); (try clear hb); (try clear hb2); (try clear hk); (try clear hi); (try clear ho0); obtain ⟨Ao34, co34, eo34⟩ := Kd.R_slice HO390.out
            (first | subst eo34 | (injection eo34 with f1_ f2_ f3_; have f4_ := f1_.symm; have f5_ := f3_.symm; clear f1_ f2_ f3_; subst f4_; subst f5_))
            refine hK.out _ _ ((by first | exact (HB.out.cell (World.block_lt_of_cell? w _ hw391_0)).trans hw391_0 | exact hw391_0)) (fun hHeld => ?_)
            clear hK K; refine norm_ (a' := ?_) ?_ ?_
            rotate_left
            ·
             show Act.put _ (some 50) _ = _
             simp only [Act.put, List.setIfInBounds_toArray, List.set_cons_zero, List.set_cons_succ, i64_w, i32_w]; rfl
            refine one_ (i := 9) (N := some 55) (mkB20 13 1023) rfl rfl (one_of HT_.out (by kernel_rfl)) (by decide) (fun K hK => ?_)
            refine goes_ Tryz.func39 (by kernel_rfl) rfl #[.slice (some ad391) l1.length c1, .slice Ao34 t388.length co34, .int .i64 ((rdOf ByteArray.empty l1 0).size : Int)] (by rfl) rfl rfl zM ?_
            with_reducible refine (mosaicref09_Sum.calls k3 _ _ l1 _ _ t388 ((rdOf ByteArray.empty l1 0).size : Int) t392 _ ?side1 ?side2 ?side3 ?side4 A28.out).mono ?_
            (case side1 => repeat (first | exact (Kd.C_below HR1.out HB.out) | (with_reducible refine Kd.C_alloc ?_ _) | (with_reducible refine Kd.C_drewN ?_ _) | (with_reducible refine Kd.C_drew ?_)))
            (case side2 => exact HC1.out)
            (case side3 => repeat (first | exact (Kd.R_reads' HO390.out).2.2 | (with_reducible refine Kd.C_alloc ?_ _) | (with_reducible refine Kd.C_drewN ?_ _) | (with_reducible refine Kd.C_drew ?_)))
            (case side4 => exact (Kd.R_reads' HO390.out).2.1)
            rintro e w35 ⟨rfl, hb⟩; refine ⟨_, rfl, ?_⟩; replace HO_6 := Aside0.mk (Kd.S_below (zS HO_6) hb)
            replace HO_7 := Aside0.mk (Kd.R_below (zR HO_7) hb)
            replace HO390 := Aside0.mk (Kd.R_below (zR HO390) hb)
            replace BK378 := Aside0.mk (blk_below (zk BK378) hb)
            replace HB := Aside0.mk (below_step zB hb); (try clear hb); (try clear hb2); (try clear hk); (try clear hi); refine hK.out _ _ ((by first | exact (HB.out.cell (World.block_lt_of_cell? w _ hw391_0)).trans hw391_0 | exact hw391_0)) (fun hHeld => ?_)
            clear hK K; refine norm_ (a' := ?_) ?_ ?_
            rotate_left
            ·
             show Act.put _ (some 55) _ = _
             simp only [Act.put, List.setIfInBounds_toArray, List.set_cons_zero, List.set_cons_succ, i64_w, i32_w]; rfl
            refine one_ (i := 10) (N := some 56) (mkB20 13 2047) rfl rfl (one_of HT_.out (by kernel_rfl)) (by decide) (fun K hK => ?_)
            refine value_ (w1 := ?_) (v := ?_) (by rfl) rfl ?_ ?_
            rotate_left 2
            ·
             go_simp; constructor
             ·
              rfl
             ·
              rfl
            refine hK.out _ _ ((World.cell?_alloc_lt _ _ _ (World.block_lt_of_cell? _ _ ((by first | exact (HB.out.cell (World.block_lt_of_cell? w _ hw391_0)).trans hw391_0 | exact hw391_0)))).trans ((by first | exact (HB.out.cell (World.block_lt_of_cell? w _ hw391_0)).trans hw391_0 | exact hw391_0))) (fun hHeld => ?_)
            clear hK K; refine norm_ (a' := ?_) ?_ ?_
            rotate_left
            ·
             show Act.put _ (some 56) _ = _
             simp only [Act.put, List.setIfInBounds_toArray, List.set_cons_zero, List.set_cons_succ, i64_w, i32_w]; rfl
            refine one_ (i := 11) (N := some 57) (mkB20 13 4095) rfl rfl (one_of HT_.out (by kernel_rfl)) (by decide) (fun K hK => ?_)
            refine Kd.R_append_step Kd.string (w0 := w) w.heap.size (by rfl) (.tmp 46) (.tmp 56) 41 9 (.string ⟨#[]⟩) 16 rfl Tryz.underlying41 info9 rfl (by decide) (by omega) u7 x7_3 t392 [.string t392] (fun _ => True) (fun _ => False) rfl rfl ?aP (fun _ hk => hk.elim) ?aF ?aO ?aB ?aS ?aL ?_
            (case aP => exact rfl)
            (case aB => exact zB)
            (case aF => exact (fun _ _ => trivial))
            (case aO => exact (by (with_reducible repeat (first | apply Kd.R_alloc | apply Kd.R_drewN | apply Kd.R_drew)); exact HO_7.out))
            (case aS => exact (below_size zB))
            (case aL => have := LMc29.out; omega)
            intro v394 w36 ho hb hg hat
            rw [← Ny393.out] at ho
            replace HO_6 := Aside0.mk (Kd.S_over' (by (with_reducible repeat (first | apply Kd.S_alloc | apply Kd.S_drewN | apply Kd.S_drew)); exact HO_6.out) (Kd.R_typed (by (with_reducible repeat (first | apply Kd.R_alloc | apply Kd.R_drewN | apply Kd.R_drew)); exact HO_7.out)) (by decide) hg)
            replace BK378 := Aside0.mk (blk_grown (zk BK378) hg (Kd.R_ne HO_7.out BK378.out (by decide)))
            replace HO390 := Aside0.mk (Kd.R_over' (by (with_reducible repeat (first | apply Kd.R_alloc | apply Kd.R_drewN | apply Kd.R_drew)); exact HO390.out) (Kd.R_typed (by (with_reducible repeat (first | apply Kd.R_alloc | apply Kd.R_drewN | apply Kd.R_drew)); exact HO_7.out)) (by decide) hg)
            have HO395 := Aside0.mk (ho)
            replace HB := Aside0.mk (hb)
            clear HO_7 ho hb hg hat; refine hK.out _ _ ((by first | exact (HB.out.cell (World.block_lt_of_cell? w _ hw391_0)).trans hw391_0 | exact hw391_0)) (fun hHeld => ?_)
            clear hK K; refine norm_ (a' := ?_) ?_ ?_
            rotate_left
            ·
             show Act.put _ (some 57) _ = _
             simp only [Act.put, List.setIfInBounds_toArray, List.set_cons_zero, List.set_cons_succ, i64_w, i32_w]; rfl
            refine pX 12 (some 7) (mkB20 13 8191) ?_
            refine done_ (done_of HT_.out (by kernel_rfl)) ?_
            try go_wp2
            go_roundg k3
            case measure => have := HJ2.out; have := HK2.out; have := HK3.out; omega
            case rel => exact ⟨(y393), (wrap64 (x9_3 + 1)), zF, H', ⟨by have := HJ2.out; have := HK2.out; have := HK3.out; omega⟩, ⟨by (with_reducible repeat (first | apply Kd.S_alloc | apply Kd.S_drewN | apply Kd.S_drew)); exact Kd.S_mono HO_6.out (fun _ hk => trivial)⟩, ⟨zR HO395⟩, ⟨zk BK378⟩, ⟨zB⟩⟩
           ·
            rw [if_neg c29] at H
            exact absurd H (by simp)
          ·
           rw [if_neg c27] at H
           exact absurd H (by simp)
         ·
          rw [if_neg c25] at H
          have c25b0 : decide (x9_3 < a0_2) = false := decide_eq_false c25
          clear c25; simp only [Option.some.injEq, Prod.mk.injEq] at H
          obtain ⟨rfl, rfl⟩ := H
          obtain ⟨hcz37_0, hcz37_1, hcz37_2, hcz37_3⟩ := cZ4 BK378
          obtain ⟨hfz37_0, hfz37_1, hfz37_2, hfz37_3⟩ := dZ4 BK378; go_wp2
          go_ret2
          exact ⟨_, zE, by (with_reducible repeat (first | apply Kd.R_alloc | apply Kd.R_drewN | apply Kd.R_drew)); exact HO_7.out, zB⟩
end Go.Proofs.YtghhmnjkgnoogaaGreat.POuterWholes
