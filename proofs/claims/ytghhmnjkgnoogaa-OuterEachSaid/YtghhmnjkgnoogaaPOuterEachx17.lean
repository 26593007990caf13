-- Written by this session's own program (wip/tools/mkprint.py) over the kit's printer, with overrides.
import Derived.Test.YtghhmnjkgnoogaaPOuterEachx0
import Derived.Test.YtghhmnjkgnoogaaPOuterEachx1
import Derived.Test.YtghhmnjkgnoogaaPOuterEachx12
import Derived.Test.YtghhmnjkgnoogaaPOuterEachx16
namespace Go.Proofs.Ytghhmnjkgnoogaa.POuterEach
open Go.RowKit Go.Mine Go.Proofs.YtghhmnjkgnoogaaW.PrintWords Go.Proofs.YtghhmnjkgnoogaaW.PrintLast Go.Proofs.YtghhmnjkgnoogaaW.PrintMore
attribute [local go_sem] max2_int min2_int max_two min_two max_three min_three max_four min_four   -- for this text's walks alone
set_option linter.unusedVariables false
set_option linter.unusedSimpArgs false

/-! ### mosaiclaw09_OuterEach: function 3 -/
/-- The Bools of a number's bits. -/
def mkB3 (w m : Nat) : Array Bool := ⟨(List.range w).map fun i => m.testBit i⟩
mutual
def mosaiclaw09_OuterEach.l0 : Nat → List (List Int) → Int → Int → Int → Int → Int → Int → Option (Bool)
 | 0, _, _, _, _, _, _, _ => none
 | k + 1, x3, x5, x6, x218000, x218001, x218002, x218003 => if x6 < (x3.length : Int) then (if 0 ≤ x6 then (if ((rd_L3 x3 x6).length : Int) = 0 then (some false) else (if 0 ≤ (wrap64 (((rd_L3 x3 x6).length : Int) - 1)) then (if (wrap64 (((rd_L3 x3 x6).length : Int) - 1)) < ((rd_L3 x3 x6).length : Int) then (if (rd (rd_L3 x3 x6) (wrap64 (((rd_L3 x3 x6).length : Int) - 1))) = (wrap64 (x218001 + x6)) then (mosaiclaw09_OuterEach.l1 k x3 (wrap64 ((wrap64 (x5 + ((rd_L3 x3 x6).length : Int))) - 1)) x6 (rd_L3 x3 x6) 0 x218000 x218001 x218002 x218003) else (some false)) else (none)) else (none))) else (none)) else (mosaiclaw09_OuterEach.l2 k x3 x5 0 x218000 x218001 x218002 x218003)
def mosaiclaw09_OuterEach.l1 : Nat → List (List Int) → Int → Int → List Int → Int → Int → Int → Int → Int → Option (Bool)
 | 0, _, _, _, _, _, _, _, _, _ => none
 | k + 1, x3, x5, x6, x7, x8, x218000, x218001, x218002, x218003 => if (wrap64 (x8 + 1)) < (x7.length : Int) then (if 0 ≤ x8 then (if x8 < (x7.length : Int) then (if (rd x7 x8) < 0 then (some false) else (if (rd x7 x8) ≥ x218001 then (some false) else (if x8 > 0 then (if 0 ≤ (wrap64 (x8 - 1)) then (if (wrap64 (x8 - 1)) < (x7.length : Int) then (if (rd x7 x8) ≤ (rd x7 (wrap64 (x8 - 1))) then (some false) else (mosaiclaw09_OuterEach.l1 k x3 x5 x6 x7 (wrap64 (x8 + 1)) x218000 x218001 x218002 x218003)) else (none)) else (none)) else (mosaiclaw09_OuterEach.l1 k x3 x5 x6 x7 (wrap64 (x8 + 1)) x218000 x218001 x218002 x218003)))) else (none)) else (none)) else (mosaiclaw09_OuterEach.l0 k x3 x5 (wrap64 (x6 + 1)) x218000 x218001 x218002 x218003)
def mosaiclaw09_OuterEach.l2 : Nat → List (List Int) → Int → Int → Int → Int → Int → Int → Option (Bool)
 | 0, _, _, _, _, _, _, _ => none
 | k + 1, x3, x5, x9, x218000, x218001, x218002, x218003 => if x9 < x218001 then ((outer_Joins.f k x218000 x218001 x218002 x218003 x9).bind fun bt231 => (if bt231.2 = 0 then (if (bt231.1.length : Int) = (mn x218003 x218002) then (mosaiclaw09_OuterEach.l3 k x3 x5 x9 bt231.1 0 x218000 x218001 x218002 x218003) else (some false)) else (some false))) else ((mosaiclaw09_awake.f k).bind fun t230 => (if t230 = true then (if (x3.length : Int) = x218002 then (some (x5 == (wrap64 (x218001 * (mn x218003 x218002))))) else (some false)) else (some false)))
def mosaiclaw09_OuterEach.l3 : Nat → List (List Int) → Int → Int → List Int → Int → Int → Int → Int → Int → Option (Bool)
 | 0, _, _, _, _, _, _, _, _, _ => none
 | k + 1, x3, x5, x9, x10, x12, x218000, x218001, x218002, x218003 => if x12 < (x10.length : Int) then (if 0 ≤ x12 then (if (rd x10 x12) < 0 then (some false) else (if (rd x10 x12) ≥ x218002 then (some false) else (if x12 > 0 then (if 0 ≤ (wrap64 (x12 - 1)) then (if (wrap64 (x12 - 1)) < (x10.length : Int) then (if (rd x10 x12) ≤ (rd x10 (wrap64 (x12 - 1))) then (some false) else (if 0 ≤ (rd x10 x12) then (if (rd x10 x12) < (x3.length : Int) then ((mosaicref09_Has.f k (rd_L3 x3 (rd x10 x12)) x9).bind fun t241 => (if t241 = true then (mosaiclaw09_OuterEach.l3 k x3 x5 x9 x10 (wrap64 (x12 + 1)) x218000 x218001 x218002 x218003) else (some false))) else (none)) else (none))) else (none)) else (none)) else (if 0 ≤ (rd x10 x12) then (if (rd x10 x12) < (x3.length : Int) then ((mosaicref09_Has.f k (rd_L3 x3 (rd x10 x12)) x9).bind fun t244 => (if t244 = true then (mosaiclaw09_OuterEach.l3 k x3 x5 x9 x10 (wrap64 (x12 + 1)) x218000 x218001 x218002 x218003) else (some false))) else (none)) else (none))))) else (none)) else (mosaiclaw09_OuterEach.l2 k x3 x5 (wrap64 (x9 + 1)) x218000 x218001 x218002 x218003)
end
def mosaiclaw09_OuterEach.f (k : Nat) (a0_0 : Int) (a0_1 : Int) (a0_2 : Int) (a0_3 : Int) : Option (Bool) := (outer_Rules.f k a0_0 a0_1 a0_2 a0_3).bind fun bt218 => (if bt218.2 = 0 then (mosaiclaw09_OuterEach.l0 k bt218.1 0 0 a0_0 a0_1 a0_2 a0_3) else ((mosaiclaw09_awake.f k).bind fun t222 => (if t222 = true then ((outer_Check.f a0_0 a0_1 a0_2 a0_3).bind fun t223 => (some (!t223))) else (some false))))
theorem mosaiclaw09_OuterEach.mono_l : ∀ k, (∀ y0 y1 y2 y3 y4 y5 y6, LeO (mosaiclaw09_OuterEach.l0 k y0 y1 y2 y3 y4 y5 y6) (mosaiclaw09_OuterEach.l0 (k + 1) y0 y1 y2 y3 y4 y5 y6)) ∧ (∀ y0 y1 y2 y3 y4 y5 y6 y7 y8, LeO (mosaiclaw09_OuterEach.l1 k y0 y1 y2 y3 y4 y5 y6 y7 y8) (mosaiclaw09_OuterEach.l1 (k + 1) y0 y1 y2 y3 y4 y5 y6 y7 y8)) ∧ (∀ y0 y1 y2 y3 y4 y5 y6, LeO (mosaiclaw09_OuterEach.l2 k y0 y1 y2 y3 y4 y5 y6) (mosaiclaw09_OuterEach.l2 (k + 1) y0 y1 y2 y3 y4 y5 y6)) ∧ (∀ y0 y1 y2 y3 y4 y5 y6 y7 y8, LeO (mosaiclaw09_OuterEach.l3 k y0 y1 y2 y3 y4 y5 y6 y7 y8) (mosaiclaw09_OuterEach.l3 (k + 1) y0 y1 y2 y3 y4 y5 y6 y7 y8))
 | 0 => ⟨fun _ _ _ _ _ _ _ r h => by simp [mosaiclaw09_OuterEach.l0] at h, fun _ _ _ _ _ _ _ _ _ r h => by simp [mosaiclaw09_OuterEach.l1] at h, fun _ _ _ _ _ _ _ r h => by simp [mosaiclaw09_OuterEach.l2] at h, fun _ _ _ _ _ _ _ _ _ r h => by simp [mosaiclaw09_OuterEach.l3] at h⟩
 | k + 1 => by
  obtain ⟨ih0, ih1, ih2, ih3⟩ := mosaiclaw09_OuterEach.mono_l k
  refine ⟨?_, ?_, ?_, ?_⟩
  ·
   intro y0 y1 y2 y3 y4 y5 y6
   unfold mosaiclaw09_OuterEach.l0
   repeat' first
   | (with_reducible exact ih0 _ _ _ _ _ _ _)
   | (with_reducible exact ih1 _ _ _ _ _ _ _ _ _)
   | (with_reducible exact ih2 _ _ _ _ _ _ _)
   | (with_reducible exact ih3 _ _ _ _ _ _ _ _ _)
   | (with_reducible exact mosaiclaw09_awake.mono _)
   | (with_reducible exact mosaicref09_Has.mono _ _ _)
   | (with_reducible exact outer_Joins.mono _ _ _ _ _ _)
   | (with_reducible exact outer_Rules.mono _ _ _ _ _)
   | (with_reducible exact LeO.refl _)
   | (with_reducible exact LeO.none _)
   | (with_reducible refine LeO.ite ?_ ?_)
   | (with_reducible refine LeO.bind ?_ (fun _ => ?_))
   | exact ih0 _ _ _ _ _ _ _
   | exact ih1 _ _ _ _ _ _ _ _ _
   | exact ih2 _ _ _ _ _ _ _
   | exact ih3 _ _ _ _ _ _ _ _ _
   | exact mosaiclaw09_awake.mono _
   | exact mosaicref09_Has.mono _ _ _
   | exact outer_Joins.mono _ _ _ _ _ _
   | exact outer_Rules.mono _ _ _ _ _
   | exact LeO.none _
   | refine LeO.ite ?_ ?_
   | refine LeO.bind ?_ (fun _ => ?_)
  ·
   intro y0 y1 y2 y3 y4 y5 y6 y7 y8
   unfold mosaiclaw09_OuterEach.l1
   repeat' first
   | (with_reducible exact ih0 _ _ _ _ _ _ _)
   | (with_reducible exact ih1 _ _ _ _ _ _ _ _ _)
   | (with_reducible exact ih2 _ _ _ _ _ _ _)
   | (with_reducible exact ih3 _ _ _ _ _ _ _ _ _)
   | (with_reducible exact mosaiclaw09_awake.mono _)
   | (with_reducible exact mosaicref09_Has.mono _ _ _)
   | (with_reducible exact outer_Joins.mono _ _ _ _ _ _)
   | (with_reducible exact outer_Rules.mono _ _ _ _ _)
   | (with_reducible exact LeO.refl _)
   | (with_reducible exact LeO.none _)
   | (with_reducible refine LeO.ite ?_ ?_)
   | (with_reducible refine LeO.bind ?_ (fun _ => ?_))
   | exact ih0 _ _ _ _ _ _ _
   | exact ih1 _ _ _ _ _ _ _ _ _
   | exact ih2 _ _ _ _ _ _ _
   | exact ih3 _ _ _ _ _ _ _ _ _
   | exact mosaiclaw09_awake.mono _
   | exact mosaicref09_Has.mono _ _ _
   | exact outer_Joins.mono _ _ _ _ _ _
   | exact outer_Rules.mono _ _ _ _ _
   | exact LeO.none _
   | refine LeO.ite ?_ ?_
   | refine LeO.bind ?_ (fun _ => ?_)
  ·
   intro y0 y1 y2 y3 y4 y5 y6
   unfold mosaiclaw09_OuterEach.l2
   repeat' first
   | (with_reducible exact ih0 _ _ _ _ _ _ _)
   | (with_reducible exact ih1 _ _ _ _ _ _ _ _ _)
   | (with_reducible exact ih2 _ _ _ _ _ _ _)
   | (with_reducible exact ih3 _ _ _ _ _ _ _ _ _)
   | (with_reducible exact mosaiclaw09_awake.mono _)
   | (with_reducible exact mosaicref09_Has.mono _ _ _)
   | (with_reducible exact outer_Joins.mono _ _ _ _ _ _)
   | (with_reducible exact outer_Rules.mono _ _ _ _ _)
   | (with_reducible exact LeO.refl _)
   | (with_reducible exact LeO.none _)
   | (with_reducible refine LeO.ite ?_ ?_)
   | (with_reducible refine LeO.bind ?_ (fun _ => ?_))
   | exact ih0 _ _ _ _ _ _ _
   | exact ih1 _ _ _ _ _ _ _ _ _
   | exact ih2 _ _ _ _ _ _ _
   | exact ih3 _ _ _ _ _ _ _ _ _
   | exact mosaiclaw09_awake.mono _
   | exact mosaicref09_Has.mono _ _ _
   | exact outer_Joins.mono _ _ _ _ _ _
   | exact outer_Rules.mono _ _ _ _ _
   | exact LeO.none _
   | refine LeO.ite ?_ ?_
   | refine LeO.bind ?_ (fun _ => ?_)
  ·
   intro y0 y1 y2 y3 y4 y5 y6 y7 y8
   unfold mosaiclaw09_OuterEach.l3
   repeat' first
   | (with_reducible exact ih0 _ _ _ _ _ _ _)
   | (with_reducible exact ih1 _ _ _ _ _ _ _ _ _)
   | (with_reducible exact ih2 _ _ _ _ _ _ _)
   | (with_reducible exact ih3 _ _ _ _ _ _ _ _ _)
   | (with_reducible exact mosaiclaw09_awake.mono _)
   | (with_reducible exact mosaicref09_Has.mono _ _ _)
   | (with_reducible exact outer_Joins.mono _ _ _ _ _ _)
   | (with_reducible exact outer_Rules.mono _ _ _ _ _)
   | (with_reducible exact LeO.refl _)
   | (with_reducible exact LeO.none _)
   | (with_reducible refine LeO.ite ?_ ?_)
   | (with_reducible refine LeO.bind ?_ (fun _ => ?_))
   | exact ih0 _ _ _ _ _ _ _
   | exact ih1 _ _ _ _ _ _ _ _ _
   | exact ih2 _ _ _ _ _ _ _
   | exact ih3 _ _ _ _ _ _ _ _ _
   | exact mosaiclaw09_awake.mono _
   | exact mosaicref09_Has.mono _ _ _
   | exact outer_Joins.mono _ _ _ _ _ _
   | exact outer_Rules.mono _ _ _ _ _
   | exact LeO.none _
   | refine LeO.ite ?_ ?_
   | refine LeO.bind ?_ (fun _ => ?_)
theorem mosaiclaw09_OuterEach.mono : ∀ a0 a1 a2 a3 k, LeO (mosaiclaw09_OuterEach.f k a0 a1 a2 a3) (mosaiclaw09_OuterEach.f (k + 1) a0 a1 a2 a3) := by
 intro a0 a1 a2 a3 k
 obtain ⟨ih0, ih1, ih2, ih3⟩ := mosaiclaw09_OuterEach.mono_l k
 unfold mosaiclaw09_OuterEach.f
 repeat' first
   | (with_reducible exact ih0 _ _ _ _ _ _ _)
   | (with_reducible exact ih1 _ _ _ _ _ _ _ _ _)
   | (with_reducible exact ih2 _ _ _ _ _ _ _)
   | (with_reducible exact ih3 _ _ _ _ _ _ _ _ _)
   | (with_reducible exact mosaiclaw09_awake.mono _)
   | (with_reducible exact mosaicref09_Has.mono _ _ _)
   | (with_reducible exact outer_Joins.mono _ _ _ _ _ _)
   | (with_reducible exact outer_Rules.mono _ _ _ _ _)
   | (with_reducible exact LeO.refl _)
   | (with_reducible exact LeO.none _)
   | (with_reducible refine LeO.ite ?_ ?_)
   | (with_reducible refine LeO.bind ?_ (fun _ => ?_))
   | exact ih0 _ _ _ _ _ _ _
   | exact ih1 _ _ _ _ _ _ _ _ _
   | exact ih2 _ _ _ _ _ _ _
   | exact ih3 _ _ _ _ _ _ _ _ _
   | exact mosaiclaw09_awake.mono _
   | exact mosaicref09_Has.mono _ _ _
   | exact outer_Joins.mono _ _ _ _ _ _
   | exact outer_Rules.mono _ _ _ _ _
   | exact LeO.none _
   | refine LeO.ite ?_ ?_
   | refine LeO.bind ?_ (fun _ => ?_)
def mosaiclaw09_OuterEach.T9 : Bool × List (List Nat × List Nat) := (true, [([], []), ([0], [0]), ([1], [1]), ([2], [2]), ([3], [3]), ([3], [3]), ([5, 3], [3, 5]), ([6, 3], [3, 6]), ([4, 7, 3], [3, 4, 7]), ([8, 3], [3, 8]), ([3], [3]), ([10, 3], [3, 10]), ([3], [3]), ([11, 12, 3], [3, 11, 12]), ([9, 13, 3], [3, 9, 13]), ([3, 14], [3, 14])])
def mosaiclaw09_OuterEach.B9 : List Nat := [0, 1, 3, 7, 15, 15, 47, 111, 255, 511, 15, 1039, 15, 7183, 16383, 32767]
theorem mosaiclaw09_OuterEach.tab9 : rtab .any (opsOf Try.f3 9) = mosaiclaw09_OuterEach.T9 := by kernel_rfl
theorem mosaiclaw09_OuterEach.bits9 : waitsOk mosaiclaw09_OuterEach.T9.2 mosaiclaw09_OuterEach.B9 = true := by kernel_rfl
def mosaiclaw09_OuterEach.T15 : Bool × List (List Nat × List Nat) := (true, [([], []), ([], []), ([0, 1], [0, 1]), ([2], [2]), ([3], [3]), ([4], [4]), ([5], [5]), ([5], [5]), ([6, 7, 5], [5, 6, 7]), ([8, 5], [5, 8]), ([5], [5]), ([10, 5], [5, 10]), ([9, 11, 5], [5, 9, 11]), ([5, 12], [5, 12]), ([13, 5], [13]), ([14], [14]), ([15, 14], [14, 15]), ([16, 14, 14], [14, 16]), ([17], [17]), ([17], [17]), ([18, 19, 17], [17, 18, 19]), ([20, 17], [17, 20]), ([17], [17]), ([17], [17]), ([23, 17], [17, 23]), ([22, 24, 17], [17, 22, 24]), ([25, 17], [17, 25]), ([21, 26, 17], [17, 21, 26]), ([17, 27, 14], [14, 17, 27]), ([14, 28], [14, 28])])
def mosaiclaw09_OuterEach.B15 : List Nat := [0, 0, 3, 7, 15, 31, 63, 63, 255, 511, 63, 1087, 4095, 8191, 16383, 32767, 65535, 131071, 262143, 262143, 1048575, 2097151, 262143, 262143, 8650751, 29622271, 63176703, 134217727, 268435455, 536870911]
theorem mosaiclaw09_OuterEach.tab15 : rtab .any (opsOf Try.f3 15) = mosaiclaw09_OuterEach.T15 := by kernel_rfl
theorem mosaiclaw09_OuterEach.bits15 : waitsOk mosaiclaw09_OuterEach.T15.2 mosaiclaw09_OuterEach.B15 = true := by kernel_rfl
def mosaiclaw09_OuterEach.T26 : Bool × List (List Nat × List Nat) := (true, [([], []), ([], []), ([0, 1], [0, 1]), ([2], [2]), ([3], [3]), ([4], [4]), ([5], [5]), ([5], [5]), ([6, 7, 5], [5, 6, 7]), ([8, 5], [5, 8]), ([5], [5]), ([10, 5], [5, 10]), ([9, 11, 5], [5, 9, 11]), ([5, 12], [5, 12]), ([13, 5], [13]), ([14], [14]), ([15, 14], [14, 15]), ([16, 14, 14], [14, 16]), ([17], [17]), ([17], [17]), ([18, 19, 17], [17, 18, 19]), ([20, 17], [17, 20]), ([17], [17]), ([17], [17]), ([23, 17], [17, 23]), ([22, 24, 17], [17, 22, 24]), ([25, 17], [17, 25]), ([21, 26, 17], [17, 21, 26]), ([17, 27, 14], [14, 17, 27]), ([14, 28], [14, 28]), ([29, 17], [29]), ([30], [30]), ([30], [30]), ([30], [30]), ([32, 33, 30], [30, 32, 33]), ([34, 30], [30, 34]), ([31, 35, 30], [30, 31, 35]), ([36, 30], [30, 36]), ([30], [30]), ([37, 38, 30, 30], [30, 37, 38]), ([39, 30], [30, 39]), ([30, 40], [30, 40])])
def mosaiclaw09_OuterEach.B26 : List Nat := [0, 0, 3, 7, 15, 31, 63, 63, 255, 511, 63, 1087, 4095, 8191, 16383, 32767, 65535, 131071, 262143, 262143, 1048575, 2097151, 262143, 262143, 8650751, 29622271, 63176703, 134217727, 268435455, 536870911, 1073741823, 2147483647, 2147483647, 2147483647, 15032385535, 32212254719, 68719476735, 137438953471, 2147483647, 549755813887, 1099511627775, 2199023255551]
theorem mosaiclaw09_OuterEach.tab26 : rtab .any (opsOf Try.f3 26) = mosaiclaw09_OuterEach.T26 := by kernel_rfl
theorem mosaiclaw09_OuterEach.bits26 : waitsOk mosaiclaw09_OuterEach.T26.2 mosaiclaw09_OuterEach.B26 = true := by kernel_rfl
set_option maxHeartbeats 8000000 in
set_option maxRecDepth 100000 in
theorem mosaiclaw09_OuterEach.calls (k : Nat) (a0_0 : Int) (a0_1 : Int) (a0_2 : Int) (a0_3 : Int) (r : Bool) (w : World) (h : mosaiclaw09_OuterEach.f k a0_0 a0_1 a0_2 a0_3 = some r) :
  Calls Try.prog 3 #[.agg #[.int .i64 a0_0, .int .i64 a0_1, .int .i64 a0_2, .int .i64 a0_3]] w fun e w' => e = .returned (.bool r) ∧ Below w.heap.size w w' := by
 have hu23 := Try.underlying23; have HB := Aside0.mk (Below.refl w.heap.size w)
 have H : ((outer_Rules.f k a0_0 a0_1 a0_2 a0_3).bind fun bt218 => (if bt218.2 = 0 then (mosaiclaw09_OuterEach.l0 k bt218.1 0 0 a0_0 a0_1 a0_2 a0_3) else ((mosaiclaw09_awake.f k).bind fun t222 => (if t222 = true then ((outer_Check.f a0_0 a0_1 a0_2 a0_3).bind fun t223 => (some (!t223))) else (some false))))) = some r := h
 clear h; replace H := Option.bind_eq_some_iff.mp H
 obtain ⟨⟨t218, t221⟩, A20, H⟩ := H
 replace H : (if t221 = 0 then (mosaiclaw09_OuterEach.l0 k t218 0 0 a0_0 a0_1 a0_2 a0_3) else ((mosaiclaw09_awake.f k).bind fun t222 => (if t222 = true then ((outer_Check.f a0_0 a0_1 a0_2 a0_3).bind fun t223 => (some (!t223))) else (some false)))) = some r := H
 have A2 := Aside0.mk A20
 clear A20; by_cases c3 : t221 = 0
 ·
  rw [if_pos c3] at H
  have c3b0 : (t221 == 0) = true := beq_iff_eq.mpr c3
  have c3b1 : (t221 != 0) = false := bne_eq_false_iff_eq.mpr c3
  clear c3; have H' := Aside0.mk H
  clear H; go_enter Try.func3, Try.ntmps3
  go_wp2_with (first | ((with_reducible refine gate_dst (N := 1) rfl ?_); (try (refine gate_guard (by rfl) ?_; dsimp only)); refine box_event ?hg (N := 1) ?hd (cs := #[.int .i64 a0_0, .int .i64 a0_1, .int .i64 a0_2, .int .i64 a0_3]) (t := 23) ?hr ?_; (case hd => rfl); (case hg => rfl); (case hr => first | (go_simp; done) | (go_simp; rfl)); intro gb217 hg w4 hbox hb; have n0_ := Aside0.mk (below_step (by repeat (first | (with_reducible first | exact HB.out | apply below_alloc | apply pw_below_drewN | apply below_drew1) | exact HB.out)) hb); have n1_ := Aside0.mk (hbox); have n2_ := Aside0.mk ((by rw [hg]; exact (below_size (by repeat (first | (with_reducible first | exact HB.out | apply below_alloc | apply pw_below_drewN | apply below_drew1) | exact HB.out))) : w.heap.size ≤ gb217)); have n3_ := Aside0.mk ((by rw [hg]; exact (below_size (by repeat (first | (with_reducible first | exact HB.out | apply below_alloc | apply pw_below_drewN | apply below_drew1) | exact HB.out))) : w.heap.size ≤ gb217)); clear HB; have HB := n0_; have BK217 := n1_; have GW217 := n2_; have GE217 := n3_; clear n0_ n1_ n2_ n3_; clear hb hbox hg; have hcz5_0 : w4.cell? ⟨gb217, 0, none⟩ = some (.int .i64 a0_0) := (blk_cell BK217.out 0).trans rfl; have hcz5_1 : w4.cell? ⟨gb217, 1, none⟩ = some (.int .i64 a0_1) := (blk_cell BK217.out 1).trans rfl; have hcz5_2 : w4.cell? ⟨gb217, 2, none⟩ = some (.int .i64 a0_2) := (blk_cell BK217.out 2).trans rfl; have hcz5_3 : w4.cell? ⟨gb217, 3, none⟩ = some (.int .i64 a0_3) := (blk_cell BK217.out 3).trans rfl; have hfz5_0 := blk_frozen BK217.out 0; have hfz5_1 := blk_frozen BK217.out 1; have hfz5_2 := blk_frozen BK217.out 2; have hfz5_3 := blk_frozen BK217.out 3) | ((with_reducible refine gate_callee (f := 6) rfl ?_); refine goesL_ (some 15) rfl rfl Try.func6 (by kernel_rfl) rfl #[.agg #[.int .i64 a0_0, .int .i64 a0_1, .int .i64 a0_2, .int .i64 a0_3]] rfl (by (try simp only [List.map_toArray, List.map_cons, List.map_nil]); first | done | rfl | (simp only [List.length_drop, List.length_take]; rfl)) ?_; (with_reducible refine (outer_Rules.calls k a0_0 a0_1 a0_2 a0_3 t218 t221 _ A2.out).mono ?_); rintro e w6 ⟨v219, rfl, ho0, hb⟩; refine ⟨_, rfl, ?_⟩; have n0_ := Aside0.mk (Kd.S_lower ho0 (below_size (by repeat (first | (with_reducible first | exact HB.out | apply below_alloc | apply pw_below_drewN | apply below_drew1 | refine below_set ?_ GE217.out) | exact HB.out)))); have n1_ := Aside0.mk (blk_below (g := gb217) (o := .cells #[.int .i64 a0_0, .int .i64 a0_1, .int .i64 a0_2, .int .i64 a0_3] 23 (0, 0)) (by (with_reducible repeat (first | refine blk_drewN ?_ _ | refine blk_drew ?_ | refine blk_alloc ?_ _)); exact BK217.out) hb); have n2_ := Aside0.mk (below_step (by repeat (first | (with_reducible first | exact HB.out | apply below_alloc | apply pw_below_drewN | apply below_drew1 | refine below_set ?_ GE217.out) | exact HB.out)) hb); clear BK217; clear HB; have HO220 := n0_; have BK217 := n1_; have HB := n2_; clear n0_ n1_ n2_; (try clear hb); (try clear hb2); (try clear hk); (try clear hi); (try clear ho0)))
  go_loopg [5, 6] k (fun kq v5 v6 w' => ∃ (x5_1 : Int) (x6_1 : Int), v5 = .int .i64 x5_1 ∧ v6 = .int .i64 x6_1 ∧ Aside0 (mosaiclaw09_OuterEach.l0 kq t218 x5_1 x6_1 a0_0 a0_1 a0_2 a0_3 = some r) ∧ Aside0 (kq ≤ k) ∧ Aside0 (Kd.S (Kd.slice 3 (Kd.int .i64)) 30 w' w.heap.size (fun _ => True) v219 t218) ∧ Aside0 (w'.heap[gb217]? = some (.cells #[.int .i64 a0_0, .int .i64 a0_1, .int .i64 a0_2, .int .i64 a0_3] 23 (0, 0))) ∧ Aside0 (Below w.heap.size w w'))
  case atStart => exact ⟨(0), (0), (by first | rfl | (simp; done) | (simp [*]; done)), (by first | rfl | (simp; done) | (simp [*]; done)), H', ⟨Nat.le_refl _⟩, ⟨by (with_reducible repeat (first | apply Kd.S_alloc | apply Kd.S_drewN | apply Kd.S_drew)); exact HO220.out⟩, ⟨by (with_reducible repeat (first | refine blk_drewN ?_ _ | refine blk_drew ?_ | refine blk_alloc ?_ _)); exact BK217.out⟩, ⟨by repeat (first | (with_reducible first | exact HB.out | apply below_alloc | apply pw_below_drewN | apply below_drew1 | refine below_set ?_ GE217.out) | exact HB.out)⟩⟩
  case round =>
   clear H'
   (try clear p2); (try clear c3); (try clear c3b0); (try clear c3b1); (try clear c6); (try clear hcz5_0); (try clear hcz5_1); (try clear hcz5_2); (try clear hcz5_3); (try clear hfz5_0); (try clear hfz5_1); (try clear hfz5_2); (try clear hfz5_3); obtain ⟨x5_1, x6_1, rfl, rfl, HA, HK1, HO_3, BK217, HB⟩ := hrel
   cases gk with
   | zero => exact absurd HA.out (by simp [mosaiclaw09_OuterEach.l0])
   | succ k1 =>
    have H := HA.out; clear HA; simp only [mosaiclaw09_OuterEach.l0] at H
    by_cases c7 : x6_1 < (t218.length : Int)
    ·
     rw [if_pos c7] at H
     have c7b0 : decide (x6_1 < (t218.length : Int)) = true := decide_eq_true c7
     clear c7; by_cases c8 : 0 ≤ x6_1
     ·
      rw [if_pos c8] at H
      have c8b0 : decide (0 ≤ x6_1) = true := decide_eq_true c8
      clear c8; by_cases c9 : ((rd_L3 t218 x6_1).length : Int) = 0
      ·
       rw [if_pos c9] at H
       have c9b0 : (((rd_L3 t218 x6_1).length : Int) == 0) = true := beq_iff_eq.mpr c9
       have c9b1 : (((rd_L3 t218 x6_1).length : Int) != 0) = false := bne_eq_false_iff_eq.mpr c9
       clear c9; obtain rfl := Option.some.inj H
       obtain ⟨Ao10, co10, eo10⟩ := Kd.S_slice HO_3.out
       subst eo10
       have p224 : 0 ≤ (x6_1 : Int) := of_decide_eq_true (by first | (with_reducible assumption) | assumption)
       have q224 : x6_1 < (t218.length : Int) := of_decide_eq_true (by first | (with_reducible assumption) | assumption)
       obtain ⟨ad224, A224_0, c224_0, e224, hx224_0, hl224_0, hi224_0⟩ := at_L3 (Kd.S_reads' HO_3.out).2.2 x6_1 p224 q224
       cases e224
       obtain ⟨ce224, hce224, hMe224, hcc224⟩ := Kd.S_get HO_3.out [] x6_1 p224 (by first | exact q224 | exact of_decide_eq_true (by first | (with_reducible assumption) | assumption) | (have e_ := (Kd.S_reads' HO_3.out).1; omega))
       obtain ⟨ve224_0, rfl, ge224_0⟩ := hMe224
       have hv224_0 := hcc224 0 _ rfl
       rw [Nat.add_zero, show ((Kd.slice 3 (Kd.int .i64))).sz = 1 from rfl, Nat.mul_one] at hv224_0
       replace hv224_0 := Option.some.inj (hv224_0.symm.trans hx224_0)
       rw [hv224_0] at ge224_0
       have HL224_0 := Aside0.mk (show Kd.R (Kd.int .i64) 3 _ _ _ _ (rd_L3 t218 x6_1) from ge224_0)
       clear hv224_0 ge224_0 hcc224 hce224; have HR224_0 := Aside0.mk hi224_0
       have HC224_0 := Aside0.mk hl224_0
       clear hi224_0 hl224_0; replace p224 := eq_true p224
       replace q224 := eq_true q224
       try go_wp2
       have n0_ := Aside0.mk (Kd.S_drew HO_3.out)
       have n1_ := Aside0.mk (Kd.R_drew HL224_0.out)
       have n2_ := Aside0.mk (blk_drew BK217.out)
       have n3_ := Aside0.mk (Kd.C_drew HR224_0.out)
       have n4_ := Aside0.mk (below_drew1 HB.out)
       clear HO_3 HL224_0 BK217 HR224_0 HB; have HO_3 := n0_; have HL224_0 := n1_; have BK217 := n2_; have HR224_0 := n3_; have HB := n4_; clear n0_ n1_ n2_ n3_ n4_; refine start_ (n := 16) (S := fun w' => True) (ds := []) (mkB3 16 0) (by kernel_rfl) rfl rfl trivial (fun hHeld => ?_); refine with_tabW mosaiclaw09_OuterEach.tab9 mosaiclaw09_OuterEach.bits9 (fun HT_ HW_ => ?_)
       generalize wr.drew = w11 at HO_3 HL224_0 BK217 HR224_0 HB hHeld ⊢
       refine pT (v := ?_) (a' := ?_) HT_ 0 (some 36) (mkB3 16 1) ?_ ?_ ?_; rotate_left 2; (intro w'; go_simp; with_reducible rfl); (simp only [Act.put, qA, qB, qC, i64_w, i32_w]; rfl)
       refine pT (v := ?_) (a' := ?_) HT_ 1 (some 37) (mkB3 16 3) ?_ ?_ ?_; rotate_left 2; (intro w'; go_simp; with_reducible rfl); (simp only [Act.put, qA, qB, qC, i64_w, i32_w]; rfl)
       refine pT (v := ?_) (a' := ?_) HT_ 2 (some 38) (mkB3 16 7) ?_ ?_ ?_; rotate_left 2; (intro w'; go_simp; with_reducible rfl); (simp only [Act.put, qA, qB, qC, i64_w, i32_w]; rfl)
       refine pT (v := ?_) (a' := ?_) HT_ 3 (some 39) (mkB3 16 15) ?_ ?_ ?_; rotate_left 2; (intro w'; go_simp; with_reducible rfl); (simp only [Act.put, qA, qB, qC, i64_w, i32_w]; rfl)
       refine nT (a' := ?_) HT_ 4 (some 40) (mkB3 16 31) ?_ ?_; rotate_left; (simp only [Act.put, qA, qB, qC, i64_w, i32_w]; rfl)
       refine nT (a' := ?_) HT_ 5 (some 41) (mkB3 16 63) ?_ ?_; rotate_left; (simp only [Act.put, qA, qB, qC, i64_w, i32_w]; rfl)
       refine nT (a' := ?_) HT_ 6 (some 42) (mkB3 16 127) ?_ ?_; rotate_left; (simp only [Act.put, qA, qB, qC, i64_w, i32_w]; rfl)
       refine nT (a' := ?_) HT_ 7 (some 43) (mkB3 16 255) ?_ ?_; rotate_left; (simp only [Act.put, qA, qB, qC, i64_w, i32_w]; rfl)
       refine nT (a' := ?_) HT_ 8 (some 44) (mkB3 16 511) ?_ ?_; rotate_left; (simp only [Act.put, qA, qB, qC, i64_w, i32_w]; rfl)
       refine nT (a' := ?_) HT_ 9 (some 45) (mkB3 16 1023) ?_ ?_; rotate_left; (simp only [Act.put, qA, qB, qC, i64_w, i32_w]; rfl)
       refine nT (a' := ?_) HT_ 10 (some 46) (mkB3 16 2047) ?_ ?_; rotate_left; (simp only [Act.put, qA, qB, qC, i64_w, i32_w]; rfl)
       refine nT (a' := ?_) HT_ 11 (some 47) (mkB3 16 4095) ?_ ?_; rotate_left; (simp only [Act.put, qA, qB, qC, i64_w, i32_w]; rfl)
       refine nT (a' := ?_) HT_ 12 (some 48) (mkB3 16 8191) ?_ ?_; rotate_left; (simp only [Act.put, qA, qB, qC, i64_w, i32_w]; rfl)
       refine nT (a' := ?_) HT_ 13 (some 49) (mkB3 16 16383) ?_ ?_; rotate_left; (simp only [Act.put, qA, qB, qC, i64_w, i32_w]; rfl)
       refine nT (a' := ?_) HT_ 14 (some 50) (mkB3 16 32767) ?_ ?_; rotate_left; (simp only [Act.put, qA, qB, qC, i64_w, i32_w]; rfl)
       refine pT (v := ?_) (a' := ?_) HT_ 15 (some 51) (mkB3 16 65535) ?_ ?_ ?_; rotate_left 2; (intro w'; go_simp; with_reducible rfl); (simp only [Act.put, qA, qB, qC, i64_w, i32_w]; rfl)
       refine done_ (done_of HT_.out (by kernel_rfl)) ?_
       try go_wp2
       go_ret
       exact ⟨by first | rfl | (simp [errW_none, errW_some] <;> rfl) | (simp [*, errW_none, errW_some] <;> rfl), by repeat (first | (with_reducible first | exact HB.out | apply below_alloc | apply pw_below_drewN | apply below_drew1 | refine below_set ?_ GE217.out) | exact HB.out)⟩
      ·
       rw [if_neg c9] at H
       have c9b0 : (((rd_L3 t218 x6_1).length : Int) == 0) = false := beq_eq_false_iff_ne.mpr c9
       have c9b1 : (((rd_L3 t218 x6_1).length : Int) != 0) = true := bne_iff_ne.mpr c9
       have c9b2 : ¬ ((rd_L3 t218 x6_1) = []) := fun h_ => c9 (by rw [h_]; rfl)
       obtain ⟨ji12, hji12⟩ : ∃ j_ : Int, (wrap64 (((rd_L3 t218 x6_1).length : Int) - 1)) = j_ := ⟨_, rfl⟩
       replace H : (if 0 ≤ (ji12) then (if (ji12) < ((rd_L3 t218 x6_1).length : Int) then (if (rd (rd_L3 t218 x6_1) (ji12)) = (wrap64 (a0_1 + x6_1)) then (mosaiclaw09_OuterEach.l1 k1 t218 (wrap64 ((wrap64 (x5_1 + ((rd_L3 t218 x6_1).length : Int))) - 1)) x6_1 (rd_L3 t218 x6_1) 0 a0_0 a0_1 a0_2 a0_3) else (some false)) else (none)) else (none)) = some r := by first | (rw [hji12] at H; exact H) | (simp only [hji12] at H ⊢; exact H)
       have hji12w : (IntKind.i64.wrap (((rd_L3 t218 x6_1).length : Int) - 1)) = ji12 := (i64_w _).trans hji12
       by_cases c13 : 0 ≤ (ji12)
       ·
        rw [if_pos c13] at H
        have c13b0 : decide (0 ≤ (ji12)) = true := decide_eq_true c13
        clear c13; by_cases c14 : (ji12) < ((rd_L3 t218 x6_1).length : Int)
        ·
         rw [if_pos c14] at H
         have c14b0 : decide ((ji12) < ((rd_L3 t218 x6_1).length : Int)) = true := decide_eq_true c14
         clear c14; by_cases c15 : (rd (rd_L3 t218 x6_1) (ji12)) = (wrap64 (a0_1 + x6_1))
         ·
          rw [if_pos c15] at H
          have c15b0 : ((rd (rd_L3 t218 x6_1) (ji12)) == (wrap64 (a0_1 + x6_1))) = true := beq_iff_eq.mpr c15
          have c15b1 : ((rd (rd_L3 t218 x6_1) (ji12)) != (wrap64 (a0_1 + x6_1))) = false := bne_eq_false_iff_eq.mpr c15
          clear c15; have H' := Aside0.mk H
          clear H; obtain ⟨Ao16, co16, eo16⟩ := Kd.S_slice HO_3.out
          subst eo16
          have p224 : 0 ≤ (x6_1 : Int) := of_decide_eq_true (by first | (with_reducible assumption) | assumption)
          have q224 : x6_1 < (t218.length : Int) := of_decide_eq_true (by first | (with_reducible assumption) | assumption)
          obtain ⟨ad224, A224_0, c224_0, e224, hx224_0, hl224_0, hi224_0⟩ := at_L3 (Kd.S_reads' HO_3.out).2.2 x6_1 p224 q224
          cases e224
          obtain ⟨ce224, hce224, hMe224, hcc224⟩ := Kd.S_get HO_3.out [] x6_1 p224 (by first | exact q224 | exact of_decide_eq_true (by first | (with_reducible assumption) | assumption) | (have e_ := (Kd.S_reads' HO_3.out).1; omega))
          obtain ⟨ve224_0, rfl, ge224_0⟩ := hMe224
          have hv224_0 := hcc224 0 _ rfl
          rw [Nat.add_zero, show ((Kd.slice 3 (Kd.int .i64))).sz = 1 from rfl, Nat.mul_one] at hv224_0
          replace hv224_0 := Option.some.inj (hv224_0.symm.trans hx224_0)
          rw [hv224_0] at ge224_0
          have HL224_0 := Aside0.mk (show Kd.R (Kd.int .i64) 3 _ _ _ _ (rd_L3 t218 x6_1) from ge224_0)
          clear hv224_0 ge224_0 hcc224 hce224; have HR224_0 := Aside0.mk hi224_0
          have HC224_0 := Aside0.mk hl224_0
          clear hi224_0 hl224_0; replace p224 := eq_true p224
          replace q224 := eq_true q224
          try go_wp2
          have n0_ := Aside0.mk (Kd.S_drew HO_3.out)
          have n1_ := Aside0.mk (Kd.R_drew HL224_0.out)
          have n2_ := Aside0.mk (blk_drew BK217.out)
          have n3_ := Aside0.mk (Kd.C_drew HR224_0.out)
          have n4_ := Aside0.mk (below_drew1 HB.out)
          clear HO_3 HL224_0 BK217 HR224_0 HB; have HO_3 := n0_; have HL224_0 := n1_; have BK217 := n2_; have HR224_0 := n3_; have HB := n4_; clear n0_ n1_ n2_ n3_ n4_; have p225 : 0 ≤ ((ji12) : Int) := of_decide_eq_true (by first | (with_reducible assumption) | assumption)
          have q225 : (ji12) < ((rd_L3 t218 x6_1).length : Int) := of_decide_eq_true (by first | (with_reducible assumption) | assumption)
          obtain ⟨ad225, e225, hx225_0⟩ := Kd.at_int (by repeat (first | (with_reducible exact HR224_0.out) | (with_reducible refine Kd.C_alloc ?_ _) | (with_reducible refine Kd.C_drewN ?_ _) | (with_reducible refine Kd.C_drew ?_) | exact HR224_0.out)) (ji12) p225 q225
          cases e225
          replace p225 := eq_true p225
          replace q225 := eq_true q225
          refine start_ (n := 16) (S := fun w' => w'.cell? ⟨gb217, 0, none⟩ = some (.int .i64 a0_0) ∧ w'.cell? ⟨gb217, 1, none⟩ = some (.int .i64 a0_1) ∧ w'.cell? ⟨gb217, 2, none⟩ = some (.int .i64 a0_2) ∧ w'.cell? ⟨gb217, 3, none⟩ = some (.int .i64 a0_3) ∧ w'.cell? (ad225.add ((ji12)).toNat) = some (.int .i64 (rd (rd_L3 t218 x6_1) (ji12)))) (ds := []) (mkB3 16 0) (by kernel_rfl) rfl rfl ⟨(blk_cell BK217.out 0).trans rfl, (blk_cell BK217.out 1).trans rfl, (blk_cell BK217.out 2).trans rfl, (blk_cell BK217.out 3).trans rfl, hx225_0⟩ (fun hHeld => ?_); refine with_tabW mosaiclaw09_OuterEach.tab9 mosaiclaw09_OuterEach.bits9 (fun HT_ HW_ => ?_)
          generalize wr.drew = w17 at HO_3 HL224_0 BK217 HR224_0 HB hx225_0 hHeld ⊢
          refine pT (v := ?_) (a' := ?_) HT_ 0 (some 36) (mkB3 16 1) ?_ ?_ ?_; rotate_left 2; (intro w'; go_simp; with_reducible rfl); (simp only [Act.put, qA, qB, qC, i64_w, i32_w]; rfl)
          refine pT (v := ?_) (a' := ?_) HT_ 1 (some 37) (mkB3 16 3) ?_ ?_ ?_; rotate_left 2; (intro w'; go_simp; with_reducible rfl); (simp only [Act.put, qA, qB, qC, i64_w, i32_w]; rfl)
          refine pT (v := ?_) (a' := ?_) HT_ 2 (some 38) (mkB3 16 7) ?_ ?_ ?_; rotate_left 2; (intro w'; go_simp; with_reducible rfl); (simp only [Act.put, qA, qB, qC, i64_w, i32_w]; rfl)
          refine pT (v := ?_) (a' := ?_) HT_ 3 (some 39) (mkB3 16 15) ?_ ?_ ?_; rotate_left 2; (intro w'; go_simp; with_reducible rfl); (simp only [Act.put, qA, qB, qC, i64_w, i32_w]; rfl)
          refine pT (v := ?_) (a' := ?_) HT_ 4 (some 40) (mkB3 16 31) ?_ ?_ ?_; rotate_left 2; (intro w'; go_simp; with_reducible rfl); (simp only [Act.put, qA, qB, qC, i64_w, i32_w]; rfl)
          refine pT (v := ?_) (a' := ?_) HT_ 5 (some 41) (mkB3 16 63) ?_ ?_ ?_; rotate_left 2; (intro w'; go_simp; with_reducible rfl); (simp only [Act.put, qA, qB, qC, i64_w, i32_w]; rfl)
          refine pT (v := ?_) (a' := ?_) HT_ 6 (some 42) (mkB3 16 127) ?_ ?_ ?_; rotate_left 2; (intro w'; go_simp; with_reducible rfl); (simp only [Act.put, qA, qB, qC, i64_w, i32_w]; rfl)
          refine pT (v := ?_) (a' := ?_) HT_ 7 (some 43) (mkB3 16 255) ?_ ?_ ?_; rotate_left 2; (intro w'; go_simp; with_reducible rfl); (simp only [Act.put, qA, qB, qC, i64_w, i32_w]; rfl)
          refine pT (v := ?_) (a' := ?_) HT_ 8 (some 44) (mkB3 16 511) ?_ ?_ ?_; rotate_left 2; (intro w'; go_simp; with_reducible rfl); (simp only [Act.put, qA, qB, qC, i64_w, i32_w]; rfl)
          refine pT (v := ?_) (a' := ?_) HT_ 10 (some 46) (mkB3 16 1535) ?_ ?_ ?_; rotate_left 2; (intro w'; go_simp; with_reducible rfl); (simp only [Act.put, qA, qB, qC, i64_w, i32_w]; rfl)
          refine pT (v := ?_) (a' := ?_) HT_ 12 (some 48) (mkB3 16 5631) ?_ ?_ ?_; rotate_left 2; (intro w'; go_simp; with_reducible rfl); (simp only [Act.put, qA, qB, qC, i64_w, i32_w]; rfl)
          refine tT (v := ?_) (a' := ?_) HT_ HW_ hHeld 9 (some 45) (mkB3 16 6143) ?_ ?_ ?_; rotate_left 2; (rintro w' ⟨s0, s1, s2, s3, s4⟩; go_simp; with_reducible rfl); (simp only [Act.put, qA, qB, qC, i64_w, i32_w]; rfl)
          refine tT (v := ?_) (a' := ?_) HT_ HW_ hHeld 11 (some 47) (mkB3 16 8191) ?_ ?_ ?_; rotate_left 2; (rintro w' ⟨s0, s1, s2, s3, s4⟩; go_simp; with_reducible rfl); (simp only [Act.put, qA, qB, qC, i64_w, i32_w]; rfl)
          refine pT (v := ?_) (a' := ?_) HT_ 13 (some 49) (mkB3 16 16383) ?_ ?_ ?_; rotate_left 2; (intro w'; go_simp; with_reducible rfl); (simp only [Act.put, qA, qB, qC, i64_w, i32_w]; rfl)
          refine pT (v := ?_) (a' := ?_) HT_ 14 (some 50) (mkB3 16 32767) ?_ ?_ ?_; rotate_left 2; (intro w'; go_simp; with_reducible rfl); (simp only [Act.put, qA, qB, qC, i64_w, i32_w]; rfl)
          refine pT (v := ?_) (a' := ?_) HT_ 15 (some 51) (mkB3 16 65535) ?_ ?_ ?_; rotate_left 2; (intro w'; go_simp; with_reducible rfl); (simp only [Act.put, qA, qB, qC, i64_w, i32_w]; rfl)
          refine done_ (done_of HT_.out (by kernel_rfl)) ?_
          try go_wp2
          go_loopg [8] k1 (fun kq v8 w' => ∃ (x8_2 : Int), v8 = .int .i64 x8_2 ∧ Aside0 (mosaiclaw09_OuterEach.l1 kq t218 (wrap64 ((wrap64 (x5_1 + ((rd_L3 t218 x6_1).length : Int))) - 1)) x6_1 (rd_L3 t218 x6_1) x8_2 a0_0 a0_1 a0_2 a0_3 = some r) ∧ Aside0 (kq ≤ k1) ∧ Aside0 (Kd.S (Kd.slice 3 (Kd.int .i64)) 30 w' w.heap.size (fun _ => True) (.slice (some ad224) t218.length co16) t218) ∧ Aside0 (w'.heap[gb217]? = some (.cells #[.int .i64 a0_0, .int .i64 a0_1, .int .i64 a0_2, .int .i64 a0_3] 23 (0, 0))) ∧ Aside0 (Kd.C (Kd.int .i64) w' (some ad225) (rd_L3 t218 x6_1).length (rd_L3 t218 x6_1)) ∧ Aside0 (Below w.heap.size w w'))
          case atStart => exact ⟨(0), (by first | rfl | (simp; done) | (simp [*]; done)), H', ⟨Nat.le_refl _⟩, ⟨by (with_reducible repeat (first | apply Kd.S_alloc | apply Kd.S_drewN | apply Kd.S_drew)); exact HO_3.out⟩, ⟨by (with_reducible repeat (first | refine blk_drewN ?_ _ | refine blk_drew ?_ | refine blk_alloc ?_ _)); exact BK217.out⟩, ⟨by repeat (first | (with_reducible exact HR224_0.out) | (with_reducible refine Kd.C_alloc ?_ _) | (with_reducible refine Kd.C_drewN ?_ _) | (with_reducible refine Kd.C_drew ?_) | exact HR224_0.out)⟩, ⟨by repeat (first | (with_reducible first | exact HB.out | apply below_alloc | apply pw_below_drewN | apply below_drew1 | refine below_set ?_ GE217.out) | exact HB.out)⟩⟩
          case round =>
           clear H'
           (try clear c1); (try clear c2); (try clear p2); (try clear q2); (try clear hx2); (try clear c3); (try clear c3b0); (try clear c3b1); (try clear c6); (try clear p6); (try clear c7); (try clear c7b0); (try clear c8); (try clear c8b0); (try clear c9); (try clear c9b0); (try clear c9b1); (try clear c9b2); (try clear c13); (try clear c13b0); (try clear c14); (try clear c14b0); (try clear c15); (try clear c15b0); (try clear c15b1); (try clear hcz5_0); (try clear hcz5_1); (try clear hcz5_2); (try clear hcz5_3); (try clear hfz5_0); (try clear hfz5_1); (try clear hfz5_2); (try clear hfz5_3); (try clear hx224_0); (try clear hx225_0); (try clear p2); (try clear p224); (try clear p225); (try clear q224); (try clear q225); obtain ⟨x8_2, rfl, HA, HK2, HO_3, BK217, HR224_0, HB⟩ := hrel
           cases gk with
           | zero => exact absurd HA.out (by simp [mosaiclaw09_OuterEach.l1])
           | succ k2 =>
            have H := HA.out; clear HA; simp only [mosaiclaw09_OuterEach.l1] at H
            by_cases c18 : (wrap64 (x8_2 + 1)) < ((rd_L3 t218 x6_1).length : Int)
            ·
             rw [if_pos c18] at H
             have c18b0 : decide ((wrap64 (x8_2 + 1)) < ((rd_L3 t218 x6_1).length : Int)) = true := decide_eq_true c18
             clear c18; by_cases c19 : 0 ≤ x8_2
             ·
              rw [if_pos c19] at H
              have c19b0 : decide (0 ≤ x8_2) = true := decide_eq_true c19
              clear c19; by_cases c20 : x8_2 < ((rd_L3 t218 x6_1).length : Int)
              ·
               rw [if_pos c20] at H
               have c20b0 : decide (x8_2 < ((rd_L3 t218 x6_1).length : Int)) = true := decide_eq_true c20
               clear c20; by_cases c21 : (rd (rd_L3 t218 x6_1) x8_2) < 0
               ·
                rw [if_pos c21] at H
                have c21b0 : decide ((rd (rd_L3 t218 x6_1) x8_2) < 0) = true := decide_eq_true c21
                clear c21; obtain rfl := Option.some.inj H
                try go_wp2
                have n0_ := Aside0.mk (Kd.S_drew HO_3.out)
                have n1_ := Aside0.mk (blk_drew BK217.out)
                have n2_ := Aside0.mk (Kd.C_drew HR224_0.out)
                have n3_ := Aside0.mk (below_drew1 HB.out)
                clear HO_3 BK217 HR224_0 HB; have HO_3 := n0_; have BK217 := n1_; have HR224_0 := n2_; have HB := n3_; clear n0_ n1_ n2_ n3_; have p226 : 0 ≤ (x8_2 : Int) := of_decide_eq_true (by first | (with_reducible assumption) | assumption)
                have q226 : x8_2 < ((rd_L3 t218 x6_1).length : Int) := of_decide_eq_true (by first | (with_reducible assumption) | assumption)
                obtain ⟨ad226, e226, hx226_0⟩ := Kd.at_int HR224_0.out x8_2 p226 q226
                have hw226_0 := hx226_0; obtain rfl : ad225 = ad226 := (by injection e226)
                (try replace hx226_0 := (HB.out.cell (World.block_lt_of_cell? w _ hx226_0)).trans hx226_0)
                replace p226 := eq_true p226
                replace q226 := eq_true q226
                refine start_ (n := 30) (S := fun w' => w'.cell? (ad225.add (x8_2).toNat) = some (.int .i64 (rd (rd_L3 t218 x6_1) x8_2))) (ds := []) (mkB3 30 0) (by kernel_rfl) rfl rfl ((by first | exact (HB.out.cell (World.block_lt_of_cell? w _ hw226_0)).trans hw226_0 | exact hw226_0)) (fun hHeld => ?_); refine with_tabW mosaiclaw09_OuterEach.tab15 mosaiclaw09_OuterEach.bits15 (fun HT_ HW_ => ?_)
                generalize wr.drew = w22 at HO_3 BK217 HR224_0 HB hx226_0 hHeld ⊢
                refine pT (v := ?_) (a' := ?_) HT_ 0 (some 64) (mkB3 30 1) ?_ ?_ ?_; rotate_left 2; (intro w'; go_simp; with_reducible rfl); (simp only [Act.put, qA, qB, qC, i64_w, i32_w]; rfl)
                refine pT (v := ?_) (a' := ?_) HT_ 1 (some 65) (mkB3 30 3) ?_ ?_ ?_; rotate_left 2; (intro w'; go_simp; with_reducible rfl); (simp only [Act.put, qA, qB, qC, i64_w, i32_w]; rfl)
                refine pT (v := ?_) (a' := ?_) HT_ 2 (some 66) (mkB3 30 7) ?_ ?_ ?_; rotate_left 2; (intro w'; go_simp; with_reducible rfl); (simp only [Act.put, qA, qB, qC, i64_w, i32_w]; rfl)
                refine tT (v := ?_) (a' := ?_) HT_ HW_ hHeld 3 (some 67) (mkB3 30 15) ?_ ?_ ?_; rotate_left 2; (intro w' s0; go_simp; with_reducible rfl); (simp only [Act.put, qA, qB, qC, i64_w, i32_w]; rfl)
                refine pT (v := ?_) (a' := ?_) HT_ 4 (some 68) (mkB3 30 31) ?_ ?_ ?_; rotate_left 2; (intro w'; go_simp; with_reducible rfl); (simp only [Act.put, qA, qB, qC, i64_w, i32_w]; rfl)
                refine pT (v := ?_) (a' := ?_) HT_ 5 (some 69) (mkB3 30 63) ?_ ?_ ?_; rotate_left 2; (intro w'; go_simp; with_reducible rfl); (simp only [Act.put, qA, qB, qC, i64_w, i32_w]; rfl)
                refine nT (a' := ?_) HT_ 6 (some 70) (mkB3 30 127) ?_ ?_; rotate_left; (simp only [Act.put, qA, qB, qC, i64_w, i32_w]; rfl)
                refine nT (a' := ?_) HT_ 7 (some 71) (mkB3 30 255) ?_ ?_; rotate_left; (simp only [Act.put, qA, qB, qC, i64_w, i32_w]; rfl)
                refine nT (a' := ?_) HT_ 8 (some 72) (mkB3 30 511) ?_ ?_; rotate_left; (simp only [Act.put, qA, qB, qC, i64_w, i32_w]; rfl)
                refine nT (a' := ?_) HT_ 9 (some 73) (mkB3 30 1023) ?_ ?_; rotate_left; (simp only [Act.put, qA, qB, qC, i64_w, i32_w]; rfl)
                refine nT (a' := ?_) HT_ 10 (some 74) (mkB3 30 2047) ?_ ?_; rotate_left; (simp only [Act.put, qA, qB, qC, i64_w, i32_w]; rfl)
                refine nT (a' := ?_) HT_ 11 (some 75) (mkB3 30 4095) ?_ ?_; rotate_left; (simp only [Act.put, qA, qB, qC, i64_w, i32_w]; rfl)
                refine nT (a' := ?_) HT_ 12 (some 76) (mkB3 30 8191) ?_ ?_; rotate_left; (simp only [Act.put, qA, qB, qC, i64_w, i32_w]; rfl)
                refine pT (v := ?_) (a' := ?_) HT_ 13 (some 77) (mkB3 30 16383) ?_ ?_ ?_; rotate_left 2; (intro w'; go_simp; with_reducible rfl); (simp only [Act.put, qA, qB, qC, i64_w, i32_w]; rfl)
                refine pT (v := ?_) (a' := ?_) HT_ 14 (some 78) (mkB3 30 32767) ?_ ?_ ?_; rotate_left 2; (intro w'; go_simp; with_reducible rfl); (simp only [Act.put, qA, qB, qC, i64_w, i32_w]; rfl)
                refine nT (a' := ?_) HT_ 15 (some 79) (mkB3 30 65535) ?_ ?_; rotate_left; (simp only [Act.put, qA, qB, qC, i64_w, i32_w]; rfl)
                refine nT (a' := ?_) HT_ 16 (some 80) (mkB3 30 131071) ?_ ?_; rotate_left; (simp only [Act.put, qA, qB, qC, i64_w, i32_w]; rfl)
                refine nT (a' := ?_) HT_ 17 (some 81) (mkB3 30 262143) ?_ ?_; rotate_left; (simp only [Act.put, qA, qB, qC, i64_w, i32_w]; rfl)
                refine nT (a' := ?_) HT_ 18 (some 82) (mkB3 30 524287) ?_ ?_; rotate_left; (simp only [Act.put, qA, qB, qC, i64_w, i32_w]; rfl)
                refine nT (a' := ?_) HT_ 19 (some 83) (mkB3 30 1048575) ?_ ?_; rotate_left; (simp only [Act.put, qA, qB, qC, i64_w, i32_w]; rfl)
                refine nT (a' := ?_) HT_ 20 (some 84) (mkB3 30 2097151) ?_ ?_; rotate_left; (simp only [Act.put, qA, qB, qC, i64_w, i32_w]; rfl)
                refine nT (a' := ?_) HT_ 21 (some 85) (mkB3 30 4194303) ?_ ?_; rotate_left; (simp only [Act.put, qA, qB, qC, i64_w, i32_w]; rfl)
                refine nT (a' := ?_) HT_ 22 (some 86) (mkB3 30 8388607) ?_ ?_; rotate_left; (simp only [Act.put, qA, qB, qC, i64_w, i32_w]; rfl)
                refine nT (a' := ?_) HT_ 23 (some 87) (mkB3 30 16777215) ?_ ?_; rotate_left; (simp only [Act.put, qA, qB, qC, i64_w, i32_w]; rfl)
                refine nT (a' := ?_) HT_ 24 (some 88) (mkB3 30 33554431) ?_ ?_; rotate_left; (simp only [Act.put, qA, qB, qC, i64_w, i32_w]; rfl)
                refine nT (a' := ?_) HT_ 25 (some 89) (mkB3 30 67108863) ?_ ?_; rotate_left; (simp only [Act.put, qA, qB, qC, i64_w, i32_w]; rfl)
                refine nT (a' := ?_) HT_ 26 (some 90) (mkB3 30 134217727) ?_ ?_; rotate_left; (simp only [Act.put, qA, qB, qC, i64_w, i32_w]; rfl)
                refine nT (a' := ?_) HT_ 27 (some 91) (mkB3 30 268435455) ?_ ?_; rotate_left; (simp only [Act.put, qA, qB, qC, i64_w, i32_w]; rfl)
                refine nT (a' := ?_) HT_ 28 (some 92) (mkB3 30 536870911) ?_ ?_; rotate_left; (simp only [Act.put, qA, qB, qC, i64_w, i32_w]; rfl)
                refine pT (v := ?_) (a' := ?_) HT_ 29 (some 93) (mkB3 30 1073741823) ?_ ?_ ?_; rotate_left 2; (intro w'; go_simp; with_reducible rfl); (simp only [Act.put, qA, qB, qC, i64_w, i32_w]; rfl)
                refine done_ (done_of HT_.out (by kernel_rfl)) ?_
                try go_wp2
                go_ret
                exact ⟨by first | rfl | (simp [errW_none, errW_some] <;> rfl) | (simp only [← hji12]; first | rfl | (simp [errW_none, errW_some] <;> rfl)) | (simp [*, errW_none, errW_some] <;> rfl), by repeat (first | (with_reducible first | exact HB.out | apply below_alloc | apply pw_below_drewN | apply below_drew1 | refine below_set ?_ GE217.out) | exact HB.out)⟩
               ·
                rw [if_neg c21] at H
                have c21b0 : decide ((rd (rd_L3 t218 x6_1) x8_2) < 0) = false := decide_eq_false c21
                clear c21; by_cases c23 : (rd (rd_L3 t218 x6_1) x8_2) ≥ a0_1
                ·
                 rw [if_pos c23] at H
                 have c23b0 : decide (a0_1 ≤ (rd (rd_L3 t218 x6_1) x8_2)) = true := decide_eq_true c23
                 clear c23; obtain rfl := Option.some.inj H
                 try go_wp2
                 have n0_ := Aside0.mk (Kd.S_drew HO_3.out)
                 have n1_ := Aside0.mk (blk_drew BK217.out)
                 have n2_ := Aside0.mk (Kd.C_drew HR224_0.out)
                 have n3_ := Aside0.mk (below_drew1 HB.out)
                 clear HO_3 BK217 HR224_0 HB; have HO_3 := n0_; have BK217 := n1_; have HR224_0 := n2_; have HB := n3_; clear n0_ n1_ n2_ n3_; have p226 : 0 ≤ (x8_2 : Int) := of_decide_eq_true (by first | (with_reducible assumption) | assumption)
                 have q226 : x8_2 < ((rd_L3 t218 x6_1).length : Int) := of_decide_eq_true (by first | (with_reducible assumption) | assumption)
                 obtain ⟨ad226, e226, hx226_0⟩ := Kd.at_int HR224_0.out x8_2 p226 q226
                 have hw226_0 := hx226_0; obtain rfl : ad225 = ad226 := (by injection e226)
                 (try replace hx226_0 := (HB.out.cell (World.block_lt_of_cell? w _ hx226_0)).trans hx226_0)
                 replace p226 := eq_true p226
                 replace q226 := eq_true q226
                 have p227 : 0 ≤ (x8_2 : Int) := of_decide_eq_true (by first | (with_reducible assumption) | assumption)
                 have q227 : x8_2 < ((rd_L3 t218 x6_1).length : Int) := of_decide_eq_true (by first | (with_reducible assumption) | assumption)
                 obtain ⟨ad227, e227, hx227_0⟩ := Kd.at_int HR224_0.out x8_2 p227 q227
                 have hw227_0 := hx227_0; obtain rfl : ad225 = ad227 := (by injection e227)
                 (try replace hx227_0 := (HB.out.cell (World.block_lt_of_cell? w _ hx227_0)).trans hx227_0)
                 replace p227 := eq_true p227
                 replace q227 := eq_true q227
                 refine start_ (n := 30) (S := fun w' => w'.cell? ⟨gb217, 0, none⟩ = some (.int .i64 a0_0) ∧ w'.cell? ⟨gb217, 1, none⟩ = some (.int .i64 a0_1) ∧ w'.cell? ⟨gb217, 2, none⟩ = some (.int .i64 a0_2) ∧ w'.cell? ⟨gb217, 3, none⟩ = some (.int .i64 a0_3) ∧ w'.cell? (ad225.add (x8_2).toNat) = some (.int .i64 (rd (rd_L3 t218 x6_1) x8_2)) ∧ w'.cell? (ad225.add (x8_2).toNat) = some (.int .i64 (rd (rd_L3 t218 x6_1) x8_2))) (ds := []) (mkB3 30 0) (by kernel_rfl) rfl rfl ⟨(blk_cell BK217.out 0).trans rfl, (blk_cell BK217.out 1).trans rfl, (blk_cell BK217.out 2).trans rfl, (blk_cell BK217.out 3).trans rfl, (by first | exact (HB.out.cell (World.block_lt_of_cell? w _ hw226_0)).trans hw226_0 | exact hw226_0), (by first | exact (HB.out.cell (World.block_lt_of_cell? w _ hw227_0)).trans hw227_0 | exact hw227_0)⟩ (fun hHeld => ?_); refine with_tabW mosaiclaw09_OuterEach.tab15 mosaiclaw09_OuterEach.bits15 (fun HT_ HW_ => ?_)
                 generalize wr.drew = w24 at HO_3 BK217 HR224_0 HB hx226_0 hx227_0 hHeld ⊢
                 refine pT (v := ?_) (a' := ?_) HT_ 0 (some 64) (mkB3 30 1) ?_ ?_ ?_; rotate_left 2; (intro w'; go_simp; with_reducible rfl); (simp only [Act.put, qA, qB, qC, i64_w, i32_w]; rfl)
                 refine pT (v := ?_) (a' := ?_) HT_ 1 (some 65) (mkB3 30 3) ?_ ?_ ?_; rotate_left 2; (intro w'; go_simp; with_reducible rfl); (simp only [Act.put, qA, qB, qC, i64_w, i32_w]; rfl)
                 refine pT (v := ?_) (a' := ?_) HT_ 2 (some 66) (mkB3 30 7) ?_ ?_ ?_; rotate_left 2; (intro w'; go_simp; with_reducible rfl); (simp only [Act.put, qA, qB, qC, i64_w, i32_w]; rfl)
                 refine tT (v := ?_) (a' := ?_) HT_ HW_ hHeld 3 (some 67) (mkB3 30 15) ?_ ?_ ?_; rotate_left 2; (rintro w' ⟨s0, s1, s2, s3, s4, s5⟩; go_simp; with_reducible rfl); (simp only [Act.put, qA, qB, qC, i64_w, i32_w]; rfl)
                 refine pT (v := ?_) (a' := ?_) HT_ 4 (some 68) (mkB3 30 31) ?_ ?_ ?_; rotate_left 2; (intro w'; go_simp; with_reducible rfl); (simp only [Act.put, qA, qB, qC, i64_w, i32_w]; rfl)
                 refine pT (v := ?_) (a' := ?_) HT_ 5 (some 69) (mkB3 30 63) ?_ ?_ ?_; rotate_left 2; (intro w'; go_simp; with_reducible rfl); (simp only [Act.put, qA, qB, qC, i64_w, i32_w]; rfl)
                 refine pT (v := ?_) (a' := ?_) HT_ 6 (some 70) (mkB3 30 127) ?_ ?_ ?_; rotate_left 2; (intro w'; go_simp; with_reducible rfl); (simp only [Act.put, qA, qB, qC, i64_w, i32_w]; rfl)
                 refine pT (v := ?_) (a' := ?_) HT_ 7 (some 71) (mkB3 30 255) ?_ ?_ ?_; rotate_left 2; (intro w'; go_simp; with_reducible rfl); (simp only [Act.put, qA, qB, qC, i64_w, i32_w]; rfl)
                 refine pT (v := ?_) (a' := ?_) HT_ 8 (some 72) (mkB3 30 511) ?_ ?_ ?_; rotate_left 2; (intro w'; go_simp; with_reducible rfl); (simp only [Act.put, qA, qB, qC, i64_w, i32_w]; rfl)
                 refine pT (v := ?_) (a' := ?_) HT_ 10 (some 74) (mkB3 30 1535) ?_ ?_ ?_; rotate_left 2; (intro w'; go_simp; with_reducible rfl); (simp only [Act.put, qA, qB, qC, i64_w, i32_w]; rfl)
                 refine tT (v := ?_) (a' := ?_) HT_ HW_ hHeld 9 (some 73) (mkB3 30 2047) ?_ ?_ ?_; rotate_left 2; (rintro w' ⟨s0, s1, s2, s3, s4, s5⟩; go_simp; with_reducible rfl); (simp only [Act.put, qA, qB, qC, i64_w, i32_w]; rfl)
                 refine tT (v := ?_) (a' := ?_) HT_ HW_ hHeld 11 (some 75) (mkB3 30 4095) ?_ ?_ ?_; rotate_left 2; (rintro w' ⟨s0, s1, s2, s3, s4, s5⟩; go_simp; with_reducible rfl); (simp only [Act.put, qA, qB, qC, i64_w, i32_w]; rfl)
                 refine pT (v := ?_) (a' := ?_) HT_ 12 (some 76) (mkB3 30 8191) ?_ ?_ ?_; rotate_left 2; (intro w'; go_simp; with_reducible rfl); (simp only [Act.put, qA, qB, qC, i64_w, i32_w]; rfl)
                 refine pT (v := ?_) (a' := ?_) HT_ 13 (some 77) (mkB3 30 16383) ?_ ?_ ?_; rotate_left 2; (intro w'; go_simp; with_reducible rfl); (simp only [Act.put, qA, qB, qC, i64_w, i32_w]; rfl)
                 refine pT (v := ?_) (a' := ?_) HT_ 14 (some 78) (mkB3 30 32767) ?_ ?_ ?_; rotate_left 2; (intro w'; go_simp; with_reducible rfl); (simp only [Act.put, qA, qB, qC, i64_w, i32_w]; rfl)
                 refine nT (a' := ?_) HT_ 15 (some 79) (mkB3 30 65535) ?_ ?_; rotate_left; (simp only [Act.put, qA, qB, qC, i64_w, i32_w]; rfl)
                 refine nT (a' := ?_) HT_ 16 (some 80) (mkB3 30 131071) ?_ ?_; rotate_left; (simp only [Act.put, qA, qB, qC, i64_w, i32_w]; rfl)
                 refine nT (a' := ?_) HT_ 17 (some 81) (mkB3 30 262143) ?_ ?_; rotate_left; (simp only [Act.put, qA, qB, qC, i64_w, i32_w]; rfl)
                 refine nT (a' := ?_) HT_ 18 (some 82) (mkB3 30 524287) ?_ ?_; rotate_left; (simp only [Act.put, qA, qB, qC, i64_w, i32_w]; rfl)
                 refine nT (a' := ?_) HT_ 19 (some 83) (mkB3 30 1048575) ?_ ?_; rotate_left; (simp only [Act.put, qA, qB, qC, i64_w, i32_w]; rfl)
                 refine nT (a' := ?_) HT_ 20 (some 84) (mkB3 30 2097151) ?_ ?_; rotate_left; (simp only [Act.put, qA, qB, qC, i64_w, i32_w]; rfl)
                 refine nT (a' := ?_) HT_ 21 (some 85) (mkB3 30 4194303) ?_ ?_; rotate_left; (simp only [Act.put, qA, qB, qC, i64_w, i32_w]; rfl)
                 refine nT (a' := ?_) HT_ 22 (some 86) (mkB3 30 8388607) ?_ ?_; rotate_left; (simp only [Act.put, qA, qB, qC, i64_w, i32_w]; rfl)
                 refine nT (a' := ?_) HT_ 23 (some 87) (mkB3 30 16777215) ?_ ?_; rotate_left; (simp only [Act.put, qA, qB, qC, i64_w, i32_w]; rfl)
                 refine nT (a' := ?_) HT_ 24 (some 88) (mkB3 30 33554431) ?_ ?_; rotate_left; (simp only [Act.put, qA, qB, qC, i64_w, i32_w]; rfl)
                 refine nT (a' := ?_) HT_ 25 (some 89) (mkB3 30 67108863) ?_ ?_; rotate_left; (simp only [Act.put, qA, qB, qC, i64_w, i32_w]; rfl)
                 refine nT (a' := ?_) HT_ 26 (some 90) (mkB3 30 134217727) ?_ ?_; rotate_left; (simp only [Act.put, qA, qB, qC, i64_w, i32_w]; rfl)
                 refine nT (a' := ?_) HT_ 27 (some 91) (mkB3 30 268435455) ?_ ?_; rotate_left; (simp only [Act.put, qA, qB, qC, i64_w, i32_w]; rfl)
                 refine nT (a' := ?_) HT_ 28 (some 92) (mkB3 30 536870911) ?_ ?_; rotate_left; (simp only [Act.put, qA, qB, qC, i64_w, i32_w]; rfl)
                 refine pT (v := ?_) (a' := ?_) HT_ 29 (some 93) (mkB3 30 1073741823) ?_ ?_ ?_; rotate_left 2; (intro w'; go_simp; with_reducible rfl); (simp only [Act.put, qA, qB, qC, i64_w, i32_w]; rfl)
                 refine done_ (done_of HT_.out (by kernel_rfl)) ?_
                 try go_wp2
                 go_ret
                 exact ⟨by first | rfl | (simp [errW_none, errW_some] <;> rfl) | (simp only [← hji12]; first | rfl | (simp [errW_none, errW_some] <;> rfl)) | (simp [*, errW_none, errW_some] <;> rfl), by repeat (first | (with_reducible first | exact HB.out | apply below_alloc | apply pw_below_drewN | apply below_drew1 | refine below_set ?_ GE217.out) | exact HB.out)⟩
                ·
                 rw [if_neg c23] at H
                 have c23b0 : decide (a0_1 ≤ (rd (rd_L3 t218 x6_1) x8_2)) = false := decide_eq_false c23
                 clear c23; by_cases c25 : x8_2 > 0
                 ·
                  rw [if_pos c25] at H
                  have c25b0 : decide (0 < x8_2) = true := decide_eq_true c25
                  clear c25; obtain ⟨ji26, hji26⟩ : ∃ j_ : Int, (wrap64 (x8_2 - 1)) = j_ := ⟨_, rfl⟩
                  replace H : (if 0 ≤ (ji26) then (if (ji26) < ((rd_L3 t218 x6_1).length : Int) then (if (rd (rd_L3 t218 x6_1) x8_2) ≤ (rd (rd_L3 t218 x6_1) (ji26)) then (some false) else (mosaiclaw09_OuterEach.l1 k2 t218 (wrap64 ((wrap64 (x5_1 + ((rd_L3 t218 x6_1).length : Int))) - 1)) x6_1 (rd_L3 t218 x6_1) (wrap64 (x8_2 + 1)) a0_0 a0_1 a0_2 a0_3)) else (none)) else (none)) = some r := by first | (rw [hji26] at H; exact H) | (simp only [hji26] at H ⊢; exact H)
                  have hji26w : (IntKind.i64.wrap (x8_2 - 1)) = ji26 := (i64_w _).trans hji26
                  by_cases c27 : 0 ≤ (ji26)
                  ·
                   rw [if_pos c27] at H
                   have c27b0 : decide (0 ≤ (ji26)) = true := decide_eq_true c27
                   clear c27; by_cases c28 : (ji26) < ((rd_L3 t218 x6_1).length : Int)
                   ·
                    rw [if_pos c28] at H
                    have c28b0 : decide ((ji26) < ((rd_L3 t218 x6_1).length : Int)) = true := decide_eq_true c28
                    clear c28; by_cases c29 : (rd (rd_L3 t218 x6_1) x8_2) ≤ (rd (rd_L3 t218 x6_1) (ji26))
                    ·
                     rw [if_pos c29] at H
                     have c29b0 : decide ((rd (rd_L3 t218 x6_1) x8_2) ≤ (rd (rd_L3 t218 x6_1) (ji26))) = true := decide_eq_true c29
                     clear c29; obtain rfl := Option.some.inj H
                     try go_wp2
                     have n0_ := Aside0.mk (Kd.S_drew HO_3.out)
                     have n1_ := Aside0.mk (blk_drew BK217.out)
                     have n2_ := Aside0.mk (Kd.C_drew HR224_0.out)
                     have n3_ := Aside0.mk (below_drew1 HB.out)
                     clear HO_3 BK217 HR224_0 HB; have HO_3 := n0_; have BK217 := n1_; have HR224_0 := n2_; have HB := n3_; clear n0_ n1_ n2_ n3_; have p226 : 0 ≤ (x8_2 : Int) := of_decide_eq_true (by first | (with_reducible assumption) | assumption)
                     have q226 : x8_2 < ((rd_L3 t218 x6_1).length : Int) := of_decide_eq_true (by first | (with_reducible assumption) | assumption)
                     obtain ⟨ad226, e226, hx226_0⟩ := Kd.at_int HR224_0.out x8_2 p226 q226
                     have hw226_0 := hx226_0; obtain rfl : ad225 = ad226 := (by injection e226)
                     (try replace hx226_0 := (HB.out.cell (World.block_lt_of_cell? w _ hx226_0)).trans hx226_0)
                     replace p226 := eq_true p226
                     replace q226 := eq_true q226
                     have p227 : 0 ≤ (x8_2 : Int) := of_decide_eq_true (by first | (with_reducible assumption) | assumption)
                     have q227 : x8_2 < ((rd_L3 t218 x6_1).length : Int) := of_decide_eq_true (by first | (with_reducible assumption) | assumption)
                     obtain ⟨ad227, e227, hx227_0⟩ := Kd.at_int HR224_0.out x8_2 p227 q227
                     have hw227_0 := hx227_0; obtain rfl : ad225 = ad227 := (by injection e227)
                     (try replace hx227_0 := (HB.out.cell (World.block_lt_of_cell? w _ hx227_0)).trans hx227_0)
                     replace p227 := eq_true p227
                     replace q227 := eq_true q227
                     have p228 : 0 ≤ (x8_2 : Int) := of_decide_eq_true (by first | (with_reducible assumption) | assumption)
                     have q228 : x8_2 < ((rd_L3 t218 x6_1).length : Int) := of_decide_eq_true (by first | (with_reducible assumption) | assumption)
                     obtain ⟨ad228, e228, hx228_0⟩ := Kd.at_int HR224_0.out x8_2 p228 q228
                     have hw228_0 := hx228_0; obtain rfl : ad225 = ad228 := (by injection e228)
                     (try replace hx228_0 := (HB.out.cell (World.block_lt_of_cell? w _ hx228_0)).trans hx228_0)
                     replace p228 := eq_true p228
                     replace q228 := eq_true q228
                     have p229 : 0 ≤ ((ji26) : Int) := of_decide_eq_true (by first | (with_reducible assumption) | assumption)
                     have q229 : (ji26) < ((rd_L3 t218 x6_1).length : Int) := of_decide_eq_true (by first | (with_reducible assumption) | assumption)
                     obtain ⟨ad229, e229, hx229_0⟩ := Kd.at_int HR224_0.out (ji26) p229 q229
                     have hw229_0 := hx229_0; obtain rfl : ad225 = ad229 := (by injection e229)
                     (try replace hx229_0 := (HB.out.cell (World.block_lt_of_cell? w _ hx229_0)).trans hx229_0)
                     replace p229 := eq_true p229
                     replace q229 := eq_true q229
                     refine start_ (n := 30) (S := fun w' => w'.cell? ⟨gb217, 0, none⟩ = some (.int .i64 a0_0) ∧ w'.cell? ⟨gb217, 1, none⟩ = some (.int .i64 a0_1) ∧ w'.cell? ⟨gb217, 2, none⟩ = some (.int .i64 a0_2) ∧ w'.cell? ⟨gb217, 3, none⟩ = some (.int .i64 a0_3) ∧ w'.cell? (ad225.add (x8_2).toNat) = some (.int .i64 (rd (rd_L3 t218 x6_1) x8_2)) ∧ w'.cell? (ad225.add (x8_2).toNat) = some (.int .i64 (rd (rd_L3 t218 x6_1) x8_2)) ∧ w'.cell? (ad225.add (x8_2).toNat) = some (.int .i64 (rd (rd_L3 t218 x6_1) x8_2)) ∧ w'.cell? (ad225.add ((ji26)).toNat) = some (.int .i64 (rd (rd_L3 t218 x6_1) (ji26)))) (ds := []) (mkB3 30 0) (by kernel_rfl) rfl rfl ⟨(blk_cell BK217.out 0).trans rfl, (blk_cell BK217.out 1).trans rfl, (blk_cell BK217.out 2).trans rfl, (blk_cell BK217.out 3).trans rfl, (by first | exact (HB.out.cell (World.block_lt_of_cell? w _ hw226_0)).trans hw226_0 | exact hw226_0), (by first | exact (HB.out.cell (World.block_lt_of_cell? w _ hw227_0)).trans hw227_0 | exact hw227_0), (by first | exact (HB.out.cell (World.block_lt_of_cell? w _ hw228_0)).trans hw228_0 | exact hw228_0), (by first | exact (HB.out.cell (World.block_lt_of_cell? w _ hw229_0)).trans hw229_0 | exact hw229_0)⟩ (fun hHeld => ?_); refine with_tabW mosaiclaw09_OuterEach.tab15 mosaiclaw09_OuterEach.bits15 (fun HT_ HW_ => ?_)
                     generalize wr.drew = w30 at HO_3 BK217 HR224_0 HB hx226_0 hx227_0 hx228_0 hx229_0 hHeld ⊢
                     refine pT (v := ?_) (a' := ?_) HT_ 0 (some 64) (mkB3 30 1) ?_ ?_ ?_; rotate_left 2; (intro w'; go_simp; with_reducible rfl); (simp only [Act.put, qA, qB, qC, i64_w, i32_w]; rfl)
                     refine pT (v := ?_) (a' := ?_) HT_ 1 (some 65) (mkB3 30 3) ?_ ?_ ?_; rotate_left 2; (intro w'; go_simp; with_reducible rfl); (simp only [Act.put, qA, qB, qC, i64_w, i32_w]; rfl)
                     refine pT (v := ?_) (a' := ?_) HT_ 2 (some 66) (mkB3 30 7) ?_ ?_ ?_; rotate_left 2; (intro w'; go_simp; with_reducible rfl); (simp only [Act.put, qA, qB, qC, i64_w, i32_w]; rfl)
                     refine tT (v := ?_) (a' := ?_) HT_ HW_ hHeld 3 (some 67) (mkB3 30 15) ?_ ?_ ?_; rotate_left 2; (rintro w' ⟨s0, s1, s2, s3, s4, s5, s6, s7⟩; go_simp; with_reducible rfl); (simp only [Act.put, qA, qB, qC, i64_w, i32_w]; rfl)
                     refine pT (v := ?_) (a' := ?_) HT_ 4 (some 68) (mkB3 30 31) ?_ ?_ ?_; rotate_left 2; (intro w'; go_simp; with_reducible rfl); (simp only [Act.put, qA, qB, qC, i64_w, i32_w]; rfl)
                     refine pT (v := ?_) (a' := ?_) HT_ 5 (some 69) (mkB3 30 63) ?_ ?_ ?_; rotate_left 2; (intro w'; go_simp; with_reducible rfl); (simp only [Act.put, qA, qB, qC, i64_w, i32_w]; rfl)
                     refine pT (v := ?_) (a' := ?_) HT_ 6 (some 70) (mkB3 30 127) ?_ ?_ ?_; rotate_left 2; (intro w'; go_simp; with_reducible rfl); (simp only [Act.put, qA, qB, qC, i64_w, i32_w]; rfl)
                     refine pT (v := ?_) (a' := ?_) HT_ 7 (some 71) (mkB3 30 255) ?_ ?_ ?_; rotate_left 2; (intro w'; go_simp; with_reducible rfl); (simp only [Act.put, qA, qB, qC, i64_w, i32_w]; rfl)
                     refine pT (v := ?_) (a' := ?_) HT_ 8 (some 72) (mkB3 30 511) ?_ ?_ ?_; rotate_left 2; (intro w'; go_simp; with_reducible rfl); (simp only [Act.put, qA, qB, qC, i64_w, i32_w]; rfl)
                     refine pT (v := ?_) (a' := ?_) HT_ 10 (some 74) (mkB3 30 1535) ?_ ?_ ?_; rotate_left 2; (intro w'; go_simp; with_reducible rfl); (simp only [Act.put, qA, qB, qC, i64_w, i32_w]; rfl)
                     refine tT (v := ?_) (a' := ?_) HT_ HW_ hHeld 9 (some 73) (mkB3 30 2047) ?_ ?_ ?_; rotate_left 2; (rintro w' ⟨s0, s1, s2, s3, s4, s5, s6, s7⟩; go_simp; with_reducible rfl); (simp only [Act.put, qA, qB, qC, i64_w, i32_w]; rfl)
                     refine tT (v := ?_) (a' := ?_) HT_ HW_ hHeld 11 (some 75) (mkB3 30 4095) ?_ ?_ ?_; rotate_left 2; (rintro w' ⟨s0, s1, s2, s3, s4, s5, s6, s7⟩; go_simp; with_reducible rfl); (simp only [Act.put, qA, qB, qC, i64_w, i32_w]; rfl)
                     refine pT (v := ?_) (a' := ?_) HT_ 12 (some 76) (mkB3 30 8191) ?_ ?_ ?_; rotate_left 2; (intro w'; go_simp; with_reducible rfl); (simp only [Act.put, qA, qB, qC, i64_w, i32_w]; rfl)
                     refine pT (v := ?_) (a' := ?_) HT_ 13 (some 77) (mkB3 30 16383) ?_ ?_ ?_; rotate_left 2; (intro w'; go_simp; with_reducible rfl); (simp only [Act.put, qA, qB, qC, i64_w, i32_w]; rfl)
                     refine pT (v := ?_) (a' := ?_) HT_ 14 (some 78) (mkB3 30 32767) ?_ ?_ ?_; rotate_left 2; (intro w'; go_simp; with_reducible rfl); (simp only [Act.put, qA, qB, qC, i64_w, i32_w]; rfl)
                     refine pT (v := ?_) (a' := ?_) HT_ 15 (some 79) (mkB3 30 65535) ?_ ?_ ?_; rotate_left 2; (intro w'; go_simp; with_reducible rfl); (simp only [Act.put, qA, qB, qC, i64_w, i32_w]; rfl)
                     refine pT (v := ?_) (a' := ?_) HT_ 16 (some 80) (mkB3 30 131071) ?_ ?_ ?_; rotate_left 2; (intro w'; go_simp; with_reducible rfl); (simp only [Act.put, qA, qB, qC, i64_w, i32_w]; rfl)
                     refine pT (v := ?_) (a' := ?_) HT_ 17 (some 81) (mkB3 30 262143) ?_ ?_ ?_; rotate_left 2; (intro w'; go_simp; with_reducible rfl); (simp only [Act.put, qA, qB, qC, i64_w, i32_w]; rfl)
                     refine pT (v := ?_) (a' := ?_) HT_ 18 (some 82) (mkB3 30 524287) ?_ ?_ ?_; rotate_left 2; (intro w'; go_simp; with_reducible rfl); (simp only [Act.put, qA, qB, qC, i64_w, i32_w]; rfl)
                     refine pT (v := ?_) (a' := ?_) HT_ 19 (some 83) (mkB3 30 1048575) ?_ ?_ ?_; rotate_left 2; (intro w'; go_simp; with_reducible rfl); (simp only [Act.put, qA, qB, qC, i64_w, i32_w]; rfl)
                     refine pT (v := ?_) (a' := ?_) HT_ 20 (some 84) (mkB3 30 2097151) ?_ ?_ ?_; rotate_left 2; (intro w'; go_simp; with_reducible rfl); (simp only [Act.put, qA, qB, qC, i64_w, i32_w]; rfl)
                     refine pT (v := ?_) (a' := ?_) HT_ 22 (some 86) (mkB3 30 6291455) ?_ ?_ ?_; rotate_left 2; (intro w'; go_simp; with_reducible rfl); (simp only [Act.put, qA, qB, qC, i64_w, i32_w]; rfl)
                     refine pT (v := ?_) (a' := ?_) HT_ 23 (some 87) (mkB3 30 14680063) ?_ ?_ ?_; rotate_left 2; (intro w'; go_simp; with_reducible rfl); (simp only [Act.put, qA, qB, qC, i64_w, i32_w]; rfl)
                     refine pT (v := ?_) (a' := ?_) HT_ 24 (some 88) (mkB3 30 31457279) ?_ ?_ ?_; rotate_left 2; (intro w'; go_simp; with_reducible rfl); (simp only [Act.put, qA, qB, qC, i64_w, i32_w]; rfl)
                     refine pT (v := ?_) (a' := ?_) HT_ 25 (some 89) (mkB3 30 65011711) ?_ ?_ ?_; rotate_left 2; (intro w'; go_simp; with_reducible rfl); (simp only [Act.put, qA, qB, qC, i64_w, i32_w]; rfl)
                     refine tT (v := ?_) (a' := ?_) HT_ HW_ hHeld 21 (some 85) (mkB3 30 67108863) ?_ ?_ ?_; rotate_left 2; (rintro w' ⟨s0, s1, s2, s3, s4, s5, s6, s7⟩; go_simp; with_reducible rfl); (simp only [Act.put, qA, qB, qC, i64_w, i32_w]; rfl)
                     refine tT (v := ?_) (a' := ?_) HT_ HW_ hHeld 26 (some 90) (mkB3 30 134217727) ?_ ?_ ?_; rotate_left 2; (rintro w' ⟨s0, s1, s2, s3, s4, s5, s6, s7⟩; go_simp; with_reducible rfl); (simp only [Act.put, qA, qB, qC, i64_w, i32_w]; rfl)
                     refine pT (v := ?_) (a' := ?_) HT_ 27 (some 91) (mkB3 30 268435455) ?_ ?_ ?_; rotate_left 2; (intro w'; go_simp; with_reducible rfl); (simp only [Act.put, qA, qB, qC, i64_w, i32_w]; rfl)
                     refine pT (v := ?_) (a' := ?_) HT_ 28 (some 92) (mkB3 30 536870911) ?_ ?_ ?_; rotate_left 2; (intro w'; go_simp; with_reducible rfl); (simp only [Act.put, qA, qB, qC, i64_w, i32_w]; rfl)
                     refine pT (v := ?_) (a' := ?_) HT_ 29 (some 93) (mkB3 30 1073741823) ?_ ?_ ?_; rotate_left 2; (intro w'; go_simp; with_reducible rfl); (simp only [Act.put, qA, qB, qC, i64_w, i32_w]; rfl)
                     refine done_ (done_of HT_.out (by kernel_rfl)) ?_
                     try go_wp2
                     go_ret
                     exact ⟨by first | rfl | (simp [errW_none, errW_some] <;> rfl) | (simp only [← hji12, ← hji26]; first | rfl | (simp [errW_none, errW_some] <;> rfl)) | (simp [*, errW_none, errW_some] <;> rfl), by repeat (first | (with_reducible first | exact HB.out | apply below_alloc | apply pw_below_drewN | apply below_drew1 | refine below_set ?_ GE217.out) | exact HB.out)⟩
                    ·
                     rw [if_neg c29] at H
                     have c29b0 : decide ((rd (rd_L3 t218 x6_1) x8_2) ≤ (rd (rd_L3 t218 x6_1) (ji26))) = false := decide_eq_false c29
                     clear c29; have H' := Aside0.mk H
                     clear H; try go_wp2
                     have n0_ := Aside0.mk (Kd.S_drew HO_3.out)
                     have n1_ := Aside0.mk (blk_drew BK217.out)
                     have n2_ := Aside0.mk (Kd.C_drew HR224_0.out)
                     have n3_ := Aside0.mk (below_drew1 HB.out)
                     clear HO_3 BK217 HR224_0 HB; have HO_3 := n0_; have BK217 := n1_; have HR224_0 := n2_; have HB := n3_; clear n0_ n1_ n2_ n3_; have p226 : 0 ≤ (x8_2 : Int) := of_decide_eq_true (by first | (with_reducible assumption) | assumption)
                     have q226 : x8_2 < ((rd_L3 t218 x6_1).length : Int) := of_decide_eq_true (by first | (with_reducible assumption) | assumption)
                     obtain ⟨ad226, e226, hx226_0⟩ := Kd.at_int HR224_0.out x8_2 p226 q226
                     have hw226_0 := hx226_0; obtain rfl : ad225 = ad226 := (by injection e226)
                     (try replace hx226_0 := (HB.out.cell (World.block_lt_of_cell? w _ hx226_0)).trans hx226_0)
                     replace p226 := eq_true p226
                     replace q226 := eq_true q226
                     have p227 : 0 ≤ (x8_2 : Int) := of_decide_eq_true (by first | (with_reducible assumption) | assumption)
                     have q227 : x8_2 < ((rd_L3 t218 x6_1).length : Int) := of_decide_eq_true (by first | (with_reducible assumption) | assumption)
                     obtain ⟨ad227, e227, hx227_0⟩ := Kd.at_int HR224_0.out x8_2 p227 q227
                     have hw227_0 := hx227_0; obtain rfl : ad225 = ad227 := (by injection e227)
                     (try replace hx227_0 := (HB.out.cell (World.block_lt_of_cell? w _ hx227_0)).trans hx227_0)
                     replace p227 := eq_true p227
                     replace q227 := eq_true q227
                     have p228 : 0 ≤ (x8_2 : Int) := of_decide_eq_true (by first | (with_reducible assumption) | assumption)
                     have q228 : x8_2 < ((rd_L3 t218 x6_1).length : Int) := of_decide_eq_true (by first | (with_reducible assumption) | assumption)
                     obtain ⟨ad228, e228, hx228_0⟩ := Kd.at_int HR224_0.out x8_2 p228 q228
                     have hw228_0 := hx228_0; obtain rfl : ad225 = ad228 := (by injection e228)
                     (try replace hx228_0 := (HB.out.cell (World.block_lt_of_cell? w _ hx228_0)).trans hx228_0)
                     replace p228 := eq_true p228
                     replace q228 := eq_true q228
                     have p229 : 0 ≤ ((ji26) : Int) := of_decide_eq_true (by first | (with_reducible assumption) | assumption)
                     have q229 : (ji26) < ((rd_L3 t218 x6_1).length : Int) := of_decide_eq_true (by first | (with_reducible assumption) | assumption)
                     obtain ⟨ad229, e229, hx229_0⟩ := Kd.at_int HR224_0.out (ji26) p229 q229
                     have hw229_0 := hx229_0; obtain rfl : ad225 = ad229 := (by injection e229)
                     (try replace hx229_0 := (HB.out.cell (World.block_lt_of_cell? w _ hx229_0)).trans hx229_0)
                     replace p229 := eq_true p229
                     replace q229 := eq_true q229
                     refine start_ (n := 30) (S := fun w' => w'.cell? ⟨gb217, 0, none⟩ = some (.int .i64 a0_0) ∧ w'.cell? ⟨gb217, 1, none⟩ = some (.int .i64 a0_1) ∧ w'.cell? ⟨gb217, 2, none⟩ = some (.int .i64 a0_2) ∧ w'.cell? ⟨gb217, 3, none⟩ = some (.int .i64 a0_3) ∧ w'.cell? (ad225.add (x8_2).toNat) = some (.int .i64 (rd (rd_L3 t218 x6_1) x8_2)) ∧ w'.cell? (ad225.add (x8_2).toNat) = some (.int .i64 (rd (rd_L3 t218 x6_1) x8_2)) ∧ w'.cell? (ad225.add (x8_2).toNat) = some (.int .i64 (rd (rd_L3 t218 x6_1) x8_2)) ∧ w'.cell? (ad225.add ((ji26)).toNat) = some (.int .i64 (rd (rd_L3 t218 x6_1) (ji26)))) (ds := []) (mkB3 30 0) (by kernel_rfl) rfl rfl ⟨(blk_cell BK217.out 0).trans rfl, (blk_cell BK217.out 1).trans rfl, (blk_cell BK217.out 2).trans rfl, (blk_cell BK217.out 3).trans rfl, (by first | exact (HB.out.cell (World.block_lt_of_cell? w _ hw226_0)).trans hw226_0 | exact hw226_0), (by first | exact (HB.out.cell (World.block_lt_of_cell? w _ hw227_0)).trans hw227_0 | exact hw227_0), (by first | exact (HB.out.cell (World.block_lt_of_cell? w _ hw228_0)).trans hw228_0 | exact hw228_0), (by first | exact (HB.out.cell (World.block_lt_of_cell? w _ hw229_0)).trans hw229_0 | exact hw229_0)⟩ (fun hHeld => ?_); refine with_tabW mosaiclaw09_OuterEach.tab15 mosaiclaw09_OuterEach.bits15 (fun HT_ HW_ => ?_)
                     generalize wr.drew = w31 at HO_3 BK217 HR224_0 HB hx226_0 hx227_0 hx228_0 hx229_0 hHeld ⊢
                     refine pT (v := ?_) (a' := ?_) HT_ 0 (some 64) (mkB3 30 1) ?_ ?_ ?_; rotate_left 2; (intro w'; go_simp; with_reducible rfl); (simp only [Act.put, qA, qB, qC, i64_w, i32_w]; rfl)
                     refine pT (v := ?_) (a' := ?_) HT_ 1 (some 65) (mkB3 30 3) ?_ ?_ ?_; rotate_left 2; (intro w'; go_simp; with_reducible rfl); (simp only [Act.put, qA, qB, qC, i64_w, i32_w]; rfl)
                     refine pT (v := ?_) (a' := ?_) HT_ 2 (some 66) (mkB3 30 7) ?_ ?_ ?_; rotate_left 2; (intro w'; go_simp; with_reducible rfl); (simp only [Act.put, qA, qB, qC, i64_w, i32_w]; rfl)
                     refine tT (v := ?_) (a' := ?_) HT_ HW_ hHeld 3 (some 67) (mkB3 30 15) ?_ ?_ ?_; rotate_left 2; (rintro w' ⟨s0, s1, s2, s3, s4, s5, s6, s7⟩; go_simp; with_reducible rfl); (simp only [Act.put, qA, qB, qC, i64_w, i32_w]; rfl)
                     refine pT (v := ?_) (a' := ?_) HT_ 4 (some 68) (mkB3 30 31) ?_ ?_ ?_; rotate_left 2; (intro w'; go_simp; with_reducible rfl); (simp only [Act.put, qA, qB, qC, i64_w, i32_w]; rfl)
                     refine pT (v := ?_) (a' := ?_) HT_ 5 (some 69) (mkB3 30 63) ?_ ?_ ?_; rotate_left 2; (intro w'; go_simp; with_reducible rfl); (simp only [Act.put, qA, qB, qC, i64_w, i32_w]; rfl)
                     refine pT (v := ?_) (a' := ?_) HT_ 6 (some 70) (mkB3 30 127) ?_ ?_ ?_; rotate_left 2; (intro w'; go_simp; with_reducible rfl); (simp only [Act.put, qA, qB, qC, i64_w, i32_w]; rfl)
                     refine pT (v := ?_) (a' := ?_) HT_ 7 (some 71) (mkB3 30 255) ?_ ?_ ?_; rotate_left 2; (intro w'; go_simp; with_reducible rfl); (simp only [Act.put, qA, qB, qC, i64_w, i32_w]; rfl)
                     refine pT (v := ?_) (a' := ?_) HT_ 8 (some 72) (mkB3 30 511) ?_ ?_ ?_; rotate_left 2; (intro w'; go_simp; with_reducible rfl); (simp only [Act.put, qA, qB, qC, i64_w, i32_w]; rfl)
                     refine pT (v := ?_) (a' := ?_) HT_ 10 (some 74) (mkB3 30 1535) ?_ ?_ ?_; rotate_left 2; (intro w'; go_simp; with_reducible rfl); (simp only [Act.put, qA, qB, qC, i64_w, i32_w]; rfl)
                     refine tT (v := ?_) (a' := ?_) HT_ HW_ hHeld 9 (some 73) (mkB3 30 2047) ?_ ?_ ?_; rotate_left 2; (rintro w' ⟨s0, s1, s2, s3, s4, s5, s6, s7⟩; go_simp; with_reducible rfl); (simp only [Act.put, qA, qB, qC, i64_w, i32_w]; rfl)
                     refine tT (v := ?_) (a' := ?_) HT_ HW_ hHeld 11 (some 75) (mkB3 30 4095) ?_ ?_ ?_; rotate_left 2; (rintro w' ⟨s0, s1, s2, s3, s4, s5, s6, s7⟩; go_simp; with_reducible rfl); (simp only [Act.put, qA, qB, qC, i64_w, i32_w]; rfl)
                     refine pT (v := ?_) (a' := ?_) HT_ 12 (some 76) (mkB3 30 8191) ?_ ?_ ?_; rotate_left 2; (intro w'; go_simp; with_reducible rfl); (simp only [Act.put, qA, qB, qC, i64_w, i32_w]; rfl)
                     refine pT (v := ?_) (a' := ?_) HT_ 13 (some 77) (mkB3 30 16383) ?_ ?_ ?_; rotate_left 2; (intro w'; go_simp; with_reducible rfl); (simp only [Act.put, qA, qB, qC, i64_w, i32_w]; rfl)
                     refine pT (v := ?_) (a' := ?_) HT_ 14 (some 78) (mkB3 30 32767) ?_ ?_ ?_; rotate_left 2; (intro w'; go_simp; with_reducible rfl); (simp only [Act.put, qA, qB, qC, i64_w, i32_w]; rfl)
                     refine pT (v := ?_) (a' := ?_) HT_ 15 (some 79) (mkB3 30 65535) ?_ ?_ ?_; rotate_left 2; (intro w'; go_simp; with_reducible rfl); (simp only [Act.put, qA, qB, qC, i64_w, i32_w]; rfl)
                     refine pT (v := ?_) (a' := ?_) HT_ 16 (some 80) (mkB3 30 131071) ?_ ?_ ?_; rotate_left 2; (intro w'; go_simp; with_reducible rfl); (simp only [Act.put, qA, qB, qC, i64_w, i32_w]; rfl)
                     refine pT (v := ?_) (a' := ?_) HT_ 17 (some 81) (mkB3 30 262143) ?_ ?_ ?_; rotate_left 2; (intro w'; go_simp; with_reducible rfl); (simp only [Act.put, qA, qB, qC, i64_w, i32_w]; rfl)
                     refine pT (v := ?_) (a' := ?_) HT_ 18 (some 82) (mkB3 30 524287) ?_ ?_ ?_; rotate_left 2; (intro w'; go_simp; with_reducible rfl); (simp only [Act.put, qA, qB, qC, i64_w, i32_w]; rfl)
                     refine pT (v := ?_) (a' := ?_) HT_ 19 (some 83) (mkB3 30 1048575) ?_ ?_ ?_; rotate_left 2; (intro w'; go_simp; with_reducible rfl); (simp only [Act.put, qA, qB, qC, i64_w, i32_w]; rfl)
                     refine pT (v := ?_) (a' := ?_) HT_ 20 (some 84) (mkB3 30 2097151) ?_ ?_ ?_; rotate_left 2; (intro w'; go_simp; with_reducible rfl); (simp only [Act.put, qA, qB, qC, i64_w, i32_w]; rfl)
                     refine pT (v := ?_) (a' := ?_) HT_ 22 (some 86) (mkB3 30 6291455) ?_ ?_ ?_; rotate_left 2; (intro w'; go_simp; with_reducible rfl); (simp only [Act.put, qA, qB, qC, i64_w, i32_w]; rfl)
                     refine pT (v := ?_) (a' := ?_) HT_ 23 (some 87) (mkB3 30 14680063) ?_ ?_ ?_; rotate_left 2; (intro w'; go_simp; with_reducible rfl); (simp only [Act.put, qA, qB, qC, i64_w, i32_w]; rfl)
                     refine pT (v := ?_) (a' := ?_) HT_ 24 (some 88) (mkB3 30 31457279) ?_ ?_ ?_; rotate_left 2; (intro w'; go_simp; with_reducible rfl); (simp only [Act.put, qA, qB, qC, i64_w, i32_w]; rfl)
                     refine pT (v := ?_) (a' := ?_) HT_ 25 (some 89) (mkB3 30 65011711) ?_ ?_ ?_; rotate_left 2; (intro w'; go_simp; with_reducible rfl); (simp only [Act.put, qA, qB, qC, i64_w, i32_w]; rfl)
                     refine tT (v := ?_) (a' := ?_) HT_ HW_ hHeld 21 (some 85) (mkB3 30 67108863) ?_ ?_ ?_; rotate_left 2; (rintro w' ⟨s0, s1, s2, s3, s4, s5, s6, s7⟩; go_simp; with_reducible rfl); (simp only [Act.put, qA, qB, qC, i64_w, i32_w]; rfl)
                     refine tT (v := ?_) (a' := ?_) HT_ HW_ hHeld 26 (some 90) (mkB3 30 134217727) ?_ ?_ ?_; rotate_left 2; (rintro w' ⟨s0, s1, s2, s3, s4, s5, s6, s7⟩; go_simp; with_reducible rfl); (simp only [Act.put, qA, qB, qC, i64_w, i32_w]; rfl)
                     refine pT (v := ?_) (a' := ?_) HT_ 27 (some 91) (mkB3 30 268435455) ?_ ?_ ?_; rotate_left 2; (intro w'; go_simp; with_reducible rfl); (simp only [Act.put, qA, qB, qC, i64_w, i32_w]; rfl)
                     refine pT (v := ?_) (a' := ?_) HT_ 28 (some 92) (mkB3 30 536870911) ?_ ?_ ?_; rotate_left 2; (intro w'; go_simp; with_reducible rfl); (simp only [Act.put, qA, qB, qC, i64_w, i32_w]; rfl)
                     refine pT (v := ?_) (a' := ?_) HT_ 29 (some 93) (mkB3 30 1073741823) ?_ ?_ ?_; rotate_left 2; (intro w'; go_simp; with_reducible rfl); (simp only [Act.put, qA, qB, qC, i64_w, i32_w]; rfl)
                     refine done_ (done_of HT_.out (by kernel_rfl)) ?_
                     try go_wp2
                     go_roundg k2
                     case measure => have := HK1.out; have := HK2.out; omega
                     case rel => exact ⟨(wrap64 (x8_2 + 1)), (by first | rfl | (simp; done) | (simp [*]; done)), H', ⟨by have := HK1.out; have := HK2.out; omega⟩, ⟨by (with_reducible repeat (first | apply Kd.S_alloc | apply Kd.S_drewN | apply Kd.S_drew)); exact HO_3.out⟩, ⟨by (with_reducible repeat (first | refine blk_drewN ?_ _ | refine blk_drew ?_ | refine blk_alloc ?_ _)); exact BK217.out⟩, ⟨by repeat (first | (with_reducible exact HR224_0.out) | (with_reducible refine Kd.C_alloc ?_ _) | (with_reducible refine Kd.C_drewN ?_ _) | (with_reducible refine Kd.C_drew ?_) | exact HR224_0.out)⟩, ⟨by repeat (first | (with_reducible first | exact HB.out | apply below_alloc | apply pw_below_drewN | apply below_drew1 | refine below_set ?_ GE217.out) | exact HB.out)⟩⟩
                   ·
                    rw [if_neg c28] at H
                    exact absurd H (by simp)
                  ·
                   rw [if_neg c27] at H
                   exact absurd H (by simp)
                 ·
                  rw [if_neg c25] at H
                  have c25b0 : decide (0 < x8_2) = false := decide_eq_false c25
                  clear c25; have H' := Aside0.mk H
                  clear H; try go_wp2
                  have n0_ := Aside0.mk (Kd.S_drew HO_3.out)
                  have n1_ := Aside0.mk (blk_drew BK217.out)
                  have n2_ := Aside0.mk (Kd.C_drew HR224_0.out)
                  have n3_ := Aside0.mk (below_drew1 HB.out)
                  clear HO_3 BK217 HR224_0 HB; have HO_3 := n0_; have BK217 := n1_; have HR224_0 := n2_; have HB := n3_; clear n0_ n1_ n2_ n3_; have p226 : 0 ≤ (x8_2 : Int) := of_decide_eq_true (by first | (with_reducible assumption) | assumption)
                  have q226 : x8_2 < ((rd_L3 t218 x6_1).length : Int) := of_decide_eq_true (by first | (with_reducible assumption) | assumption)
                  obtain ⟨ad226, e226, hx226_0⟩ := Kd.at_int HR224_0.out x8_2 p226 q226
                  have hw226_0 := hx226_0; obtain rfl : ad225 = ad226 := (by injection e226)
                  (try replace hx226_0 := (HB.out.cell (World.block_lt_of_cell? w _ hx226_0)).trans hx226_0)
                  replace p226 := eq_true p226
                  replace q226 := eq_true q226
                  have p227 : 0 ≤ (x8_2 : Int) := of_decide_eq_true (by first | (with_reducible assumption) | assumption)
                  have q227 : x8_2 < ((rd_L3 t218 x6_1).length : Int) := of_decide_eq_true (by first | (with_reducible assumption) | assumption)
                  obtain ⟨ad227, e227, hx227_0⟩ := Kd.at_int HR224_0.out x8_2 p227 q227
                  have hw227_0 := hx227_0; obtain rfl : ad225 = ad227 := (by injection e227)
                  (try replace hx227_0 := (HB.out.cell (World.block_lt_of_cell? w _ hx227_0)).trans hx227_0)
                  replace p227 := eq_true p227
                  replace q227 := eq_true q227
                  refine start_ (n := 30) (S := fun w' => w'.cell? ⟨gb217, 0, none⟩ = some (.int .i64 a0_0) ∧ w'.cell? ⟨gb217, 1, none⟩ = some (.int .i64 a0_1) ∧ w'.cell? ⟨gb217, 2, none⟩ = some (.int .i64 a0_2) ∧ w'.cell? ⟨gb217, 3, none⟩ = some (.int .i64 a0_3) ∧ w'.cell? (ad225.add (x8_2).toNat) = some (.int .i64 (rd (rd_L3 t218 x6_1) x8_2)) ∧ w'.cell? (ad225.add (x8_2).toNat) = some (.int .i64 (rd (rd_L3 t218 x6_1) x8_2))) (ds := []) (mkB3 30 0) (by kernel_rfl) rfl rfl ⟨(blk_cell BK217.out 0).trans rfl, (blk_cell BK217.out 1).trans rfl, (blk_cell BK217.out 2).trans rfl, (blk_cell BK217.out 3).trans rfl, (by first | exact (HB.out.cell (World.block_lt_of_cell? w _ hw226_0)).trans hw226_0 | exact hw226_0), (by first | exact (HB.out.cell (World.block_lt_of_cell? w _ hw227_0)).trans hw227_0 | exact hw227_0)⟩ (fun hHeld => ?_); refine with_tabW mosaiclaw09_OuterEach.tab15 mosaiclaw09_OuterEach.bits15 (fun HT_ HW_ => ?_)
                  generalize wr.drew = w32 at HO_3 BK217 HR224_0 HB hx226_0 hx227_0 hHeld ⊢
                  refine pT (v := ?_) (a' := ?_) HT_ 0 (some 64) (mkB3 30 1) ?_ ?_ ?_; rotate_left 2; (intro w'; go_simp; with_reducible rfl); (simp only [Act.put, qA, qB, qC, i64_w, i32_w]; rfl)
                  refine pT (v := ?_) (a' := ?_) HT_ 1 (some 65) (mkB3 30 3) ?_ ?_ ?_; rotate_left 2; (intro w'; go_simp; with_reducible rfl); (simp only [Act.put, qA, qB, qC, i64_w, i32_w]; rfl)
                  refine pT (v := ?_) (a' := ?_) HT_ 2 (some 66) (mkB3 30 7) ?_ ?_ ?_; rotate_left 2; (intro w'; go_simp; with_reducible rfl); (simp only [Act.put, qA, qB, qC, i64_w, i32_w]; rfl)
                  refine tT (v := ?_) (a' := ?_) HT_ HW_ hHeld 3 (some 67) (mkB3 30 15) ?_ ?_ ?_; rotate_left 2; (rintro w' ⟨s0, s1, s2, s3, s4, s5⟩; go_simp; with_reducible rfl); (simp only [Act.put, qA, qB, qC, i64_w, i32_w]; rfl)
                  refine pT (v := ?_) (a' := ?_) HT_ 4 (some 68) (mkB3 30 31) ?_ ?_ ?_; rotate_left 2; (intro w'; go_simp; with_reducible rfl); (simp only [Act.put, qA, qB, qC, i64_w, i32_w]; rfl)
                  refine pT (v := ?_) (a' := ?_) HT_ 5 (some 69) (mkB3 30 63) ?_ ?_ ?_; rotate_left 2; (intro w'; go_simp; with_reducible rfl); (simp only [Act.put, qA, qB, qC, i64_w, i32_w]; rfl)
                  refine pT (v := ?_) (a' := ?_) HT_ 6 (some 70) (mkB3 30 127) ?_ ?_ ?_; rotate_left 2; (intro w'; go_simp; with_reducible rfl); (simp only [Act.put, qA, qB, qC, i64_w, i32_w]; rfl)
                  refine pT (v := ?_) (a' := ?_) HT_ 7 (some 71) (mkB3 30 255) ?_ ?_ ?_; rotate_left 2; (intro w'; go_simp; with_reducible rfl); (simp only [Act.put, qA, qB, qC, i64_w, i32_w]; rfl)
                  refine pT (v := ?_) (a' := ?_) HT_ 8 (some 72) (mkB3 30 511) ?_ ?_ ?_; rotate_left 2; (intro w'; go_simp; with_reducible rfl); (simp only [Act.put, qA, qB, qC, i64_w, i32_w]; rfl)
                  refine pT (v := ?_) (a' := ?_) HT_ 10 (some 74) (mkB3 30 1535) ?_ ?_ ?_; rotate_left 2; (intro w'; go_simp; with_reducible rfl); (simp only [Act.put, qA, qB, qC, i64_w, i32_w]; rfl)
                  refine tT (v := ?_) (a' := ?_) HT_ HW_ hHeld 9 (some 73) (mkB3 30 2047) ?_ ?_ ?_; rotate_left 2; (rintro w' ⟨s0, s1, s2, s3, s4, s5⟩; go_simp; with_reducible rfl); (simp only [Act.put, qA, qB, qC, i64_w, i32_w]; rfl)
                  refine tT (v := ?_) (a' := ?_) HT_ HW_ hHeld 11 (some 75) (mkB3 30 4095) ?_ ?_ ?_; rotate_left 2; (rintro w' ⟨s0, s1, s2, s3, s4, s5⟩; go_simp; with_reducible rfl); (simp only [Act.put, qA, qB, qC, i64_w, i32_w]; rfl)
                  refine pT (v := ?_) (a' := ?_) HT_ 12 (some 76) (mkB3 30 8191) ?_ ?_ ?_; rotate_left 2; (intro w'; go_simp; with_reducible rfl); (simp only [Act.put, qA, qB, qC, i64_w, i32_w]; rfl)
                  refine pT (v := ?_) (a' := ?_) HT_ 13 (some 77) (mkB3 30 16383) ?_ ?_ ?_; rotate_left 2; (intro w'; go_simp; with_reducible rfl); (simp only [Act.put, qA, qB, qC, i64_w, i32_w]; rfl)
                  refine pT (v := ?_) (a' := ?_) HT_ 14 (some 78) (mkB3 30 32767) ?_ ?_ ?_; rotate_left 2; (intro w'; go_simp; with_reducible rfl); (simp only [Act.put, qA, qB, qC, i64_w, i32_w]; rfl)
                  refine pT (v := ?_) (a' := ?_) HT_ 15 (some 79) (mkB3 30 65535) ?_ ?_ ?_; rotate_left 2; (intro w'; go_simp; with_reducible rfl); (simp only [Act.put, qA, qB, qC, i64_w, i32_w]; rfl)
                  refine pT (v := ?_) (a' := ?_) HT_ 16 (some 80) (mkB3 30 131071) ?_ ?_ ?_; rotate_left 2; (intro w'; go_simp; with_reducible rfl); (simp only [Act.put, qA, qB, qC, i64_w, i32_w]; rfl)
                  refine pT (v := ?_) (a' := ?_) HT_ 17 (some 81) (mkB3 30 262143) ?_ ?_ ?_; rotate_left 2; (intro w'; go_simp; with_reducible rfl); (simp only [Act.put, qA, qB, qC, i64_w, i32_w]; rfl)
                  refine nT (a' := ?_) HT_ 18 (some 82) (mkB3 30 524287) ?_ ?_; rotate_left; (simp only [Act.put, qA, qB, qC, i64_w, i32_w]; rfl)
                  refine nT (a' := ?_) HT_ 19 (some 83) (mkB3 30 1048575) ?_ ?_; rotate_left; (simp only [Act.put, qA, qB, qC, i64_w, i32_w]; rfl)
                  refine nT (a' := ?_) HT_ 20 (some 84) (mkB3 30 2097151) ?_ ?_; rotate_left; (simp only [Act.put, qA, qB, qC, i64_w, i32_w]; rfl)
                  refine nT (a' := ?_) HT_ 21 (some 85) (mkB3 30 4194303) ?_ ?_; rotate_left; (simp only [Act.put, qA, qB, qC, i64_w, i32_w]; rfl)
                  refine nT (a' := ?_) HT_ 22 (some 86) (mkB3 30 8388607) ?_ ?_; rotate_left; (simp only [Act.put, qA, qB, qC, i64_w, i32_w]; rfl)
                  refine nT (a' := ?_) HT_ 23 (some 87) (mkB3 30 16777215) ?_ ?_; rotate_left; (simp only [Act.put, qA, qB, qC, i64_w, i32_w]; rfl)
                  refine nT (a' := ?_) HT_ 24 (some 88) (mkB3 30 33554431) ?_ ?_; rotate_left; (simp only [Act.put, qA, qB, qC, i64_w, i32_w]; rfl)
                  refine nT (a' := ?_) HT_ 25 (some 89) (mkB3 30 67108863) ?_ ?_; rotate_left; (simp only [Act.put, qA, qB, qC, i64_w, i32_w]; rfl)
                  refine nT (a' := ?_) HT_ 26 (some 90) (mkB3 30 134217727) ?_ ?_; rotate_left; (simp only [Act.put, qA, qB, qC, i64_w, i32_w]; rfl)
                  refine nT (a' := ?_) HT_ 27 (some 91) (mkB3 30 268435455) ?_ ?_; rotate_left; (simp only [Act.put, qA, qB, qC, i64_w, i32_w]; rfl)
                  refine pT (v := ?_) (a' := ?_) HT_ 28 (some 92) (mkB3 30 536870911) ?_ ?_ ?_; rotate_left 2; (intro w'; go_simp; with_reducible rfl); (simp only [Act.put, qA, qB, qC, i64_w, i32_w]; rfl)
                  refine pT (v := ?_) (a' := ?_) HT_ 29 (some 93) (mkB3 30 1073741823) ?_ ?_ ?_; rotate_left 2; (intro w'; go_simp; with_reducible rfl); (simp only [Act.put, qA, qB, qC, i64_w, i32_w]; rfl)
                  refine done_ (done_of HT_.out (by kernel_rfl)) ?_
                  try go_wp2
                  go_roundg k2
                  case measure => have := HK1.out; have := HK2.out; omega
                  case rel => exact ⟨(wrap64 (x8_2 + 1)), (by first | rfl | (simp; done) | (simp [*]; done)), H', ⟨by have := HK1.out; have := HK2.out; omega⟩, ⟨by (with_reducible repeat (first | apply Kd.S_alloc | apply Kd.S_drewN | apply Kd.S_drew)); exact HO_3.out⟩, ⟨by (with_reducible repeat (first | refine blk_drewN ?_ _ | refine blk_drew ?_ | refine blk_alloc ?_ _)); exact BK217.out⟩, ⟨by repeat (first | (with_reducible exact HR224_0.out) | (with_reducible refine Kd.C_alloc ?_ _) | (with_reducible refine Kd.C_drewN ?_ _) | (with_reducible refine Kd.C_drew ?_) | exact HR224_0.out)⟩, ⟨by repeat (first | (with_reducible first | exact HB.out | apply below_alloc | apply pw_below_drewN | apply below_drew1 | refine below_set ?_ GE217.out) | exact HB.out)⟩⟩
              ·
               rw [if_neg c20] at H
               exact absurd H (by simp)
             ·
              rw [if_neg c19] at H
              exact absurd H (by simp)
            ·
             rw [if_neg c18] at H
             have c18b0 : decide ((wrap64 (x8_2 + 1)) < ((rd_L3 t218 x6_1).length : Int)) = false := decide_eq_false c18
             clear c18; have H' := Aside0.mk H
             clear H; go_wp2
             go_roundg k2
             case measure => have := HK1.out; have := HK2.out; omega
             case rel => exact ⟨((wrap64 ((wrap64 (x5_1 + ((rd_L3 t218 x6_1).length : Int))) - 1))), (wrap64 (x6_1 + 1)), (by first | rfl | (simp; done) | (simp [*]; done)), (by first | rfl | (simp; done) | (simp [*]; done)), H', ⟨by have := HK1.out; have := HK2.out; omega⟩, ⟨by (with_reducible repeat (first | apply Kd.S_alloc | apply Kd.S_drewN | apply Kd.S_drew)); exact HO_3.out⟩, ⟨by (with_reducible repeat (first | refine blk_drewN ?_ _ | refine blk_drew ?_ | refine blk_alloc ?_ _)); exact BK217.out⟩, ⟨by repeat (first | (with_reducible first | exact HB.out | apply below_alloc | apply pw_below_drewN | apply below_drew1 | refine below_set ?_ GE217.out) | exact HB.out)⟩⟩
         ·
          rw [if_neg c15] at H
          have c15b0 : ((rd (rd_L3 t218 x6_1) (ji12)) == (wrap64 (a0_1 + x6_1))) = false := beq_eq_false_iff_ne.mpr c15
          have c15b1 : ((rd (rd_L3 t218 x6_1) (ji12)) != (wrap64 (a0_1 + x6_1))) = true := bne_iff_ne.mpr c15
          obtain rfl := Option.some.inj H
          obtain ⟨Ao33, co33, eo33⟩ := Kd.S_slice HO_3.out
          subst eo33
          have p224 : 0 ≤ (x6_1 : Int) := of_decide_eq_true (by first | (with_reducible assumption) | assumption)
          have q224 : x6_1 < (t218.length : Int) := of_decide_eq_true (by first | (with_reducible assumption) | assumption)
          obtain ⟨ad224, A224_0, c224_0, e224, hx224_0, hl224_0, hi224_0⟩ := at_L3 (Kd.S_reads' HO_3.out).2.2 x6_1 p224 q224
          cases e224
          obtain ⟨ce224, hce224, hMe224, hcc224⟩ := Kd.S_get HO_3.out [] x6_1 p224 (by first | exact q224 | exact of_decide_eq_true (by first | (with_reducible assumption) | assumption) | (have e_ := (Kd.S_reads' HO_3.out).1; omega))
          obtain ⟨ve224_0, rfl, ge224_0⟩ := hMe224
          have hv224_0 := hcc224 0 _ rfl
          rw [Nat.add_zero, show ((Kd.slice 3 (Kd.int .i64))).sz = 1 from rfl, Nat.mul_one] at hv224_0
          replace hv224_0 := Option.some.inj (hv224_0.symm.trans hx224_0)
          rw [hv224_0] at ge224_0
          have HL224_0 := Aside0.mk (show Kd.R (Kd.int .i64) 3 _ _ _ _ (rd_L3 t218 x6_1) from ge224_0)
          clear hv224_0 ge224_0 hcc224 hce224; have HR224_0 := Aside0.mk hi224_0
          have HC224_0 := Aside0.mk hl224_0
          clear hi224_0 hl224_0; replace p224 := eq_true p224
          replace q224 := eq_true q224
          try go_wp2
          have n0_ := Aside0.mk (Kd.S_drew HO_3.out)
          have n1_ := Aside0.mk (Kd.R_drew HL224_0.out)
          have n2_ := Aside0.mk (blk_drew BK217.out)
          have n3_ := Aside0.mk (Kd.C_drew HR224_0.out)
          have n4_ := Aside0.mk (below_drew1 HB.out)
          clear HO_3 HL224_0 BK217 HR224_0 HB; have HO_3 := n0_; have HL224_0 := n1_; have BK217 := n2_; have HR224_0 := n3_; have HB := n4_; clear n0_ n1_ n2_ n3_ n4_; have p225 : 0 ≤ ((ji12) : Int) := of_decide_eq_true (by first | (with_reducible assumption) | assumption)
          have q225 : (ji12) < ((rd_L3 t218 x6_1).length : Int) := of_decide_eq_true (by first | (with_reducible assumption) | assumption)
          obtain ⟨ad225, e225, hx225_0⟩ := Kd.at_int (by repeat (first | (with_reducible exact HR224_0.out) | (with_reducible refine Kd.C_alloc ?_ _) | (with_reducible refine Kd.C_drewN ?_ _) | (with_reducible refine Kd.C_drew ?_) | exact HR224_0.out)) (ji12) p225 q225
          cases e225
          replace p225 := eq_true p225
          replace q225 := eq_true q225
          refine start_ (n := 16) (S := fun w' => w'.cell? ⟨gb217, 0, none⟩ = some (.int .i64 a0_0) ∧ w'.cell? ⟨gb217, 1, none⟩ = some (.int .i64 a0_1) ∧ w'.cell? ⟨gb217, 2, none⟩ = some (.int .i64 a0_2) ∧ w'.cell? ⟨gb217, 3, none⟩ = some (.int .i64 a0_3) ∧ w'.cell? (ad225.add ((ji12)).toNat) = some (.int .i64 (rd (rd_L3 t218 x6_1) (ji12)))) (ds := []) (mkB3 16 0) (by kernel_rfl) rfl rfl ⟨(blk_cell BK217.out 0).trans rfl, (blk_cell BK217.out 1).trans rfl, (blk_cell BK217.out 2).trans rfl, (blk_cell BK217.out 3).trans rfl, hx225_0⟩ (fun hHeld => ?_); refine with_tabW mosaiclaw09_OuterEach.tab9 mosaiclaw09_OuterEach.bits9 (fun HT_ HW_ => ?_)
          generalize wr.drew = w34 at HO_3 HL224_0 BK217 HR224_0 HB hx225_0 hHeld ⊢
          refine pT (v := ?_) (a' := ?_) HT_ 0 (some 36) (mkB3 16 1) ?_ ?_ ?_; rotate_left 2; (intro w'; go_simp; with_reducible rfl); (simp only [Act.put, qA, qB, qC, i64_w, i32_w]; rfl)
          refine pT (v := ?_) (a' := ?_) HT_ 1 (some 37) (mkB3 16 3) ?_ ?_ ?_; rotate_left 2; (intro w'; go_simp; with_reducible rfl); (simp only [Act.put, qA, qB, qC, i64_w, i32_w]; rfl)
          refine pT (v := ?_) (a' := ?_) HT_ 2 (some 38) (mkB3 16 7) ?_ ?_ ?_; rotate_left 2; (intro w'; go_simp; with_reducible rfl); (simp only [Act.put, qA, qB, qC, i64_w, i32_w]; rfl)
          refine pT (v := ?_) (a' := ?_) HT_ 3 (some 39) (mkB3 16 15) ?_ ?_ ?_; rotate_left 2; (intro w'; go_simp; with_reducible rfl); (simp only [Act.put, qA, qB, qC, i64_w, i32_w]; rfl)
          refine pT (v := ?_) (a' := ?_) HT_ 4 (some 40) (mkB3 16 31) ?_ ?_ ?_; rotate_left 2; (intro w'; go_simp; with_reducible rfl); (simp only [Act.put, qA, qB, qC, i64_w, i32_w]; rfl)
          refine pT (v := ?_) (a' := ?_) HT_ 5 (some 41) (mkB3 16 63) ?_ ?_ ?_; rotate_left 2; (intro w'; go_simp; with_reducible rfl); (simp only [Act.put, qA, qB, qC, i64_w, i32_w]; rfl)
          refine pT (v := ?_) (a' := ?_) HT_ 6 (some 42) (mkB3 16 127) ?_ ?_ ?_; rotate_left 2; (intro w'; go_simp; with_reducible rfl); (simp only [Act.put, qA, qB, qC, i64_w, i32_w]; rfl)
          refine pT (v := ?_) (a' := ?_) HT_ 7 (some 43) (mkB3 16 255) ?_ ?_ ?_; rotate_left 2; (intro w'; go_simp; with_reducible rfl); (simp only [Act.put, qA, qB, qC, i64_w, i32_w]; rfl)
          refine pT (v := ?_) (a' := ?_) HT_ 8 (some 44) (mkB3 16 511) ?_ ?_ ?_; rotate_left 2; (intro w'; go_simp; with_reducible rfl); (simp only [Act.put, qA, qB, qC, i64_w, i32_w]; rfl)
          refine pT (v := ?_) (a' := ?_) HT_ 10 (some 46) (mkB3 16 1535) ?_ ?_ ?_; rotate_left 2; (intro w'; go_simp; with_reducible rfl); (simp only [Act.put, qA, qB, qC, i64_w, i32_w]; rfl)
          refine pT (v := ?_) (a' := ?_) HT_ 12 (some 48) (mkB3 16 5631) ?_ ?_ ?_; rotate_left 2; (intro w'; go_simp; with_reducible rfl); (simp only [Act.put, qA, qB, qC, i64_w, i32_w]; rfl)
          refine tT (v := ?_) (a' := ?_) HT_ HW_ hHeld 9 (some 45) (mkB3 16 6143) ?_ ?_ ?_; rotate_left 2; (rintro w' ⟨s0, s1, s2, s3, s4⟩; go_simp; with_reducible rfl); (simp only [Act.put, qA, qB, qC, i64_w, i32_w]; rfl)
          refine tT (v := ?_) (a' := ?_) HT_ HW_ hHeld 11 (some 47) (mkB3 16 8191) ?_ ?_ ?_; rotate_left 2; (rintro w' ⟨s0, s1, s2, s3, s4⟩; go_simp; with_reducible rfl); (simp only [Act.put, qA, qB, qC, i64_w, i32_w]; rfl)
          refine pT (v := ?_) (a' := ?_) HT_ 13 (some 49) (mkB3 16 16383) ?_ ?_ ?_; rotate_left 2; (intro w'; go_simp; with_reducible rfl); (simp only [Act.put, qA, qB, qC, i64_w, i32_w]; rfl)
          refine pT (v := ?_) (a' := ?_) HT_ 14 (some 50) (mkB3 16 32767) ?_ ?_ ?_; rotate_left 2; (intro w'; go_simp; with_reducible rfl); (simp only [Act.put, qA, qB, qC, i64_w, i32_w]; rfl)
          refine pT (v := ?_) (a' := ?_) HT_ 15 (some 51) (mkB3 16 65535) ?_ ?_ ?_; rotate_left 2; (intro w'; go_simp; with_reducible rfl); (simp only [Act.put, qA, qB, qC, i64_w, i32_w]; rfl)
          refine done_ (done_of HT_.out (by kernel_rfl)) ?_
          try go_wp2
          go_ret
          exact ⟨by first | rfl | (simp [errW_none, errW_some] <;> rfl) | (simp only [← hji12]; first | rfl | (simp [errW_none, errW_some] <;> rfl)) | (simp [*, errW_none, errW_some] <;> rfl), by repeat (first | (with_reducible first | exact HB.out | apply below_alloc | apply pw_below_drewN | apply below_drew1 | refine below_set ?_ GE217.out) | exact HB.out)⟩
        ·
         rw [if_neg c14] at H
         exact absurd H (by simp)
       ·
        rw [if_neg c13] at H
        exact absurd H (by simp)
     ·
      rw [if_neg c8] at H
      exact absurd H (by simp)
    ·
     rw [if_neg c7] at H
     have c7b0 : decide (x6_1 < (t218.length : Int)) = false := decide_eq_false c7
     clear c7; have H' := Aside0.mk H
     clear H; obtain ⟨Ao35, co35, eo35⟩ := Kd.S_slice HO_3.out
     subst eo35
     go_wp2
     go_loopg [9] k1 (fun kq v9 w' => ∃ (x9_2 : Int), v9 = .int .i64 x9_2 ∧ Aside0 (mosaiclaw09_OuterEach.l2 kq t218 x5_1 x9_2 a0_0 a0_1 a0_2 a0_3 = some r) ∧ Aside0 (kq ≤ k1) ∧ Aside0 (Kd.S (Kd.slice 3 (Kd.int .i64)) 30 w' w.heap.size (fun _ => True) (.slice Ao35 t218.length co35) t218) ∧ Aside0 (w'.heap[gb217]? = some (.cells #[.int .i64 a0_0, .int .i64 a0_1, .int .i64 a0_2, .int .i64 a0_3] 23 (0, 0))) ∧ Aside0 (Below w.heap.size w w'))
     case atStart => exact ⟨(0), (by first | rfl | (simp; done) | (simp [*]; done)), H', ⟨Nat.le_refl _⟩, ⟨by (with_reducible repeat (first | apply Kd.S_alloc | apply Kd.S_drewN | apply Kd.S_drew)); exact HO_3.out⟩, ⟨by (with_reducible repeat (first | refine blk_drewN ?_ _ | refine blk_drew ?_ | refine blk_alloc ?_ _)); exact BK217.out⟩, ⟨by repeat (first | (with_reducible first | exact HB.out | apply below_alloc | apply pw_below_drewN | apply below_drew1 | refine below_set ?_ GE217.out) | exact HB.out)⟩⟩
     case round =>
      clear H'
      (try clear c1); (try clear c2); (try clear p2); (try clear q2); (try clear hx2); (try clear p6); (try clear c7); (try clear c7b0); (try clear c8); (try clear c13); (try clear c14); (try clear c15); (try clear c15b0); (try clear c15b1); (try clear c18); (try clear c18b0); (try clear c19); (try clear c20); (try clear c22); (try clear p22); (try clear q22); (try clear hx22); (try clear c25); (try clear c25b0); (try clear c27); (try clear c28); (try clear hx224_0); (try clear hx225_0); (try clear hx226_0); (try clear hx227_0); (try clear p224); (try clear p225); (try clear p226); (try clear p227); (try clear q224); (try clear q225); (try clear q226); (try clear q227); obtain ⟨x9_2, rfl, HA, HK2, HO_3, BK217, HB⟩ := hrel
      cases gk with
      | zero => exact absurd HA.out (by simp [mosaiclaw09_OuterEach.l2])
      | succ k2 =>
       have H := HA.out; clear HA; simp only [mosaiclaw09_OuterEach.l2] at H
       by_cases c36 : x9_2 < a0_1
       ·
        rw [if_pos c36] at H
        have c36b0 : decide (x9_2 < a0_1) = true := decide_eq_true c36
        clear c36; replace H := Option.bind_eq_some_iff.mp H
        obtain ⟨⟨t231, t234⟩, A370, H⟩ := H
        replace H : (if t234 = 0 then (if (t231.length : Int) = (mn a0_3 a0_2) then (mosaiclaw09_OuterEach.l3 k2 t218 x5_1 x9_2 t231 0 a0_0 a0_1 a0_2 a0_3) else (some false)) else (some false)) = some r := H
        have A37 := Aside0.mk A370
        clear A370; by_cases c38 : t234 = 0
        ·
         rw [if_pos c38] at H
         have c38b0 : (t234 == 0) = true := beq_iff_eq.mpr c38
         have c38b1 : (t234 != 0) = false := bne_eq_false_iff_eq.mpr c38
         clear c38; obtain ⟨ji39, hji39⟩ : ∃ j_ : Int, (mn a0_3 a0_2) = j_ := ⟨_, rfl⟩
         replace H : (if (t231.length : Int) = (ji39) then (mosaiclaw09_OuterEach.l3 k2 t218 x5_1 x9_2 t231 0 a0_0 a0_1 a0_2 a0_3) else (some false)) = some r := by first | (rw [hji39] at H; exact H) | (simp only [hji39] at H ⊢; exact H)
         (try rw [hji39] at A37)
         have hji39_ : (if a0_2 < a0_3 then a0_2 else a0_3) = ji39 := hji39
         by_cases c40 : (t231.length : Int) = (ji39)
         ·
          rw [if_pos c40] at H
          have c40b0 : ((t231.length : Int) == (ji39)) = true := beq_iff_eq.mpr c40
          have c40b1 : ((t231.length : Int) != (ji39)) = false := bne_eq_false_iff_eq.mpr c40
          clear c40; have H' := Aside0.mk H
          clear H; have hcz41_0 : wr.cell? ⟨gb217, 0, none⟩ = some (.int .i64 a0_0) := (blk_cell BK217.out 0).trans rfl
          have hcz41_1 : wr.cell? ⟨gb217, 1, none⟩ = some (.int .i64 a0_1) := (blk_cell BK217.out 1).trans rfl
          have hcz41_2 : wr.cell? ⟨gb217, 2, none⟩ = some (.int .i64 a0_2) := (blk_cell BK217.out 2).trans rfl
          have hcz41_3 : wr.cell? ⟨gb217, 3, none⟩ = some (.int .i64 a0_3) := (blk_cell BK217.out 3).trans rfl
          have hfz41_0 := blk_frozen BK217.out 0; have hfz41_1 := blk_frozen BK217.out 1; have hfz41_2 := blk_frozen BK217.out 2; have hfz41_3 := blk_frozen BK217.out 3; go_wp2_with (first | ((with_reducible refine gate_callee (f := 9) rfl ?_); refine goesL_ (some 103) rfl rfl Try.func9 (by kernel_rfl) rfl #[.agg #[.int .i64 a0_0, .int .i64 a0_1, .int .i64 a0_2, .int .i64 a0_3], .int .i64 x9_2] rfl (by (try simp only [List.map_toArray, List.map_cons, List.map_nil]); first | done | rfl | (simp only [List.length_drop, List.length_take]; rfl)) ?_; (with_reducible refine (outer_Joins.calls k2 a0_0 a0_1 a0_2 a0_3 x9_2 t231 t234 _ A37.out).mono ?_); rintro e w42 ⟨v232, rfl, ho0, hb⟩; refine ⟨_, rfl, ?_⟩; have n0_ := Aside0.mk (Kd.S_elder' (by (with_reducible repeat (first | apply Kd.S_alloc | apply Kd.S_drewN | apply Kd.S_drew)); exact HO_3.out) (Kd.QC_base ho0) hb); have n1_ := Aside0.mk (Kd.QC_lower ho0 (below_size (by repeat (first | (with_reducible first | exact HB.out | apply below_alloc | apply pw_below_drewN | apply below_drew1 | refine below_set ?_ GE217.out) | exact HB.out)))); have n2_ := Aside0.mk (blk_below (g := gb217) (o := .cells #[.int .i64 a0_0, .int .i64 a0_1, .int .i64 a0_2, .int .i64 a0_3] 23 (0, 0)) (by (with_reducible repeat (first | refine blk_drewN ?_ _ | refine blk_drew ?_ | refine blk_alloc ?_ _)); exact BK217.out) hb); have n3_ := Aside0.mk (below_step (by repeat (first | (with_reducible first | exact HB.out | apply below_alloc | apply pw_below_drewN | apply below_drew1 | refine below_set ?_ GE217.out) | exact HB.out)) hb); clear HO_3; clear BK217; clear HB; have HO_3 := n0_; have HO233 := n1_; have BK217 := n2_; have HB := n3_; clear n0_ n1_ n2_ n3_; (try clear hb); (try clear hb2); (try clear hk); (try clear hi); (try clear ho0); obtain ⟨Ao43, co43, eo43, _⟩ := Kd.QC_slice HO233.out; subst eo43; have hcz44_0 : w42.cell? ⟨gb217, 0, none⟩ = some (.int .i64 a0_0) := (blk_cell BK217.out 0).trans rfl; have hcz44_1 : w42.cell? ⟨gb217, 1, none⟩ = some (.int .i64 a0_1) := (blk_cell BK217.out 1).trans rfl; have hcz44_2 : w42.cell? ⟨gb217, 2, none⟩ = some (.int .i64 a0_2) := (blk_cell BK217.out 2).trans rfl; have hcz44_3 : w42.cell? ⟨gb217, 3, none⟩ = some (.int .i64 a0_3) := (blk_cell BK217.out 3).trans rfl; have hfz44_0 := blk_frozen BK217.out 0; have hfz44_1 := blk_frozen BK217.out 1; have hfz44_2 := blk_frozen BK217.out 2; have hfz44_3 := blk_frozen BK217.out 3))
          go_loopg [12] k2 (fun kq v12 w' => ∃ (x12_3 : Int), v12 = .int .i64 x12_3 ∧ Aside0 (mosaiclaw09_OuterEach.l3 kq t218 x5_1 x9_2 t231 x12_3 a0_0 a0_1 a0_2 a0_3 = some r) ∧ Aside0 (kq ≤ k2) ∧ Aside0 (Kd.S (Kd.slice 3 (Kd.int .i64)) 30 w' w.heap.size (fun k_ => some k_ ≠ ((.slice Ao43 t231.length co43) : Value).ownBlock) (.slice Ao35 t218.length co35) t218) ∧ Aside0 (Kd.QC (Kd.int .i64) 3 w' w.heap.size (fun _ => True) (.slice Ao43 t231.length co43) t231) ∧ Aside0 (w'.heap[gb217]? = some (.cells #[.int .i64 a0_0, .int .i64 a0_1, .int .i64 a0_2, .int .i64 a0_3] 23 (0, 0))) ∧ Aside0 (Below w.heap.size w w'))
          case atStart => exact ⟨(0), (by first | rfl | (simp; done) | (simp [*]; done)), H', ⟨Nat.le_refl _⟩, ⟨by (with_reducible repeat (first | apply Kd.S_alloc | apply Kd.S_drewN | apply Kd.S_drew)); exact Kd.S_mono HO_3.out (fun _ hk => hk.2)⟩, ⟨by (with_reducible repeat (first | apply Kd.QC_alloc | apply Kd.QC_drewN | apply Kd.QC_drew)); exact HO233.out⟩, ⟨by (with_reducible repeat (first | refine blk_drewN ?_ _ | refine blk_drew ?_ | refine blk_alloc ?_ _)); exact BK217.out⟩, ⟨by repeat (first | (with_reducible first | exact HB.out | apply below_alloc | apply pw_below_drewN | apply below_drew1 | refine below_set ?_ GE217.out) | exact HB.out)⟩⟩
          case round =>
           clear H'
           (try clear c1); (try clear c2); (try clear p2); (try clear q2); (try clear hx2); (try clear c3); (try clear c4); (try clear p6); (try clear c7); (try clear c7b0); (try clear c8); (try clear c9); (try clear c13); (try clear c14); (try clear c15); (try clear c15b0); (try clear c15b1); (try clear c18); (try clear c18b0); (try clear c19); (try clear c20); (try clear c22); (try clear p22); (try clear q22); (try clear hx22); (try clear c25); (try clear c25b0); (try clear c27); (try clear c28); (try clear c36); (try clear c36b0); (try clear c38); (try clear c38b0); (try clear c38b1); (try clear c40); (try clear c40b0); (try clear c40b1); (try clear hcz41_0); (try clear hcz41_1); (try clear hcz41_2); (try clear hcz41_3); (try clear hcz44_0); (try clear hcz44_1); (try clear hcz44_2); (try clear hcz44_3); (try clear hfz41_0); (try clear hfz41_1); (try clear hfz41_2); (try clear hfz41_3); (try clear hfz44_0); (try clear hfz44_1); (try clear hfz44_2); (try clear hfz44_3); (try clear hx224_0); (try clear hx225_0); (try clear hx226_0); (try clear hx227_0); (try clear p2); (try clear p22); (try clear p224); (try clear p225); (try clear p226); (try clear p227); (try clear p6); (try clear q2); (try clear q22); (try clear q224); (try clear q225); (try clear q226); (try clear q227); obtain ⟨x12_3, rfl, HA, HK3, HO_3, HO_10, BK217, HB⟩ := hrel
           cases gk with
           | zero => exact absurd HA.out (by simp [mosaiclaw09_OuterEach.l3])
           | succ k3 =>
            have H := HA.out; clear HA; simp only [mosaiclaw09_OuterEach.l3] at H
            by_cases c45 : x12_3 < (t231.length : Int)
            ·
             rw [if_pos c45] at H
             have c45b0 : decide (x12_3 < (t231.length : Int)) = true := decide_eq_true c45
             clear c45; by_cases c46 : 0 ≤ x12_3
             ·
              rw [if_pos c46] at H
              have c46b0 : decide (0 ≤ x12_3) = true := decide_eq_true c46
              clear c46; by_cases c47 : (rd t231 x12_3) < 0
              ·
               rw [if_pos c47] at H
               have c47b0 : decide ((rd t231 x12_3) < 0) = true := decide_eq_true c47
               clear c47; obtain rfl := Option.some.inj H
               try go_wp2
               have n0_ := Aside0.mk (Kd.S_drew HO_3.out)
               have n1_ := Aside0.mk (Kd.QC_drew HO_10.out)
               have n2_ := Aside0.mk (blk_drew BK217.out)
               have n3_ := Aside0.mk (below_drew1 HB.out)
               clear HO_3 HO_10 BK217 HB; have HO_3 := n0_; have HO_10 := n1_; have BK217 := n2_; have HB := n3_; clear n0_ n1_ n2_ n3_; have p235 : 0 ≤ (x12_3 : Int) := of_decide_eq_true (by first | (with_reducible assumption) | assumption)
               have q235 : x12_3 < (t231.length : Int) := of_decide_eq_true (by first | (with_reducible assumption) | assumption)
               obtain ⟨ad235, e235, hx235_0⟩ := Kd.at_int (Kd.QC_reads' HO_10.out).2.2 x12_3 p235 q235
               cases e235
               replace p235 := eq_true p235
               replace q235 := eq_true q235
               refine start_ (n := 42) (S := fun w' => w'.cell? (ad235.add (x12_3).toNat) = some (.int .i64 (rd t231 x12_3))) (ds := []) (mkB3 42 0) (by kernel_rfl) rfl rfl (hx235_0) (fun hHeld => ?_); refine with_tabW mosaiclaw09_OuterEach.tab26 mosaiclaw09_OuterEach.bits26 (fun HT_ HW_ => ?_)
               generalize wr.drew = w48 at HO_3 HO_10 BK217 HB hx235_0 hHeld ⊢
               refine pT (v := ?_) (a' := ?_) HT_ 0 (some 124) (mkB3 42 1) ?_ ?_ ?_; rotate_left 2; (intro w'; go_simp; with_reducible rfl); (simp only [Act.put, qA, qB, qC, i64_w, i32_w]; rfl)
               refine pT (v := ?_) (a' := ?_) HT_ 1 (some 125) (mkB3 42 3) ?_ ?_ ?_; rotate_left 2; (intro w'; go_simp; with_reducible rfl); (simp only [Act.put, qA, qB, qC, i64_w, i32_w]; rfl)
               refine pT (v := ?_) (a' := ?_) HT_ 2 (some 126) (mkB3 42 7) ?_ ?_ ?_; rotate_left 2; (intro w'; go_simp; with_reducible rfl); (simp only [Act.put, qA, qB, qC, i64_w, i32_w]; rfl)
               refine tT (v := ?_) (a' := ?_) HT_ HW_ hHeld 3 (some 127) (mkB3 42 15) ?_ ?_ ?_; rotate_left 2; (intro w' s0; go_simp; with_reducible rfl); (simp only [Act.put, qA, qB, qC, i64_w, i32_w]; rfl)
               refine pT (v := ?_) (a' := ?_) HT_ 4 (some 128) (mkB3 42 31) ?_ ?_ ?_; rotate_left 2; (intro w'; go_simp; with_reducible rfl); (simp only [Act.put, qA, qB, qC, i64_w, i32_w]; rfl)
               refine pT (v := ?_) (a' := ?_) HT_ 5 (some 129) (mkB3 42 63) ?_ ?_ ?_; rotate_left 2; (intro w'; go_simp; with_reducible rfl); (simp only [Act.put, qA, qB, qC, i64_w, i32_w]; rfl)
               refine nT (a' := ?_) HT_ 6 (some 130) (mkB3 42 127) ?_ ?_; rotate_left; (simp only [Act.put, qA, qB, qC, i64_w, i32_w]; rfl)
               refine nT (a' := ?_) HT_ 7 (some 131) (mkB3 42 255) ?_ ?_; rotate_left; (simp only [Act.put, qA, qB, qC, i64_w, i32_w]; rfl)
               refine nT (a' := ?_) HT_ 8 (some 132) (mkB3 42 511) ?_ ?_; rotate_left; (simp only [Act.put, qA, qB, qC, i64_w, i32_w]; rfl)
               refine nT (a' := ?_) HT_ 9 (some 133) (mkB3 42 1023) ?_ ?_; rotate_left; (simp only [Act.put, qA, qB, qC, i64_w, i32_w]; rfl)
               refine nT (a' := ?_) HT_ 10 (some 134) (mkB3 42 2047) ?_ ?_; rotate_left; (simp only [Act.put, qA, qB, qC, i64_w, i32_w]; rfl)
               refine nT (a' := ?_) HT_ 11 (some 135) (mkB3 42 4095) ?_ ?_; rotate_left; (simp only [Act.put, qA, qB, qC, i64_w, i32_w]; rfl)
               refine nT (a' := ?_) HT_ 12 (some 136) (mkB3 42 8191) ?_ ?_; rotate_left; (simp only [Act.put, qA, qB, qC, i64_w, i32_w]; rfl)
               refine pT (v := ?_) (a' := ?_) HT_ 13 (some 137) (mkB3 42 16383) ?_ ?_ ?_; rotate_left 2; (intro w'; go_simp; with_reducible rfl); (simp only [Act.put, qA, qB, qC, i64_w, i32_w]; rfl)
               refine pT (v := ?_) (a' := ?_) HT_ 14 (some 138) (mkB3 42 32767) ?_ ?_ ?_; rotate_left 2; (intro w'; go_simp; with_reducible rfl); (simp only [Act.put, qA, qB, qC, i64_w, i32_w]; rfl)
               refine nT (a' := ?_) HT_ 15 (some 139) (mkB3 42 65535) ?_ ?_; rotate_left; (simp only [Act.put, qA, qB, qC, i64_w, i32_w]; rfl)
               refine nT (a' := ?_) HT_ 16 (some 140) (mkB3 42 131071) ?_ ?_; rotate_left; (simp only [Act.put, qA, qB, qC, i64_w, i32_w]; rfl)
               refine nT (a' := ?_) HT_ 17 (some 141) (mkB3 42 262143) ?_ ?_; rotate_left; (simp only [Act.put, qA, qB, qC, i64_w, i32_w]; rfl)
               refine nT (a' := ?_) HT_ 18 (some 142) (mkB3 42 524287) ?_ ?_; rotate_left; (simp only [Act.put, qA, qB, qC, i64_w, i32_w]; rfl)
               refine nT (a' := ?_) HT_ 19 (some 143) (mkB3 42 1048575) ?_ ?_; rotate_left; (simp only [Act.put, qA, qB, qC, i64_w, i32_w]; rfl)
               refine nT (a' := ?_) HT_ 20 (some 144) (mkB3 42 2097151) ?_ ?_; rotate_left; (simp only [Act.put, qA, qB, qC, i64_w, i32_w]; rfl)
               refine nT (a' := ?_) HT_ 21 (some 145) (mkB3 42 4194303) ?_ ?_; rotate_left; (simp only [Act.put, qA, qB, qC, i64_w, i32_w]; rfl)
               refine nT (a' := ?_) HT_ 22 (some 146) (mkB3 42 8388607) ?_ ?_; rotate_left; (simp only [Act.put, qA, qB, qC, i64_w, i32_w]; rfl)
               refine nT (a' := ?_) HT_ 23 (some 147) (mkB3 42 16777215) ?_ ?_; rotate_left; (simp only [Act.put, qA, qB, qC, i64_w, i32_w]; rfl)
               refine nT (a' := ?_) HT_ 24 (some 148) (mkB3 42 33554431) ?_ ?_; rotate_left; (simp only [Act.put, qA, qB, qC, i64_w, i32_w]; rfl)
               refine nT (a' := ?_) HT_ 25 (some 149) (mkB3 42 67108863) ?_ ?_; rotate_left; (simp only [Act.put, qA, qB, qC, i64_w, i32_w]; rfl)
               refine nT (a' := ?_) HT_ 26 (some 150) (mkB3 42 134217727) ?_ ?_; rotate_left; (simp only [Act.put, qA, qB, qC, i64_w, i32_w]; rfl)
               refine nT (a' := ?_) HT_ 27 (some 151) (mkB3 42 268435455) ?_ ?_; rotate_left; (simp only [Act.put, qA, qB, qC, i64_w, i32_w]; rfl)
               refine nT (a' := ?_) HT_ 28 (some 152) (mkB3 42 536870911) ?_ ?_; rotate_left; (simp only [Act.put, qA, qB, qC, i64_w, i32_w]; rfl)
               refine pT (v := ?_) (a' := ?_) HT_ 29 (some 153) (mkB3 42 1073741823) ?_ ?_ ?_; rotate_left 2; (intro w'; go_simp; with_reducible rfl); (simp only [Act.put, qA, qB, qC, i64_w, i32_w]; rfl)
               refine pT (v := ?_) (a' := ?_) HT_ 30 (some 154) (mkB3 42 2147483647) ?_ ?_ ?_; rotate_left 2; (intro w'; go_simp; with_reducible rfl); (simp only [Act.put, qA, qB, qC, i64_w, i32_w]; rfl)
               refine nT (a' := ?_) HT_ 31 (some 155) (mkB3 42 4294967295) ?_ ?_; rotate_left; (simp only [Act.put, qA, qB, qC, i64_w, i32_w]; rfl)
               refine nT (a' := ?_) HT_ 32 (some 156) (mkB3 42 8589934591) ?_ ?_; rotate_left; (simp only [Act.put, qA, qB, qC, i64_w, i32_w]; rfl)
               refine nT (a' := ?_) HT_ 33 (some 157) (mkB3 42 17179869183) ?_ ?_; rotate_left; (simp only [Act.put, qA, qB, qC, i64_w, i32_w]; rfl)
               refine nT (a' := ?_) HT_ 34 (some 158) (mkB3 42 34359738367) ?_ ?_; rotate_left; (simp only [Act.put, qA, qB, qC, i64_w, i32_w]; rfl)
               refine nT (a' := ?_) HT_ 35 (some 159) (mkB3 42 68719476735) ?_ ?_; rotate_left; (simp only [Act.put, qA, qB, qC, i64_w, i32_w]; rfl)
               refine nT (a' := ?_) HT_ 36 (some 160) (mkB3 42 137438953471) ?_ ?_; rotate_left; (simp only [Act.put, qA, qB, qC, i64_w, i32_w]; rfl)
               refine nT (a' := ?_) HT_ 37 (some 161) (mkB3 42 274877906943) ?_ ?_; rotate_left; (simp only [Act.put, qA, qB, qC, i64_w, i32_w]; rfl)
               refine nT (a' := ?_) HT_ 38 (some 162) (mkB3 42 549755813887) ?_ ?_; rotate_left; (simp only [Act.put, qA, qB, qC, i64_w, i32_w]; rfl)
               refine nT (a' := ?_) HT_ 39 (some 163) (mkB3 42 1099511627775) ?_ ?_; rotate_left; (simp only [Act.put, qA, qB, qC, i64_w, i32_w]; rfl)
               refine nT (a' := ?_) HT_ 40 (some 164) (mkB3 42 2199023255551) ?_ ?_; rotate_left; (simp only [Act.put, qA, qB, qC, i64_w, i32_w]; rfl)
               refine pT (v := ?_) (a' := ?_) HT_ 41 (some 165) (mkB3 42 4398046511103) ?_ ?_ ?_; rotate_left 2; (intro w'; go_simp; with_reducible rfl); (simp only [Act.put, qA, qB, qC, i64_w, i32_w]; rfl)
               refine done_ (done_of HT_.out (by kernel_rfl)) ?_
               try go_wp2
               go_ret
               exact ⟨by first | rfl | (simp [errW_none, errW_some] <;> rfl) | (simp only [← hji39]; first | rfl | (simp [errW_none, errW_some] <;> rfl)) | (simp [*, errW_none, errW_some] <;> rfl), by repeat (first | (with_reducible first | exact HB.out | apply below_alloc | apply pw_below_drewN | apply below_drew1 | refine below_set ?_ GE217.out) | exact HB.out)⟩
              ·
               rw [if_neg c47] at H
               have c47b0 : decide ((rd t231 x12_3) < 0) = false := decide_eq_false c47
               clear c47; by_cases c49 : (rd t231 x12_3) ≥ a0_2
               ·
                rw [if_pos c49] at H
                have c49b0 : decide (a0_2 ≤ (rd t231 x12_3)) = true := decide_eq_true c49
                clear c49; obtain rfl := Option.some.inj H
                try go_wp2
                have n0_ := Aside0.mk (Kd.S_drew HO_3.out)
                have n1_ := Aside0.mk (Kd.QC_drew HO_10.out)
                have n2_ := Aside0.mk (blk_drew BK217.out)
                have n3_ := Aside0.mk (below_drew1 HB.out)
                clear HO_3 HO_10 BK217 HB; have HO_3 := n0_; have HO_10 := n1_; have BK217 := n2_; have HB := n3_; clear n0_ n1_ n2_ n3_; have p235 : 0 ≤ (x12_3 : Int) := of_decide_eq_true (by first | (with_reducible assumption) | assumption)
                have q235 : x12_3 < (t231.length : Int) := of_decide_eq_true (by first | (with_reducible assumption) | assumption)
                obtain ⟨ad235, e235, hx235_0⟩ := Kd.at_int (Kd.QC_reads' HO_10.out).2.2 x12_3 p235 q235
                cases e235
                replace p235 := eq_true p235
                replace q235 := eq_true q235
                have p236 : 0 ≤ (x12_3 : Int) := of_decide_eq_true (by first | (with_reducible assumption) | assumption)
                have q236 : x12_3 < (t231.length : Int) := of_decide_eq_true (by first | (with_reducible assumption) | assumption)
                obtain ⟨ad236, e236, hx236_0⟩ := Kd.at_int (Kd.QC_reads' HO_10.out).2.2 x12_3 p236 q236
                obtain rfl : ad235 = ad236 := (by injection e236)
                replace p236 := eq_true p236
                replace q236 := eq_true q236
                refine start_ (n := 42) (S := fun w' => w'.cell? ⟨gb217, 0, none⟩ = some (.int .i64 a0_0) ∧ w'.cell? ⟨gb217, 1, none⟩ = some (.int .i64 a0_1) ∧ w'.cell? ⟨gb217, 2, none⟩ = some (.int .i64 a0_2) ∧ w'.cell? ⟨gb217, 3, none⟩ = some (.int .i64 a0_3) ∧ w'.cell? (ad235.add (x12_3).toNat) = some (.int .i64 (rd t231 x12_3)) ∧ w'.cell? (ad235.add (x12_3).toNat) = some (.int .i64 (rd t231 x12_3))) (ds := []) (mkB3 42 0) (by kernel_rfl) rfl rfl ⟨(blk_cell BK217.out 0).trans rfl, (blk_cell BK217.out 1).trans rfl, (blk_cell BK217.out 2).trans rfl, (blk_cell BK217.out 3).trans rfl, hx235_0, hx236_0⟩ (fun hHeld => ?_); refine with_tabW mosaiclaw09_OuterEach.tab26 mosaiclaw09_OuterEach.bits26 (fun HT_ HW_ => ?_)
                generalize wr.drew = w50 at HO_3 HO_10 BK217 HB hx235_0 hx236_0 hHeld ⊢
                refine pT (v := ?_) (a' := ?_) HT_ 0 (some 124) (mkB3 42 1) ?_ ?_ ?_; rotate_left 2; (intro w'; go_simp; with_reducible rfl); (simp only [Act.put, qA, qB, qC, i64_w, i32_w]; rfl)
                refine pT (v := ?_) (a' := ?_) HT_ 1 (some 125) (mkB3 42 3) ?_ ?_ ?_; rotate_left 2; (intro w'; go_simp; with_reducible rfl); (simp only [Act.put, qA, qB, qC, i64_w, i32_w]; rfl)
                refine pT (v := ?_) (a' := ?_) HT_ 2 (some 126) (mkB3 42 7) ?_ ?_ ?_; rotate_left 2; (intro w'; go_simp; with_reducible rfl); (simp only [Act.put, qA, qB, qC, i64_w, i32_w]; rfl)
                refine tT (v := ?_) (a' := ?_) HT_ HW_ hHeld 3 (some 127) (mkB3 42 15) ?_ ?_ ?_; rotate_left 2; (rintro w' ⟨s0, s1, s2, s3, s4, s5⟩; go_simp; with_reducible rfl); (simp only [Act.put, qA, qB, qC, i64_w, i32_w]; rfl)
                refine pT (v := ?_) (a' := ?_) HT_ 4 (some 128) (mkB3 42 31) ?_ ?_ ?_; rotate_left 2; (intro w'; go_simp; with_reducible rfl); (simp only [Act.put, qA, qB, qC, i64_w, i32_w]; rfl)
                refine pT (v := ?_) (a' := ?_) HT_ 5 (some 129) (mkB3 42 63) ?_ ?_ ?_; rotate_left 2; (intro w'; go_simp; with_reducible rfl); (simp only [Act.put, qA, qB, qC, i64_w, i32_w]; rfl)
                refine pT (v := ?_) (a' := ?_) HT_ 6 (some 130) (mkB3 42 127) ?_ ?_ ?_; rotate_left 2; (intro w'; go_simp; with_reducible rfl); (simp only [Act.put, qA, qB, qC, i64_w, i32_w]; rfl)
                refine pT (v := ?_) (a' := ?_) HT_ 7 (some 131) (mkB3 42 255) ?_ ?_ ?_; rotate_left 2; (intro w'; go_simp; with_reducible rfl); (simp only [Act.put, qA, qB, qC, i64_w, i32_w]; rfl)
                refine pT (v := ?_) (a' := ?_) HT_ 8 (some 132) (mkB3 42 511) ?_ ?_ ?_; rotate_left 2; (intro w'; go_simp; with_reducible rfl); (simp only [Act.put, qA, qB, qC, i64_w, i32_w]; rfl)
                refine pT (v := ?_) (a' := ?_) HT_ 10 (some 134) (mkB3 42 1535) ?_ ?_ ?_; rotate_left 2; (intro w'; go_simp; with_reducible rfl); (simp only [Act.put, qA, qB, qC, i64_w, i32_w]; rfl)
                refine tT (v := ?_) (a' := ?_) HT_ HW_ hHeld 9 (some 133) (mkB3 42 2047) ?_ ?_ ?_; rotate_left 2; (rintro w' ⟨s0, s1, s2, s3, s4, s5⟩; go_simp; with_reducible rfl); (simp only [Act.put, qA, qB, qC, i64_w, i32_w]; rfl)
                refine tT (v := ?_) (a' := ?_) HT_ HW_ hHeld 11 (some 135) (mkB3 42 4095) ?_ ?_ ?_; rotate_left 2; (rintro w' ⟨s0, s1, s2, s3, s4, s5⟩; go_simp; with_reducible rfl); (simp only [Act.put, qA, qB, qC, i64_w, i32_w]; rfl)
                refine pT (v := ?_) (a' := ?_) HT_ 12 (some 136) (mkB3 42 8191) ?_ ?_ ?_; rotate_left 2; (intro w'; go_simp; with_reducible rfl); (simp only [Act.put, qA, qB, qC, i64_w, i32_w]; rfl)
                refine pT (v := ?_) (a' := ?_) HT_ 13 (some 137) (mkB3 42 16383) ?_ ?_ ?_; rotate_left 2; (intro w'; go_simp; with_reducible rfl); (simp only [Act.put, qA, qB, qC, i64_w, i32_w]; rfl)
                refine pT (v := ?_) (a' := ?_) HT_ 14 (some 138) (mkB3 42 32767) ?_ ?_ ?_; rotate_left 2; (intro w'; go_simp; with_reducible rfl); (simp only [Act.put, qA, qB, qC, i64_w, i32_w]; rfl)
                refine nT (a' := ?_) HT_ 15 (some 139) (mkB3 42 65535) ?_ ?_; rotate_left; (simp only [Act.put, qA, qB, qC, i64_w, i32_w]; rfl)
                refine nT (a' := ?_) HT_ 16 (some 140) (mkB3 42 131071) ?_ ?_; rotate_left; (simp only [Act.put, qA, qB, qC, i64_w, i32_w]; rfl)
                refine nT (a' := ?_) HT_ 17 (some 141) (mkB3 42 262143) ?_ ?_; rotate_left; (simp only [Act.put, qA, qB, qC, i64_w, i32_w]; rfl)
                refine nT (a' := ?_) HT_ 18 (some 142) (mkB3 42 524287) ?_ ?_; rotate_left; (simp only [Act.put, qA, qB, qC, i64_w, i32_w]; rfl)
                refine nT (a' := ?_) HT_ 19 (some 143) (mkB3 42 1048575) ?_ ?_; rotate_left; (simp only [Act.put, qA, qB, qC, i64_w, i32_w]; rfl)
                refine nT (a' := ?_) HT_ 20 (some 144) (mkB3 42 2097151) ?_ ?_; rotate_left; (simp only [Act.put, qA, qB, qC, i64_w, i32_w]; rfl)
                refine nT (a' := ?_) HT_ 21 (some 145) (mkB3 42 4194303) ?_ ?_; rotate_left; (simp only [Act.put, qA, qB, qC, i64_w, i32_w]; rfl)
                refine nT (a' := ?_) HT_ 22 (some 146) (mkB3 42 8388607) ?_ ?_; rotate_left; (simp only [Act.put, qA, qB, qC, i64_w, i32_w]; rfl)
                refine nT (a' := ?_) HT_ 23 (some 147) (mkB3 42 16777215) ?_ ?_; rotate_left; (simp only [Act.put, qA, qB, qC, i64_w, i32_w]; rfl)
                refine nT (a' := ?_) HT_ 24 (some 148) (mkB3 42 33554431) ?_ ?_; rotate_left; (simp only [Act.put, qA, qB, qC, i64_w, i32_w]; rfl)
                refine nT (a' := ?_) HT_ 25 (some 149) (mkB3 42 67108863) ?_ ?_; rotate_left; (simp only [Act.put, qA, qB, qC, i64_w, i32_w]; rfl)
                refine nT (a' := ?_) HT_ 26 (some 150) (mkB3 42 134217727) ?_ ?_; rotate_left; (simp only [Act.put, qA, qB, qC, i64_w, i32_w]; rfl)
                refine nT (a' := ?_) HT_ 27 (some 151) (mkB3 42 268435455) ?_ ?_; rotate_left; (simp only [Act.put, qA, qB, qC, i64_w, i32_w]; rfl)
                refine nT (a' := ?_) HT_ 28 (some 152) (mkB3 42 536870911) ?_ ?_; rotate_left; (simp only [Act.put, qA, qB, qC, i64_w, i32_w]; rfl)
                refine pT (v := ?_) (a' := ?_) HT_ 29 (some 153) (mkB3 42 1073741823) ?_ ?_ ?_; rotate_left 2; (intro w'; go_simp; with_reducible rfl); (simp only [Act.put, qA, qB, qC, i64_w, i32_w]; rfl)
                refine pT (v := ?_) (a' := ?_) HT_ 30 (some 154) (mkB3 42 2147483647) ?_ ?_ ?_; rotate_left 2; (intro w'; go_simp; with_reducible rfl); (simp only [Act.put, qA, qB, qC, i64_w, i32_w]; rfl)
                refine nT (a' := ?_) HT_ 31 (some 155) (mkB3 42 4294967295) ?_ ?_; rotate_left; (simp only [Act.put, qA, qB, qC, i64_w, i32_w]; rfl)
                refine nT (a' := ?_) HT_ 32 (some 156) (mkB3 42 8589934591) ?_ ?_; rotate_left; (simp only [Act.put, qA, qB, qC, i64_w, i32_w]; rfl)
                refine nT (a' := ?_) HT_ 33 (some 157) (mkB3 42 17179869183) ?_ ?_; rotate_left; (simp only [Act.put, qA, qB, qC, i64_w, i32_w]; rfl)
                refine nT (a' := ?_) HT_ 34 (some 158) (mkB3 42 34359738367) ?_ ?_; rotate_left; (simp only [Act.put, qA, qB, qC, i64_w, i32_w]; rfl)
                refine nT (a' := ?_) HT_ 35 (some 159) (mkB3 42 68719476735) ?_ ?_; rotate_left; (simp only [Act.put, qA, qB, qC, i64_w, i32_w]; rfl)
                refine nT (a' := ?_) HT_ 36 (some 160) (mkB3 42 137438953471) ?_ ?_; rotate_left; (simp only [Act.put, qA, qB, qC, i64_w, i32_w]; rfl)
                refine nT (a' := ?_) HT_ 37 (some 161) (mkB3 42 274877906943) ?_ ?_; rotate_left; (simp only [Act.put, qA, qB, qC, i64_w, i32_w]; rfl)
                refine nT (a' := ?_) HT_ 38 (some 162) (mkB3 42 549755813887) ?_ ?_; rotate_left; (simp only [Act.put, qA, qB, qC, i64_w, i32_w]; rfl)
                refine nT (a' := ?_) HT_ 39 (some 163) (mkB3 42 1099511627775) ?_ ?_; rotate_left; (simp only [Act.put, qA, qB, qC, i64_w, i32_w]; rfl)
                refine nT (a' := ?_) HT_ 40 (some 164) (mkB3 42 2199023255551) ?_ ?_; rotate_left; (simp only [Act.put, qA, qB, qC, i64_w, i32_w]; rfl)
                refine pT (v := ?_) (a' := ?_) HT_ 41 (some 165) (mkB3 42 4398046511103) ?_ ?_ ?_; rotate_left 2; (intro w'; go_simp; with_reducible rfl); (simp only [Act.put, qA, qB, qC, i64_w, i32_w]; rfl)
                refine done_ (done_of HT_.out (by kernel_rfl)) ?_
                try go_wp2
                go_ret
                exact ⟨by first | rfl | (simp [errW_none, errW_some] <;> rfl) | (simp only [← hji39]; first | rfl | (simp [errW_none, errW_some] <;> rfl)) | (simp [*, errW_none, errW_some] <;> rfl), by repeat (first | (with_reducible first | exact HB.out | apply below_alloc | apply pw_below_drewN | apply below_drew1 | refine below_set ?_ GE217.out) | exact HB.out)⟩
               ·
                rw [if_neg c49] at H
                have c49b0 : decide (a0_2 ≤ (rd t231 x12_3)) = false := decide_eq_false c49
                clear c49; by_cases c51 : x12_3 > 0
                ·
                 rw [if_pos c51] at H
                 have c51b0 : decide (0 < x12_3) = true := decide_eq_true c51
                 clear c51; obtain ⟨ji52, hji52⟩ : ∃ j_ : Int, (wrap64 (x12_3 - 1)) = j_ := ⟨_, rfl⟩
                 replace H : (if 0 ≤ (ji52) then (if (ji52) < (t231.length : Int) then (if (rd t231 x12_3) ≤ (rd t231 (ji52)) then (some false) else (if 0 ≤ (rd t231 x12_3) then (if (rd t231 x12_3) < (t218.length : Int) then ((mosaicref09_Has.f k3 (rd_L3 t218 (rd t231 x12_3)) x9_2).bind fun t241 => (if t241 = true then (mosaiclaw09_OuterEach.l3 k3 t218 x5_1 x9_2 t231 (wrap64 (x12_3 + 1)) a0_0 a0_1 a0_2 a0_3) else (some false))) else (none)) else (none))) else (none)) else (none)) = some r := by first | (rw [hji52] at H; exact H) | (simp only [hji52] at H ⊢; exact H)
                 have hji52w : (IntKind.i64.wrap (x12_3 - 1)) = ji52 := (i64_w _).trans hji52
                 by_cases c53 : 0 ≤ (ji52)
                 ·
                  rw [if_pos c53] at H
                  have c53b0 : decide (0 ≤ (ji52)) = true := decide_eq_true c53
                  clear c53; by_cases c54 : (ji52) < (t231.length : Int)
                  ·
                   rw [if_pos c54] at H
                   have c54b0 : decide ((ji52) < (t231.length : Int)) = true := decide_eq_true c54
                   clear c54; by_cases c55 : (rd t231 x12_3) ≤ (rd t231 (ji52))
                   ·
                    rw [if_pos c55] at H
                    have c55b0 : decide ((rd t231 x12_3) ≤ (rd t231 (ji52))) = true := decide_eq_true c55
                    clear c55; obtain rfl := Option.some.inj H
                    try go_wp2
                    have n0_ := Aside0.mk (Kd.S_drew HO_3.out)
                    have n1_ := Aside0.mk (Kd.QC_drew HO_10.out)
                    have n2_ := Aside0.mk (blk_drew BK217.out)
                    have n3_ := Aside0.mk (below_drew1 HB.out)
                    clear HO_3 HO_10 BK217 HB; have HO_3 := n0_; have HO_10 := n1_; have BK217 := n2_; have HB := n3_; clear n0_ n1_ n2_ n3_; have p235 : 0 ≤ (x12_3 : Int) := of_decide_eq_true (by first | (with_reducible assumption) | assumption)
                    have q235 : x12_3 < (t231.length : Int) := of_decide_eq_true (by first | (with_reducible assumption) | assumption)
                    obtain ⟨ad235, e235, hx235_0⟩ := Kd.at_int (Kd.QC_reads' HO_10.out).2.2 x12_3 p235 q235
                    cases e235
                    replace p235 := eq_true p235
                    replace q235 := eq_true q235
                    have p236 : 0 ≤ (x12_3 : Int) := of_decide_eq_true (by first | (with_reducible assumption) | assumption)
                    have q236 : x12_3 < (t231.length : Int) := of_decide_eq_true (by first | (with_reducible assumption) | assumption)
                    obtain ⟨ad236, e236, hx236_0⟩ := Kd.at_int (Kd.QC_reads' HO_10.out).2.2 x12_3 p236 q236
                    obtain rfl : ad235 = ad236 := (by injection e236)
                    replace p236 := eq_true p236
                    replace q236 := eq_true q236
                    have p237 : 0 ≤ (x12_3 : Int) := of_decide_eq_true (by first | (with_reducible assumption) | assumption)
                    have q237 : x12_3 < (t231.length : Int) := of_decide_eq_true (by first | (with_reducible assumption) | assumption)
                    obtain ⟨ad237, e237, hx237_0⟩ := Kd.at_int (Kd.QC_reads' HO_10.out).2.2 x12_3 p237 q237
                    obtain rfl : ad235 = ad237 := (by injection e237)
                    replace p237 := eq_true p237
                    replace q237 := eq_true q237
                    have p238 : 0 ≤ ((ji52) : Int) := of_decide_eq_true (by first | (with_reducible assumption) | assumption)
                    have q238 : (ji52) < (t231.length : Int) := of_decide_eq_true (by first | (with_reducible assumption) | assumption)
                    obtain ⟨ad238, e238, hx238_0⟩ := Kd.at_int (Kd.QC_reads' HO_10.out).2.2 (ji52) p238 q238
                    obtain rfl : ad235 = ad238 := (by injection e238)
                    replace p238 := eq_true p238
                    replace q238 := eq_true q238
                    refine start_ (n := 42) (S := fun w' => w'.cell? ⟨gb217, 0, none⟩ = some (.int .i64 a0_0) ∧ w'.cell? ⟨gb217, 1, none⟩ = some (.int .i64 a0_1) ∧ w'.cell? ⟨gb217, 2, none⟩ = some (.int .i64 a0_2) ∧ w'.cell? ⟨gb217, 3, none⟩ = some (.int .i64 a0_3) ∧ w'.cell? (ad235.add (x12_3).toNat) = some (.int .i64 (rd t231 x12_3)) ∧ w'.cell? (ad235.add (x12_3).toNat) = some (.int .i64 (rd t231 x12_3)) ∧ w'.cell? (ad235.add (x12_3).toNat) = some (.int .i64 (rd t231 x12_3)) ∧ w'.cell? (ad235.add ((ji52)).toNat) = some (.int .i64 (rd t231 (ji52)))) (ds := []) (mkB3 42 0) (by kernel_rfl) rfl rfl ⟨(blk_cell BK217.out 0).trans rfl, (blk_cell BK217.out 1).trans rfl, (blk_cell BK217.out 2).trans rfl, (blk_cell BK217.out 3).trans rfl, hx235_0, hx236_0, hx237_0, hx238_0⟩ (fun hHeld => ?_); refine with_tabW mosaiclaw09_OuterEach.tab26 mosaiclaw09_OuterEach.bits26 (fun HT_ HW_ => ?_)
                    generalize wr.drew = w56 at HO_3 HO_10 BK217 HB hx235_0 hx236_0 hx237_0 hx238_0 hHeld ⊢
                    refine pT (v := ?_) (a' := ?_) HT_ 0 (some 124) (mkB3 42 1) ?_ ?_ ?_; rotate_left 2; (intro w'; go_simp; with_reducible rfl); (simp only [Act.put, qA, qB, qC, i64_w, i32_w]; rfl)
                    refine pT (v := ?_) (a' := ?_) HT_ 1 (some 125) (mkB3 42 3) ?_ ?_ ?_; rotate_left 2; (intro w'; go_simp; with_reducible rfl); (simp only [Act.put, qA, qB, qC, i64_w, i32_w]; rfl)
                    refine pT (v := ?_) (a' := ?_) HT_ 2 (some 126) (mkB3 42 7) ?_ ?_ ?_; rotate_left 2; (intro w'; go_simp; with_reducible rfl); (simp only [Act.put, qA, qB, qC, i64_w, i32_w]; rfl)
                    refine tT (v := ?_) (a' := ?_) HT_ HW_ hHeld 3 (some 127) (mkB3 42 15) ?_ ?_ ?_; rotate_left 2; (rintro w' ⟨s0, s1, s2, s3, s4, s5, s6, s7⟩; go_simp; with_reducible rfl); (simp only [Act.put, qA, qB, qC, i64_w, i32_w]; rfl)
                    refine pT (v := ?_) (a' := ?_) HT_ 4 (some 128) (mkB3 42 31) ?_ ?_ ?_; rotate_left 2; (intro w'; go_simp; with_reducible rfl); (simp only [Act.put, qA, qB, qC, i64_w, i32_w]; rfl)
                    refine pT (v := ?_) (a' := ?_) HT_ 5 (some 129) (mkB3 42 63) ?_ ?_ ?_; rotate_left 2; (intro w'; go_simp; with_reducible rfl); (simp only [Act.put, qA, qB, qC, i64_w, i32_w]; rfl)
                    refine pT (v := ?_) (a' := ?_) HT_ 6 (some 130) (mkB3 42 127) ?_ ?_ ?_; rotate_left 2; (intro w'; go_simp; with_reducible rfl); (simp only [Act.put, qA, qB, qC, i64_w, i32_w]; rfl)
                    refine pT (v := ?_) (a' := ?_) HT_ 7 (some 131) (mkB3 42 255) ?_ ?_ ?_; rotate_left 2; (intro w'; go_simp; with_reducible rfl); (simp only [Act.put, qA, qB, qC, i64_w, i32_w]; rfl)
                    refine pT (v := ?_) (a' := ?_) HT_ 8 (some 132) (mkB3 42 511) ?_ ?_ ?_; rotate_left 2; (intro w'; go_simp; with_reducible rfl); (simp only [Act.put, qA, qB, qC, i64_w, i32_w]; rfl)
                    refine pT (v := ?_) (a' := ?_) HT_ 10 (some 134) (mkB3 42 1535) ?_ ?_ ?_; rotate_left 2; (intro w'; go_simp; with_reducible rfl); (simp only [Act.put, qA, qB, qC, i64_w, i32_w]; rfl)
                    refine tT (v := ?_) (a' := ?_) HT_ HW_ hHeld 9 (some 133) (mkB3 42 2047) ?_ ?_ ?_; rotate_left 2; (rintro w' ⟨s0, s1, s2, s3, s4, s5, s6, s7⟩; go_simp; with_reducible rfl); (simp only [Act.put, qA, qB, qC, i64_w, i32_w]; rfl)
                    refine tT (v := ?_) (a' := ?_) HT_ HW_ hHeld 11 (some 135) (mkB3 42 4095) ?_ ?_ ?_; rotate_left 2; (rintro w' ⟨s0, s1, s2, s3, s4, s5, s6, s7⟩; go_simp; with_reducible rfl); (simp only [Act.put, qA, qB, qC, i64_w, i32_w]; rfl)
                    refine pT (v := ?_) (a' := ?_) HT_ 12 (some 136) (mkB3 42 8191) ?_ ?_ ?_; rotate_left 2; (intro w'; go_simp; with_reducible rfl); (simp only [Act.put, qA, qB, qC, i64_w, i32_w]; rfl)
                    refine pT (v := ?_) (a' := ?_) HT_ 13 (some 137) (mkB3 42 16383) ?_ ?_ ?_; rotate_left 2; (intro w'; go_simp; with_reducible rfl); (simp only [Act.put, qA, qB, qC, i64_w, i32_w]; rfl)
                    refine pT (v := ?_) (a' := ?_) HT_ 14 (some 138) (mkB3 42 32767) ?_ ?_ ?_; rotate_left 2; (intro w'; go_simp; with_reducible rfl); (simp only [Act.put, qA, qB, qC, i64_w, i32_w]; rfl)
                    refine pT (v := ?_) (a' := ?_) HT_ 15 (some 139) (mkB3 42 65535) ?_ ?_ ?_; rotate_left 2; (intro w'; go_simp; with_reducible rfl); (simp only [Act.put, qA, qB, qC, i64_w, i32_w]; rfl)
                    refine pT (v := ?_) (a' := ?_) HT_ 16 (some 140) (mkB3 42 131071) ?_ ?_ ?_; rotate_left 2; (intro w'; go_simp; with_reducible rfl); (simp only [Act.put, qA, qB, qC, i64_w, i32_w]; rfl)
                    refine pT (v := ?_) (a' := ?_) HT_ 17 (some 141) (mkB3 42 262143) ?_ ?_ ?_; rotate_left 2; (intro w'; go_simp; with_reducible rfl); (simp only [Act.put, qA, qB, qC, i64_w, i32_w]; rfl)
                    refine pT (v := ?_) (a' := ?_) HT_ 18 (some 142) (mkB3 42 524287) ?_ ?_ ?_; rotate_left 2; (intro w'; go_simp; with_reducible rfl); (simp only [Act.put, qA, qB, qC, i64_w, i32_w]; rfl)
                    refine pT (v := ?_) (a' := ?_) HT_ 19 (some 143) (mkB3 42 1048575) ?_ ?_ ?_; rotate_left 2; (intro w'; go_simp; with_reducible rfl); (simp only [Act.put, qA, qB, qC, i64_w, i32_w]; rfl)
                    refine pT (v := ?_) (a' := ?_) HT_ 20 (some 144) (mkB3 42 2097151) ?_ ?_ ?_; rotate_left 2; (intro w'; go_simp; with_reducible rfl); (simp only [Act.put, qA, qB, qC, i64_w, i32_w]; rfl)
                    refine pT (v := ?_) (a' := ?_) HT_ 22 (some 146) (mkB3 42 6291455) ?_ ?_ ?_; rotate_left 2; (intro w'; go_simp; with_reducible rfl); (simp only [Act.put, qA, qB, qC, i64_w, i32_w]; rfl)
                    refine pT (v := ?_) (a' := ?_) HT_ 23 (some 147) (mkB3 42 14680063) ?_ ?_ ?_; rotate_left 2; (intro w'; go_simp; with_reducible rfl); (simp only [Act.put, qA, qB, qC, i64_w, i32_w]; rfl)
                    refine pT (v := ?_) (a' := ?_) HT_ 24 (some 148) (mkB3 42 31457279) ?_ ?_ ?_; rotate_left 2; (intro w'; go_simp; with_reducible rfl); (simp only [Act.put, qA, qB, qC, i64_w, i32_w]; rfl)
                    refine pT (v := ?_) (a' := ?_) HT_ 25 (some 149) (mkB3 42 65011711) ?_ ?_ ?_; rotate_left 2; (intro w'; go_simp; with_reducible rfl); (simp only [Act.put, qA, qB, qC, i64_w, i32_w]; rfl)
                    refine tT (v := ?_) (a' := ?_) HT_ HW_ hHeld 21 (some 145) (mkB3 42 67108863) ?_ ?_ ?_; rotate_left 2; (rintro w' ⟨s0, s1, s2, s3, s4, s5, s6, s7⟩; go_simp; with_reducible rfl); (simp only [Act.put, qA, qB, qC, i64_w, i32_w]; rfl)
                    refine tT (v := ?_) (a' := ?_) HT_ HW_ hHeld 26 (some 150) (mkB3 42 134217727) ?_ ?_ ?_; rotate_left 2; (rintro w' ⟨s0, s1, s2, s3, s4, s5, s6, s7⟩; go_simp; with_reducible rfl); (simp only [Act.put, qA, qB, qC, i64_w, i32_w]; rfl)
                    refine pT (v := ?_) (a' := ?_) HT_ 27 (some 151) (mkB3 42 268435455) ?_ ?_ ?_; rotate_left 2; (intro w'; go_simp; with_reducible rfl); (simp only [Act.put, qA, qB, qC, i64_w, i32_w]; rfl)
                    refine pT (v := ?_) (a' := ?_) HT_ 28 (some 152) (mkB3 42 536870911) ?_ ?_ ?_; rotate_left 2; (intro w'; go_simp; with_reducible rfl); (simp only [Act.put, qA, qB, qC, i64_w, i32_w]; rfl)
                    refine pT (v := ?_) (a' := ?_) HT_ 29 (some 153) (mkB3 42 1073741823) ?_ ?_ ?_; rotate_left 2; (intro w'; go_simp; with_reducible rfl); (simp only [Act.put, qA, qB, qC, i64_w, i32_w]; rfl)
                    refine pT (v := ?_) (a' := ?_) HT_ 30 (some 154) (mkB3 42 2147483647) ?_ ?_ ?_; rotate_left 2; (intro w'; go_simp; with_reducible rfl); (simp only [Act.put, qA, qB, qC, i64_w, i32_w]; rfl)
                    refine nT (a' := ?_) HT_ 31 (some 155) (mkB3 42 4294967295) ?_ ?_; rotate_left; (simp only [Act.put, qA, qB, qC, i64_w, i32_w]; rfl)
                    refine nT (a' := ?_) HT_ 32 (some 156) (mkB3 42 8589934591) ?_ ?_; rotate_left; (simp only [Act.put, qA, qB, qC, i64_w, i32_w]; rfl)
                    refine nT (a' := ?_) HT_ 33 (some 157) (mkB3 42 17179869183) ?_ ?_; rotate_left; (simp only [Act.put, qA, qB, qC, i64_w, i32_w]; rfl)
                    refine nT (a' := ?_) HT_ 34 (some 158) (mkB3 42 34359738367) ?_ ?_; rotate_left; (simp only [Act.put, qA, qB, qC, i64_w, i32_w]; rfl)
                    refine nT (a' := ?_) HT_ 35 (some 159) (mkB3 42 68719476735) ?_ ?_; rotate_left; (simp only [Act.put, qA, qB, qC, i64_w, i32_w]; rfl)
                    refine nT (a' := ?_) HT_ 36 (some 160) (mkB3 42 137438953471) ?_ ?_; rotate_left; (simp only [Act.put, qA, qB, qC, i64_w, i32_w]; rfl)
                    refine nT (a' := ?_) HT_ 37 (some 161) (mkB3 42 274877906943) ?_ ?_; rotate_left; (simp only [Act.put, qA, qB, qC, i64_w, i32_w]; rfl)
                    refine nT (a' := ?_) HT_ 38 (some 162) (mkB3 42 549755813887) ?_ ?_; rotate_left; (simp only [Act.put, qA, qB, qC, i64_w, i32_w]; rfl)
                    refine nT (a' := ?_) HT_ 39 (some 163) (mkB3 42 1099511627775) ?_ ?_; rotate_left; (simp only [Act.put, qA, qB, qC, i64_w, i32_w]; rfl)
                    refine nT (a' := ?_) HT_ 40 (some 164) (mkB3 42 2199023255551) ?_ ?_; rotate_left; (simp only [Act.put, qA, qB, qC, i64_w, i32_w]; rfl)
                    refine pT (v := ?_) (a' := ?_) HT_ 41 (some 165) (mkB3 42 4398046511103) ?_ ?_ ?_; rotate_left 2; (intro w'; go_simp; with_reducible rfl); (simp only [Act.put, qA, qB, qC, i64_w, i32_w]; rfl)
                    refine done_ (done_of HT_.out (by kernel_rfl)) ?_
                    try go_wp2
                    go_ret
                    exact ⟨by first | rfl | (simp [errW_none, errW_some] <;> rfl) | (simp only [← hji39, ← hji52]; first | rfl | (simp [errW_none, errW_some] <;> rfl)) | (simp [*, errW_none, errW_some] <;> rfl), by repeat (first | (with_reducible first | exact HB.out | apply below_alloc | apply pw_below_drewN | apply below_drew1 | refine below_set ?_ GE217.out) | exact HB.out)⟩
                   ·
                    rw [if_neg c55] at H
                    have c55b0 : decide ((rd t231 x12_3) ≤ (rd t231 (ji52))) = false := decide_eq_false c55
                    clear c55; by_cases c57 : 0 ≤ (rd t231 x12_3)
                    ·
                     rw [if_pos c57] at H
                     have c57b0 : decide (0 ≤ (rd t231 x12_3)) = true := decide_eq_true c57
                     clear c57; by_cases c58 : (rd t231 x12_3) < (t218.length : Int)
                     ·
                      rw [if_pos c58] at H
                      have c58b0 : decide ((rd t231 x12_3) < (t218.length : Int)) = true := decide_eq_true c58
                      clear c58; replace H := Option.bind_eq_some_iff.mp H
                      obtain ⟨t241, A590, H⟩ := H
                      replace H : (if t241 = true then (mosaiclaw09_OuterEach.l3 k3 t218 x5_1 x9_2 t231 (wrap64 (x12_3 + 1)) a0_0 a0_1 a0_2 a0_3) else (some false)) = some r := H
                      have A59 := Aside0.mk A590
                      clear A590; by_cases c60 : t241 = true
                      ·
                       subst c60
                       have H1 : (mosaiclaw09_OuterEach.l3 k3 t218 x5_1 x9_2 t231 (wrap64 (x12_3 + 1)) a0_0 a0_1 a0_2 a0_3) = some r := by rw [if_pos rfl] at H; exact H
                       clear H; have H := H1; clear H1; have H' := Aside0.mk H
                       clear H; try go_wp2
                       have n0_ := Aside0.mk (Kd.S_drew HO_3.out)
                       have n1_ := Aside0.mk (Kd.QC_drew HO_10.out)
                       have n2_ := Aside0.mk (blk_drew BK217.out)
                       have n3_ := Aside0.mk (below_drew1 HB.out)
                       clear HO_3 HO_10 BK217 HB; have HO_3 := n0_; have HO_10 := n1_; have BK217 := n2_; have HB := n3_; clear n0_ n1_ n2_ n3_; have p235 : 0 ≤ (x12_3 : Int) := of_decide_eq_true (by first | (with_reducible assumption) | assumption)
                       have q235 : x12_3 < (t231.length : Int) := of_decide_eq_true (by first | (with_reducible assumption) | assumption)
                       obtain ⟨ad235, e235, hx235_0⟩ := Kd.at_int (Kd.QC_reads' HO_10.out).2.2 x12_3 p235 q235
                       cases e235
                       replace p235 := eq_true p235
                       replace q235 := eq_true q235
                       have p236 : 0 ≤ (x12_3 : Int) := of_decide_eq_true (by first | (with_reducible assumption) | assumption)
                       have q236 : x12_3 < (t231.length : Int) := of_decide_eq_true (by first | (with_reducible assumption) | assumption)
                       obtain ⟨ad236, e236, hx236_0⟩ := Kd.at_int (Kd.QC_reads' HO_10.out).2.2 x12_3 p236 q236
                       obtain rfl : ad235 = ad236 := (by injection e236)
                       replace p236 := eq_true p236
                       replace q236 := eq_true q236
                       have p237 : 0 ≤ (x12_3 : Int) := of_decide_eq_true (by first | (with_reducible assumption) | assumption)
                       have q237 : x12_3 < (t231.length : Int) := of_decide_eq_true (by first | (with_reducible assumption) | assumption)
                       obtain ⟨ad237, e237, hx237_0⟩ := Kd.at_int (Kd.QC_reads' HO_10.out).2.2 x12_3 p237 q237
                       obtain rfl : ad235 = ad237 := (by injection e237)
                       replace p237 := eq_true p237
                       replace q237 := eq_true q237
                       have p238 : 0 ≤ ((ji52) : Int) := of_decide_eq_true (by first | (with_reducible assumption) | assumption)
                       have q238 : (ji52) < (t231.length : Int) := of_decide_eq_true (by first | (with_reducible assumption) | assumption)
                       obtain ⟨ad238, e238, hx238_0⟩ := Kd.at_int (Kd.QC_reads' HO_10.out).2.2 (ji52) p238 q238
                       obtain rfl : ad235 = ad238 := (by injection e238)
                       replace p238 := eq_true p238
                       replace q238 := eq_true q238
                       have p239 : 0 ≤ (x12_3 : Int) := of_decide_eq_true (by first | (with_reducible assumption) | assumption)
                       have q239 : x12_3 < (t231.length : Int) := of_decide_eq_true (by first | (with_reducible assumption) | assumption)
                       obtain ⟨ad239, e239, hx239_0⟩ := Kd.at_int (Kd.QC_reads' HO_10.out).2.2 x12_3 p239 q239
                       obtain rfl : ad235 = ad239 := (by injection e239)
                       replace p239 := eq_true p239
                       replace q239 := eq_true q239
                       have p240 : 0 ≤ ((rd t231 x12_3) : Int) := of_decide_eq_true (by first | (with_reducible assumption) | assumption)
                       have q240 : (rd t231 x12_3) < (t218.length : Int) := of_decide_eq_true (by first | (with_reducible assumption) | assumption)
                       obtain ⟨ad240, A240_0, c240_0, e240, hx240_0, hl240_0, hi240_0⟩ := at_L3 (Kd.S_reads' HO_3.out).2.2 (rd t231 x12_3) p240 q240
                       cases e240
                       obtain ⟨ce240, hce240, hMe240, hcc240⟩ := Kd.S_get HO_3.out [] (rd t231 x12_3) p240 (by first | exact q240 | exact of_decide_eq_true (by first | (with_reducible assumption) | assumption) | (have e_ := (Kd.S_reads' HO_3.out).1; omega))
                       obtain ⟨ve240_0, rfl, ge240_0⟩ := hMe240
                       have hv240_0 := hcc240 0 _ rfl
                       rw [Nat.add_zero, show ((Kd.slice 3 (Kd.int .i64))).sz = 1 from rfl, Nat.mul_one] at hv240_0
                       replace hv240_0 := Option.some.inj (hv240_0.symm.trans hx240_0)
                       rw [hv240_0] at ge240_0
                       have HL240_0 := Aside0.mk (show Kd.R (Kd.int .i64) 3 _ _ _ _ (rd_L3 t218 (rd t231 x12_3)) from ge240_0)
                       clear hv240_0 ge240_0 hcc240 hce240; have HR240_0 := Aside0.mk hi240_0
                       have HC240_0 := Aside0.mk hl240_0
                       clear hi240_0 hl240_0; replace p240 := eq_true p240
                       replace q240 := eq_true q240
                       refine start_ (n := 42) (S := fun w' => w'.cell? ⟨gb217, 0, none⟩ = some (.int .i64 a0_0) ∧ w'.cell? ⟨gb217, 1, none⟩ = some (.int .i64 a0_1) ∧ w'.cell? ⟨gb217, 2, none⟩ = some (.int .i64 a0_2) ∧ w'.cell? ⟨gb217, 3, none⟩ = some (.int .i64 a0_3) ∧ w'.cell? (ad235.add (x12_3).toNat) = some (.int .i64 (rd t231 x12_3)) ∧ w'.cell? (ad235.add (x12_3).toNat) = some (.int .i64 (rd t231 x12_3)) ∧ w'.cell? (ad235.add (x12_3).toNat) = some (.int .i64 (rd t231 x12_3)) ∧ w'.cell? (ad235.add ((ji52)).toNat) = some (.int .i64 (rd t231 (ji52))) ∧ w'.cell? (ad235.add (x12_3).toNat) = some (.int .i64 (rd t231 x12_3)) ∧ w'.cell? (ad240.add ((rd t231 x12_3)).toNat) = some (.slice A240_0 (rd_L3 t218 (rd t231 x12_3)).length c240_0)) (ds := []) (mkB3 42 0) (by kernel_rfl) rfl rfl ⟨(blk_cell BK217.out 0).trans rfl, (blk_cell BK217.out 1).trans rfl, (blk_cell BK217.out 2).trans rfl, (blk_cell BK217.out 3).trans rfl, hx235_0, hx236_0, hx237_0, hx238_0, hx239_0, hx240_0⟩ (fun hHeld => ?_); refine with_tabW mosaiclaw09_OuterEach.tab26 mosaiclaw09_OuterEach.bits26 (fun HT_ HW_ => ?_)
                       generalize wr.drew = w61 at HO_3 HO_10 BK217 HB HL240_0 HR240_0 hx235_0 hx236_0 hx237_0 hx238_0 hx239_0 hx240_0 hHeld ⊢
                       refine pT (v := ?_) (a' := ?_) HT_ 0 (some 124) (mkB3 42 1) ?_ ?_ ?_; rotate_left 2; (intro w'; go_simp; with_reducible rfl); (simp only [Act.put, qA, qB, qC, i64_w, i32_w]; rfl)
                       refine pT (v := ?_) (a' := ?_) HT_ 1 (some 125) (mkB3 42 3) ?_ ?_ ?_; rotate_left 2; (intro w'; go_simp; with_reducible rfl); (simp only [Act.put, qA, qB, qC, i64_w, i32_w]; rfl)
                       refine pT (v := ?_) (a' := ?_) HT_ 2 (some 126) (mkB3 42 7) ?_ ?_ ?_; rotate_left 2; (intro w'; go_simp; with_reducible rfl); (simp only [Act.put, qA, qB, qC, i64_w, i32_w]; rfl)
                       refine tT (v := ?_) (a' := ?_) HT_ HW_ hHeld 3 (some 127) (mkB3 42 15) ?_ ?_ ?_; rotate_left 2; (rintro w' ⟨s0, s1, s2, s3, s4, s5, s6, s7, s8, s9⟩; go_simp; with_reducible rfl); (simp only [Act.put, qA, qB, qC, i64_w, i32_w]; rfl)
                       refine pT (v := ?_) (a' := ?_) HT_ 4 (some 128) (mkB3 42 31) ?_ ?_ ?_; rotate_left 2; (intro w'; go_simp; with_reducible rfl); (simp only [Act.put, qA, qB, qC, i64_w, i32_w]; rfl)
                       refine pT (v := ?_) (a' := ?_) HT_ 5 (some 129) (mkB3 42 63) ?_ ?_ ?_; rotate_left 2; (intro w'; go_simp; with_reducible rfl); (simp only [Act.put, qA, qB, qC, i64_w, i32_w]; rfl)
                       refine pT (v := ?_) (a' := ?_) HT_ 6 (some 130) (mkB3 42 127) ?_ ?_ ?_; rotate_left 2; (intro w'; go_simp; with_reducible rfl); (simp only [Act.put, qA, qB, qC, i64_w, i32_w]; rfl)
                       refine pT (v := ?_) (a' := ?_) HT_ 7 (some 131) (mkB3 42 255) ?_ ?_ ?_; rotate_left 2; (intro w'; go_simp; with_reducible rfl); (simp only [Act.put, qA, qB, qC, i64_w, i32_w]; rfl)
                       refine pT (v := ?_) (a' := ?_) HT_ 8 (some 132) (mkB3 42 511) ?_ ?_ ?_; rotate_left 2; (intro w'; go_simp; with_reducible rfl); (simp only [Act.put, qA, qB, qC, i64_w, i32_w]; rfl)
                       refine pT (v := ?_) (a' := ?_) HT_ 10 (some 134) (mkB3 42 1535) ?_ ?_ ?_; rotate_left 2; (intro w'; go_simp; with_reducible rfl); (simp only [Act.put, qA, qB, qC, i64_w, i32_w]; rfl)
                       refine tT (v := ?_) (a' := ?_) HT_ HW_ hHeld 9 (some 133) (mkB3 42 2047) ?_ ?_ ?_; rotate_left 2; (rintro w' ⟨s0, s1, s2, s3, s4, s5, s6, s7, s8, s9⟩; go_simp; with_reducible rfl); (simp only [Act.put, qA, qB, qC, i64_w, i32_w]; rfl)
                       refine tT (v := ?_) (a' := ?_) HT_ HW_ hHeld 11 (some 135) (mkB3 42 4095) ?_ ?_ ?_; rotate_left 2; (rintro w' ⟨s0, s1, s2, s3, s4, s5, s6, s7, s8, s9⟩; go_simp; with_reducible rfl); (simp only [Act.put, qA, qB, qC, i64_w, i32_w]; rfl)
                       refine pT (v := ?_) (a' := ?_) HT_ 12 (some 136) (mkB3 42 8191) ?_ ?_ ?_; rotate_left 2; (intro w'; go_simp; with_reducible rfl); (simp only [Act.put, qA, qB, qC, i64_w, i32_w]; rfl)
                       refine pT (v := ?_) (a' := ?_) HT_ 13 (some 137) (mkB3 42 16383) ?_ ?_ ?_; rotate_left 2; (intro w'; go_simp; with_reducible rfl); (simp only [Act.put, qA, qB, qC, i64_w, i32_w]; rfl)
                       refine pT (v := ?_) (a' := ?_) HT_ 14 (some 138) (mkB3 42 32767) ?_ ?_ ?_; rotate_left 2; (intro w'; go_simp; with_reducible rfl); (simp only [Act.put, qA, qB, qC, i64_w, i32_w]; rfl)
                       refine pT (v := ?_) (a' := ?_) HT_ 15 (some 139) (mkB3 42 65535) ?_ ?_ ?_; rotate_left 2; (intro w'; go_simp; with_reducible rfl); (simp only [Act.put, qA, qB, qC, i64_w, i32_w]; rfl)
                       refine pT (v := ?_) (a' := ?_) HT_ 16 (some 140) (mkB3 42 131071) ?_ ?_ ?_; rotate_left 2; (intro w'; go_simp; with_reducible rfl); (simp only [Act.put, qA, qB, qC, i64_w, i32_w]; rfl)
                       refine pT (v := ?_) (a' := ?_) HT_ 17 (some 141) (mkB3 42 262143) ?_ ?_ ?_; rotate_left 2; (intro w'; go_simp; with_reducible rfl); (simp only [Act.put, qA, qB, qC, i64_w, i32_w]; rfl)
                       refine pT (v := ?_) (a' := ?_) HT_ 18 (some 142) (mkB3 42 524287) ?_ ?_ ?_; rotate_left 2; (intro w'; go_simp; with_reducible rfl); (simp only [Act.put, qA, qB, qC, i64_w, i32_w]; rfl)
                       refine pT (v := ?_) (a' := ?_) HT_ 19 (some 143) (mkB3 42 1048575) ?_ ?_ ?_; rotate_left 2; (intro w'; go_simp; with_reducible rfl); (simp only [Act.put, qA, qB, qC, i64_w, i32_w]; rfl)
                       refine pT (v := ?_) (a' := ?_) HT_ 20 (some 144) (mkB3 42 2097151) ?_ ?_ ?_; rotate_left 2; (intro w'; go_simp; with_reducible rfl); (simp only [Act.put, qA, qB, qC, i64_w, i32_w]; rfl)
                       refine pT (v := ?_) (a' := ?_) HT_ 22 (some 146) (mkB3 42 6291455) ?_ ?_ ?_; rotate_left 2; (intro w'; go_simp; with_reducible rfl); (simp only [Act.put, qA, qB, qC, i64_w, i32_w]; rfl)
                       refine pT (v := ?_) (a' := ?_) HT_ 23 (some 147) (mkB3 42 14680063) ?_ ?_ ?_; rotate_left 2; (intro w'; go_simp; with_reducible rfl); (simp only [Act.put, qA, qB, qC, i64_w, i32_w]; rfl)
                       refine pT (v := ?_) (a' := ?_) HT_ 24 (some 148) (mkB3 42 31457279) ?_ ?_ ?_; rotate_left 2; (intro w'; go_simp; with_reducible rfl); (simp only [Act.put, qA, qB, qC, i64_w, i32_w]; rfl)
                       refine pT (v := ?_) (a' := ?_) HT_ 25 (some 149) (mkB3 42 65011711) ?_ ?_ ?_; rotate_left 2; (intro w'; go_simp; with_reducible rfl); (simp only [Act.put, qA, qB, qC, i64_w, i32_w]; rfl)
                       refine tT (v := ?_) (a' := ?_) HT_ HW_ hHeld 21 (some 145) (mkB3 42 67108863) ?_ ?_ ?_; rotate_left 2; (rintro w' ⟨s0, s1, s2, s3, s4, s5, s6, s7, s8, s9⟩; go_simp; with_reducible rfl); (simp only [Act.put, qA, qB, qC, i64_w, i32_w]; rfl)
                       refine tT (v := ?_) (a' := ?_) HT_ HW_ hHeld 26 (some 150) (mkB3 42 134217727) ?_ ?_ ?_; rotate_left 2; (rintro w' ⟨s0, s1, s2, s3, s4, s5, s6, s7, s8, s9⟩; go_simp; with_reducible rfl); (simp only [Act.put, qA, qB, qC, i64_w, i32_w]; rfl)
                       refine pT (v := ?_) (a' := ?_) HT_ 27 (some 151) (mkB3 42 268435455) ?_ ?_ ?_; rotate_left 2; (intro w'; go_simp; with_reducible rfl); (simp only [Act.put, qA, qB, qC, i64_w, i32_w]; rfl)
                       refine pT (v := ?_) (a' := ?_) HT_ 28 (some 152) (mkB3 42 536870911) ?_ ?_ ?_; rotate_left 2; (intro w'; go_simp; with_reducible rfl); (simp only [Act.put, qA, qB, qC, i64_w, i32_w]; rfl)
                       refine pT (v := ?_) (a' := ?_) HT_ 29 (some 153) (mkB3 42 1073741823) ?_ ?_ ?_; rotate_left 2; (intro w'; go_simp; with_reducible rfl); (simp only [Act.put, qA, qB, qC, i64_w, i32_w]; rfl)
                       refine pT (v := ?_) (a' := ?_) HT_ 30 (some 154) (mkB3 42 2147483647) ?_ ?_ ?_; rotate_left 2; (intro w'; go_simp; with_reducible rfl); (simp only [Act.put, qA, qB, qC, i64_w, i32_w]; rfl)
                       refine pT (v := ?_) (a' := ?_) HT_ 31 (some 155) (mkB3 42 4294967295) ?_ ?_ ?_; rotate_left 2; (intro w'; go_simp; with_reducible rfl); (simp only [Act.put, qA, qB, qC, i64_w, i32_w]; rfl)
                       refine pT (v := ?_) (a' := ?_) HT_ 32 (some 156) (mkB3 42 8589934591) ?_ ?_ ?_; rotate_left 2; (intro w'; go_simp; with_reducible rfl); (simp only [Act.put, qA, qB, qC, i64_w, i32_w]; rfl)
                       refine pT (v := ?_) (a' := ?_) HT_ 33 (some 157) (mkB3 42 17179869183) ?_ ?_ ?_; rotate_left 2; (intro w'; go_simp; with_reducible rfl); (simp only [Act.put, qA, qB, qC, i64_w, i32_w]; rfl)
                       refine pT (v := ?_) (a' := ?_) HT_ 34 (some 158) (mkB3 42 34359738367) ?_ ?_ ?_; rotate_left 2; (intro w'; go_simp; with_reducible rfl); (simp only [Act.put, qA, qB, qC, i64_w, i32_w]; rfl)
                       refine pT (v := ?_) (a' := ?_) HT_ 38 (some 162) (mkB3 42 309237645311) ?_ ?_ ?_; rotate_left 2; (intro w'; go_simp; with_reducible rfl); (simp only [Act.put, qA, qB, qC, i64_w, i32_w]; rfl)
                       refine tT (v := ?_) (a' := ?_) HT_ HW_ hHeld 35 (some 159) (mkB3 42 343597383679) ?_ ?_ ?_; rotate_left 2; (rintro w' ⟨s0, s1, s2, s3, s4, s5, s6, s7, s8, s9⟩; go_simp; with_reducible rfl); (simp only [Act.put, qA, qB, qC, i64_w, i32_w]; rfl)
                       refine pT (v := ?_) (a' := ?_) HT_ 36 (some 160) (mkB3 42 412316860415) ?_ ?_ ?_; rotate_left 2; (intro w'; go_simp; with_reducible rfl); (simp only [Act.put, qA, qB, qC, i64_w, i32_w]; rfl)
                       refine tT (v := ?_) (a' := ?_) HT_ HW_ hHeld 37 (some 161) (mkB3 42 549755813887) ?_ ?_ ?_; rotate_left 2; (rintro w' ⟨s0, s1, s2, s3, s4, s5, s6, s7, s8, s9⟩; go_simp; with_reducible rfl); (simp only [Act.put, qA, qB, qC, i64_w, i32_w]; rfl)
                       refine one_ (i := 39) (N := some 163) (mkB3 42 1099511627775) rfl rfl (one_of HT_.out (by kernel_rfl)) (by decide) (fun K hK => ?_)
                       refine goes_ Try.func10 (by kernel_rfl) rfl #[.slice A240_0 (rd_L3 t218 (rd t231 x12_3)).length c240_0, .int .i64 x9_2] (by rfl) rfl rfl (by (try simp only [List.map_toArray, List.map_cons, List.map_nil]); first | done | rfl | (simp only [List.length_drop, List.length_take]; rfl)) ?_
                       with_reducible refine (mosaicref09_Has.calls k3 _ _ (rd_L3 t218 (rd t231 x12_3)) x9_2 true _ ?side1 ?side2 A59.out).mono ?_
                       (case side1 => repeat (first | exact (by repeat (first | (with_reducible exact HR240_0.out) | (with_reducible refine Kd.C_alloc ?_ _) | (with_reducible refine Kd.C_drewN ?_ _) | (with_reducible refine Kd.C_drew ?_) | exact HR240_0.out)) | (with_reducible refine Kd.C_alloc ?_ _) | (with_reducible refine Kd.C_drewN ?_ _) | (with_reducible refine Kd.C_drew ?_)))
                       (case side2 => exact HC240_0.out)
                       rintro e w' ⟨rfl, ⟨nd, rfl⟩⟩
                       refine ⟨_, rfl, ?_⟩; refine hK.out _ _ ⟨(blk_cell BK217.out 0).trans rfl, (blk_cell BK217.out 1).trans rfl, (blk_cell BK217.out 2).trans rfl, (blk_cell BK217.out 3).trans rfl, hHeld.2.2.2.2.1, hHeld.2.2.2.2.2.1, hHeld.2.2.2.2.2.2.1, hHeld.2.2.2.2.2.2.2.1, hHeld.2.2.2.2.2.2.2.2.1, hHeld.2.2.2.2.2.2.2.2.2⟩ (fun hHeld => ?_)
                       clear hK K; refine norm_ (a' := ?_) ?_ ?_
                       rotate_left
                       ·
                        show Act.put _ (some 163) _ = _
                        simp only [Act.put, List.setIfInBounds_toArray, List.set_cons_zero, List.set_cons_succ, i64_w, i32_w]; rfl
                       refine pT (v := ?_) (a' := ?_) HT_ 40 (some 164) (mkB3 42 2199023255551) ?_ ?_ ?_; rotate_left 2; (intro w'; go_simp; with_reducible rfl); (simp only [Act.put, qA, qB, qC, i64_w, i32_w]; rfl)
                       refine pT (v := ?_) (a' := ?_) HT_ 41 (some 165) (mkB3 42 4398046511103) ?_ ?_ ?_; rotate_left 2; (intro w'; go_simp; with_reducible rfl); (simp only [Act.put, qA, qB, qC, i64_w, i32_w]; rfl)
                       refine done_ (done_of HT_.out (by kernel_rfl)) ?_
                       try go_wp2
                       go_roundg k3
                       case measure => have := HK1.out; have := HK2.out; have := HK3.out; omega
                       case rel => exact ⟨(wrap64 (x12_3 + 1)), (by first | rfl | (simp; done) | (simp [*]; done)), H', ⟨by have := HK1.out; have := HK2.out; have := HK3.out; omega⟩, ⟨by (with_reducible repeat (first | apply Kd.S_alloc | apply Kd.S_drewN | apply Kd.S_drew)); exact HO_3.out⟩, ⟨by (with_reducible repeat (first | apply Kd.QC_alloc | apply Kd.QC_drewN | apply Kd.QC_drew)); exact HO_10.out⟩, ⟨by (with_reducible repeat (first | refine blk_drewN ?_ _ | refine blk_drew ?_ | refine blk_alloc ?_ _)); exact BK217.out⟩, ⟨by repeat (first | (with_reducible first | exact HB.out | apply below_alloc | apply pw_below_drewN | apply below_drew1 | refine below_set ?_ GE217.out) | exact HB.out)⟩⟩
                      ·
                       replace c60 := Bool.eq_false_iff.mpr c60
                       subst c60
                       have H1 : (some false) = some r := by rw [if_neg (show ¬ (false = true) by decide)] at H; exact H
                       clear H; have H := H1; clear H1; obtain rfl := Option.some.inj H
                       try go_wp2
                       have n0_ := Aside0.mk (Kd.S_drew HO_3.out)
                       have n1_ := Aside0.mk (Kd.QC_drew HO_10.out)
                       have n2_ := Aside0.mk (blk_drew BK217.out)
                       have n3_ := Aside0.mk (below_drew1 HB.out)
                       clear HO_3 HO_10 BK217 HB; have HO_3 := n0_; have HO_10 := n1_; have BK217 := n2_; have HB := n3_; clear n0_ n1_ n2_ n3_; have p235 : 0 ≤ (x12_3 : Int) := of_decide_eq_true (by first | (with_reducible assumption) | assumption)
                       have q235 : x12_3 < (t231.length : Int) := of_decide_eq_true (by first | (with_reducible assumption) | assumption)
                       obtain ⟨ad235, e235, hx235_0⟩ := Kd.at_int (Kd.QC_reads' HO_10.out).2.2 x12_3 p235 q235
                       cases e235
                       replace p235 := eq_true p235
                       replace q235 := eq_true q235
                       have p236 : 0 ≤ (x12_3 : Int) := of_decide_eq_true (by first | (with_reducible assumption) | assumption)
                       have q236 : x12_3 < (t231.length : Int) := of_decide_eq_true (by first | (with_reducible assumption) | assumption)
                       obtain ⟨ad236, e236, hx236_0⟩ := Kd.at_int (Kd.QC_reads' HO_10.out).2.2 x12_3 p236 q236
                       obtain rfl : ad235 = ad236 := (by injection e236)
                       replace p236 := eq_true p236
                       replace q236 := eq_true q236
                       have p237 : 0 ≤ (x12_3 : Int) := of_decide_eq_true (by first | (with_reducible assumption) | assumption)
                       have q237 : x12_3 < (t231.length : Int) := of_decide_eq_true (by first | (with_reducible assumption) | assumption)
                       obtain ⟨ad237, e237, hx237_0⟩ := Kd.at_int (Kd.QC_reads' HO_10.out).2.2 x12_3 p237 q237
                       obtain rfl : ad235 = ad237 := (by injection e237)
                       replace p237 := eq_true p237
                       replace q237 := eq_true q237
                       have p238 : 0 ≤ ((ji52) : Int) := of_decide_eq_true (by first | (with_reducible assumption) | assumption)
                       have q238 : (ji52) < (t231.length : Int) := of_decide_eq_true (by first | (with_reducible assumption) | assumption)
                       obtain ⟨ad238, e238, hx238_0⟩ := Kd.at_int (Kd.QC_reads' HO_10.out).2.2 (ji52) p238 q238
                       obtain rfl : ad235 = ad238 := (by injection e238)
                       replace p238 := eq_true p238
                       replace q238 := eq_true q238
                       have p239 : 0 ≤ (x12_3 : Int) := of_decide_eq_true (by first | (with_reducible assumption) | assumption)
                       have q239 : x12_3 < (t231.length : Int) := of_decide_eq_true (by first | (with_reducible assumption) | assumption)
                       obtain ⟨ad239, e239, hx239_0⟩ := Kd.at_int (Kd.QC_reads' HO_10.out).2.2 x12_3 p239 q239
                       obtain rfl : ad235 = ad239 := (by injection e239)
                       replace p239 := eq_true p239
                       replace q239 := eq_true q239
                       have p240 : 0 ≤ ((rd t231 x12_3) : Int) := of_decide_eq_true (by first | (with_reducible assumption) | assumption)
                       have q240 : (rd t231 x12_3) < (t218.length : Int) := of_decide_eq_true (by first | (with_reducible assumption) | assumption)
                       obtain ⟨ad240, A240_0, c240_0, e240, hx240_0, hl240_0, hi240_0⟩ := at_L3 (Kd.S_reads' HO_3.out).2.2 (rd t231 x12_3) p240 q240
                       cases e240
                       obtain ⟨ce240, hce240, hMe240, hcc240⟩ := Kd.S_get HO_3.out [] (rd t231 x12_3) p240 (by first | exact q240 | exact of_decide_eq_true (by first | (with_reducible assumption) | assumption) | (have e_ := (Kd.S_reads' HO_3.out).1; omega))
                       obtain ⟨ve240_0, rfl, ge240_0⟩ := hMe240
                       have hv240_0 := hcc240 0 _ rfl
                       rw [Nat.add_zero, show ((Kd.slice 3 (Kd.int .i64))).sz = 1 from rfl, Nat.mul_one] at hv240_0
                       replace hv240_0 := Option.some.inj (hv240_0.symm.trans hx240_0)
                       rw [hv240_0] at ge240_0
                       have HL240_0 := Aside0.mk (show Kd.R (Kd.int .i64) 3 _ _ _ _ (rd_L3 t218 (rd t231 x12_3)) from ge240_0)
                       clear hv240_0 ge240_0 hcc240 hce240; have HR240_0 := Aside0.mk hi240_0
                       have HC240_0 := Aside0.mk hl240_0
                       clear hi240_0 hl240_0; replace p240 := eq_true p240
                       replace q240 := eq_true q240
                       refine start_ (n := 42) (S := fun w' => w'.cell? ⟨gb217, 0, none⟩ = some (.int .i64 a0_0) ∧ w'.cell? ⟨gb217, 1, none⟩ = some (.int .i64 a0_1) ∧ w'.cell? ⟨gb217, 2, none⟩ = some (.int .i64 a0_2) ∧ w'.cell? ⟨gb217, 3, none⟩ = some (.int .i64 a0_3) ∧ w'.cell? (ad235.add (x12_3).toNat) = some (.int .i64 (rd t231 x12_3)) ∧ w'.cell? (ad235.add (x12_3).toNat) = some (.int .i64 (rd t231 x12_3)) ∧ w'.cell? (ad235.add (x12_3).toNat) = some (.int .i64 (rd t231 x12_3)) ∧ w'.cell? (ad235.add ((ji52)).toNat) = some (.int .i64 (rd t231 (ji52))) ∧ w'.cell? (ad235.add (x12_3).toNat) = some (.int .i64 (rd t231 x12_3)) ∧ w'.cell? (ad240.add ((rd t231 x12_3)).toNat) = some (.slice A240_0 (rd_L3 t218 (rd t231 x12_3)).length c240_0)) (ds := []) (mkB3 42 0) (by kernel_rfl) rfl rfl ⟨(blk_cell BK217.out 0).trans rfl, (blk_cell BK217.out 1).trans rfl, (blk_cell BK217.out 2).trans rfl, (blk_cell BK217.out 3).trans rfl, hx235_0, hx236_0, hx237_0, hx238_0, hx239_0, hx240_0⟩ (fun hHeld => ?_); refine with_tabW mosaiclaw09_OuterEach.tab26 mosaiclaw09_OuterEach.bits26 (fun HT_ HW_ => ?_)
                       generalize wr.drew = w62 at HO_3 HO_10 BK217 HB HL240_0 HR240_0 hx235_0 hx236_0 hx237_0 hx238_0 hx239_0 hx240_0 hHeld ⊢
                       refine pT (v := ?_) (a' := ?_) HT_ 0 (some 124) (mkB3 42 1) ?_ ?_ ?_; rotate_left 2; (intro w'; go_simp; with_reducible rfl); (simp only [Act.put, qA, qB, qC, i64_w, i32_w]; rfl)
                       refine pT (v := ?_) (a' := ?_) HT_ 1 (some 125) (mkB3 42 3) ?_ ?_ ?_; rotate_left 2; (intro w'; go_simp; with_reducible rfl); (simp only [Act.put, qA, qB, qC, i64_w, i32_w]; rfl)
                       refine pT (v := ?_) (a' := ?_) HT_ 2 (some 126) (mkB3 42 7) ?_ ?_ ?_; rotate_left 2; (intro w'; go_simp; with_reducible rfl); (simp only [Act.put, qA, qB, qC, i64_w, i32_w]; rfl)
                       refine tT (v := ?_) (a' := ?_) HT_ HW_ hHeld 3 (some 127) (mkB3 42 15) ?_ ?_ ?_; rotate_left 2; (rintro w' ⟨s0, s1, s2, s3, s4, s5, s6, s7, s8, s9⟩; go_simp; with_reducible rfl); (simp only [Act.put, qA, qB, qC, i64_w, i32_w]; rfl)
                       refine pT (v := ?_) (a' := ?_) HT_ 4 (some 128) (mkB3 42 31) ?_ ?_ ?_; rotate_left 2; (intro w'; go_simp; with_reducible rfl); (simp only [Act.put, qA, qB, qC, i64_w, i32_w]; rfl)
                       refine pT (v := ?_) (a' := ?_) HT_ 5 (some 129) (mkB3 42 63) ?_ ?_ ?_; rotate_left 2; (intro w'; go_simp; with_reducible rfl); (simp only [Act.put, qA, qB, qC, i64_w, i32_w]; rfl)
                       refine pT (v := ?_) (a' := ?_) HT_ 6 (some 130) (mkB3 42 127) ?_ ?_ ?_; rotate_left 2; (intro w'; go_simp; with_reducible rfl); (simp only [Act.put, qA, qB, qC, i64_w, i32_w]; rfl)
                       refine pT (v := ?_) (a' := ?_) HT_ 7 (some 131) (mkB3 42 255) ?_ ?_ ?_; rotate_left 2; (intro w'; go_simp; with_reducible rfl); (simp only [Act.put, qA, qB, qC, i64_w, i32_w]; rfl)
                       refine pT (v := ?_) (a' := ?_) HT_ 8 (some 132) (mkB3 42 511) ?_ ?_ ?_; rotate_left 2; (intro w'; go_simp; with_reducible rfl); (simp only [Act.put, qA, qB, qC, i64_w, i32_w]; rfl)
                       refine pT (v := ?_) (a' := ?_) HT_ 10 (some 134) (mkB3 42 1535) ?_ ?_ ?_; rotate_left 2; (intro w'; go_simp; with_reducible rfl); (simp only [Act.put, qA, qB, qC, i64_w, i32_w]; rfl)
                       refine tT (v := ?_) (a' := ?_) HT_ HW_ hHeld 9 (some 133) (mkB3 42 2047) ?_ ?_ ?_; rotate_left 2; (rintro w' ⟨s0, s1, s2, s3, s4, s5, s6, s7, s8, s9⟩; go_simp; with_reducible rfl); (simp only [Act.put, qA, qB, qC, i64_w, i32_w]; rfl)
                       refine tT (v := ?_) (a' := ?_) HT_ HW_ hHeld 11 (some 135) (mkB3 42 4095) ?_ ?_ ?_; rotate_left 2; (rintro w' ⟨s0, s1, s2, s3, s4, s5, s6, s7, s8, s9⟩; go_simp; with_reducible rfl); (simp only [Act.put, qA, qB, qC, i64_w, i32_w]; rfl)
                       refine pT (v := ?_) (a' := ?_) HT_ 12 (some 136) (mkB3 42 8191) ?_ ?_ ?_; rotate_left 2; (intro w'; go_simp; with_reducible rfl); (simp only [Act.put, qA, qB, qC, i64_w, i32_w]; rfl)
                       refine pT (v := ?_) (a' := ?_) HT_ 13 (some 137) (mkB3 42 16383) ?_ ?_ ?_; rotate_left 2; (intro w'; go_simp; with_reducible rfl); (simp only [Act.put, qA, qB, qC, i64_w, i32_w]; rfl)
                       refine pT (v := ?_) (a' := ?_) HT_ 14 (some 138) (mkB3 42 32767) ?_ ?_ ?_; rotate_left 2; (intro w'; go_simp; with_reducible rfl); (simp only [Act.put, qA, qB, qC, i64_w, i32_w]; rfl)
                       refine pT (v := ?_) (a' := ?_) HT_ 15 (some 139) (mkB3 42 65535) ?_ ?_ ?_; rotate_left 2; (intro w'; go_simp; with_reducible rfl); (simp only [Act.put, qA, qB, qC, i64_w, i32_w]; rfl)
                       refine pT (v := ?_) (a' := ?_) HT_ 16 (some 140) (mkB3 42 131071) ?_ ?_ ?_; rotate_left 2; (intro w'; go_simp; with_reducible rfl); (simp only [Act.put, qA, qB, qC, i64_w, i32_w]; rfl)
                       refine pT (v := ?_) (a' := ?_) HT_ 17 (some 141) (mkB3 42 262143) ?_ ?_ ?_; rotate_left 2; (intro w'; go_simp; with_reducible rfl); (simp only [Act.put, qA, qB, qC, i64_w, i32_w]; rfl)
                       refine pT (v := ?_) (a' := ?_) HT_ 18 (some 142) (mkB3 42 524287) ?_ ?_ ?_; rotate_left 2; (intro w'; go_simp; with_reducible rfl); (simp only [Act.put, qA, qB, qC, i64_w, i32_w]; rfl)
                       refine pT (v := ?_) (a' := ?_) HT_ 19 (some 143) (mkB3 42 1048575) ?_ ?_ ?_; rotate_left 2; (intro w'; go_simp; with_reducible rfl); (simp only [Act.put, qA, qB, qC, i64_w, i32_w]; rfl)
                       refine pT (v := ?_) (a' := ?_) HT_ 20 (some 144) (mkB3 42 2097151) ?_ ?_ ?_; rotate_left 2; (intro w'; go_simp; with_reducible rfl); (simp only [Act.put, qA, qB, qC, i64_w, i32_w]; rfl)
                       refine pT (v := ?_) (a' := ?_) HT_ 22 (some 146) (mkB3 42 6291455) ?_ ?_ ?_; rotate_left 2; (intro w'; go_simp; with_reducible rfl); (simp only [Act.put, qA, qB, qC, i64_w, i32_w]; rfl)
                       refine pT (v := ?_) (a' := ?_) HT_ 23 (some 147) (mkB3 42 14680063) ?_ ?_ ?_; rotate_left 2; (intro w'; go_simp; with_reducible rfl); (simp only [Act.put, qA, qB, qC, i64_w, i32_w]; rfl)
                       refine pT (v := ?_) (a' := ?_) HT_ 24 (some 148) (mkB3 42 31457279) ?_ ?_ ?_; rotate_left 2; (intro w'; go_simp; with_reducible rfl); (simp only [Act.put, qA, qB, qC, i64_w, i32_w]; rfl)
                       refine pT (v := ?_) (a' := ?_) HT_ 25 (some 149) (mkB3 42 65011711) ?_ ?_ ?_; rotate_left 2; (intro w'; go_simp; with_reducible rfl); (simp only [Act.put, qA, qB, qC, i64_w, i32_w]; rfl)
                       refine tT (v := ?_) (a' := ?_) HT_ HW_ hHeld 21 (some 145) (mkB3 42 67108863) ?_ ?_ ?_; rotate_left 2; (rintro w' ⟨s0, s1, s2, s3, s4, s5, s6, s7, s8, s9⟩; go_simp; with_reducible rfl); (simp only [Act.put, qA, qB, qC, i64_w, i32_w]; rfl)
                       refine tT (v := ?_) (a' := ?_) HT_ HW_ hHeld 26 (some 150) (mkB3 42 134217727) ?_ ?_ ?_; rotate_left 2; (rintro w' ⟨s0, s1, s2, s3, s4, s5, s6, s7, s8, s9⟩; go_simp; with_reducible rfl); (simp only [Act.put, qA, qB, qC, i64_w, i32_w]; rfl)
                       refine pT (v := ?_) (a' := ?_) HT_ 27 (some 151) (mkB3 42 268435455) ?_ ?_ ?_; rotate_left 2; (intro w'; go_simp; with_reducible rfl); (simp only [Act.put, qA, qB, qC, i64_w, i32_w]; rfl)
                       refine pT (v := ?_) (a' := ?_) HT_ 28 (some 152) (mkB3 42 536870911) ?_ ?_ ?_; rotate_left 2; (intro w'; go_simp; with_reducible rfl); (simp only [Act.put, qA, qB, qC, i64_w, i32_w]; rfl)
                       refine pT (v := ?_) (a' := ?_) HT_ 29 (some 153) (mkB3 42 1073741823) ?_ ?_ ?_; rotate_left 2; (intro w'; go_simp; with_reducible rfl); (simp only [Act.put, qA, qB, qC, i64_w, i32_w]; rfl)
                       refine pT (v := ?_) (a' := ?_) HT_ 30 (some 154) (mkB3 42 2147483647) ?_ ?_ ?_; rotate_left 2; (intro w'; go_simp; with_reducible rfl); (simp only [Act.put, qA, qB, qC, i64_w, i32_w]; rfl)
                       refine pT (v := ?_) (a' := ?_) HT_ 31 (some 155) (mkB3 42 4294967295) ?_ ?_ ?_; rotate_left 2; (intro w'; go_simp; with_reducible rfl); (simp only [Act.put, qA, qB, qC, i64_w, i32_w]; rfl)
                       refine pT (v := ?_) (a' := ?_) HT_ 32 (some 156) (mkB3 42 8589934591) ?_ ?_ ?_; rotate_left 2; (intro w'; go_simp; with_reducible rfl); (simp only [Act.put, qA, qB, qC, i64_w, i32_w]; rfl)
                       refine pT (v := ?_) (a' := ?_) HT_ 33 (some 157) (mkB3 42 17179869183) ?_ ?_ ?_; rotate_left 2; (intro w'; go_simp; with_reducible rfl); (simp only [Act.put, qA, qB, qC, i64_w, i32_w]; rfl)
                       refine pT (v := ?_) (a' := ?_) HT_ 34 (some 158) (mkB3 42 34359738367) ?_ ?_ ?_; rotate_left 2; (intro w'; go_simp; with_reducible rfl); (simp only [Act.put, qA, qB, qC, i64_w, i32_w]; rfl)
                       refine pT (v := ?_) (a' := ?_) HT_ 38 (some 162) (mkB3 42 309237645311) ?_ ?_ ?_; rotate_left 2; (intro w'; go_simp; with_reducible rfl); (simp only [Act.put, qA, qB, qC, i64_w, i32_w]; rfl)
                       refine tT (v := ?_) (a' := ?_) HT_ HW_ hHeld 35 (some 159) (mkB3 42 343597383679) ?_ ?_ ?_; rotate_left 2; (rintro w' ⟨s0, s1, s2, s3, s4, s5, s6, s7, s8, s9⟩; go_simp; with_reducible rfl); (simp only [Act.put, qA, qB, qC, i64_w, i32_w]; rfl)
                       refine pT (v := ?_) (a' := ?_) HT_ 36 (some 160) (mkB3 42 412316860415) ?_ ?_ ?_; rotate_left 2; (intro w'; go_simp; with_reducible rfl); (simp only [Act.put, qA, qB, qC, i64_w, i32_w]; rfl)
                       refine tT (v := ?_) (a' := ?_) HT_ HW_ hHeld 37 (some 161) (mkB3 42 549755813887) ?_ ?_ ?_; rotate_left 2; (rintro w' ⟨s0, s1, s2, s3, s4, s5, s6, s7, s8, s9⟩; go_simp; with_reducible rfl); (simp only [Act.put, qA, qB, qC, i64_w, i32_w]; rfl)
                       refine one_ (i := 39) (N := some 163) (mkB3 42 1099511627775) rfl rfl (one_of HT_.out (by kernel_rfl)) (by decide) (fun K hK => ?_)
                       refine goes_ Try.func10 (by kernel_rfl) rfl #[.slice A240_0 (rd_L3 t218 (rd t231 x12_3)).length c240_0, .int .i64 x9_2] (by rfl) rfl rfl (by (try simp only [List.map_toArray, List.map_cons, List.map_nil]); first | done | rfl | (simp only [List.length_drop, List.length_take]; rfl)) ?_
                       with_reducible refine (mosaicref09_Has.calls k3 _ _ (rd_L3 t218 (rd t231 x12_3)) x9_2 false _ ?side1 ?side2 A59.out).mono ?_
                       (case side1 => repeat (first | exact (by repeat (first | (with_reducible exact HR240_0.out) | (with_reducible refine Kd.C_alloc ?_ _) | (with_reducible refine Kd.C_drewN ?_ _) | (with_reducible refine Kd.C_drew ?_) | exact HR240_0.out)) | (with_reducible refine Kd.C_alloc ?_ _) | (with_reducible refine Kd.C_drewN ?_ _) | (with_reducible refine Kd.C_drew ?_)))
                       (case side2 => exact HC240_0.out)
                       rintro e w' ⟨rfl, ⟨nd, rfl⟩⟩
                       refine ⟨_, rfl, ?_⟩; refine hK.out _ _ ⟨(blk_cell BK217.out 0).trans rfl, (blk_cell BK217.out 1).trans rfl, (blk_cell BK217.out 2).trans rfl, (blk_cell BK217.out 3).trans rfl, hHeld.2.2.2.2.1, hHeld.2.2.2.2.2.1, hHeld.2.2.2.2.2.2.1, hHeld.2.2.2.2.2.2.2.1, hHeld.2.2.2.2.2.2.2.2.1, hHeld.2.2.2.2.2.2.2.2.2⟩ (fun hHeld => ?_)
                       clear hK K; refine norm_ (a' := ?_) ?_ ?_
                       rotate_left
                       ·
                        show Act.put _ (some 163) _ = _
                        simp only [Act.put, List.setIfInBounds_toArray, List.set_cons_zero, List.set_cons_succ, i64_w, i32_w]; rfl
                       refine pT (v := ?_) (a' := ?_) HT_ 40 (some 164) (mkB3 42 2199023255551) ?_ ?_ ?_; rotate_left 2; (intro w'; go_simp; with_reducible rfl); (simp only [Act.put, qA, qB, qC, i64_w, i32_w]; rfl)
                       refine pT (v := ?_) (a' := ?_) HT_ 41 (some 165) (mkB3 42 4398046511103) ?_ ?_ ?_; rotate_left 2; (intro w'; go_simp; with_reducible rfl); (simp only [Act.put, qA, qB, qC, i64_w, i32_w]; rfl)
                       refine done_ (done_of HT_.out (by kernel_rfl)) ?_
                       try go_wp2
                       go_ret
                       exact ⟨by first | rfl | (simp [errW_none, errW_some] <;> rfl) | (simp only [← hji39, ← hji52]; first | rfl | (simp [errW_none, errW_some] <;> rfl)) | (simp [*, errW_none, errW_some] <;> rfl), by repeat (first | (with_reducible first | exact HB.out | apply below_alloc | apply pw_below_drewN | apply below_drew1 | refine below_set ?_ GE217.out) | exact HB.out)⟩
                     ·
                      rw [if_neg c58] at H
                      exact absurd H (by simp)
                    ·
                     rw [if_neg c57] at H
                     exact absurd H (by simp)
                  ·
                   rw [if_neg c54] at H
                   exact absurd H (by simp)
                 ·
                  rw [if_neg c53] at H
                  exact absurd H (by simp)
                ·
                 rw [if_neg c51] at H
                 have c51b0 : decide (0 < x12_3) = false := decide_eq_false c51
                 clear c51; by_cases c63 : 0 ≤ (rd t231 x12_3)
                 ·
                  rw [if_pos c63] at H
                  have c63b0 : decide (0 ≤ (rd t231 x12_3)) = true := decide_eq_true c63
                  clear c63; by_cases c64 : (rd t231 x12_3) < (t218.length : Int)
                  ·
                   rw [if_pos c64] at H
                   have c64b0 : decide ((rd t231 x12_3) < (t218.length : Int)) = true := decide_eq_true c64
                   clear c64; replace H := Option.bind_eq_some_iff.mp H
                   obtain ⟨t244, A650, H⟩ := H
                   replace H : (if t244 = true then (mosaiclaw09_OuterEach.l3 k3 t218 x5_1 x9_2 t231 (wrap64 (x12_3 + 1)) a0_0 a0_1 a0_2 a0_3) else (some false)) = some r := H
                   have A65 := Aside0.mk A650
                   clear A650; by_cases c66 : t244 = true
                   ·
                    subst c66
                    have H1 : (mosaiclaw09_OuterEach.l3 k3 t218 x5_1 x9_2 t231 (wrap64 (x12_3 + 1)) a0_0 a0_1 a0_2 a0_3) = some r := by rw [if_pos rfl] at H; exact H
                    clear H; have H := H1; clear H1; have H' := Aside0.mk H
                    clear H; try go_wp2
                    have n0_ := Aside0.mk (Kd.S_drew HO_3.out)
                    have n1_ := Aside0.mk (Kd.QC_drew HO_10.out)
                    have n2_ := Aside0.mk (blk_drew BK217.out)
                    have n3_ := Aside0.mk (below_drew1 HB.out)
                    clear HO_3 HO_10 BK217 HB; have HO_3 := n0_; have HO_10 := n1_; have BK217 := n2_; have HB := n3_; clear n0_ n1_ n2_ n3_; have p235 : 0 ≤ (x12_3 : Int) := of_decide_eq_true (by first | (with_reducible assumption) | assumption)
                    have q235 : x12_3 < (t231.length : Int) := of_decide_eq_true (by first | (with_reducible assumption) | assumption)
                    obtain ⟨ad235, e235, hx235_0⟩ := Kd.at_int (Kd.QC_reads' HO_10.out).2.2 x12_3 p235 q235
                    cases e235
                    replace p235 := eq_true p235
                    replace q235 := eq_true q235
                    have p236 : 0 ≤ (x12_3 : Int) := of_decide_eq_true (by first | (with_reducible assumption) | assumption)
                    have q236 : x12_3 < (t231.length : Int) := of_decide_eq_true (by first | (with_reducible assumption) | assumption)
                    obtain ⟨ad236, e236, hx236_0⟩ := Kd.at_int (Kd.QC_reads' HO_10.out).2.2 x12_3 p236 q236
                    obtain rfl : ad235 = ad236 := (by injection e236)
                    replace p236 := eq_true p236
                    replace q236 := eq_true q236
                    have p242 : 0 ≤ (x12_3 : Int) := of_decide_eq_true (by first | (with_reducible assumption) | assumption)
                    have q242 : x12_3 < (t231.length : Int) := of_decide_eq_true (by first | (with_reducible assumption) | assumption)
                    obtain ⟨ad242, e242, hx242_0⟩ := Kd.at_int (Kd.QC_reads' HO_10.out).2.2 x12_3 p242 q242
                    obtain rfl : ad235 = ad242 := (by injection e242)
                    replace p242 := eq_true p242
                    replace q242 := eq_true q242
                    have p243 : 0 ≤ ((rd t231 x12_3) : Int) := of_decide_eq_true (by first | (with_reducible assumption) | assumption)
                    have q243 : (rd t231 x12_3) < (t218.length : Int) := of_decide_eq_true (by first | (with_reducible assumption) | assumption)
                    obtain ⟨ad243, A243_0, c243_0, e243, hx243_0, hl243_0, hi243_0⟩ := at_L3 (Kd.S_reads' HO_3.out).2.2 (rd t231 x12_3) p243 q243
                    cases e243
                    obtain ⟨ce243, hce243, hMe243, hcc243⟩ := Kd.S_get HO_3.out [] (rd t231 x12_3) p243 (by first | exact q243 | exact of_decide_eq_true (by first | (with_reducible assumption) | assumption) | (have e_ := (Kd.S_reads' HO_3.out).1; omega))
                    obtain ⟨ve243_0, rfl, ge243_0⟩ := hMe243
                    have hv243_0 := hcc243 0 _ rfl
                    rw [Nat.add_zero, show ((Kd.slice 3 (Kd.int .i64))).sz = 1 from rfl, Nat.mul_one] at hv243_0
                    replace hv243_0 := Option.some.inj (hv243_0.symm.trans hx243_0)
                    rw [hv243_0] at ge243_0
                    have HL243_0 := Aside0.mk (show Kd.R (Kd.int .i64) 3 _ _ _ _ (rd_L3 t218 (rd t231 x12_3)) from ge243_0)
                    clear hv243_0 ge243_0 hcc243 hce243; have HR243_0 := Aside0.mk hi243_0
                    have HC243_0 := Aside0.mk hl243_0
                    clear hi243_0 hl243_0; replace p243 := eq_true p243
                    replace q243 := eq_true q243
                    refine start_ (n := 42) (S := fun w' => w'.cell? ⟨gb217, 0, none⟩ = some (.int .i64 a0_0) ∧ w'.cell? ⟨gb217, 1, none⟩ = some (.int .i64 a0_1) ∧ w'.cell? ⟨gb217, 2, none⟩ = some (.int .i64 a0_2) ∧ w'.cell? ⟨gb217, 3, none⟩ = some (.int .i64 a0_3) ∧ w'.cell? (ad235.add (x12_3).toNat) = some (.int .i64 (rd t231 x12_3)) ∧ w'.cell? (ad235.add (x12_3).toNat) = some (.int .i64 (rd t231 x12_3)) ∧ w'.cell? (ad235.add (x12_3).toNat) = some (.int .i64 (rd t231 x12_3)) ∧ w'.cell? (ad243.add ((rd t231 x12_3)).toNat) = some (.slice A243_0 (rd_L3 t218 (rd t231 x12_3)).length c243_0)) (ds := []) (mkB3 42 0) (by kernel_rfl) rfl rfl ⟨(blk_cell BK217.out 0).trans rfl, (blk_cell BK217.out 1).trans rfl, (blk_cell BK217.out 2).trans rfl, (blk_cell BK217.out 3).trans rfl, hx235_0, hx236_0, hx242_0, hx243_0⟩ (fun hHeld => ?_); refine with_tabW mosaiclaw09_OuterEach.tab26 mosaiclaw09_OuterEach.bits26 (fun HT_ HW_ => ?_)
                    generalize wr.drew = w67 at HO_3 HO_10 BK217 HB HL243_0 HR243_0 hx235_0 hx236_0 hx242_0 hx243_0 hHeld ⊢
                    refine pT (v := ?_) (a' := ?_) HT_ 0 (some 124) (mkB3 42 1) ?_ ?_ ?_; rotate_left 2; (intro w'; go_simp; with_reducible rfl); (simp only [Act.put, qA, qB, qC, i64_w, i32_w]; rfl)
                    refine pT (v := ?_) (a' := ?_) HT_ 1 (some 125) (mkB3 42 3) ?_ ?_ ?_; rotate_left 2; (intro w'; go_simp; with_reducible rfl); (simp only [Act.put, qA, qB, qC, i64_w, i32_w]; rfl)
                    refine pT (v := ?_) (a' := ?_) HT_ 2 (some 126) (mkB3 42 7) ?_ ?_ ?_; rotate_left 2; (intro w'; go_simp; with_reducible rfl); (simp only [Act.put, qA, qB, qC, i64_w, i32_w]; rfl)
                    refine tT (v := ?_) (a' := ?_) HT_ HW_ hHeld 3 (some 127) (mkB3 42 15) ?_ ?_ ?_; rotate_left 2; (rintro w' ⟨s0, s1, s2, s3, s4, s5, s6, s7⟩; go_simp; with_reducible rfl); (simp only [Act.put, qA, qB, qC, i64_w, i32_w]; rfl)
                    refine pT (v := ?_) (a' := ?_) HT_ 4 (some 128) (mkB3 42 31) ?_ ?_ ?_; rotate_left 2; (intro w'; go_simp; with_reducible rfl); (simp only [Act.put, qA, qB, qC, i64_w, i32_w]; rfl)
                    refine pT (v := ?_) (a' := ?_) HT_ 5 (some 129) (mkB3 42 63) ?_ ?_ ?_; rotate_left 2; (intro w'; go_simp; with_reducible rfl); (simp only [Act.put, qA, qB, qC, i64_w, i32_w]; rfl)
                    refine pT (v := ?_) (a' := ?_) HT_ 6 (some 130) (mkB3 42 127) ?_ ?_ ?_; rotate_left 2; (intro w'; go_simp; with_reducible rfl); (simp only [Act.put, qA, qB, qC, i64_w, i32_w]; rfl)
                    refine pT (v := ?_) (a' := ?_) HT_ 7 (some 131) (mkB3 42 255) ?_ ?_ ?_; rotate_left 2; (intro w'; go_simp; with_reducible rfl); (simp only [Act.put, qA, qB, qC, i64_w, i32_w]; rfl)
                    refine pT (v := ?_) (a' := ?_) HT_ 8 (some 132) (mkB3 42 511) ?_ ?_ ?_; rotate_left 2; (intro w'; go_simp; with_reducible rfl); (simp only [Act.put, qA, qB, qC, i64_w, i32_w]; rfl)
                    refine pT (v := ?_) (a' := ?_) HT_ 10 (some 134) (mkB3 42 1535) ?_ ?_ ?_; rotate_left 2; (intro w'; go_simp; with_reducible rfl); (simp only [Act.put, qA, qB, qC, i64_w, i32_w]; rfl)
                    refine tT (v := ?_) (a' := ?_) HT_ HW_ hHeld 9 (some 133) (mkB3 42 2047) ?_ ?_ ?_; rotate_left 2; (rintro w' ⟨s0, s1, s2, s3, s4, s5, s6, s7⟩; go_simp; with_reducible rfl); (simp only [Act.put, qA, qB, qC, i64_w, i32_w]; rfl)
                    refine tT (v := ?_) (a' := ?_) HT_ HW_ hHeld 11 (some 135) (mkB3 42 4095) ?_ ?_ ?_; rotate_left 2; (rintro w' ⟨s0, s1, s2, s3, s4, s5, s6, s7⟩; go_simp; with_reducible rfl); (simp only [Act.put, qA, qB, qC, i64_w, i32_w]; rfl)
                    refine pT (v := ?_) (a' := ?_) HT_ 12 (some 136) (mkB3 42 8191) ?_ ?_ ?_; rotate_left 2; (intro w'; go_simp; with_reducible rfl); (simp only [Act.put, qA, qB, qC, i64_w, i32_w]; rfl)
                    refine pT (v := ?_) (a' := ?_) HT_ 13 (some 137) (mkB3 42 16383) ?_ ?_ ?_; rotate_left 2; (intro w'; go_simp; with_reducible rfl); (simp only [Act.put, qA, qB, qC, i64_w, i32_w]; rfl)
                    refine pT (v := ?_) (a' := ?_) HT_ 14 (some 138) (mkB3 42 32767) ?_ ?_ ?_; rotate_left 2; (intro w'; go_simp; with_reducible rfl); (simp only [Act.put, qA, qB, qC, i64_w, i32_w]; rfl)
                    refine pT (v := ?_) (a' := ?_) HT_ 15 (some 139) (mkB3 42 65535) ?_ ?_ ?_; rotate_left 2; (intro w'; go_simp; with_reducible rfl); (simp only [Act.put, qA, qB, qC, i64_w, i32_w]; rfl)
                    refine pT (v := ?_) (a' := ?_) HT_ 16 (some 140) (mkB3 42 131071) ?_ ?_ ?_; rotate_left 2; (intro w'; go_simp; with_reducible rfl); (simp only [Act.put, qA, qB, qC, i64_w, i32_w]; rfl)
                    refine pT (v := ?_) (a' := ?_) HT_ 17 (some 141) (mkB3 42 262143) ?_ ?_ ?_; rotate_left 2; (intro w'; go_simp; with_reducible rfl); (simp only [Act.put, qA, qB, qC, i64_w, i32_w]; rfl)
                    refine nT (a' := ?_) HT_ 18 (some 142) (mkB3 42 524287) ?_ ?_; rotate_left; (simp only [Act.put, qA, qB, qC, i64_w, i32_w]; rfl)
                    refine nT (a' := ?_) HT_ 19 (some 143) (mkB3 42 1048575) ?_ ?_; rotate_left; (simp only [Act.put, qA, qB, qC, i64_w, i32_w]; rfl)
                    refine nT (a' := ?_) HT_ 20 (some 144) (mkB3 42 2097151) ?_ ?_; rotate_left; (simp only [Act.put, qA, qB, qC, i64_w, i32_w]; rfl)
                    refine nT (a' := ?_) HT_ 21 (some 145) (mkB3 42 4194303) ?_ ?_; rotate_left; (simp only [Act.put, qA, qB, qC, i64_w, i32_w]; rfl)
                    refine nT (a' := ?_) HT_ 22 (some 146) (mkB3 42 8388607) ?_ ?_; rotate_left; (simp only [Act.put, qA, qB, qC, i64_w, i32_w]; rfl)
                    refine nT (a' := ?_) HT_ 23 (some 147) (mkB3 42 16777215) ?_ ?_; rotate_left; (simp only [Act.put, qA, qB, qC, i64_w, i32_w]; rfl)
                    refine nT (a' := ?_) HT_ 24 (some 148) (mkB3 42 33554431) ?_ ?_; rotate_left; (simp only [Act.put, qA, qB, qC, i64_w, i32_w]; rfl)
                    refine nT (a' := ?_) HT_ 25 (some 149) (mkB3 42 67108863) ?_ ?_; rotate_left; (simp only [Act.put, qA, qB, qC, i64_w, i32_w]; rfl)
                    refine nT (a' := ?_) HT_ 26 (some 150) (mkB3 42 134217727) ?_ ?_; rotate_left; (simp only [Act.put, qA, qB, qC, i64_w, i32_w]; rfl)
                    refine nT (a' := ?_) HT_ 27 (some 151) (mkB3 42 268435455) ?_ ?_; rotate_left; (simp only [Act.put, qA, qB, qC, i64_w, i32_w]; rfl)
                    refine pT (v := ?_) (a' := ?_) HT_ 28 (some 152) (mkB3 42 536870911) ?_ ?_ ?_; rotate_left 2; (intro w'; go_simp; with_reducible rfl); (simp only [Act.put, qA, qB, qC, i64_w, i32_w]; rfl)
                    refine pT (v := ?_) (a' := ?_) HT_ 29 (some 153) (mkB3 42 1073741823) ?_ ?_ ?_; rotate_left 2; (intro w'; go_simp; with_reducible rfl); (simp only [Act.put, qA, qB, qC, i64_w, i32_w]; rfl)
                    refine pT (v := ?_) (a' := ?_) HT_ 30 (some 154) (mkB3 42 2147483647) ?_ ?_ ?_; rotate_left 2; (intro w'; go_simp; with_reducible rfl); (simp only [Act.put, qA, qB, qC, i64_w, i32_w]; rfl)
                    refine pT (v := ?_) (a' := ?_) HT_ 31 (some 155) (mkB3 42 4294967295) ?_ ?_ ?_; rotate_left 2; (intro w'; go_simp; with_reducible rfl); (simp only [Act.put, qA, qB, qC, i64_w, i32_w]; rfl)
                    refine pT (v := ?_) (a' := ?_) HT_ 32 (some 156) (mkB3 42 8589934591) ?_ ?_ ?_; rotate_left 2; (intro w'; go_simp; with_reducible rfl); (simp only [Act.put, qA, qB, qC, i64_w, i32_w]; rfl)
                    refine pT (v := ?_) (a' := ?_) HT_ 33 (some 157) (mkB3 42 17179869183) ?_ ?_ ?_; rotate_left 2; (intro w'; go_simp; with_reducible rfl); (simp only [Act.put, qA, qB, qC, i64_w, i32_w]; rfl)
                    refine pT (v := ?_) (a' := ?_) HT_ 34 (some 158) (mkB3 42 34359738367) ?_ ?_ ?_; rotate_left 2; (intro w'; go_simp; with_reducible rfl); (simp only [Act.put, qA, qB, qC, i64_w, i32_w]; rfl)
                    refine pT (v := ?_) (a' := ?_) HT_ 38 (some 162) (mkB3 42 309237645311) ?_ ?_ ?_; rotate_left 2; (intro w'; go_simp; with_reducible rfl); (simp only [Act.put, qA, qB, qC, i64_w, i32_w]; rfl)
                    refine tT (v := ?_) (a' := ?_) HT_ HW_ hHeld 35 (some 159) (mkB3 42 343597383679) ?_ ?_ ?_; rotate_left 2; (rintro w' ⟨s0, s1, s2, s3, s4, s5, s6, s7⟩; go_simp; with_reducible rfl); (simp only [Act.put, qA, qB, qC, i64_w, i32_w]; rfl)
                    refine pT (v := ?_) (a' := ?_) HT_ 36 (some 160) (mkB3 42 412316860415) ?_ ?_ ?_; rotate_left 2; (intro w'; go_simp; with_reducible rfl); (simp only [Act.put, qA, qB, qC, i64_w, i32_w]; rfl)
                    refine tT (v := ?_) (a' := ?_) HT_ HW_ hHeld 37 (some 161) (mkB3 42 549755813887) ?_ ?_ ?_; rotate_left 2; (rintro w' ⟨s0, s1, s2, s3, s4, s5, s6, s7⟩; go_simp; with_reducible rfl); (simp only [Act.put, qA, qB, qC, i64_w, i32_w]; rfl)
                    refine one_ (i := 39) (N := some 163) (mkB3 42 1099511627775) rfl rfl (one_of HT_.out (by kernel_rfl)) (by decide) (fun K hK => ?_)
                    refine goes_ Try.func10 (by kernel_rfl) rfl #[.slice A243_0 (rd_L3 t218 (rd t231 x12_3)).length c243_0, .int .i64 x9_2] (by rfl) rfl rfl (by (try simp only [List.map_toArray, List.map_cons, List.map_nil]); first | done | rfl | (simp only [List.length_drop, List.length_take]; rfl)) ?_
                    with_reducible refine (mosaicref09_Has.calls k3 _ _ (rd_L3 t218 (rd t231 x12_3)) x9_2 true _ ?side1 ?side2 A65.out).mono ?_
                    (case side1 => repeat (first | exact (by repeat (first | (with_reducible exact HR243_0.out) | (with_reducible refine Kd.C_alloc ?_ _) | (with_reducible refine Kd.C_drewN ?_ _) | (with_reducible refine Kd.C_drew ?_) | exact HR243_0.out)) | (with_reducible refine Kd.C_alloc ?_ _) | (with_reducible refine Kd.C_drewN ?_ _) | (with_reducible refine Kd.C_drew ?_)))
                    (case side2 => exact HC243_0.out)
                    rintro e w' ⟨rfl, ⟨nd, rfl⟩⟩
                    refine ⟨_, rfl, ?_⟩; refine hK.out _ _ ⟨(blk_cell BK217.out 0).trans rfl, (blk_cell BK217.out 1).trans rfl, (blk_cell BK217.out 2).trans rfl, (blk_cell BK217.out 3).trans rfl, hHeld.2.2.2.2.1, hHeld.2.2.2.2.2.1, hHeld.2.2.2.2.2.2.1, hHeld.2.2.2.2.2.2.2⟩ (fun hHeld => ?_)
                    clear hK K; refine norm_ (a' := ?_) ?_ ?_
                    rotate_left
                    ·
                     show Act.put _ (some 163) _ = _
                     simp only [Act.put, List.setIfInBounds_toArray, List.set_cons_zero, List.set_cons_succ, i64_w, i32_w]; rfl
                    refine pT (v := ?_) (a' := ?_) HT_ 40 (some 164) (mkB3 42 2199023255551) ?_ ?_ ?_; rotate_left 2; (intro w'; go_simp; with_reducible rfl); (simp only [Act.put, qA, qB, qC, i64_w, i32_w]; rfl)
                    refine pT (v := ?_) (a' := ?_) HT_ 41 (some 165) (mkB3 42 4398046511103) ?_ ?_ ?_; rotate_left 2; (intro w'; go_simp; with_reducible rfl); (simp only [Act.put, qA, qB, qC, i64_w, i32_w]; rfl)
                    refine done_ (done_of HT_.out (by kernel_rfl)) ?_
                    try go_wp2
                    go_roundg k3
                    case measure => have := HK1.out; have := HK2.out; have := HK3.out; omega
                    case rel => exact ⟨(wrap64 (x12_3 + 1)), (by first | rfl | (simp; done) | (simp [*]; done)), H', ⟨by have := HK1.out; have := HK2.out; have := HK3.out; omega⟩, ⟨by (with_reducible repeat (first | apply Kd.S_alloc | apply Kd.S_drewN | apply Kd.S_drew)); exact HO_3.out⟩, ⟨by (with_reducible repeat (first | apply Kd.QC_alloc | apply Kd.QC_drewN | apply Kd.QC_drew)); exact HO_10.out⟩, ⟨by (with_reducible repeat (first | refine blk_drewN ?_ _ | refine blk_drew ?_ | refine blk_alloc ?_ _)); exact BK217.out⟩, ⟨by repeat (first | (with_reducible first | exact HB.out | apply below_alloc | apply pw_below_drewN | apply below_drew1 | refine below_set ?_ GE217.out) | exact HB.out)⟩⟩
                   ·
                    replace c66 := Bool.eq_false_iff.mpr c66
                    subst c66
                    have H1 : (some false) = some r := by rw [if_neg (show ¬ (false = true) by decide)] at H; exact H
                    clear H; have H := H1; clear H1; obtain rfl := Option.some.inj H
                    try go_wp2
                    have n0_ := Aside0.mk (Kd.S_drew HO_3.out)
                    have n1_ := Aside0.mk (Kd.QC_drew HO_10.out)
                    have n2_ := Aside0.mk (blk_drew BK217.out)
                    have n3_ := Aside0.mk (below_drew1 HB.out)
                    clear HO_3 HO_10 BK217 HB; have HO_3 := n0_; have HO_10 := n1_; have BK217 := n2_; have HB := n3_; clear n0_ n1_ n2_ n3_; have p235 : 0 ≤ (x12_3 : Int) := of_decide_eq_true (by first | (with_reducible assumption) | assumption)
                    have q235 : x12_3 < (t231.length : Int) := of_decide_eq_true (by first | (with_reducible assumption) | assumption)
                    obtain ⟨ad235, e235, hx235_0⟩ := Kd.at_int (Kd.QC_reads' HO_10.out).2.2 x12_3 p235 q235
                    cases e235
                    replace p235 := eq_true p235
                    replace q235 := eq_true q235
                    have p236 : 0 ≤ (x12_3 : Int) := of_decide_eq_true (by first | (with_reducible assumption) | assumption)
                    have q236 : x12_3 < (t231.length : Int) := of_decide_eq_true (by first | (with_reducible assumption) | assumption)
                    obtain ⟨ad236, e236, hx236_0⟩ := Kd.at_int (Kd.QC_reads' HO_10.out).2.2 x12_3 p236 q236
                    obtain rfl : ad235 = ad236 := (by injection e236)
                    replace p236 := eq_true p236
                    replace q236 := eq_true q236
                    have p242 : 0 ≤ (x12_3 : Int) := of_decide_eq_true (by first | (with_reducible assumption) | assumption)
                    have q242 : x12_3 < (t231.length : Int) := of_decide_eq_true (by first | (with_reducible assumption) | assumption)
                    obtain ⟨ad242, e242, hx242_0⟩ := Kd.at_int (Kd.QC_reads' HO_10.out).2.2 x12_3 p242 q242
                    obtain rfl : ad235 = ad242 := (by injection e242)
                    replace p242 := eq_true p242
                    replace q242 := eq_true q242
                    have p243 : 0 ≤ ((rd t231 x12_3) : Int) := of_decide_eq_true (by first | (with_reducible assumption) | assumption)
                    have q243 : (rd t231 x12_3) < (t218.length : Int) := of_decide_eq_true (by first | (with_reducible assumption) | assumption)
                    obtain ⟨ad243, A243_0, c243_0, e243, hx243_0, hl243_0, hi243_0⟩ := at_L3 (Kd.S_reads' HO_3.out).2.2 (rd t231 x12_3) p243 q243
                    cases e243
                    obtain ⟨ce243, hce243, hMe243, hcc243⟩ := Kd.S_get HO_3.out [] (rd t231 x12_3) p243 (by first | exact q243 | exact of_decide_eq_true (by first | (with_reducible assumption) | assumption) | (have e_ := (Kd.S_reads' HO_3.out).1; omega))
                    obtain ⟨ve243_0, rfl, ge243_0⟩ := hMe243
                    have hv243_0 := hcc243 0 _ rfl
                    rw [Nat.add_zero, show ((Kd.slice 3 (Kd.int .i64))).sz = 1 from rfl, Nat.mul_one] at hv243_0
                    replace hv243_0 := Option.some.inj (hv243_0.symm.trans hx243_0)
                    rw [hv243_0] at ge243_0
                    have HL243_0 := Aside0.mk (show Kd.R (Kd.int .i64) 3 _ _ _ _ (rd_L3 t218 (rd t231 x12_3)) from ge243_0)
                    clear hv243_0 ge243_0 hcc243 hce243; have HR243_0 := Aside0.mk hi243_0
                    have HC243_0 := Aside0.mk hl243_0
                    clear hi243_0 hl243_0; replace p243 := eq_true p243
                    replace q243 := eq_true q243
                    refine start_ (n := 42) (S := fun w' => w'.cell? ⟨gb217, 0, none⟩ = some (.int .i64 a0_0) ∧ w'.cell? ⟨gb217, 1, none⟩ = some (.int .i64 a0_1) ∧ w'.cell? ⟨gb217, 2, none⟩ = some (.int .i64 a0_2) ∧ w'.cell? ⟨gb217, 3, none⟩ = some (.int .i64 a0_3) ∧ w'.cell? (ad235.add (x12_3).toNat) = some (.int .i64 (rd t231 x12_3)) ∧ w'.cell? (ad235.add (x12_3).toNat) = some (.int .i64 (rd t231 x12_3)) ∧ w'.cell? (ad235.add (x12_3).toNat) = some (.int .i64 (rd t231 x12_3)) ∧ w'.cell? (ad243.add ((rd t231 x12_3)).toNat) = some (.slice A243_0 (rd_L3 t218 (rd t231 x12_3)).length c243_0)) (ds := []) (mkB3 42 0) (by kernel_rfl) rfl rfl ⟨(blk_cell BK217.out 0).trans rfl, (blk_cell BK217.out 1).trans rfl, (blk_cell BK217.out 2).trans rfl, (blk_cell BK217.out 3).trans rfl, hx235_0, hx236_0, hx242_0, hx243_0⟩ (fun hHeld => ?_); refine with_tabW mosaiclaw09_OuterEach.tab26 mosaiclaw09_OuterEach.bits26 (fun HT_ HW_ => ?_)
                    generalize wr.drew = w68 at HO_3 HO_10 BK217 HB HL243_0 HR243_0 hx235_0 hx236_0 hx242_0 hx243_0 hHeld ⊢
                    refine pT (v := ?_) (a' := ?_) HT_ 0 (some 124) (mkB3 42 1) ?_ ?_ ?_; rotate_left 2; (intro w'; go_simp; with_reducible rfl); (simp only [Act.put, qA, qB, qC, i64_w, i32_w]; rfl)
                    refine pT (v := ?_) (a' := ?_) HT_ 1 (some 125) (mkB3 42 3) ?_ ?_ ?_; rotate_left 2; (intro w'; go_simp; with_reducible rfl); (simp only [Act.put, qA, qB, qC, i64_w, i32_w]; rfl)
                    refine pT (v := ?_) (a' := ?_) HT_ 2 (some 126) (mkB3 42 7) ?_ ?_ ?_; rotate_left 2; (intro w'; go_simp; with_reducible rfl); (simp only [Act.put, qA, qB, qC, i64_w, i32_w]; rfl)
                    refine tT (v := ?_) (a' := ?_) HT_ HW_ hHeld 3 (some 127) (mkB3 42 15) ?_ ?_ ?_; rotate_left 2; (rintro w' ⟨s0, s1, s2, s3, s4, s5, s6, s7⟩; go_simp; with_reducible rfl); (simp only [Act.put, qA, qB, qC, i64_w, i32_w]; rfl)
                    refine pT (v := ?_) (a' := ?_) HT_ 4 (some 128) (mkB3 42 31) ?_ ?_ ?_; rotate_left 2; (intro w'; go_simp; with_reducible rfl); (simp only [Act.put, qA, qB, qC, i64_w, i32_w]; rfl)
                    refine pT (v := ?_) (a' := ?_) HT_ 5 (some 129) (mkB3 42 63) ?_ ?_ ?_; rotate_left 2; (intro w'; go_simp; with_reducible rfl); (simp only [Act.put, qA, qB, qC, i64_w, i32_w]; rfl)
                    refine pT (v := ?_) (a' := ?_) HT_ 6 (some 130) (mkB3 42 127) ?_ ?_ ?_; rotate_left 2; (intro w'; go_simp; with_reducible rfl); (simp only [Act.put, qA, qB, qC, i64_w, i32_w]; rfl)
                    refine pT (v := ?_) (a' := ?_) HT_ 7 (some 131) (mkB3 42 255) ?_ ?_ ?_; rotate_left 2; (intro w'; go_simp; with_reducible rfl); (simp only [Act.put, qA, qB, qC, i64_w, i32_w]; rfl)
                    refine pT (v := ?_) (a' := ?_) HT_ 8 (some 132) (mkB3 42 511) ?_ ?_ ?_; rotate_left 2; (intro w'; go_simp; with_reducible rfl); (simp only [Act.put, qA, qB, qC, i64_w, i32_w]; rfl)
                    refine pT (v := ?_) (a' := ?_) HT_ 10 (some 134) (mkB3 42 1535) ?_ ?_ ?_; rotate_left 2; (intro w'; go_simp; with_reducible rfl); (simp only [Act.put, qA, qB, qC, i64_w, i32_w]; rfl)
                    refine tT (v := ?_) (a' := ?_) HT_ HW_ hHeld 9 (some 133) (mkB3 42 2047) ?_ ?_ ?_; rotate_left 2; (rintro w' ⟨s0, s1, s2, s3, s4, s5, s6, s7⟩; go_simp; with_reducible rfl); (simp only [Act.put, qA, qB, qC, i64_w, i32_w]; rfl)
                    refine tT (v := ?_) (a' := ?_) HT_ HW_ hHeld 11 (some 135) (mkB3 42 4095) ?_ ?_ ?_; rotate_left 2; (rintro w' ⟨s0, s1, s2, s3, s4, s5, s6, s7⟩; go_simp; with_reducible rfl); (simp only [Act.put, qA, qB, qC, i64_w, i32_w]; rfl)
                    refine pT (v := ?_) (a' := ?_) HT_ 12 (some 136) (mkB3 42 8191) ?_ ?_ ?_; rotate_left 2; (intro w'; go_simp; with_reducible rfl); (simp only [Act.put, qA, qB, qC, i64_w, i32_w]; rfl)
                    refine pT (v := ?_) (a' := ?_) HT_ 13 (some 137) (mkB3 42 16383) ?_ ?_ ?_; rotate_left 2; (intro w'; go_simp; with_reducible rfl); (simp only [Act.put, qA, qB, qC, i64_w, i32_w]; rfl)
                    refine pT (v := ?_) (a' := ?_) HT_ 14 (some 138) (mkB3 42 32767) ?_ ?_ ?_; rotate_left 2; (intro w'; go_simp; with_reducible rfl); (simp only [Act.put, qA, qB, qC, i64_w, i32_w]; rfl)
                    refine pT (v := ?_) (a' := ?_) HT_ 15 (some 139) (mkB3 42 65535) ?_ ?_ ?_; rotate_left 2; (intro w'; go_simp; with_reducible rfl); (simp only [Act.put, qA, qB, qC, i64_w, i32_w]; rfl)
                    refine pT (v := ?_) (a' := ?_) HT_ 16 (some 140) (mkB3 42 131071) ?_ ?_ ?_; rotate_left 2; (intro w'; go_simp; with_reducible rfl); (simp only [Act.put, qA, qB, qC, i64_w, i32_w]; rfl)
                    refine pT (v := ?_) (a' := ?_) HT_ 17 (some 141) (mkB3 42 262143) ?_ ?_ ?_; rotate_left 2; (intro w'; go_simp; with_reducible rfl); (simp only [Act.put, qA, qB, qC, i64_w, i32_w]; rfl)
                    refine nT (a' := ?_) HT_ 18 (some 142) (mkB3 42 524287) ?_ ?_; rotate_left; (simp only [Act.put, qA, qB, qC, i64_w, i32_w]; rfl)
                    refine nT (a' := ?_) HT_ 19 (some 143) (mkB3 42 1048575) ?_ ?_; rotate_left; (simp only [Act.put, qA, qB, qC, i64_w, i32_w]; rfl)
                    refine nT (a' := ?_) HT_ 20 (some 144) (mkB3 42 2097151) ?_ ?_; rotate_left; (simp only [Act.put, qA, qB, qC, i64_w, i32_w]; rfl)
                    refine nT (a' := ?_) HT_ 21 (some 145) (mkB3 42 4194303) ?_ ?_; rotate_left; (simp only [Act.put, qA, qB, qC, i64_w, i32_w]; rfl)
                    refine nT (a' := ?_) HT_ 22 (some 146) (mkB3 42 8388607) ?_ ?_; rotate_left; (simp only [Act.put, qA, qB, qC, i64_w, i32_w]; rfl)
                    refine nT (a' := ?_) HT_ 23 (some 147) (mkB3 42 16777215) ?_ ?_; rotate_left; (simp only [Act.put, qA, qB, qC, i64_w, i32_w]; rfl)
                    refine nT (a' := ?_) HT_ 24 (some 148) (mkB3 42 33554431) ?_ ?_; rotate_left; (simp only [Act.put, qA, qB, qC, i64_w, i32_w]; rfl)
                    refine nT (a' := ?_) HT_ 25 (some 149) (mkB3 42 67108863) ?_ ?_; rotate_left; (simp only [Act.put, qA, qB, qC, i64_w, i32_w]; rfl)
                    refine nT (a' := ?_) HT_ 26 (some 150) (mkB3 42 134217727) ?_ ?_; rotate_left; (simp only [Act.put, qA, qB, qC, i64_w, i32_w]; rfl)
                    refine nT (a' := ?_) HT_ 27 (some 151) (mkB3 42 268435455) ?_ ?_; rotate_left; (simp only [Act.put, qA, qB, qC, i64_w, i32_w]; rfl)
                    refine pT (v := ?_) (a' := ?_) HT_ 28 (some 152) (mkB3 42 536870911) ?_ ?_ ?_; rotate_left 2; (intro w'; go_simp; with_reducible rfl); (simp only [Act.put, qA, qB, qC, i64_w, i32_w]; rfl)
                    refine pT (v := ?_) (a' := ?_) HT_ 29 (some 153) (mkB3 42 1073741823) ?_ ?_ ?_; rotate_left 2; (intro w'; go_simp; with_reducible rfl); (simp only [Act.put, qA, qB, qC, i64_w, i32_w]; rfl)
                    refine pT (v := ?_) (a' := ?_) HT_ 30 (some 154) (mkB3 42 2147483647) ?_ ?_ ?_; rotate_left 2; (intro w'; go_simp; with_reducible rfl); (simp only [Act.put, qA, qB, qC, i64_w, i32_w]; rfl)
                    refine pT (v := ?_) (a' := ?_) HT_ 31 (some 155) (mkB3 42 4294967295) ?_ ?_ ?_; rotate_left 2; (intro w'; go_simp; with_reducible rfl); (simp only [Act.put, qA, qB, qC, i64_w, i32_w]; rfl)
                    refine pT (v := ?_) (a' := ?_) HT_ 32 (some 156) (mkB3 42 8589934591) ?_ ?_ ?_; rotate_left 2; (intro w'; go_simp; with_reducible rfl); (simp only [Act.put, qA, qB, qC, i64_w, i32_w]; rfl)
                    refine pT (v := ?_) (a' := ?_) HT_ 33 (some 157) (mkB3 42 17179869183) ?_ ?_ ?_; rotate_left 2; (intro w'; go_simp; with_reducible rfl); (simp only [Act.put, qA, qB, qC, i64_w, i32_w]; rfl)
                    refine pT (v := ?_) (a' := ?_) HT_ 34 (some 158) (mkB3 42 34359738367) ?_ ?_ ?_; rotate_left 2; (intro w'; go_simp; with_reducible rfl); (simp only [Act.put, qA, qB, qC, i64_w, i32_w]; rfl)
                    refine pT (v := ?_) (a' := ?_) HT_ 38 (some 162) (mkB3 42 309237645311) ?_ ?_ ?_; rotate_left 2; (intro w'; go_simp; with_reducible rfl); (simp only [Act.put, qA, qB, qC, i64_w, i32_w]; rfl)
                    refine tT (v := ?_) (a' := ?_) HT_ HW_ hHeld 35 (some 159) (mkB3 42 343597383679) ?_ ?_ ?_; rotate_left 2; (rintro w' ⟨s0, s1, s2, s3, s4, s5, s6, s7⟩; go_simp; with_reducible rfl); (simp only [Act.put, qA, qB, qC, i64_w, i32_w]; rfl)
                    refine pT (v := ?_) (a' := ?_) HT_ 36 (some 160) (mkB3 42 412316860415) ?_ ?_ ?_; rotate_left 2; (intro w'; go_simp; with_reducible rfl); (simp only [Act.put, qA, qB, qC, i64_w, i32_w]; rfl)
                    refine tT (v := ?_) (a' := ?_) HT_ HW_ hHeld 37 (some 161) (mkB3 42 549755813887) ?_ ?_ ?_; rotate_left 2; (rintro w' ⟨s0, s1, s2, s3, s4, s5, s6, s7⟩; go_simp; with_reducible rfl); (simp only [Act.put, qA, qB, qC, i64_w, i32_w]; rfl)
                    refine one_ (i := 39) (N := some 163) (mkB3 42 1099511627775) rfl rfl (one_of HT_.out (by kernel_rfl)) (by decide) (fun K hK => ?_)
                    refine goes_ Try.func10 (by kernel_rfl) rfl #[.slice A243_0 (rd_L3 t218 (rd t231 x12_3)).length c243_0, .int .i64 x9_2] (by rfl) rfl rfl (by (try simp only [List.map_toArray, List.map_cons, List.map_nil]); first | done | rfl | (simp only [List.length_drop, List.length_take]; rfl)) ?_
                    with_reducible refine (mosaicref09_Has.calls k3 _ _ (rd_L3 t218 (rd t231 x12_3)) x9_2 false _ ?side1 ?side2 A65.out).mono ?_
                    (case side1 => repeat (first | exact (by repeat (first | (with_reducible exact HR243_0.out) | (with_reducible refine Kd.C_alloc ?_ _) | (with_reducible refine Kd.C_drewN ?_ _) | (with_reducible refine Kd.C_drew ?_) | exact HR243_0.out)) | (with_reducible refine Kd.C_alloc ?_ _) | (with_reducible refine Kd.C_drewN ?_ _) | (with_reducible refine Kd.C_drew ?_)))
                    (case side2 => exact HC243_0.out)
                    rintro e w' ⟨rfl, ⟨nd, rfl⟩⟩
                    refine ⟨_, rfl, ?_⟩; refine hK.out _ _ ⟨(blk_cell BK217.out 0).trans rfl, (blk_cell BK217.out 1).trans rfl, (blk_cell BK217.out 2).trans rfl, (blk_cell BK217.out 3).trans rfl, hHeld.2.2.2.2.1, hHeld.2.2.2.2.2.1, hHeld.2.2.2.2.2.2.1, hHeld.2.2.2.2.2.2.2⟩ (fun hHeld => ?_)
                    clear hK K; refine norm_ (a' := ?_) ?_ ?_
                    rotate_left
                    ·
                     show Act.put _ (some 163) _ = _
                     simp only [Act.put, List.setIfInBounds_toArray, List.set_cons_zero, List.set_cons_succ, i64_w, i32_w]; rfl
                    refine pT (v := ?_) (a' := ?_) HT_ 40 (some 164) (mkB3 42 2199023255551) ?_ ?_ ?_; rotate_left 2; (intro w'; go_simp; with_reducible rfl); (simp only [Act.put, qA, qB, qC, i64_w, i32_w]; rfl)
                    refine pT (v := ?_) (a' := ?_) HT_ 41 (some 165) (mkB3 42 4398046511103) ?_ ?_ ?_; rotate_left 2; (intro w'; go_simp; with_reducible rfl); (simp only [Act.put, qA, qB, qC, i64_w, i32_w]; rfl)
                    refine done_ (done_of HT_.out (by kernel_rfl)) ?_
                    try go_wp2
                    go_ret
                    exact ⟨by first | rfl | (simp [errW_none, errW_some] <;> rfl) | (simp only [← hji39]; first | rfl | (simp [errW_none, errW_some] <;> rfl)) | (simp [*, errW_none, errW_some] <;> rfl), by repeat (first | (with_reducible first | exact HB.out | apply below_alloc | apply pw_below_drewN | apply below_drew1 | refine below_set ?_ GE217.out) | exact HB.out)⟩
                  ·
                   rw [if_neg c64] at H
                   exact absurd H (by simp)
                 ·
                  rw [if_neg c63] at H
                  exact absurd H (by simp)
             ·
              rw [if_neg c46] at H
              exact absurd H (by simp)
            ·
             rw [if_neg c45] at H
             have c45b0 : decide (x12_3 < (t231.length : Int)) = false := decide_eq_false c45
             clear c45; have H' := Aside0.mk H
             clear H; go_wp2
             go_roundg k3
             case measure => have := HK1.out; have := HK2.out; have := HK3.out; omega
             case rel => exact ⟨(wrap64 (x9_2 + 1)), (by first | rfl | (simp; done) | (simp [*]; done)), H', ⟨by have := HK1.out; have := HK2.out; have := HK3.out; omega⟩, ⟨by (with_reducible repeat (first | apply Kd.S_alloc | apply Kd.S_drewN | apply Kd.S_drew)); exact Kd.S_mono HO_3.out (fun _ hk => trivial)⟩, ⟨by (with_reducible repeat (first | refine blk_drewN ?_ _ | refine blk_drew ?_ | refine blk_alloc ?_ _)); exact BK217.out⟩, ⟨by repeat (first | (with_reducible first | exact HB.out | apply below_alloc | apply pw_below_drewN | apply below_drew1 | refine below_set ?_ GE217.out) | exact HB.out)⟩⟩
         ·
          rw [if_neg c40] at H
          have c40b0 : ((t231.length : Int) == (ji39)) = false := beq_eq_false_iff_ne.mpr c40
          have c40b1 : ((t231.length : Int) != (ji39)) = true := bne_iff_ne.mpr c40
          obtain rfl := Option.some.inj H
          have hcz69_0 : wr.cell? ⟨gb217, 0, none⟩ = some (.int .i64 a0_0) := (blk_cell BK217.out 0).trans rfl
          have hcz69_1 : wr.cell? ⟨gb217, 1, none⟩ = some (.int .i64 a0_1) := (blk_cell BK217.out 1).trans rfl
          have hcz69_2 : wr.cell? ⟨gb217, 2, none⟩ = some (.int .i64 a0_2) := (blk_cell BK217.out 2).trans rfl
          have hcz69_3 : wr.cell? ⟨gb217, 3, none⟩ = some (.int .i64 a0_3) := (blk_cell BK217.out 3).trans rfl
          have hfz69_0 := blk_frozen BK217.out 0; have hfz69_1 := blk_frozen BK217.out 1; have hfz69_2 := blk_frozen BK217.out 2; have hfz69_3 := blk_frozen BK217.out 3; go_wp2_with (first | ((with_reducible refine gate_callee (f := 9) rfl ?_); refine goesL_ (some 103) rfl rfl Try.func9 (by kernel_rfl) rfl #[.agg #[.int .i64 a0_0, .int .i64 a0_1, .int .i64 a0_2, .int .i64 a0_3], .int .i64 x9_2] rfl (by (try simp only [List.map_toArray, List.map_cons, List.map_nil]); first | done | rfl | (simp only [List.length_drop, List.length_take]; rfl)) ?_; (with_reducible refine (outer_Joins.calls k2 a0_0 a0_1 a0_2 a0_3 x9_2 t231 t234 _ A37.out).mono ?_); rintro e w70 ⟨v232, rfl, ho0, hb⟩; refine ⟨_, rfl, ?_⟩; have n0_ := Aside0.mk (Kd.S_elder' (by (with_reducible repeat (first | apply Kd.S_alloc | apply Kd.S_drewN | apply Kd.S_drew)); exact HO_3.out) (Kd.QC_base ho0) hb); have n1_ := Aside0.mk (Kd.QC_lower ho0 (below_size (by repeat (first | (with_reducible first | exact HB.out | apply below_alloc | apply pw_below_drewN | apply below_drew1 | refine below_set ?_ GE217.out) | exact HB.out)))); have n2_ := Aside0.mk (blk_below (g := gb217) (o := .cells #[.int .i64 a0_0, .int .i64 a0_1, .int .i64 a0_2, .int .i64 a0_3] 23 (0, 0)) (by (with_reducible repeat (first | refine blk_drewN ?_ _ | refine blk_drew ?_ | refine blk_alloc ?_ _)); exact BK217.out) hb); have n3_ := Aside0.mk (below_step (by repeat (first | (with_reducible first | exact HB.out | apply below_alloc | apply pw_below_drewN | apply below_drew1 | refine below_set ?_ GE217.out) | exact HB.out)) hb); clear HO_3; clear BK217; clear HB; have HO_3 := n0_; have HO233 := n1_; have BK217 := n2_; have HB := n3_; clear n0_ n1_ n2_ n3_; (try clear hb); (try clear hb2); (try clear hk); (try clear hi); (try clear ho0); obtain ⟨Ao71, co71, eo71, _⟩ := Kd.QC_slice HO233.out; subst eo71; have hcz72_0 : w70.cell? ⟨gb217, 0, none⟩ = some (.int .i64 a0_0) := (blk_cell BK217.out 0).trans rfl; have hcz72_1 : w70.cell? ⟨gb217, 1, none⟩ = some (.int .i64 a0_1) := (blk_cell BK217.out 1).trans rfl; have hcz72_2 : w70.cell? ⟨gb217, 2, none⟩ = some (.int .i64 a0_2) := (blk_cell BK217.out 2).trans rfl; have hcz72_3 : w70.cell? ⟨gb217, 3, none⟩ = some (.int .i64 a0_3) := (blk_cell BK217.out 3).trans rfl; have hfz72_0 := blk_frozen BK217.out 0; have hfz72_1 := blk_frozen BK217.out 1; have hfz72_2 := blk_frozen BK217.out 2; have hfz72_3 := blk_frozen BK217.out 3))
          go_ret
          exact ⟨by first | rfl | (simp [errW_none, errW_some] <;> rfl) | (simp only [← hji39]; first | rfl | (simp [errW_none, errW_some] <;> rfl)) | (simp [*, errW_none, errW_some] <;> rfl), by repeat (first | (with_reducible first | exact HB.out | apply below_alloc | apply pw_below_drewN | apply below_drew1 | refine below_set ?_ GE217.out) | exact HB.out)⟩
        ·
         rw [if_neg c38] at H
         have c38b0 : (t234 == 0) = false := beq_eq_false_iff_ne.mpr c38
         have c38b1 : (t234 != 0) = true := bne_iff_ne.mpr c38
         obtain rfl := Option.some.inj H
         have hcz73_0 : wr.cell? ⟨gb217, 0, none⟩ = some (.int .i64 a0_0) := (blk_cell BK217.out 0).trans rfl
         have hcz73_1 : wr.cell? ⟨gb217, 1, none⟩ = some (.int .i64 a0_1) := (blk_cell BK217.out 1).trans rfl
         have hcz73_2 : wr.cell? ⟨gb217, 2, none⟩ = some (.int .i64 a0_2) := (blk_cell BK217.out 2).trans rfl
         have hcz73_3 : wr.cell? ⟨gb217, 3, none⟩ = some (.int .i64 a0_3) := (blk_cell BK217.out 3).trans rfl
         have hfz73_0 := blk_frozen BK217.out 0; have hfz73_1 := blk_frozen BK217.out 1; have hfz73_2 := blk_frozen BK217.out 2; have hfz73_3 := blk_frozen BK217.out 3; go_wp2_with (first | ((with_reducible refine gate_callee (f := 9) rfl ?_); refine goesL_ (some 103) rfl rfl Try.func9 (by kernel_rfl) rfl #[.agg #[.int .i64 a0_0, .int .i64 a0_1, .int .i64 a0_2, .int .i64 a0_3], .int .i64 x9_2] rfl (by (try simp only [List.map_toArray, List.map_cons, List.map_nil]); first | done | rfl | (simp only [List.length_drop, List.length_take]; rfl)) ?_; (with_reducible refine (outer_Joins.calls k2 a0_0 a0_1 a0_2 a0_3 x9_2 t231 t234 _ A37.out).mono ?_); rintro e w74 ⟨v232, rfl, ho0, hb⟩; refine ⟨_, rfl, ?_⟩; have n0_ := Aside0.mk (Kd.S_elder' (by (with_reducible repeat (first | apply Kd.S_alloc | apply Kd.S_drewN | apply Kd.S_drew)); exact HO_3.out) (Kd.QC_base ho0) hb); have n1_ := Aside0.mk (Kd.QC_lower ho0 (below_size (by repeat (first | (with_reducible first | exact HB.out | apply below_alloc | apply pw_below_drewN | apply below_drew1 | refine below_set ?_ GE217.out) | exact HB.out)))); have n2_ := Aside0.mk (blk_below (g := gb217) (o := .cells #[.int .i64 a0_0, .int .i64 a0_1, .int .i64 a0_2, .int .i64 a0_3] 23 (0, 0)) (by (with_reducible repeat (first | refine blk_drewN ?_ _ | refine blk_drew ?_ | refine blk_alloc ?_ _)); exact BK217.out) hb); have n3_ := Aside0.mk (below_step (by repeat (first | (with_reducible first | exact HB.out | apply below_alloc | apply pw_below_drewN | apply below_drew1 | refine below_set ?_ GE217.out) | exact HB.out)) hb); clear HO_3; clear BK217; clear HB; have HO_3 := n0_; have HO233 := n1_; have BK217 := n2_; have HB := n3_; clear n0_ n1_ n2_ n3_; (try clear hb); (try clear hb2); (try clear hk); (try clear hi); (try clear ho0)))
         go_ret
         exact ⟨by first | rfl | (simp [errW_none, errW_some] <;> rfl) | (simp [*, errW_none, errW_some] <;> rfl), by repeat (first | (with_reducible first | exact HB.out | apply below_alloc | apply pw_below_drewN | apply below_drew1 | refine below_set ?_ GE217.out) | exact HB.out)⟩
       ·
        rw [if_neg c36] at H
        have c36b0 : decide (x9_2 < a0_1) = false := decide_eq_false c36
        clear c36; replace H := Option.bind_eq_some_iff.mp H
        obtain ⟨t230, A750, H⟩ := H
        replace H : (if t230 = true then (if (t218.length : Int) = a0_2 then (some (x5_1 == (wrap64 (a0_1 * (mn a0_3 a0_2))))) else (some false)) else (some false)) = some r := H
        have A75 := Aside0.mk A750
        clear A750; by_cases c76 : t230 = true
        ·
         subst c76
         have H1 : (if (t218.length : Int) = a0_2 then (some (x5_1 == (wrap64 (a0_1 * (mn a0_3 a0_2))))) else (some false)) = some r := by rw [if_pos rfl] at H; exact H
         clear H; have H := H1; clear H1; by_cases c77 : (t218.length : Int) = a0_2
         ·
          rw [if_pos c77] at H
          have c77b0 : ((t218.length : Int) == a0_2) = true := beq_iff_eq.mpr c77
          have c77b1 : ((t218.length : Int) != a0_2) = false := bne_eq_false_iff_eq.mpr c77
          clear c77; obtain ⟨ji78, hji78⟩ : ∃ j_ : Int, (mn a0_3 a0_2) = j_ := ⟨_, rfl⟩
          replace H : (some (x5_1 == (wrap64 (a0_1 * (ji78))))) = some r := by first | (rw [hji78] at H; exact H) | (simp only [hji78] at H ⊢; exact H)
          (try rw [hji78] at A75)
          have hji78_ : (if a0_2 < a0_3 then a0_2 else a0_3) = ji78 := hji78
          obtain rfl := Option.some.inj H
          have hcz79_0 : wr.cell? ⟨gb217, 0, none⟩ = some (.int .i64 a0_0) := (blk_cell BK217.out 0).trans rfl
          have hcz79_1 : wr.cell? ⟨gb217, 1, none⟩ = some (.int .i64 a0_1) := (blk_cell BK217.out 1).trans rfl
          have hcz79_2 : wr.cell? ⟨gb217, 2, none⟩ = some (.int .i64 a0_2) := (blk_cell BK217.out 2).trans rfl
          have hcz79_3 : wr.cell? ⟨gb217, 3, none⟩ = some (.int .i64 a0_3) := (blk_cell BK217.out 3).trans rfl
          have hfz79_0 := blk_frozen BK217.out 0; have hfz79_1 := blk_frozen BK217.out 1; have hfz79_2 := blk_frozen BK217.out 2; have hfz79_3 := blk_frozen BK217.out 3; go_wp2_with (first | ((with_reducible refine gate_callee (f := 7) rfl ?_); refine goesL_ (some 166) rfl rfl Try.func7 (by kernel_rfl) rfl #[] rfl (by (try simp only [List.map_toArray, List.map_cons, List.map_nil]); first | done | rfl | (simp only [List.length_drop, List.length_take]; rfl)) ?_; (with_reducible refine (mosaiclaw09_awake.calls k2  true _ A75.out).mono ?_); rintro e w80 ⟨rfl, hb⟩; refine ⟨_, rfl, ?_⟩; have n0_ := Aside0.mk (Kd.S_below (by (with_reducible repeat (first | apply Kd.S_alloc | apply Kd.S_drewN | apply Kd.S_drew)); exact HO_3.out) hb); have n1_ := Aside0.mk (blk_below (g := gb217) (o := .cells #[.int .i64 a0_0, .int .i64 a0_1, .int .i64 a0_2, .int .i64 a0_3] 23 (0, 0)) (by (with_reducible repeat (first | refine blk_drewN ?_ _ | refine blk_drew ?_ | refine blk_alloc ?_ _)); exact BK217.out) hb); have n2_ := Aside0.mk (below_step (by repeat (first | (with_reducible first | exact HB.out | apply below_alloc | apply pw_below_drewN | apply below_drew1 | refine below_set ?_ GE217.out) | exact HB.out)) hb); clear HO_3; clear BK217; clear HB; have HO_3 := n0_; have BK217 := n1_; have HB := n2_; clear n0_ n1_ n2_; (try clear hb); (try clear hb2); (try clear hk); (try clear hi); have hcz81_0 : w80.cell? ⟨gb217, 0, none⟩ = some (.int .i64 a0_0) := (blk_cell BK217.out 0).trans rfl; have hcz81_1 : w80.cell? ⟨gb217, 1, none⟩ = some (.int .i64 a0_1) := (blk_cell BK217.out 1).trans rfl; have hcz81_2 : w80.cell? ⟨gb217, 2, none⟩ = some (.int .i64 a0_2) := (blk_cell BK217.out 2).trans rfl; have hcz81_3 : w80.cell? ⟨gb217, 3, none⟩ = some (.int .i64 a0_3) := (blk_cell BK217.out 3).trans rfl; have hfz81_0 := blk_frozen BK217.out 0; have hfz81_1 := blk_frozen BK217.out 1; have hfz81_2 := blk_frozen BK217.out 2; have hfz81_3 := blk_frozen BK217.out 3))
          go_ret
          exact ⟨by first | rfl | (simp [errW_none, errW_some] <;> rfl) | (simp only [← hji78]; first | rfl | (simp [errW_none, errW_some] <;> rfl)) | (simp [*, errW_none, errW_some] <;> rfl), by repeat (first | (with_reducible first | exact HB.out | apply below_alloc | apply pw_below_drewN | apply below_drew1 | refine below_set ?_ GE217.out) | exact HB.out)⟩
         ·
          rw [if_neg c77] at H
          have c77b0 : ((t218.length : Int) == a0_2) = false := beq_eq_false_iff_ne.mpr c77
          have c77b1 : ((t218.length : Int) != a0_2) = true := bne_iff_ne.mpr c77
          obtain rfl := Option.some.inj H
          have hcz82_0 : wr.cell? ⟨gb217, 0, none⟩ = some (.int .i64 a0_0) := (blk_cell BK217.out 0).trans rfl
          have hcz82_1 : wr.cell? ⟨gb217, 1, none⟩ = some (.int .i64 a0_1) := (blk_cell BK217.out 1).trans rfl
          have hcz82_2 : wr.cell? ⟨gb217, 2, none⟩ = some (.int .i64 a0_2) := (blk_cell BK217.out 2).trans rfl
          have hcz82_3 : wr.cell? ⟨gb217, 3, none⟩ = some (.int .i64 a0_3) := (blk_cell BK217.out 3).trans rfl
          have hfz82_0 := blk_frozen BK217.out 0; have hfz82_1 := blk_frozen BK217.out 1; have hfz82_2 := blk_frozen BK217.out 2; have hfz82_3 := blk_frozen BK217.out 3; go_wp2_with (first | ((with_reducible refine gate_callee (f := 7) rfl ?_); refine goesL_ (some 166) rfl rfl Try.func7 (by kernel_rfl) rfl #[] rfl (by (try simp only [List.map_toArray, List.map_cons, List.map_nil]); first | done | rfl | (simp only [List.length_drop, List.length_take]; rfl)) ?_; (with_reducible refine (mosaiclaw09_awake.calls k2  true _ A75.out).mono ?_); rintro e w83 ⟨rfl, hb⟩; refine ⟨_, rfl, ?_⟩; have n0_ := Aside0.mk (Kd.S_below (by (with_reducible repeat (first | apply Kd.S_alloc | apply Kd.S_drewN | apply Kd.S_drew)); exact HO_3.out) hb); have n1_ := Aside0.mk (blk_below (g := gb217) (o := .cells #[.int .i64 a0_0, .int .i64 a0_1, .int .i64 a0_2, .int .i64 a0_3] 23 (0, 0)) (by (with_reducible repeat (first | refine blk_drewN ?_ _ | refine blk_drew ?_ | refine blk_alloc ?_ _)); exact BK217.out) hb); have n2_ := Aside0.mk (below_step (by repeat (first | (with_reducible first | exact HB.out | apply below_alloc | apply pw_below_drewN | apply below_drew1 | refine below_set ?_ GE217.out) | exact HB.out)) hb); clear HO_3; clear BK217; clear HB; have HO_3 := n0_; have BK217 := n1_; have HB := n2_; clear n0_ n1_ n2_; (try clear hb); (try clear hb2); (try clear hk); (try clear hi); have hcz84_0 : w83.cell? ⟨gb217, 0, none⟩ = some (.int .i64 a0_0) := (blk_cell BK217.out 0).trans rfl; have hcz84_1 : w83.cell? ⟨gb217, 1, none⟩ = some (.int .i64 a0_1) := (blk_cell BK217.out 1).trans rfl; have hcz84_2 : w83.cell? ⟨gb217, 2, none⟩ = some (.int .i64 a0_2) := (blk_cell BK217.out 2).trans rfl; have hcz84_3 : w83.cell? ⟨gb217, 3, none⟩ = some (.int .i64 a0_3) := (blk_cell BK217.out 3).trans rfl; have hfz84_0 := blk_frozen BK217.out 0; have hfz84_1 := blk_frozen BK217.out 1; have hfz84_2 := blk_frozen BK217.out 2; have hfz84_3 := blk_frozen BK217.out 3))
          go_ret
          exact ⟨by first | rfl | (simp [errW_none, errW_some] <;> rfl) | (simp [*, errW_none, errW_some] <;> rfl), by repeat (first | (with_reducible first | exact HB.out | apply below_alloc | apply pw_below_drewN | apply below_drew1 | refine below_set ?_ GE217.out) | exact HB.out)⟩
        ·
         replace c76 := Bool.eq_false_iff.mpr c76
         subst c76
         have H1 : (some false) = some r := by rw [if_neg (show ¬ (false = true) by decide)] at H; exact H
         clear H; have H := H1; clear H1; obtain rfl := Option.some.inj H
         have hcz85_0 : wr.cell? ⟨gb217, 0, none⟩ = some (.int .i64 a0_0) := (blk_cell BK217.out 0).trans rfl
         have hcz85_1 : wr.cell? ⟨gb217, 1, none⟩ = some (.int .i64 a0_1) := (blk_cell BK217.out 1).trans rfl
         have hcz85_2 : wr.cell? ⟨gb217, 2, none⟩ = some (.int .i64 a0_2) := (blk_cell BK217.out 2).trans rfl
         have hcz85_3 : wr.cell? ⟨gb217, 3, none⟩ = some (.int .i64 a0_3) := (blk_cell BK217.out 3).trans rfl
         have hfz85_0 := blk_frozen BK217.out 0; have hfz85_1 := blk_frozen BK217.out 1; have hfz85_2 := blk_frozen BK217.out 2; have hfz85_3 := blk_frozen BK217.out 3; go_wp2_with (first | ((with_reducible refine gate_callee (f := 7) rfl ?_); refine goesL_ (some 166) rfl rfl Try.func7 (by kernel_rfl) rfl #[] rfl (by (try simp only [List.map_toArray, List.map_cons, List.map_nil]); first | done | rfl | (simp only [List.length_drop, List.length_take]; rfl)) ?_; (with_reducible refine (mosaiclaw09_awake.calls k2  false _ A75.out).mono ?_); rintro e w86 ⟨rfl, hb⟩; refine ⟨_, rfl, ?_⟩; have n0_ := Aside0.mk (Kd.S_below (by (with_reducible repeat (first | apply Kd.S_alloc | apply Kd.S_drewN | apply Kd.S_drew)); exact HO_3.out) hb); have n1_ := Aside0.mk (blk_below (g := gb217) (o := .cells #[.int .i64 a0_0, .int .i64 a0_1, .int .i64 a0_2, .int .i64 a0_3] 23 (0, 0)) (by (with_reducible repeat (first | refine blk_drewN ?_ _ | refine blk_drew ?_ | refine blk_alloc ?_ _)); exact BK217.out) hb); have n2_ := Aside0.mk (below_step (by repeat (first | (with_reducible first | exact HB.out | apply below_alloc | apply pw_below_drewN | apply below_drew1 | refine below_set ?_ GE217.out) | exact HB.out)) hb); clear HO_3; clear BK217; clear HB; have HO_3 := n0_; have BK217 := n1_; have HB := n2_; clear n0_ n1_ n2_; (try clear hb); (try clear hb2); (try clear hk); (try clear hi)))
         go_ret
         exact ⟨by first | rfl | (simp [errW_none, errW_some] <;> rfl) | (simp [*, errW_none, errW_some] <;> rfl), by repeat (first | (with_reducible first | exact HB.out | apply below_alloc | apply pw_below_drewN | apply below_drew1 | refine below_set ?_ GE217.out) | exact HB.out)⟩
 ·
  rw [if_neg c3] at H
  have c3b0 : (t221 == 0) = false := beq_eq_false_iff_ne.mpr c3
  have c3b1 : (t221 != 0) = true := bne_iff_ne.mpr c3
  replace H := Option.bind_eq_some_iff.mp H
  obtain ⟨t222, A870, H⟩ := H
  replace H : (if t222 = true then ((outer_Check.f a0_0 a0_1 a0_2 a0_3).bind fun t223 => (some (!t223))) else (some false)) = some r := H
  have A87 := Aside0.mk A870
  clear A870; by_cases c88 : t222 = true
  ·
   subst c88
   have H1 : ((outer_Check.f a0_0 a0_1 a0_2 a0_3).bind fun t223 => (some (!t223))) = some r := by rw [if_pos rfl] at H; exact H
   clear H; have H := H1; clear H1; replace H := Option.bind_eq_some_iff.mp H
   obtain ⟨t223, A890, H⟩ := H
   replace H : (some (!t223)) = some r := H
   have A89 := Aside0.mk A890
   clear A890; obtain rfl := Option.some.inj H
   go_enter Try.func3, Try.ntmps3
   go_wp2_with (first | ((with_reducible refine gate_dst (N := 1) rfl ?_); (try (refine gate_guard (by rfl) ?_; dsimp only)); refine box_event ?hg (N := 1) ?hd (cs := #[.int .i64 a0_0, .int .i64 a0_1, .int .i64 a0_2, .int .i64 a0_3]) (t := 23) ?hr ?_; (case hd => rfl); (case hg => rfl); (case hr => first | (go_simp; done) | (go_simp; rfl)); intro gb217 hg w90 hbox hb; have n0_ := Aside0.mk (below_step (by repeat (first | (with_reducible first | exact HB.out | apply below_alloc | apply pw_below_drewN | apply below_drew1) | exact HB.out)) hb); have n1_ := Aside0.mk (hbox); have n2_ := Aside0.mk ((by rw [hg]; exact (below_size (by repeat (first | (with_reducible first | exact HB.out | apply below_alloc | apply pw_below_drewN | apply below_drew1) | exact HB.out))) : w.heap.size ≤ gb217)); have n3_ := Aside0.mk ((by rw [hg]; exact (below_size (by repeat (first | (with_reducible first | exact HB.out | apply below_alloc | apply pw_below_drewN | apply below_drew1) | exact HB.out))) : w.heap.size ≤ gb217)); clear HB; have HB := n0_; have BK217 := n1_; have GW217 := n2_; have GE217 := n3_; clear n0_ n1_ n2_ n3_; clear hb hbox hg; have hcz91_0 : w90.cell? ⟨gb217, 0, none⟩ = some (.int .i64 a0_0) := (blk_cell BK217.out 0).trans rfl; have hcz91_1 : w90.cell? ⟨gb217, 1, none⟩ = some (.int .i64 a0_1) := (blk_cell BK217.out 1).trans rfl; have hcz91_2 : w90.cell? ⟨gb217, 2, none⟩ = some (.int .i64 a0_2) := (blk_cell BK217.out 2).trans rfl; have hcz91_3 : w90.cell? ⟨gb217, 3, none⟩ = some (.int .i64 a0_3) := (blk_cell BK217.out 3).trans rfl; have hfz91_0 := blk_frozen BK217.out 0; have hfz91_1 := blk_frozen BK217.out 1; have hfz91_2 := blk_frozen BK217.out 2; have hfz91_3 := blk_frozen BK217.out 3) | ((with_reducible refine gate_callee (f := 6) rfl ?_); refine goesL_ (some 15) rfl rfl Try.func6 (by kernel_rfl) rfl #[.agg #[.int .i64 a0_0, .int .i64 a0_1, .int .i64 a0_2, .int .i64 a0_3]] rfl (by (try simp only [List.map_toArray, List.map_cons, List.map_nil]); first | done | rfl | (simp only [List.length_drop, List.length_take]; rfl)) ?_; (with_reducible refine (outer_Rules.calls k a0_0 a0_1 a0_2 a0_3 t218 t221 _ A2.out).mono ?_); rintro e w92 ⟨v219, rfl, ho0, hb⟩; refine ⟨_, rfl, ?_⟩; have n0_ := Aside0.mk (Kd.S_lower ho0 (below_size (by repeat (first | (with_reducible first | exact HB.out | apply below_alloc | apply pw_below_drewN | apply below_drew1 | refine below_set ?_ GE217.out) | exact HB.out)))); have n1_ := Aside0.mk (blk_below (g := gb217) (o := .cells #[.int .i64 a0_0, .int .i64 a0_1, .int .i64 a0_2, .int .i64 a0_3] 23 (0, 0)) (by (with_reducible repeat (first | refine blk_drewN ?_ _ | refine blk_drew ?_ | refine blk_alloc ?_ _)); exact BK217.out) hb); have n2_ := Aside0.mk (below_step (by repeat (first | (with_reducible first | exact HB.out | apply below_alloc | apply pw_below_drewN | apply below_drew1 | refine below_set ?_ GE217.out) | exact HB.out)) hb); clear BK217; clear HB; have HO220 := n0_; have BK217 := n1_; have HB := n2_; clear n0_ n1_ n2_; (try clear hb); (try clear hb2); (try clear hk); (try clear hi); (try clear ho0)) | ((with_reducible refine gate_callee (f := 7) rfl ?_); refine goesL_ (some 20) rfl rfl Try.func7 (by kernel_rfl) rfl #[] rfl (by (try simp only [List.map_toArray, List.map_cons, List.map_nil]); first | done | rfl | (simp only [List.length_drop, List.length_take]; rfl)) ?_; (with_reducible refine (mosaiclaw09_awake.calls k  true _ A87.out).mono ?_); rintro e w93 ⟨rfl, hb⟩; refine ⟨_, rfl, ?_⟩; have n0_ := Aside0.mk (Kd.S_below (by (with_reducible repeat (first | apply Kd.S_alloc | apply Kd.S_drewN | apply Kd.S_drew)); exact HO220.out) hb); have n1_ := Aside0.mk (blk_below (g := gb217) (o := .cells #[.int .i64 a0_0, .int .i64 a0_1, .int .i64 a0_2, .int .i64 a0_3] 23 (0, 0)) (by (with_reducible repeat (first | refine blk_drewN ?_ _ | refine blk_drew ?_ | refine blk_alloc ?_ _)); exact BK217.out) hb); have n2_ := Aside0.mk (below_step (by repeat (first | (with_reducible first | exact HB.out | apply below_alloc | apply pw_below_drewN | apply below_drew1 | refine below_set ?_ GE217.out) | exact HB.out)) hb); clear HO220; clear BK217; clear HB; have HO220 := n0_; have BK217 := n1_; have HB := n2_; clear n0_ n1_ n2_; (try clear hb); (try clear hb2); (try clear hk); (try clear hi); have hcz94_0 : w93.cell? ⟨gb217, 0, none⟩ = some (.int .i64 a0_0) := (blk_cell BK217.out 0).trans rfl; have hcz94_1 : w93.cell? ⟨gb217, 1, none⟩ = some (.int .i64 a0_1) := (blk_cell BK217.out 1).trans rfl; have hcz94_2 : w93.cell? ⟨gb217, 2, none⟩ = some (.int .i64 a0_2) := (blk_cell BK217.out 2).trans rfl; have hcz94_3 : w93.cell? ⟨gb217, 3, none⟩ = some (.int .i64 a0_3) := (blk_cell BK217.out 3).trans rfl; have hfz94_0 := blk_frozen BK217.out 0; have hfz94_1 := blk_frozen BK217.out 1; have hfz94_2 := blk_frozen BK217.out 2; have hfz94_3 := blk_frozen BK217.out 3) | (go_at_call 8; (with_reducible refine (outer_Check.calls a0_0 a0_1 a0_2 a0_3 t223 _ A89.out).mono ?_); rintro e w95 ⟨rfl, hb⟩; have n0_ := Aside0.mk (Kd.S_below (by (with_reducible repeat (first | apply Kd.S_alloc | apply Kd.S_drewN | apply Kd.S_drew)); exact HO220.out) hb); have n1_ := Aside0.mk (blk_below (g := gb217) (o := .cells #[.int .i64 a0_0, .int .i64 a0_1, .int .i64 a0_2, .int .i64 a0_3] 23 (0, 0)) (by (with_reducible repeat (first | refine blk_drewN ?_ _ | refine blk_drew ?_ | refine blk_alloc ?_ _)); exact BK217.out) hb); have n2_ := Aside0.mk (below_step (by repeat (first | (with_reducible first | exact HB.out | apply below_alloc | apply pw_below_drewN | apply below_drew1 | refine below_set ?_ GE217.out) | exact HB.out)) hb); clear HO220; clear BK217; clear HB; have HO220 := n0_; have BK217 := n1_; have HB := n2_; clear n0_ n1_ n2_; (try clear hb); (try clear hb2); (try clear hk); (try clear hi)))
   go_ret
   exact ⟨by first | rfl | (simp [errW_none, errW_some] <;> rfl) | (simp [*, errW_none, errW_some] <;> rfl), by repeat (first | (with_reducible first | exact HB.out | apply below_alloc | apply pw_below_drewN | apply below_drew1 | refine below_set ?_ GE217.out) | exact HB.out)⟩
  ·
   replace c88 := Bool.eq_false_iff.mpr c88
   subst c88
   have H1 : (some false) = some r := by rw [if_neg (show ¬ (false = true) by decide)] at H; exact H
   clear H; have H := H1; clear H1; obtain rfl := Option.some.inj H
   go_enter Try.func3, Try.ntmps3
   go_wp2_with (first | ((with_reducible refine gate_dst (N := 1) rfl ?_); (try (refine gate_guard (by rfl) ?_; dsimp only)); refine box_event ?hg (N := 1) ?hd (cs := #[.int .i64 a0_0, .int .i64 a0_1, .int .i64 a0_2, .int .i64 a0_3]) (t := 23) ?hr ?_; (case hd => rfl); (case hg => rfl); (case hr => first | (go_simp; done) | (go_simp; rfl)); intro gb217 hg w96 hbox hb; have n0_ := Aside0.mk (below_step (by repeat (first | (with_reducible first | exact HB.out | apply below_alloc | apply pw_below_drewN | apply below_drew1) | exact HB.out)) hb); have n1_ := Aside0.mk (hbox); have n2_ := Aside0.mk ((by rw [hg]; exact (below_size (by repeat (first | (with_reducible first | exact HB.out | apply below_alloc | apply pw_below_drewN | apply below_drew1) | exact HB.out))) : w.heap.size ≤ gb217)); have n3_ := Aside0.mk ((by rw [hg]; exact (below_size (by repeat (first | (with_reducible first | exact HB.out | apply below_alloc | apply pw_below_drewN | apply below_drew1) | exact HB.out))) : w.heap.size ≤ gb217)); clear HB; have HB := n0_; have BK217 := n1_; have GW217 := n2_; have GE217 := n3_; clear n0_ n1_ n2_ n3_; clear hb hbox hg; have hcz97_0 : w96.cell? ⟨gb217, 0, none⟩ = some (.int .i64 a0_0) := (blk_cell BK217.out 0).trans rfl; have hcz97_1 : w96.cell? ⟨gb217, 1, none⟩ = some (.int .i64 a0_1) := (blk_cell BK217.out 1).trans rfl; have hcz97_2 : w96.cell? ⟨gb217, 2, none⟩ = some (.int .i64 a0_2) := (blk_cell BK217.out 2).trans rfl; have hcz97_3 : w96.cell? ⟨gb217, 3, none⟩ = some (.int .i64 a0_3) := (blk_cell BK217.out 3).trans rfl; have hfz97_0 := blk_frozen BK217.out 0; have hfz97_1 := blk_frozen BK217.out 1; have hfz97_2 := blk_frozen BK217.out 2; have hfz97_3 := blk_frozen BK217.out 3) | ((with_reducible refine gate_callee (f := 6) rfl ?_); refine goesL_ (some 15) rfl rfl Try.func6 (by kernel_rfl) rfl #[.agg #[.int .i64 a0_0, .int .i64 a0_1, .int .i64 a0_2, .int .i64 a0_3]] rfl (by (try simp only [List.map_toArray, List.map_cons, List.map_nil]); first | done | rfl | (simp only [List.length_drop, List.length_take]; rfl)) ?_; (with_reducible refine (outer_Rules.calls k a0_0 a0_1 a0_2 a0_3 t218 t221 _ A2.out).mono ?_); rintro e w98 ⟨v219, rfl, ho0, hb⟩; refine ⟨_, rfl, ?_⟩; have n0_ := Aside0.mk (Kd.S_lower ho0 (below_size (by repeat (first | (with_reducible first | exact HB.out | apply below_alloc | apply pw_below_drewN | apply below_drew1 | refine below_set ?_ GE217.out) | exact HB.out)))); have n1_ := Aside0.mk (blk_below (g := gb217) (o := .cells #[.int .i64 a0_0, .int .i64 a0_1, .int .i64 a0_2, .int .i64 a0_3] 23 (0, 0)) (by (with_reducible repeat (first | refine blk_drewN ?_ _ | refine blk_drew ?_ | refine blk_alloc ?_ _)); exact BK217.out) hb); have n2_ := Aside0.mk (below_step (by repeat (first | (with_reducible first | exact HB.out | apply below_alloc | apply pw_below_drewN | apply below_drew1 | refine below_set ?_ GE217.out) | exact HB.out)) hb); clear BK217; clear HB; have HO220 := n0_; have BK217 := n1_; have HB := n2_; clear n0_ n1_ n2_; (try clear hb); (try clear hb2); (try clear hk); (try clear hi); (try clear ho0)) | ((with_reducible refine gate_callee (f := 7) rfl ?_); refine goesL_ (some 20) rfl rfl Try.func7 (by kernel_rfl) rfl #[] rfl (by (try simp only [List.map_toArray, List.map_cons, List.map_nil]); first | done | rfl | (simp only [List.length_drop, List.length_take]; rfl)) ?_; (with_reducible refine (mosaiclaw09_awake.calls k  false _ A87.out).mono ?_); rintro e w99 ⟨rfl, hb⟩; refine ⟨_, rfl, ?_⟩; have n0_ := Aside0.mk (Kd.S_below (by (with_reducible repeat (first | apply Kd.S_alloc | apply Kd.S_drewN | apply Kd.S_drew)); exact HO220.out) hb); have n1_ := Aside0.mk (blk_below (g := gb217) (o := .cells #[.int .i64 a0_0, .int .i64 a0_1, .int .i64 a0_2, .int .i64 a0_3] 23 (0, 0)) (by (with_reducible repeat (first | refine blk_drewN ?_ _ | refine blk_drew ?_ | refine blk_alloc ?_ _)); exact BK217.out) hb); have n2_ := Aside0.mk (below_step (by repeat (first | (with_reducible first | exact HB.out | apply below_alloc | apply pw_below_drewN | apply below_drew1 | refine below_set ?_ GE217.out) | exact HB.out)) hb); clear HO220; clear BK217; clear HB; have HO220 := n0_; have BK217 := n1_; have HB := n2_; clear n0_ n1_ n2_; (try clear hb); (try clear hb2); (try clear hk); (try clear hi)))
   go_ret
   exact ⟨by first | rfl | (simp [errW_none, errW_some] <;> rfl) | (simp [*, errW_none, errW_some] <;> rfl), by repeat (first | (with_reducible first | exact HB.out | apply below_alloc | apply pw_below_drewN | apply below_drew1 | refine below_set ?_ GE217.out) | exact HB.out)⟩

/-- THE ONE PURE STATEMENT of mosaiclaw09_OuterEach: yours. -/
def mosaiclaw09_OuterEach.Pure : Prop := ∀ (a0_0 : Int) (a0_1 : Int) (a0_2 : Int) (a0_3 : Int), ((Lit.int .i64 a0_0).wf = true) → ((Lit.int .i64 a0_1).wf = true) → ((Lit.int .i64 a0_2).wf = true) → ((Lit.int .i64 a0_3).wf = true) → ∃ k, mosaiclaw09_OuterEach.f k a0_0 a0_1 a0_2 a0_3 = some true
theorem mosaiclaw09_OuterEach.walk (P : mosaiclaw09_OuterEach.Pure) (a0_0 : Int) (a0_1 : Int) (a0_2 : Int) (a0_3 : Int) (w : World)  (hi0_0 : (Lit.int .i64 a0_0).wf = true) (hi0_1 : (Lit.int .i64 a0_1).wf = true) (hi0_2 : (Lit.int .i64 a0_2).wf = true) (hi0_3 : (Lit.int .i64 a0_3).wf = true) :
  Calls Try.prog 3 #[.agg #[.int .i64 a0_0, .int .i64 a0_1, .int .i64 a0_2, .int .i64 a0_3]] w fun e w' => e = .returned (.bool true) ∧ Below w.heap.size w w' := by
 obtain ⟨k, h⟩ := P a0_0 a0_1 a0_2 a0_3 hi0_0 hi0_1 hi0_2 hi0_3
 refine (mosaiclaw09_OuterEach.calls k a0_0 a0_1 a0_2 a0_3 true w h).mono ?_
 rintro e w' ⟨rfl, hd⟩
 exact ⟨rfl, hd⟩

end Go.Proofs.Ytghhmnjkgnoogaa.POuterEach
