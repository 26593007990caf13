-- Written by this session's own program (wip/tools/mkprint.py) over the kit's printer, with overrides.
import Derived.Test.YtghhmnjkgnoogaaGreatTOuterWholesa
import Derived.Test.YtghhmnjkgnoogaaGreatQOuterWholesx0
import Derived.Test.YtghhmnjkgnoogaaGreatQOuterWholesx1
import Derived.Test.YtghhmnjkgnoogaaGreatQOuterWholesx15
import Derived.Test.YtghhmnjkgnoogaaGreatQOuterWholesx16
import Derived.Test.YtghhmnjkgnoogaaGreatQOuterWholesx31
import Derived.Test.YtghhmnjkgnoogaaGreatQOuterWholesx32
import Derived.Test.YtghhmnjkgnoogaaGreatQOuterWholesx34
namespace Go.Proofs.YtghhmnjkgnoogaaGreat.POuterWholes
open Go.RowKit Go.Mine Go.Proofs.YtghhmnjkgnoogaaGreatW.PrintWords Go.Proofs.YtghhmnjkgnoogaaGreatW.PrintLast Go.Proofs.YtghhmnjkgnoogaaGreatW.PrintMore
attribute [local go_sem] max2_int min2_int max_two min_two max_three min_three max_four min_four   -- for this text's walks alone
set_option linter.unusedVariables false
set_option linter.unusedSimpArgs false
/-! ### mosaiclaw09_OuterWholes: function 4 -/
/-- The Bools of a number's bits. -/
def mkB4 (w m : Nat) : Array Bool := ⟨(List.range w).map fun i => m.testBit i⟩
def mosaiclaw09_OuterWholes.j0 : Nat → List ByteArray → List ByteArray → Bool → Int → Int → Int → Int → Option (Bool)
 | 0, _, _, _, _, _, _, _ => none
 | k + 1, x1, x2, x18, x423000, x423001, x423002, x423003 => if x18 = true then ((mosaiclaw09_awake.f k).bind fun t425 => (some t425)) else ((outer_Whole.f k x423000 x423001 x423002 x423003 x1).bind fun bt426 => ((mosaiclaw09_Ref.f x423000 x423001 x423002 x423003).bind fun bt430 => ((mosaicref09_Whole.f k bt430.1 bt430.2.1 bt430.2.2.1 bt430.2.2.2 x1).bind fun bt434 => ((mosaiclaw09_awake.f k).bind fun t438 => (if t438 = true then ((mosaicref03_Same.f k bt426.1 bt434.1).bind fun t439 => (if t439 = true then (if bt426.2 = bt434.2 then ((outer_Holds.f k x423000 x423001 x423002 x423003 x2).bind fun t440 => ((mosaiclaw09_Ref.f x423000 x423001 x423002 x423003).bind fun bt441 => ((mosaicref09_Holds.f k bt441.1 bt441.2.1 bt441.2.2.1 bt441.2.2.2 x2).bind fun t445 => (some (t440 == t445))))) else (some false)) else (some false))) else (some false))))))
def mosaiclaw09_OuterWholes.f (k : Nat) (a0_0 : Int) (a0_1 : Int) (a0_2 : Int) (a0_3 : Int) (l1 : List ByteArray) (l2 : List ByteArray) : Option (Bool) := (mosaiclaw09_few.f k l1).bind fun t423 => (if t423 = true then ((mosaiclaw09_few.f k l2).bind fun t424 => (mosaiclaw09_OuterWholes.j0 k l1 l2 (!t424) a0_0 a0_1 a0_2 a0_3)) else (mosaiclaw09_OuterWholes.j0 k l1 l2 true a0_0 a0_1 a0_2 a0_3))
theorem mosaiclaw09_OuterWholes.mono_l : ∀ k, (∀ y0 y1 y2 y3 y4 y5 y6, LeO (mosaiclaw09_OuterWholes.j0 k y0 y1 y2 y3 y4 y5 y6) (mosaiclaw09_OuterWholes.j0 (k + 1) y0 y1 y2 y3 y4 y5 y6))
 | 0 => fun _ _ _ _ _ _ _ r h => by simp [mosaiclaw09_OuterWholes.j0] at h
 | k + 1 => by
  have ih0 := mosaiclaw09_OuterWholes.mono_l k
  ·
   intro y0 y1 y2 y3 y4 y5 y6
   unfold mosaiclaw09_OuterWholes.j0
   repeat' first
   | (with_reducible exact ih0 _ _ _ _ _ _ _)
   | (with_reducible exact mosaiclaw09_awake.mono _)
   | (with_reducible exact mosaiclaw09_few.mono _ _)
   | (with_reducible exact mosaicref03_Same.mono _ _ _)
   | (with_reducible exact mosaicref09_Holds.mono _ _ _ _ _ _)
   | (with_reducible exact mosaicref09_Whole.mono _ _ _ _ _ _)
   | (with_reducible exact outer_Holds.mono _ _ _ _ _ _)
   | (with_reducible exact outer_Whole.mono _ _ _ _ _ _)
   | (with_reducible exact LeO.refl _)
   | (with_reducible exact LeO.none _)
   | (with_reducible refine LeO.ite ?_ ?_)
   | (with_reducible refine LeO.bind ?_ (fun _ => ?_))
   | exact ih0 _ _ _ _ _ _ _
   | exact mosaiclaw09_awake.mono _
   | exact mosaiclaw09_few.mono _ _
   | exact mosaicref03_Same.mono _ _ _
   | exact mosaicref09_Holds.mono _ _ _ _ _ _
   | exact mosaicref09_Whole.mono _ _ _ _ _ _
   | exact outer_Holds.mono _ _ _ _ _ _
   | exact outer_Whole.mono _ _ _ _ _ _
   | exact LeO.none _
   | refine LeO.ite ?_ ?_
   | refine LeO.bind ?_ (fun _ => ?_)
theorem mosaiclaw09_OuterWholes.mono : ∀ a0 a1 a2 a3 a4 a5 k, LeO (mosaiclaw09_OuterWholes.f k a0 a1 a2 a3 a4 a5) (mosaiclaw09_OuterWholes.f (k + 1) a0 a1 a2 a3 a4 a5) := by
 intro a0 a1 a2 a3 a4 a5 k
 have ih0 := mosaiclaw09_OuterWholes.mono_l k
 unfold mosaiclaw09_OuterWholes.f
 repeat' first
   | (with_reducible exact ih0 _ _ _ _ _ _ _)
   | (with_reducible exact mosaiclaw09_awake.mono _)
   | (with_reducible exact mosaiclaw09_few.mono _ _)
   | (with_reducible exact mosaicref03_Same.mono _ _ _)
   | (with_reducible exact mosaicref09_Holds.mono _ _ _ _ _ _)
   | (with_reducible exact mosaicref09_Whole.mono _ _ _ _ _ _)
   | (with_reducible exact outer_Holds.mono _ _ _ _ _ _)
   | (with_reducible exact outer_Whole.mono _ _ _ _ _ _)
   | (with_reducible exact LeO.refl _)
   | (with_reducible exact LeO.none _)
   | (with_reducible refine LeO.ite ?_ ?_)
   | (with_reducible refine LeO.bind ?_ (fun _ => ?_))
   | exact ih0 _ _ _ _ _ _ _
   | exact mosaiclaw09_awake.mono _
   | exact mosaiclaw09_few.mono _ _
   | exact mosaicref03_Same.mono _ _ _
   | exact mosaicref09_Holds.mono _ _ _ _ _ _
   | exact mosaicref09_Whole.mono _ _ _ _ _ _
   | exact outer_Holds.mono _ _ _ _ _ _
   | exact outer_Whole.mono _ _ _ _ _ _
   | exact LeO.none _
   | refine LeO.ite ?_ ?_
   | refine LeO.bind ?_ (fun _ => ?_)
def mosaiclaw09_OuterWholes.T5 : Bool × List (List Nat × List Nat) := (true, [([], []), ([0, 0], [0]), ([1], [1]), ([1], [1]), ([2, 3, 1, 1], [1, 2, 3]), ([1, 4], [1, 4]), ([5, 4], [5]), ([6], [6]), ([6], [6]), ([7, 8, 6], [6, 7, 8]), ([6, 9], [6, 9]), ([10, 6], [10]), ([11], [11]), ([11], [11]), ([12, 13, 11, 11], [11, 12, 13]), ([11], [11]), ([15, 14, 11], [11, 15]), ([11], [11]), ([16, 17, 16, 11], [11, 16, 17]), ([14, 18, 11], [11, 14, 18]), ([11, 19], [11, 19]), ([20, 18, 0, 1, 2, 3, 4, 5, 6, 7, 8, 9, 10, 11, 12, 13, 14, 15, 16, 17, 18, 19, 20], [20])])
def mosaiclaw09_OuterWholes.B5 : List Nat := [0, 1, 3, 3, 15, 31, 63, 127, 127, 511, 1023, 2047, 4095, 4095, 16383, 4095, 65535, 4095, 262143, 524287, 1048575, 2097151]
theorem mosaiclaw09_OuterWholes.tab5 : rtab .any (opsOf Tryz.f4 5) = mosaiclaw09_OuterWholes.T5 := by kernel_rfl
theorem mosaiclaw09_OuterWholes.bits5 : waitsOk mosaiclaw09_OuterWholes.T5.2 mosaiclaw09_OuterWholes.B5 = true := by kernel_rfl
set_option maxHeartbeats 8000000 in
set_option maxRecDepth 100000 in
theorem mosaiclaw09_OuterWholes.calls (k : Nat) (a0_0 : Int) (a0_1 : Int) (a0_2 : Int) (a0_3 : Int) (A1 : Option Addr) (c1 : Nat) (l1 : List ByteArray) (A2 : Option Addr) (c2 : Nat) (l2 : List ByteArray) (r : Bool) (w : World) (hr1 : Kd.C Kd.string w A1 l1.length l1) (hc1 : l1.length ≤ c1) (hr2 : Kd.C Kd.string w A2 l2.length l2) (hc2 : l2.length ≤ c2) (h : mosaiclaw09_OuterWholes.f k a0_0 a0_1 a0_2 a0_3 l1 l2 = some r) :
  Calls Tryz.prog 4 #[.agg #[.int .i64 a0_0, .int .i64 a0_1, .int .i64 a0_2, .int .i64 a0_3], .slice A1 l1.length c1, .slice A2 l2.length c2] w fun e w' => e = .returned (.bool r) ∧ Below w.heap.size w w' := by
 have hu23 := Tryz.underlying23; have HR1 := Aside0.mk hr1
 have HC1 := Aside0.mk hc1
 clear hr1 hc1; have HR2 := Aside0.mk hr2
 have HC2 := Aside0.mk hc2
 clear hr2 hc2; have HB := Aside0.mk (Below.refl w.heap.size w)
 have H : ((mosaiclaw09_few.f k l1).bind fun t423 => (if t423 = true then ((mosaiclaw09_few.f k l2).bind fun t424 => (mosaiclaw09_OuterWholes.j0 k l1 l2 (!t424) a0_0 a0_1 a0_2 a0_3)) else (mosaiclaw09_OuterWholes.j0 k l1 l2 true a0_0 a0_1 a0_2 a0_3))) = some r := h
 clear h; have HC4 := Aside0.mk H
 clear H; go_enter Tryz.func4, Tryz.ntmps4
 go_upto_region 1 with (first | ((with_reducible refine gate_dst (N := 3) rfl ?_); refine box_event ?hg (N := 3) ?hd (cs := #[.int .i64 a0_0, .int .i64 a0_1, .int .i64 a0_2, .int .i64 a0_3]) (t := 23) ?hr ?_; (case hd => rfl); (case hg => rfl); (case hr => first | (go_simp; done) | (go_simp; rfl)); intro gb422 hg w5 hbox hb; have BK422 := Aside0.mk (hbox); have GW422 := Aside0.mk ((zg : w.heap.size ≤ gb422)); have GE422 := Aside0.mk ((zg : w.heap.size ≤ gb422)); replace HB := Aside0.mk (below_step zB hb); clear hb hbox hg))
 (try simp only [Act.put, List.setIfInBounds_toArray, List.set_cons_zero, List.set_cons_succ])
 go_cut [18] (fun v18 wc => ∃ (kq : Nat) (x18_3 : Bool), v18 = .bool x18_3 ∧ Aside0 (mosaiclaw09_OuterWholes.j0 kq l1 l2 x18_3 a0_0 a0_1 a0_2 a0_3 = some r) ∧ Aside0 (kq ≤ k) ∧ Aside0 (wc.heap[gb422]? = some (.cells #[.int .i64 a0_0, .int .i64 a0_1, .int .i64 a0_2, .int .i64 a0_3] 23 (0, 0))) ∧ Aside0 (Below w.heap.size w wc))
 case first =>
  have H := HC4.out; clear HC4; replace H := Option.bind_eq_some_iff.mp H
  obtain ⟨t423, A60, H⟩ := H
  replace H : (if t423 = true then ((mosaiclaw09_few.f k l2).bind fun t424 => (mosaiclaw09_OuterWholes.j0 k l1 l2 (!t424) a0_0 a0_1 a0_2 a0_3)) else (mosaiclaw09_OuterWholes.j0 k l1 l2 true a0_0 a0_1 a0_2 a0_3)) = some r := H
  have A6 := Aside0.mk A60
  clear A60; by_cases c7 : t423 = true
  ·
   subst c7
   have H1 : ((mosaiclaw09_few.f k l2).bind fun t424 => (mosaiclaw09_OuterWholes.j0 k l1 l2 (!t424) a0_0 a0_1 a0_2 a0_3)) = some r := by rw [if_pos rfl] at H; exact H
   clear H; have H := H1; clear H1; replace H := Option.bind_eq_some_iff.mp H
   obtain ⟨t424, A80, H⟩ := H
   replace H : (mosaiclaw09_OuterWholes.j0 k l1 l2 (!t424) a0_0 a0_1 a0_2 a0_3) = some r := H
   have A8 := Aside0.mk A80
   clear A80; have H' := Aside0.mk H
   clear H; go_wp2_with (first | ((with_reducible refine gate_callee (f := 18) rfl ?_); refine goesL_ (some 12) rfl rfl Tryz.func18 (by kernel_rfl) rfl #[.slice A1 l1.length c1] rfl zM ?_; (with_reducible refine (mosaiclaw09_few.calls k _ _ l1 true _ ?side1 ?side2 A6.out).mono ?_); (case side1 => repeat (first | exact (Kd.C_below HR1.out HB.out) | (with_reducible refine Kd.C_alloc ?_ _) | (with_reducible refine Kd.C_drewN ?_ _) | (with_reducible refine Kd.C_drew ?_))); (case side2 => exact HC1.out); rintro e w' ⟨rfl, ⟨nd, rfl⟩⟩; refine ⟨_, rfl, ?_⟩) | (go_at_call 18; (with_reducible refine (mosaiclaw09_few.calls k _ _ l2 t424 _ ?side1 ?side2 A8.out).mono ?_); (case side1 => repeat (first | exact (Kd.C_below HR2.out zB) | (with_reducible refine Kd.C_alloc ?_ _) | (with_reducible refine Kd.C_drewN ?_ _) | (with_reducible refine Kd.C_drew ?_))); (case side2 => exact HC2.out); rintro e w' ⟨rfl, ⟨nd, rfl⟩⟩))
   go_meet
   case rel => exact ⟨_, (!t424), zF, H', ⟨by first | omega | exact Nat.le_refl _⟩, ⟨zk BK422⟩, ⟨zB⟩⟩
  ·
   replace c7 := Bool.eq_false_iff.mpr c7
   subst c7
   have H1 : (mosaiclaw09_OuterWholes.j0 k l1 l2 true a0_0 a0_1 a0_2 a0_3) = some r := by rw [if_neg (show ¬ (false = true) by decide)] at H; exact H
   clear H; have H := H1; clear H1; have H' := Aside0.mk H
   clear H; go_wp2_with (first | ((with_reducible refine gate_callee (f := 18) rfl ?_); refine goesL_ (some 12) rfl rfl Tryz.func18 (by kernel_rfl) rfl #[.slice A1 l1.length c1] rfl zM ?_; (with_reducible refine (mosaiclaw09_few.calls k _ _ l1 false _ ?side1 ?side2 A6.out).mono ?_); (case side1 => repeat (first | exact (Kd.C_below HR1.out HB.out) | (with_reducible refine Kd.C_alloc ?_ _) | (with_reducible refine Kd.C_drewN ?_ _) | (with_reducible refine Kd.C_drew ?_))); (case side2 => exact HC1.out); rintro e w' ⟨rfl, ⟨nd, rfl⟩⟩; refine ⟨_, rfl, ?_⟩))
   go_meet
   case rel => exact ⟨_, (true), zF, H', ⟨by first | omega | exact Nat.le_refl _⟩, ⟨zk BK422⟩, ⟨zB⟩⟩
 case rest =>
  clear HC4; (try clear c1); (try clear c2); (try clear p2); (try clear c4); (try clear c7); obtain ⟨kq, x18_3, rfl, HA, HJ3, BK422, HB⟩ := hcut
  cases kq with
  | zero => exact absurd HA.out (by simp [mosaiclaw09_OuterWholes.j0])
  | succ kj3 =>
   have H := HA.out; clear HA; simp only [mosaiclaw09_OuterWholes.j0] at H
   by_cases c9 : x18_3 = true
   ·
    subst c9
    have H1 : ((mosaiclaw09_awake.f kj3).bind fun t425 => (some t425)) = some r := by rw [if_pos rfl] at H; exact H
    clear H; have H := H1; clear H1; replace H := Option.bind_eq_some_iff.mp H
    obtain ⟨t425, A100, H⟩ := H
    replace H : (some t425) = some r := H
    have A10 := Aside0.mk A100
    clear A100; obtain rfl := Option.some.inj H
    go_wp2_with (first | ((with_reducible refine gate_callee (f := 11) rfl ?_); refine goesL_ (some 19) rfl rfl Tryz.func11 (by kernel_rfl) rfl #[] rfl zM ?_; (with_reducible refine (mosaiclaw09_awake.calls kj3  t425 _ A10.out).mono ?_); rintro e w11 ⟨rfl, hb⟩; refine ⟨_, rfl, ?_⟩; replace BK422 := Aside0.mk (blk_below (zk BK422) hb); replace HB := Aside0.mk (below_step zB hb); (try clear hb); (try clear hb2); (try clear hk); (try clear hi)))
    go_ret
    exact ⟨zE, zB⟩
   ·
    replace c9 := Bool.eq_false_iff.mpr c9
    subst c9
    have H1 : ((outer_Whole.f kj3 a0_0 a0_1 a0_2 a0_3 l1).bind fun bt426 => ((mosaiclaw09_Ref.f a0_0 a0_1 a0_2 a0_3).bind fun bt430 => ((mosaicref09_Whole.f kj3 bt430.1 bt430.2.1 bt430.2.2.1 bt430.2.2.2 l1).bind fun bt434 => ((mosaiclaw09_awake.f kj3).bind fun t438 => (if t438 = true then ((mosaicref03_Same.f kj3 bt426.1 bt434.1).bind fun t439 => (if t439 = true then (if bt426.2 = bt434.2 then ((outer_Holds.f kj3 a0_0 a0_1 a0_2 a0_3 l2).bind fun t440 => ((mosaiclaw09_Ref.f a0_0 a0_1 a0_2 a0_3).bind fun bt441 => ((mosaicref09_Holds.f kj3 bt441.1 bt441.2.1 bt441.2.2.1 bt441.2.2.2 l2).bind fun t445 => (some (t440 == t445))))) else (some false)) else (some false))) else (some false)))))) = some r := by rw [if_neg (show ¬ (false = true) by decide)] at H; exact H
    clear H; have H := H1; clear H1; replace H := Option.bind_eq_some_iff.mp H
    obtain ⟨⟨t426, t429⟩, A120, H⟩ := H
    replace H : ((mosaiclaw09_Ref.f a0_0 a0_1 a0_2 a0_3).bind fun bt430 => ((mosaicref09_Whole.f kj3 bt430.1 bt430.2.1 bt430.2.2.1 bt430.2.2.2 l1).bind fun bt434 => ((mosaiclaw09_awake.f kj3).bind fun t438 => (if t438 = true then ((mosaicref03_Same.f kj3 t426 bt434.1).bind fun t439 => (if t439 = true then (if t429 = bt434.2 then ((outer_Holds.f kj3 a0_0 a0_1 a0_2 a0_3 l2).bind fun t440 => ((mosaiclaw09_Ref.f a0_0 a0_1 a0_2 a0_3).bind fun bt441 => ((mosaicref09_Holds.f kj3 bt441.1 bt441.2.1 bt441.2.2.1 bt441.2.2.2 l2).bind fun t445 => (some (t440 == t445))))) else (some false)) else (some false))) else (some false))))) = some r := H
    have A12 := Aside0.mk A120
    clear A120; replace H := Option.bind_eq_some_iff.mp H
    obtain ⟨⟨t430, t431, t432, t433⟩, A130, H⟩ := H
    replace H : ((mosaicref09_Whole.f kj3 t430 t431 t432 t433 l1).bind fun bt434 => ((mosaiclaw09_awake.f kj3).bind fun t438 => (if t438 = true then ((mosaicref03_Same.f kj3 t426 bt434.1).bind fun t439 => (if t439 = true then (if t429 = bt434.2 then ((outer_Holds.f kj3 a0_0 a0_1 a0_2 a0_3 l2).bind fun t440 => ((mosaiclaw09_Ref.f a0_0 a0_1 a0_2 a0_3).bind fun bt441 => ((mosaicref09_Holds.f kj3 bt441.1 bt441.2.1 bt441.2.2.1 bt441.2.2.2 l2).bind fun t445 => (some (t440 == t445))))) else (some false)) else (some false))) else (some false)))) = some r := H
    have A13 := Aside0.mk A130
    clear A130; replace H := Option.bind_eq_some_iff.mp H
    obtain ⟨⟨t434, t437⟩, A140, H⟩ := H
    replace H : ((mosaiclaw09_awake.f kj3).bind fun t438 => (if t438 = true then ((mosaicref03_Same.f kj3 t426 t434).bind fun t439 => (if t439 = true then (if t429 = t437 then ((outer_Holds.f kj3 a0_0 a0_1 a0_2 a0_3 l2).bind fun t440 => ((mosaiclaw09_Ref.f a0_0 a0_1 a0_2 a0_3).bind fun bt441 => ((mosaicref09_Holds.f kj3 bt441.1 bt441.2.1 bt441.2.2.1 bt441.2.2.2 l2).bind fun t445 => (some (t440 == t445))))) else (some false)) else (some false))) else (some false))) = some r := H
    have A14 := Aside0.mk A140
    clear A140; replace H := Option.bind_eq_some_iff.mp H
    obtain ⟨t438, A150, H⟩ := H
    replace H : (if t438 = true then ((mosaicref03_Same.f kj3 t426 t434).bind fun t439 => (if t439 = true then (if t429 = t437 then ((outer_Holds.f kj3 a0_0 a0_1 a0_2 a0_3 l2).bind fun t440 => ((mosaiclaw09_Ref.f a0_0 a0_1 a0_2 a0_3).bind fun bt441 => ((mosaicref09_Holds.f kj3 bt441.1 bt441.2.1 bt441.2.2.1 bt441.2.2.2 l2).bind fun t445 => (some (t440 == t445))))) else (some false)) else (some false))) else (some false)) = some r := H
    have A15 := Aside0.mk A150
    clear A150; by_cases c16 : t438 = true
    ·
     subst c16
     have H1 : ((mosaicref03_Same.f kj3 t426 t434).bind fun t439 => (if t439 = true then (if t429 = t437 then ((outer_Holds.f kj3 a0_0 a0_1 a0_2 a0_3 l2).bind fun t440 => ((mosaiclaw09_Ref.f a0_0 a0_1 a0_2 a0_3).bind fun bt441 => ((mosaicref09_Holds.f kj3 bt441.1 bt441.2.1 bt441.2.2.1 bt441.2.2.2 l2).bind fun t445 => (some (t440 == t445))))) else (some false)) else (some false))) = some r := by rw [if_pos rfl] at H; exact H
     clear H; have H := H1; clear H1; replace H := Option.bind_eq_some_iff.mp H
     obtain ⟨t439, A170, H⟩ := H
     replace H : (if t439 = true then (if t429 = t437 then ((outer_Holds.f kj3 a0_0 a0_1 a0_2 a0_3 l2).bind fun t440 => ((mosaiclaw09_Ref.f a0_0 a0_1 a0_2 a0_3).bind fun bt441 => ((mosaicref09_Holds.f kj3 bt441.1 bt441.2.1 bt441.2.2.1 bt441.2.2.2 l2).bind fun t445 => (some (t440 == t445))))) else (some false)) else (some false)) = some r := H
     have A17 := Aside0.mk A170
     clear A170; by_cases c18 : t439 = true
     ·
      subst c18
      have H1 : (if t429 = t437 then ((outer_Holds.f kj3 a0_0 a0_1 a0_2 a0_3 l2).bind fun t440 => ((mosaiclaw09_Ref.f a0_0 a0_1 a0_2 a0_3).bind fun bt441 => ((mosaicref09_Holds.f kj3 bt441.1 bt441.2.1 bt441.2.2.1 bt441.2.2.2 l2).bind fun t445 => (some (t440 == t445))))) else (some false)) = some r := by rw [if_pos rfl] at H; exact H
      clear H; have H := H1; clear H1; by_cases c19 : t429 = t437
      ·
       rw [if_pos c19] at H
       have c19b0 : (t429 == t437) = true := beq_iff_eq.mpr c19
       have c19b1 : (t429 != t437) = false := bne_eq_false_iff_eq.mpr c19
       clear c19; replace H := Option.bind_eq_some_iff.mp H
       obtain ⟨t440, A200, H⟩ := H
       replace H : ((mosaiclaw09_Ref.f a0_0 a0_1 a0_2 a0_3).bind fun bt441 => ((mosaicref09_Holds.f kj3 bt441.1 bt441.2.1 bt441.2.2.1 bt441.2.2.2 l2).bind fun t445 => (some (t440 == t445)))) = some r := H
       have A20 := Aside0.mk A200
       clear A200; replace H := Option.bind_eq_some_iff.mp H
       obtain ⟨⟨t441, t442, t443, t444⟩, A210, H⟩ := H
       replace H : ((mosaicref09_Holds.f kj3 t441 t442 t443 t444 l2).bind fun t445 => (some (t440 == t445))) = some r := H
       have A21 := Aside0.mk A210
       clear A210; replace H := Option.bind_eq_some_iff.mp H
       obtain ⟨t445, A220, H⟩ := H
       replace H : (some (t440 == t445)) = some r := H
       have A22 := Aside0.mk A220
       clear A220; obtain rfl := Option.some.inj H
       obtain ⟨hcz23_0, hcz23_1, hcz23_2, hcz23_3⟩ := cZ4 BK422
       obtain ⟨hfz23_0, hfz23_1, hfz23_2, hfz23_3⟩ := dZ4 BK422; try go_wp2_with (first | ((with_reducible refine gate_callee (f := 19) rfl ?_); refine goesL_ (some 23) rfl rfl Tryz.func19 (by kernel_rfl) rfl #[.agg #[.int .i64 a0_0, .int .i64 a0_1, .int .i64 a0_2, .int .i64 a0_3], .slice A1 l1.length c1] rfl zM ?_; (with_reducible refine (outer_Whole.calls kj3 a0_0 a0_1 a0_2 a0_3 _ _ l1 t426 t429 _ ?side1 ?side2 A12.out).mono ?_); (case side1 => repeat (first | exact (Kd.C_below HR1.out HB.out) | (with_reducible refine Kd.C_alloc ?_ _) | (with_reducible refine Kd.C_drewN ?_ _) | (with_reducible refine Kd.C_drew ?_))); (case side2 => exact HC1.out); rintro e w24 ⟨v427, rfl, ho0, hb⟩; refine ⟨_, rfl, ?_⟩; have HO428 := Aside0.mk (Kd.R_lower ho0 (below_size zB)); replace BK422 := Aside0.mk (blk_below (zk BK422) hb); replace HB := Aside0.mk (below_step zB hb); (try clear hb); (try clear hb2); (try clear hk); (try clear hi); (try clear ho0); obtain ⟨hcz25_0, hcz25_1, hcz25_2, hcz25_3⟩ := cZ4 BK422; obtain ⟨hfz25_0, hfz25_1, hfz25_2, hfz25_3⟩ := dZ4 BK422) | ((with_reducible refine gate_callee (f := 6) rfl ?_); refine goesL_ (some 28) rfl rfl Tryz.func6 (by kernel_rfl) rfl #[.agg #[.int .i64 a0_0, .int .i64 a0_1, .int .i64 a0_2, .int .i64 a0_3]] rfl zM ?_; (with_reducible refine (mosaiclaw09_Ref.calls a0_0 a0_1 a0_2 a0_3 t430 t431 t432 t433 _ A13.out).mono ?_); rintro e w26 ⟨rfl, hb⟩; refine ⟨_, rfl, ?_⟩; replace HO428 := Aside0.mk (Kd.R_below (zR HO428) hb); replace BK422 := Aside0.mk (blk_below (zk BK422) hb); replace HB := Aside0.mk (below_step zB hb); (try clear hb); (try clear hb2); (try clear hk); (try clear hi)) | ((with_reducible refine gate_callee (f := 20) rfl ?_); refine goesL_ (some 30) rfl rfl Tryz.func20 (by kernel_rfl) rfl #[.agg #[.int .i64 t430, .int .i64 t431, .int .i64 t432, .int .i64 t433], .slice A1 l1.length c1] rfl zM ?_; (with_reducible refine (mosaicref09_Whole.calls kj3 t430 t431 t432 t433 _ _ l1 t434 t437 _ ?side1 ?side2 A14.out).mono ?_); (case side1 => repeat (first | exact (Kd.C_below HR1.out HB.out) | (with_reducible refine Kd.C_alloc ?_ _) | (with_reducible refine Kd.C_drewN ?_ _) | (with_reducible refine Kd.C_drew ?_))); (case side2 => exact HC1.out); rintro e w27 ⟨v435, rfl, ho0, hb⟩; refine ⟨_, rfl, ?_⟩; have n0_ := Aside0.mk (Kd.R_elder' (by (with_reducible repeat (first | apply Kd.R_alloc | apply Kd.R_drewN | apply Kd.R_drew)); exact HO428.out) (Kd.R_base ho0) hb); have n1_ := Aside0.mk (Kd.R_lower (Kd.R_new' ho0 (Kd.R_lt (by (with_reducible repeat (first | apply Kd.R_alloc | apply Kd.R_drewN | apply Kd.R_drew)); exact HO428.out))) (below_size zB)); have n2_ := Aside0.mk (blk_below (zk BK422) hb); have n3_ := Aside0.mk (below_step zB hb); clear HO428; clear BK422; clear HB; have HO428 := n0_; have HO436 := n1_; have BK422 := n2_; have HB := n3_; clear n0_ n1_ n2_ n3_; (try clear hb); (try clear hb2); (try clear hk); (try clear hi); (try clear ho0)))
       replace HO428 := Aside0.mk (Kd.R_drew HO428.out)
       replace HO436 := Aside0.mk (Kd.R_drew HO436.out)
       replace BK422 := Aside0.mk (blk_drew BK422.out)
       replace HB := Aside0.mk (below_drew1 HB.out); refine start_ (n := 22) (S := fun w' => w'.cell? ⟨gb422, 0, none⟩ = some (.int .i64 a0_0) ∧ w'.cell? ⟨gb422, 1, none⟩ = some (.int .i64 a0_1) ∧ w'.cell? ⟨gb422, 2, none⟩ = some (.int .i64 a0_2) ∧ w'.cell? ⟨gb422, 3, none⟩ = some (.int .i64 a0_3)) (ds := []) (mkB4 22 0) (by kernel_rfl) rfl rfl ⟨(blk_cell BK422.out 0).trans rfl, (blk_cell BK422.out 1).trans rfl, (blk_cell BK422.out 2).trans rfl, (blk_cell BK422.out 3).trans rfl⟩ (fun hHeld => ?_); refine with_tabW mosaiclaw09_OuterWholes.tab5 mosaiclaw09_OuterWholes.bits5 (fun HT_ HW_ => ?_)
       generalize w27.drew = w28 at HO428 HO436 BK422 HB hHeld ⊢
       refine one_ (i := 0) (N := some 33) (mkB4 22 1) rfl rfl (one_of HT_.out (by kernel_rfl)) (by decide) (fun K hK => ?_)
       refine goes_ Tryz.func11 (by kernel_rfl) rfl #[] (by rfl) rfl rfl zM ?_
       with_reducible refine (mosaiclaw09_awake.calls kj3  true _ A15.out).mono ?_
       rintro e w29 ⟨rfl, hb⟩; refine ⟨_, rfl, ?_⟩; replace HO428 := Aside0.mk (Kd.R_below (zR HO428) hb)
       replace HO436 := Aside0.mk (Kd.R_below (zR HO436) hb)
       replace BK422 := Aside0.mk (blk_below (zk BK422) hb)
       replace HB := Aside0.mk (below_step zB hb); (try clear hb); (try clear hb2); (try clear hk); (try clear hi); obtain ⟨Ao30, co30, eo30⟩ := Kd.R_slice HO428.out
       (first | subst eo30 | (injection eo30 with f1_ f2_ f3_; have f4_ := f1_.symm; have f5_ := f3_.symm; clear f1_ f2_ f3_; subst f4_; subst f5_))
       obtain ⟨Ao31, co31, eo31⟩ := Kd.R_slice HO436.out
       (first | subst eo31 | (injection eo31 with f1_ f2_ f3_; have f4_ := f1_.symm; have f5_ := f3_.symm; clear f1_ f2_ f3_; subst f4_; subst f5_))
       refine hK.out _ _ ⟨(blk_cell BK422.out 0).trans rfl, (blk_cell BK422.out 1).trans rfl, (blk_cell BK422.out 2).trans rfl, (blk_cell BK422.out 3).trans rfl⟩ (fun hHeld => ?_)
       clear hK K; refine norm_ (a' := ?_) ?_ ?_
       rotate_left
       ·
        show Act.put _ (some 33) _ = _
        simp only [Act.put, List.setIfInBounds_toArray, List.set_cons_zero, List.set_cons_succ, i64_w, i32_w]; rfl
       refine pX 1 (some 34) (mkB4 22 3) ?_
       refine pX 2 (some 35) (mkB4 22 7) ?_
       refine pX 3 (some 36) (mkB4 22 15) ?_
       refine one_ (i := 4) (N := some 37) (mkB4 22 31) rfl rfl (one_of HT_.out (by kernel_rfl)) (by decide) (fun K hK => ?_)
       refine goes_ Tryz.func21 (by kernel_rfl) rfl #[.slice Ao30 t426.length co30, .slice Ao31 t434.length co31] (by rfl) rfl rfl zM ?_
       with_reducible refine (mosaicref03_Same.calls kj3 _ _ t426 _ _ t434 true _ ?side1 ?side2 ?side3 ?side4 A17.out).mono ?_
       (case side1 => repeat (first | exact (Kd.R_reads' HO428.out).2.2 | (with_reducible refine Kd.C_alloc ?_ _) | (with_reducible refine Kd.C_drewN ?_ _) | (with_reducible refine Kd.C_drew ?_)))
       (case side2 => exact (Kd.R_reads' HO428.out).2.1)
       (case side3 => repeat (first | exact (Kd.R_reads' HO436.out).2.2 | (with_reducible refine Kd.C_alloc ?_ _) | (with_reducible refine Kd.C_drewN ?_ _) | (with_reducible refine Kd.C_drew ?_)))
       (case side4 => exact (Kd.R_reads' HO436.out).2.1)
       rintro e w' ⟨rfl, ⟨nd, rfl⟩⟩
       refine ⟨_, rfl, ?_⟩; refine hK.out _ _ ⟨(blk_cell BK422.out 0).trans rfl, (blk_cell BK422.out 1).trans rfl, (blk_cell BK422.out 2).trans rfl, (blk_cell BK422.out 3).trans rfl⟩ (fun hHeld => ?_)
       clear hK K; refine norm_ (a' := ?_) ?_ ?_
       rotate_left
       ·
        show Act.put _ (some 37) _ = _
        simp only [Act.put, List.setIfInBounds_toArray, List.set_cons_zero, List.set_cons_succ, i64_w, i32_w]; rfl
       refine pX 5 (some 38) (mkB4 22 63) ?_
       refine pX 6 (some 39) (mkB4 22 127) ?_
       refine pX 7 (some 40) (mkB4 22 255) ?_
       refine pX 8 (some 41) (mkB4 22 511) ?_
       refine pX 9 (some 42) (mkB4 22 1023) ?_
       refine pX 10 (some 43) (mkB4 22 2047) ?_
       refine pX 11 (some 44) (mkB4 22 4095) ?_
       refine pX 13 (some 46) (mkB4 22 12287) ?_
       refine pX 17 (some 50) (mkB4 22 143359) ?_
       refine tT (v := ?_) (a' := ?_) HT_ HW_ hHeld 12 (some 45) (mkB4 22 147455) ?_ ?_ ?_; rotate_left 2; (rintro w' ⟨s0, s1, s2, s3⟩; go_simp; with_reducible rfl); (simp only [Act.put, qA, qB, qC, i64_w, i32_w]; rfl)
       refine tT (v := ?_) (a' := ?_) HT_ HW_ hHeld 15 (some 48) (mkB4 22 180223) ?_ ?_ ?_; rotate_left 2; (rintro w' ⟨s0, s1, s2, s3⟩; go_simp; with_reducible rfl); (simp only [Act.put, qA, qB, qC, i64_w, i32_w]; rfl)
       refine one_ (i := 14) (N := some 47) (mkB4 22 196607) rfl rfl (one_of HT_.out (by kernel_rfl)) (by decide) (fun K hK => ?_)
       refine goes_ Tryz.func22 (by kernel_rfl) rfl #[.agg #[.int .i64 a0_0, .int .i64 a0_1, .int .i64 a0_2, .int .i64 a0_3], .slice A2 l2.length c2] (by rfl) rfl rfl zM ?_
       with_reducible refine (outer_Holds.calls kj3 a0_0 a0_1 a0_2 a0_3 _ _ l2 t440 _ ?side1 ?side2 A20.out).mono ?_
       (case side1 => repeat (first | exact (Kd.C_below HR2.out zB) | (with_reducible refine Kd.C_alloc ?_ _) | (with_reducible refine Kd.C_drewN ?_ _) | (with_reducible refine Kd.C_drew ?_)))
       (case side2 => exact HC2.out)
       rintro e w32 ⟨rfl, hb⟩; refine ⟨_, rfl, ?_⟩; replace HO428 := Aside0.mk (Kd.R_below (zR HO428) hb)
       replace HO436 := Aside0.mk (Kd.R_below (zR HO436) hb)
       replace BK422 := Aside0.mk (blk_below (zk BK422) hb)
       replace HB := Aside0.mk (below_step zB hb); (try clear hb); (try clear hb2); (try clear hk); (try clear hi); refine hK.out _ _ ⟨(blk_cell BK422.out 0).trans rfl, (blk_cell BK422.out 1).trans rfl, (blk_cell BK422.out 2).trans rfl, (blk_cell BK422.out 3).trans rfl⟩ (fun hHeld => ?_)
       clear hK K; refine norm_ (a' := ?_) ?_ ?_
       rotate_left
       ·
        show Act.put _ (some 47) _ = _
        simp only [Act.put, List.setIfInBounds_toArray, List.set_cons_zero, List.set_cons_succ, i64_w, i32_w]; rfl
       refine one_ (i := 16) (N := some 49) (mkB4 22 262143) rfl rfl (one_of HT_.out (by kernel_rfl)) (by decide) (fun K hK => ?_)
       refine goes_ Tryz.func6 (by kernel_rfl) rfl #[.agg #[.int .i64 a0_0, .int .i64 a0_1, .int .i64 a0_2, .int .i64 a0_3]] (by rfl) rfl rfl zM ?_
       with_reducible refine (mosaiclaw09_Ref.calls a0_0 a0_1 a0_2 a0_3 t441 t442 t443 t444 _ A21.out).mono ?_
       rintro e w33 ⟨rfl, hb⟩; refine ⟨_, rfl, ?_⟩; replace HO428 := Aside0.mk (Kd.R_below (zR HO428) hb)
       replace HO436 := Aside0.mk (Kd.R_below (zR HO436) hb)
       replace BK422 := Aside0.mk (blk_below (zk BK422) hb)
       replace HB := Aside0.mk (below_step zB hb); (try clear hb); (try clear hb2); (try clear hk); (try clear hi); refine hK.out _ _ ⟨(blk_cell BK422.out 0).trans rfl, (blk_cell BK422.out 1).trans rfl, (blk_cell BK422.out 2).trans rfl, (blk_cell BK422.out 3).trans rfl⟩ (fun hHeld => ?_)
       clear hK K; refine norm_ (a' := ?_) ?_ ?_
       rotate_left
       ·
        show Act.put _ (some 49) _ = _
        simp only [Act.put, List.setIfInBounds_toArray, List.set_cons_zero, List.set_cons_succ, i64_w, i32_w]; rfl
       refine one_ (i := 18) (N := some 51) (mkB4 22 524287) rfl rfl (one_of HT_.out (by kernel_rfl)) (by decide) (fun K hK => ?_)
       refine goes_ Tryz.func23 (by kernel_rfl) rfl #[.agg #[.int .i64 t441, .int .i64 t442, .int .i64 t443, .int .i64 t444], .slice A2 l2.length c2] (by rfl) rfl rfl zM ?_
       with_reducible refine (mosaicref09_Holds.calls kj3 t441 t442 t443 t444 _ _ l2 t445 _ ?side1 ?side2 A22.out).mono ?_
       (case side1 => repeat (first | exact (Kd.C_below HR2.out HB.out) | (with_reducible refine Kd.C_alloc ?_ _) | (with_reducible refine Kd.C_drewN ?_ _) | (with_reducible refine Kd.C_drew ?_)))
       (case side2 => exact HC2.out)
       rintro e w34 ⟨rfl, hb⟩; refine ⟨_, rfl, ?_⟩; replace HO428 := Aside0.mk (Kd.R_below (zR HO428) hb)
       replace HO436 := Aside0.mk (Kd.R_below (zR HO436) hb)
       replace BK422 := Aside0.mk (blk_below (zk BK422) hb)
       replace HB := Aside0.mk (below_step zB hb); (try clear hb); (try clear hb2); (try clear hk); (try clear hi); refine hK.out _ _ ⟨(blk_cell BK422.out 0).trans rfl, (blk_cell BK422.out 1).trans rfl, (blk_cell BK422.out 2).trans rfl, (blk_cell BK422.out 3).trans rfl⟩ (fun hHeld => ?_)
       clear hK K; refine norm_ (a' := ?_) ?_ ?_
       rotate_left
       ·
        show Act.put _ (some 51) _ = _
        simp only [Act.put, List.setIfInBounds_toArray, List.set_cons_zero, List.set_cons_succ, i64_w, i32_w]; rfl
       refine pX 19 (some 52) (mkB4 22 1048575) ?_
       refine pX 20 (some 53) (mkB4 22 2097151) ?_
       refine pX 21 (some 6) (mkB4 22 4194303) ?_
       refine done_ (done_of HT_.out (by kernel_rfl)) ?_
       try go_wp2
       go_ret
       exact ⟨zE, zB⟩
      ·
       rw [if_neg c19] at H
       have c19b0 : (t429 == t437) = false := beq_eq_false_iff_ne.mpr c19
       have c19b1 : (t429 != t437) = true := bne_iff_ne.mpr c19
       obtain rfl := Option.some.inj H
       obtain ⟨hcz35_0, hcz35_1, hcz35_2, hcz35_3⟩ := cZ4 BK422
       obtain ⟨hfz35_0, hfz35_1, hfz35_2, hfz35_3⟩ := dZ4 BK422; try go_wp2_with (first | ((with_reducible refine gate_callee (f := 19) rfl ?_); refine goesL_ (some 23) rfl rfl Tryz.func19 (by kernel_rfl) rfl #[.agg #[.int .i64 a0_0, .int .i64 a0_1, .int .i64 a0_2, .int .i64 a0_3], .slice A1 l1.length c1] rfl zM ?_; (with_reducible refine (outer_Whole.calls kj3 a0_0 a0_1 a0_2 a0_3 _ _ l1 t426 t429 _ ?side1 ?side2 A12.out).mono ?_); (case side1 => repeat (first | exact (Kd.C_below HR1.out HB.out) | (with_reducible refine Kd.C_alloc ?_ _) | (with_reducible refine Kd.C_drewN ?_ _) | (with_reducible refine Kd.C_drew ?_))); (case side2 => exact HC1.out); rintro e w36 ⟨v427, rfl, ho0, hb⟩; refine ⟨_, rfl, ?_⟩; have HO428 := Aside0.mk (Kd.R_lower ho0 (below_size zB)); replace BK422 := Aside0.mk (blk_below (zk BK422) hb); replace HB := Aside0.mk (below_step zB hb); (try clear hb); (try clear hb2); (try clear hk); (try clear hi); (try clear ho0); obtain ⟨hcz37_0, hcz37_1, hcz37_2, hcz37_3⟩ := cZ4 BK422; obtain ⟨hfz37_0, hfz37_1, hfz37_2, hfz37_3⟩ := dZ4 BK422) | ((with_reducible refine gate_callee (f := 6) rfl ?_); refine goesL_ (some 28) rfl rfl Tryz.func6 (by kernel_rfl) rfl #[.agg #[.int .i64 a0_0, .int .i64 a0_1, .int .i64 a0_2, .int .i64 a0_3]] rfl zM ?_; (with_reducible refine (mosaiclaw09_Ref.calls a0_0 a0_1 a0_2 a0_3 t430 t431 t432 t433 _ A13.out).mono ?_); rintro e w38 ⟨rfl, hb⟩; refine ⟨_, rfl, ?_⟩; replace HO428 := Aside0.mk (Kd.R_below (zR HO428) hb); replace BK422 := Aside0.mk (blk_below (zk BK422) hb); replace HB := Aside0.mk (below_step zB hb); (try clear hb); (try clear hb2); (try clear hk); (try clear hi)) | ((with_reducible refine gate_callee (f := 20) rfl ?_); refine goesL_ (some 30) rfl rfl Tryz.func20 (by kernel_rfl) rfl #[.agg #[.int .i64 t430, .int .i64 t431, .int .i64 t432, .int .i64 t433], .slice A1 l1.length c1] rfl zM ?_; (with_reducible refine (mosaicref09_Whole.calls kj3 t430 t431 t432 t433 _ _ l1 t434 t437 _ ?side1 ?side2 A14.out).mono ?_); (case side1 => repeat (first | exact (Kd.C_below HR1.out HB.out) | (with_reducible refine Kd.C_alloc ?_ _) | (with_reducible refine Kd.C_drewN ?_ _) | (with_reducible refine Kd.C_drew ?_))); (case side2 => exact HC1.out); rintro e w39 ⟨v435, rfl, ho0, hb⟩; refine ⟨_, rfl, ?_⟩; have n0_ := Aside0.mk (Kd.R_elder' (by (with_reducible repeat (first | apply Kd.R_alloc | apply Kd.R_drewN | apply Kd.R_drew)); exact HO428.out) (Kd.R_base ho0) hb); have n1_ := Aside0.mk (Kd.R_lower (Kd.R_new' ho0 (Kd.R_lt (by (with_reducible repeat (first | apply Kd.R_alloc | apply Kd.R_drewN | apply Kd.R_drew)); exact HO428.out))) (below_size zB)); have n2_ := Aside0.mk (blk_below (zk BK422) hb); have n3_ := Aside0.mk (below_step zB hb); clear HO428; clear BK422; clear HB; have HO428 := n0_; have HO436 := n1_; have BK422 := n2_; have HB := n3_; clear n0_ n1_ n2_ n3_; (try clear hb); (try clear hb2); (try clear hk); (try clear hi); (try clear ho0)))
       replace HO428 := Aside0.mk (Kd.R_drew HO428.out)
       replace HO436 := Aside0.mk (Kd.R_drew HO436.out)
       replace BK422 := Aside0.mk (blk_drew BK422.out)
       replace HB := Aside0.mk (below_drew1 HB.out); refine start_ (n := 22) (S := fun w' => True) (ds := []) (mkB4 22 0) (by kernel_rfl) rfl rfl trivial (fun hHeld => ?_); refine with_tabW mosaiclaw09_OuterWholes.tab5 mosaiclaw09_OuterWholes.bits5 (fun HT_ HW_ => ?_)
       generalize w39.drew = w40 at HO428 HO436 BK422 HB hHeld ⊢
       refine one_ (i := 0) (N := some 33) (mkB4 22 1) rfl rfl (one_of HT_.out (by kernel_rfl)) (by decide) (fun K hK => ?_)
       refine goes_ Tryz.func11 (by kernel_rfl) rfl #[] (by rfl) rfl rfl zM ?_
       with_reducible refine (mosaiclaw09_awake.calls kj3  true _ A15.out).mono ?_
       rintro e w41 ⟨rfl, hb⟩; refine ⟨_, rfl, ?_⟩; replace HO428 := Aside0.mk (Kd.R_below (zR HO428) hb)
       replace HO436 := Aside0.mk (Kd.R_below (zR HO436) hb)
       replace BK422 := Aside0.mk (blk_below (zk BK422) hb)
       replace HB := Aside0.mk (below_step zB hb); (try clear hb); (try clear hb2); (try clear hk); (try clear hi); obtain ⟨Ao42, co42, eo42⟩ := Kd.R_slice HO428.out
       (first | subst eo42 | (injection eo42 with f1_ f2_ f3_; have f4_ := f1_.symm; have f5_ := f3_.symm; clear f1_ f2_ f3_; subst f4_; subst f5_))
       obtain ⟨Ao43, co43, eo43⟩ := Kd.R_slice HO436.out
       (first | subst eo43 | (injection eo43 with f1_ f2_ f3_; have f4_ := f1_.symm; have f5_ := f3_.symm; clear f1_ f2_ f3_; subst f4_; subst f5_))
       refine hK.out _ _ trivial (fun hHeld => ?_)
       clear hK K; refine norm_ (a' := ?_) ?_ ?_
       rotate_left
       ·
        show Act.put _ (some 33) _ = _
        simp only [Act.put, List.setIfInBounds_toArray, List.set_cons_zero, List.set_cons_succ, i64_w, i32_w]; rfl
       refine pX 1 (some 34) (mkB4 22 3) ?_
       refine pX 2 (some 35) (mkB4 22 7) ?_
       refine pX 3 (some 36) (mkB4 22 15) ?_
       refine one_ (i := 4) (N := some 37) (mkB4 22 31) rfl rfl (one_of HT_.out (by kernel_rfl)) (by decide) (fun K hK => ?_)
       refine goes_ Tryz.func21 (by kernel_rfl) rfl #[.slice Ao42 t426.length co42, .slice Ao43 t434.length co43] (by rfl) rfl rfl zM ?_
       with_reducible refine (mosaicref03_Same.calls kj3 _ _ t426 _ _ t434 true _ ?side1 ?side2 ?side3 ?side4 A17.out).mono ?_
       (case side1 => repeat (first | exact (Kd.R_reads' HO428.out).2.2 | (with_reducible refine Kd.C_alloc ?_ _) | (with_reducible refine Kd.C_drewN ?_ _) | (with_reducible refine Kd.C_drew ?_)))
       (case side2 => exact (Kd.R_reads' HO428.out).2.1)
       (case side3 => repeat (first | exact (Kd.R_reads' HO436.out).2.2 | (with_reducible refine Kd.C_alloc ?_ _) | (with_reducible refine Kd.C_drewN ?_ _) | (with_reducible refine Kd.C_drew ?_)))
       (case side4 => exact (Kd.R_reads' HO436.out).2.1)
       rintro e w' ⟨rfl, ⟨nd, rfl⟩⟩
       refine ⟨_, rfl, ?_⟩; refine hK.out _ _ trivial (fun hHeld => ?_)
       clear hK K; refine norm_ (a' := ?_) ?_ ?_
       rotate_left
       ·
        show Act.put _ (some 37) _ = _
        simp only [Act.put, List.setIfInBounds_toArray, List.set_cons_zero, List.set_cons_succ, i64_w, i32_w]; rfl
       refine pX 5 (some 38) (mkB4 22 63) ?_
       refine pX 6 (some 39) (mkB4 22 127) ?_
       refine pX 7 (some 40) (mkB4 22 255) ?_
       refine pX 8 (some 41) (mkB4 22 511) ?_
       refine pX 9 (some 42) (mkB4 22 1023) ?_
       refine pX 10 (some 43) (mkB4 22 2047) ?_
       refine pX 11 (some 44) (mkB4 22 4095) ?_
       refine nX 12 (some 45) (mkB4 22 8191) ?_
       refine nX 13 (some 46) (mkB4 22 16383) ?_
       refine nX 14 (some 47) (mkB4 22 32767) ?_
       refine nX 15 (some 48) (mkB4 22 65535) ?_
       refine nX 16 (some 49) (mkB4 22 131071) ?_
       refine nX 17 (some 50) (mkB4 22 262143) ?_
       refine nX 18 (some 51) (mkB4 22 524287) ?_
       refine nX 19 (some 52) (mkB4 22 1048575) ?_
       refine pX 20 (some 53) (mkB4 22 2097151) ?_
       refine pX 21 (some 6) (mkB4 22 4194303) ?_
       refine done_ (done_of HT_.out (by kernel_rfl)) ?_
       try go_wp2
       go_ret
       exact ⟨zE, zB⟩
     ·
      replace c18 := Bool.eq_false_iff.mpr c18
      subst c18
      have H1 : (some false) = some r := by rw [if_neg (show ¬ (false = true) by decide)] at H; exact H
      clear H; have H := H1; clear H1; obtain rfl := Option.some.inj H
      obtain ⟨hcz44_0, hcz44_1, hcz44_2, hcz44_3⟩ := cZ4 BK422
      obtain ⟨hfz44_0, hfz44_1, hfz44_2, hfz44_3⟩ := dZ4 BK422; try go_wp2_with (first | ((with_reducible refine gate_callee (f := 19) rfl ?_); refine goesL_ (some 23) rfl rfl Tryz.func19 (by kernel_rfl) rfl #[.agg #[.int .i64 a0_0, .int .i64 a0_1, .int .i64 a0_2, .int .i64 a0_3], .slice A1 l1.length c1] rfl zM ?_; (with_reducible refine (outer_Whole.calls kj3 a0_0 a0_1 a0_2 a0_3 _ _ l1 t426 t429 _ ?side1 ?side2 A12.out).mono ?_); (case side1 => repeat (first | exact (Kd.C_below HR1.out HB.out) | (with_reducible refine Kd.C_alloc ?_ _) | (with_reducible refine Kd.C_drewN ?_ _) | (with_reducible refine Kd.C_drew ?_))); (case side2 => exact HC1.out); rintro e w45 ⟨v427, rfl, ho0, hb⟩; refine ⟨_, rfl, ?_⟩; have HO428 := Aside0.mk (Kd.R_lower ho0 (below_size zB)); replace BK422 := Aside0.mk (blk_below (zk BK422) hb); replace HB := Aside0.mk (below_step zB hb); (try clear hb); (try clear hb2); (try clear hk); (try clear hi); (try clear ho0); obtain ⟨hcz46_0, hcz46_1, hcz46_2, hcz46_3⟩ := cZ4 BK422; obtain ⟨hfz46_0, hfz46_1, hfz46_2, hfz46_3⟩ := dZ4 BK422) | ((with_reducible refine gate_callee (f := 6) rfl ?_); refine goesL_ (some 28) rfl rfl Tryz.func6 (by kernel_rfl) rfl #[.agg #[.int .i64 a0_0, .int .i64 a0_1, .int .i64 a0_2, .int .i64 a0_3]] rfl zM ?_; (with_reducible refine (mosaiclaw09_Ref.calls a0_0 a0_1 a0_2 a0_3 t430 t431 t432 t433 _ A13.out).mono ?_); rintro e w47 ⟨rfl, hb⟩; refine ⟨_, rfl, ?_⟩; replace HO428 := Aside0.mk (Kd.R_below (zR HO428) hb); replace BK422 := Aside0.mk (blk_below (zk BK422) hb); replace HB := Aside0.mk (below_step zB hb); (try clear hb); (try clear hb2); (try clear hk); (try clear hi)) | ((with_reducible refine gate_callee (f := 20) rfl ?_); refine goesL_ (some 30) rfl rfl Tryz.func20 (by kernel_rfl) rfl #[.agg #[.int .i64 t430, .int .i64 t431, .int .i64 t432, .int .i64 t433], .slice A1 l1.length c1] rfl zM ?_; (with_reducible refine (mosaicref09_Whole.calls kj3 t430 t431 t432 t433 _ _ l1 t434 t437 _ ?side1 ?side2 A14.out).mono ?_); (case side1 => repeat (first | exact (Kd.C_below HR1.out HB.out) | (with_reducible refine Kd.C_alloc ?_ _) | (with_reducible refine Kd.C_drewN ?_ _) | (with_reducible refine Kd.C_drew ?_))); (case side2 => exact HC1.out); rintro e w48 ⟨v435, rfl, ho0, hb⟩; refine ⟨_, rfl, ?_⟩; have n0_ := Aside0.mk (Kd.R_elder' (by (with_reducible repeat (first | apply Kd.R_alloc | apply Kd.R_drewN | apply Kd.R_drew)); exact HO428.out) (Kd.R_base ho0) hb); have n1_ := Aside0.mk (Kd.R_lower (Kd.R_new' ho0 (Kd.R_lt (by (with_reducible repeat (first | apply Kd.R_alloc | apply Kd.R_drewN | apply Kd.R_drew)); exact HO428.out))) (below_size zB)); have n2_ := Aside0.mk (blk_below (zk BK422) hb); have n3_ := Aside0.mk (below_step zB hb); clear HO428; clear BK422; clear HB; have HO428 := n0_; have HO436 := n1_; have BK422 := n2_; have HB := n3_; clear n0_ n1_ n2_ n3_; (try clear hb); (try clear hb2); (try clear hk); (try clear hi); (try clear ho0)))
      replace HO428 := Aside0.mk (Kd.R_drew HO428.out)
      replace HO436 := Aside0.mk (Kd.R_drew HO436.out)
      replace BK422 := Aside0.mk (blk_drew BK422.out)
      replace HB := Aside0.mk (below_drew1 HB.out); refine start_ (n := 22) (S := fun w' => True) (ds := []) (mkB4 22 0) (by kernel_rfl) rfl rfl trivial (fun hHeld => ?_); refine with_tabW mosaiclaw09_OuterWholes.tab5 mosaiclaw09_OuterWholes.bits5 (fun HT_ HW_ => ?_)
      generalize w48.drew = w49 at HO428 HO436 BK422 HB hHeld ⊢
      refine one_ (i := 0) (N := some 33) (mkB4 22 1) rfl rfl (one_of HT_.out (by kernel_rfl)) (by decide) (fun K hK => ?_)
      refine goes_ Tryz.func11 (by kernel_rfl) rfl #[] (by rfl) rfl rfl zM ?_
      with_reducible refine (mosaiclaw09_awake.calls kj3  true _ A15.out).mono ?_
      rintro e w50 ⟨rfl, hb⟩; refine ⟨_, rfl, ?_⟩; replace HO428 := Aside0.mk (Kd.R_below (zR HO428) hb)
      replace HO436 := Aside0.mk (Kd.R_below (zR HO436) hb)
      replace BK422 := Aside0.mk (blk_below (zk BK422) hb)
      replace HB := Aside0.mk (below_step zB hb); (try clear hb); (try clear hb2); (try clear hk); (try clear hi); obtain ⟨Ao51, co51, eo51⟩ := Kd.R_slice HO428.out
      (first | subst eo51 | (injection eo51 with f1_ f2_ f3_; have f4_ := f1_.symm; have f5_ := f3_.symm; clear f1_ f2_ f3_; subst f4_; subst f5_))
      obtain ⟨Ao52, co52, eo52⟩ := Kd.R_slice HO436.out
      (first | subst eo52 | (injection eo52 with f1_ f2_ f3_; have f4_ := f1_.symm; have f5_ := f3_.symm; clear f1_ f2_ f3_; subst f4_; subst f5_))
      refine hK.out _ _ trivial (fun hHeld => ?_)
      clear hK K; refine norm_ (a' := ?_) ?_ ?_
      rotate_left
      ·
       show Act.put _ (some 33) _ = _
       simp only [Act.put, List.setIfInBounds_toArray, List.set_cons_zero, List.set_cons_succ, i64_w, i32_w]; rfl
      refine pX 1 (some 34) (mkB4 22 3) ?_
      refine pX 2 (some 35) (mkB4 22 7) ?_
      refine pX 3 (some 36) (mkB4 22 15) ?_
      refine one_ (i := 4) (N := some 37) (mkB4 22 31) rfl rfl (one_of HT_.out (by kernel_rfl)) (by decide) (fun K hK => ?_)
      refine goes_ Tryz.func21 (by kernel_rfl) rfl #[.slice Ao51 t426.length co51, .slice Ao52 t434.length co52] (by rfl) rfl rfl zM ?_
      with_reducible refine (mosaicref03_Same.calls kj3 _ _ t426 _ _ t434 false _ ?side1 ?side2 ?side3 ?side4 A17.out).mono ?_
      (case side1 => repeat (first | exact (Kd.R_reads' HO428.out).2.2 | (with_reducible refine Kd.C_alloc ?_ _) | (with_reducible refine Kd.C_drewN ?_ _) | (with_reducible refine Kd.C_drew ?_)))
      (case side2 => exact (Kd.R_reads' HO428.out).2.1)
      (case side3 => repeat (first | exact (Kd.R_reads' HO436.out).2.2 | (with_reducible refine Kd.C_alloc ?_ _) | (with_reducible refine Kd.C_drewN ?_ _) | (with_reducible refine Kd.C_drew ?_)))
      (case side4 => exact (Kd.R_reads' HO436.out).2.1)
      rintro e w' ⟨rfl, ⟨nd, rfl⟩⟩
      refine ⟨_, rfl, ?_⟩; refine hK.out _ _ trivial (fun hHeld => ?_)
      clear hK K; refine norm_ (a' := ?_) ?_ ?_
      rotate_left
      ·
       show Act.put _ (some 37) _ = _
       simp only [Act.put, List.setIfInBounds_toArray, List.set_cons_zero, List.set_cons_succ, i64_w, i32_w]; rfl
      refine pX 5 (some 38) (mkB4 22 63) ?_
      refine pX 6 (some 39) (mkB4 22 127) ?_
      refine nX 7 (some 40) (mkB4 22 255) ?_
      refine nX 8 (some 41) (mkB4 22 511) ?_
      refine nX 9 (some 42) (mkB4 22 1023) ?_
      refine pX 10 (some 43) (mkB4 22 2047) ?_
      refine pX 11 (some 44) (mkB4 22 4095) ?_
      refine nX 12 (some 45) (mkB4 22 8191) ?_
      refine nX 13 (some 46) (mkB4 22 16383) ?_
      refine nX 14 (some 47) (mkB4 22 32767) ?_
      refine nX 15 (some 48) (mkB4 22 65535) ?_
      refine nX 16 (some 49) (mkB4 22 131071) ?_
      refine nX 17 (some 50) (mkB4 22 262143) ?_
      refine nX 18 (some 51) (mkB4 22 524287) ?_
      refine nX 19 (some 52) (mkB4 22 1048575) ?_
      refine pX 20 (some 53) (mkB4 22 2097151) ?_
      refine pX 21 (some 6) (mkB4 22 4194303) ?_
      refine done_ (done_of HT_.out (by kernel_rfl)) ?_
      try go_wp2
      go_ret
      exact ⟨zE, zB⟩
    ·
     replace c16 := Bool.eq_false_iff.mpr c16
     subst c16
     have H1 : (some false) = some r := by rw [if_neg (show ¬ (false = true) by decide)] at H; exact H
     clear H; have H := H1; clear H1; obtain rfl := Option.some.inj H
     obtain ⟨hcz53_0, hcz53_1, hcz53_2, hcz53_3⟩ := cZ4 BK422
     obtain ⟨hfz53_0, hfz53_1, hfz53_2, hfz53_3⟩ := dZ4 BK422; try go_wp2_with (first | ((with_reducible refine gate_callee (f := 19) rfl ?_); refine goesL_ (some 23) rfl rfl Tryz.func19 (by kernel_rfl) rfl #[.agg #[.int .i64 a0_0, .int .i64 a0_1, .int .i64 a0_2, .int .i64 a0_3], .slice A1 l1.length c1] rfl zM ?_; (with_reducible refine (outer_Whole.calls kj3 a0_0 a0_1 a0_2 a0_3 _ _ l1 t426 t429 _ ?side1 ?side2 A12.out).mono ?_); (case side1 => repeat (first | exact (Kd.C_below HR1.out HB.out) | (with_reducible refine Kd.C_alloc ?_ _) | (with_reducible refine Kd.C_drewN ?_ _) | (with_reducible refine Kd.C_drew ?_))); (case side2 => exact HC1.out); rintro e w54 ⟨v427, rfl, ho0, hb⟩; refine ⟨_, rfl, ?_⟩; have HO428 := Aside0.mk (Kd.R_lower ho0 (below_size zB)); replace BK422 := Aside0.mk (blk_below (zk BK422) hb); replace HB := Aside0.mk (below_step zB hb); (try clear hb); (try clear hb2); (try clear hk); (try clear hi); (try clear ho0); obtain ⟨hcz55_0, hcz55_1, hcz55_2, hcz55_3⟩ := cZ4 BK422; obtain ⟨hfz55_0, hfz55_1, hfz55_2, hfz55_3⟩ := dZ4 BK422) | ((with_reducible refine gate_callee (f := 6) rfl ?_); refine goesL_ (some 28) rfl rfl Tryz.func6 (by kernel_rfl) rfl #[.agg #[.int .i64 a0_0, .int .i64 a0_1, .int .i64 a0_2, .int .i64 a0_3]] rfl zM ?_; (with_reducible refine (mosaiclaw09_Ref.calls a0_0 a0_1 a0_2 a0_3 t430 t431 t432 t433 _ A13.out).mono ?_); rintro e w56 ⟨rfl, hb⟩; refine ⟨_, rfl, ?_⟩; replace HO428 := Aside0.mk (Kd.R_below (zR HO428) hb); replace BK422 := Aside0.mk (blk_below (zk BK422) hb); replace HB := Aside0.mk (below_step zB hb); (try clear hb); (try clear hb2); (try clear hk); (try clear hi)) | ((with_reducible refine gate_callee (f := 20) rfl ?_); refine goesL_ (some 30) rfl rfl Tryz.func20 (by kernel_rfl) rfl #[.agg #[.int .i64 t430, .int .i64 t431, .int .i64 t432, .int .i64 t433], .slice A1 l1.length c1] rfl zM ?_; (with_reducible refine (mosaicref09_Whole.calls kj3 t430 t431 t432 t433 _ _ l1 t434 t437 _ ?side1 ?side2 A14.out).mono ?_); (case side1 => repeat (first | exact (Kd.C_below HR1.out HB.out) | (with_reducible refine Kd.C_alloc ?_ _) | (with_reducible refine Kd.C_drewN ?_ _) | (with_reducible refine Kd.C_drew ?_))); (case side2 => exact HC1.out); rintro e w57 ⟨v435, rfl, ho0, hb⟩; refine ⟨_, rfl, ?_⟩; have n0_ := Aside0.mk (Kd.R_elder' (by (with_reducible repeat (first | apply Kd.R_alloc | apply Kd.R_drewN | apply Kd.R_drew)); exact HO428.out) (Kd.R_base ho0) hb); have n1_ := Aside0.mk (Kd.R_lower (Kd.R_new' ho0 (Kd.R_lt (by (with_reducible repeat (first | apply Kd.R_alloc | apply Kd.R_drewN | apply Kd.R_drew)); exact HO428.out))) (below_size zB)); have n2_ := Aside0.mk (blk_below (zk BK422) hb); have n3_ := Aside0.mk (below_step zB hb); clear HO428; clear BK422; clear HB; have HO428 := n0_; have HO436 := n1_; have BK422 := n2_; have HB := n3_; clear n0_ n1_ n2_ n3_; (try clear hb); (try clear hb2); (try clear hk); (try clear hi); (try clear ho0)))
     replace HO428 := Aside0.mk (Kd.R_drew HO428.out)
     replace HO436 := Aside0.mk (Kd.R_drew HO436.out)
     replace BK422 := Aside0.mk (blk_drew BK422.out)
     replace HB := Aside0.mk (below_drew1 HB.out); refine start_ (n := 22) (S := fun w' => True) (ds := []) (mkB4 22 0) (by kernel_rfl) rfl rfl trivial (fun hHeld => ?_); refine with_tabW mosaiclaw09_OuterWholes.tab5 mosaiclaw09_OuterWholes.bits5 (fun HT_ HW_ => ?_)
     generalize w57.drew = w58 at HO428 HO436 BK422 HB hHeld ⊢
     refine one_ (i := 0) (N := some 33) (mkB4 22 1) rfl rfl (one_of HT_.out (by kernel_rfl)) (by decide) (fun K hK => ?_)
     refine goes_ Tryz.func11 (by kernel_rfl) rfl #[] (by rfl) rfl rfl zM ?_
     with_reducible refine (mosaiclaw09_awake.calls kj3  false _ A15.out).mono ?_
     rintro e w59 ⟨rfl, hb⟩; refine ⟨_, rfl, ?_⟩; replace HO428 := Aside0.mk (Kd.R_below (zR HO428) hb)
     replace HO436 := Aside0.mk (Kd.R_below (zR HO436) hb)
     replace BK422 := Aside0.mk (blk_below (zk BK422) hb)
     replace HB := Aside0.mk (below_step zB hb); (try clear hb); (try clear hb2); (try clear hk); (try clear hi); refine hK.out _ _ trivial (fun hHeld => ?_)
     clear hK K; refine norm_ (a' := ?_) ?_ ?_
     rotate_left
     ·
      show Act.put _ (some 33) _ = _
      simp only [Act.put, List.setIfInBounds_toArray, List.set_cons_zero, List.set_cons_succ, i64_w, i32_w]; rfl
     refine pX 1 (some 34) (mkB4 22 3) ?_
     refine nX 2 (some 35) (mkB4 22 7) ?_
     refine nX 3 (some 36) (mkB4 22 15) ?_
     refine nX 4 (some 37) (mkB4 22 31) ?_
     refine pX 5 (some 38) (mkB4 22 63) ?_
     refine pX 6 (some 39) (mkB4 22 127) ?_
     refine nX 7 (some 40) (mkB4 22 255) ?_
     refine nX 8 (some 41) (mkB4 22 511) ?_
     refine nX 9 (some 42) (mkB4 22 1023) ?_
     refine pX 10 (some 43) (mkB4 22 2047) ?_
     refine pX 11 (some 44) (mkB4 22 4095) ?_
     refine nX 12 (some 45) (mkB4 22 8191) ?_
     refine nX 13 (some 46) (mkB4 22 16383) ?_
     refine nX 14 (some 47) (mkB4 22 32767) ?_
     refine nX 15 (some 48) (mkB4 22 65535) ?_
     refine nX 16 (some 49) (mkB4 22 131071) ?_
     refine nX 17 (some 50) (mkB4 22 262143) ?_
     refine nX 18 (some 51) (mkB4 22 524287) ?_
     refine nX 19 (some 52) (mkB4 22 1048575) ?_
     refine pX 20 (some 53) (mkB4 22 2097151) ?_
     refine pX 21 (some 6) (mkB4 22 4194303) ?_
     refine done_ (done_of HT_.out (by kernel_rfl)) ?_
     try go_wp2
     go_ret
     exact ⟨zE, zB⟩
def mosaiclaw09_OuterWholes.Pure : Prop := ∀ (a0_0 : Int) (a0_1 : Int) (a0_2 : Int) (a0_3 : Int) (l1 : List ByteArray) (l2 : List ByteArray), ((Lit.int .i64 a0_0).wf = true) → ((Lit.int .i64 a0_1).wf = true) → ((Lit.int .i64 a0_2).wf = true) → ((Lit.int .i64 a0_3).wf = true) → (l1.length ≤ maxLen) → (∀ y ∈ l1, y.size ≤ maxLen) → (l2.length ≤ maxLen) → (∀ y ∈ l2, y.size ≤ maxLen) → ∃ k, mosaiclaw09_OuterWholes.f k a0_0 a0_1 a0_2 a0_3 l1 l2 = some true
theorem mosaiclaw09_OuterWholes.walk (P : mosaiclaw09_OuterWholes.Pure) (a0_0 : Int) (a0_1 : Int) (a0_2 : Int) (a0_3 : Int) (A1 : Option Addr) (c1 : Nat) (l1 : List ByteArray) (A2 : Option Addr) (c2 : Nat) (l2 : List ByteArray) (w : World) (hr1 : Kd.C Kd.string w A1 l1.length l1) (hc1 : l1.length ≤ c1) (hr2 : Kd.C Kd.string w A2 l2.length l2) (hc2 : l2.length ≤ c2) (hi0_0 : (Lit.int .i64 a0_0).wf = true) (hi0_1 : (Lit.int .i64 a0_1).wf = true) (hi0_2 : (Lit.int .i64 a0_2).wf = true) (hi0_3 : (Lit.int .i64 a0_3).wf = true) (hm1 : l1.length ≤ maxLen) (hw1 : ∀ y ∈ l1, y.size ≤ maxLen) (hm2 : l2.length ≤ maxLen) (hw2 : ∀ y ∈ l2, y.size ≤ maxLen) :
  Calls Tryz.prog 4 #[.agg #[.int .i64 a0_0, .int .i64 a0_1, .int .i64 a0_2, .int .i64 a0_3], .slice A1 l1.length c1, .slice A2 l2.length c2] w fun e w' => e = .returned (.bool true) ∧ Below w.heap.size w w' := by
 obtain ⟨k, h⟩ := P a0_0 a0_1 a0_2 a0_3 l1 l2 hi0_0 hi0_1 hi0_2 hi0_3 hm1 hw1 hm2 hw2
 refine (mosaiclaw09_OuterWholes.calls k a0_0 a0_1 a0_2 a0_3 A1 c1 l1 A2 c2 l2 true w hr1 hc1 hr2 hc2 h).mono ?_
 rintro e w' ⟨rfl, hd⟩
 exact ⟨rfl, hd⟩
end Go.Proofs.YtghhmnjkgnoogaaGreat.POuterWholes
