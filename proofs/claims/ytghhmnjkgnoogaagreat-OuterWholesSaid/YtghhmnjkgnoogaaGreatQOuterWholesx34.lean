-- Written by this session's own program (wip/tools/mkprint.py) over the kit's printer, with overrides.
import Derived.Test.YtghhmnjkgnoogaaGreatTOuterWholesa
import Derived.Test.YtghhmnjkgnoogaaGreatQOuterWholesx0
import Derived.Test.YtghhmnjkgnoogaaGreatQOuterWholesx16
import Derived.Test.YtghhmnjkgnoogaaGreatQOuterWholesx29
import Derived.Test.YtghhmnjkgnoogaaGreatQOuterWholesx30
import Derived.Test.YtghhmnjkgnoogaaGreatQOuterWholesx33
namespace Go.Proofs.YtghhmnjkgnoogaaGreat.POuterWholes
open Go.RowKit Go.Mine Go.Proofs.YtghhmnjkgnoogaaGreatW.PrintWords Go.Proofs.YtghhmnjkgnoogaaGreatW.PrintLast Go.Proofs.YtghhmnjkgnoogaaGreatW.PrintMore
attribute [local go_sem] max2_int min2_int max_two min_two max_three min_three max_four min_four   -- for this text's walks alone
set_option linter.unusedVariables false
set_option linter.unusedSimpArgs false
/-! ### mosaicref09_Holds: function 23 -/
/-- The Bools of a number's bits. -/
def mkB23 (w m : Nat) : Array Bool := ⟨(List.range w).map fun i => m.testBit i⟩
mutual
def mosaicref09_Holds.j0 : Nat → List ByteArray → Bool → Int → Int → Int → Int → Option (Bool)
 | 0, _, _, _, _, _, _ => none
 | k + 1, x1, x24, x412000, x412001, x412002, x412003 => if x24 = true then (some false) else ((mosaicref09_Rules.f k x412000 x412001 x412002 x412003).bind fun t414 => (mosaicref09_Holds.l0 k x1 t414 0))
def mosaicref09_Holds.l0 : Nat → List ByteArray → List (List Int) → Int → Option (Bool)
 | 0, _, _, _ => none
 | k + 1, x1, x5, x6 => if x6 < (x5.length : Int) then (if 0 ≤ x6 then (if 0 < (x1.length : Int) then ((mosaicref09_Sum.f k x1 (rd_L3 x5 x6) ((rdOf ByteArray.empty x1 0).size : Int)).bind fun t419 => ((mosaicref07_Zero.f k ((rdOf ByteArray.empty x1 0).size : Int)).bind fun t421 => (if t419.toList = t421.toList then (mosaicref09_Holds.l0 k x1 x5 (wrap64 (x6 + 1))) else (some false)))) else (none)) else (none)) else (some true)
end
def mosaicref09_Holds.f (k : Nat) (a0_0 : Int) (a0_1 : Int) (a0_2 : Int) (a0_3 : Int) (l1 : List ByteArray) : Option (Bool) := (mosaicref09_Check.f a0_0 a0_1 a0_2 a0_3).bind fun t412 => (if t412 = true then (if (l1.length : Int) = (wrap64 (a0_1 + a0_2)) then ((mosaicref09_Sized.f k l1).bind fun t413 => (mosaicref09_Holds.j0 k l1 (!t413) a0_0 a0_1 a0_2 a0_3)) else (mosaicref09_Holds.j0 k l1 true a0_0 a0_1 a0_2 a0_3)) else (mosaicref09_Holds.j0 k l1 true a0_0 a0_1 a0_2 a0_3))
theorem mosaicref09_Holds.mono_l : ∀ k, (∀ y0 y1 y2 y3 y4 y5, LeO (mosaicref09_Holds.j0 k y0 y1 y2 y3 y4 y5) (mosaicref09_Holds.j0 (k + 1) y0 y1 y2 y3 y4 y5)) ∧ (∀ y0 y1 y2, LeO (mosaicref09_Holds.l0 k y0 y1 y2) (mosaicref09_Holds.l0 (k + 1) y0 y1 y2))
 | 0 => ⟨fun _ _ _ _ _ _ r h => by simp [mosaicref09_Holds.j0] at h, fun _ _ _ r h => by simp [mosaicref09_Holds.l0] at h⟩
 | k + 1 => by
  obtain ⟨ih0, ih1⟩ := mosaicref09_Holds.mono_l k
  refine ⟨?_, ?_⟩
  ·
   intro y0 y1 y2 y3 y4 y5
   unfold mosaicref09_Holds.j0
   repeat' first
   | (with_reducible exact ih0 _ _ _ _ _ _)
   | (with_reducible exact ih1 _ _ _)
   | (with_reducible exact mosaicref07_Zero.mono _ _)
   | (with_reducible exact mosaicref09_Rules.mono _ _ _ _ _)
   | (with_reducible exact mosaicref09_Sized.mono _ _)
   | (with_reducible exact mosaicref09_Sum.mono _ _ _ _)
   | (with_reducible exact LeO.refl _)
   | (with_reducible exact LeO.none _)
   | (with_reducible refine LeO.ite ?_ ?_)
   | (with_reducible refine LeO.bind ?_ (fun _ => ?_))
   | exact ih0 _ _ _ _ _ _
   | exact ih1 _ _ _
   | exact mosaicref07_Zero.mono _ _
   | exact mosaicref09_Rules.mono _ _ _ _ _
   | exact mosaicref09_Sized.mono _ _
   | exact mosaicref09_Sum.mono _ _ _ _
   | exact LeO.none _
   | refine LeO.ite ?_ ?_
   | refine LeO.bind ?_ (fun _ => ?_)
  ·
   intro y0 y1 y2
   unfold mosaicref09_Holds.l0
   repeat' first
   | (with_reducible exact ih0 _ _ _ _ _ _)
   | (with_reducible exact ih1 _ _ _)
   | (with_reducible exact mosaicref07_Zero.mono _ _)
   | (with_reducible exact mosaicref09_Rules.mono _ _ _ _ _)
   | (with_reducible exact mosaicref09_Sized.mono _ _)
   | (with_reducible exact mosaicref09_Sum.mono _ _ _ _)
   | (with_reducible exact LeO.refl _)
   | (with_reducible exact LeO.none _)
   | (with_reducible refine LeO.ite ?_ ?_)
   | (with_reducible refine LeO.bind ?_ (fun _ => ?_))
   | exact ih0 _ _ _ _ _ _
   | exact ih1 _ _ _
   | exact mosaicref07_Zero.mono _ _
   | exact mosaicref09_Rules.mono _ _ _ _ _
   | exact mosaicref09_Sized.mono _ _
   | exact mosaicref09_Sum.mono _ _ _ _
   | exact LeO.none _
   | refine LeO.ite ?_ ?_
   | refine LeO.bind ?_ (fun _ => ?_)
theorem mosaicref09_Holds.mono : ∀ a0 a1 a2 a3 a4 k, LeO (mosaicref09_Holds.f k a0 a1 a2 a3 a4) (mosaicref09_Holds.f (k + 1) a0 a1 a2 a3 a4) := by
 intro a0 a1 a2 a3 a4 k
 obtain ⟨ih0, ih1⟩ := mosaicref09_Holds.mono_l k
 unfold mosaicref09_Holds.f
 repeat' first
   | (with_reducible exact ih0 _ _ _ _ _ _)
   | (with_reducible exact ih1 _ _ _)
   | (with_reducible exact mosaicref07_Zero.mono _ _)
   | (with_reducible exact mosaicref09_Rules.mono _ _ _ _ _)
   | (with_reducible exact mosaicref09_Sized.mono _ _)
   | (with_reducible exact mosaicref09_Sum.mono _ _ _ _)
   | (with_reducible exact LeO.refl _)
   | (with_reducible exact LeO.none _)
   | (with_reducible refine LeO.ite ?_ ?_)
   | (with_reducible refine LeO.bind ?_ (fun _ => ?_))
   | exact ih0 _ _ _ _ _ _
   | exact ih1 _ _ _
   | exact mosaicref07_Zero.mono _ _
   | exact mosaicref09_Rules.mono _ _ _ _ _
   | exact mosaicref09_Sized.mono _ _
   | exact mosaicref09_Sum.mono _ _ _ _
   | exact LeO.none _
   | refine LeO.ite ?_ ?_
   | refine LeO.bind ?_ (fun _ => ?_)
def mosaicref09_Holds.T7 : Bool × List (List Nat × List Nat) := (true, [([], []), ([], []), ([], []), ([1, 2], [1, 2]), ([3], [3]), ([], []), ([5], [5]), ([6], [6]), ([7], [7]), ([0, 4, 8], [0, 4, 8]), ([], []), ([10], [10]), ([11], [11]), ([12], [12]), ([13, 9], [13]), ([9, 14], [9, 14])])
def mosaicref09_Holds.B7 : List Nat := [0, 0, 0, 6, 14, 0, 32, 96, 224, 511, 0, 1024, 3072, 7168, 16383, 32767]
theorem mosaicref09_Holds.tab7 : rtab .any (opsOf Tryz.f23 7) = mosaicref09_Holds.T7 := by kernel_rfl
theorem mosaicref09_Holds.bits7 : waitsOk mosaicref09_Holds.T7.2 mosaicref09_Holds.B7 = true := by kernel_rfl
set_option maxHeartbeats 8000000 in
set_option maxRecDepth 100000 in
theorem mosaicref09_Holds.calls (k : Nat) (a0_0 : Int) (a0_1 : Int) (a0_2 : Int) (a0_3 : Int) (A1 : Option Addr) (c1 : Nat) (l1 : List ByteArray) (r : Bool) (w : World) (hr1 : Kd.C Kd.string w A1 l1.length l1) (hc1 : l1.length ≤ c1) (h : mosaicref09_Holds.f k a0_0 a0_1 a0_2 a0_3 l1 = some r) :
  Calls Tryz.prog 23 #[.agg #[.int .i64 a0_0, .int .i64 a0_1, .int .i64 a0_2, .int .i64 a0_3], .slice A1 l1.length c1] w fun e w' => e = .returned (.bool r) ∧ Below w.heap.size w w' := by
 have hu24 := Tryz.underlying24; have HR1 := Aside0.mk hr1
 have HC1 := Aside0.mk hc1
 clear hr1 hc1; have HB := Aside0.mk (Below.refl w.heap.size w)
 have H : ((mosaicref09_Check.f a0_0 a0_1 a0_2 a0_3).bind fun t412 => (if t412 = true then (if (l1.length : Int) = (wrap64 (a0_1 + a0_2)) then ((mosaicref09_Sized.f k l1).bind fun t413 => (mosaicref09_Holds.j0 k l1 (!t413) a0_0 a0_1 a0_2 a0_3)) else (mosaicref09_Holds.j0 k l1 true a0_0 a0_1 a0_2 a0_3)) else (mosaicref09_Holds.j0 k l1 true a0_0 a0_1 a0_2 a0_3))) = some r := h
 clear h; have HC3 := Aside0.mk H
 clear H; go_enter Tryz.func23, Tryz.ntmps23
 go_upto_region 1 with (first | ((with_reducible refine gate_dst (N := 2) rfl ?_); (try (refine gate_guard (by rfl) ?_; dsimp only)); refine box_event ?hg (N := 2) ?hd (cs := #[.int .i64 a0_0, .int .i64 a0_1, .int .i64 a0_2, .int .i64 a0_3]) (t := 24) ?hr ?_; (case hd => rfl); (case hg => rfl); (case hr => first | (go_simp; done) | (go_simp; rfl)); intro gb411 hg w4 hbox hb; have BK411 := Aside0.mk (hbox); have GW411 := Aside0.mk ((zg : w.heap.size ≤ gb411)); have GE411 := Aside0.mk ((zg : w.heap.size ≤ gb411)); replace HB := Aside0.mk (below_step zB hb); clear hb hbox hg))
 (try simp only [Act.put, List.setIfInBounds_toArray, List.set_cons_zero, List.set_cons_succ])
 go_cut [24] (fun v24 wc => ∃ (kq : Nat) (x24_2 : Bool), v24 = .bool x24_2 ∧ Aside0 (mosaicref09_Holds.j0 kq l1 x24_2 a0_0 a0_1 a0_2 a0_3 = some r) ∧ Aside0 (kq ≤ k) ∧ Aside0 (wc.heap[gb411]? = some (.cells #[.int .i64 a0_0, .int .i64 a0_1, .int .i64 a0_2, .int .i64 a0_3] 24 (0, 0))) ∧ Aside0 (Below w.heap.size w wc))
 case first =>
  have H := HC3.out; clear HC3; replace H := Option.bind_eq_some_iff.mp H
  obtain ⟨t412, A50, H⟩ := H
  replace H : (if t412 = true then (if (l1.length : Int) = (wrap64 (a0_1 + a0_2)) then ((mosaicref09_Sized.f k l1).bind fun t413 => (mosaicref09_Holds.j0 k l1 (!t413) a0_0 a0_1 a0_2 a0_3)) else (mosaicref09_Holds.j0 k l1 true a0_0 a0_1 a0_2 a0_3)) else (mosaicref09_Holds.j0 k l1 true a0_0 a0_1 a0_2 a0_3)) = some r := H
  have A5 := Aside0.mk A50
  clear A50; by_cases c6 : t412 = true
  ·
   subst c6
   have H1 : (if (l1.length : Int) = (wrap64 (a0_1 + a0_2)) then ((mosaicref09_Sized.f k l1).bind fun t413 => (mosaicref09_Holds.j0 k l1 (!t413) a0_0 a0_1 a0_2 a0_3)) else (mosaicref09_Holds.j0 k l1 true a0_0 a0_1 a0_2 a0_3)) = some r := by rw [if_pos rfl] at H; exact H
   clear H; have H := H1; clear H1; by_cases c7 : (l1.length : Int) = (wrap64 (a0_1 + a0_2))
   ·
    rw [if_pos c7] at H
    have c7b0 : ((l1.length : Int) == (wrap64 (a0_1 + a0_2))) = true := beq_iff_eq.mpr c7
    have c7b1 : ((l1.length : Int) != (wrap64 (a0_1 + a0_2))) = false := bne_eq_false_iff_eq.mpr c7
    clear c7; (first | rw [c7b0] | (simp only [i64_w, i32_w]; rw [c7b0]) | skip)
    replace H := Option.bind_eq_some_iff.mp H
    obtain ⟨t413, A80, H⟩ := H
    replace H : (mosaicref09_Holds.j0 k l1 (!t413) a0_0 a0_1 a0_2 a0_3) = some r := H
    have A8 := Aside0.mk A80
    clear A80; have H' := Aside0.mk H
    clear H; obtain ⟨hcz9_0, hcz9_1, hcz9_2, hcz9_3⟩ := cZ4 BK411
    obtain ⟨hfz9_0, hfz9_1, hfz9_2, hfz9_3⟩ := dZ4 BK411; go_wp2_with (first | ((with_reducible refine gate_callee (f := 10) rfl ?_); refine goesL_ (some 8) rfl rfl Tryz.func10 (by kernel_rfl) rfl #[.agg #[.int .i64 a0_0, .int .i64 a0_1, .int .i64 a0_2, .int .i64 a0_3]] rfl zM ?_; (with_reducible refine (mosaicref09_Check.calls a0_0 a0_1 a0_2 a0_3 true _ A5.out).mono ?_); rintro e w10 ⟨rfl, hb⟩; refine ⟨_, rfl, ?_⟩; replace BK411 := Aside0.mk (blk_below (zk BK411) hb); replace HB := Aside0.mk (below_step zB hb); (try clear hb); (try clear hb2); (try clear hk); (try clear hi); obtain ⟨hcz11_0, hcz11_1, hcz11_2, hcz11_3⟩ := cZ4 BK411; obtain ⟨hfz11_0, hfz11_1, hfz11_2, hfz11_3⟩ := dZ4 BK411) | (go_at_call 38; (with_reducible refine (mosaicref09_Sized.calls k _ _ l1 t413 _ ?side1 ?side2 A8.out).mono ?_); (case side1 => repeat (first | exact (Kd.C_below HR1.out HB.out) | (with_reducible refine Kd.C_alloc ?_ _) | (with_reducible refine Kd.C_drewN ?_ _) | (with_reducible refine Kd.C_drew ?_))); (case side2 => exact HC1.out); rintro e w' ⟨rfl, ⟨nd, rfl⟩⟩))
    go_meet
    case rel => exact ⟨_, (!t413), zF, H', ⟨by first | omega | exact Nat.le_refl _⟩, ⟨zk BK411⟩, ⟨zB⟩⟩
   ·
    rw [if_neg c7] at H
    have c7b0 : ((l1.length : Int) == (wrap64 (a0_1 + a0_2))) = false := beq_eq_false_iff_ne.mpr c7
    have c7b1 : ((l1.length : Int) != (wrap64 (a0_1 + a0_2))) = true := bne_iff_ne.mpr c7
    (first | rw [c7b0] | (simp only [i64_w, i32_w]; rw [c7b0]) | skip)
    have H' := Aside0.mk H
    clear H; obtain ⟨hcz12_0, hcz12_1, hcz12_2, hcz12_3⟩ := cZ4 BK411
    obtain ⟨hfz12_0, hfz12_1, hfz12_2, hfz12_3⟩ := dZ4 BK411; go_wp2_with (first | ((with_reducible refine gate_callee (f := 10) rfl ?_); refine goesL_ (some 8) rfl rfl Tryz.func10 (by kernel_rfl) rfl #[.agg #[.int .i64 a0_0, .int .i64 a0_1, .int .i64 a0_2, .int .i64 a0_3]] rfl zM ?_; (with_reducible refine (mosaicref09_Check.calls a0_0 a0_1 a0_2 a0_3 true _ A5.out).mono ?_); rintro e w13 ⟨rfl, hb⟩; refine ⟨_, rfl, ?_⟩; replace BK411 := Aside0.mk (blk_below (zk BK411) hb); replace HB := Aside0.mk (below_step zB hb); (try clear hb); (try clear hb2); (try clear hk); (try clear hi); obtain ⟨hcz14_0, hcz14_1, hcz14_2, hcz14_3⟩ := cZ4 BK411; obtain ⟨hfz14_0, hfz14_1, hfz14_2, hfz14_3⟩ := dZ4 BK411))
    go_meet
    case rel => exact ⟨_, (true), zF, H', ⟨by first | omega | exact Nat.le_refl _⟩, ⟨zk BK411⟩, ⟨zB⟩⟩
  ·
   replace c6 := Bool.eq_false_iff.mpr c6
   subst c6
   have H1 : (mosaicref09_Holds.j0 k l1 true a0_0 a0_1 a0_2 a0_3) = some r := by rw [if_neg (show ¬ (false = true) by decide)] at H; exact H
   clear H; have H := H1; clear H1; have H' := Aside0.mk H
   clear H; obtain ⟨hcz15_0, hcz15_1, hcz15_2, hcz15_3⟩ := cZ4 BK411
   obtain ⟨hfz15_0, hfz15_1, hfz15_2, hfz15_3⟩ := dZ4 BK411; go_wp2_with (first | ((with_reducible refine gate_callee (f := 10) rfl ?_); refine goesL_ (some 8) rfl rfl Tryz.func10 (by kernel_rfl) rfl #[.agg #[.int .i64 a0_0, .int .i64 a0_1, .int .i64 a0_2, .int .i64 a0_3]] rfl zM ?_; (with_reducible refine (mosaicref09_Check.calls a0_0 a0_1 a0_2 a0_3 false _ A5.out).mono ?_); rintro e w16 ⟨rfl, hb⟩; refine ⟨_, rfl, ?_⟩; replace BK411 := Aside0.mk (blk_below (zk BK411) hb); replace HB := Aside0.mk (below_step zB hb); (try clear hb); (try clear hb2); (try clear hk); (try clear hi)))
   go_meet
   case rel => exact ⟨_, (true), zF, H', ⟨by first | omega | exact Nat.le_refl _⟩, ⟨zk BK411⟩, ⟨zB⟩⟩
 case rest =>
  clear HC3; (try clear c1); (try clear c2); (try clear p2); (try clear c6); (try clear p6); (try clear c7); (try clear c7b0); (try clear c7b1); (try clear c10); (try clear hcz11_0); (try clear hcz11_1); (try clear hcz11_2); (try clear hcz11_3); (try clear hcz12_0); (try clear hcz12_1); (try clear hcz12_2); (try clear hcz12_3); (try clear hcz14_0); (try clear hcz14_1); (try clear hcz14_2); (try clear hcz14_3); (try clear hcz15_0); (try clear hcz15_1); (try clear hcz15_2); (try clear hcz15_3); (try clear hcz9_0); (try clear hcz9_1); (try clear hcz9_2); (try clear hcz9_3); (try clear hfz11_0); (try clear hfz11_1); (try clear hfz11_2); (try clear hfz11_3); (try clear hfz12_0); (try clear hfz12_1); (try clear hfz12_2); (try clear hfz12_3); (try clear hfz14_0); (try clear hfz14_1); (try clear hfz14_2); (try clear hfz14_3); (try clear hfz15_0); (try clear hfz15_1); (try clear hfz15_2); (try clear hfz15_3); (try clear hfz9_0); (try clear hfz9_1); (try clear hfz9_2); (try clear hfz9_3); obtain ⟨kq, x24_2, rfl, HA, HJ2, BK411, HB⟩ := hcut
  cases kq with
  | zero => exact absurd HA.out (by simp [mosaicref09_Holds.j0])
  | succ kj2 =>
   have H := HA.out; clear HA; simp only [mosaicref09_Holds.j0] at H
   by_cases c17 : x24_2 = true
   ·
    subst c17
    have H1 : (some false) = some r := by rw [if_pos rfl] at H; exact H
    clear H; have H := H1; clear H1; obtain rfl := Option.some.inj H
    go_wp2
    go_ret
    exact ⟨zE, zB⟩
   ·
    replace c17 := Bool.eq_false_iff.mpr c17
    subst c17
    have H1 : ((mosaicref09_Rules.f kj2 a0_0 a0_1 a0_2 a0_3).bind fun t414 => (mosaicref09_Holds.l0 kj2 l1 t414 0)) = some r := by rw [if_neg (show ¬ (false = true) by decide)] at H; exact H
    clear H; have H := H1; clear H1; replace H := Option.bind_eq_some_iff.mp H
    obtain ⟨t414, A180, H⟩ := H
    replace H : (mosaicref09_Holds.l0 kj2 l1 t414 0) = some r := H
    have A18 := Aside0.mk A180
    clear A180; have H' := Aside0.mk H
    clear H; obtain ⟨hcz19_0, hcz19_1, hcz19_2, hcz19_3⟩ := cZ4 BK411
    obtain ⟨hfz19_0, hfz19_1, hfz19_2, hfz19_3⟩ := dZ4 BK411; go_wp2_with (first | ((with_reducible refine gate_callee (f := 17) rfl ?_); refine goesL_ (some 26) rfl rfl Tryz.func17 (by kernel_rfl) rfl #[.agg #[.int .i64 a0_0, .int .i64 a0_1, .int .i64 a0_2, .int .i64 a0_3]] rfl zM ?_; (with_reducible refine (mosaicref09_Rules.calls kj2 a0_0 a0_1 a0_2 a0_3 t414 _ A18.out).mono ?_); rintro e w20 ⟨v415, rfl, ho0, hb⟩; refine ⟨_, rfl, ?_⟩; have HO416 := Aside0.mk (Kd.S_lower ho0 (below_size zB)); replace BK411 := Aside0.mk (blk_below (zk BK411) hb); replace HB := Aside0.mk (below_step zB hb); (try clear hb); (try clear hb2); (try clear hk); (try clear hi); (try clear ho0)))
    go_loopg [6] kj2 (fun kq v6 w' => ∃ (x6_2 : Int), v6 = .int .i64 x6_2 ∧ Aside0 (mosaicref09_Holds.l0 kq l1 t414 x6_2 = some r) ∧ Aside0 (kq ≤ kj2) ∧ Aside0 (Kd.S (Kd.slice 3 (Kd.int .i64)) 26 w' w.heap.size (fun _ => True) v415 t414) ∧ Aside0 (w'.heap[gb411]? = some (.cells #[.int .i64 a0_0, .int .i64 a0_1, .int .i64 a0_2, .int .i64 a0_3] 24 (0, 0))) ∧ Aside0 (Below w.heap.size w w'))
    case atStart => exact ⟨(0), zF, H', ⟨Nat.le_refl _⟩, ⟨zS HO416⟩, ⟨zk BK411⟩, ⟨zB⟩⟩
    case round =>
     clear H'
     (try clear c1); (try clear c2); (try clear p2); (try clear c6); (try clear p6); (try clear c7); (try clear c7b0); (try clear c7b1); (try clear c10); (try clear c17); (try clear hcz11_0); (try clear hcz11_1); (try clear hcz11_2); (try clear hcz11_3); (try clear hcz12_0); (try clear hcz12_1); (try clear hcz12_2); (try clear hcz12_3); (try clear hcz14_0); (try clear hcz14_1); (try clear hcz14_2); (try clear hcz14_3); (try clear hcz15_0); (try clear hcz15_1); (try clear hcz15_2); (try clear hcz15_3); (try clear hcz19_0); (try clear hcz19_1); (try clear hcz19_2); (try clear hcz19_3); (try clear hcz9_0); (try clear hcz9_1); (try clear hcz9_2); (try clear hcz9_3); (try clear hfz11_0); (try clear hfz11_1); (try clear hfz11_2); (try clear hfz11_3); (try clear hfz12_0); (try clear hfz12_1); (try clear hfz12_2); (try clear hfz12_3); (try clear hfz14_0); (try clear hfz14_1); (try clear hfz14_2); (try clear hfz14_3); (try clear hfz15_0); (try clear hfz15_1); (try clear hfz15_2); (try clear hfz15_3); (try clear hfz19_0); (try clear hfz19_1); (try clear hfz19_2); (try clear hfz19_3); (try clear hfz9_0); (try clear hfz9_1); (try clear hfz9_2); (try clear hfz9_3); (try clear p2); (try clear p6); obtain ⟨x6_2, rfl, HA, HK2, HO_5, BK411, HB⟩ := hrel
     cases gk with
     | zero => exact absurd HA.out (by simp [mosaicref09_Holds.l0])
     | succ k2 =>
      have H := HA.out; clear HA; simp only [mosaicref09_Holds.l0] at H
      by_cases c21 : x6_2 < (t414.length : Int)
      ·
       rw [if_pos c21] at H
       have c21b0 : decide (x6_2 < (t414.length : Int)) = true := decide_eq_true c21
       clear c21; by_cases c22 : 0 ≤ x6_2
       ·
        rw [if_pos c22] at H
        have c22b0 : decide (0 ≤ x6_2) = true := decide_eq_true c22
        clear c22; by_cases c23 : 0 < (l1.length : Int)
        ·
         rw [if_pos c23] at H
         have c23b0 : decide (0 < (l1.length : Int)) = true := decide_eq_true c23
         have c23b1 : decide (0 < l1.length) = true := decide_eq_true (by omega)
         have c23b2 : (0 < l1.length) := by omega
         clear c23; replace H := Option.bind_eq_some_iff.mp H
         obtain ⟨t419, A240, H⟩ := H
         replace H : ((mosaicref07_Zero.f k2 ((rdOf ByteArray.empty l1 0).size : Int)).bind fun t421 => (if t419.toList = t421.toList then (mosaicref09_Holds.l0 k2 l1 t414 (wrap64 (x6_2 + 1))) else (some false))) = some r := H
         have A24 := Aside0.mk A240
         clear A240; replace H := Option.bind_eq_some_iff.mp H
         obtain ⟨t421, A250, H⟩ := H
         replace H : (if t419.toList = t421.toList then (mosaicref09_Holds.l0 k2 l1 t414 (wrap64 (x6_2 + 1))) else (some false)) = some r := H
         have A25 := Aside0.mk A250
         clear A250; by_cases c26 : t419.toList = t421.toList
         ·
          rw [if_pos c26] at H
          have c26b0 : (t419.toList == t421.toList) = true := beq_iff_eq.mpr c26
          have c26b1 : (t419.toList != t421.toList) = false := bne_eq_false_iff_eq.mpr c26
          clear c26; have H' := Aside0.mk H
          clear H; obtain ⟨Ao27, co27, eo27⟩ := Kd.S_slice HO_5.out
          subst eo27
          try go_wp2
          replace HO_5 := Aside0.mk (Kd.S_drew HO_5.out)
          replace BK411 := Aside0.mk (blk_drew BK411.out)
          replace HB := Aside0.mk (below_drew1 HB.out); have p417 : 0 ≤ (x6_2 : Int) := of_decide_eq_true zA
          have q417 : x6_2 < (t414.length : Int) := of_decide_eq_true zA
          obtain ⟨ad417, A417_0, c417_0, e417, hx417_0, hl417_0, hi417_0⟩ := at_L3 (Kd.S_reads' HO_5.out).2.2 x6_2 p417 q417
          cases e417
          obtain ⟨ce417, hce417, hMe417, hcc417⟩ := Kd.S_get HO_5.out [] x6_2 p417 (by first | exact q417 | exact of_decide_eq_true zA | (have e_ := (Kd.S_reads' HO_5.out).1; omega))
          obtain ⟨ve417_0, rfl, ge417_0⟩ := hMe417
          have hv417_0 := hcc417 0 _ rfl
          rw [Nat.add_zero, show ((Kd.slice 3 (Kd.int .i64))).sz = 1 from rfl, Nat.mul_one] at hv417_0
          replace hv417_0 := Option.some.inj (hv417_0.symm.trans hx417_0)
          rw [hv417_0] at ge417_0
          have HL417_0 := Aside0.mk (show Kd.R (Kd.int .i64) 3 _ _ _ _ (rd_L3 t414 x6_2) from ge417_0)
          clear hv417_0 ge417_0 hcc417 hce417; have HR417_0 := Aside0.mk hi417_0
          have HC417_0 := Aside0.mk hl417_0
          clear hi417_0 hl417_0; replace p417 := eq_true p417
          replace q417 := eq_true q417
          have p418 : 0 ≤ (0 : Int) := (by omega)
          have q418 : 0 < (l1.length : Int) := of_decide_eq_true zA
          obtain ⟨ad418, e418, hx418_0⟩ := Kd.at_string HR1.out 0 p418 q418
          have hw418_0 := hx418_0; (try rw [show ((0 : Int)).toNat = 0 from rfl] at hw418_0)
          (try rw [show 0 * 1 = 0 from rfl] at hw418_0)
          (try rw [Addr.add_zero'] at hw418_0)
          cases e418
          have qi418 : (0 < l1.length) = True := eq_true (by omega)
          (try rw [show ((0 : Int)).toNat = 0 from rfl] at hx418_0)
          (try rw [Addr.add_zero'] at hx418_0)
          (try replace hx418_0 := (HB.out.cell (World.block_lt_of_cell? w _ hx418_0)).trans hx418_0)
          replace p418 := eq_true p418
          replace q418 := eq_true q418
          have p420 : 0 ≤ (0 : Int) := (by omega)
          have q420 : 0 < (l1.length : Int) := of_decide_eq_true zA
          obtain ⟨ad420, e420, hx420_0⟩ := Kd.at_string HR1.out 0 p420 q420
          have hw420_0 := hx420_0; (try rw [show ((0 : Int)).toNat = 0 from rfl] at hw420_0)
          (try rw [show 0 * 1 = 0 from rfl] at hw420_0)
          (try rw [Addr.add_zero'] at hw420_0)
          obtain rfl : ad418 = ad420 := (by injection e420)
          have qi420 : (0 < l1.length) = True := eq_true (by omega)
          (try rw [show ((0 : Int)).toNat = 0 from rfl] at hx420_0)
          (try rw [Addr.add_zero'] at hx420_0)
          (try replace hx420_0 := (HB.out.cell (World.block_lt_of_cell? w _ hx420_0)).trans hx420_0)
          replace p420 := eq_true p420
          replace q420 := eq_true q420
          refine start_ (n := 16) (S := fun w' => w'.cell? (ad417.add (x6_2).toNat) = some (.slice A417_0 (rd_L3 t414 x6_2).length c417_0) ∧ w'.cell? ad418 = some (.string (rdOf ByteArray.empty l1 0)) ∧ w'.cell? ad418 = some (.string (rdOf ByteArray.empty l1 0))) (ds := []) (mkB23 16 0) (by kernel_rfl) rfl rfl ⟨hx417_0, (by first | exact (HB.out.cell (World.block_lt_of_cell? w _ hw418_0)).trans hw418_0 | exact hw418_0), (by first | exact (HB.out.cell (World.block_lt_of_cell? w _ hw420_0)).trans hw420_0 | exact hw420_0)⟩ (fun hHeld => ?_); refine with_tabW mosaicref09_Holds.tab7 mosaicref09_Holds.bits7 (fun HT_ HW_ => ?_)
          generalize wr.drew = w28 at HO_5 BK411 HB HL417_0 HR417_0 hx417_0 hx418_0 hx420_0 hHeld ⊢
          refine pX 0 (some 33) (mkB23 16 1) ?_
          refine pX 1 (some 34) (mkB23 16 3) ?_
          refine pX 2 (some 35) (mkB23 16 7) ?_
          refine pX 3 (some 36) (mkB23 16 15) ?_
          refine pX 5 (some 38) (mkB23 16 47) ?_
          refine pX 6 (some 39) (mkB23 16 111) ?_
          refine pX 10 (some 43) (mkB23 16 1135) ?_
          refine pX 11 (some 44) (mkB23 16 3183) ?_
          refine tT (v := ?_) (a' := ?_) HT_ HW_ hHeld 4 (some 37) (mkB23 16 3199) ?_ ?_ ?_; rotate_left 2; (rintro w' ⟨s0, s1, s2⟩; go_simp; with_reducible rfl); (simp only [Act.put, qA, qB, qC, i64_w, i32_w]; rfl)
          refine tT (v := ?_) (a' := ?_) HT_ HW_ hHeld 7 (some 40) (mkB23 16 3327) ?_ ?_ ?_; rotate_left 2; (rintro w' ⟨s0, s1, s2⟩; go_simp; with_reducible rfl); (simp only [Act.put, qA, qB, qC, i64_w, i32_w]; rfl)
          refine pX 8 (some 41) (mkB23 16 3583) ?_
          refine tT (v := ?_) (a' := ?_) HT_ HW_ hHeld 12 (some 45) (mkB23 16 7679) ?_ ?_ ?_; rotate_left 2; (rintro w' ⟨s0, s1, s2⟩; go_simp; with_reducible rfl); (simp only [Act.put, qA, qB, qC, i64_w, i32_w]; rfl)
          refine pX 13 (some 46) (mkB23 16 15871) ?_
          refine one_ (i := 9) (N := some 42) (mkB23 16 16383) rfl rfl (one_of HT_.out (by kernel_rfl)) (by decide) (fun K hK => ?_)
          refine goes_ Tryz.func39 (by kernel_rfl) rfl #[.slice (some ad418) l1.length c1, .slice A417_0 (rd_L3 t414 x6_2).length c417_0, .int .i64 ((rdOf ByteArray.empty l1 0).size : Int)] (by rfl) rfl rfl zM ?_
          with_reducible refine (mosaicref09_Sum.calls k2 _ _ l1 _ _ (rd_L3 t414 x6_2) ((rdOf ByteArray.empty l1 0).size : Int) t419 _ ?side1 ?side2 ?side3 ?side4 A24.out).mono ?_
          (case side1 => repeat (first | exact (Kd.C_below HR1.out HB.out) | (with_reducible refine Kd.C_alloc ?_ _) | (with_reducible refine Kd.C_drewN ?_ _) | (with_reducible refine Kd.C_drew ?_)))
          (case side2 => exact HC1.out)
          (case side3 => repeat (first | exact (by repeat (first | (with_reducible exact HR417_0.out) | (with_reducible refine Kd.C_alloc ?_ _) | (with_reducible refine Kd.C_drewN ?_ _) | (with_reducible refine Kd.C_drew ?_) | exact HR417_0.out)) | (with_reducible refine Kd.C_alloc ?_ _) | (with_reducible refine Kd.C_drewN ?_ _) | (with_reducible refine Kd.C_drew ?_)))
          (case side4 => exact HC417_0.out)
          rintro e w29 ⟨rfl, hb⟩; have HS0_ := (hb.cell (World.block_lt_of_cell? _ _ (hHeld.1))).trans (hHeld.1)
          refine ⟨_, rfl, ?_⟩; replace HO_5 := Aside0.mk (Kd.S_below (zS HO_5) hb)
          replace HL417_0 := Aside0.mk (Kd.R_below (zR HL417_0) hb)
          replace BK411 := Aside0.mk (blk_below (zk BK411) hb)
          replace HR417_0 := Aside0.mk (Kd.C_below (by repeat (first | (with_reducible exact HR417_0.out) | (with_reducible refine Kd.C_alloc ?_ _) | (with_reducible refine Kd.C_drewN ?_ _) | (with_reducible refine Kd.C_drew ?_) | exact HR417_0.out)) hb)
          replace HB := Aside0.mk (below_step zB hb); (try clear hb); (try clear hb2); (try clear hk); (try clear hi); refine hK.out _ _ ⟨HS0_, (by first | exact (HB.out.cell (World.block_lt_of_cell? w _ hw418_0)).trans hw418_0 | exact hw418_0), (by first | exact (HB.out.cell (World.block_lt_of_cell? w _ hw420_0)).trans hw420_0 | exact hw420_0)⟩ (fun hHeld => ?_)
          clear hK K; refine norm_ (a' := ?_) ?_ ?_
          rotate_left
          ·
           show Act.put _ (some 42) _ = _
           simp only [Act.put, List.setIfInBounds_toArray, List.set_cons_zero, List.set_cons_succ, i64_w, i32_w]; rfl
          refine one_ (i := 14) (N := some 47) (mkB23 16 32767) rfl rfl (one_of HT_.out (by kernel_rfl)) (by decide) (fun K hK => ?_)
          refine goes_ Tryz.func43 (by kernel_rfl) rfl #[.int .i64 ((rdOf ByteArray.empty l1 0).size : Int)] (by rfl) rfl rfl zM ?_
          with_reducible refine (mosaicref07_Zero.calls k2 ((rdOf ByteArray.empty l1 0).size : Int) t421 _ A25.out).mono ?_
          rintro e w30 ⟨rfl, hb⟩; have HS0_ := (hb.cell (World.block_lt_of_cell? _ _ (hHeld.1))).trans (hHeld.1)
          refine ⟨_, rfl, ?_⟩; replace HO_5 := Aside0.mk (Kd.S_below (zS HO_5) hb)
          replace HL417_0 := Aside0.mk (Kd.R_below (zR HL417_0) hb)
          replace BK411 := Aside0.mk (blk_below (zk BK411) hb)
          replace HR417_0 := Aside0.mk (Kd.C_below (by repeat (first | (with_reducible exact HR417_0.out) | (with_reducible refine Kd.C_alloc ?_ _) | (with_reducible refine Kd.C_drewN ?_ _) | (with_reducible refine Kd.C_drew ?_) | exact HR417_0.out)) hb)
          replace HB := Aside0.mk (below_step zB hb); (try clear hb); (try clear hb2); (try clear hk); (try clear hi); refine hK.out _ _ ⟨HS0_, (by first | exact (HB.out.cell (World.block_lt_of_cell? w _ hw418_0)).trans hw418_0 | exact hw418_0), (by first | exact (HB.out.cell (World.block_lt_of_cell? w _ hw420_0)).trans hw420_0 | exact hw420_0)⟩ (fun hHeld => ?_)
          clear hK K; refine norm_ (a' := ?_) ?_ ?_
          rotate_left
          ·
           show Act.put _ (some 47) _ = _
           simp only [Act.put, List.setIfInBounds_toArray, List.set_cons_zero, List.set_cons_succ, i64_w, i32_w]; rfl
          refine pX 15 (some 48) (mkB23 16 65535) ?_
          refine done_ (done_of HT_.out (by kernel_rfl)) ?_
          try go_wp2
          go_roundg k2
          case measure => have := HJ2.out; have := HK2.out; omega
          case rel => exact ⟨(wrap64 (x6_2 + 1)), zF, H', ⟨by have := HJ2.out; have := HK2.out; omega⟩, ⟨zS HO_5⟩, ⟨zk BK411⟩, ⟨zB⟩⟩
         ·
          rw [if_neg c26] at H
          have c26b0 : (t419.toList == t421.toList) = false := beq_eq_false_iff_ne.mpr c26
          have c26b1 : (t419.toList != t421.toList) = true := bne_iff_ne.mpr c26
          obtain rfl := Option.some.inj H
          obtain ⟨Ao31, co31, eo31⟩ := Kd.S_slice HO_5.out
          subst eo31
          try go_wp2
          replace HO_5 := Aside0.mk (Kd.S_drew HO_5.out)
          replace BK411 := Aside0.mk (blk_drew BK411.out)
          replace HB := Aside0.mk (below_drew1 HB.out); have p417 : 0 ≤ (x6_2 : Int) := of_decide_eq_true zA
          have q417 : x6_2 < (t414.length : Int) := of_decide_eq_true zA
          obtain ⟨ad417, A417_0, c417_0, e417, hx417_0, hl417_0, hi417_0⟩ := at_L3 (Kd.S_reads' HO_5.out).2.2 x6_2 p417 q417
          cases e417
          obtain ⟨ce417, hce417, hMe417, hcc417⟩ := Kd.S_get HO_5.out [] x6_2 p417 (by first | exact q417 | exact of_decide_eq_true zA | (have e_ := (Kd.S_reads' HO_5.out).1; omega))
          obtain ⟨ve417_0, rfl, ge417_0⟩ := hMe417
          have hv417_0 := hcc417 0 _ rfl
          rw [Nat.add_zero, show ((Kd.slice 3 (Kd.int .i64))).sz = 1 from rfl, Nat.mul_one] at hv417_0
          replace hv417_0 := Option.some.inj (hv417_0.symm.trans hx417_0)
          rw [hv417_0] at ge417_0
          have HL417_0 := Aside0.mk (show Kd.R (Kd.int .i64) 3 _ _ _ _ (rd_L3 t414 x6_2) from ge417_0)
          clear hv417_0 ge417_0 hcc417 hce417; have HR417_0 := Aside0.mk hi417_0
          have HC417_0 := Aside0.mk hl417_0
          clear hi417_0 hl417_0; replace p417 := eq_true p417
          replace q417 := eq_true q417
          have p418 : 0 ≤ (0 : Int) := (by omega)
          have q418 : 0 < (l1.length : Int) := of_decide_eq_true zA
          obtain ⟨ad418, e418, hx418_0⟩ := Kd.at_string HR1.out 0 p418 q418
          have hw418_0 := hx418_0; (try rw [show ((0 : Int)).toNat = 0 from rfl] at hw418_0)
          (try rw [show 0 * 1 = 0 from rfl] at hw418_0)
          (try rw [Addr.add_zero'] at hw418_0)
          cases e418
          have qi418 : (0 < l1.length) = True := eq_true (by omega)
          (try rw [show ((0 : Int)).toNat = 0 from rfl] at hx418_0)
          (try rw [Addr.add_zero'] at hx418_0)
          (try replace hx418_0 := (HB.out.cell (World.block_lt_of_cell? w _ hx418_0)).trans hx418_0)
          replace p418 := eq_true p418
          replace q418 := eq_true q418
          have p420 : 0 ≤ (0 : Int) := (by omega)
          have q420 : 0 < (l1.length : Int) := of_decide_eq_true zA
          obtain ⟨ad420, e420, hx420_0⟩ := Kd.at_string HR1.out 0 p420 q420
          have hw420_0 := hx420_0; (try rw [show ((0 : Int)).toNat = 0 from rfl] at hw420_0)
          (try rw [show 0 * 1 = 0 from rfl] at hw420_0)
          (try rw [Addr.add_zero'] at hw420_0)
          obtain rfl : ad418 = ad420 := (by injection e420)
          have qi420 : (0 < l1.length) = True := eq_true (by omega)
          (try rw [show ((0 : Int)).toNat = 0 from rfl] at hx420_0)
          (try rw [Addr.add_zero'] at hx420_0)
          (try replace hx420_0 := (HB.out.cell (World.block_lt_of_cell? w _ hx420_0)).trans hx420_0)
          replace p420 := eq_true p420
          replace q420 := eq_true q420
          refine start_ (n := 16) (S := fun w' => w'.cell? (ad417.add (x6_2).toNat) = some (.slice A417_0 (rd_L3 t414 x6_2).length c417_0) ∧ w'.cell? ad418 = some (.string (rdOf ByteArray.empty l1 0)) ∧ w'.cell? ad418 = some (.string (rdOf ByteArray.empty l1 0))) (ds := []) (mkB23 16 0) (by kernel_rfl) rfl rfl ⟨hx417_0, (by first | exact (HB.out.cell (World.block_lt_of_cell? w _ hw418_0)).trans hw418_0 | exact hw418_0), (by first | exact (HB.out.cell (World.block_lt_of_cell? w _ hw420_0)).trans hw420_0 | exact hw420_0)⟩ (fun hHeld => ?_); refine with_tabW mosaicref09_Holds.tab7 mosaicref09_Holds.bits7 (fun HT_ HW_ => ?_)
          generalize wr.drew = w32 at HO_5 BK411 HB HL417_0 HR417_0 hx417_0 hx418_0 hx420_0 hHeld ⊢
          refine pX 0 (some 33) (mkB23 16 1) ?_
          refine pX 1 (some 34) (mkB23 16 3) ?_
          refine pX 2 (some 35) (mkB23 16 7) ?_
          refine pX 3 (some 36) (mkB23 16 15) ?_
          refine pX 5 (some 38) (mkB23 16 47) ?_
          refine pX 6 (some 39) (mkB23 16 111) ?_
          refine pX 10 (some 43) (mkB23 16 1135) ?_
          refine pX 11 (some 44) (mkB23 16 3183) ?_
          refine tT (v := ?_) (a' := ?_) HT_ HW_ hHeld 4 (some 37) (mkB23 16 3199) ?_ ?_ ?_; rotate_left 2; (rintro w' ⟨s0, s1, s2⟩; go_simp; with_reducible rfl); (simp only [Act.put, qA, qB, qC, i64_w, i32_w]; rfl)
          refine tT (v := ?_) (a' := ?_) HT_ HW_ hHeld 7 (some 40) (mkB23 16 3327) ?_ ?_ ?_; rotate_left 2; (rintro w' ⟨s0, s1, s2⟩; go_simp; with_reducible rfl); (simp only [Act.put, qA, qB, qC, i64_w, i32_w]; rfl)
          refine pX 8 (some 41) (mkB23 16 3583) ?_
          refine tT (v := ?_) (a' := ?_) HT_ HW_ hHeld 12 (some 45) (mkB23 16 7679) ?_ ?_ ?_; rotate_left 2; (rintro w' ⟨s0, s1, s2⟩; go_simp; with_reducible rfl); (simp only [Act.put, qA, qB, qC, i64_w, i32_w]; rfl)
          refine pX 13 (some 46) (mkB23 16 15871) ?_
          refine one_ (i := 9) (N := some 42) (mkB23 16 16383) rfl rfl (one_of HT_.out (by kernel_rfl)) (by decide) (fun K hK => ?_)
          refine goes_ Tryz.func39 (by kernel_rfl) rfl #[.slice (some ad418) l1.length c1, .slice A417_0 (rd_L3 t414 x6_2).length c417_0, .int .i64 ((rdOf ByteArray.empty l1 0).size : Int)] (by rfl) rfl rfl zM ?_
          with_reducible refine (mosaicref09_Sum.calls k2 _ _ l1 _ _ (rd_L3 t414 x6_2) ((rdOf ByteArray.empty l1 0).size : Int) t419 _ ?side1 ?side2 ?side3 ?side4 A24.out).mono ?_
          (case side1 => repeat (first | exact (Kd.C_below HR1.out HB.out) | (with_reducible refine Kd.C_alloc ?_ _) | (with_reducible refine Kd.C_drewN ?_ _) | (with_reducible refine Kd.C_drew ?_)))
          (case side2 => exact HC1.out)
          (case side3 => repeat (first | exact (by repeat (first | (with_reducible exact HR417_0.out) | (with_reducible refine Kd.C_alloc ?_ _) | (with_reducible refine Kd.C_drewN ?_ _) | (with_reducible refine Kd.C_drew ?_) | exact HR417_0.out)) | (with_reducible refine Kd.C_alloc ?_ _) | (with_reducible refine Kd.C_drewN ?_ _) | (with_reducible refine Kd.C_drew ?_)))
          (case side4 => exact HC417_0.out)
          rintro e w33 ⟨rfl, hb⟩; have HS0_ := (hb.cell (World.block_lt_of_cell? _ _ (hHeld.1))).trans (hHeld.1)
          refine ⟨_, rfl, ?_⟩; replace HO_5 := Aside0.mk (Kd.S_below (zS HO_5) hb)
          replace HL417_0 := Aside0.mk (Kd.R_below (zR HL417_0) hb)
          replace BK411 := Aside0.mk (blk_below (zk BK411) hb)
          replace HR417_0 := Aside0.mk (Kd.C_below (by repeat (first | (with_reducible exact HR417_0.out) | (with_reducible refine Kd.C_alloc ?_ _) | (with_reducible refine Kd.C_drewN ?_ _) | (with_reducible refine Kd.C_drew ?_) | exact HR417_0.out)) hb)
          replace HB := Aside0.mk (below_step zB hb); (try clear hb); (try clear hb2); (try clear hk); (try clear hi); refine hK.out _ _ ⟨HS0_, (by first | exact (HB.out.cell (World.block_lt_of_cell? w _ hw418_0)).trans hw418_0 | exact hw418_0), (by first | exact (HB.out.cell (World.block_lt_of_cell? w _ hw420_0)).trans hw420_0 | exact hw420_0)⟩ (fun hHeld => ?_)
          clear hK K; refine norm_ (a' := ?_) ?_ ?_
          rotate_left
          ·
           show Act.put _ (some 42) _ = _
           simp only [Act.put, List.setIfInBounds_toArray, List.set_cons_zero, List.set_cons_succ, i64_w, i32_w]; rfl
          refine one_ (i := 14) (N := some 47) (mkB23 16 32767) rfl rfl (one_of HT_.out (by kernel_rfl)) (by decide) (fun K hK => ?_)
          refine goes_ Tryz.func43 (by kernel_rfl) rfl #[.int .i64 ((rdOf ByteArray.empty l1 0).size : Int)] (by rfl) rfl rfl zM ?_
          with_reducible refine (mosaicref07_Zero.calls k2 ((rdOf ByteArray.empty l1 0).size : Int) t421 _ A25.out).mono ?_
          rintro e w34 ⟨rfl, hb⟩; have HS0_ := (hb.cell (World.block_lt_of_cell? _ _ (hHeld.1))).trans (hHeld.1)
          refine ⟨_, rfl, ?_⟩; replace HO_5 := Aside0.mk (Kd.S_below (zS HO_5) hb)
          replace HL417_0 := Aside0.mk (Kd.R_below (zR HL417_0) hb)
          replace BK411 := Aside0.mk (blk_below (zk BK411) hb)
          replace HR417_0 := Aside0.mk (Kd.C_below (by repeat (first | (with_reducible exact HR417_0.out) | (with_reducible refine Kd.C_alloc ?_ _) | (with_reducible refine Kd.C_drewN ?_ _) | (with_reducible refine Kd.C_drew ?_) | exact HR417_0.out)) hb)
          replace HB := Aside0.mk (below_step zB hb); (try clear hb); (try clear hb2); (try clear hk); (try clear hi); refine hK.out _ _ ⟨HS0_, (by first | exact (HB.out.cell (World.block_lt_of_cell? w _ hw418_0)).trans hw418_0 | exact hw418_0), (by first | exact (HB.out.cell (World.block_lt_of_cell? w _ hw420_0)).trans hw420_0 | exact hw420_0)⟩ (fun hHeld => ?_)
          clear hK K; refine norm_ (a' := ?_) ?_ ?_
          rotate_left
          ·
           show Act.put _ (some 47) _ = _
           simp only [Act.put, List.setIfInBounds_toArray, List.set_cons_zero, List.set_cons_succ, i64_w, i32_w]; rfl
          refine pX 15 (some 48) (mkB23 16 65535) ?_
          refine done_ (done_of HT_.out (by kernel_rfl)) ?_
          try go_wp2
          go_ret
          exact ⟨zE, zB⟩
        ·
         rw [if_neg c23] at H
         exact absurd H (by simp)
       ·
        rw [if_neg c22] at H
        exact absurd H (by simp)
      ·
       rw [if_neg c21] at H
       have c21b0 : decide (x6_2 < (t414.length : Int)) = false := decide_eq_false c21
       clear c21; obtain rfl := Option.some.inj H
       obtain ⟨Ao35, co35, eo35⟩ := Kd.S_slice HO_5.out
       subst eo35
       go_wp2
       go_ret
       exact ⟨zE, zB⟩
end Go.Proofs.YtghhmnjkgnoogaaGreat.POuterWholes
