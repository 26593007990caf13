-- Written by this session's own program (wip/tools/mkprint.py) over the kit's printer, with overrides.
import Derived.Test.YtghhmnjkgnoogaaGreatTOuterFillsa
import Derived.Test.YtghhmnjkgnoogaaGreatQOuterFillsx0
import Derived.Test.YtghhmnjkgnoogaaGreatQOuterFillsx7
import Derived.Test.YtghhmnjkgnoogaaGreatQOuterFillsx11
namespace Go.Proofs.YtghhmnjkgnoogaaGreat.POuterFills
open Go.RowKit Go.Mine Go.Proofs.YtghhmnjkgnoogaaGreatW.PrintWords Go.Proofs.YtghhmnjkgnoogaaGreatW.PrintLast Go.Proofs.YtghhmnjkgnoogaaGreatW.PrintMore
attribute [local go_sem] max2_int min2_int max_two min_two max_three min_three max_four min_four   -- for this text's walks alone
set_option linter.unusedVariables false
set_option linter.unusedSimpArgs false
/-! ### mosaicref09_Fill: function 25 -/
mutual
def mosaicref09_Fill.j0 : Nat → List ByteArray → Int → Bool → Int → Int → Int → Int → Option (List ByteArray × Int)
 | 0, _, _, _, _, _, _, _ => none
 | k + 1, x1, x6, x37, x398000, x398001, x398002, x398003 => if x37 = true then (some (([] : List ByteArray), 1)) else (mosaicref09_Fill.l0 k x1 x6 ([] : List ByteArray) 0 x398000 x398001 x398002 x398003)
def mosaicref09_Fill.l0 : Nat → List ByteArray → Int → List ByteArray → Int → Int → Int → Int → Int → Option (List ByteArray × Int)
 | 0, _, _, _, _, _, _, _, _ => none
 | k + 1, x1, x6, x7, x8, x398000, x398001, x398002, x398003 => if x8 < (x1.length : Int) then (if 0 ≤ x8 then (if x7.length < 8796093022208 then (mosaicref09_Fill.l0 k x1 x6 (x7 ++ [rdOf ByteArray.empty x1 x8]) (wrap64 (x8 + 1)) x398000 x398001 x398002 x398003) else (none)) else (none)) else ((mosaicref09_Rules.f k x398000 x398001 x398002 x398003).bind fun t404 => (mosaicref09_Fill.l1 k x1 x6 x7 t404 0))
def mosaicref09_Fill.l1 : Nat → List ByteArray → Int → List ByteArray → List (List Int) → Int → Option (List ByteArray × Int)
 | 0, _, _, _, _, _ => none
 | k + 1, x1, x6, x7, x9, x10 => if x10 < (x1.length : Int) then (mosaicref09_Fill.l2 k x1 x6 x7 x9 x10 0) else (mosaicref09_Fill.l4 k x6 x7 x9 0)
def mosaicref09_Fill.l2 : Nat → List ByteArray → Int → List ByteArray → List (List Int) → Int → Int → Option (List ByteArray × Int)
 | 0, _, _, _, _, _, _ => none
 | k + 1, x1, x6, x7, x9, x10, x11 => if x11 < (x9.length : Int) then (mosaicref09_Fill.l3 k x1 x6 x7 x9 x10 x11 0 0 ([] : List Int) 0) else (mosaicref09_Fill.l1 k x1 x6 x7 x9 (wrap64 (x10 + 1)))
def mosaicref09_Fill.l3 : Nat → List ByteArray → Int → List ByteArray → List (List Int) → Int → Int → Int → Int → List Int → Int → Option (List ByteArray × Int)
 | 0, _, _, _, _, _, _, _, _, _, _ => none
 | k + 1, x1, x6, x7, x9, x10, x11, x12, x13, x14, x15 => if 0 ≤ x11 then (if x11 < (x9.length : Int) then (if x15 < ((rd_L3 x9 x11).length : Int) then (if 0 ≤ x15 then (if 0 ≤ (rd (rd_L3 x9 x11) x15) then (if (rd (rd_L3 x9 x11) x15) < (x7.length : Int) then (if (rdOf ByteArray.empty x7 (rd (rd_L3 x9 x11) x15)).toList = ([] : List UInt8) then (mosaicref09_Fill.l3 k x1 x6 x7 x9 x10 x11 (wrap64 (x12 + 1)) (rd (rd_L3 x9 x11) x15) x14 (wrap64 (x15 + 1))) else (if x14.length < 17592186044416 then (mosaicref09_Fill.l3 k x1 x6 x7 x9 x10 x11 x12 x13 (x14 ++ [rd (rd_L3 x9 x11) x15]) (wrap64 (x15 + 1))) else (none))) else (none)) else (none)) else (none)) else (if x12 = 1 then ((mosaicref09_Sum.f k x7 x14 x6).bind fun t418 => (if 0 ≤ x13 then (if x13 < (x7.length : Int) then (mosaicref09_Fill.l2 k x1 x6 (x7.set (x13 : Int).toNat t418) x9 x10 (wrap64 (x11 + 1))) else (none)) else (none))) else (mosaicref09_Fill.l2 k x1 x6 x7 x9 x10 (wrap64 (x11 + 1))))) else (none)) else (none)
def mosaicref09_Fill.l4 : Nat → Int → List ByteArray → List (List Int) → Int → Option (List ByteArray × Int)
 | 0, _, _, _, _ => none
 | k + 1, x6, x7, x9, x16 => if x16 < (x9.length : Int) then (mosaicref09_Fill.l5 k x6 x7 x9 x16 true 0) else (some (x7, 0))
def mosaicref09_Fill.l5 : Nat → Int → List ByteArray → List (List Int) → Int → Bool → Int → Option (List ByteArray × Int)
 | 0, _, _, _, _, _, _ => none
 | k + 1, x6, x7, x9, x16, x17, x18 => if 0 ≤ x16 then (if x16 < (x9.length : Int) then (if x18 < ((rd_L3 x9 x16).length : Int) then (if x17 = true then (if 0 ≤ x18 then (if 0 ≤ (rd (rd_L3 x9 x16) x18) then (if (rd (rd_L3 x9 x16) x18) < (x7.length : Int) then (mosaicref09_Fill.l5 k x6 x7 x9 x16 ((rdOf ByteArray.empty x7 (rd (rd_L3 x9 x16) x18)).toList != ([] : List UInt8)) (wrap64 (x18 + 1))) else (none)) else (none)) else (none)) else (mosaicref09_Fill.l5 k x6 x7 x9 x16 false (wrap64 (x18 + 1)))) else (if x17 = true then ((mosaicref09_Sum.f k x7 (rd_L3 x9 x16) x6).bind fun t425 => ((mosaicref07_Zero.f k x6).bind fun t426 => (if t425.toList = t426.toList then (mosaicref09_Fill.l4 k x6 x7 x9 (wrap64 (x16 + 1))) else (some (([] : List ByteArray), 9))))) else (mosaicref09_Fill.l4 k x6 x7 x9 (wrap64 (x16 + 1))))) else (none)) else (none)
end
def mosaicref09_Fill.f (k : Nat) (a0_0 : Int) (a0_1 : Int) (a0_2 : Int) (a0_3 : Int) (l1 : List ByteArray) : Option (List ByteArray × Int) := (mosaicref09_size.f k l1).bind fun t398 => ((mosaicref09_Check.f a0_0 a0_1 a0_2 a0_3).bind fun t399 => (if t399 = true then (if (l1.length : Int) = (wrap64 (a0_1 + a0_2)) then (mosaicref09_Fill.j0 k l1 t398 (t398 == 0) a0_0 a0_1 a0_2 a0_3) else (mosaicref09_Fill.j0 k l1 t398 true a0_0 a0_1 a0_2 a0_3)) else (mosaicref09_Fill.j0 k l1 t398 true a0_0 a0_1 a0_2 a0_3)))
theorem mosaicref09_Fill.mono_l : ∀ k, (∀ y0 y1 y2 y3 y4 y5 y6, LeO (mosaicref09_Fill.j0 k y0 y1 y2 y3 y4 y5 y6) (mosaicref09_Fill.j0 (k + 1) y0 y1 y2 y3 y4 y5 y6)) ∧ (∀ y0 y1 y2 y3 y4 y5 y6 y7, LeO (mosaicref09_Fill.l0 k y0 y1 y2 y3 y4 y5 y6 y7) (mosaicref09_Fill.l0 (k + 1) y0 y1 y2 y3 y4 y5 y6 y7)) ∧ (∀ y0 y1 y2 y3 y4, LeO (mosaicref09_Fill.l1 k y0 y1 y2 y3 y4) (mosaicref09_Fill.l1 (k + 1) y0 y1 y2 y3 y4)) ∧ (∀ y0 y1 y2 y3 y4 y5, LeO (mosaicref09_Fill.l2 k y0 y1 y2 y3 y4 y5) (mosaicref09_Fill.l2 (k + 1) y0 y1 y2 y3 y4 y5)) ∧ (∀ y0 y1 y2 y3 y4 y5 y6 y7 y8 y9, LeO (mosaicref09_Fill.l3 k y0 y1 y2 y3 y4 y5 y6 y7 y8 y9) (mosaicref09_Fill.l3 (k + 1) y0 y1 y2 y3 y4 y5 y6 y7 y8 y9)) ∧ (∀ y0 y1 y2 y3, LeO (mosaicref09_Fill.l4 k y0 y1 y2 y3) (mosaicref09_Fill.l4 (k + 1) y0 y1 y2 y3)) ∧ (∀ y0 y1 y2 y3 y4 y5, LeO (mosaicref09_Fill.l5 k y0 y1 y2 y3 y4 y5) (mosaicref09_Fill.l5 (k + 1) y0 y1 y2 y3 y4 y5))
 | 0 => ⟨fun _ _ _ _ _ _ _ r h => by simp [mosaicref09_Fill.j0] at h, fun _ _ _ _ _ _ _ _ r h => by simp [mosaicref09_Fill.l0] at h, fun _ _ _ _ _ r h => by simp [mosaicref09_Fill.l1] at h, fun _ _ _ _ _ _ r h => by simp [mosaicref09_Fill.l2] at h, fun _ _ _ _ _ _ _ _ _ _ r h => by simp [mosaicref09_Fill.l3] at h, fun _ _ _ _ r h => by simp [mosaicref09_Fill.l4] at h, fun _ _ _ _ _ _ r h => by simp [mosaicref09_Fill.l5] at h⟩
 | k + 1 => by
  obtain ⟨ih0, ih1, ih2, ih3, ih4, ih5, ih6⟩ := mosaicref09_Fill.mono_l k
  refine ⟨?_, ?_, ?_, ?_, ?_, ?_, ?_⟩ <;> intros <;> (first | unfold mosaicref09_Fill.j0 | unfold mosaicref09_Fill.l0 | unfold mosaicref09_Fill.l1 | unfold mosaicref09_Fill.l2 | unfold mosaicref09_Fill.l3 | unfold mosaicref09_Fill.l4 | unfold mosaicref09_Fill.l5)
  all_goals repeat' first | (with_reducible first | apply ih0 | apply ih1 | apply ih2 | apply ih3 | apply ih4 | apply ih5 | apply ih6 | apply mosaicref07_Zero.mono | apply mosaicref09_Rules.mono | apply mosaicref09_Sum.mono | apply mosaicref09_size.mono | exact LeO.refl _ | exact LeO.none _ | refine LeO.ite ?_ ?_ | refine LeO.bind ?_ (fun _ => ?_)) | apply ih0 | apply ih1 | apply ih2 | apply ih3 | apply ih4 | apply ih5 | apply ih6 | apply mosaicref07_Zero.mono | apply mosaicref09_Rules.mono | apply mosaicref09_Sum.mono | apply mosaicref09_size.mono | exact LeO.none _ | refine LeO.ite ?_ ?_ | refine LeO.bind ?_ (fun _ => ?_)
theorem mosaicref09_Fill.mono : ∀ a0 a1 a2 a3 a4 k, LeO (mosaicref09_Fill.f k a0 a1 a2 a3 a4) (mosaicref09_Fill.f (k + 1) a0 a1 a2 a3 a4) := by
 intro a0 a1 a2 a3 a4 k
 obtain ⟨ih0, ih1, ih2, ih3, ih4, ih5, ih6⟩ := mosaicref09_Fill.mono_l k
 unfold mosaicref09_Fill.f
 repeat' first | (with_reducible first | apply ih0 | apply ih1 | apply ih2 | apply ih3 | apply ih4 | apply ih5 | apply ih6 | apply mosaicref07_Zero.mono | apply mosaicref09_Rules.mono | apply mosaicref09_Sum.mono | apply mosaicref09_size.mono | exact LeO.refl _ | exact LeO.none _ | refine LeO.ite ?_ ?_ | refine LeO.bind ?_ (fun _ => ?_)) | apply ih0 | apply ih1 | apply ih2 | apply ih3 | apply ih4 | apply ih5 | apply ih6 | apply mosaicref07_Zero.mono | apply mosaicref09_Rules.mono | apply mosaicref09_Sum.mono | apply mosaicref09_size.mono | exact LeO.none _ | refine LeO.ite ?_ ?_ | refine LeO.bind ?_ (fun _ => ?_)
set_option maxHeartbeats 8000000 in
set_option maxRecDepth 100000 in
theorem mosaicref09_Fill.calls (k : Nat) (a0_0 : Int) (a0_1 : Int) (a0_2 : Int) (a0_3 : Int) (A1 : Option Addr) (c1 : Nat) (l1 : List ByteArray) (r1 : List ByteArray) (r2 : Int) (w : World) (hr1 : Kd.C Kd.string w A1 l1.length l1) (hc1 : l1.length ≤ c1) (h : mosaicref09_Fill.f k a0_0 a0_1 a0_2 a0_3 l1 = some (r1, r2)) :
  Calls Tryz.prog 25 #[.agg #[.int .i64 a0_0, .int .i64 a0_1, .int .i64 a0_2, .int .i64 a0_3], .slice A1 l1.length c1] w fun e w' => ∃ v0_ : Value, e = .returned (.tuple #[v0_, .int .i64 r2]) ∧ Kd.R Kd.string 9 w' w.heap.size (fun _ => True) v0_ r1 ∧ Below w.heap.size w w' := by
 have hne_ : ∀ l : List UInt8, (l != ([] : List UInt8)) = !l.isEmpty := (by intro l; cases l <;> rfl)
 have hu24 := Tryz.underlying24; have HR1 := Aside0.mk hr1
 have HC1 := Aside0.mk hc1
 clear hr1 hc1; have HB := Aside0.mk (Below.refl w.heap.size w)
 have H : ((mosaicref09_size.f k l1).bind fun t398 => ((mosaicref09_Check.f a0_0 a0_1 a0_2 a0_3).bind fun t399 => (if t399 = true then (if (l1.length : Int) = (wrap64 (a0_1 + a0_2)) then (mosaicref09_Fill.j0 k l1 t398 (t398 == 0) a0_0 a0_1 a0_2 a0_3) else (mosaicref09_Fill.j0 k l1 t398 true a0_0 a0_1 a0_2 a0_3)) else (mosaicref09_Fill.j0 k l1 t398 true a0_0 a0_1 a0_2 a0_3)))) = some (r1, r2) := h
 clear h; replace H := Option.bind_eq_some_iff.mp H
 obtain ⟨t398, A30, H⟩ := H
 replace H : ((mosaicref09_Check.f a0_0 a0_1 a0_2 a0_3).bind fun t399 => (if t399 = true then (if (l1.length : Int) = (wrap64 (a0_1 + a0_2)) then (mosaicref09_Fill.j0 k l1 t398 (t398 == 0) a0_0 a0_1 a0_2 a0_3) else (mosaicref09_Fill.j0 k l1 t398 true a0_0 a0_1 a0_2 a0_3)) else (mosaicref09_Fill.j0 k l1 t398 true a0_0 a0_1 a0_2 a0_3))) = some (r1, r2) := H
 have A3 := Aside0.mk A30
 clear A30; have HC4 := Aside0.mk H
 clear H; go_enter Tryz.func25, Tryz.ntmps25
 go_upto_region 2 with (first | ((with_reducible refine gate_dst (N := 2) rfl ?_); (try (refine gate_guard (by rfl) ?_; dsimp only)); refine box_event ?hg (N := 2) ?hd (cs := #[.int .i64 a0_0, .int .i64 a0_1, .int .i64 a0_2, .int .i64 a0_3]) (t := 24) ?hr ?_; (case hd => rfl); (case hg => rfl); (case hr => first | (go_simp; done) | (go_simp; rfl)); intro gb397 hg w5 hbox hb; have BK397 := Aside0.mk (hbox); have GW397 := Aside0.mk ((zg : w.heap.size ≤ gb397)); have GE397 := Aside0.mk ((zg : w.heap.size ≤ gb397)); replace HB := Aside0.mk (below_step zB hb); clear hb hbox hg) | ((with_reducible refine gate_callee (f := 49) rfl ?_); refine goesL_ (some 20) rfl rfl Tryz.func49 (by kernel_rfl) rfl #[.slice A1 l1.length c1] rfl zM ?_; (with_reducible refine (mosaicref09_size.calls k _ _ l1 t398 _ ?side1 ?side2 A3.out).mono ?_); (case side1 => exact zCB HR1); (case side2 => exact HC1.out); rintro e w' ⟨rfl, ⟨nd, rfl⟩⟩; refine ⟨_, rfl, ?_⟩))
 (try simp only [Act.put, List.setIfInBounds_toArray, List.set_cons_zero, List.set_cons_succ])
 go_cut [37] (fun v37 wc => ∃ (kq : Nat) (x37_3 : Bool), v37 = .bool x37_3 ∧ Aside0 (mosaicref09_Fill.j0 kq l1 t398 x37_3 a0_0 a0_1 a0_2 a0_3 = some (r1, r2)) ∧ Aside0 (kq ≤ k) ∧ Aside0 (wc.heap[gb397]? = some (.cells #[.int .i64 a0_0, .int .i64 a0_1, .int .i64 a0_2, .int .i64 a0_3] 24 (0, 0))) ∧ Aside0 (Below w.heap.size w wc))
 case first =>
  have H := HC4.out; clear HC4; replace H := Option.bind_eq_some_iff.mp H
  obtain ⟨t399, A60, H⟩ := H
  replace H : (if t399 = true then (if (l1.length : Int) = (wrap64 (a0_1 + a0_2)) then (mosaicref09_Fill.j0 k l1 t398 (t398 == 0) a0_0 a0_1 a0_2 a0_3) else (mosaicref09_Fill.j0 k l1 t398 true a0_0 a0_1 a0_2 a0_3)) else (mosaicref09_Fill.j0 k l1 t398 true a0_0 a0_1 a0_2 a0_3)) = some (r1, r2) := H
  have A6 := Aside0.mk A60
  clear A60; by_cases c7 : t399 = true
  ·
   subst c7
   have H1 : (if (l1.length : Int) = (wrap64 (a0_1 + a0_2)) then (mosaicref09_Fill.j0 k l1 t398 (t398 == 0) a0_0 a0_1 a0_2 a0_3) else (mosaicref09_Fill.j0 k l1 t398 true a0_0 a0_1 a0_2 a0_3)) = some (r1, r2) := by rw [if_pos rfl] at H; exact H
   clear H; have H := H1; clear H1; by_cases c8 : (l1.length : Int) = (wrap64 (a0_1 + a0_2))
   ·
    rw [if_pos c8] at H
    have c8b0 : ((l1.length : Int) == (wrap64 (a0_1 + a0_2))) = true := beq_iff_eq.mpr c8
    have c8b1 : ((l1.length : Int) != (wrap64 (a0_1 + a0_2))) = false := bne_eq_false_iff_eq.mpr c8
    clear c8; (first | rw [c8b0] | (simp only [i64_w, i32_w]; rw [c8b0]) | skip)
    have H' := Aside0.mk H
    clear H; obtain ⟨hcz9_0, hcz9_1, hcz9_2, hcz9_3⟩ := cZ4 BK397
    obtain ⟨hfz9_0, hfz9_1, hfz9_2, hfz9_3⟩ := dZ4 BK397; go_wp2_with (first | ((with_reducible refine gate_callee (f := 10) rfl ?_); refine goesL_ (some 22) rfl rfl Tryz.func10 (by kernel_rfl) rfl #[.agg #[.int .i64 a0_0, .int .i64 a0_1, .int .i64 a0_2, .int .i64 a0_3]] rfl zM ?_; (with_reducible refine (mosaicref09_Check.calls a0_0 a0_1 a0_2 a0_3 true _ A6.out).mono ?_); rintro e w10 ⟨rfl, hb⟩; refine ⟨_, rfl, ?_⟩; replace BK397 := Aside0.mk (blk_below (zk BK397) hb); replace HB := Aside0.mk (below_step zB hb); (try clear hb); (try clear hb2); (try clear hk); (try clear hi); obtain ⟨hcz11_0, hcz11_1, hcz11_2, hcz11_3⟩ := cZ4 BK397; obtain ⟨hfz11_0, hfz11_1, hfz11_2, hfz11_3⟩ := dZ4 BK397))
    go_meet
    case rel => exact ⟨_, ((t398 == 0)), zF, H', ⟨by first | omega | exact Nat.le_refl _⟩, ⟨zk BK397⟩, ⟨zB⟩⟩
   ·
    rw [if_neg c8] at H
    have c8b0 : ((l1.length : Int) == (wrap64 (a0_1 + a0_2))) = false := beq_eq_false_iff_ne.mpr c8
    have c8b1 : ((l1.length : Int) != (wrap64 (a0_1 + a0_2))) = true := bne_iff_ne.mpr c8
    (first | rw [c8b0] | (simp only [i64_w, i32_w]; rw [c8b0]) | skip)
    have H' := Aside0.mk H
    clear H; obtain ⟨hcz12_0, hcz12_1, hcz12_2, hcz12_3⟩ := cZ4 BK397
    obtain ⟨hfz12_0, hfz12_1, hfz12_2, hfz12_3⟩ := dZ4 BK397; go_wp2_with (first | ((with_reducible refine gate_callee (f := 10) rfl ?_); refine goesL_ (some 22) rfl rfl Tryz.func10 (by kernel_rfl) rfl #[.agg #[.int .i64 a0_0, .int .i64 a0_1, .int .i64 a0_2, .int .i64 a0_3]] rfl zM ?_; (with_reducible refine (mosaicref09_Check.calls a0_0 a0_1 a0_2 a0_3 true _ A6.out).mono ?_); rintro e w13 ⟨rfl, hb⟩; refine ⟨_, rfl, ?_⟩; replace BK397 := Aside0.mk (blk_below (zk BK397) hb); replace HB := Aside0.mk (below_step zB hb); (try clear hb); (try clear hb2); (try clear hk); (try clear hi); obtain ⟨hcz14_0, hcz14_1, hcz14_2, hcz14_3⟩ := cZ4 BK397; obtain ⟨hfz14_0, hfz14_1, hfz14_2, hfz14_3⟩ := dZ4 BK397))
    go_meet
    case rel => exact ⟨_, (true), zF, H', ⟨by first | omega | exact Nat.le_refl _⟩, ⟨zk BK397⟩, ⟨zB⟩⟩
  ·
   replace c7 := Bool.eq_false_iff.mpr c7
   subst c7
   have H1 : (mosaicref09_Fill.j0 k l1 t398 true a0_0 a0_1 a0_2 a0_3) = some (r1, r2) := by rw [if_neg (show ¬ (false = true) by decide)] at H; exact H
   clear H; have H := H1; clear H1; have H' := Aside0.mk H
   clear H; obtain ⟨hcz15_0, hcz15_1, hcz15_2, hcz15_3⟩ := cZ4 BK397
   obtain ⟨hfz15_0, hfz15_1, hfz15_2, hfz15_3⟩ := dZ4 BK397; go_wp2_with (first | ((with_reducible refine gate_callee (f := 10) rfl ?_); refine goesL_ (some 22) rfl rfl Tryz.func10 (by kernel_rfl) rfl #[.agg #[.int .i64 a0_0, .int .i64 a0_1, .int .i64 a0_2, .int .i64 a0_3]] rfl zM ?_; (with_reducible refine (mosaicref09_Check.calls a0_0 a0_1 a0_2 a0_3 false _ A6.out).mono ?_); rintro e w16 ⟨rfl, hb⟩; refine ⟨_, rfl, ?_⟩; replace BK397 := Aside0.mk (blk_below (zk BK397) hb); replace HB := Aside0.mk (below_step zB hb); (try clear hb); (try clear hb2); (try clear hk); (try clear hi)))
   go_meet
   case rel => exact ⟨_, (true), zF, H', ⟨by first | omega | exact Nat.le_refl _⟩, ⟨zk BK397⟩, ⟨zB⟩⟩
 case rest =>
  clear HC4; (try clear c1); (try clear c2); (try clear p2); (try clear c4); (try clear p6); (try clear c7); (try clear c8); (try clear c8b0); (try clear c8b1); (try clear c10); (try clear hcz11_0); (try clear hcz11_1); (try clear hcz11_2); (try clear hcz11_3); (try clear hcz12_0); (try clear hcz12_1); (try clear hcz12_2); (try clear hcz12_3); (try clear hcz14_0); (try clear hcz14_1); (try clear hcz14_2); (try clear hcz14_3); (try clear hcz15_0); (try clear hcz15_1); (try clear hcz15_2); (try clear hcz15_3); (try clear hcz9_0); (try clear hcz9_1); (try clear hcz9_2); (try clear hcz9_3); (try clear hfz11_0); (try clear hfz11_1); (try clear hfz11_2); (try clear hfz11_3); (try clear hfz12_0); (try clear hfz12_1); (try clear hfz12_2); (try clear hfz12_3); (try clear hfz14_0); (try clear hfz14_1); (try clear hfz14_2); (try clear hfz14_3); (try clear hfz15_0); (try clear hfz15_1); (try clear hfz15_2); (try clear hfz15_3); (try clear hfz9_0); (try clear hfz9_1); (try clear hfz9_2); (try clear hfz9_3); obtain ⟨kq, x37_3, rfl, HA, HJ3, BK397, HB⟩ := hcut
  cases kq with
  | zero => exact absurd HA.out (by simp [mosaicref09_Fill.j0])
  | succ kj3 =>
   have H := HA.out; clear HA; simp only [mosaicref09_Fill.j0] at H
   by_cases c17 : x37_3 = true
   ·
    subst c17
    have H1 : (some (([] : List ByteArray), 1)) = some (r1, r2) := by rw [if_pos rfl] at H; exact H
    clear H; have H := H1; clear H1; simp only [Option.some.injEq, Prod.mk.injEq] at H
    obtain ⟨rfl, rfl⟩ := H
    go_wp2
    go_ret2
    exact ⟨_, zE, by first | exact Kd.R_nil _ _ _ _ _ | exact Kd.N_nil _ _ _ _ _ | exact Kd.V_nil _ _ _ _ _ | exact Kd.Q_nil _ _ _ _ _ | exact Kd.S_nil _ _ _ _ _, zB⟩
   ·
    replace c17 := Bool.eq_false_iff.mpr c17
    subst c17
    have H1 : (mosaicref09_Fill.l0 kj3 l1 t398 ([] : List ByteArray) 0 a0_0 a0_1 a0_2 a0_3) = some (r1, r2) := by rw [if_neg (show ¬ (false = true) by decide)] at H; exact H
    clear H; have H := H1; clear H1; have H' := Aside0.mk H
    clear H; go_wp2
    go_loopg [7, 8] kj3 (fun kq v7 v8 w' => ∃ (x7_2 : List ByteArray) (x8_2 : Int), v8 = .int .i64 x8_2 ∧ Aside0 (mosaicref09_Fill.l0 kq l1 t398 x7_2 x8_2 a0_0 a0_1 a0_2 a0_3 = some (r1, r2)) ∧ Aside0 (kq ≤ kj3) ∧ Aside0 (Kd.R Kd.string 9 w' w.heap.size (fun _ => True) v7 x7_2) ∧ Aside0 (w'.heap[gb397]? = some (.cells #[.int .i64 a0_0, .int .i64 a0_1, .int .i64 a0_2, .int .i64 a0_3] 24 (0, 0))) ∧ Aside0 (Below w.heap.size w w'))
    case atStart => exact ⟨(([] : List ByteArray)), (0), zF, H', ⟨Nat.le_refl _⟩, ⟨by first | exact Kd.R_nil _ _ _ _ _ | exact Kd.N_nil _ _ _ _ _ | exact Kd.V_nil _ _ _ _ _ | exact Kd.Q_nil _ _ _ _ _ | exact Kd.S_nil _ _ _ _ _⟩, ⟨zk BK397⟩, ⟨zB⟩⟩
    case round =>
     clear H'
     (try clear c1); (try clear c2); (try clear p2); (try clear c4); (try clear p6); (try clear c7); (try clear c8); (try clear c8b0); (try clear c8b1); (try clear c10); (try clear c17); (try clear hcz11_0); (try clear hcz11_1); (try clear hcz11_2); (try clear hcz11_3); (try clear hcz12_0); (try clear hcz12_1); (try clear hcz12_2); (try clear hcz12_3); (try clear hcz14_0); (try clear hcz14_1); (try clear hcz14_2); (try clear hcz14_3); (try clear hcz15_0); (try clear hcz15_1); (try clear hcz15_2); (try clear hcz15_3); (try clear hcz9_0); (try clear hcz9_1); (try clear hcz9_2); (try clear hcz9_3); (try clear hfz11_0); (try clear hfz11_1); (try clear hfz11_2); (try clear hfz11_3); (try clear hfz12_0); (try clear hfz12_1); (try clear hfz12_2); (try clear hfz12_3); (try clear hfz14_0); (try clear hfz14_1); (try clear hfz14_2); (try clear hfz14_3); (try clear hfz15_0); (try clear hfz15_1); (try clear hfz15_2); (try clear hfz15_3); (try clear hfz9_0); (try clear hfz9_1); (try clear hfz9_2); (try clear hfz9_3); (try clear p2); (try clear p6); obtain ⟨x7_2, x8_2, rfl, HA, HK2, HO_7, BK397, HB⟩ := hrel
     cases gk with
     | zero => exact absurd HA.out (by simp [mosaicref09_Fill.l0])
     | succ k2 =>
      have H := HA.out; clear HA; simp only [mosaicref09_Fill.l0] at H
      by_cases c18 : x8_2 < (l1.length : Int)
      ·
       rw [if_pos c18] at H
       have c18b0 : decide (x8_2 < (l1.length : Int)) = true := decide_eq_true c18
       clear c18; by_cases c19 : 0 ≤ x8_2
       ·
        rw [if_pos c19] at H
        have c19b0 : decide (0 ≤ x8_2) = true := decide_eq_true c19
        clear c19; by_cases c20 : x7_2.length < 8796093022208
        ·
         rw [if_pos c20] at H
         have LMc20 := Aside0.mk c20
         clear c20; obtain ⟨y401, hy401⟩ : ∃ y_ : List ByteArray, y_ = (x7_2 ++ [rdOf ByteArray.empty l1 x8_2]) := ⟨_, rfl⟩
         replace H : (mosaicref09_Fill.l0 k2 l1 t398 y401 (wrap64 (x8_2 + 1)) a0_0 a0_1 a0_2 a0_3) = some (r1, r2) := by first | (rw [hy401]; with_reducible exact H) | (have H2_ := (Option.bind_some _ _).symm.trans H; rw [hy401]; with_reducible exact H2_) | (have H2_ := (Option.bind_some _ _).symm.trans H; with_reducible exact H2_) | with_reducible exact H | (rw [hy401]; exact H) | exact H
         have Ny401 := Aside0.mk hy401
         clear hy401; have H' := Aside0.mk H
         clear H; have p400 : 0 ≤ (x8_2 : Int) := of_decide_eq_true zA
         have q400 : x8_2 < (l1.length : Int) := of_decide_eq_true zA
         obtain ⟨ad400, e400, hx400_0⟩ := Kd.at_string HR1.out x8_2 p400 q400
         cases e400
         (try replace hx400_0 := (HB.out.cell (World.block_lt_of_cell? w _ hx400_0)).trans hx400_0)
         replace p400 := eq_true p400
         replace q400 := eq_true q400
         go_wp2_with (first | ((with_reducible refine gate_builtin (b := .append) (xs := #[.tmp 44, .tmp 49]) rfl ?_); (try (refine gate_guard (by rfl) ?_; dsimp only)); at_builtin; refine Kd.R_append Kd.string (w0 := w) w.heap.size rfl (.tmp 44) (.tmp 49) 41 9 (.string ⟨#[]⟩) 16 rfl Tryz.underlying41 info9 rfl (by decide) (by omega) u7 x7_2 (rdOf ByteArray.empty l1 x8_2) [.string (rdOf ByteArray.empty l1 x8_2)] (fun _ => True) (fun _ => False) rfl rfl ?aP (fun _ hk => hk.elim) ?aF ?aO ?aB ?aS ?aL ?_; (case aP => exact rfl); (case aB => exact zB); (case aF => exact (fun _ _ => trivial)); (case aO => exact (by (with_reducible repeat (first | apply Kd.R_alloc | apply Kd.R_drewN | apply Kd.R_drew)); exact HO_7.out)); (case aS => exact (below_size zB)); (case aL => have := LMc20.out; omega); intro v402 w21 ho hb hg hat; rw [← Ny401.out] at ho; replace BK397 := Aside0.mk (blk_grown (zk BK397) hg (Kd.R_ne HO_7.out BK397.out (by decide))); have HO403 := Aside0.mk (ho); replace HB := Aside0.mk (hb); clear HO_7; clear ho hb hg hat))
         go_roundg k2
         case measure => have := HJ3.out; have := HK2.out; omega
         case rel => exact ⟨(y401), (wrap64 (x8_2 + 1)), zF, H', ⟨by have := HJ3.out; have := HK2.out; omega⟩, ⟨zR HO403⟩, ⟨zk BK397⟩, ⟨zB⟩⟩
        ·
         rw [if_neg c20] at H
         exact absurd H (by simp)
       ·
        rw [if_neg c19] at H
        exact absurd H (by simp)
      ·
       rw [if_neg c18] at H
       have c18b0 : decide (x8_2 < (l1.length : Int)) = false := decide_eq_false c18
       clear c18; replace H := Option.bind_eq_some_iff.mp H
       obtain ⟨t404, A220, H⟩ := H
       replace H : (mosaicref09_Fill.l1 k2 l1 t398 x7_2 t404 0) = some (r1, r2) := H
       have A22 := Aside0.mk A220
       clear A220; have H' := Aside0.mk H
       clear H; obtain ⟨hcz23_0, hcz23_1, hcz23_2, hcz23_3⟩ := cZ4 BK397
       obtain ⟨hfz23_0, hfz23_1, hfz23_2, hfz23_3⟩ := dZ4 BK397; go_wp2_with (first | ((with_reducible refine gate_callee (f := 17) rfl ?_); refine goesL_ (some 52) rfl rfl Tryz.func17 (by kernel_rfl) rfl #[.agg #[.int .i64 a0_0, .int .i64 a0_1, .int .i64 a0_2, .int .i64 a0_3]] rfl zM ?_; (with_reducible refine (mosaicref09_Rules.calls k2 a0_0 a0_1 a0_2 a0_3 t404 _ A22.out).mono ?_); rintro e w24 ⟨v405, rfl, ho0, hb⟩; refine ⟨_, rfl, ?_⟩; replace HO_7 := Aside0.mk (Kd.R_below (zR HO_7) hb); have HO406 := Aside0.mk (Kd.S_lower ho0 (below_size zB)); replace BK397 := Aside0.mk (blk_below (zk BK397) hb); replace HB := Aside0.mk (below_step zB hb); (try clear hb); (try clear hb2); (try clear hk); (try clear hi); (try clear ho0)))
       go_loopg [10] k2 (fun kq v10 w' => ∃ (x7_3 : List ByteArray) (x10_3 : Int), v10 = .int .i64 x10_3 ∧ Aside0 (mosaicref09_Fill.l1 kq l1 t398 x7_3 t404 x10_3 = some (r1, r2)) ∧ Aside0 (kq ≤ k2) ∧ Aside0 (Kd.R Kd.string 9 w' w.heap.size (fun _ => True) u7 x7_3) ∧ Aside0 (Kd.S (Kd.slice 3 (Kd.int .i64)) 26 w' w.heap.size (fun _ => True) v405 t404) ∧ Aside0 (w'.heap[gb397]? = some (.cells #[.int .i64 a0_0, .int .i64 a0_1, .int .i64 a0_2, .int .i64 a0_3] 24 (0, 0))) ∧ Aside0 (Below w.heap.size w w'))
       case atStart => exact ⟨(x7_2), (0), zF, H', ⟨Nat.le_refl _⟩, ⟨zR HO_7⟩, ⟨zS HO406⟩, ⟨zk BK397⟩, ⟨zB⟩⟩
       case round =>
        clear H'
        (try clear c1); (try clear c2); (try clear p2); (try clear c4); (try clear p4); (try clear q4); (try clear hx4); (try clear p6); (try clear c7); (try clear c8); (try clear c8b0); (try clear c8b1); (try clear c10); (try clear c17); (try clear c18); (try clear c18b0); (try clear c19); (try clear c19b0); (try clear c20); (try clear hcz11_0); (try clear hcz11_1); (try clear hcz11_2); (try clear hcz11_3); (try clear hcz12_0); (try clear hcz12_1); (try clear hcz12_2); (try clear hcz12_3); (try clear hcz14_0); (try clear hcz14_1); (try clear hcz14_2); (try clear hcz14_3); (try clear hcz15_0); (try clear hcz15_1); (try clear hcz15_2); (try clear hcz15_3); (try clear hcz23_0); (try clear hcz23_1); (try clear hcz23_2); (try clear hcz23_3); (try clear hcz9_0); (try clear hcz9_1); (try clear hcz9_2); (try clear hcz9_3); (try clear hfz11_0); (try clear hfz11_1); (try clear hfz11_2); (try clear hfz11_3); (try clear hfz12_0); (try clear hfz12_1); (try clear hfz12_2); (try clear hfz12_3); (try clear hfz14_0); (try clear hfz14_1); (try clear hfz14_2); (try clear hfz14_3); (try clear hfz15_0); (try clear hfz15_1); (try clear hfz15_2); (try clear hfz15_3); (try clear hfz23_0); (try clear hfz23_1); (try clear hfz23_2); (try clear hfz23_3); (try clear hfz9_0); (try clear hfz9_1); (try clear hfz9_2); (try clear hfz9_3); (try clear hx400_0); (try clear p2); (try clear p400); (try clear p6); (try clear q400); obtain ⟨x7_3, x10_3, rfl, HA, HK3, HO_7, HO_9, BK397, HB⟩ := hrel
        cases gk with
        | zero => exact absurd HA.out (by simp [mosaicref09_Fill.l1])
        | succ k3 =>
         have H := HA.out; clear HA; simp only [mosaicref09_Fill.l1] at H
         by_cases c25 : x10_3 < (l1.length : Int)
         ·
          rw [if_pos c25] at H
          have c25b0 : decide (x10_3 < (l1.length : Int)) = true := decide_eq_true c25
          clear c25; have H' := Aside0.mk H
          clear H; go_wp2
          go_loopg [11] k3 (fun kq v11 w' => ∃ (x7_4 : List ByteArray) (x11_4 : Int), v11 = .int .i64 x11_4 ∧ Aside0 (mosaicref09_Fill.l2 kq l1 t398 x7_4 t404 x10_3 x11_4 = some (r1, r2)) ∧ Aside0 (kq ≤ k3) ∧ Aside0 (Kd.R Kd.string 9 w' w.heap.size (fun _ => True) u7 x7_4) ∧ Aside0 (Kd.S (Kd.slice 3 (Kd.int .i64)) 26 w' w.heap.size (fun _ => True) v405 t404) ∧ Aside0 (w'.heap[gb397]? = some (.cells #[.int .i64 a0_0, .int .i64 a0_1, .int .i64 a0_2, .int .i64 a0_3] 24 (0, 0))) ∧ Aside0 (Below w.heap.size w w'))
          case atStart => exact ⟨(x7_3), (0), zF, H', ⟨Nat.le_refl _⟩, ⟨zR HO_7⟩, ⟨zS HO_9⟩, ⟨zk BK397⟩, ⟨zB⟩⟩
          case round =>
           clear H'
           (try clear c1); (try clear c2); (try clear p2); (try clear c4); (try clear p4); (try clear q4); (try clear hx4); (try clear p6); (try clear c7); (try clear c8); (try clear c8b0); (try clear c8b1); (try clear c10); (try clear c17); (try clear c18); (try clear c18b0); (try clear c19); (try clear c19b0); (try clear c20); (try clear c25); (try clear c25b0); (try clear hcz11_0); (try clear hcz11_1); (try clear hcz11_2); (try clear hcz11_3); (try clear hcz12_0); (try clear hcz12_1); (try clear hcz12_2); (try clear hcz12_3); (try clear hcz14_0); (try clear hcz14_1); (try clear hcz14_2); (try clear hcz14_3); (try clear hcz15_0); (try clear hcz15_1); (try clear hcz15_2); (try clear hcz15_3); (try clear hcz23_0); (try clear hcz23_1); (try clear hcz23_2); (try clear hcz23_3); (try clear hcz9_0); (try clear hcz9_1); (try clear hcz9_2); (try clear hcz9_3); (try clear hfz11_0); (try clear hfz11_1); (try clear hfz11_2); (try clear hfz11_3); (try clear hfz12_0); (try clear hfz12_1); (try clear hfz12_2); (try clear hfz12_3); (try clear hfz14_0); (try clear hfz14_1); (try clear hfz14_2); (try clear hfz14_3); (try clear hfz15_0); (try clear hfz15_1); (try clear hfz15_2); (try clear hfz15_3); (try clear hfz23_0); (try clear hfz23_1); (try clear hfz23_2); (try clear hfz23_3); (try clear hfz9_0); (try clear hfz9_1); (try clear hfz9_2); (try clear hfz9_3); (try clear hx400_0); (try clear p2); (try clear p4); (try clear p400); (try clear p6); (try clear q4); (try clear q400); obtain ⟨x7_4, x11_4, rfl, HA, HK4, HO_7, HO_9, BK397, HB⟩ := hrel
           cases gk with
           | zero => exact absurd HA.out (by simp [mosaicref09_Fill.l2])
           | succ k4 =>
            have H := HA.out; clear HA; simp only [mosaicref09_Fill.l2] at H
            by_cases c26 : x11_4 < (t404.length : Int)
            ·
             rw [if_pos c26] at H
             have c26b0 : decide (x11_4 < (t404.length : Int)) = true := decide_eq_true c26
             clear c26; have H' := Aside0.mk H
             clear H; obtain ⟨Ao27, co27, eo27⟩ := Kd.S_slice HO_9.out
             subst eo27
             go_wp2
             go_loopg [12, 13, 14, 15] k4 (fun kq v12 v13 v14 v15 w' => ∃ (x12_5 : Int) (x13_5 : Int) (x14_5 : List Int) (x15_5 : Int), v12 = .int .i64 x12_5 ∧ v13 = .int .i64 x13_5 ∧ v15 = .int .i64 x15_5 ∧ Aside0 (mosaicref09_Fill.l3 kq l1 t398 x7_4 t404 x10_3 x11_4 x12_5 x13_5 x14_5 x15_5 = some (r1, r2)) ∧ Aside0 (kq ≤ k4) ∧ Aside0 (Kd.R Kd.string 9 w' w.heap.size (fun _ => True) u7 x7_4) ∧ Aside0 (Kd.S (Kd.slice 3 (Kd.int .i64)) 26 w' w.heap.size (fun k_ => some k_ ≠ (v14 : Value).ownBlock) (.slice Ao27 t404.length co27) t404) ∧ Aside0 (Kd.R (Kd.int .i64) 3 w' w.heap.size (fun _ => True) v14 x14_5) ∧ Aside0 (w'.heap[gb397]? = some (.cells #[.int .i64 a0_0, .int .i64 a0_1, .int .i64 a0_2, .int .i64 a0_3] 24 (0, 0))) ∧ Aside0 (Below w.heap.size w w'))
             case atStart => exact ⟨(0), (0), (([] : List Int)), (0), zF, zF, zF, H', ⟨Nat.le_refl _⟩, ⟨zR HO_7⟩, ⟨by (with_reducible repeat (first | apply Kd.S_alloc | apply Kd.S_drewN | apply Kd.S_drew)); exact Kd.S_mono HO_9.out (fun _ hk => (by simp [Value.ownBlock]))⟩, ⟨by first | exact Kd.R_nil _ _ _ _ _ | exact Kd.N_nil _ _ _ _ _ | exact Kd.V_nil _ _ _ _ _ | exact Kd.Q_nil _ _ _ _ _ | exact Kd.S_nil _ _ _ _ _⟩, ⟨zk BK397⟩, ⟨zB⟩⟩
             case round =>
              clear H'
              (try clear c1); (try clear c2); (try clear p2); (try clear c4); (try clear p4); (try clear q4); (try clear hx4); (try clear p6); (try clear c7); (try clear c8); (try clear c8b0); (try clear c8b1); (try clear c10); (try clear c17); (try clear c18); (try clear c18b0); (try clear c19); (try clear c19b0); (try clear c20); (try clear c25); (try clear c25b0); (try clear c26); (try clear c26b0); (try clear hcz11_0); (try clear hcz11_1); (try clear hcz11_2); (try clear hcz11_3); (try clear hcz12_0); (try clear hcz12_1); (try clear hcz12_2); (try clear hcz12_3); (try clear hcz14_0); (try clear hcz14_1); (try clear hcz14_2); (try clear hcz14_3); (try clear hcz15_0); (try clear hcz15_1); (try clear hcz15_2); (try clear hcz15_3); (try clear hcz23_0); (try clear hcz23_1); (try clear hcz23_2); (try clear hcz23_3); (try clear hcz9_0); (try clear hcz9_1); (try clear hcz9_2); (try clear hcz9_3); (try clear hfz11_0); (try clear hfz11_1); (try clear hfz11_2); (try clear hfz11_3); (try clear hfz12_0); (try clear hfz12_1); (try clear hfz12_2); (try clear hfz12_3); (try clear hfz14_0); (try clear hfz14_1); (try clear hfz14_2); (try clear hfz14_3); (try clear hfz15_0); (try clear hfz15_1); (try clear hfz15_2); (try clear hfz15_3); (try clear hfz23_0); (try clear hfz23_1); (try clear hfz23_2); (try clear hfz23_3); (try clear hfz9_0); (try clear hfz9_1); (try clear hfz9_2); (try clear hfz9_3); (try clear hx400_0); (try clear p2); (try clear p4); (try clear p400); (try clear p6); (try clear q4); (try clear q400); obtain ⟨x12_5, x13_5, x14_5, x15_5, rfl, rfl, rfl, HA, HK5, HO_7, HO_9, HO_14, BK397, HB⟩ := hrel
              cases gk with
              | zero => exact absurd HA.out (by simp [mosaicref09_Fill.l3])
              | succ k5 =>
               have H := HA.out; clear HA; simp only [mosaicref09_Fill.l3] at H
               by_cases c28 : 0 ≤ x11_4
               ·
                rw [if_pos c28] at H
                have c28b0 : decide (0 ≤ x11_4) = true := decide_eq_true c28
                clear c28; by_cases c29 : x11_4 < (t404.length : Int)
                ·
                 rw [if_pos c29] at H
                 have c29b0 : decide (x11_4 < (t404.length : Int)) = true := decide_eq_true c29
                 clear c29; by_cases c30 : x15_5 < ((rd_L3 t404 x11_4).length : Int)
                 ·
                  rw [if_pos c30] at H
                  have c30b0 : decide (x15_5 < ((rd_L3 t404 x11_4).length : Int)) = true := decide_eq_true c30
                  clear c30; by_cases c31 : 0 ≤ x15_5
                  ·
                   rw [if_pos c31] at H
                   have c31b0 : decide (0 ≤ x15_5) = true := decide_eq_true c31
                   clear c31; by_cases c32 : 0 ≤ (rd (rd_L3 t404 x11_4) x15_5)
                   ·
                    rw [if_pos c32] at H
                    have c32b0 : decide (0 ≤ (rd (rd_L3 t404 x11_4) x15_5)) = true := decide_eq_true c32
                    clear c32; by_cases c33 : (rd (rd_L3 t404 x11_4) x15_5) < (x7_4.length : Int)
                    ·
                     rw [if_pos c33] at H
                     have c33b0 : decide ((rd (rd_L3 t404 x11_4) x15_5) < (x7_4.length : Int)) = true := decide_eq_true c33
                     clear c33; by_cases c34 : (rdOf ByteArray.empty x7_4 (rd (rd_L3 t404 x11_4) x15_5)).toList = ([] : List UInt8)
                     ·
                      rw [if_pos c34] at H
                      have c34b0 : ((rdOf ByteArray.empty x7_4 (rd (rd_L3 t404 x11_4) x15_5)).toList == ([] : List UInt8)) = true := beq_iff_eq.mpr c34
                      have c34b1 : ((rdOf ByteArray.empty x7_4 (rd (rd_L3 t404 x11_4) x15_5)).toList != ([] : List UInt8)) = false := bne_eq_false_iff_eq.mpr c34
                      clear c34; have H' := Aside0.mk H
                      clear H; have p407 : 0 ≤ (x11_4 : Int) := of_decide_eq_true zA
                      have q407 : x11_4 < (t404.length : Int) := of_decide_eq_true zA
                      obtain ⟨ad407, A407_0, c407_0, e407, hx407_0, hl407_0, hi407_0⟩ := at_L3 (Kd.S_reads' HO_9.out).2.2 x11_4 p407 q407
                      cases e407
                      obtain ⟨ce407, hce407, hMe407, hcc407⟩ := Kd.S_get HO_9.out [] x11_4 p407 (by first | exact q407 | exact of_decide_eq_true zA | (have e_ := (Kd.S_reads' HO_9.out).1; omega))
                      obtain ⟨ve407_0, rfl, ge407_0⟩ := hMe407
                      have hv407_0 := hcc407 0 _ rfl
                      rw [Nat.add_zero, show ((Kd.slice 3 (Kd.int .i64))).sz = 1 from rfl, Nat.mul_one] at hv407_0
                      replace hv407_0 := Option.some.inj (hv407_0.symm.trans hx407_0)
                      rw [hv407_0] at ge407_0
                      have HL407_0 := Aside0.mk (show Kd.R (Kd.int .i64) 3 _ _ _ _ (rd_L3 t404 x11_4) from ge407_0)
                      clear hv407_0 ge407_0 hcc407 hce407; have HR407_0 := Aside0.mk hi407_0
                      have HC407_0 := Aside0.mk hl407_0
                      clear hi407_0 hl407_0; replace p407 := eq_true p407
                      replace q407 := eq_true q407
                      have p408 : 0 ≤ (x11_4 : Int) := of_decide_eq_true zA
                      have q408 : x11_4 < (t404.length : Int) := of_decide_eq_true zA
                      obtain ⟨ad408, A408_0, c408_0, e408, hx408_0, hl408_0, hi408_0⟩ := at_L3 (Kd.S_reads' HO_9.out).2.2 x11_4 p408 q408
                      obtain rfl : ad407 = ad408 := (by injection e408)
                      obtain ⟨ce408, hce408, hMe408, hcc408⟩ := Kd.S_get HO_9.out [] x11_4 p408 (by first | exact q408 | exact of_decide_eq_true zA | (have e_ := (Kd.S_reads' HO_9.out).1; omega))
                      obtain ⟨ve408_0, rfl, ge408_0⟩ := hMe408
                      have hv408_0 := hcc408 0 _ rfl
                      rw [Nat.add_zero, show ((Kd.slice 3 (Kd.int .i64))).sz = 1 from rfl, Nat.mul_one] at hv408_0
                      replace hv408_0 := Option.some.inj (hv408_0.symm.trans hx408_0)
                      rw [hv408_0] at ge408_0
                      have HL408_0 := Aside0.mk (show Kd.R (Kd.int .i64) 3 _ _ _ _ (rd_L3 t404 x11_4) from ge408_0)
                      clear hv408_0 ge408_0 hcc408 hce408; have HR408_0 := Aside0.mk hi408_0
                      have HC408_0 := Aside0.mk hl408_0
                      clear hi408_0 hl408_0; replace p408 := eq_true p408
                      replace q408 := eq_true q408
                      have ea_ := Option.some.inj (hx407_0.symm.trans hx408_0)
                      injection ea_ with ea_ en_ ec_
                      subst ea_
                      subst ec_
                      clear en_; have p409 : 0 ≤ (x15_5 : Int) := of_decide_eq_true zA
                      have q409 : x15_5 < ((rd_L3 t404 x11_4).length : Int) := of_decide_eq_true zA
                      obtain ⟨ad409, e409, hx409_0⟩ := Kd.at_int (zC HR408_0) x15_5 p409 q409
                      cases e409
                      replace p409 := eq_true p409
                      replace q409 := eq_true q409
                      obtain ⟨Ao35, co35, eo35⟩ := Kd.R_slice HO_7.out
                      subst eo35
                      have p410 : 0 ≤ ((rd (rd_L3 t404 x11_4) x15_5) : Int) := of_decide_eq_true zA
                      have q410 : (rd (rd_L3 t404 x11_4) x15_5) < (x7_4.length : Int) := of_decide_eq_true zA
                      obtain ⟨ad410, e410, hx410_0⟩ := Kd.at_string (Kd.R_reads' HO_7.out).2.2 (rd (rd_L3 t404 x11_4) x15_5) p410 q410
                      cases e410
                      replace p410 := eq_true p410
                      replace q410 := eq_true q410
                      have p411 : 0 ≤ (x11_4 : Int) := of_decide_eq_true zA
                      have q411 : x11_4 < (t404.length : Int) := of_decide_eq_true zA
                      obtain ⟨ad411, A411_0, c411_0, e411, hx411_0, hl411_0, hi411_0⟩ := at_L3 (Kd.S_reads' HO_9.out).2.2 x11_4 p411 q411
                      obtain rfl : ad407 = ad411 := (by injection e411)
                      obtain ⟨ce411, hce411, hMe411, hcc411⟩ := Kd.S_get HO_9.out [] x11_4 p411 (by first | exact q411 | exact of_decide_eq_true zA | (have e_ := (Kd.S_reads' HO_9.out).1; omega))
                      obtain ⟨ve411_0, rfl, ge411_0⟩ := hMe411
                      have hv411_0 := hcc411 0 _ rfl
                      rw [Nat.add_zero, show ((Kd.slice 3 (Kd.int .i64))).sz = 1 from rfl, Nat.mul_one] at hv411_0
                      replace hv411_0 := Option.some.inj (hv411_0.symm.trans hx411_0)
                      rw [hv411_0] at ge411_0
                      have HL411_0 := Aside0.mk (show Kd.R (Kd.int .i64) 3 _ _ _ _ (rd_L3 t404 x11_4) from ge411_0)
                      clear hv411_0 ge411_0 hcc411 hce411; have HR411_0 := Aside0.mk hi411_0
                      have HC411_0 := Aside0.mk hl411_0
                      clear hi411_0 hl411_0; replace p411 := eq_true p411
                      replace q411 := eq_true q411
                      have ea_ := Option.some.inj (hx407_0.symm.trans hx411_0)
                      injection ea_ with ea_ en_ ec_
                      subst ea_
                      subst ec_
                      clear en_; have p412 : 0 ≤ (x15_5 : Int) := of_decide_eq_true zA
                      have q412 : x15_5 < ((rd_L3 t404 x11_4).length : Int) := of_decide_eq_true zA
                      obtain ⟨ad412, e412, hx412_0⟩ := Kd.at_int (zC HR411_0) x15_5 p412 q412
                      cases e412
                      replace p412 := eq_true p412
                      replace q412 := eq_true q412
                      go_wp2
                      go_roundg k5
                      case measure => have := HJ3.out; have := HK2.out; have := HK3.out; have := HK4.out; have := HK5.out; omega
                      case rel => exact ⟨(wrap64 (x12_5 + 1)), (rd (rd_L3 t404 x11_4) x15_5), (x14_5), (wrap64 (x15_5 + 1)), zF, zF, zF, H', ⟨by have := HJ3.out; have := HK2.out; have := HK3.out; have := HK4.out; have := HK5.out; omega⟩, ⟨zR HO_7⟩, ⟨zS HO_9⟩, ⟨zR HO_14⟩, ⟨zk BK397⟩, ⟨zB⟩⟩
                     ·
                      rw [if_neg c34] at H
                      have c34b0 : ((rdOf ByteArray.empty x7_4 (rd (rd_L3 t404 x11_4) x15_5)).toList == ([] : List UInt8)) = false := beq_eq_false_iff_ne.mpr c34
                      have c34b1 : ((rdOf ByteArray.empty x7_4 (rd (rd_L3 t404 x11_4) x15_5)).toList != ([] : List UInt8)) = true := bne_iff_ne.mpr c34
                      by_cases c36 : x14_5.length < 17592186044416
                      ·
                       rw [if_pos c36] at H
                       have LMc36 := Aside0.mk c36
                       clear c36; obtain ⟨y415, hy415⟩ : ∃ y_ : List Int, y_ = (x14_5 ++ [rd (rd_L3 t404 x11_4) x15_5]) := ⟨_, rfl⟩
                       replace H : (mosaicref09_Fill.l3 k5 l1 t398 x7_4 t404 x10_3 x11_4 x12_5 x13_5 y415 (wrap64 (x15_5 + 1))) = some (r1, r2) := by first | (rw [hy415]; with_reducible exact H) | (have H2_ := (Option.bind_some _ _).symm.trans H; rw [hy415]; with_reducible exact H2_) | (have H2_ := (Option.bind_some _ _).symm.trans H; with_reducible exact H2_) | with_reducible exact H | (rw [hy415]; exact H) | exact H
                       have Ny415 := Aside0.mk hy415
                       clear hy415; have H' := Aside0.mk H
                       clear H; have p407 : 0 ≤ (x11_4 : Int) := of_decide_eq_true zA
                       have q407 : x11_4 < (t404.length : Int) := of_decide_eq_true zA
                       obtain ⟨ad407, A407_0, c407_0, e407, hx407_0, hl407_0, hi407_0⟩ := at_L3 (Kd.S_reads' HO_9.out).2.2 x11_4 p407 q407
                       cases e407
                       obtain ⟨ce407, hce407, hMe407, hcc407⟩ := Kd.S_get HO_9.out [] x11_4 p407 (by first | exact q407 | exact of_decide_eq_true zA | (have e_ := (Kd.S_reads' HO_9.out).1; omega))
                       obtain ⟨ve407_0, rfl, ge407_0⟩ := hMe407
                       have hv407_0 := hcc407 0 _ rfl
                       rw [Nat.add_zero, show ((Kd.slice 3 (Kd.int .i64))).sz = 1 from rfl, Nat.mul_one] at hv407_0
                       replace hv407_0 := Option.some.inj (hv407_0.symm.trans hx407_0)
                       rw [hv407_0] at ge407_0
                       have HL407_0 := Aside0.mk (show Kd.R (Kd.int .i64) 3 _ _ _ _ (rd_L3 t404 x11_4) from ge407_0)
                       clear hv407_0 ge407_0 hcc407 hce407; have HR407_0 := Aside0.mk hi407_0
                       have HC407_0 := Aside0.mk hl407_0
                       clear hi407_0 hl407_0; replace p407 := eq_true p407
                       replace q407 := eq_true q407
                       have p408 : 0 ≤ (x11_4 : Int) := of_decide_eq_true zA
                       have q408 : x11_4 < (t404.length : Int) := of_decide_eq_true zA
                       obtain ⟨ad408, A408_0, c408_0, e408, hx408_0, hl408_0, hi408_0⟩ := at_L3 (Kd.S_reads' HO_9.out).2.2 x11_4 p408 q408
                       obtain rfl : ad407 = ad408 := (by injection e408)
                       obtain ⟨ce408, hce408, hMe408, hcc408⟩ := Kd.S_get HO_9.out [] x11_4 p408 (by first | exact q408 | exact of_decide_eq_true zA | (have e_ := (Kd.S_reads' HO_9.out).1; omega))
                       obtain ⟨ve408_0, rfl, ge408_0⟩ := hMe408
                       have hv408_0 := hcc408 0 _ rfl
                       rw [Nat.add_zero, show ((Kd.slice 3 (Kd.int .i64))).sz = 1 from rfl, Nat.mul_one] at hv408_0
                       replace hv408_0 := Option.some.inj (hv408_0.symm.trans hx408_0)
                       rw [hv408_0] at ge408_0
                       have HL408_0 := Aside0.mk (show Kd.R (Kd.int .i64) 3 _ _ _ _ (rd_L3 t404 x11_4) from ge408_0)
                       clear hv408_0 ge408_0 hcc408 hce408; have HR408_0 := Aside0.mk hi408_0
                       have HC408_0 := Aside0.mk hl408_0
                       clear hi408_0 hl408_0; replace p408 := eq_true p408
                       replace q408 := eq_true q408
                       have ea_ := Option.some.inj (hx407_0.symm.trans hx408_0)
                       injection ea_ with ea_ en_ ec_
                       subst ea_
                       subst ec_
                       clear en_; have p409 : 0 ≤ (x15_5 : Int) := of_decide_eq_true zA
                       have q409 : x15_5 < ((rd_L3 t404 x11_4).length : Int) := of_decide_eq_true zA
                       obtain ⟨ad409, e409, hx409_0⟩ := Kd.at_int (zC HR408_0) x15_5 p409 q409
                       cases e409
                       replace p409 := eq_true p409
                       replace q409 := eq_true q409
                       obtain ⟨Ao37, co37, eo37⟩ := Kd.R_slice HO_7.out
                       subst eo37
                       have p410 : 0 ≤ ((rd (rd_L3 t404 x11_4) x15_5) : Int) := of_decide_eq_true zA
                       have q410 : (rd (rd_L3 t404 x11_4) x15_5) < (x7_4.length : Int) := of_decide_eq_true zA
                       obtain ⟨ad410, e410, hx410_0⟩ := Kd.at_string (Kd.R_reads' HO_7.out).2.2 (rd (rd_L3 t404 x11_4) x15_5) p410 q410
                       cases e410
                       replace p410 := eq_true p410
                       replace q410 := eq_true q410
                       have p413 : 0 ≤ (x11_4 : Int) := of_decide_eq_true zA
                       have q413 : x11_4 < (t404.length : Int) := of_decide_eq_true zA
                       obtain ⟨ad413, A413_0, c413_0, e413, hx413_0, hl413_0, hi413_0⟩ := at_L3 (Kd.S_reads' HO_9.out).2.2 x11_4 p413 q413
                       obtain rfl : ad407 = ad413 := (by injection e413)
                       obtain ⟨ce413, hce413, hMe413, hcc413⟩ := Kd.S_get HO_9.out [] x11_4 p413 (by first | exact q413 | exact of_decide_eq_true zA | (have e_ := (Kd.S_reads' HO_9.out).1; omega))
                       obtain ⟨ve413_0, rfl, ge413_0⟩ := hMe413
                       have hv413_0 := hcc413 0 _ rfl
                       rw [Nat.add_zero, show ((Kd.slice 3 (Kd.int .i64))).sz = 1 from rfl, Nat.mul_one] at hv413_0
                       replace hv413_0 := Option.some.inj (hv413_0.symm.trans hx413_0)
                       rw [hv413_0] at ge413_0
                       have HL413_0 := Aside0.mk (show Kd.R (Kd.int .i64) 3 _ _ _ _ (rd_L3 t404 x11_4) from ge413_0)
                       clear hv413_0 ge413_0 hcc413 hce413; have HR413_0 := Aside0.mk hi413_0
                       have HC413_0 := Aside0.mk hl413_0
                       clear hi413_0 hl413_0; replace p413 := eq_true p413
                       replace q413 := eq_true q413
                       have ea_ := Option.some.inj (hx407_0.symm.trans hx413_0)
                       injection ea_ with ea_ en_ ec_
                       subst ea_
                       subst ec_
                       clear en_; have p414 : 0 ≤ (x15_5 : Int) := of_decide_eq_true zA
                       have q414 : x15_5 < ((rd_L3 t404 x11_4).length : Int) := of_decide_eq_true zA
                       obtain ⟨ad414, e414, hx414_0⟩ := Kd.at_int (zC HR413_0) x15_5 p414 q414
                       cases e414
                       replace p414 := eq_true p414
                       replace q414 := eq_true q414
                       go_wp2_with (first | ((with_reducible refine gate_builtin (b := .append) (xs := #[.tmp 94, .tmp 102]) rfl ?_); (try (refine gate_guard (by rfl) ?_; dsimp only)); at_builtin; refine Kd.R_append (Kd.int .i64) (w0 := w) w.heap.size rfl (.tmp 94) (.tmp 102) 26 3 (.int .i64 0) 8 rfl Tryz.underlying26 info3 rfl (by decide) (by omega) u14 x14_5 (rd (rd_L3 t404 x11_4) x15_5) [.int .i64 (rd (rd_L3 t404 x11_4) x15_5)] (fun _ => True) (fun _ => False) rfl rfl ?aP (fun _ hk => hk.elim) ?aF ?aO ?aB ?aS ?aL ?_; (case aP => exact rfl); (case aB => exact zB); (case aF => exact (fun _ _ => trivial)); (case aO => exact (by (with_reducible repeat (first | apply Kd.R_alloc | apply Kd.R_drewN | apply Kd.R_drew)); exact HO_14.out)); (case aS => exact (below_size zB)); (case aL => have := LMc36.out; omega); intro v416 w38 ho hb hg hat; rw [← Ny415.out] at ho; replace HO_7 := Aside0.mk (Kd.R_over' (by (with_reducible repeat (first | apply Kd.R_alloc | apply Kd.R_drewN | apply Kd.R_drew)); exact HO_7.out) (Kd.R_typed (by (with_reducible repeat (first | apply Kd.R_alloc | apply Kd.R_drewN | apply Kd.R_drew)); exact HO_14.out)) (by decide) hg); replace HO_9 := Aside0.mk (Kd.S_after (ok := (fun _ => True)) (by (with_reducible repeat (first | apply Kd.S_alloc | apply Kd.S_drewN | apply Kd.S_drew)); exact Kd.S_mono HO_9.out (fun _ hk => ⟨trivial, hk⟩)) hg hat); replace BK397 := Aside0.mk (blk_grown (zk BK397) hg (Kd.R_ne HO_14.out BK397.out (by decide))); replace HL407_0 := Aside0.mk (Kd.R_after (ok := (fun k_ => some k_ ≠ (.slice (some ad407) t404.length co27 : Value).ownBlock)) (by (with_reducible repeat (first | apply Kd.R_alloc | apply Kd.R_drewN | apply Kd.R_drew)); exact Kd.R_mono HL407_0.out (fun _ hk => ⟨hk.2, hk.1⟩)) hg hat); replace HL408_0 := Aside0.mk (Kd.R_after (ok := (fun k_ => some k_ ≠ (.slice (some ad407) t404.length co27 : Value).ownBlock)) (by (with_reducible repeat (first | apply Kd.R_alloc | apply Kd.R_drewN | apply Kd.R_drew)); exact Kd.R_mono HL408_0.out (fun _ hk => ⟨hk.2, hk.1⟩)) hg hat); replace HL413_0 := Aside0.mk (Kd.R_after (ok := (fun k_ => some k_ ≠ (.slice (some ad407) t404.length co27 : Value).ownBlock)) (by (with_reducible repeat (first | apply Kd.R_alloc | apply Kd.R_drewN | apply Kd.R_drew)); exact Kd.R_mono HL413_0.out (fun _ hk => ⟨hk.2, hk.1⟩)) hg hat); have HO417 := Aside0.mk (ho); replace HB := Aside0.mk (hb); clear HO_14; clear ho hb hg hat))
                       go_roundg k5
                       case measure => have := HJ3.out; have := HK2.out; have := HK3.out; have := HK4.out; have := HK5.out; omega
                       case rel => exact ⟨(x12_5), (x13_5), (y415), (wrap64 (x15_5 + 1)), zF, zF, zF, H', ⟨by have := HJ3.out; have := HK2.out; have := HK3.out; have := HK4.out; have := HK5.out; omega⟩, ⟨zR HO_7⟩, ⟨by (with_reducible repeat (first | apply Kd.S_alloc | apply Kd.S_drewN | apply Kd.S_drew)); exact Kd.S_mono HO_9.out (fun _ hk => hk.2)⟩, ⟨zR HO417⟩, ⟨zk BK397⟩, ⟨zB⟩⟩
                      ·
                       rw [if_neg c36] at H
                       exact absurd H (by simp)
                    ·
                     rw [if_neg c33] at H
                     exact absurd H (by simp)
                   ·
                    rw [if_neg c32] at H
                    exact absurd H (by simp)
                  ·
                   rw [if_neg c31] at H
                   exact absurd H (by simp)
                 ·
                  rw [if_neg c30] at H
                  have c30b0 : decide (x15_5 < ((rd_L3 t404 x11_4).length : Int)) = false := decide_eq_false c30
                  clear c30; by_cases c39 : x12_5 = 1
                  ·
                   rw [if_pos c39] at H
                   have c39b0 : (x12_5 == 1) = true := beq_iff_eq.mpr c39
                   have c39b1 : (x12_5 != 1) = false := bne_eq_false_iff_eq.mpr c39
                   clear c39; replace H := Option.bind_eq_some_iff.mp H
                   obtain ⟨t418, A400, H⟩ := H
                   replace H : (if 0 ≤ x13_5 then (if x13_5 < (x7_4.length : Int) then (mosaicref09_Fill.l2 k5 l1 t398 (x7_4.set (x13_5 : Int).toNat t418) t404 x10_3 (wrap64 (x11_4 + 1))) else (none)) else (none)) = some (r1, r2) := H
                   have A40 := Aside0.mk A400
                   clear A400; by_cases c41 : 0 ≤ x13_5
                   ·
                    rw [if_pos c41] at H
                    have c41b0 : decide (0 ≤ x13_5) = true := decide_eq_true c41
                    clear c41; by_cases c42 : x13_5 < (x7_4.length : Int)
                    ·
                     rw [if_pos c42] at H
                     have c42b0 : decide (x13_5 < (x7_4.length : Int)) = true := decide_eq_true c42
                     clear c42; obtain ⟨y419, hy419⟩ : ∃ y_ : List ByteArray, y_ = (x7_4.set (x13_5 : Int).toNat t418) := ⟨_, rfl⟩
                     replace H : (mosaicref09_Fill.l2 k5 l1 t398 y419 t404 x10_3 (wrap64 (x11_4 + 1))) = some (r1, r2) := by first | (rw [hy419]; with_reducible exact H) | (have H2_ := (Option.bind_some _ _).symm.trans H; rw [hy419]; with_reducible exact H2_) | (have H2_ := (Option.bind_some _ _).symm.trans H; with_reducible exact H2_) | with_reducible exact H | (rw [hy419]; exact H) | exact H
                     have Ny419 := Aside0.mk hy419
                     clear hy419; have H' := Aside0.mk H
                     clear H; have p407 : 0 ≤ (x11_4 : Int) := of_decide_eq_true zA
                     have q407 : x11_4 < (t404.length : Int) := of_decide_eq_true zA
                     obtain ⟨ad407, A407_0, c407_0, e407, hx407_0, hl407_0, hi407_0⟩ := at_L3 (Kd.S_reads' HO_9.out).2.2 x11_4 p407 q407
                     cases e407
                     obtain ⟨ce407, hce407, hMe407, hcc407⟩ := Kd.S_get HO_9.out [] x11_4 p407 (by first | exact q407 | exact of_decide_eq_true zA | (have e_ := (Kd.S_reads' HO_9.out).1; omega))
                     obtain ⟨ve407_0, rfl, ge407_0⟩ := hMe407
                     have hv407_0 := hcc407 0 _ rfl
                     rw [Nat.add_zero, show ((Kd.slice 3 (Kd.int .i64))).sz = 1 from rfl, Nat.mul_one] at hv407_0
                     replace hv407_0 := Option.some.inj (hv407_0.symm.trans hx407_0)
                     rw [hv407_0] at ge407_0
                     have HL407_0 := Aside0.mk (show Kd.R (Kd.int .i64) 3 _ _ _ _ (rd_L3 t404 x11_4) from ge407_0)
                     clear hv407_0 ge407_0 hcc407 hce407; have HR407_0 := Aside0.mk hi407_0
                     have HC407_0 := Aside0.mk hl407_0
                     clear hi407_0 hl407_0; replace p407 := eq_true p407
                     replace q407 := eq_true q407
                     obtain ⟨Ao44, co44, eo44⟩ := Kd.R_slice HO_7.out
                     subst eo44
                     obtain ⟨Ao45, co45, eo45⟩ := Kd.R_slice HO_14.out
                     subst eo45
                     go_wp2_with (first | ((with_reducible refine gate_callee (f := 39) rfl ?_); refine goesL_ (some 111) rfl rfl Tryz.func39 (by kernel_rfl) rfl #[.slice Ao44 x7_4.length co44, .slice Ao45 x14_5.length co45, .int .i64 t398] rfl zM ?_; (with_reducible refine (mosaicref09_Sum.calls k5 _ _ x7_4 _ _ x14_5 t398 t418 _ ?side1 ?side2 ?side3 ?side4 A40.out).mono ?_); (case side1 => exact zRC HO_7); (case side2 => exact (Kd.R_reads' HO_7.out).2.1); (case side3 => exact zRC HO_14); (case side4 => exact (Kd.R_reads' HO_14.out).2.1); rintro e w46 ⟨rfl, hb⟩; refine ⟨_, rfl, ?_⟩; replace HO_7 := Aside0.mk (Kd.R_below (zR HO_7) hb); replace HO_9 := Aside0.mk (Kd.S_below (zS HO_9) hb); replace HO_14 := Aside0.mk (Kd.R_below (zR HO_14) hb); replace HL407_0 := Aside0.mk (Kd.R_below (zR HL407_0) hb); replace BK397 := Aside0.mk (blk_below (zk BK397) hb); replace HR407_0 := Aside0.mk (Kd.C_below (zC HR407_0) hb); replace HB := Aside0.mk (below_step zB hb); (try clear hb); (try clear hb2); (try clear hk); (try clear hi); have p43 : 0 ≤ (x13_5 : Int) := of_decide_eq_true zA; have q43 : (x13_5 : Int) < ((x7_4.length : Int) : Int) := of_decide_eq_true zA; obtain ⟨go43, co43, eo43, gb43, gl43, cl43, HG43⟩ := Kd.R_form HO_7.out (by omega); (first | cases eo43 | (injection eo43 with ea_ en_ ec_; (first | subst ea_ | (injection ea_ with ea_; subst ea_)); subst ec_; clear en_)); have GB43 := Aside0.mk gb43; have GG43 := Aside0.mk HG43; clear gb43 gl43 HG43; obtain ⟨hx43_0, hf43_0⟩ := Kd.R_celln (⟨#[]⟩ : ByteArray) HO_7.out (x13_5 : Int) p43 q43; replace p43 := eq_true p43; replace q43 := eq_true q43; obtain ⟨hy47_, hz47_⟩ := Kd.R_celln (⟨#[]⟩ : ByteArray) HO_7.out (x13_5 : Int) (of_decide_eq_true zA) (of_decide_eq_true zA); have HP47 := Kd.R_putg HO_7.out (x13_5 : Int) t418) | ((with_reducible refine gate_store (t := 9) (p := 112) rfl ?_); refine store_event (t := 9) (p := 112) (v := ?vo_w48) (w1 := (w46.setCell ⟨go43, (x13_5 : Int).toNat, none⟩ (.string t418))) ?hg ?ho ?hn ?hr ?_; (case ho => rfl); (case hg => rfl); (case hn => rfl); (case hr => first | (go_simp; done) | (go_simp; rfl)); intro w48 hw; have hg : w46.grownBy w48 (some go43) := (by rw [hw]; exact HP47.2); have hp_ : Kd.R Kd.string 9 w48 w.heap.size (fun _ => True) (.slice (some ⟨go43, 0, none⟩) x7_4.length co44) y419 := (by rw [hw, Ny419.out]; exact HP47.1); clear HP47; have n0_ := Aside0.mk (hp_); have n1_ := Aside0.mk (Kd.S_over' (v := (.slice (some ⟨go43, 0, none⟩) x7_4.length co44)) (by (with_reducible repeat (first | apply Kd.S_alloc | apply Kd.S_drewN | apply Kd.S_drew)); exact HO_9.out) (Kd.R_typed HO_7.out) (by decide) hg); have n2_ := Aside0.mk (Kd.R_over' (v := (.slice (some ⟨go43, 0, none⟩) x7_4.length co44)) (by (with_reducible repeat (first | apply Kd.R_alloc | apply Kd.R_drewN | apply Kd.R_drew)); exact HO_14.out) (Kd.R_typed HO_7.out) (by decide) hg); have n3_ := Aside0.mk (blk_grown (zk BK397) hg (Kd.R_ne HO_7.out BK397.out (by decide))); have n4_ := Aside0.mk (Kd.R_over' (v := (.slice (some ⟨go43, 0, none⟩) x7_4.length co44)) (by (with_reducible repeat (first | apply Kd.R_alloc | apply Kd.R_drewN | apply Kd.R_drew)); exact HL407_0.out) (Kd.R_typed HO_7.out) (by decide) hg); have n5_ := Aside0.mk ((by rw [hw]; exact below_set (HB.out) GB43.out : Below w.heap.size w w48)); clear HO_7; clear HO_9; clear HO_14; clear BK397; clear HL407_0; clear HB; have HO_7 := n0_; have HO_9 := n1_; have HO_14 := n2_; have BK397 := n3_; have HL407_0 := n4_; have HB := n5_; clear n0_ n1_ n2_ n3_ n4_ n5_; clear hg hw hp_))
                     go_roundg k5
                     case measure => have := HJ3.out; have := HK2.out; have := HK3.out; have := HK4.out; have := HK5.out; omega
                     case rel => exact ⟨(y419), (wrap64 (x11_4 + 1)), zF, H', ⟨by have := HJ3.out; have := HK2.out; have := HK3.out; have := HK4.out; have := HK5.out; omega⟩, ⟨zR HO_7⟩, ⟨by (with_reducible repeat (first | apply Kd.S_alloc | apply Kd.S_drewN | apply Kd.S_drew)); exact Kd.S_mono HO_9.out (fun _ hk => trivial)⟩, ⟨zk BK397⟩, ⟨zB⟩⟩
                    ·
                     rw [if_neg c42] at H
                     exact absurd H (by simp)
                   ·
                    rw [if_neg c41] at H
                    exact absurd H (by simp)
                  ·
                   rw [if_neg c39] at H
                   have c39b0 : (x12_5 == 1) = false := beq_eq_false_iff_ne.mpr c39
                   have c39b1 : (x12_5 != 1) = true := bne_iff_ne.mpr c39
                   have H' := Aside0.mk H
                   clear H; have p407 : 0 ≤ (x11_4 : Int) := of_decide_eq_true zA
                   have q407 : x11_4 < (t404.length : Int) := of_decide_eq_true zA
                   obtain ⟨ad407, A407_0, c407_0, e407, hx407_0, hl407_0, hi407_0⟩ := at_L3 (Kd.S_reads' HO_9.out).2.2 x11_4 p407 q407
                   cases e407
                   obtain ⟨ce407, hce407, hMe407, hcc407⟩ := Kd.S_get HO_9.out [] x11_4 p407 (by first | exact q407 | exact of_decide_eq_true zA | (have e_ := (Kd.S_reads' HO_9.out).1; omega))
                   obtain ⟨ve407_0, rfl, ge407_0⟩ := hMe407
                   have hv407_0 := hcc407 0 _ rfl
                   rw [Nat.add_zero, show ((Kd.slice 3 (Kd.int .i64))).sz = 1 from rfl, Nat.mul_one] at hv407_0
                   replace hv407_0 := Option.some.inj (hv407_0.symm.trans hx407_0)
                   rw [hv407_0] at ge407_0
                   have HL407_0 := Aside0.mk (show Kd.R (Kd.int .i64) 3 _ _ _ _ (rd_L3 t404 x11_4) from ge407_0)
                   clear hv407_0 ge407_0 hcc407 hce407; have HR407_0 := Aside0.mk hi407_0
                   have HC407_0 := Aside0.mk hl407_0
                   clear hi407_0 hl407_0; replace p407 := eq_true p407
                   replace q407 := eq_true q407
                   go_wp2
                   go_roundg k5
                   case measure => have := HJ3.out; have := HK2.out; have := HK3.out; have := HK4.out; have := HK5.out; omega
                   case rel => exact ⟨(x7_4), (wrap64 (x11_4 + 1)), zF, H', ⟨by have := HJ3.out; have := HK2.out; have := HK3.out; have := HK4.out; have := HK5.out; omega⟩, ⟨zR HO_7⟩, ⟨by (with_reducible repeat (first | apply Kd.S_alloc | apply Kd.S_drewN | apply Kd.S_drew)); exact Kd.S_mono HO_9.out (fun _ hk => trivial)⟩, ⟨zk BK397⟩, ⟨zB⟩⟩
                ·
                 rw [if_neg c29] at H
                 exact absurd H (by simp)
               ·
                rw [if_neg c28] at H
                exact absurd H (by simp)
            ·
             rw [if_neg c26] at H
             have c26b0 : decide (x11_4 < (t404.length : Int)) = false := decide_eq_false c26
             clear c26; have H' := Aside0.mk H
             clear H; obtain ⟨Ao49, co49, eo49⟩ := Kd.S_slice HO_9.out
             subst eo49
             go_wp2
             go_roundg k4
             case measure => have := HJ3.out; have := HK2.out; have := HK3.out; have := HK4.out; omega
             case rel => exact ⟨(x7_4), (wrap64 (x10_3 + 1)), zF, H', ⟨by have := HJ3.out; have := HK2.out; have := HK3.out; have := HK4.out; omega⟩, ⟨zR HO_7⟩, ⟨zS HO_9⟩, ⟨zk BK397⟩, ⟨zB⟩⟩
         ·
          rw [if_neg c25] at H
          have c25b0 : decide (x10_3 < (l1.length : Int)) = false := decide_eq_false c25
          clear c25; have H' := Aside0.mk H
          clear H; go_wp2
          go_loopg [16] k3 (fun kq v16 w' => ∃ (x16_4 : Int), v16 = .int .i64 x16_4 ∧ Aside0 (mosaicref09_Fill.l4 kq t398 x7_3 t404 x16_4 = some (r1, r2)) ∧ Aside0 (kq ≤ k3) ∧ Aside0 (Kd.R Kd.string 9 w' w.heap.size (fun _ => True) u7 x7_3) ∧ Aside0 (Kd.S (Kd.slice 3 (Kd.int .i64)) 26 w' w.heap.size (fun _ => True) v405 t404) ∧ Aside0 (w'.heap[gb397]? = some (.cells #[.int .i64 a0_0, .int .i64 a0_1, .int .i64 a0_2, .int .i64 a0_3] 24 (0, 0))) ∧ Aside0 (Below w.heap.size w w'))
          case atStart => exact ⟨(0), zF, H', ⟨Nat.le_refl _⟩, ⟨zR HO_7⟩, ⟨zS HO_9⟩, ⟨zk BK397⟩, ⟨zB⟩⟩
          case round =>
           clear H'
           (try clear c1); (try clear c2); (try clear p2); (try clear c3); (try clear c4); (try clear p4); (try clear q4); (try clear hx4); (try clear hf4); (try clear p6); (try clear c7); (try clear c8); (try clear c8b0); (try clear c8b1); (try clear c10); (try clear c17); (try clear c18); (try clear c18b0); (try clear c19); (try clear c19b0); (try clear c20); (try clear c25); (try clear c25b0); (try clear c26); (try clear c26b0); (try clear c28); (try clear c28b0); (try clear c29); (try clear c29b0); (try clear c30); (try clear c30b0); (try clear c31); (try clear c31b0); (try clear c32); (try clear c32b0); (try clear c33); (try clear c33b0); (try clear c34); (try clear c34b0); (try clear c34b1); (try clear c36); (try clear c39); (try clear c39b0); (try clear c39b1); (try clear c40); (try clear p40); (try clear q40); (try clear hx40); (try clear c41); (try clear c41b0); (try clear p41); (try clear q41); (try clear hx41); (try clear c42); (try clear c42b0); (try clear p43); (try clear q43); (try clear hx43); (try clear hf43); (try clear hcz11_0); (try clear hcz11_1); (try clear hcz11_2); (try clear hcz11_3); (try clear hcz12_0); (try clear hcz12_1); (try clear hcz12_2); (try clear hcz12_3); (try clear hcz14_0); (try clear hcz14_1); (try clear hcz14_2); (try clear hcz14_3); (try clear hcz15_0); (try clear hcz15_1); (try clear hcz15_2); (try clear hcz15_3); (try clear hcz23_0); (try clear hcz23_1); (try clear hcz23_2); (try clear hcz23_3); (try clear hcz9_0); (try clear hcz9_1); (try clear hcz9_2); (try clear hcz9_3); (try clear hfz11_0); (try clear hfz11_1); (try clear hfz11_2); (try clear hfz11_3); (try clear hfz12_0); (try clear hfz12_1); (try clear hfz12_2); (try clear hfz12_3); (try clear hfz14_0); (try clear hfz14_1); (try clear hfz14_2); (try clear hfz14_3); (try clear hfz15_0); (try clear hfz15_1); (try clear hfz15_2); (try clear hfz15_3); (try clear hfz23_0); (try clear hfz23_1); (try clear hfz23_2); (try clear hfz23_3); (try clear hfz9_0); (try clear hfz9_1); (try clear hfz9_2); (try clear hfz9_3); (try clear hx400_0); (try clear hx407_0); (try clear hx408_0); (try clear hx409_0); (try clear hx410_0); (try clear hx411_0); (try clear hx412_0); (try clear hx413_0); (try clear hx414_0); (try clear hx43_0); (try clear p2); (try clear p4); (try clear p400); (try clear p407); (try clear p408); (try clear p409); (try clear p410); (try clear p411); (try clear p412); (try clear p413); (try clear p414); (try clear p43); (try clear p6); (try clear q4); (try clear q400); (try clear q407); (try clear q408); (try clear q409); (try clear q410); (try clear q411); (try clear q412); (try clear q413); (try clear q414); (try clear q43); obtain ⟨x16_4, rfl, HA, HK4, HO_7, HO_9, BK397, HB⟩ := hrel
           cases gk with
           | zero => exact absurd HA.out (by simp [mosaicref09_Fill.l4])
           | succ k4 =>
            have H := HA.out; clear HA; simp only [mosaicref09_Fill.l4] at H
            by_cases c50 : x16_4 < (t404.length : Int)
            ·
             rw [if_pos c50] at H
             have c50b0 : decide (x16_4 < (t404.length : Int)) = true := decide_eq_true c50
             clear c50; have H' := Aside0.mk H
             clear H; obtain ⟨Ao51, co51, eo51⟩ := Kd.S_slice HO_9.out
             subst eo51
             go_wp2
             go_loopg [17, 18] k4 (fun kq v17 v18 w' => ∃ (x17_5 : Bool) (x18_5 : Int), v17 = .bool x17_5 ∧ v18 = .int .i64 x18_5 ∧ Aside0 (mosaicref09_Fill.l5 kq t398 x7_3 t404 x16_4 x17_5 x18_5 = some (r1, r2)) ∧ Aside0 (kq ≤ k4) ∧ Aside0 (Kd.R Kd.string 9 w' w.heap.size (fun _ => True) u7 x7_3) ∧ Aside0 (Kd.S (Kd.slice 3 (Kd.int .i64)) 26 w' w.heap.size (fun _ => True) (.slice Ao51 t404.length co51) t404) ∧ Aside0 (w'.heap[gb397]? = some (.cells #[.int .i64 a0_0, .int .i64 a0_1, .int .i64 a0_2, .int .i64 a0_3] 24 (0, 0))) ∧ Aside0 (Below w.heap.size w w'))
             case atStart => exact ⟨(true), (0), zF, zF, H', ⟨Nat.le_refl _⟩, ⟨zR HO_7⟩, ⟨zS HO_9⟩, ⟨zk BK397⟩, ⟨zB⟩⟩
             case round =>
              clear H'
              (try clear c1); (try clear c2); (try clear p2); (try clear c3); (try clear c4); (try clear p4); (try clear q4); (try clear hx4); (try clear hf4); (try clear c5); (try clear p6); (try clear c7); (try clear c8); (try clear c8b0); (try clear c8b1); (try clear c10); (try clear c17); (try clear c18); (try clear c18b0); (try clear c19); (try clear c19b0); (try clear c20); (try clear c25); (try clear c25b0); (try clear c26); (try clear c26b0); (try clear c28); (try clear c28b0); (try clear c29); (try clear c29b0); (try clear c30); (try clear c30b0); (try clear c31); (try clear c31b0); (try clear c32); (try clear c32b0); (try clear c33); (try clear c33b0); (try clear c34); (try clear c34b0); (try clear c34b1); (try clear c36); (try clear c39); (try clear c39b0); (try clear c39b1); (try clear c40); (try clear p40); (try clear q40); (try clear hx40); (try clear c41); (try clear c41b0); (try clear p41); (try clear q41); (try clear hx41); (try clear c42); (try clear c42b0); (try clear p43); (try clear q43); (try clear hx43); (try clear hf43); (try clear c50); (try clear c50b0); (try clear hcz11_0); (try clear hcz11_1); (try clear hcz11_2); (try clear hcz11_3); (try clear hcz12_0); (try clear hcz12_1); (try clear hcz12_2); (try clear hcz12_3); (try clear hcz14_0); (try clear hcz14_1); (try clear hcz14_2); (try clear hcz14_3); (try clear hcz15_0); (try clear hcz15_1); (try clear hcz15_2); (try clear hcz15_3); (try clear hcz23_0); (try clear hcz23_1); (try clear hcz23_2); (try clear hcz23_3); (try clear hcz9_0); (try clear hcz9_1); (try clear hcz9_2); (try clear hcz9_3); (try clear hfz11_0); (try clear hfz11_1); (try clear hfz11_2); (try clear hfz11_3); (try clear hfz12_0); (try clear hfz12_1); (try clear hfz12_2); (try clear hfz12_3); (try clear hfz14_0); (try clear hfz14_1); (try clear hfz14_2); (try clear hfz14_3); (try clear hfz15_0); (try clear hfz15_1); (try clear hfz15_2); (try clear hfz15_3); (try clear hfz23_0); (try clear hfz23_1); (try clear hfz23_2); (try clear hfz23_3); (try clear hfz9_0); (try clear hfz9_1); (try clear hfz9_2); (try clear hfz9_3); (try clear hx400_0); (try clear hx407_0); (try clear hx408_0); (try clear hx409_0); (try clear hx410_0); (try clear hx411_0); (try clear hx412_0); (try clear hx413_0); (try clear hx414_0); (try clear hx43_0); (try clear p2); (try clear p4); (try clear p40); (try clear p400); (try clear p407); (try clear p408); (try clear p409); (try clear p41); (try clear p410); (try clear p411); (try clear p412); (try clear p413); (try clear p414); (try clear p43); (try clear p6); (try clear q4); (try clear q40); (try clear q400); (try clear q407); (try clear q408); (try clear q409); (try clear q41); (try clear q410); (try clear q411); (try clear q412); (try clear q413); (try clear q414); (try clear q43); obtain ⟨x17_5, x18_5, rfl, rfl, HA, HK5, HO_7, HO_9, BK397, HB⟩ := hrel
              cases gk with
              | zero => exact absurd HA.out (by simp [mosaicref09_Fill.l5])
              | succ k5 =>
               have H := HA.out; clear HA; simp only [mosaicref09_Fill.l5] at H
               by_cases c52 : 0 ≤ x16_4
               ·
                rw [if_pos c52] at H
                have c52b0 : decide (0 ≤ x16_4) = true := decide_eq_true c52
                clear c52; by_cases c53 : x16_4 < (t404.length : Int)
                ·
                 rw [if_pos c53] at H
                 have c53b0 : decide (x16_4 < (t404.length : Int)) = true := decide_eq_true c53
                 clear c53; by_cases c54 : x18_5 < ((rd_L3 t404 x16_4).length : Int)
                 ·
                  rw [if_pos c54] at H
                  have c54b0 : decide (x18_5 < ((rd_L3 t404 x16_4).length : Int)) = true := decide_eq_true c54
                  clear c54; by_cases c55 : x17_5 = true
                  ·
                   subst c55
                   have H1 : (if 0 ≤ x18_5 then (if 0 ≤ (rd (rd_L3 t404 x16_4) x18_5) then (if (rd (rd_L3 t404 x16_4) x18_5) < (x7_3.length : Int) then (mosaicref09_Fill.l5 k5 t398 x7_3 t404 x16_4 ((rdOf ByteArray.empty x7_3 (rd (rd_L3 t404 x16_4) x18_5)).toList != ([] : List UInt8)) (wrap64 (x18_5 + 1))) else (none)) else (none)) else (none)) = some (r1, r2) := by rw [if_pos rfl] at H; exact H
                   clear H; have H := H1; clear H1; by_cases c56 : 0 ≤ x18_5
                   ·
                    rw [if_pos c56] at H
                    have c56b0 : decide (0 ≤ x18_5) = true := decide_eq_true c56
                    clear c56; by_cases c57 : 0 ≤ (rd (rd_L3 t404 x16_4) x18_5)
                    ·
                     rw [if_pos c57] at H
                     have c57b0 : decide (0 ≤ (rd (rd_L3 t404 x16_4) x18_5)) = true := decide_eq_true c57
                     clear c57; by_cases c58 : (rd (rd_L3 t404 x16_4) x18_5) < (x7_3.length : Int)
                     ·
                      rw [if_pos c58] at H
                      have c58b0 : decide ((rd (rd_L3 t404 x16_4) x18_5) < (x7_3.length : Int)) = true := decide_eq_true c58
                      clear c58; have H' := Aside0.mk H
                      clear H; have p420 : 0 ≤ (x16_4 : Int) := of_decide_eq_true zA
                      have q420 : x16_4 < (t404.length : Int) := of_decide_eq_true zA
                      obtain ⟨ad420, A420_0, c420_0, e420, hx420_0, hl420_0, hi420_0⟩ := at_L3 (Kd.S_reads' HO_9.out).2.2 x16_4 p420 q420
                      cases e420
                      obtain ⟨ce420, hce420, hMe420, hcc420⟩ := Kd.S_get HO_9.out [] x16_4 p420 (by first | exact q420 | exact of_decide_eq_true zA | (have e_ := (Kd.S_reads' HO_9.out).1; omega))
                      obtain ⟨ve420_0, rfl, ge420_0⟩ := hMe420
                      have hv420_0 := hcc420 0 _ rfl
                      rw [Nat.add_zero, show ((Kd.slice 3 (Kd.int .i64))).sz = 1 from rfl, Nat.mul_one] at hv420_0
                      replace hv420_0 := Option.some.inj (hv420_0.symm.trans hx420_0)
                      rw [hv420_0] at ge420_0
                      have HL420_0 := Aside0.mk (show Kd.R (Kd.int .i64) 3 _ _ _ _ (rd_L3 t404 x16_4) from ge420_0)
                      clear hv420_0 ge420_0 hcc420 hce420; have HR420_0 := Aside0.mk hi420_0
                      have HC420_0 := Aside0.mk hl420_0
                      clear hi420_0 hl420_0; replace p420 := eq_true p420
                      replace q420 := eq_true q420
                      have p421 : 0 ≤ (x16_4 : Int) := of_decide_eq_true zA
                      have q421 : x16_4 < (t404.length : Int) := of_decide_eq_true zA
                      obtain ⟨ad421, A421_0, c421_0, e421, hx421_0, hl421_0, hi421_0⟩ := at_L3 (Kd.S_reads' HO_9.out).2.2 x16_4 p421 q421
                      obtain rfl : ad420 = ad421 := (by injection e421)
                      obtain ⟨ce421, hce421, hMe421, hcc421⟩ := Kd.S_get HO_9.out [] x16_4 p421 (by first | exact q421 | exact of_decide_eq_true zA | (have e_ := (Kd.S_reads' HO_9.out).1; omega))
                      obtain ⟨ve421_0, rfl, ge421_0⟩ := hMe421
                      have hv421_0 := hcc421 0 _ rfl
                      rw [Nat.add_zero, show ((Kd.slice 3 (Kd.int .i64))).sz = 1 from rfl, Nat.mul_one] at hv421_0
                      replace hv421_0 := Option.some.inj (hv421_0.symm.trans hx421_0)
                      rw [hv421_0] at ge421_0
                      have HL421_0 := Aside0.mk (show Kd.R (Kd.int .i64) 3 _ _ _ _ (rd_L3 t404 x16_4) from ge421_0)
                      clear hv421_0 ge421_0 hcc421 hce421; have HR421_0 := Aside0.mk hi421_0
                      have HC421_0 := Aside0.mk hl421_0
                      clear hi421_0 hl421_0; replace p421 := eq_true p421
                      replace q421 := eq_true q421
                      have ea_ := Option.some.inj (hx420_0.symm.trans hx421_0)
                      injection ea_ with ea_ en_ ec_
                      subst ea_
                      subst ec_
                      clear en_; have p422 : 0 ≤ (x18_5 : Int) := of_decide_eq_true zA
                      have q422 : x18_5 < ((rd_L3 t404 x16_4).length : Int) := of_decide_eq_true zA
                      obtain ⟨ad422, e422, hx422_0⟩ := Kd.at_int (zC HR421_0) x18_5 p422 q422
                      cases e422
                      replace p422 := eq_true p422
                      replace q422 := eq_true q422
                      obtain ⟨Ao59, co59, eo59⟩ := Kd.R_slice HO_7.out
                      subst eo59
                      have p423 : 0 ≤ ((rd (rd_L3 t404 x16_4) x18_5) : Int) := of_decide_eq_true zA
                      have q423 : (rd (rd_L3 t404 x16_4) x18_5) < (x7_3.length : Int) := of_decide_eq_true zA
                      obtain ⟨ad423, e423, hx423_0⟩ := Kd.at_string (Kd.R_reads' HO_7.out).2.2 (rd (rd_L3 t404 x16_4) x18_5) p423 q423
                      cases e423
                      replace p423 := eq_true p423
                      replace q423 := eq_true q423
                      go_wp2
                      go_roundg k5
                      case measure => have := HJ3.out; have := HK2.out; have := HK3.out; have := HK4.out; have := HK5.out; omega
                      case rel => exact ⟨(((rdOf ByteArray.empty x7_3 (rd (rd_L3 t404 x16_4) x18_5)).toList != ([] : List UInt8))), (wrap64 (x18_5 + 1)), zF, zF, H', ⟨by have := HJ3.out; have := HK2.out; have := HK3.out; have := HK4.out; have := HK5.out; omega⟩, ⟨zR HO_7⟩, ⟨zS HO_9⟩, ⟨zk BK397⟩, ⟨zB⟩⟩
                     ·
                      rw [if_neg c58] at H
                      exact absurd H (by simp)
                    ·
                     rw [if_neg c57] at H
                     exact absurd H (by simp)
                   ·
                    rw [if_neg c56] at H
                    exact absurd H (by simp)
                  ·
                   replace c55 := Bool.eq_false_iff.mpr c55
                   subst c55
                   have H1 : (mosaicref09_Fill.l5 k5 t398 x7_3 t404 x16_4 false (wrap64 (x18_5 + 1))) = some (r1, r2) := by rw [if_neg (show ¬ (false = true) by decide)] at H; exact H
                   clear H; have H := H1; clear H1; have H' := Aside0.mk H
                   clear H; have p420 : 0 ≤ (x16_4 : Int) := of_decide_eq_true zA
                   have q420 : x16_4 < (t404.length : Int) := of_decide_eq_true zA
                   obtain ⟨ad420, A420_0, c420_0, e420, hx420_0, hl420_0, hi420_0⟩ := at_L3 (Kd.S_reads' HO_9.out).2.2 x16_4 p420 q420
                   cases e420
                   obtain ⟨ce420, hce420, hMe420, hcc420⟩ := Kd.S_get HO_9.out [] x16_4 p420 (by first | exact q420 | exact of_decide_eq_true zA | (have e_ := (Kd.S_reads' HO_9.out).1; omega))
                   obtain ⟨ve420_0, rfl, ge420_0⟩ := hMe420
                   have hv420_0 := hcc420 0 _ rfl
                   rw [Nat.add_zero, show ((Kd.slice 3 (Kd.int .i64))).sz = 1 from rfl, Nat.mul_one] at hv420_0
                   replace hv420_0 := Option.some.inj (hv420_0.symm.trans hx420_0)
                   rw [hv420_0] at ge420_0
                   have HL420_0 := Aside0.mk (show Kd.R (Kd.int .i64) 3 _ _ _ _ (rd_L3 t404 x16_4) from ge420_0)
                   clear hv420_0 ge420_0 hcc420 hce420; have HR420_0 := Aside0.mk hi420_0
                   have HC420_0 := Aside0.mk hl420_0
                   clear hi420_0 hl420_0; replace p420 := eq_true p420
                   replace q420 := eq_true q420
                   go_wp2
                   go_roundg k5
                   case measure => have := HJ3.out; have := HK2.out; have := HK3.out; have := HK4.out; have := HK5.out; omega
                   case rel => exact ⟨(false), (wrap64 (x18_5 + 1)), zF, zF, H', ⟨by have := HJ3.out; have := HK2.out; have := HK3.out; have := HK4.out; have := HK5.out; omega⟩, ⟨zR HO_7⟩, ⟨zS HO_9⟩, ⟨zk BK397⟩, ⟨zB⟩⟩
                 ·
                  rw [if_neg c54] at H
                  have c54b0 : decide (x18_5 < ((rd_L3 t404 x16_4).length : Int)) = false := decide_eq_false c54
                  clear c54; by_cases c60 : x17_5 = true
                  ·
                   subst c60
                   have H1 : ((mosaicref09_Sum.f k5 x7_3 (rd_L3 t404 x16_4) t398).bind fun t425 => ((mosaicref07_Zero.f k5 t398).bind fun t426 => (if t425.toList = t426.toList then (mosaicref09_Fill.l4 k5 t398 x7_3 t404 (wrap64 (x16_4 + 1))) else (some (([] : List ByteArray), 9))))) = some (r1, r2) := by rw [if_pos rfl] at H; exact H
                   clear H; have H := H1; clear H1; replace H := Option.bind_eq_some_iff.mp H
                   obtain ⟨t425, A610, H⟩ := H
                   replace H : ((mosaicref07_Zero.f k5 t398).bind fun t426 => (if t425.toList = t426.toList then (mosaicref09_Fill.l4 k5 t398 x7_3 t404 (wrap64 (x16_4 + 1))) else (some (([] : List ByteArray), 9)))) = some (r1, r2) := H
                   have A61 := Aside0.mk A610
                   clear A610; replace H := Option.bind_eq_some_iff.mp H
                   obtain ⟨t426, A620, H⟩ := H
                   replace H : (if t425.toList = t426.toList then (mosaicref09_Fill.l4 k5 t398 x7_3 t404 (wrap64 (x16_4 + 1))) else (some (([] : List ByteArray), 9))) = some (r1, r2) := H
                   have A62 := Aside0.mk A620
                   clear A620; by_cases c63 : t425.toList = t426.toList
                   ·
                    rw [if_pos c63] at H
                    have c63b0 : (t425.toList == t426.toList) = true := beq_iff_eq.mpr c63
                    have c63b1 : (t425.toList != t426.toList) = false := bne_eq_false_iff_eq.mpr c63
                    clear c63; have H' := Aside0.mk H
                    clear H; have p420 : 0 ≤ (x16_4 : Int) := of_decide_eq_true zA
                    have q420 : x16_4 < (t404.length : Int) := of_decide_eq_true zA
                    obtain ⟨ad420, A420_0, c420_0, e420, hx420_0, hl420_0, hi420_0⟩ := at_L3 (Kd.S_reads' HO_9.out).2.2 x16_4 p420 q420
                    cases e420
                    obtain ⟨ce420, hce420, hMe420, hcc420⟩ := Kd.S_get HO_9.out [] x16_4 p420 (by first | exact q420 | exact of_decide_eq_true zA | (have e_ := (Kd.S_reads' HO_9.out).1; omega))
                    obtain ⟨ve420_0, rfl, ge420_0⟩ := hMe420
                    have hv420_0 := hcc420 0 _ rfl
                    rw [Nat.add_zero, show ((Kd.slice 3 (Kd.int .i64))).sz = 1 from rfl, Nat.mul_one] at hv420_0
                    replace hv420_0 := Option.some.inj (hv420_0.symm.trans hx420_0)
                    rw [hv420_0] at ge420_0
                    have HL420_0 := Aside0.mk (show Kd.R (Kd.int .i64) 3 _ _ _ _ (rd_L3 t404 x16_4) from ge420_0)
                    clear hv420_0 ge420_0 hcc420 hce420; have HR420_0 := Aside0.mk hi420_0
                    have HC420_0 := Aside0.mk hl420_0
                    clear hi420_0 hl420_0; replace p420 := eq_true p420
                    replace q420 := eq_true q420
                    have p424 : 0 ≤ (x16_4 : Int) := of_decide_eq_true zA
                    have q424 : x16_4 < (t404.length : Int) := of_decide_eq_true zA
                    obtain ⟨ad424, A424_0, c424_0, e424, hx424_0, hl424_0, hi424_0⟩ := at_L3 (Kd.S_reads' HO_9.out).2.2 x16_4 p424 q424
                    obtain rfl : ad420 = ad424 := (by injection e424)
                    obtain ⟨ce424, hce424, hMe424, hcc424⟩ := Kd.S_get HO_9.out [] x16_4 p424 (by first | exact q424 | exact of_decide_eq_true zA | (have e_ := (Kd.S_reads' HO_9.out).1; omega))
                    obtain ⟨ve424_0, rfl, ge424_0⟩ := hMe424
                    have hv424_0 := hcc424 0 _ rfl
                    rw [Nat.add_zero, show ((Kd.slice 3 (Kd.int .i64))).sz = 1 from rfl, Nat.mul_one] at hv424_0
                    replace hv424_0 := Option.some.inj (hv424_0.symm.trans hx424_0)
                    rw [hv424_0] at ge424_0
                    have HL424_0 := Aside0.mk (show Kd.R (Kd.int .i64) 3 _ _ _ _ (rd_L3 t404 x16_4) from ge424_0)
                    clear hv424_0 ge424_0 hcc424 hce424; have HR424_0 := Aside0.mk hi424_0
                    have HC424_0 := Aside0.mk hl424_0
                    clear hi424_0 hl424_0; replace p424 := eq_true p424
                    replace q424 := eq_true q424
                    have ea_ := Option.some.inj (hx420_0.symm.trans hx424_0)
                    injection ea_ with ea_ en_ ec_
                    subst ea_
                    subst ec_
                    clear en_; obtain ⟨Ao64, co64, eo64⟩ := Kd.R_slice HO_7.out
                    subst eo64
                    go_wp2_with (first | (go_at_call 39; (with_reducible refine (mosaicref09_Sum.calls k5 _ _ x7_3 _ _ (rd_L3 t404 x16_4) t398 t425 _ ?side1 ?side2 ?side3 ?side4 A61.out).mono ?_); (case side1 => exact zRC HO_7); (case side2 => exact (Kd.R_reads' HO_7.out).2.1); (case side3 => exact zC HR424_0); (case side4 => exact HC424_0.out); rintro e w65 ⟨rfl, hb⟩; replace HO_7 := Aside0.mk (Kd.R_below (zR HO_7) hb); replace HO_9 := Aside0.mk (Kd.S_below (zS HO_9) hb); replace HL420_0 := Aside0.mk (Kd.R_below (zR HL420_0) hb); replace HL424_0 := Aside0.mk (Kd.R_below (zR HL424_0) hb); replace BK397 := Aside0.mk (blk_below (zk BK397) hb); replace HR420_0 := Aside0.mk (Kd.C_below (zC HR420_0) hb); replace HR424_0 := Aside0.mk (Kd.C_below (zC HR424_0) hb); replace HB := Aside0.mk (below_step zB hb); (try clear hb); (try clear hb2); (try clear hk); (try clear hi)) | (go_at_call 43; (with_reducible refine (mosaicref07_Zero.calls k5 t398 t426 _ A62.out).mono ?_); rintro e w66 ⟨rfl, hb⟩; replace HO_7 := Aside0.mk (Kd.R_below (zR HO_7) hb); replace HO_9 := Aside0.mk (Kd.S_below (zS HO_9) hb); replace HL420_0 := Aside0.mk (Kd.R_below (zR HL420_0) hb); replace HL424_0 := Aside0.mk (Kd.R_below (zR HL424_0) hb); replace BK397 := Aside0.mk (blk_below (zk BK397) hb); replace HR420_0 := Aside0.mk (Kd.C_below (zC HR420_0) hb); replace HR424_0 := Aside0.mk (Kd.C_below (zC HR424_0) hb); replace HB := Aside0.mk (below_step zB hb); (try clear hb); (try clear hb2); (try clear hk); (try clear hi)))
                    go_roundg k5
                    case measure => have := HJ3.out; have := HK2.out; have := HK3.out; have := HK4.out; have := HK5.out; omega
                    case rel => exact ⟨(wrap64 (x16_4 + 1)), zF, H', ⟨by have := HJ3.out; have := HK2.out; have := HK3.out; have := HK4.out; have := HK5.out; omega⟩, ⟨zR HO_7⟩, ⟨zS HO_9⟩, ⟨zk BK397⟩, ⟨zB⟩⟩
                   ·
                    rw [if_neg c63] at H
                    have c63b0 : (t425.toList == t426.toList) = false := beq_eq_false_iff_ne.mpr c63
                    have c63b1 : (t425.toList != t426.toList) = true := bne_iff_ne.mpr c63
                    simp only [Option.some.injEq, Prod.mk.injEq] at H
                    obtain ⟨rfl, rfl⟩ := H
                    have p420 : 0 ≤ (x16_4 : Int) := of_decide_eq_true zA
                    have q420 : x16_4 < (t404.length : Int) := of_decide_eq_true zA
                    obtain ⟨ad420, A420_0, c420_0, e420, hx420_0, hl420_0, hi420_0⟩ := at_L3 (Kd.S_reads' HO_9.out).2.2 x16_4 p420 q420
                    cases e420
                    obtain ⟨ce420, hce420, hMe420, hcc420⟩ := Kd.S_get HO_9.out [] x16_4 p420 (by first | exact q420 | exact of_decide_eq_true zA | (have e_ := (Kd.S_reads' HO_9.out).1; omega))
                    obtain ⟨ve420_0, rfl, ge420_0⟩ := hMe420
                    have hv420_0 := hcc420 0 _ rfl
                    rw [Nat.add_zero, show ((Kd.slice 3 (Kd.int .i64))).sz = 1 from rfl, Nat.mul_one] at hv420_0
                    replace hv420_0 := Option.some.inj (hv420_0.symm.trans hx420_0)
                    rw [hv420_0] at ge420_0
                    have HL420_0 := Aside0.mk (show Kd.R (Kd.int .i64) 3 _ _ _ _ (rd_L3 t404 x16_4) from ge420_0)
                    clear hv420_0 ge420_0 hcc420 hce420; have HR420_0 := Aside0.mk hi420_0
                    have HC420_0 := Aside0.mk hl420_0
                    clear hi420_0 hl420_0; replace p420 := eq_true p420
                    replace q420 := eq_true q420
                    have p424 : 0 ≤ (x16_4 : Int) := of_decide_eq_true zA
                    have q424 : x16_4 < (t404.length : Int) := of_decide_eq_true zA
                    obtain ⟨ad424, A424_0, c424_0, e424, hx424_0, hl424_0, hi424_0⟩ := at_L3 (Kd.S_reads' HO_9.out).2.2 x16_4 p424 q424
                    obtain rfl : ad420 = ad424 := (by injection e424)
                    obtain ⟨ce424, hce424, hMe424, hcc424⟩ := Kd.S_get HO_9.out [] x16_4 p424 (by first | exact q424 | exact of_decide_eq_true zA | (have e_ := (Kd.S_reads' HO_9.out).1; omega))
                    obtain ⟨ve424_0, rfl, ge424_0⟩ := hMe424
                    have hv424_0 := hcc424 0 _ rfl
                    rw [Nat.add_zero, show ((Kd.slice 3 (Kd.int .i64))).sz = 1 from rfl, Nat.mul_one] at hv424_0
                    replace hv424_0 := Option.some.inj (hv424_0.symm.trans hx424_0)
                    rw [hv424_0] at ge424_0
                    have HL424_0 := Aside0.mk (show Kd.R (Kd.int .i64) 3 _ _ _ _ (rd_L3 t404 x16_4) from ge424_0)
                    clear hv424_0 ge424_0 hcc424 hce424; have HR424_0 := Aside0.mk hi424_0
                    have HC424_0 := Aside0.mk hl424_0
                    clear hi424_0 hl424_0; replace p424 := eq_true p424
                    replace q424 := eq_true q424
                    have ea_ := Option.some.inj (hx420_0.symm.trans hx424_0)
                    injection ea_ with ea_ en_ ec_
                    subst ea_
                    subst ec_
                    clear en_; obtain ⟨Ao67, co67, eo67⟩ := Kd.R_slice HO_7.out
                    subst eo67
                    go_wp2_with (first | (go_at_call 39; (with_reducible refine (mosaicref09_Sum.calls k5 _ _ x7_3 _ _ (rd_L3 t404 x16_4) t398 t425 _ ?side1 ?side2 ?side3 ?side4 A61.out).mono ?_); (case side1 => exact zRC HO_7); (case side2 => exact (Kd.R_reads' HO_7.out).2.1); (case side3 => exact zC HR424_0); (case side4 => exact HC424_0.out); rintro e w68 ⟨rfl, hb⟩; replace HO_7 := Aside0.mk (Kd.R_below (zR HO_7) hb); replace HO_9 := Aside0.mk (Kd.S_below (zS HO_9) hb); replace HL420_0 := Aside0.mk (Kd.R_below (zR HL420_0) hb); replace HL424_0 := Aside0.mk (Kd.R_below (zR HL424_0) hb); replace BK397 := Aside0.mk (blk_below (zk BK397) hb); replace HR420_0 := Aside0.mk (Kd.C_below (zC HR420_0) hb); replace HR424_0 := Aside0.mk (Kd.C_below (zC HR424_0) hb); replace HB := Aside0.mk (below_step zB hb); (try clear hb); (try clear hb2); (try clear hk); (try clear hi)) | (go_at_call 43; (with_reducible refine (mosaicref07_Zero.calls k5 t398 t426 _ A62.out).mono ?_); rintro e w69 ⟨rfl, hb⟩; replace HO_7 := Aside0.mk (Kd.R_below (zR HO_7) hb); replace HO_9 := Aside0.mk (Kd.S_below (zS HO_9) hb); replace HL420_0 := Aside0.mk (Kd.R_below (zR HL420_0) hb); replace HL424_0 := Aside0.mk (Kd.R_below (zR HL424_0) hb); replace BK397 := Aside0.mk (blk_below (zk BK397) hb); replace HR420_0 := Aside0.mk (Kd.C_below (zC HR420_0) hb); replace HR424_0 := Aside0.mk (Kd.C_below (zC HR424_0) hb); replace HB := Aside0.mk (below_step zB hb); (try clear hb); (try clear hb2); (try clear hk); (try clear hi)))
                    go_ret2
                    exact ⟨_, zE, by first | exact Kd.R_nil _ _ _ _ _ | exact Kd.N_nil _ _ _ _ _ | exact Kd.V_nil _ _ _ _ _ | exact Kd.Q_nil _ _ _ _ _ | exact Kd.S_nil _ _ _ _ _, zB⟩
                  ·
                   replace c60 := Bool.eq_false_iff.mpr c60
                   subst c60
                   have H1 : (mosaicref09_Fill.l4 k5 t398 x7_3 t404 (wrap64 (x16_4 + 1))) = some (r1, r2) := by rw [if_neg (show ¬ (false = true) by decide)] at H; exact H
                   clear H; have H := H1; clear H1; have H' := Aside0.mk H
                   clear H; have p420 : 0 ≤ (x16_4 : Int) := of_decide_eq_true zA
                   have q420 : x16_4 < (t404.length : Int) := of_decide_eq_true zA
                   obtain ⟨ad420, A420_0, c420_0, e420, hx420_0, hl420_0, hi420_0⟩ := at_L3 (Kd.S_reads' HO_9.out).2.2 x16_4 p420 q420
                   cases e420
                   obtain ⟨ce420, hce420, hMe420, hcc420⟩ := Kd.S_get HO_9.out [] x16_4 p420 (by first | exact q420 | exact of_decide_eq_true zA | (have e_ := (Kd.S_reads' HO_9.out).1; omega))
                   obtain ⟨ve420_0, rfl, ge420_0⟩ := hMe420
                   have hv420_0 := hcc420 0 _ rfl
                   rw [Nat.add_zero, show ((Kd.slice 3 (Kd.int .i64))).sz = 1 from rfl, Nat.mul_one] at hv420_0
                   replace hv420_0 := Option.some.inj (hv420_0.symm.trans hx420_0)
                   rw [hv420_0] at ge420_0
                   have HL420_0 := Aside0.mk (show Kd.R (Kd.int .i64) 3 _ _ _ _ (rd_L3 t404 x16_4) from ge420_0)
                   clear hv420_0 ge420_0 hcc420 hce420; have HR420_0 := Aside0.mk hi420_0
                   have HC420_0 := Aside0.mk hl420_0
                   clear hi420_0 hl420_0; replace p420 := eq_true p420
                   replace q420 := eq_true q420
                   go_wp2
                   go_roundg k5
                   case measure => have := HJ3.out; have := HK2.out; have := HK3.out; have := HK4.out; have := HK5.out; omega
                   case rel => exact ⟨(wrap64 (x16_4 + 1)), zF, H', ⟨by have := HJ3.out; have := HK2.out; have := HK3.out; have := HK4.out; have := HK5.out; omega⟩, ⟨zR HO_7⟩, ⟨zS HO_9⟩, ⟨zk BK397⟩, ⟨zB⟩⟩
                ·
                 rw [if_neg c53] at H
                 exact absurd H (by simp)
               ·
                rw [if_neg c52] at H
                exact absurd H (by simp)
            ·
             rw [if_neg c50] at H
             have c50b0 : decide (x16_4 < (t404.length : Int)) = false := decide_eq_false c50
             clear c50; simp only [Option.some.injEq, Prod.mk.injEq] at H
             obtain ⟨rfl, rfl⟩ := H
             obtain ⟨Ao70, co70, eo70⟩ := Kd.S_slice HO_9.out
             subst eo70
             go_wp2
             go_ret2
             exact ⟨_, zE, by (with_reducible repeat (first | apply Kd.R_alloc | apply Kd.R_drewN | apply Kd.R_drew)); exact HO_7.out, zB⟩
end Go.Proofs.YtghhmnjkgnoogaaGreat.POuterFills
