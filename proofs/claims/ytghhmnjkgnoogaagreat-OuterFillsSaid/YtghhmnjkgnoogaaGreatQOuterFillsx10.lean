-- Written by this session's own program (wip/tools/mkprint.py) over the kit's printer, with overrides.
import Derived.Test.YtghhmnjkgnoogaaGreatTOuterFillsa
import Derived.Test.YtghhmnjkgnoogaaGreatQOuterFillsx0
import Derived.Test.YtghhmnjkgnoogaaGreatQOuterFillsx8
import Derived.Test.YtghhmnjkgnoogaaGreatQOuterFillsx9
namespace Go.Proofs.YtghhmnjkgnoogaaGreat.POuterFills
open Go.RowKit Go.Mine Go.Proofs.YtghhmnjkgnoogaaGreatW.PrintWords Go.Proofs.YtghhmnjkgnoogaaGreatW.PrintLast Go.Proofs.YtghhmnjkgnoogaaGreatW.PrintMore
attribute [local go_sem] max2_int min2_int max_two min_two max_three min_three max_four min_four   -- for this text's walks alone
set_option linter.unusedVariables false
set_option linter.unusedSimpArgs false
/-! ### mosaicref04_Block: function 102 -/
def mosaicref04_Block.j0 : Nat → ByteArray → ByteArray → Bool → Option (ByteArray)
 | 0, _, _, _ => none
 | k + 1, x0, x5, x18 => if x18 = true then (some (⟨#[]⟩ : ByteArray)) else ((mosaicref02_Num.f k (x0.size : Int) 1).bind fun t312 => (if 1 + t312.size ≤ 9223372036854775807 then (if ((⟨#[2]⟩ : ByteArray) ++ t312).size + x0.size ≤ 9223372036854775807 then (if (((⟨#[2]⟩ : ByteArray) ++ t312) ++ x0).size + x5.size ≤ 9223372036854775807 then ((mosaicref01_Sum.f k ((((⟨#[2]⟩ : ByteArray) ++ t312) ++ x0) ++ x5)).bind fun t313 => (some t313)) else (none)) else (none)) else (none)))
def mosaicref04_Block.f (k : Nat) (a0 : ByteArray) (a1 : Int) : Option (ByteArray) := (mosaicref02_Put.f k a1 7).bind fun bt310 => (if (a0.size : Int) > 64 then (mosaicref04_Block.j0 k a0 bt310.1 true) else (mosaicref04_Block.j0 k a0 bt310.1 (bt310.2 != 0)))
theorem mosaicref04_Block.mono_l : ∀ k, (∀ y0 y1 y2, LeO (mosaicref04_Block.j0 k y0 y1 y2) (mosaicref04_Block.j0 (k + 1) y0 y1 y2))
 | 0 => fun _ _ _ r h => by simp [mosaicref04_Block.j0] at h
 | k + 1 => by
  have ih0 := mosaicref04_Block.mono_l k
  ·
   intro y0 y1 y2
   unfold mosaicref04_Block.j0
   repeat' first | (with_reducible first | apply ih0 | apply mosaicref01_Sum.mono | apply mosaicref02_Num.mono | apply mosaicref02_Put.mono | exact LeO.refl _ | exact LeO.none _ | refine LeO.ite ?_ ?_ | refine LeO.bind ?_ (fun _ => ?_)) | apply ih0 | apply mosaicref01_Sum.mono | apply mosaicref02_Num.mono | apply mosaicref02_Put.mono | exact LeO.none _ | refine LeO.ite ?_ ?_ | refine LeO.bind ?_ (fun _ => ?_)
theorem mosaicref04_Block.mono : ∀ a0 a1 k, LeO (mosaicref04_Block.f k a0 a1) (mosaicref04_Block.f (k + 1) a0 a1) := by
 intro a0 a1 k
 have ih0 := mosaicref04_Block.mono_l k
 unfold mosaicref04_Block.f
 repeat' first | (with_reducible first | apply ih0 | apply mosaicref01_Sum.mono | apply mosaicref02_Num.mono | apply mosaicref02_Put.mono | exact LeO.refl _ | exact LeO.none _ | refine LeO.ite ?_ ?_ | refine LeO.bind ?_ (fun _ => ?_)) | apply ih0 | apply mosaicref01_Sum.mono | apply mosaicref02_Num.mono | apply mosaicref02_Put.mono | exact LeO.none _ | refine LeO.ite ?_ ?_ | refine LeO.bind ?_ (fun _ => ?_)
set_option maxHeartbeats 8000000 in
set_option maxRecDepth 100000 in
theorem mosaicref04_Block.calls (k : Nat) (a0 : ByteArray) (a1 : Int) (r : ByteArray) (w : World) (h : mosaicref04_Block.f k a0 a1 = some r) :
  Calls Tryz.prog 102 #[.string a0, .int .i64 a1] w fun e w' => e = .returned (.string r) ∧ Below w.heap.size w w' := by
 have HB := Aside0.mk (Below.refl w.heap.size w)
 have H : ((mosaicref02_Put.f k a1 7).bind fun bt310 => (if (a0.size : Int) > 64 then (mosaicref04_Block.j0 k a0 bt310.1 true) else (mosaicref04_Block.j0 k a0 bt310.1 (bt310.2 != 0)))) = some r := h
 clear h; replace H := Option.bind_eq_some_iff.mp H
 obtain ⟨⟨t310, t311⟩, A30, H⟩ := H
 replace H : (if (a0.size : Int) > 64 then (mosaicref04_Block.j0 k a0 t310 true) else (mosaicref04_Block.j0 k a0 t310 (t311 != 0))) = some r := H
 have A3 := Aside0.mk A30
 clear A30; have HC4 := Aside0.mk H
 clear H; go_enter Tryz.func102, Tryz.ntmps102
 go_upto_region 2 with (first | ((with_reducible refine gate_callee (f := 54) rfl ?_); refine goesL_ (some 9) rfl rfl Tryz.func54 (by kernel_rfl) rfl #[.int .i64 a1, .int .i64 7] rfl zM ?_; (with_reducible refine (mosaicref02_Put.calls k a1 7 t310 t311 _ A3.out).mono ?_); rintro e w5 ⟨rfl, hb⟩; refine ⟨_, rfl, ?_⟩; replace HB := Aside0.mk (below_step zB hb); (try clear hb); (try clear hb2); (try clear hk); (try clear hi)))
 (try simp only [Act.put, List.setIfInBounds_toArray, List.set_cons_zero, List.set_cons_succ])
 go_cut [18] (fun v18 wc => ∃ (kq : Nat) (x18_3 : Bool), v18 = .bool x18_3 ∧ Aside0 (mosaicref04_Block.j0 kq a0 t310 x18_3 = some r) ∧ Aside0 (kq ≤ k) ∧ Aside0 (Below w.heap.size w wc))
 case first =>
  have H := HC4.out; clear HC4; by_cases c6 : (a0.size : Int) > 64
  ·
   rw [if_pos c6] at H
   have c6b0 : decide (64 < (a0.size : Int)) = true := decide_eq_true c6
   have c6b1 : decide (64 < a0.size) = true := decide_eq_true (by omega)
   clear c6; (first | rw [c6b0] | (simp only [i64_w, i32_w]; rw [c6b0]) | skip)
   have H' := Aside0.mk H
   clear H; go_wp2
   go_meet
   case rel => exact ⟨_, (true), zF, H', ⟨by first | omega | exact Nat.le_refl _⟩, ⟨zB⟩⟩
  ·
   rw [if_neg c6] at H
   have c6b0 : decide (64 < (a0.size : Int)) = false := decide_eq_false c6
   have c6b1 : decide (64 < a0.size) = false := decide_eq_false (by omega)
   clear c6; (first | rw [c6b0] | (simp only [i64_w, i32_w]; rw [c6b0]) | skip)
   have H' := Aside0.mk H
   clear H; go_wp2
   go_meet
   case rel => exact ⟨_, ((t311 != 0)), zF, H', ⟨by first | omega | exact Nat.le_refl _⟩, ⟨zB⟩⟩
 case rest =>
  clear HC4; obtain ⟨kq, x18_3, rfl, HA, HJ3, HB⟩ := hcut
  cases kq with
  | zero => exact absurd HA.out (by simp [mosaicref04_Block.j0])
  | succ kj3 =>
   have H := HA.out; clear HA; simp only [mosaicref04_Block.j0] at H
   by_cases c7 : x18_3 = true
   ·
    subst c7
    have H1 : (some (⟨#[]⟩ : ByteArray)) = some r := by rw [if_pos rfl] at H; exact H
    clear H; have H := H1; clear H1; obtain rfl := Option.some.inj H
    go_wp2
    go_ret
    exact ⟨zE, zB⟩
   ·
    replace c7 := Bool.eq_false_iff.mpr c7
    subst c7
    have H1 : ((mosaicref02_Num.f kj3 (a0.size : Int) 1).bind fun t312 => (if 1 + t312.size ≤ 9223372036854775807 then (if ((⟨#[2]⟩ : ByteArray) ++ t312).size + a0.size ≤ 9223372036854775807 then (if (((⟨#[2]⟩ : ByteArray) ++ t312) ++ a0).size + t310.size ≤ 9223372036854775807 then ((mosaicref01_Sum.f kj3 ((((⟨#[2]⟩ : ByteArray) ++ t312) ++ a0) ++ t310)).bind fun t313 => (some t313)) else (none)) else (none)) else (none))) = some r := by rw [if_neg (show ¬ (false = true) by decide)] at H; exact H
    clear H; have H := H1; clear H1; replace H := Option.bind_eq_some_iff.mp H
    obtain ⟨t312, A80, H⟩ := H
    replace H : (if 1 + t312.size ≤ 9223372036854775807 then (if ((⟨#[2]⟩ : ByteArray) ++ t312).size + a0.size ≤ 9223372036854775807 then (if (((⟨#[2]⟩ : ByteArray) ++ t312) ++ a0).size + t310.size ≤ 9223372036854775807 then ((mosaicref01_Sum.f kj3 ((((⟨#[2]⟩ : ByteArray) ++ t312) ++ a0) ++ t310)).bind fun t313 => (some t313)) else (none)) else (none)) else (none)) = some r := H
    have A8 := Aside0.mk A80
    clear A80; by_cases c9 : 1 + t312.size ≤ 9223372036854775807
    ·
     rw [if_pos c9] at H
     have c9b0 := eq_true c9
     have c9b1 : decide (1 + t312.size ≤ 9223372036854775807) = true := decide_eq_true c9
     try have c9b2 : (9223372036854775807 < 1 + t312.size) = False := eq_false (Nat.not_lt.2 c9)
     by_cases c10 : ((⟨#[2]⟩ : ByteArray) ++ t312).size + a0.size ≤ 9223372036854775807
     ·
      rw [if_pos c10] at H
      have c10b0 := eq_true c10
      have c10b1 : decide (((⟨#[2]⟩ : ByteArray) ++ t312).size + a0.size ≤ 9223372036854775807) = true := decide_eq_true c10
      try have c10b2 : (9223372036854775807 < ((⟨#[2]⟩ : ByteArray) ++ t312).size + a0.size) = False := eq_false (Nat.not_lt.2 c10)
      by_cases c11 : (((⟨#[2]⟩ : ByteArray) ++ t312) ++ a0).size + t310.size ≤ 9223372036854775807
      ·
       rw [if_pos c11] at H
       have c11b0 := eq_true c11
       have c11b1 : decide ((((⟨#[2]⟩ : ByteArray) ++ t312) ++ a0).size + t310.size ≤ 9223372036854775807) = true := decide_eq_true c11
       try have c11b2 : (9223372036854775807 < (((⟨#[2]⟩ : ByteArray) ++ t312) ++ a0).size + t310.size) = False := eq_false (Nat.not_lt.2 c11)
       replace H := Option.bind_eq_some_iff.mp H
       obtain ⟨t313, A120, H⟩ := H
       replace H : (some t313) = some r := H
       have A12 := Aside0.mk A120
       clear A120; obtain rfl := Option.some.inj H
       go_wp2_with (first | ((with_reducible refine gate_callee (f := 30) rfl ?_); refine goesL_ (some 21) rfl rfl Tryz.func30 (by kernel_rfl) rfl #[.int .i64 (a0.size : Int), .int .i64 1] rfl zM ?_; (with_reducible refine (mosaicref02_Num.calls kj3 (a0.size : Int) 1 t312 _ A8.out).mono ?_); rintro e w13 ⟨rfl, hb⟩; refine ⟨_, rfl, ?_⟩; replace HB := Aside0.mk (below_step zB hb); (try clear hb); (try clear hb2); (try clear hk); (try clear hi)) | ((with_reducible refine gate_callee (f := 117) rfl ?_); refine goesL_ (some 27) rfl rfl Tryz.func117 (by kernel_rfl) rfl #[.string ((((⟨#[2]⟩ : ByteArray) ++ t312) ++ a0) ++ t310)] rfl zM ?_; (with_reducible refine (mosaicref01_Sum.calls kj3 ((((⟨#[2]⟩ : ByteArray) ++ t312) ++ a0) ++ t310) t313 _ A12.out).mono ?_); rintro e w14 ⟨rfl, hb⟩; refine ⟨_, rfl, ?_⟩; replace HB := Aside0.mk (below_step zB hb); (try clear hb); (try clear hb2); (try clear hk); (try clear hi)))
       go_ret
       exact ⟨zE, zB⟩
      ·
       rw [if_neg c11] at H
       exact absurd H (by simp)
     ·
      rw [if_neg c10] at H
      exact absurd H (by simp)
    ·
     rw [if_neg c9] at H
     exact absurd H (by simp)
/-! ### mosaicref02_Get: function 103 -/
def mosaicref02_Get.l0 : Nat → ByteArray → Int → Int → Option (Int)
 | 0, _, _, _ => none
 | k + 1, x0, x3, x4 => if x4 < (x0.size : Int) then (if 0 ≤ x4 then (mosaicref02_Get.l0 k x0 (wrap64 ((wrap64 (256 * x3)) + (wrap64 (bt x0 x4)))) (wrap64 (x4 + 1))) else (none)) else (some x3)
def mosaicref02_Get.f (k : Nat) (a0 : ByteArray) : Option (Int) := if (a0.size : Int) > 7 then (some 0) else (mosaicref02_Get.l0 k a0 0 0)
theorem mosaicref02_Get.mono_l : ∀ k, (∀ y0 y1 y2, LeO (mosaicref02_Get.l0 k y0 y1 y2) (mosaicref02_Get.l0 (k + 1) y0 y1 y2))
 | 0 => fun _ _ _ r h => by simp [mosaicref02_Get.l0] at h
 | k + 1 => by
  have ih0 := mosaicref02_Get.mono_l k
  ·
   intro y0 y1 y2
   unfold mosaicref02_Get.l0
   repeat' first | (with_reducible first | apply ih0 | exact LeO.refl _ | exact LeO.none _ | refine LeO.ite ?_ ?_ | refine LeO.bind ?_ (fun _ => ?_)) | apply ih0 | exact LeO.none _ | refine LeO.ite ?_ ?_ | refine LeO.bind ?_ (fun _ => ?_)
theorem mosaicref02_Get.mono : ∀ a0 k, LeO (mosaicref02_Get.f k a0) (mosaicref02_Get.f (k + 1) a0) := by
 intro a0 k
 have ih0 := mosaicref02_Get.mono_l k
 unfold mosaicref02_Get.f
 repeat' first | (with_reducible first | apply ih0 | exact LeO.refl _ | exact LeO.none _ | refine LeO.ite ?_ ?_ | refine LeO.bind ?_ (fun _ => ?_)) | apply ih0 | exact LeO.none _ | refine LeO.ite ?_ ?_ | refine LeO.bind ?_ (fun _ => ?_)
set_option maxHeartbeats 8000000 in
set_option maxRecDepth 100000 in
theorem mosaicref02_Get.calls (k : Nat) (a0 : ByteArray) (r : Int) (w : World) (h : mosaicref02_Get.f k a0 = some r) :
  Calls Tryz.prog 103 #[.string a0] w fun e w' => e = .returned (.int .i64 r) ∧ Drawn0 w w' := by
 have H : (if (a0.size : Int) > 7 then (some 0) else (mosaicref02_Get.l0 k a0 0 0)) = some r := h
 clear h; by_cases c2 : (a0.size : Int) > 7
 ·
  rw [if_pos c2] at H
  have c2b0 : decide (7 < (a0.size : Int)) = true := decide_eq_true c2
  have c2b1 : decide (7 < a0.size) = true := decide_eq_true (by omega)
  clear c2; obtain rfl := Option.some.inj H
  go_enter Tryz.func103, Tryz.ntmps103
  go_wp2
  go_ret
  exact ⟨by first | rfl | (simp; done) | (simp [*]; done), by repeat (first | exact Drawn0.refl _ | apply Drawn0.step)⟩
 ·
  rw [if_neg c2] at H
  have c2b0 : decide (7 < (a0.size : Int)) = false := decide_eq_false c2
  have c2b1 : decide (7 < a0.size) = false := decide_eq_false (by omega)
  clear c2; have H' := Aside0.mk H
  clear H; go_enter Tryz.func103, Tryz.ntmps103
  go_wp2
  go_loopg [3, 4] k (fun kq v3 v4 w' => ∃ (x3_1 : Int) (x4_1 : Int), v3 = .int .i64 x3_1 ∧ v4 = .int .i64 x4_1 ∧ Aside0 (mosaicref02_Get.l0 kq a0 x3_1 x4_1 = some r) ∧ Aside0 (kq ≤ k) ∧ Drawn0 w w')
  case atStart => exact ⟨(0), (0), zF, zF, H', ⟨Nat.le_refl _⟩, by repeat (first | exact Drawn0.refl _ | apply Drawn0.step)⟩
  case round =>
   clear H'
   obtain ⟨x3_1, x4_1, rfl, rfl, HA, HK1, ⟨m1, rfl⟩⟩ := hrel
   cases gk with
   | zero => exact absurd HA.out (by simp [mosaicref02_Get.l0])
   | succ k1 =>
    have H := HA.out; clear HA; simp only [mosaicref02_Get.l0] at H
    by_cases c3 : x4_1 < (a0.size : Int)
    ·
     rw [if_pos c3] at H
     have c3b0 : decide (x4_1 < (a0.size : Int)) = true := decide_eq_true c3
     clear c3; by_cases c4 : 0 ≤ x4_1
     ·
      rw [if_pos c4] at H
      have c4b0 : decide (0 ≤ x4_1) = true := decide_eq_true c4
      clear c4; have H' := Aside0.mk H
      clear H; have p5 : 0 ≤ (x4_1 : Int) := of_decide_eq_true zA
      have q5 : x4_1 < (a0.size : Int) := of_decide_eq_true zA
      have hx5 := bt_at a0 x4_1
      replace p5 := eq_true p5
      replace q5 := eq_true q5
      go_wp2
      go_roundg k1
      case measure => have := HK1.out; omega
      case rel => exact ⟨(wrap64 ((wrap64 (256 * x3_1)) + (wrap64 (bt a0 x4_1)))), (wrap64 (x4_1 + 1)), zF, zF, H', ⟨by have := HK1.out; omega⟩, by repeat (first | exact Drawn0.refl _ | apply Drawn0.step)⟩
     ·
      rw [if_neg c4] at H
      exact absurd H (by simp)
    ·
     rw [if_neg c3] at H
     have c3b0 : decide (x4_1 < (a0.size : Int)) = false := decide_eq_false c3
     clear c3; obtain rfl := Option.some.inj H
     go_wp2
     go_ret
     exact ⟨by first | rfl | (simp; done) | (simp [*]; done), by repeat (first | exact Drawn0.refl _ | apply Drawn0.step)⟩
/-! ### mosaicref04_Gen_word: function 75 -/
def mosaicref04_Gen_word.f (k : Nat) (a0_0 : ByteArray) (a0_1 : Int) (a1 : Int) : Option (Int) := (mosaicref04_Block.f k a0_0 (wrap64 (Int.tdiv a1 8))).bind fun t315 => (if 0 ≤ (wrap64 (4 * (Int.tmod a1 8))) then (if (wrap64 (4 * (Int.tmod a1 8))) ≤ (wrap64 ((wrap64 (4 * (Int.tmod a1 8))) + 4)) then (if (wrap64 ((wrap64 (4 * (Int.tmod a1 8))) + 4)) ≤ (t315.size : Int) then ((mosaicref02_Get.f k (t315.extract ((wrap64 (4 * (Int.tmod a1 8))) : Int).toNat ((wrap64 ((wrap64 (4 * (Int.tmod a1 8))) + 4)) : Int).toNat)).bind fun t316 => (some t316)) else (none)) else (none)) else (none))
theorem mosaicref04_Gen_word.mono : ∀ a0 a1 a2 k, LeO (mosaicref04_Gen_word.f k a0 a1 a2) (mosaicref04_Gen_word.f (k + 1) a0 a1 a2) := by
 intro a0 a1 a2 k
 unfold mosaicref04_Gen_word.f
 repeat' first | (with_reducible first | apply mosaicref02_Get.mono | apply mosaicref04_Block.mono | exact LeO.refl _ | exact LeO.none _ | refine LeO.ite ?_ ?_ | refine LeO.bind ?_ (fun _ => ?_)) | apply mosaicref02_Get.mono | apply mosaicref04_Block.mono | exact LeO.none _ | refine LeO.ite ?_ ?_ | refine LeO.bind ?_ (fun _ => ?_)
set_option maxHeartbeats 8000000 in
set_option maxRecDepth 100000 in
theorem mosaicref04_Gen_word.calls (k : Nat) (a0_0 : ByteArray) (a0_1 : Int) (a1 : Int) (r : Int) (w : World) (h : mosaicref04_Gen_word.f k a0_0 a0_1 a1 = some r) :
  Calls Tryz.prog 75 #[.agg #[.string a0_0, .int .i64 a0_1], .int .i64 a1] w fun e w' => e = .returned (.int .i64 r) ∧ Below w.heap.size w w' := by
 have hu56 := Tryz.underlying56; have HB := Aside0.mk (Below.refl w.heap.size w)
 have H : ((mosaicref04_Block.f k a0_0 (wrap64 (Int.tdiv a1 8))).bind fun t315 => (if 0 ≤ (wrap64 (4 * (Int.tmod a1 8))) then (if (wrap64 (4 * (Int.tmod a1 8))) ≤ (wrap64 ((wrap64 (4 * (Int.tmod a1 8))) + 4)) then (if (wrap64 ((wrap64 (4 * (Int.tmod a1 8))) + 4)) ≤ (t315.size : Int) then ((mosaicref02_Get.f k (t315.extract ((wrap64 (4 * (Int.tmod a1 8))) : Int).toNat ((wrap64 ((wrap64 (4 * (Int.tmod a1 8))) + 4)) : Int).toNat)).bind fun t316 => (some t316)) else (none)) else (none)) else (none))) = some r := h
 clear h; replace H := Option.bind_eq_some_iff.mp H
 obtain ⟨t315, A30, H⟩ := H
 replace H : (if 0 ≤ (wrap64 (4 * (Int.tmod a1 8))) then (if (wrap64 (4 * (Int.tmod a1 8))) ≤ (wrap64 ((wrap64 (4 * (Int.tmod a1 8))) + 4)) then (if (wrap64 ((wrap64 (4 * (Int.tmod a1 8))) + 4)) ≤ (t315.size : Int) then ((mosaicref02_Get.f k (t315.extract ((wrap64 (4 * (Int.tmod a1 8))) : Int).toNat ((wrap64 ((wrap64 (4 * (Int.tmod a1 8))) + 4)) : Int).toNat)).bind fun t316 => (some t316)) else (none)) else (none)) else (none)) = some r := H
 have A3 := Aside0.mk A30
 clear A30; obtain ⟨ji4, hji4⟩ : ∃ j_ : Int, (wrap64 (4 * (Int.tmod a1 8))) = j_ := ⟨_, rfl⟩
 replace H : (if 0 ≤ (ji4) then (if (ji4) ≤ (wrap64 ((ji4) + 4)) then (if (wrap64 ((ji4) + 4)) ≤ (t315.size : Int) then ((mosaicref02_Get.f k (t315.extract ((ji4) : Int).toNat ((wrap64 ((ji4) + 4)) : Int).toNat)).bind fun t316 => (some t316)) else (none)) else (none)) else (none)) = some r := by first | (rw [hji4] at H; exact H) | (simp only [hji4] at H ⊢; exact H)
 (try rw [hji4] at A3)
 have hji4w : (IntKind.i64.wrap (4 * (Int.tmod a1 8))) = ji4 := (i64_w _).trans hji4
 by_cases c5 : 0 ≤ (ji4)
 ·
  rw [if_pos c5] at H
  have c5b0 := eq_true c5
  have c5b1 : decide (0 ≤ (ji4)) = true := decide_eq_true c5
  clear c5; by_cases c6 : (ji4) ≤ (wrap64 ((ji4) + 4))
  ·
   rw [if_pos c6] at H
   have c6b0 := eq_true c6
   have c6b1 : decide ((ji4) ≤ (wrap64 ((ji4) + 4))) = true := decide_eq_true c6
   by_cases c7 : (wrap64 ((ji4) + 4)) ≤ (t315.size : Int)
   ·
    rw [if_pos c7] at H
    have c7b0 := eq_true c7
    have c7b1 : decide ((wrap64 ((ji4) + 4)) ≤ (t315.size : Int)) = true := decide_eq_true c7
    replace H := Option.bind_eq_some_iff.mp H
    obtain ⟨t316, A80, H⟩ := H
    replace H : (some t316) = some r := H
    have A8 := Aside0.mk A80
    clear A80; obtain rfl := Option.some.inj H
    go_enter Tryz.func75, Tryz.ntmps75
    go_wp2_with (first | ((with_reducible refine gate_dst (N := 2) rfl ?_); refine box_event ?hg (N := 2) ?hd (cs := #[.string a0_0, .int .i64 a0_1]) (t := 56) ?hr ?_; (case hd => rfl); (case hg => rfl); (case hr => first | (go_simp; done) | (go_simp; rfl)); intro gb314 hg w9 hbox hb; have BK314 := Aside0.mk (hbox); have GW314 := Aside0.mk ((zg : w.heap.size ≤ gb314)); have GE314 := Aside0.mk ((zg : w.heap.size ≤ gb314)); replace HB := Aside0.mk (below_step zB hb); clear hb hbox hg; obtain ⟨hcz10_0, hcz10_1⟩ := cZ2 BK314; obtain ⟨hfz10_0, hfz10_1⟩ := dZ2 BK314) | ((with_reducible refine gate_callee (f := 102) rfl ?_); refine goesL_ (some 11) rfl rfl Tryz.func102 (by kernel_rfl) rfl #[.string a0_0, .int .i64 (wrap64 (Int.tdiv a1 8))] rfl zM ?_; (with_reducible refine (mosaicref04_Block.calls k a0_0 (wrap64 (Int.tdiv a1 8)) t315 _ A3.out).mono ?_); rintro e w11 ⟨rfl, hb⟩; refine ⟨_, rfl, ?_⟩; replace BK314 := Aside0.mk (blk_below (zk BK314) hb); replace HB := Aside0.mk (below_step zB hb); (try clear hb); (try clear hb2); (try clear hk); (try clear hi)) | ((with_reducible refine gate_callee (f := 103) rfl ?_); refine goesL_ (some 20) rfl rfl Tryz.func103 (by kernel_rfl) rfl #[.string (t315.extract ((ji4) : Int).toNat ((wrap64 ((ji4) + 4)) : Int).toNat)] rfl (by (try simp only [List.map_toArray, List.map_cons, List.map_nil]); first | done | (simp only [hji4]; rfl) | rfl | (simp only [List.length_drop, List.length_take]; rfl)) ?_; (with_reducible refine (mosaicref02_Get.calls k (t315.extract ((ji4) : Int).toNat ((wrap64 ((ji4) + 4)) : Int).toNat) t316 _ A8.out).mono ?_); rintro e w' ⟨rfl, ⟨nd, rfl⟩⟩; refine ⟨_, rfl, ?_⟩))
    go_ret
    exact ⟨by first | rfl | (simp [errW_none, errW_some] <;> rfl) | (simp only [← hji4]; first | rfl | (simp [errW_none, errW_some] <;> rfl)) | (simp [*, errW_none, errW_some] <;> rfl), zB⟩
   ·
    rw [if_neg c7] at H
    exact absurd H (by simp)
  ·
   rw [if_neg c6] at H
   exact absurd H (by simp)
 ·
  rw [if_neg c5] at H
  exact absurd H (by simp)
/-! ### mosaicref04_Choose: function 76 -/
mutual
def mosaicref04_Choose.j0 : Nat → List Int → Int → Bool → Option (Int × Int)
 | 0, _, _, _ => none
 | k + 1, x0, x1, x19 => if x19 = true then (some (0, 0)) else (if x1 = 0 then (none) else (mosaicref04_Choose.l0 k x0 x1 (wrap64 (4294967296 - ((4294967296 : Int) % x1))) 0 0 0))
def mosaicref04_Choose.l0 : Nat → List Int → Int → Int → Int → Int → Int → Option (Int × Int)
 | 0, _, _, _, _, _, _ => none
 | k + 1, x0, x1, x5, x6, x7, x8 => if x8 < (x0.length : Int) then (mosaicref04_Choose.j2 k x0 x1 x5 x6 x7 x8 (decide (x8 < 8))) else (mosaicref04_Choose.j2 k x0 x1 x5 x6 x7 x8 false)
def mosaicref04_Choose.j2 : Nat → List Int → Int → Int → Int → Int → Int → Bool → Option (Int × Int)
 | 0, _, _, _, _, _, _, _ => none
 | k + 1, x0, x1, x5, x6, x7, x8, x31 => if x31 = true then (if 0 ≤ x8 then (if x8 < (x0.length : Int) then (if (wrap64 (rd x0 x8)) < x5 then (if x1 = 0 then (none) else (some (Int.tmod (wrap64 (rd x0 x8)) x1, wrap64 (x8 + 1)))) else (mosaicref04_Choose.l0 k x0 x1 x5 (wrap64 (rd x0 x8)) (wrap64 (x8 + 1)) (wrap64 (x8 + 1)))) else (none)) else (none)) else (if x1 = 0 then (none) else (some (Int.tmod x6 x1, x7)))
end
def mosaicref04_Choose.f (k : Nat) (l0 : List Int) (a1 : Int) : Option (Int × Int) := if a1 < 1 then (mosaicref04_Choose.j0 k l0 a1 true) else (if a1 > 2147483647 then (mosaicref04_Choose.j0 k l0 a1 true) else (mosaicref04_Choose.j0 k l0 a1 ((l0.length : Int) == 0)))
theorem mosaicref04_Choose.mono_l : ∀ k, (∀ y0 y1 y2, LeO (mosaicref04_Choose.j0 k y0 y1 y2) (mosaicref04_Choose.j0 (k + 1) y0 y1 y2)) ∧ (∀ y0 y1 y2 y3 y4 y5, LeO (mosaicref04_Choose.l0 k y0 y1 y2 y3 y4 y5) (mosaicref04_Choose.l0 (k + 1) y0 y1 y2 y3 y4 y5)) ∧ (∀ y0 y1 y2 y3 y4 y5 y6, LeO (mosaicref04_Choose.j2 k y0 y1 y2 y3 y4 y5 y6) (mosaicref04_Choose.j2 (k + 1) y0 y1 y2 y3 y4 y5 y6))
 | 0 => ⟨fun _ _ _ r h => by simp [mosaicref04_Choose.j0] at h, fun _ _ _ _ _ _ r h => by simp [mosaicref04_Choose.l0] at h, fun _ _ _ _ _ _ _ r h => by simp [mosaicref04_Choose.j2] at h⟩
 | k + 1 => by
  obtain ⟨ih0, ih1, ih2⟩ := mosaicref04_Choose.mono_l k
  refine ⟨?_, ?_, ?_⟩ <;> intros <;> (first | unfold mosaicref04_Choose.j0 | unfold mosaicref04_Choose.l0 | unfold mosaicref04_Choose.j2)
  all_goals repeat' first | (with_reducible first | apply ih0 | apply ih1 | apply ih2 | exact LeO.refl _ | exact LeO.none _ | refine LeO.ite ?_ ?_ | refine LeO.bind ?_ (fun _ => ?_)) | apply ih0 | apply ih1 | apply ih2 | exact LeO.none _ | refine LeO.ite ?_ ?_ | refine LeO.bind ?_ (fun _ => ?_)
theorem mosaicref04_Choose.mono : ∀ a0 a1 k, LeO (mosaicref04_Choose.f k a0 a1) (mosaicref04_Choose.f (k + 1) a0 a1) := by
 intro a0 a1 k
 obtain ⟨ih0, ih1, ih2⟩ := mosaicref04_Choose.mono_l k
 unfold mosaicref04_Choose.f
 repeat' first | (with_reducible first | apply ih0 | apply ih1 | apply ih2 | exact LeO.refl _ | exact LeO.none _ | refine LeO.ite ?_ ?_ | refine LeO.bind ?_ (fun _ => ?_)) | apply ih0 | apply ih1 | apply ih2 | exact LeO.none _ | refine LeO.ite ?_ ?_ | refine LeO.bind ?_ (fun _ => ?_)
set_option maxHeartbeats 8000000 in
set_option maxRecDepth 100000 in
theorem mosaicref04_Choose.calls (k : Nat) (A0 : Option Addr) (c0 : Nat) (l0 : List Int) (a1 : Int) (r1 : Int) (r2 : Int) (w : World) (hr0 : Kd.C (Kd.int .u32) w A0 l0.length l0) (hc0 : l0.length ≤ c0) (h : mosaicref04_Choose.f k l0 a1 = some (r1, r2)) :
  Calls Tryz.prog 76 #[.slice A0 l0.length c0, .int .i64 a1] w fun e w' => e = .returned (.agg #[.int .i64 r1, .int .i64 r2]) ∧ Below w.heap.size w w' := by
 have hu106 := Tryz.underlying106; have HR0 := Aside0.mk hr0
 have HC0 := Aside0.mk hc0
 clear hr0 hc0; have HB := Aside0.mk (Below.refl w.heap.size w)
 have H : (if a1 < 1 then (mosaicref04_Choose.j0 k l0 a1 true) else (if a1 > 2147483647 then (mosaicref04_Choose.j0 k l0 a1 true) else (mosaicref04_Choose.j0 k l0 a1 ((l0.length : Int) == 0)))) = some (r1, r2) := h
 clear h; have HC3 := Aside0.mk H
 clear H; go_enter Tryz.func76, Tryz.ntmps76
 go_upto_region 1 with (first | ((with_reducible refine gate_dst (N := 4) rfl ?_); (try (refine gate_guard (by rfl) ?_; dsimp only)); refine box_event ?hg (N := 4) ?hd (cs := #[.int .i64 0, .int .i64 0]) (t := 106) ?hr ?_; (case hd => rfl); (case hg => rfl); (case hr => first | (go_simp; done) | (go_simp; rfl)); intro gb317 hg w4 hbox hb; have BK317 := Aside0.mk (hbox); have GW317 := Aside0.mk ((zg : w.heap.size ≤ gb317)); have GE317 := Aside0.mk ((zg : w.heap.size ≤ gb317)); replace HB := Aside0.mk (below_step zB hb); clear hb hbox hg))
 (try simp only [Act.put, List.setIfInBounds_toArray, List.set_cons_zero, List.set_cons_succ])
 go_cut [19] (fun v19 wc => ∃ (kq : Nat) (x19_2 : Bool), v19 = .bool x19_2 ∧ Aside0 (mosaicref04_Choose.j0 kq l0 a1 x19_2 = some (r1, r2)) ∧ Aside0 (kq ≤ k) ∧ Aside0 (wc.heap[gb317]? = some (.cells #[.int .i64 0, .int .i64 0] 106 (0, 0))) ∧ Aside0 (Below w.heap.size w wc))
 case first =>
  have H := HC3.out; clear HC3; by_cases c5 : a1 < 1
  ·
   rw [if_pos c5] at H
   have c5b0 : decide (a1 < 1) = true := decide_eq_true c5
   clear c5; (first | rw [c5b0] | (simp only [i64_w, i32_w]; rw [c5b0]) | skip)
   have H' := Aside0.mk H
   clear H; go_wp2
   go_meet
   case rel => exact ⟨_, (true), zF, H', ⟨by first | omega | exact Nat.le_refl _⟩, ⟨zk BK317⟩, ⟨zB⟩⟩
  ·
   rw [if_neg c5] at H
   have c5b0 : decide (a1 < 1) = false := decide_eq_false c5
   clear c5; (first | rw [c5b0] | (simp only [i64_w, i32_w]; rw [c5b0]) | skip)
   by_cases c6 : a1 > 2147483647
   ·
    rw [if_pos c6] at H
    have c6b0 : decide (2147483647 < a1) = true := decide_eq_true c6
    clear c6; have H' := Aside0.mk H
    clear H; go_wp2
    go_meet
    case rel => exact ⟨_, (true), zF, H', ⟨by first | omega | exact Nat.le_refl _⟩, ⟨zk BK317⟩, ⟨zB⟩⟩
   ·
    rw [if_neg c6] at H
    have c6b0 : decide (2147483647 < a1) = false := decide_eq_false c6
    clear c6; have H' := Aside0.mk H
    clear H; go_wp2
    go_meet
    case rel => exact ⟨_, (((l0.length : Int) == 0)), zF, H', ⟨by first | omega | exact Nat.le_refl _⟩, ⟨zk BK317⟩, ⟨zB⟩⟩
 case rest =>
  clear HC3; obtain ⟨kq, x19_2, rfl, HA, HJ2, BK317, HB⟩ := hcut
  cases kq with
  | zero => exact absurd HA.out (by simp [mosaicref04_Choose.j0])
  | succ kj2 =>
   have H := HA.out; clear HA; simp only [mosaicref04_Choose.j0] at H
   by_cases c7 : x19_2 = true
   ·
    subst c7
    have H1 : (some (0, 0)) = some (r1, r2) := by rw [if_pos rfl] at H; exact H
    clear H; have H := H1; clear H1; simp only [Option.some.injEq, Prod.mk.injEq] at H
    obtain ⟨rfl, rfl⟩ := H
    obtain ⟨hcz8_0, hcz8_1⟩ := cZ2 BK317
    obtain ⟨hfz8_0, hfz8_1⟩ := dZ2 BK317; go_wp2
    refine bodyPost_ret (results_cell_row rfl _ _ gb317 106 #[.int .i64 0, .int .i64 0] (0, 0) _ rfl (by (with_reducible repeat (first | refine blk_drewN ?_ _ | refine blk_drew ?_ | refine blk_alloc ?_ _)); refine blk_put (cs := #[.int .i64 0, .int .i64 0]) ?_ 1 _ rfl; (with_reducible repeat (first | refine blk_drewN ?_ _ | refine blk_drew ?_ | refine blk_alloc ?_ _)); refine blk_put (cs := #[.int .i64 0, .int .i64 0]) ?_ 0 _ rfl; (with_reducible repeat (first | refine blk_drewN ?_ _ | refine blk_drew ?_ | refine blk_alloc ?_ _)); exact BK317.out) Tryz.underlying106 rfl (by kernel_rfl)) rfl ?_
    exact ⟨zE, zB⟩
   ·
    replace c7 := Bool.eq_false_iff.mpr c7
    subst c7
    have H1 : (if a1 = 0 then (none) else (mosaicref04_Choose.l0 kj2 l0 a1 (wrap64 (4294967296 - ((4294967296 : Int) % a1))) 0 0 0)) = some (r1, r2) := by rw [if_neg (show ¬ (false = true) by decide)] at H; exact H
    clear H; have H := H1; clear H1; by_cases c9 : a1 = 0
    ·
     rw [if_pos c9] at H
     exact absurd H (by simp)
    ·
     rw [if_neg c9] at H
     have c9b0 : (a1 == 0) = false := beq_eq_false_iff_ne.mpr c9
     have c9b1 : (a1 != 0) = true := bne_iff_ne.mpr c9
     have H' := Aside0.mk H
     clear H; go_wp2
     go_loopg [6, 7, 8] kj2 (fun kq v6 v7 v8 w' => ∃ (x6_2 : Int) (x7_2 : Int) (x8_2 : Int) (x318000_2 : Int) (x318001_2 : Int), v6 = .int .i64 x6_2 ∧ v7 = .int .i64 x7_2 ∧ v8 = .int .i64 x8_2 ∧ Aside0 (mosaicref04_Choose.l0 kq l0 a1 (wrap64 (4294967296 - ((4294967296 : Int) % a1))) x6_2 x7_2 x8_2 = some (r1, r2)) ∧ Aside0 (kq ≤ kj2) ∧ Aside0 (w'.heap[gb317]? = some (.cells #[.int .i64 x318000_2, .int .i64 x318001_2] 106 (0, 0))) ∧ Aside0 (Below w.heap.size w w'))
     case atStart => exact ⟨(0), (0), (0), (0), (0), zF, zF, zF, H', ⟨Nat.le_refl _⟩, ⟨zk BK317⟩, ⟨zB⟩⟩
     case round =>
      clear H'
      obtain ⟨x6_2, x7_2, x8_2, x318000_2, x318001_2, rfl, rfl, rfl, HA, HK2, BK317, HB⟩ := hrel
      cases gk with
      | zero => exact absurd HA.out (by simp [mosaicref04_Choose.l0])
      | succ k2 =>
       have H := HA.out; clear HA; simp only [mosaicref04_Choose.l0] at H
       have HC10 := Aside0.mk H
       clear H; go_upto_region 7 with (fail)
       go_cut [31] (fun v31 wc => ∃ (kq : Nat) (x31_9 : Bool), v31 = .bool x31_9 ∧ Aside0 (mosaicref04_Choose.j2 kq l0 a1 (wrap64 (4294967296 - ((4294967296 : Int) % a1))) x6_2 x7_2 x8_2 x31_9 = some (r1, r2)) ∧ Aside0 (kq ≤ k2) ∧ Aside0 (wc.heap[gb317]? = some (.cells #[.int .i64 x318000_2, .int .i64 x318001_2] 106 (0, 0))) ∧ Aside0 (Below w.heap.size w wc))
       case first =>
        have H := HC10.out; clear HC10; by_cases c11 : x8_2 < (l0.length : Int)
        ·
         rw [if_pos c11] at H
         have c11b0 : decide (x8_2 < (l0.length : Int)) = true := decide_eq_true c11
         clear c11; (first | rw [c11b0] | (simp only [i64_w, i32_w]; rw [c11b0]) | skip)
         have H' := Aside0.mk H
         clear H; go_wp2
         go_meet
         case rel => exact ⟨_, (decide (x8_2 < 8)), zF, H', ⟨by have := HJ2.out; have := HK2.out; first | omega | exact Nat.le_refl _⟩, ⟨zk BK317⟩, ⟨zB⟩⟩
        ·
         rw [if_neg c11] at H
         have c11b0 : decide (x8_2 < (l0.length : Int)) = false := decide_eq_false c11
         clear c11; (first | rw [c11b0] | (simp only [i64_w, i32_w]; rw [c11b0]) | skip)
         have H' := Aside0.mk H
         clear H; go_wp2
         go_meet
         case rel => exact ⟨_, (false), zF, H', ⟨by have := HJ2.out; have := HK2.out; first | omega | exact Nat.le_refl _⟩, ⟨zk BK317⟩, ⟨zB⟩⟩
       case rest =>
        clear HC10; obtain ⟨kq, x31_9, rfl, HA, HJ9, BK317, HB⟩ := hcut
        cases kq with
        | zero => exact absurd HA.out (by simp [mosaicref04_Choose.j2])
        | succ kj9 =>
         have H := HA.out; clear HA; simp only [mosaicref04_Choose.j2] at H
         by_cases c12 : x31_9 = true
         ·
          subst c12
          have H1 : (if 0 ≤ x8_2 then (if x8_2 < (l0.length : Int) then (if (wrap64 (rd l0 x8_2)) < (wrap64 (4294967296 - ((4294967296 : Int) % a1))) then (if a1 = 0 then (none) else (some (Int.tmod (wrap64 (rd l0 x8_2)) a1, wrap64 (x8_2 + 1)))) else (mosaicref04_Choose.l0 kj9 l0 a1 (wrap64 (4294967296 - ((4294967296 : Int) % a1))) (wrap64 (rd l0 x8_2)) (wrap64 (x8_2 + 1)) (wrap64 (x8_2 + 1)))) else (none)) else (none)) = some (r1, r2) := by rw [if_pos rfl] at H; exact H
          clear H; have H := H1; clear H1; by_cases c13 : 0 ≤ x8_2
          ·
           rw [if_pos c13] at H
           have c13b0 : decide (0 ≤ x8_2) = true := decide_eq_true c13
           clear c13; by_cases c14 : x8_2 < (l0.length : Int)
           ·
            rw [if_pos c14] at H
            have c14b0 : decide (x8_2 < (l0.length : Int)) = true := decide_eq_true c14
            clear c14; by_cases c15 : (wrap64 (rd l0 x8_2)) < (wrap64 (4294967296 - ((4294967296 : Int) % a1)))
            ·
             rw [if_pos c15] at H
             have c15b0 : decide ((wrap64 (rd l0 x8_2)) < (wrap64 (4294967296 - ((4294967296 : Int) % a1)))) = true := decide_eq_true c15
             clear c15; by_cases c16 : a1 = 0
             ·
              rw [if_pos c16] at H
              exact absurd H (by simp)
             ·
              rw [if_neg c16] at H
              have c16b0 : (a1 == 0) = false := beq_eq_false_iff_ne.mpr c16
              have c16b1 : (a1 != 0) = true := bne_iff_ne.mpr c16
              simp only [Option.some.injEq, Prod.mk.injEq] at H
              obtain ⟨rfl, rfl⟩ := H
              have p318 : 0 ≤ (x8_2 : Int) := of_decide_eq_true zA
              have q318 : x8_2 < (l0.length : Int) := of_decide_eq_true zA
              obtain ⟨ad318, e318, hx318_0⟩ := Kd.at_int HR0.out x8_2 p318 q318
              cases e318
              (try replace hx318_0 := (HB.out.cell (World.block_lt_of_cell? w _ hx318_0)).trans hx318_0)
              replace p318 := eq_true p318
              replace q318 := eq_true q318
              obtain ⟨hcz17_0, hcz17_1⟩ := cZ2 BK317
              obtain ⟨hfz17_0, hfz17_1⟩ := dZ2 BK317; go_wp2
              refine bodyPost_ret (results_cell_row rfl _ _ gb317 106 #[.int .i64 (Int.tmod (wrap64 (rd l0 x8_2)) a1), .int .i64 (wrap64 (x8_2 + 1))] (0, 0) _ rfl (by (with_reducible repeat (first | refine blk_drewN ?_ _ | refine blk_drew ?_ | refine blk_alloc ?_ _)); refine blk_put (cs := #[.int .i64 (Int.tmod (wrap64 (rd l0 x8_2)) a1), .int .i64 x318001_2]) ?_ 1 _ rfl; (with_reducible repeat (first | refine blk_drewN ?_ _ | refine blk_drew ?_ | refine blk_alloc ?_ _)); refine blk_put (cs := #[.int .i64 x318000_2, .int .i64 x318001_2]) ?_ 0 _ rfl; (with_reducible repeat (first | refine blk_drewN ?_ _ | refine blk_drew ?_ | refine blk_alloc ?_ _)); exact BK317.out) Tryz.underlying106 rfl (by kernel_rfl)) rfl ?_
              exact ⟨zE, zB⟩
            ·
             rw [if_neg c15] at H
             have c15b0 : decide ((wrap64 (rd l0 x8_2)) < (wrap64 (4294967296 - ((4294967296 : Int) % a1)))) = false := decide_eq_false c15
             clear c15; have H' := Aside0.mk H
             clear H; have p318 : 0 ≤ (x8_2 : Int) := of_decide_eq_true zA
             have q318 : x8_2 < (l0.length : Int) := of_decide_eq_true zA
             obtain ⟨ad318, e318, hx318_0⟩ := Kd.at_int HR0.out x8_2 p318 q318
             cases e318
             (try replace hx318_0 := (HB.out.cell (World.block_lt_of_cell? w _ hx318_0)).trans hx318_0)
             replace p318 := eq_true p318
             replace q318 := eq_true q318
             go_wp2
             go_roundg kj9
             case measure => have := HJ2.out; have := HK2.out; have := HJ9.out; omega
             case rel => exact ⟨(wrap64 (rd l0 x8_2)), (wrap64 (x8_2 + 1)), (wrap64 (x8_2 + 1)), (x318000_2), (x318001_2), zF, zF, zF, H', ⟨by have := HJ2.out; have := HK2.out; have := HJ9.out; omega⟩, ⟨zk BK317⟩, ⟨zB⟩⟩
           ·
            rw [if_neg c14] at H
            exact absurd H (by simp)
          ·
           rw [if_neg c13] at H
           exact absurd H (by simp)
         ·
          replace c12 := Bool.eq_false_iff.mpr c12
          subst c12
          have H1 : (if a1 = 0 then (none) else (some (Int.tmod x6_2 a1, x7_2))) = some (r1, r2) := by rw [if_neg (show ¬ (false = true) by decide)] at H; exact H
          clear H; have H := H1; clear H1; by_cases c18 : a1 = 0
          ·
           rw [if_pos c18] at H
           exact absurd H (by simp)
          ·
           rw [if_neg c18] at H
           have c18b0 : (a1 == 0) = false := beq_eq_false_iff_ne.mpr c18
           have c18b1 : (a1 != 0) = true := bne_iff_ne.mpr c18
           simp only [Option.some.injEq, Prod.mk.injEq] at H
           obtain ⟨rfl, rfl⟩ := H
           obtain ⟨hcz19_0, hcz19_1⟩ := cZ2 BK317
           obtain ⟨hfz19_0, hfz19_1⟩ := dZ2 BK317; go_wp2
           refine bodyPost_ret (results_cell_row rfl _ _ gb317 106 #[.int .i64 (Int.tmod x6_2 a1), .int .i64 x7_2] (0, 0) _ rfl (by (with_reducible repeat (first | refine blk_drewN ?_ _ | refine blk_drew ?_ | refine blk_alloc ?_ _)); refine blk_put (cs := #[.int .i64 (Int.tmod x6_2 a1), .int .i64 x318001_2]) ?_ 1 _ rfl; (with_reducible repeat (first | refine blk_drewN ?_ _ | refine blk_drew ?_ | refine blk_alloc ?_ _)); refine blk_put (cs := #[.int .i64 x318000_2, .int .i64 x318001_2]) ?_ 0 _ rfl; (with_reducible repeat (first | refine blk_drewN ?_ _ | refine blk_drew ?_ | refine blk_alloc ?_ _)); exact BK317.out) Tryz.underlying106 rfl (by kernel_rfl)) rfl ?_
           exact ⟨zE, zB⟩
/-! ### mosaicref04_Gen_Below: function 55 -/
mutual
def mosaicref04_Gen_Below.j0 : Nat → Int → Bool → ByteArray → Int → Option (ByteArray × Int × Int)
 | 0, _, _, _, _ => none
 | k + 1, x1, x13, x320000, x320001 => if x13 = true then (some (x320000, x320001, 0)) else (mosaicref04_Gen_Below.l0 k x1 ([] : List Int) 0 x320000 x320001)
def mosaicref04_Gen_Below.l0 : Nat → Int → List Int → Int → ByteArray → Int → Option (ByteArray × Int × Int)
 | 0, _, _, _, _, _ => none
 | k + 1, x1, x5, x6, x320000, x320001 => if x6 < 8 then ((mosaicref04_Gen_word.f k x320000 x320001 (wrap64 (x320001 + x6))).bind fun t321 => (if x5.length < 35184372088832 then (mosaicref04_Gen_Below.l0 k x1 (x5 ++ [(t321) % 4294967296]) (wrap64 (x6 + 1)) x320000 x320001) else (none))) else ((mosaicref04_Choose.f k x5 x1).bind fun bt325 => (some (x320000, wrap64 (x320001 + bt325.2), bt325.1)))
end
def mosaicref04_Gen_Below.f (k : Nat) (a0_0 : ByteArray) (a0_1 : Int) (a1 : Int) : Option (ByteArray × Int × Int) := if a1 < 1 then (mosaicref04_Gen_Below.j0 k a1 true a0_0 a0_1) else (mosaicref04_Gen_Below.j0 k a1 (decide (a1 > 2147483647)) a0_0 a0_1)
theorem mosaicref04_Gen_Below.mono_l : ∀ k, (∀ y0 y1 y2 y3, LeO (mosaicref04_Gen_Below.j0 k y0 y1 y2 y3) (mosaicref04_Gen_Below.j0 (k + 1) y0 y1 y2 y3)) ∧ (∀ y0 y1 y2 y3 y4, LeO (mosaicref04_Gen_Below.l0 k y0 y1 y2 y3 y4) (mosaicref04_Gen_Below.l0 (k + 1) y0 y1 y2 y3 y4))
 | 0 => ⟨fun _ _ _ _ r h => by simp [mosaicref04_Gen_Below.j0] at h, fun _ _ _ _ _ r h => by simp [mosaicref04_Gen_Below.l0] at h⟩
 | k + 1 => by
  obtain ⟨ih0, ih1⟩ := mosaicref04_Gen_Below.mono_l k
  refine ⟨?_, ?_⟩ <;> intros <;> (first | unfold mosaicref04_Gen_Below.j0 | unfold mosaicref04_Gen_Below.l0)
  all_goals repeat' first | (with_reducible first | apply ih0 | apply ih1 | apply mosaicref04_Choose.mono | apply mosaicref04_Gen_word.mono | exact LeO.refl _ | exact LeO.none _ | refine LeO.ite ?_ ?_ | refine LeO.bind ?_ (fun _ => ?_)) | apply ih0 | apply ih1 | apply mosaicref04_Choose.mono | apply mosaicref04_Gen_word.mono | exact LeO.none _ | refine LeO.ite ?_ ?_ | refine LeO.bind ?_ (fun _ => ?_)
theorem mosaicref04_Gen_Below.mono : ∀ a0 a1 a2 k, LeO (mosaicref04_Gen_Below.f k a0 a1 a2) (mosaicref04_Gen_Below.f (k + 1) a0 a1 a2) := by
 intro a0 a1 a2 k
 obtain ⟨ih0, ih1⟩ := mosaicref04_Gen_Below.mono_l k
 unfold mosaicref04_Gen_Below.f
 repeat' first | (with_reducible first | apply ih0 | apply ih1 | apply mosaicref04_Choose.mono | apply mosaicref04_Gen_word.mono | exact LeO.refl _ | exact LeO.none _ | refine LeO.ite ?_ ?_ | refine LeO.bind ?_ (fun _ => ?_)) | apply ih0 | apply ih1 | apply mosaicref04_Choose.mono | apply mosaicref04_Gen_word.mono | exact LeO.none _ | refine LeO.ite ?_ ?_ | refine LeO.bind ?_ (fun _ => ?_)
set_option maxHeartbeats 8000000 in
set_option maxRecDepth 100000 in
theorem mosaicref04_Gen_Below.calls (k : Nat) (a0_0 : ByteArray) (a0_1 : Int) (a1 : Int) (r1 : ByteArray) (r2 : Int) (r3 : Int) (w : World) (h : mosaicref04_Gen_Below.f k a0_0 a0_1 a1 = some (r1, r2, r3)) :
  Calls Tryz.prog 55 #[.agg #[.string a0_0, .int .i64 a0_1], .int .i64 a1] w fun e w' => e = .returned (.agg #[.string r1, .int .i64 r2, .int .i64 r3]) ∧ Below w.heap.size w w' := by
 have hu56 := Tryz.underlying56; have hu80 := Tryz.underlying80; have hu106 := Tryz.underlying106; have HB := Aside0.mk (Below.refl w.heap.size w)
 have H : (if a1 < 1 then (mosaicref04_Gen_Below.j0 k a1 true a0_0 a0_1) else (mosaicref04_Gen_Below.j0 k a1 (decide (a1 > 2147483647)) a0_0 a0_1)) = some (r1, r2, r3) := h
 clear h; have HC3 := Aside0.mk H
 clear H; go_enter Tryz.func55, Tryz.ntmps55
 go_upto_region 1 with (first | ((with_reducible refine gate_dst (N := 2) rfl ?_); refine box_event ?hg (N := 2) ?hd (cs := #[.string a0_0, .int .i64 a0_1]) (t := 56) ?hr ?_; (case hd => rfl); (case hg => rfl); (case hr => first | (go_simp; done) | (go_simp; rfl)); intro gb319 hg w4 hbox hb; have BK319 := Aside0.mk (hbox); have GW319 := Aside0.mk ((zg : w.heap.size ≤ gb319)); have GE319 := Aside0.mk ((zg : w.heap.size ≤ gb319)); replace HB := Aside0.mk (below_step zB hb); clear hb hbox hg) | ((with_reducible refine gate_dst (N := 4) rfl ?_); refine box_event ?hg (N := 4) ?hd (cs := #[.string (⟨#[]⟩ : ByteArray), .int .i64 0, .int .i64 0]) (t := 80) ?hr ?_; (case hd => rfl); (case hg => rfl); (case hr => first | (go_simp; done) | (go_simp; rfl)); intro gb320 hg w5 hbox hb; have n0_ := Aside0.mk (blk_below (zk BK319) hb); have n1_ := Aside0.mk (below_step zB hb); have n2_ := Aside0.mk (hbox); have n3_ := Aside0.mk ((zg : w.heap.size ≤ gb320)); have n4_ := Aside0.mk ((zg : w.heap.size ≤ gb320)); have n5_ := Aside0.mk ((by rw [hg]; exact Nat.ne_of_lt (blk_lt (zk BK319)) : gb319 ≠ gb320)); have n6_ := Aside0.mk ((by rw [hg]; exact Nat.ne_of_gt (blk_lt (zk BK319)) : gb320 ≠ gb319)); clear BK319; clear HB; have BK319 := n0_; have HB := n1_; have BK320 := n2_; have GW320 := n3_; have GE320 := n4_; have NB319_320 := n5_; have NB320_319 := n6_; clear n0_ n1_ n2_ n3_ n4_ n5_ n6_; clear hb hbox hg))
 (try simp only [Act.put, List.setIfInBounds_toArray, List.set_cons_zero, List.set_cons_succ])
 go_cut [13] (fun v13 wc => ∃ (kq : Nat) (x13_2 : Bool), v13 = .bool x13_2 ∧ Aside0 (mosaicref04_Gen_Below.j0 kq a1 x13_2 a0_0 a0_1 = some (r1, r2, r3)) ∧ Aside0 (kq ≤ k) ∧ Aside0 (wc.heap[gb319]? = some (.cells #[.string a0_0, .int .i64 a0_1] 56 (0, 0))) ∧ Aside0 (wc.heap[gb320]? = some (.cells #[.string (⟨#[]⟩ : ByteArray), .int .i64 0, .int .i64 0] 80 (0, 0))) ∧ Aside0 (Below w.heap.size w wc))
 case first =>
  have H := HC3.out; clear HC3; by_cases c6 : a1 < 1
  ·
   rw [if_pos c6] at H
   have c6b0 : decide (a1 < 1) = true := decide_eq_true c6
   clear c6; (first | rw [c6b0] | (simp only [i64_w, i32_w]; rw [c6b0]) | skip)
   have H' := Aside0.mk H
   clear H; go_wp2
   go_meet
   case rel => exact ⟨_, (true), zF, H', ⟨by first | omega | exact Nat.le_refl _⟩, ⟨zk BK319⟩, ⟨zk BK320⟩, ⟨zB⟩⟩
  ·
   rw [if_neg c6] at H
   have c6b0 : decide (a1 < 1) = false := decide_eq_false c6
   clear c6; (first | rw [c6b0] | (simp only [i64_w, i32_w]; rw [c6b0]) | skip)
   have H' := Aside0.mk H
   clear H; go_wp2
   go_meet
   case rel => exact ⟨_, (decide (a1 > 2147483647)), zF, H', ⟨by first | omega | exact Nat.le_refl _⟩, ⟨zk BK319⟩, ⟨zk BK320⟩, ⟨zB⟩⟩
 case rest =>
  clear HC3; obtain ⟨kq, x13_2, rfl, HA, HJ2, BK319, BK320, HB⟩ := hcut
  cases kq with
  | zero => exact absurd HA.out (by simp [mosaicref04_Gen_Below.j0])
  | succ kj2 =>
   have H := HA.out; clear HA; simp only [mosaicref04_Gen_Below.j0] at H
   by_cases c7 : x13_2 = true
   ·
    subst c7
    have H1 : (some (a0_0, a0_1, 0)) = some (r1, r2, r3) := by rw [if_pos rfl] at H; exact H
    clear H; have H := H1; clear H1; simp only [Option.some.injEq, Prod.mk.injEq] at H
    obtain ⟨rfl, rfl, rfl⟩ := H
    have hnb8 := NB319_320.out; have hnc8 := NB320_319.out; obtain ⟨hcz9_0, hcz9_1⟩ := cZ2 BK319
    obtain ⟨hfz9_0, hfz9_1⟩ := dZ2 BK319; obtain ⟨hcz10_0, hcz10_1, hcz10_2⟩ := cZ3 BK320
    obtain ⟨hfz10_0, hfz10_1, hfz10_2⟩ := dZ3 BK320; go_wp2
    refine bodyPost_ret (results_cell_row rfl _ _ gb320 80 #[.string a0_0, .int .i64 a0_1, .int .i64 0] (0, 0) _ rfl (by (with_reducible repeat (first | refine blk_drewN ?_ _ | refine blk_drew ?_ | refine blk_alloc ?_ _)); refine blk_put (cs := #[.string a0_0, .int .i64 a0_1, .int .i64 0]) ?_ 2 _ rfl; (with_reducible repeat (first | refine blk_drewN ?_ _ | refine blk_drew ?_ | refine blk_alloc ?_ _)); refine blk_put (cs := #[.string a0_0, .int .i64 0, .int .i64 0]) ?_ 1 _ rfl; (with_reducible repeat (first | refine blk_drewN ?_ _ | refine blk_drew ?_ | refine blk_alloc ?_ _)); refine blk_put (cs := #[.string (⟨#[]⟩ : ByteArray), .int .i64 0, .int .i64 0]) ?_ 0 _ rfl; (with_reducible repeat (first | refine blk_drewN ?_ _ | refine blk_drew ?_ | refine blk_alloc ?_ _)); exact BK320.out) Tryz.underlying80 rfl (by kernel_rfl)) rfl ?_
    exact ⟨zE, zB⟩
   ·
    replace c7 := Bool.eq_false_iff.mpr c7
    subst c7
    have H1 : (mosaicref04_Gen_Below.l0 kj2 a1 ([] : List Int) 0 a0_0 a0_1) = some (r1, r2, r3) := by rw [if_neg (show ¬ (false = true) by decide)] at H; exact H
    clear H; have H := H1; clear H1; have H' := Aside0.mk H
    clear H; go_wp2
    go_loopg [5, 6] kj2 (fun kq v5 v6 w' => ∃ (x5_2 : List Int) (x6_2 : Int), v6 = .int .i64 x6_2 ∧ Aside0 (mosaicref04_Gen_Below.l0 kq a1 x5_2 x6_2 a0_0 a0_1 = some (r1, r2, r3)) ∧ Aside0 (kq ≤ kj2) ∧ Aside0 (Kd.R (Kd.int .u32) 104 w' w.heap.size (fun _ => True) v5 x5_2) ∧ Aside0 (w'.heap[gb319]? = some (.cells #[.string a0_0, .int .i64 a0_1] 56 (0, 0))) ∧ Aside0 (w'.heap[gb320]? = some (.cells #[.string (⟨#[]⟩ : ByteArray), .int .i64 0, .int .i64 0] 80 (0, 0))) ∧ Aside0 (Below w.heap.size w w'))
    case atStart => exact ⟨(([] : List Int)), (0), zF, H', ⟨Nat.le_refl _⟩, ⟨by first | exact Kd.R_nil _ _ _ _ _ | exact Kd.N_nil _ _ _ _ _ | exact Kd.V_nil _ _ _ _ _ | exact Kd.Q_nil _ _ _ _ _ | exact Kd.S_nil _ _ _ _ _⟩, ⟨zk BK319⟩, ⟨zk BK320⟩, ⟨zB⟩⟩
    case round =>
     clear H'
     obtain ⟨x5_2, x6_2, rfl, HA, HK2, HO_5, BK319, BK320, HB⟩ := hrel
     cases gk with
     | zero => exact absurd HA.out (by simp [mosaicref04_Gen_Below.l0])
     | succ k2 =>
      have H := HA.out; clear HA; simp only [mosaicref04_Gen_Below.l0] at H
      by_cases c11 : x6_2 < 8
      ·
       rw [if_pos c11] at H
       have c11b0 : decide (x6_2 < 8) = true := decide_eq_true c11
       clear c11; replace H := Option.bind_eq_some_iff.mp H
       obtain ⟨t321, A120, H⟩ := H
       replace H : (if x5_2.length < 35184372088832 then (mosaicref04_Gen_Below.l0 k2 a1 (x5_2 ++ [(t321) % 4294967296]) (wrap64 (x6_2 + 1)) a0_0 a0_1) else (none)) = some (r1, r2, r3) := H
       have A12 := Aside0.mk A120
       clear A120; by_cases c13 : x5_2.length < 35184372088832
       ·
        rw [if_pos c13] at H
        have LMc13 := Aside0.mk c13
        clear c13; obtain ⟨y322, hy322⟩ : ∃ y_ : List Int, y_ = (x5_2 ++ [(t321) % 4294967296]) := ⟨_, rfl⟩
        replace H : (mosaicref04_Gen_Below.l0 k2 a1 y322 (wrap64 (x6_2 + 1)) a0_0 a0_1) = some (r1, r2, r3) := by first | (rw [hy322]; with_reducible exact H) | (have H2_ := (Option.bind_some _ _).symm.trans H; rw [hy322]; with_reducible exact H2_) | (have H2_ := (Option.bind_some _ _).symm.trans H; with_reducible exact H2_) | with_reducible exact H | (rw [hy322]; exact H) | exact H
        have Ny322 := Aside0.mk hy322
        clear hy322; have H' := Aside0.mk H
        clear H; have hnb14 := NB319_320.out; have hnc14 := NB320_319.out; obtain ⟨hcz15_0, hcz15_1⟩ := cZ2 BK319
        obtain ⟨hfz15_0, hfz15_1⟩ := dZ2 BK319; go_wp2_with (first | ((with_reducible refine gate_callee (f := 75) rfl ?_); refine goesL_ (some 26) rfl rfl Tryz.func75 (by kernel_rfl) rfl #[.agg #[.string a0_0, .int .i64 a0_1], .int .i64 (wrap64 (a0_1 + x6_2))] rfl zM ?_; (with_reducible refine (mosaicref04_Gen_word.calls k2 a0_0 a0_1 (wrap64 (a0_1 + x6_2)) t321 _ A12.out).mono ?_); rintro e w16 ⟨rfl, hb⟩; refine ⟨_, rfl, ?_⟩; replace HO_5 := Aside0.mk (Kd.R_below (zR HO_5) hb); replace BK319 := Aside0.mk (blk_below (zk BK319) hb); replace BK320 := Aside0.mk (blk_below (zk BK320) hb); replace HB := Aside0.mk (below_step zB hb); (try clear hb); (try clear hb2); (try clear hk); (try clear hi)) | ((with_reducible refine gate_builtin (b := .append) (xs := #[.tmp 20, .tmp 28]) rfl ?_); at_builtin; refine Kd.R_append (Kd.int .u32) (w0 := w) w.heap.size rfl (.tmp 20) (.tmp 28) 103 104 (.int .u32 0) 4 rfl Tryz.underlying103 info104 rfl (by decide) (by omega) u5 x5_2 ((t321) % 4294967296) [.int .u32 ((t321) % 4294967296)] (fun _ => True) (fun _ => False) rfl rfl ?aP (fun _ hk => hk.elim) ?aF ?aO ?aB ?aS ?aL ?_; (case aP => exact rfl); (case aB => exact zB); (case aF => exact (fun _ _ => trivial)); (case aO => exact (by (with_reducible repeat (first | apply Kd.R_alloc | apply Kd.R_drewN | apply Kd.R_drew)); exact HO_5.out)); (case aS => exact (below_size zB)); (case aL => have := LMc13.out; omega); intro v323 w17 ho hb hg hat; rw [← Ny322.out] at ho; replace BK319 := Aside0.mk (blk_grown (zk BK319) hg (Kd.R_ne HO_5.out BK319.out (by decide))); replace BK320 := Aside0.mk (blk_grown (zk BK320) hg (Kd.R_ne HO_5.out BK320.out (by decide))); have HO324 := Aside0.mk (ho); replace HB := Aside0.mk (hb); clear HO_5; clear ho hb hg hat))
        go_roundg k2
        case measure => have := HJ2.out; have := HK2.out; omega
        case rel => exact ⟨(y322), (wrap64 (x6_2 + 1)), zF, H', ⟨by have := HJ2.out; have := HK2.out; omega⟩, ⟨zR HO324⟩, ⟨zk BK319⟩, ⟨zk BK320⟩, ⟨zB⟩⟩
       ·
        rw [if_neg c13] at H
        exact absurd H (by simp)
      ·
       rw [if_neg c11] at H
       have c11b0 : decide (x6_2 < 8) = false := decide_eq_false c11
       clear c11; replace H := Option.bind_eq_some_iff.mp H
       obtain ⟨⟨t325, t326⟩, A180, H⟩ := H
       replace H : (some (a0_0, wrap64 (a0_1 + t326), t325)) = some (r1, r2, r3) := H
       have A18 := Aside0.mk A180
       clear A180; simp only [Option.some.injEq, Prod.mk.injEq] at H
       obtain ⟨rfl, rfl, rfl⟩ := H
       obtain ⟨Ao19, co19, eo19⟩ := Kd.R_slice HO_5.out
       subst eo19
       go_wp2_with (first | ((with_reducible refine gate_callee (f := 76) rfl ?_); refine goesL_ (some 32) rfl rfl Tryz.func76 (by kernel_rfl) rfl #[.slice Ao19 x5_2.length co19, .int .i64 a1] rfl zM ?_; (with_reducible refine (mosaicref04_Choose.calls k2 _ _ x5_2 a1 t325 t326 _ ?side1 ?side2 A18.out).mono ?_); (case side1 => exact zRC HO_5); (case side2 => exact (Kd.R_reads' HO_5.out).2.1); rintro e w20 ⟨rfl, hb⟩; refine ⟨_, rfl, ?_⟩; replace HO_5 := Aside0.mk (Kd.R_below (zR HO_5) hb); replace BK319 := Aside0.mk (blk_below (zk BK319) hb); replace BK320 := Aside0.mk (blk_below (zk BK320) hb); replace HB := Aside0.mk (below_step zB hb); (try clear hb); (try clear hb2); (try clear hk); (try clear hi)) | ((with_reducible refine gate_dst (N := 7) rfl ?_); refine box_event ?hg (N := 7) ?hd (cs := #[.int .i64 0, .int .i64 0]) (t := 106) ?hr ?_; (case hd => rfl); (case hg => rfl); (case hr => first | (go_simp; done) | (go_simp; rfl)); intro gb327 hg w21 hbox hb; have n0_ := Aside0.mk (Kd.R_below (zR HO_5) hb); have n1_ := Aside0.mk (blk_below (zk BK319) hb); have n2_ := Aside0.mk (blk_below (zk BK320) hb); have n3_ := Aside0.mk (below_step zB hb); have n4_ := Aside0.mk (hbox); have n5_ := Aside0.mk ((zg : w.heap.size ≤ gb327)); have n6_ := Aside0.mk ((zg : w.heap.size ≤ gb327)); have n7_ := Aside0.mk ((by rw [hg]; exact Nat.ne_of_lt (blk_lt (zk BK319)) : gb319 ≠ gb327)); have n8_ := Aside0.mk ((by rw [hg]; exact Nat.ne_of_gt (blk_lt (zk BK319)) : gb327 ≠ gb319)); have n9_ := Aside0.mk ((by rw [hg]; exact Nat.ne_of_lt (blk_lt (zk BK320)) : gb320 ≠ gb327)); have n10_ := Aside0.mk ((by rw [hg]; exact Nat.ne_of_gt (blk_lt (zk BK320)) : gb327 ≠ gb320)); clear HO_5; clear BK319; clear BK320; clear HB; have HO_5 := n0_; have BK319 := n1_; have BK320 := n2_; have HB := n3_; have BK327 := n4_; have GW327 := n5_; have GE327 := n6_; have NB319_327 := n7_; have NB327_319 := n8_; have NB320_327 := n9_; have NB327_320 := n10_; clear n0_ n1_ n2_ n3_ n4_ n5_ n6_ n7_ n8_ n9_ n10_; clear hb hbox hg; have hnb22 := NB327_319.out; have hnc22 := NB319_327.out; have hnb23 := NB327_320.out; have hnc23 := NB320_327.out; obtain ⟨hcz24_0, hcz24_1⟩ := cZ2 BK327; obtain ⟨hfz24_0, hfz24_1⟩ := dZ2 BK327; have hnb25 := NB319_320.out; have hnc25 := NB320_319.out; obtain ⟨hcz26_0, hcz26_1⟩ := cZ2 BK319; obtain ⟨hfz26_0, hfz26_1⟩ := dZ2 BK319; obtain ⟨hcz27_0, hcz27_1, hcz27_2⟩ := cZ3 BK320; obtain ⟨hfz27_0, hfz27_1, hfz27_2⟩ := dZ3 BK320))
       refine bodyPost_ret (results_cell_row rfl _ _ gb320 80 #[.string a0_0, .int .i64 (wrap64 (a0_1 + t326)), .int .i64 t325] (0, 0) _ rfl (by (with_reducible repeat (first | refine blk_drewN ?_ _ | refine blk_drew ?_ | refine blk_alloc ?_ _)); refine blk_put (cs := #[.string a0_0, .int .i64 (wrap64 (a0_1 + t326)), .int .i64 0]) ?_ 2 _ rfl; (with_reducible repeat (first | refine blk_drewN ?_ _ | refine blk_drew ?_ | refine blk_alloc ?_ _)); refine blk_put (cs := #[.string a0_0, .int .i64 0, .int .i64 0]) ?_ 1 _ rfl; (with_reducible repeat (first | refine blk_drewN ?_ _ | refine blk_drew ?_ | refine blk_alloc ?_ _)); refine blk_put (cs := #[.string (⟨#[]⟩ : ByteArray), .int .i64 0, .int .i64 0]) ?_ 0 _ rfl; (with_reducible repeat (first | refine blk_drewN ?_ _ | refine blk_drew ?_ | refine blk_alloc ?_ _)); refine blk_far ?_ NB320_327.out _; (with_reducible repeat (first | refine blk_drewN ?_ _ | refine blk_drew ?_ | refine blk_alloc ?_ _)); refine blk_far ?_ NB320_327.out _; (with_reducible repeat (first | refine blk_drewN ?_ _ | refine blk_drew ?_ | refine blk_alloc ?_ _)); exact BK320.out) Tryz.underlying80 rfl (by kernel_rfl)) rfl ?_
       exact ⟨zE, zB⟩
/-! ### mosaicref04_Gen_Pick: function 31 -/
/-- The Bools of a number's bits. -/
def mkB31 (w m : Nat) : Array Bool := ⟨(List.range w).map fun i => m.testBit i⟩
mutual
def mosaicref04_Gen_Pick.j0 : Nat → Int → Int → Bool → ByteArray → Int → Option (ByteArray × Int × List Int)
 | 0, _, _, _, _, _ => none
 | k + 1, x1, x2, x28, x329000, x329001 => if x28 = true then (some (x329000, x329001, ([] : List Int))) else (mosaicref04_Gen_Pick.l0 k x1 x2 ([] : List Int) 0 x329000 x329001)
def mosaicref04_Gen_Pick.l0 : Nat → Int → Int → List Int → Int → ByteArray → Int → Option (ByteArray × Int × List Int)
 | 0, _, _, _, _, _, _ => none
 | k + 1, x1, x2, x7, x8, x329000, x329001 => if x8 < x1 then (if x7.length < 17592186044416 then (mosaicref04_Gen_Pick.l0 k x1 x2 (x7 ++ [x8]) (wrap64 (x8 + 1)) x329000 x329001) else (none)) else (mosaicref04_Gen_Pick.l1 k x1 x2 x7 0 x329000 x329001 ([] : List Int))
def mosaicref04_Gen_Pick.l1 : Nat → Int → Int → List Int → Int → ByteArray → Int → List Int → Option (ByteArray × Int × List Int)
 | 0, _, _, _, _, _, _, _ => none
 | k + 1, x1, x2, x7, x10, x334000, x334001, x334002 => if x10 < x2 then ((mosaicref04_Gen_Below.f k x334000 x334001 (wrap64 (x1 - x10))).bind fun bt334 => (if 0 ≤ x10 then (if x10 < (x7.length : Int) then (if 0 ≤ (wrap64 (x10 + bt334.2.2)) then (if (wrap64 (x10 + bt334.2.2)) < (x7.length : Int) then ((some ((x7.set (x10 : Int).toNat (rd x7 (wrap64 (x10 + bt334.2.2)))).set ((wrap64 (x10 + bt334.2.2)) : Int).toNat (rd x7 x10) : List Int)).bind fun y341 => (if x334002.length < 17592186044416 then (mosaicref04_Gen_Pick.l1 k x1 x2 y341 (wrap64 (x10 + 1)) bt334.1 bt334.2.1 (x334002 ++ [rd y341 x10])) else (none))) else (none)) else (none)) else (none)) else (none))) else (some (x334000, x334001, x334002))
end
def mosaicref04_Gen_Pick.f (k : Nat) (a0_0 : ByteArray) (a0_1 : Int) (a1 : Int) (a2 : Int) : Option (ByteArray × Int × List Int) := if a1 < 0 then (mosaicref04_Gen_Pick.j0 k a1 a2 true a0_0 a0_1) else (if a1 > 4096 then (mosaicref04_Gen_Pick.j0 k a1 a2 true a0_0 a0_1) else (if a2 < 0 then (mosaicref04_Gen_Pick.j0 k a1 a2 true a0_0 a0_1) else (mosaicref04_Gen_Pick.j0 k a1 a2 (decide (a2 > a1)) a0_0 a0_1)))
theorem mosaicref04_Gen_Pick.mono_l : ∀ k, (∀ y0 y1 y2 y3 y4, LeO (mosaicref04_Gen_Pick.j0 k y0 y1 y2 y3 y4) (mosaicref04_Gen_Pick.j0 (k + 1) y0 y1 y2 y3 y4)) ∧ (∀ y0 y1 y2 y3 y4 y5, LeO (mosaicref04_Gen_Pick.l0 k y0 y1 y2 y3 y4 y5) (mosaicref04_Gen_Pick.l0 (k + 1) y0 y1 y2 y3 y4 y5)) ∧ (∀ y0 y1 y2 y3 y4 y5 y6, LeO (mosaicref04_Gen_Pick.l1 k y0 y1 y2 y3 y4 y5 y6) (mosaicref04_Gen_Pick.l1 (k + 1) y0 y1 y2 y3 y4 y5 y6))
 | 0 => ⟨fun _ _ _ _ _ r h => by simp [mosaicref04_Gen_Pick.j0] at h, fun _ _ _ _ _ _ r h => by simp [mosaicref04_Gen_Pick.l0] at h, fun _ _ _ _ _ _ _ r h => by simp [mosaicref04_Gen_Pick.l1] at h⟩
 | k + 1 => by
  obtain ⟨ih0, ih1, ih2⟩ := mosaicref04_Gen_Pick.mono_l k
  refine ⟨?_, ?_, ?_⟩ <;> intros <;> (first | unfold mosaicref04_Gen_Pick.j0 | unfold mosaicref04_Gen_Pick.l0 | unfold mosaicref04_Gen_Pick.l1)
  all_goals repeat' first | (with_reducible first | apply ih0 | apply ih1 | apply ih2 | apply mosaicref04_Gen_Below.mono | exact LeO.refl _ | exact LeO.none _ | refine LeO.ite ?_ ?_ | refine LeO.bind ?_ (fun _ => ?_)) | apply ih0 | apply ih1 | apply ih2 | apply mosaicref04_Gen_Below.mono | exact LeO.none _ | refine LeO.ite ?_ ?_ | refine LeO.bind ?_ (fun _ => ?_)
theorem mosaicref04_Gen_Pick.mono : ∀ a0 a1 a2 a3 k, LeO (mosaicref04_Gen_Pick.f k a0 a1 a2 a3) (mosaicref04_Gen_Pick.f (k + 1) a0 a1 a2 a3) := by
 intro a0 a1 a2 a3 k
 obtain ⟨ih0, ih1, ih2⟩ := mosaicref04_Gen_Pick.mono_l k
 unfold mosaicref04_Gen_Pick.f
 repeat' first | (with_reducible first | apply ih0 | apply ih1 | apply ih2 | apply mosaicref04_Gen_Below.mono | exact LeO.refl _ | exact LeO.none _ | refine LeO.ite ?_ ?_ | refine LeO.bind ?_ (fun _ => ?_)) | apply ih0 | apply ih1 | apply ih2 | apply mosaicref04_Gen_Below.mono | exact LeO.none _ | refine LeO.ite ?_ ?_ | refine LeO.bind ?_ (fun _ => ?_)
def mosaicref04_Gen_Pick.T18 : Bool × List (List Nat × List Nat) := (true, [([], []), ([0], [0]), ([], []), ([], []), ([2, 3], [2, 3]), ([4], [4]), ([5], [5]), ([1, 6], [1, 6]), ([0, 1, 2, 3, 4, 5, 6, 7], []), ([8, 7, 7, 0, 1, 2, 3, 4, 5, 6, 7], [7, 8])])
def mosaicref04_Gen_Pick.B18 : List Nat := [0, 1, 0, 0, 12, 28, 60, 127, 255, 511]
theorem mosaicref04_Gen_Pick.tab18 : rtab .any (opsOf Tryz.f31 18) = mosaicref04_Gen_Pick.T18 := by kernel_rfl
theorem mosaicref04_Gen_Pick.bits18 : waitsOk mosaicref04_Gen_Pick.T18.2 mosaicref04_Gen_Pick.B18 = true := by kernel_rfl
set_option maxHeartbeats 8000000 in
set_option maxRecDepth 100000 in
theorem mosaicref04_Gen_Pick.calls (k : Nat) (a0_0 : ByteArray) (a0_1 : Int) (a1 : Int) (a2 : Int) (r1 : ByteArray) (r2 : Int) (r3 : List Int) (w : World) (h : mosaicref04_Gen_Pick.f k a0_0 a0_1 a1 a2 = some (r1, r2, r3)) :
  Calls Tryz.prog 31 #[.agg #[.string a0_0, .int .i64 a0_1], .int .i64 a1, .int .i64 a2] w fun e w' => ∃ v2_ : Value, e = .returned (.agg #[.string r1, .int .i64 r2, v2_]) ∧ Kd.R (Kd.int .i64) 3 w' w.heap.size (fun _ => True) v2_ r3 ∧ Below w.heap.size w w' := by
 have hu56 := Tryz.underlying56; have hu58 := Tryz.underlying58; have hu80 := Tryz.underlying80; have HB := Aside0.mk (Below.refl w.heap.size w)
 have H : (if a1 < 0 then (mosaicref04_Gen_Pick.j0 k a1 a2 true a0_0 a0_1) else (if a1 > 4096 then (mosaicref04_Gen_Pick.j0 k a1 a2 true a0_0 a0_1) else (if a2 < 0 then (mosaicref04_Gen_Pick.j0 k a1 a2 true a0_0 a0_1) else (mosaicref04_Gen_Pick.j0 k a1 a2 (decide (a2 > a1)) a0_0 a0_1)))) = some (r1, r2, r3) := h
 clear h; have HC4 := Aside0.mk H
 clear H; go_enter Tryz.func31, Tryz.ntmps31
 go_upto_region 1 with (first | ((with_reducible refine gate_dst (N := 3) rfl ?_); refine box_event ?hg (N := 3) ?hd (cs := #[.string a0_0, .int .i64 a0_1]) (t := 56) ?hr ?_; (case hd => rfl); (case hg => rfl); (case hr => first | (go_simp; done) | (go_simp; rfl)); intro gb328 hg w5 hbox hb; have BK328 := Aside0.mk (hbox); have GW328 := Aside0.mk ((zg : w.heap.size ≤ gb328)); have GE328 := Aside0.mk ((zg : w.heap.size ≤ gb328)); replace HB := Aside0.mk (below_step zB hb); clear hb hbox hg) | ((with_reducible refine gate_dst (N := 6) rfl ?_); refine box_event ?hg (N := 6) ?hd (cs := #[.string (⟨#[]⟩ : ByteArray), .int .i64 0, .slice none 0 0]) (t := 58) ?hr ?_; (case hd => rfl); (case hg => rfl); (case hr => first | (go_simp; done) | (go_simp; rfl)); intro gb329 hg w6 hbox hb; have n0_ := Aside0.mk (blk_below (zk BK328) hb); have n1_ := Aside0.mk (below_step zB hb); have n2_ := Aside0.mk (hbox); have n3_ := Aside0.mk ((zg : w.heap.size ≤ gb329)); have n4_ := Aside0.mk ((zg : w.heap.size ≤ gb329)); have n5_ := Aside0.mk ((by rw [hg]; exact Nat.ne_of_lt (blk_lt (zk BK328)) : gb328 ≠ gb329)); have n6_ := Aside0.mk ((by rw [hg]; exact Nat.ne_of_gt (blk_lt (zk BK328)) : gb329 ≠ gb328)); clear BK328; clear HB; have BK328 := n0_; have HB := n1_; have BK329 := n2_; have GW329 := n3_; have GE329 := n4_; have NB328_329 := n5_; have NB329_328 := n6_; clear n0_ n1_ n2_ n3_ n4_ n5_ n6_; clear hb hbox hg))
 (try simp only [Act.put, List.setIfInBounds_toArray, List.set_cons_zero, List.set_cons_succ])
 go_cut [28] (fun v28 wc => ∃ (kq : Nat) (x28_3 : Bool), v28 = .bool x28_3 ∧ Aside0 (mosaicref04_Gen_Pick.j0 kq a1 a2 x28_3 a0_0 a0_1 = some (r1, r2, r3)) ∧ Aside0 (kq ≤ k) ∧ Aside0 (wc.heap[gb328]? = some (.cells #[.string a0_0, .int .i64 a0_1] 56 (0, 0))) ∧ Aside0 (wc.heap[gb329]? = some (.cells #[.string (⟨#[]⟩ : ByteArray), .int .i64 0, (.slice none 0 0)] 58 (0, 0))) ∧ Aside0 (Below w.heap.size w wc))
 case first =>
  have H := HC4.out; clear HC4; by_cases c7 : a1 < 0
  ·
   rw [if_pos c7] at H
   have c7b0 : decide (a1 < 0) = true := decide_eq_true c7
   clear c7; (first | rw [c7b0] | (simp only [i64_w, i32_w]; rw [c7b0]) | skip)
   have H' := Aside0.mk H
   clear H; go_wp2
   go_meet
   case rel => exact ⟨_, (true), zF, H', ⟨by first | omega | exact Nat.le_refl _⟩, ⟨zk BK328⟩, ⟨zk BK329⟩, ⟨zB⟩⟩
  ·
   rw [if_neg c7] at H
   have c7b0 : decide (a1 < 0) = false := decide_eq_false c7
   clear c7; (first | rw [c7b0] | (simp only [i64_w, i32_w]; rw [c7b0]) | skip)
   by_cases c8 : a1 > 4096
   ·
    rw [if_pos c8] at H
    have c8b0 : decide (4096 < a1) = true := decide_eq_true c8
    clear c8; have H' := Aside0.mk H
    clear H; go_wp2
    go_meet
    case rel => exact ⟨_, (true), zF, H', ⟨by first | omega | exact Nat.le_refl _⟩, ⟨zk BK328⟩, ⟨zk BK329⟩, ⟨zB⟩⟩
   ·
    rw [if_neg c8] at H
    have c8b0 : decide (4096 < a1) = false := decide_eq_false c8
    clear c8; by_cases c9 : a2 < 0
    ·
     rw [if_pos c9] at H
     have c9b0 : decide (a2 < 0) = true := decide_eq_true c9
     clear c9; have H' := Aside0.mk H
     clear H; go_wp2
     go_meet
     case rel => exact ⟨_, (true), zF, H', ⟨by first | omega | exact Nat.le_refl _⟩, ⟨zk BK328⟩, ⟨zk BK329⟩, ⟨zB⟩⟩
    ·
     rw [if_neg c9] at H
     have c9b0 : decide (a2 < 0) = false := decide_eq_false c9
     clear c9; have H' := Aside0.mk H
     clear H; go_wp2
     go_meet
     case rel => exact ⟨_, (decide (a2 > a1)), zF, H', ⟨by first | omega | exact Nat.le_refl _⟩, ⟨zk BK328⟩, ⟨zk BK329⟩, ⟨zB⟩⟩
 case rest =>
  clear HC4; obtain ⟨kq, x28_3, rfl, HA, HJ3, BK328, BK329, HB⟩ := hcut
  cases kq with
  | zero => exact absurd HA.out (by simp [mosaicref04_Gen_Pick.j0])
  | succ kj3 =>
   have H := HA.out; clear HA; simp only [mosaicref04_Gen_Pick.j0] at H
   by_cases c10 : x28_3 = true
   ·
    subst c10
    have H1 : (some (a0_0, a0_1, ([] : List Int))) = some (r1, r2, r3) := by rw [if_pos rfl] at H; exact H
    clear H; have H := H1; clear H1; simp only [Option.some.injEq, Prod.mk.injEq] at H
    obtain ⟨rfl, rfl, rfl⟩ := H
    have hnb11 := NB328_329.out; have hnc11 := NB329_328.out; obtain ⟨hcz12_0, hcz12_1⟩ := cZ2 BK328
    obtain ⟨hfz12_0, hfz12_1⟩ := dZ2 BK328; obtain ⟨hcz13_0, hcz13_1, hcz13_2⟩ := cZ3 BK329
    obtain ⟨hfz13_0, hfz13_1, hfz13_2⟩ := dZ3 BK329; go_wp2
    refine bodyPost_ret (results_cell_row rfl _ _ gb329 58 #[.string a0_0, .int .i64 a0_1, .slice none 0 0] (0, 0) _ rfl (by (with_reducible repeat (first | refine blk_drewN ?_ _ | refine blk_drew ?_ | refine blk_alloc ?_ _)); refine blk_put (cs := #[.string a0_0, .int .i64 a0_1, .slice none 0 0]) ?_ 2 _ rfl; (with_reducible repeat (first | refine blk_drewN ?_ _ | refine blk_drew ?_ | refine blk_alloc ?_ _)); refine blk_put (cs := #[.string a0_0, .int .i64 0, .slice none 0 0]) ?_ 1 _ rfl; (with_reducible repeat (first | refine blk_drewN ?_ _ | refine blk_drew ?_ | refine blk_alloc ?_ _)); refine blk_put (cs := #[.string (⟨#[]⟩ : ByteArray), .int .i64 0, .slice none 0 0]) ?_ 0 _ rfl; (with_reducible repeat (first | refine blk_drewN ?_ _ | refine blk_drew ?_ | refine blk_alloc ?_ _)); exact BK329.out) Tryz.underlying58 rfl (by kernel_rfl)) rfl ?_
    exact ⟨_, zE, by first | exact Kd.R_nil _ _ _ _ _ | exact Kd.N_nil _ _ _ _ _ | exact Kd.V_nil _ _ _ _ _ | exact Kd.Q_nil _ _ _ _ _ | exact Kd.S_nil _ _ _ _ _, zB⟩
   ·
    replace c10 := Bool.eq_false_iff.mpr c10
    subst c10
    have H1 : (mosaicref04_Gen_Pick.l0 kj3 a1 a2 ([] : List Int) 0 a0_0 a0_1) = some (r1, r2, r3) := by rw [if_neg (show ¬ (false = true) by decide)] at H; exact H
    clear H; have H := H1; clear H1; have H' := Aside0.mk H
    clear H; go_wp2
    go_loopg [7, 8] kj3 (fun kq v7 v8 w' => ∃ (x7_2 : List Int) (x8_2 : Int), v8 = .int .i64 x8_2 ∧ Aside0 (mosaicref04_Gen_Pick.l0 kq a1 a2 x7_2 x8_2 a0_0 a0_1 = some (r1, r2, r3)) ∧ Aside0 (kq ≤ kj3) ∧ Aside0 (Kd.R (Kd.int .i64) 3 w' w.heap.size (fun _ => True) v7 x7_2) ∧ Aside0 (w'.heap[gb328]? = some (.cells #[.string a0_0, .int .i64 a0_1] 56 (0, 0))) ∧ Aside0 (w'.heap[gb329]? = some (.cells #[.string (⟨#[]⟩ : ByteArray), .int .i64 0, (.slice none 0 0)] 58 (0, 0))) ∧ Aside0 (Below w.heap.size w w'))
    case atStart => exact ⟨(([] : List Int)), (0), zF, H', ⟨Nat.le_refl _⟩, ⟨by first | exact Kd.R_nil _ _ _ _ _ | exact Kd.N_nil _ _ _ _ _ | exact Kd.V_nil _ _ _ _ _ | exact Kd.Q_nil _ _ _ _ _ | exact Kd.S_nil _ _ _ _ _⟩, ⟨zk BK328⟩, ⟨zk BK329⟩, ⟨zB⟩⟩
    case round =>
     clear H'
     obtain ⟨x7_2, x8_2, rfl, HA, HK2, HO_7, BK328, BK329, HB⟩ := hrel
     cases gk with
     | zero => exact absurd HA.out (by simp [mosaicref04_Gen_Pick.l0])
     | succ k2 =>
      have H := HA.out; clear HA; simp only [mosaicref04_Gen_Pick.l0] at H
      by_cases c14 : x8_2 < a1
      ·
       rw [if_pos c14] at H
       have c14b0 : decide (x8_2 < a1) = true := decide_eq_true c14
       clear c14; by_cases c15 : x7_2.length < 17592186044416
       ·
        rw [if_pos c15] at H
        have LMc15 := Aside0.mk c15
        clear c15; obtain ⟨y330, hy330⟩ : ∃ y_ : List Int, y_ = (x7_2 ++ [x8_2]) := ⟨_, rfl⟩
        replace H : (mosaicref04_Gen_Pick.l0 k2 a1 a2 y330 (wrap64 (x8_2 + 1)) a0_0 a0_1) = some (r1, r2, r3) := by first | (rw [hy330]; with_reducible exact H) | (have H2_ := (Option.bind_some _ _).symm.trans H; rw [hy330]; with_reducible exact H2_) | (have H2_ := (Option.bind_some _ _).symm.trans H; with_reducible exact H2_) | with_reducible exact H | (rw [hy330]; exact H) | exact H
        have Ny330 := Aside0.mk hy330
        clear hy330; have H' := Aside0.mk H
        clear H; go_wp2_with (first | ((with_reducible refine gate_builtin (b := .append) (xs := #[.tmp 36, .tmp 38]) rfl ?_); at_builtin; refine Kd.R_append (Kd.int .i64) (w0 := w) w.heap.size rfl (.tmp 36) (.tmp 38) 26 3 (.int .i64 0) 8 rfl Tryz.underlying26 info3 rfl (by decide) (by omega) u7 x7_2 x8_2 [.int .i64 x8_2] (fun _ => True) (fun _ => False) rfl rfl ?aP (fun _ hk => hk.elim) ?aF ?aO ?aB ?aS ?aL ?_; (case aP => exact rfl); (case aB => exact zB); (case aF => exact (fun _ _ => trivial)); (case aO => exact (by (with_reducible repeat (first | apply Kd.R_alloc | apply Kd.R_drewN | apply Kd.R_drew)); exact HO_7.out)); (case aS => exact (below_size zB)); (case aL => have := LMc15.out; omega); intro v331 w16 ho hb hg hat; rw [← Ny330.out] at ho; replace BK328 := Aside0.mk (blk_grown (zk BK328) hg (Kd.R_ne HO_7.out BK328.out (by decide))); replace BK329 := Aside0.mk (blk_grown (zk BK329) hg (Kd.R_ne HO_7.out BK329.out (by decide))); have HO332 := Aside0.mk (ho); replace HB := Aside0.mk (hb); clear HO_7; clear ho hb hg hat))
        go_roundg k2
        case measure => have := HJ3.out; have := HK2.out; omega
        case rel => exact ⟨(y330), (wrap64 (x8_2 + 1)), zF, H', ⟨by have := HJ3.out; have := HK2.out; omega⟩, ⟨zR HO332⟩, ⟨zk BK328⟩, ⟨zk BK329⟩, ⟨zB⟩⟩
       ·
        rw [if_neg c15] at H
        exact absurd H (by simp)
      ·
       rw [if_neg c14] at H
       have c14b0 : decide (x8_2 < a1) = false := decide_eq_false c14
       clear c14; have H' := Aside0.mk H
       clear H; have hnb17 := NB328_329.out; have hnc17 := NB329_328.out; obtain ⟨hcz18_0, hcz18_1⟩ := cZ2 BK328
       obtain ⟨hfz18_0, hfz18_1⟩ := dZ2 BK328; go_wp2_with (first | ((with_reducible refine gate_dst (N := 9) rfl ?_); refine box_event ?hg (N := 9) ?hd (cs := #[.string (⟨#[]⟩ : ByteArray), .int .i64 0, .slice none 0 0]) (t := 58) ?hr ?_; (case hd => rfl); (case hg => rfl); (case hr => first | (go_simp; done) | (go_simp; rfl)); intro gb333 hg w19 hbox hb; have n0_ := Aside0.mk (Kd.R_below (zR HO_7) hb); have n1_ := Aside0.mk (blk_below (zk BK328) hb); have n2_ := Aside0.mk (blk_below (zk BK329) hb); have n3_ := Aside0.mk (below_step zB hb); have n4_ := Aside0.mk (hbox); have n5_ := Aside0.mk ((zg : w.heap.size ≤ gb333)); have n6_ := Aside0.mk ((zg : w.heap.size ≤ gb333)); have n7_ := Aside0.mk ((by rw [hg]; exact Nat.ne_of_lt (blk_lt (zk BK328)) : gb328 ≠ gb333)); have n8_ := Aside0.mk ((by rw [hg]; exact Nat.ne_of_gt (blk_lt (zk BK328)) : gb333 ≠ gb328)); have n9_ := Aside0.mk ((by rw [hg]; exact Nat.ne_of_lt (blk_lt (zk BK329)) : gb329 ≠ gb333)); have n10_ := Aside0.mk ((by rw [hg]; exact Nat.ne_of_gt (blk_lt (zk BK329)) : gb333 ≠ gb329)); clear HO_7; clear BK328; clear BK329; clear HB; have HO_7 := n0_; have BK328 := n1_; have BK329 := n2_; have HB := n3_; have BK333 := n4_; have GW333 := n5_; have GE333 := n6_; have NB328_333 := n7_; have NB333_328 := n8_; have NB329_333 := n9_; have NB333_329 := n10_; clear n0_ n1_ n2_ n3_ n4_ n5_ n6_ n7_ n8_ n9_ n10_; clear hb hbox hg; have hnb20 := NB333_328.out; have hnc20 := NB328_333.out; have hnb21 := NB333_329.out; have hnc21 := NB329_333.out; obtain ⟨hcz22_0, hcz22_1, hcz22_2⟩ := cZ3 BK333; obtain ⟨hfz22_0, hfz22_1, hfz22_2⟩ := dZ3 BK333))
       go_loopg [10] k2 (fun kq v10 w' => ∃ (x7_3 : List Int) (x10_3 : Int) (x334000_3 : ByteArray) (x334001_3 : Int) (x334002_3 : List Int) (u334002 : Value), v10 = .int .i64 x10_3 ∧ Aside0 (mosaicref04_Gen_Pick.l1 kq a1 a2 x7_3 x10_3 x334000_3 x334001_3 x334002_3 = some (r1, r2, r3)) ∧ Aside0 (kq ≤ k2) ∧ Aside0 (Kd.R (Kd.int .i64) 3 w' w.heap.size (fun k_ => some k_ ≠ (u334002 : Value).ownBlock) u7 x7_3) ∧ Aside0 (Kd.R (Kd.int .i64) 3 w' w.heap.size (fun k_ => some k_ ≠ (u7 : Value).ownBlock) u334002 x334002_3) ∧ Aside0 (w'.heap[gb328]? = some (.cells #[.string a0_0, .int .i64 a0_1] 56 (0, 0))) ∧ Aside0 (w'.heap[gb329]? = some (.cells #[.string (⟨#[]⟩ : ByteArray), .int .i64 0, (.slice none 0 0)] 58 (0, 0))) ∧ Aside0 (w'.heap[gb333]? = some (.cells #[.string x334000_3, .int .i64 x334001_3, u334002] 58 (0, 0))) ∧ Aside0 (Below w.heap.size w w'))
       case atStart => exact ⟨(x7_2), (0), (a0_0), (a0_1), (([] : List Int)), (.slice none 0 0), zF, H', ⟨Nat.le_refl _⟩, ⟨by (with_reducible repeat (first | apply Kd.R_alloc | apply Kd.R_drewN | apply Kd.R_drew)); exact Kd.R_mono (Kd.R_far (p := ⟨gb333, 2, none⟩) (Kd.R_far (p := ⟨gb333, 1, none⟩) (Kd.R_far (p := ⟨gb333, 0, none⟩) (Kd.R_types HO_7.out BK333.out (by decide)) (fun _ hk => hk.2) (.string a0_0)) (fun _ hk => hk.2) (.int .i64 a0_1)) (fun _ hk => hk.2) (.slice none 0 0)) (fun _ hk => (by simp [Value.ownBlock]))⟩, ⟨by first | exact Kd.R_nil _ _ _ _ _ | exact Kd.N_nil _ _ _ _ _ | exact Kd.V_nil _ _ _ _ _ | exact Kd.Q_nil _ _ _ _ _ | exact Kd.S_nil _ _ _ _ _⟩, ⟨by (with_reducible repeat (first | refine blk_drewN ?_ _ | refine blk_drew ?_ | refine blk_alloc ?_ _)); refine blk_far ?_ NB328_333.out _; (with_reducible repeat (first | refine blk_drewN ?_ _ | refine blk_drew ?_ | refine blk_alloc ?_ _)); refine blk_far ?_ NB328_333.out _; (with_reducible repeat (first | refine blk_drewN ?_ _ | refine blk_drew ?_ | refine blk_alloc ?_ _)); refine blk_far ?_ NB328_333.out _; (with_reducible repeat (first | refine blk_drewN ?_ _ | refine blk_drew ?_ | refine blk_alloc ?_ _)); exact BK328.out⟩, ⟨by (with_reducible repeat (first | refine blk_drewN ?_ _ | refine blk_drew ?_ | refine blk_alloc ?_ _)); refine blk_far ?_ NB329_333.out _; (with_reducible repeat (first | refine blk_drewN ?_ _ | refine blk_drew ?_ | refine blk_alloc ?_ _)); refine blk_far ?_ NB329_333.out _; (with_reducible repeat (first | refine blk_drewN ?_ _ | refine blk_drew ?_ | refine blk_alloc ?_ _)); refine blk_far ?_ NB329_333.out _; (with_reducible repeat (first | refine blk_drewN ?_ _ | refine blk_drew ?_ | refine blk_alloc ?_ _)); exact BK329.out⟩, ⟨by (with_reducible repeat (first | refine blk_drewN ?_ _ | refine blk_drew ?_ | refine blk_alloc ?_ _)); refine blk_put (cs := #[.string a0_0, .int .i64 a0_1, .slice none 0 0]) ?_ 2 _ rfl; (with_reducible repeat (first | refine blk_drewN ?_ _ | refine blk_drew ?_ | refine blk_alloc ?_ _)); refine blk_put (cs := #[.string a0_0, .int .i64 0, .slice none 0 0]) ?_ 1 _ rfl; (with_reducible repeat (first | refine blk_drewN ?_ _ | refine blk_drew ?_ | refine blk_alloc ?_ _)); refine blk_put (cs := #[.string (⟨#[]⟩ : ByteArray), .int .i64 0, .slice none 0 0]) ?_ 0 _ rfl; (with_reducible repeat (first | refine blk_drewN ?_ _ | refine blk_drew ?_ | refine blk_alloc ?_ _)); exact BK333.out⟩, ⟨zB⟩⟩
       case round =>
        clear H'
        obtain ⟨x7_3, x10_3, x334000_3, x334001_3, x334002_3, u334002, rfl, HA, HK3, HO_7, HO_334002, BK328, BK329, BK333, HB⟩ := hrel
        cases gk with
        | zero => exact absurd HA.out (by simp [mosaicref04_Gen_Pick.l1])
        | succ k3 =>
         have H := HA.out; clear HA; simp only [mosaicref04_Gen_Pick.l1] at H
         by_cases c23 : x10_3 < a2
         ·
          rw [if_pos c23] at H
          have c23b0 : decide (x10_3 < a2) = true := decide_eq_true c23
          clear c23; replace H := Option.bind_eq_some_iff.mp H
          obtain ⟨⟨t334, t335, t336⟩, A240, H⟩ := H
          replace H : (if 0 ≤ x10_3 then (if x10_3 < (x7_3.length : Int) then (if 0 ≤ (wrap64 (x10_3 + t336)) then (if (wrap64 (x10_3 + t336)) < (x7_3.length : Int) then ((some ((x7_3.set (x10_3 : Int).toNat (rd x7_3 (wrap64 (x10_3 + t336)))).set ((wrap64 (x10_3 + t336)) : Int).toNat (rd x7_3 x10_3) : List Int)).bind fun y341 => (if x334002_3.length < 17592186044416 then (mosaicref04_Gen_Pick.l1 k3 a1 a2 y341 (wrap64 (x10_3 + 1)) t334 t335 (x334002_3 ++ [rd y341 x10_3])) else (none))) else (none)) else (none)) else (none)) else (none)) = some (r1, r2, r3) := H
          have A24 := Aside0.mk A240
          clear A240; by_cases c25 : 0 ≤ x10_3
          ·
           rw [if_pos c25] at H
           have c25b0 : decide (0 ≤ x10_3) = true := decide_eq_true c25
           clear c25; by_cases c26 : x10_3 < (x7_3.length : Int)
           ·
            rw [if_pos c26] at H
            have c26b0 : decide (x10_3 < (x7_3.length : Int)) = true := decide_eq_true c26
            clear c26; obtain ⟨ji27, hji27⟩ : ∃ j_ : Int, (wrap64 (x10_3 + t336)) = j_ := ⟨_, rfl⟩
            replace H : (if 0 ≤ (ji27) then (if (ji27) < (x7_3.length : Int) then ((some ((x7_3.set (x10_3 : Int).toNat (rd x7_3 (ji27))).set ((ji27) : Int).toNat (rd x7_3 x10_3) : List Int)).bind fun y341 => (if x334002_3.length < 17592186044416 then (mosaicref04_Gen_Pick.l1 k3 a1 a2 y341 (wrap64 (x10_3 + 1)) t334 t335 (x334002_3 ++ [rd y341 x10_3])) else (none))) else (none)) else (none)) = some (r1, r2, r3) := by first | (rw [hji27] at H; exact H) | (simp only [hji27] at H ⊢; exact H)
            (try rw [hji27] at A24)
            have hji27w : (IntKind.i64.wrap (x10_3 + t336)) = ji27 := (i64_w _).trans hji27
            by_cases c28 : 0 ≤ (ji27)
            ·
             rw [if_pos c28] at H
             have c28b0 : decide (0 ≤ (ji27)) = true := decide_eq_true c28
             clear c28; by_cases c29 : (ji27) < (x7_3.length : Int)
             ·
              rw [if_pos c29] at H
              have c29b0 : decide ((ji27) < (x7_3.length : Int)) = true := decide_eq_true c29
              clear c29; obtain ⟨y340, hy340⟩ : ∃ y_ : List Int, y_ = (x7_3.set (x10_3 : Int).toNat (rd x7_3 (ji27))) := ⟨_, rfl⟩
              replace H : ((some (y340.set ((ji27) : Int).toNat (rd x7_3 x10_3) : List Int)).bind fun y341 => (if x334002_3.length < 17592186044416 then (mosaicref04_Gen_Pick.l1 k3 a1 a2 y341 (wrap64 (x10_3 + 1)) t334 t335 (x334002_3 ++ [rd y341 x10_3])) else (none))) = some (r1, r2, r3) := by first | (rw [hy340]; with_reducible exact H) | (have H2_ := (Option.bind_some _ _).symm.trans H; rw [hy340]; with_reducible exact H2_) | (have H2_ := (Option.bind_some _ _).symm.trans H; with_reducible exact H2_) | with_reducible exact H | (rw [hy340]; exact H) | exact H
              have Ny340 := Aside0.mk hy340
              clear hy340; obtain ⟨y341, hy341⟩ : ∃ y_ : List Int, y_ = (y340.set ((ji27) : Int).toNat (rd x7_3 x10_3)) := ⟨_, rfl⟩
              replace H : (if x334002_3.length < 17592186044416 then (mosaicref04_Gen_Pick.l1 k3 a1 a2 y341 (wrap64 (x10_3 + 1)) t334 t335 (x334002_3 ++ [rd y341 x10_3])) else (none)) = some (r1, r2, r3) := by first | (rw [hy341]; with_reducible exact H) | (have H2_ := (Option.bind_some _ _).symm.trans H; rw [hy341]; with_reducible exact H2_) | (have H2_ := (Option.bind_some _ _).symm.trans H; with_reducible exact H2_) | with_reducible exact H | (rw [hy341]; exact H) | exact H
              have Ny341 := Aside0.mk hy341
              clear hy341; by_cases c32 : x334002_3.length < 17592186044416
              ·
               rw [if_pos c32] at H
               have LMc32 := Aside0.mk c32
               clear c32; obtain ⟨y343, hy343⟩ : ∃ y_ : List Int, y_ = (x334002_3 ++ [rd y341 x10_3]) := ⟨_, rfl⟩
               replace H : (mosaicref04_Gen_Pick.l1 k3 a1 a2 y341 (wrap64 (x10_3 + 1)) t334 t335 y343) = some (r1, r2, r3) := by first | (rw [hy343]; with_reducible exact H) | (have H2_ := (Option.bind_some _ _).symm.trans H; rw [hy343]; with_reducible exact H2_) | (have H2_ := (Option.bind_some _ _).symm.trans H; with_reducible exact H2_) | with_reducible exact H | (rw [hy343]; exact H) | exact H
               have Ny343 := Aside0.mk hy343
               clear hy343; have H' := Aside0.mk H
               clear H; have hnb33 := NB333_328.out; have hnc33 := NB328_333.out; have hnb34 := NB333_329.out; have hnc34 := NB329_333.out; obtain ⟨hcz35_0, hcz35_1, hcz35_2⟩ := cZ3 BK333
               obtain ⟨hfz35_0, hfz35_1, hfz35_2⟩ := dZ3 BK333; try go_wp2_with (first | ((with_reducible refine gate_callee (f := 55) rfl ?_); refine goesL_ (some 52) rfl rfl Tryz.func55 (by kernel_rfl) rfl #[.agg #[.string x334000_3, .int .i64 x334001_3], .int .i64 (wrap64 (a1 - x10_3))] rfl zM ?_; (with_reducible refine (mosaicref04_Gen_Below.calls k3 x334000_3 x334001_3 (wrap64 (a1 - x10_3)) t334 t335 t336 _ A24.out).mono ?_); rintro e w36 ⟨rfl, hb⟩; refine ⟨_, rfl, ?_⟩; replace HO_7 := Aside0.mk (Kd.R_below (zR HO_7) hb); replace HO_334002 := Aside0.mk (Kd.R_below (zR HO_334002) hb); replace BK328 := Aside0.mk (blk_below (zk BK328) hb); replace BK329 := Aside0.mk (blk_below (zk BK329) hb); replace BK333 := Aside0.mk (blk_below (zk BK333) hb); replace HB := Aside0.mk (below_step zB hb); (try clear hb); (try clear hb2); (try clear hk); (try clear hi)) | ((with_reducible refine gate_dst (N := 11) rfl ?_); refine box_event ?hg (N := 11) ?hd (cs := #[.string (⟨#[]⟩ : ByteArray), .int .i64 0, .int .i64 0]) (t := 80) ?hr ?_; (case hd => rfl); (case hg => rfl); (case hr => first | (go_simp; done) | (go_simp; rfl)); intro gb337 hg w37 hbox hb; have n0_ := Aside0.mk (Kd.R_below (zR HO_7) hb); have n1_ := Aside0.mk (Kd.R_below (zR HO_334002) hb); have n2_ := Aside0.mk (blk_below (zk BK328) hb); have n3_ := Aside0.mk (blk_below (zk BK329) hb); have n4_ := Aside0.mk (blk_below (zk BK333) hb); have n5_ := Aside0.mk (below_step zB hb); have n6_ := Aside0.mk (hbox); have n7_ := Aside0.mk ((zg : w.heap.size ≤ gb337)); have n8_ := Aside0.mk ((zg : w.heap.size ≤ gb337)); have n9_ := Aside0.mk ((by rw [hg]; exact Nat.ne_of_lt (blk_lt (zk BK328)) : gb328 ≠ gb337)); have n10_ := Aside0.mk ((by rw [hg]; exact Nat.ne_of_gt (blk_lt (zk BK328)) : gb337 ≠ gb328)); have n11_ := Aside0.mk ((by rw [hg]; exact Nat.ne_of_lt (blk_lt (zk BK329)) : gb329 ≠ gb337)); have n12_ := Aside0.mk ((by rw [hg]; exact Nat.ne_of_gt (blk_lt (zk BK329)) : gb337 ≠ gb329)); have n13_ := Aside0.mk ((by rw [hg]; exact Nat.ne_of_lt (blk_lt (zk BK333)) : gb333 ≠ gb337)); have n14_ := Aside0.mk ((by rw [hg]; exact Nat.ne_of_gt (blk_lt (zk BK333)) : gb337 ≠ gb333)); clear HO_7; clear HO_334002; clear BK328; clear BK329; clear BK333; clear HB; have HO_7 := n0_; have HO_334002 := n1_; have BK328 := n2_; have BK329 := n3_; have BK333 := n4_; have HB := n5_; have BK337 := n6_; have GW337 := n7_; have GE337 := n8_; have NB328_337 := n9_; have NB337_328 := n10_; have NB329_337 := n11_; have NB337_329 := n12_; have NB333_337 := n13_; have NB337_333 := n14_; clear n0_ n1_ n2_ n3_ n4_ n5_ n6_ n7_ n8_ n9_ n10_ n11_ n12_ n13_ n14_; clear hb hbox hg; have hnb38 := NB337_328.out; have hnc38 := NB328_337.out; have hnb39 := NB337_329.out; have hnc39 := NB329_337.out; have hnb40 := NB337_333.out; have hnc40 := NB333_337.out; obtain ⟨hcz41_0, hcz41_1, hcz41_2⟩ := cZ3 BK337; obtain ⟨hfz41_0, hfz41_1, hfz41_2⟩ := dZ3 BK337) | ((with_reducible refine gate_store (t := 80) (p := 11) rfl ?_); refine store_event (t := 80) (p := 11) (v := ?vo_w42) (w1 := (((w37.setCell ⟨gb337, 0, none⟩ (.string t334)).setCell ⟨gb337, 1, none⟩ (.int .i64 t335)).setCell ⟨gb337, 2, none⟩ (.int .i64 t336))) ?hg ?ho ?hn ?hr ?_; (case ho => rfl); (case hg => rfl); (case hn => rfl); (case hr => first | (go_simp; done) | (go_simp; rfl)); intro w42 hw; have n0_ : Aside0 (Kd.R (Kd.int .i64) 3 w42 w.heap.size (fun k_ => some k_ ≠ (u334002 : Value).ownBlock) u7 x7_3) := ⟨(by rw [hw]; exact (by (with_reducible repeat (first | apply Kd.R_alloc | apply Kd.R_drewN | apply Kd.R_drew)); exact Kd.R_mono (Kd.R_far (p := ⟨gb337, 2, none⟩) (Kd.R_far (p := ⟨gb337, 1, none⟩) (Kd.R_far (p := ⟨gb337, 0, none⟩) (Kd.R_types HO_7.out BK337.out (by decide)) (fun _ hk => hk.2) (.string t334)) (fun _ hk => hk.2) (.int .i64 t335)) (fun _ hk => hk.2) (.int .i64 t336)) (fun _ hk => hk.1)))⟩; have n1_ : Aside0 (Kd.R (Kd.int .i64) 3 w42 w.heap.size (fun k_ => some k_ ≠ (u7 : Value).ownBlock) u334002 x334002_3) := ⟨(by rw [hw]; exact (by (with_reducible repeat (first | apply Kd.R_alloc | apply Kd.R_drewN | apply Kd.R_drew)); exact Kd.R_mono (Kd.R_far (p := ⟨gb337, 2, none⟩) (Kd.R_far (p := ⟨gb337, 1, none⟩) (Kd.R_far (p := ⟨gb337, 0, none⟩) (Kd.R_types HO_334002.out BK337.out (by decide)) (fun _ hk => hk.2) (.string t334)) (fun _ hk => hk.2) (.int .i64 t335)) (fun _ hk => hk.2) (.int .i64 t336)) (fun _ hk => hk.1)))⟩; have n2_ : Aside0 (w42.heap[gb328]? = some (.cells #[.string a0_0, .int .i64 a0_1] 56 (0, 0))) := ⟨(by rw [hw]; exact (by (with_reducible repeat (first | refine blk_drewN ?_ _ | refine blk_drew ?_ | refine blk_alloc ?_ _)); refine blk_far ?_ NB328_337.out _; (with_reducible repeat (first | refine blk_drewN ?_ _ | refine blk_drew ?_ | refine blk_alloc ?_ _)); refine blk_far ?_ NB328_337.out _; (with_reducible repeat (first | refine blk_drewN ?_ _ | refine blk_drew ?_ | refine blk_alloc ?_ _)); refine blk_far ?_ NB328_337.out _; (with_reducible repeat (first | refine blk_drewN ?_ _ | refine blk_drew ?_ | refine blk_alloc ?_ _)); exact BK328.out))⟩; have n3_ : Aside0 (w42.heap[gb329]? = some (.cells #[.string (⟨#[]⟩ : ByteArray), .int .i64 0, .slice none 0 0] 58 (0, 0))) := ⟨(by rw [hw]; exact (by (with_reducible repeat (first | refine blk_drewN ?_ _ | refine blk_drew ?_ | refine blk_alloc ?_ _)); refine blk_far ?_ NB329_337.out _; (with_reducible repeat (first | refine blk_drewN ?_ _ | refine blk_drew ?_ | refine blk_alloc ?_ _)); refine blk_far ?_ NB329_337.out _; (with_reducible repeat (first | refine blk_drewN ?_ _ | refine blk_drew ?_ | refine blk_alloc ?_ _)); refine blk_far ?_ NB329_337.out _; (with_reducible repeat (first | refine blk_drewN ?_ _ | refine blk_drew ?_ | refine blk_alloc ?_ _)); exact BK329.out))⟩; have n4_ : Aside0 (w42.heap[gb333]? = some (.cells #[.string x334000_3, .int .i64 x334001_3, u334002] 58 (0, 0))) := ⟨(by rw [hw]; exact (by (with_reducible repeat (first | refine blk_drewN ?_ _ | refine blk_drew ?_ | refine blk_alloc ?_ _)); refine blk_far ?_ NB333_337.out _; (with_reducible repeat (first | refine blk_drewN ?_ _ | refine blk_drew ?_ | refine blk_alloc ?_ _)); refine blk_far ?_ NB333_337.out _; (with_reducible repeat (first | refine blk_drewN ?_ _ | refine blk_drew ?_ | refine blk_alloc ?_ _)); refine blk_far ?_ NB333_337.out _; (with_reducible repeat (first | refine blk_drewN ?_ _ | refine blk_drew ?_ | refine blk_alloc ?_ _)); exact BK333.out))⟩; have n5_ : Aside0 (w42.heap[gb337]? = some (.cells #[.string t334, .int .i64 t335, .int .i64 t336] 80 (0, 0))) := ⟨(by rw [hw]; exact (by (with_reducible repeat (first | refine blk_drewN ?_ _ | refine blk_drew ?_ | refine blk_alloc ?_ _)); refine blk_put (cs := #[.string t334, .int .i64 t335, .int .i64 0]) ?_ 2 _ rfl; (with_reducible repeat (first | refine blk_drewN ?_ _ | refine blk_drew ?_ | refine blk_alloc ?_ _)); refine blk_put (cs := #[.string t334, .int .i64 0, .int .i64 0]) ?_ 1 _ rfl; (with_reducible repeat (first | refine blk_drewN ?_ _ | refine blk_drew ?_ | refine blk_alloc ?_ _)); refine blk_put (cs := #[.string (⟨#[]⟩ : ByteArray), .int .i64 0, .int .i64 0]) ?_ 0 _ rfl; (with_reducible repeat (first | refine blk_drewN ?_ _ | refine blk_drew ?_ | refine blk_alloc ?_ _)); exact BK337.out))⟩; have n6_ : Aside0 (Below w.heap.size w w42) := ⟨(by rw [hw]; exact zB)⟩; clear hw; clear HO_7; clear HO_334002; clear BK328; clear BK329; clear BK333; clear BK337; clear HB; have HO_7 := n0_; have HO_334002 := n1_; have BK328 := n2_; have BK329 := n3_; have BK333 := n4_; have BK337 := n5_; have HB := n6_; clear n0_ n1_ n2_ n3_ n4_ n5_ n6_; obtain ⟨hcz43_0, hcz43_1, hcz43_2⟩ := cZ3 BK337; obtain ⟨hfz43_0, hfz43_1, hfz43_2⟩ := dZ3 BK337; obtain ⟨hcz44_0, hcz44_1, hcz44_2⟩ := cZ3 BK333; obtain ⟨hfz44_0, hfz44_1, hfz44_2⟩ := dZ3 BK333) | ((with_reducible refine gate_store (t := 56) (p := 55) rfl ?_); refine store_event (t := 56) (p := 55) (v := ?vo_w45) (w1 := ((w42.setCell ⟨gb333, 0, none⟩ (.string t334)).setCell ⟨gb333, 1, none⟩ (.int .i64 t335))) ?hg ?ho ?hn ?hr ?_; (case ho => rfl); (case hg => rfl); (case hn => rfl); (case hr => first | (go_simp; done) | (go_simp; rfl)); intro w45 hw; have n0_ : Aside0 (Kd.R (Kd.int .i64) 3 w45 w.heap.size (fun k_ => some k_ ≠ (u334002 : Value).ownBlock) u7 x7_3) := ⟨(by rw [hw]; exact (by (with_reducible repeat (first | apply Kd.R_alloc | apply Kd.R_drewN | apply Kd.R_drew)); exact Kd.R_mono (Kd.R_far (p := ⟨gb333, 1, none⟩) (Kd.R_far (p := ⟨gb333, 0, none⟩) (Kd.R_types HO_7.out BK333.out (by decide)) (fun _ hk => hk.2) (.string t334)) (fun _ hk => hk.2) (.int .i64 t335)) (fun _ hk => hk.1)))⟩; have n1_ : Aside0 (Kd.R (Kd.int .i64) 3 w45 w.heap.size (fun k_ => some k_ ≠ (u7 : Value).ownBlock) u334002 x334002_3) := ⟨(by rw [hw]; exact (by (with_reducible repeat (first | apply Kd.R_alloc | apply Kd.R_drewN | apply Kd.R_drew)); exact Kd.R_mono (Kd.R_far (p := ⟨gb333, 1, none⟩) (Kd.R_far (p := ⟨gb333, 0, none⟩) (Kd.R_types HO_334002.out BK333.out (by decide)) (fun _ hk => hk.2) (.string t334)) (fun _ hk => hk.2) (.int .i64 t335)) (fun _ hk => hk.1)))⟩; have n2_ : Aside0 (w45.heap[gb328]? = some (.cells #[.string a0_0, .int .i64 a0_1] 56 (0, 0))) := ⟨(by rw [hw]; exact (by (with_reducible repeat (first | refine blk_drewN ?_ _ | refine blk_drew ?_ | refine blk_alloc ?_ _)); refine blk_far ?_ NB328_333.out _; (with_reducible repeat (first | refine blk_drewN ?_ _ | refine blk_drew ?_ | refine blk_alloc ?_ _)); refine blk_far ?_ NB328_333.out _; (with_reducible repeat (first | refine blk_drewN ?_ _ | refine blk_drew ?_ | refine blk_alloc ?_ _)); exact BK328.out))⟩; have n3_ : Aside0 (w45.heap[gb329]? = some (.cells #[.string (⟨#[]⟩ : ByteArray), .int .i64 0, .slice none 0 0] 58 (0, 0))) := ⟨(by rw [hw]; exact (by (with_reducible repeat (first | refine blk_drewN ?_ _ | refine blk_drew ?_ | refine blk_alloc ?_ _)); refine blk_far ?_ NB329_333.out _; (with_reducible repeat (first | refine blk_drewN ?_ _ | refine blk_drew ?_ | refine blk_alloc ?_ _)); refine blk_far ?_ NB329_333.out _; (with_reducible repeat (first | refine blk_drewN ?_ _ | refine blk_drew ?_ | refine blk_alloc ?_ _)); exact BK329.out))⟩; have n4_ : Aside0 (w45.heap[gb333]? = some (.cells #[.string t334, .int .i64 t335, u334002] 58 (0, 0))) := ⟨(by rw [hw]; exact (by (with_reducible repeat (first | refine blk_drewN ?_ _ | refine blk_drew ?_ | refine blk_alloc ?_ _)); refine blk_put (cs := #[.string t334, .int .i64 x334001_3, u334002]) ?_ 1 _ rfl; (with_reducible repeat (first | refine blk_drewN ?_ _ | refine blk_drew ?_ | refine blk_alloc ?_ _)); refine blk_put (cs := #[.string x334000_3, .int .i64 x334001_3, u334002]) ?_ 0 _ rfl; (with_reducible repeat (first | refine blk_drewN ?_ _ | refine blk_drew ?_ | refine blk_alloc ?_ _)); exact BK333.out))⟩; have n5_ : Aside0 (w45.heap[gb337]? = some (.cells #[.string t334, .int .i64 t335, .int .i64 t336] 80 (0, 0))) := ⟨(by rw [hw]; exact (by (with_reducible repeat (first | refine blk_drewN ?_ _ | refine blk_drew ?_ | refine blk_alloc ?_ _)); refine blk_far ?_ NB337_333.out _; (with_reducible repeat (first | refine blk_drewN ?_ _ | refine blk_drew ?_ | refine blk_alloc ?_ _)); refine blk_far ?_ NB337_333.out _; (with_reducible repeat (first | refine blk_drewN ?_ _ | refine blk_drew ?_ | refine blk_alloc ?_ _)); exact BK337.out))⟩; have n6_ : Aside0 (Below w.heap.size w w45) := ⟨(by rw [hw]; exact zB)⟩; clear hw; clear HO_7; clear HO_334002; clear BK328; clear BK329; clear BK333; clear BK337; clear HB; have HO_7 := n0_; have HO_334002 := n1_; have BK328 := n2_; have BK329 := n3_; have BK333 := n4_; have BK337 := n5_; have HB := n6_; clear n0_ n1_ n2_ n3_ n4_ n5_ n6_; obtain ⟨hcz46_0, hcz46_1, hcz46_2⟩ := cZ3 BK337; obtain ⟨hfz46_0, hfz46_1, hfz46_2⟩ := dZ3 BK337; obtain ⟨Ao47, co47, eo47⟩ := Kd.R_slice HO_7.out; subst eo47; have p338 : 0 ≤ (x10_3 : Int) := of_decide_eq_true zA; have q338 : x10_3 < (x7_3.length : Int) := of_decide_eq_true zA; obtain ⟨ad338, e338, hx338_0⟩ := Kd.at_int (Kd.R_reads' HO_7.out).2.2 x10_3 p338 q338; cases e338; replace p338 := eq_true p338; replace q338 := eq_true q338; have p339 : 0 ≤ ((ji27) : Int) := of_decide_eq_true zA; have q339 : (ji27) < (x7_3.length : Int) := of_decide_eq_true zA; obtain ⟨ad339, e339, hx339_0⟩ := Kd.at_int (Kd.R_reads' HO_7.out).2.2 (ji27) p339 q339; obtain rfl : ad338 = ad339 := (by injection e339); replace p339 := eq_true p339; replace q339 := eq_true q339; have p30 : 0 ≤ (x10_3 : Int) := of_decide_eq_true zA; have q30 : (x10_3 : Int) < ((x7_3.length : Int) : Int) := of_decide_eq_true zA; obtain ⟨go30, co30, eo30, gb30, gl30, cl30, HG30⟩ := Kd.R_form HO_7.out (by omega); (first | cases eo30 | (injection eo30 with ea_ en_ ec_; (first | subst ea_ | (injection ea_ with ea_; subst ea_)); subst ec_; clear en_)); have GB30 := Aside0.mk gb30; have GG30 := Aside0.mk HG30; clear gb30 gl30 HG30; (first | simp only [add_plain] at hx338_0 | skip); (first | simp only [add_plain] at hx339_0 | skip); obtain ⟨hx30_0, hf30_0⟩ := Kd.R_celln 0 HO_7.out (x10_3 : Int) p30 q30; replace p30 := eq_true p30; replace q30 := eq_true q30; obtain ⟨hy48_, hz48_⟩ := Kd.R_celln 0 HO_7.out (x10_3 : Int) (of_decide_eq_true zA) (of_decide_eq_true zA); have HP48 := Kd.R_putg HO_7.out (x10_3 : Int) (rd x7_3 (ji27))) | ((with_reducible refine gate_store (t := 3) (p := 70) rfl ?_); refine store_event (t := 3) (p := 70) (v := ?vo_w49) (w1 := (w45.setCell ⟨go30, (x10_3 : Int).toNat, none⟩ (.int .i64 (rd x7_3 (ji27))))) ?hg ?ho ?hn ?hr ?_; (case ho => rfl); (case hg => rfl); (case hn => rfl); (case hr => first | (go_simp; done) | (go_simp; rfl)); intro w49 hw; have hg : w45.grownBy w49 (some go30) := (by rw [hw]; exact HP48.2); have hp_ : Kd.R (Kd.int .i64) 3 w49 w.heap.size (fun k_ => some k_ ≠ (u334002 : Value).ownBlock) (.slice (some ⟨go30, 0, none⟩) x7_3.length co47) y340 := (by rw [hw, Ny340.out]; exact HP48.1); clear HP48; have n0_ := Aside0.mk (hp_); have n1_ := Aside0.mk (Kd.R_after (v := (.slice (some ⟨go30, 0, none⟩) x7_3.length co47)) (v1 := (.slice (some ⟨go30, 0, none⟩) x7_3.length co47)) (ok := (fun _ => True)) (by (with_reducible repeat (first | apply Kd.R_alloc | apply Kd.R_drewN | apply Kd.R_drew)); exact Kd.R_mono HO_334002.out (fun _ hk => ⟨trivial, hk⟩)) hg (.inl rfl)); have n2_ := Aside0.mk (blk_grown (zk BK328) hg (Kd.R_ne HO_7.out BK328.out (by decide))); have n3_ := Aside0.mk (blk_grown (zk BK329) hg (Kd.R_ne HO_7.out BK329.out (by decide))); have n4_ := Aside0.mk (blk_grown (zk BK333) hg (Kd.R_ne HO_7.out BK333.out (by decide))); have n5_ := Aside0.mk (blk_grown (zk BK337) hg (Kd.R_ne HO_7.out BK337.out (by decide))); have n6_ := Aside0.mk ((by rw [hw]; exact below_set (HB.out) GB30.out : Below w.heap.size w w49)); clear HO_7; clear HO_334002; clear BK328; clear BK329; clear BK333; clear BK337; clear HB; have HO_7 := n0_; have HO_334002 := n1_; have BK328 := n2_; have BK329 := n3_; have BK333 := n4_; have BK337 := n5_; have HB := n6_; clear n0_ n1_ n2_ n3_ n4_ n5_ n6_; clear hg hw hp_; have p31 : 0 ≤ ((ji27) : Int) := of_decide_eq_true zA; have q31 : ((ji27) : Int) < ((x7_3.length : Int) : Int) := of_decide_eq_true zA; obtain ⟨hx31_0, hf31_0⟩ := Kd.R_celln 0 HO_7.out ((ji27) : Int) p31 q31; replace p31 := eq_true p31; replace q31 := eq_true q31; obtain ⟨hy50_, hz50_⟩ := Kd.R_celln 0 HO_7.out ((ji27) : Int) (of_decide_eq_true zA) (of_decide_eq_true zA); have HP50 := Kd.R_putg HO_7.out ((ji27) : Int) (rd x7_3 x10_3)) | ((with_reducible refine gate_store (t := 3) (p := 74) rfl ?_); refine store_event (t := 3) (p := 74) (v := ?vo_w51) (w1 := (w49.setCell ⟨go30, ((ji27) : Int).toNat, none⟩ (.int .i64 (rd x7_3 x10_3)))) ?hg ?ho ?hn ?hr ?_; (case ho => rfl); (case hg => rfl); (case hn => rfl); (case hr => first | (go_simp; done) | (go_simp; rfl)); intro w51 hw; have hg : w49.grownBy w51 (some go30) := (by rw [hw]; exact HP50.2); have hp_ : Kd.R (Kd.int .i64) 3 w51 w.heap.size (fun k_ => some k_ ≠ (u334002 : Value).ownBlock) (.slice (some ⟨go30, 0, none⟩) x7_3.length co47) y341 := (by rw [hw, Ny341.out]; exact HP50.1); clear HP50; have n0_ := Aside0.mk (hp_); have n1_ := Aside0.mk (Kd.R_after (v := (.slice (some ⟨go30, 0, none⟩) x7_3.length co47)) (v1 := (.slice (some ⟨go30, 0, none⟩) x7_3.length co47)) (ok := (fun _ => True)) (by (with_reducible repeat (first | apply Kd.R_alloc | apply Kd.R_drewN | apply Kd.R_drew)); exact HO_334002.out) hg (.inl rfl)); have n2_ := Aside0.mk (blk_grown (zk BK328) hg (Kd.R_ne HO_7.out BK328.out (by decide))); have n3_ := Aside0.mk (blk_grown (zk BK329) hg (Kd.R_ne HO_7.out BK329.out (by decide))); have n4_ := Aside0.mk (blk_grown (zk BK333) hg (Kd.R_ne HO_7.out BK333.out (by decide))); have n5_ := Aside0.mk (blk_grown (zk BK337) hg (Kd.R_ne HO_7.out BK337.out (by decide))); have n6_ := Aside0.mk ((by rw [hw]; exact below_set (HB.out) GB30.out : Below w.heap.size w w51)); clear HO_7; clear HO_334002; clear BK328; clear BK329; clear BK333; clear BK337; clear HB; have HO_7 := n0_; have HO_334002 := n1_; have BK328 := n2_; have BK329 := n3_; have BK333 := n4_; have BK337 := n5_; have HB := n6_; clear n0_ n1_ n2_ n3_ n4_ n5_ n6_; clear hg hw hp_))
               replace HO_7 := Aside0.mk (Kd.R_drew HO_7.out)
               replace HO_334002 := Aside0.mk (Kd.R_drew HO_334002.out)
               replace BK328 := Aside0.mk (blk_drew BK328.out)
               replace BK329 := Aside0.mk (blk_drew BK329.out)
               replace BK333 := Aside0.mk (blk_drew BK333.out)
               replace BK337 := Aside0.mk (blk_drew BK337.out)
               replace HB := Aside0.mk (below_drew1 HB.out); have p342 : 0 ≤ (x10_3 : Int) := of_decide_eq_true zA
               have q342 : x10_3 < (y341.length : Int) := (by have h_ : (x10_3 : Int) < ((x7_3.length : Int) : Int) := of_decide_eq_true zA; first | (have e_ := (Kd.R_reads' HO_7.out).1; omega) | simpa only [Ny340.out, Ny341.out, List.length_set] using h_)
               have ql342 : ((x10_3 : Int) < ((x7_3.length : Int) : Int)) = True := eq_true (of_decide_eq_true zA)
               obtain ⟨ad342, e342, hx342_0⟩ := Kd.at_int (Kd.R_reads' HO_7.out).2.2 x10_3 p342 q342
               obtain rfl : (⟨go30, 0, none⟩ : Addr) = ad342 := (by injection e342)
               (first | simp only [add_plain] at hx342_0 | simp only [add_at] at hx342_0 | simp only [Addr.add, Nat.zero_add] at hx342_0 | skip)
               replace p342 := eq_true p342
               replace q342 := eq_true q342
               refine start_ (n := 10) (S := fun w' => w'.cell? ⟨gb333, 0, none⟩ = some (.string t334) ∧ w'.cell? ⟨gb333, 1, none⟩ = some (.int .i64 t335) ∧ w'.cell? ⟨gb333, 2, none⟩ = some (u334002) ∧ w'.cell? ⟨go30, (x10_3).toNat, none⟩ = some (.int .i64 (rd y341 x10_3))) (ds := [7, 9]) (mkB31 10 0) (by kernel_rfl) rfl rfl ⟨(blk_cell BK333.out 0).trans rfl, (blk_cell BK333.out 1).trans rfl, (blk_cell BK333.out 2).trans rfl, hx342_0⟩ (fun hHeld => ?_); refine with_tabW mosaicref04_Gen_Pick.tab18 mosaicref04_Gen_Pick.bits18 (fun HT_ HW_ => ?_)
               generalize w51.drew = w52 at HO_7 HO_334002 BK328 BK329 BK333 BK337 HB hx342_0 hHeld ⊢
               refine pX 0 (some 75) (mkB31 10 1) ?_
               refine pX 2 (some 77) (mkB31 10 5) ?_
               refine pX 3 (some 78) (mkB31 10 13) ?_
               refine pX 4 (some 79) (mkB31 10 29) ?_
               refine tT (v := ?_) (a' := ?_) HT_ HW_ hHeld 1 (some 76) (mkB31 10 31) ?_ ?_ ?_; rotate_left 2; (rintro w' ⟨s0, s1, s2, s3⟩; go_simp; with_reducible rfl); (simp only [Act.put, qA, qB, qC, i64_w, i32_w]; rfl)
               refine tT (v := ?_) (a' := ?_) HT_ HW_ hHeld 5 (some 80) (mkB31 10 63) ?_ ?_ ?_; rotate_left 2; (rintro w' ⟨s0, s1, s2, s3⟩; go_simp; with_reducible rfl); (simp only [Act.put, qA, qB, qC, i64_w, i32_w]; rfl)
               refine one_ (i := 6) (N := some 81) (mkB31 10 127) rfl rfl (one_of HT_.out (by kernel_rfl)) (by decide) (fun K hK => ?_)
               refine value_ (w1 := ?_) (v := ?_) (by rfl) rfl ?_ ?_
               rotate_left 2
               ·
                go_simp; constructor
                ·
                 rfl
                ·
                 rfl
               refine hK.out _ _ ⟨(blk_cell (blk_alloc BK333.out _) 0).trans rfl, (blk_cell (blk_alloc BK333.out _) 1).trans rfl, (blk_cell (blk_alloc BK333.out _) 2).trans rfl, (World.cell?_alloc_lt _ _ _ (World.block_lt_of_cell? _ _ (hHeld.2.2.2))).trans (hHeld.2.2.2)⟩ (fun hHeld => ?_)
               clear hK K; refine norm_ (a' := ?_) ?_ ?_
               rotate_left
               ·
                show Act.put _ (some 81) _ = _
                simp only [Act.put, List.setIfInBounds_toArray, List.set_cons_zero, List.set_cons_succ, i64_w, i32_w]; rfl
               refine last_ (i := 7) (N := some 82) (mkB31 10 255) rfl rfl (one_of HT_.out (by kernel_rfl)) (by decide) (fun K hK => ?_)
               refine Kd.R_append_step (Kd.int .i64) (w0 := w) w.heap.size (by rfl) (.tmp 76) (.tmp 81) 26 3 (.int .i64 0) 8 rfl Tryz.underlying26 info3 rfl (by decide) (by omega) u334002 x334002_3 (rd y341 x10_3) [.int .i64 (rd y341 x10_3)] (fun k_ => some k_ ≠ (.slice (some ⟨go30, 0, none⟩) x7_3.length co47 : Value).ownBlock) (fun _ => False) rfl rfl ?aP (fun _ hk => hk.elim) ?aF ?aO ?aB ?aS ?aL ?_
               (case aP => exact rfl)
               (case aB => exact zB)
               (case aF => exact (fun k_ hk => Kd.fresh' (Kd.R_lt (by (with_reducible repeat (first | apply Kd.R_alloc | apply Kd.R_drewN | apply Kd.R_drew)); exact HO_7.out)) k_ hk))
               (case aO => exact (by (with_reducible repeat (first | apply Kd.R_alloc | apply Kd.R_drewN | apply Kd.R_drew)); exact Kd.R_mono HO_334002.out (fun _ hk => hk.2)))
               (case aS => exact (below_size zB))
               (case aL => have := LMc32.out; omega)
               intro v344 w53 ho hb hg hat
               rw [← Ny343.out] at ho
               replace HO_7 := Aside0.mk (Kd.R_after (ok := (fun _ => True)) (by (with_reducible repeat (first | apply Kd.R_alloc | apply Kd.R_drewN | apply Kd.R_drew)); exact Kd.R_mono HO_7.out (fun _ hk => ⟨trivial, hk⟩)) hg hat)
               replace BK328 := Aside0.mk (blk_grown (zk BK328) hg (Kd.R_ne HO_334002.out BK328.out (by decide)))
               replace BK329 := Aside0.mk (blk_grown (zk BK329) hg (Kd.R_ne HO_334002.out BK329.out (by decide)))
               replace BK333 := Aside0.mk (blk_grown (zk BK333) hg (Kd.R_ne HO_334002.out BK333.out (by decide)))
               replace BK337 := Aside0.mk (blk_grown (zk BK337) hg (Kd.R_ne HO_334002.out BK337.out (by decide)))
               have HO345 := Aside0.mk (ho)
               replace HB := Aside0.mk (hb)
               clear HO_334002 ho hb hg hat; obtain ⟨Ao54, co54, eo54⟩ := Kd.R_slice HO345.out
               (first | subst eo54 | (injection eo54 with f1_ f2_ f3_; have f4_ := f1_.symm; have f5_ := f3_.symm; clear f1_ f2_ f3_; subst f4_; subst f5_))
               refine hK.out _ _ ?_
               clear hK K; refine norm_ (a' := ?_) ?_ ?_
               rotate_left
               ·
                show Act.put _ (some 82) _ = _
                simp only [Act.put, List.setIfInBounds_toArray, List.set_cons_zero, List.set_cons_succ, i64_w, i32_w]; rfl
               refine pX 8 (some 83) (mkB31 10 511) ?_
               refine last_ (i := 9) (N := none) (mkB31 10 1023) rfl rfl (one_of HT_.out (by kernel_rfl)) (by decide) (fun K hK => ?_)
               have hs55 : w53.cell? ⟨gb333, 2, none⟩ = some (u334002) := (blk_cell BK333.out 2).trans rfl
               have hfs55 := blk_frozen BK333.out 2; have hns55_0 := NB328_333.out; have hns55_1 := NB329_333.out; have hns55_3 := NB337_333.out; have hms55_0 := NB333_328.out; have hms55_1 := NB333_329.out; have hms55_3 := NB333_337.out; refine skip_ (w1 := ?_) (by rfl) rfl ?_ ?_
               rotate_left
               ·
                go_simp; rfl
               refine hK.out _ _ ?_
               clear hK K; refine done_ (done_of HT_.out (by kernel_rfl)) ?_
               try go_wp2
               go_roundg k3
               case measure => have := HJ3.out; have := HK2.out; have := HK3.out; omega
               case rel => exact ⟨(y341), (wrap64 (x10_3 + 1)), (t334), (t335), (y343), (.slice Ao54 y343.length co54), zF, H', ⟨by have := HJ3.out; have := HK2.out; have := HK3.out; omega⟩, ⟨by (with_reducible repeat (first | apply Kd.R_alloc | apply Kd.R_drewN | apply Kd.R_drew)); exact Kd.R_mono (Kd.R_far (p := ⟨gb333, 2, none⟩) (Kd.R_types HO_7.out BK333.out (by decide)) (fun _ hk => hk.2) (.slice Ao54 y343.length co54)) (fun _ hk => hk.1.2)⟩, ⟨by (with_reducible repeat (first | apply Kd.R_alloc | apply Kd.R_drewN | apply Kd.R_drew)); exact Kd.R_mono (Kd.R_far (p := ⟨gb333, 2, none⟩) (Kd.R_types HO345.out BK333.out (by decide)) (fun _ hk => hk.2) (.slice Ao54 y343.length co54)) (fun _ hk => hk.1)⟩, ⟨by (with_reducible repeat (first | refine blk_drewN ?_ _ | refine blk_drew ?_ | refine blk_alloc ?_ _)); refine blk_far ?_ NB328_333.out _; (with_reducible repeat (first | refine blk_drewN ?_ _ | refine blk_drew ?_ | refine blk_alloc ?_ _)); exact BK328.out⟩, ⟨by (with_reducible repeat (first | refine blk_drewN ?_ _ | refine blk_drew ?_ | refine blk_alloc ?_ _)); refine blk_far ?_ NB329_333.out _; (with_reducible repeat (first | refine blk_drewN ?_ _ | refine blk_drew ?_ | refine blk_alloc ?_ _)); exact BK329.out⟩, ⟨by (with_reducible repeat (first | refine blk_drewN ?_ _ | refine blk_drew ?_ | refine blk_alloc ?_ _)); refine blk_put (cs := #[.string t334, .int .i64 t335, u334002]) ?_ 2 _ rfl; (with_reducible repeat (first | refine blk_drewN ?_ _ | refine blk_drew ?_ | refine blk_alloc ?_ _)); exact BK333.out⟩, ⟨zB⟩⟩
              ·
               rw [if_neg c32] at H
               exact absurd H (by simp)
             ·
              rw [if_neg c29] at H
              exact absurd H (by simp)
            ·
             rw [if_neg c28] at H
             exact absurd H (by simp)
           ·
            rw [if_neg c26] at H
            exact absurd H (by simp)
          ·
           rw [if_neg c25] at H
           exact absurd H (by simp)
         ·
          rw [if_neg c23] at H
          have c23b0 : decide (x10_3 < a2) = false := decide_eq_false c23
          clear c23; simp only [Option.some.injEq, Prod.mk.injEq] at H
          obtain ⟨rfl, rfl, rfl⟩ := H
          have hnb56 := NB333_328.out; have hnc56 := NB328_333.out; have hnb57 := NB333_329.out; have hnc57 := NB329_333.out; obtain ⟨hcz58_0, hcz58_1, hcz58_2⟩ := cZ3 BK333
          obtain ⟨hfz58_0, hfz58_1, hfz58_2⟩ := dZ3 BK333; have hnb59 := NB329_328.out; have hnc59 := NB328_329.out; obtain ⟨hcz60_0, hcz60_1, hcz60_2⟩ := cZ3 BK329
          obtain ⟨hfz60_0, hfz60_1, hfz60_2⟩ := dZ3 BK329; obtain ⟨Ao61, co61, eo61⟩ := Kd.R_slice HO_334002.out
          subst eo61
          go_wp2
          refine bodyPost_ret (results_cell_row rfl _ _ gb329 58 #[.string x334000_3, .int .i64 x334001_3, .slice Ao61 x334002_3.length co61] (0, 0) _ rfl (by (with_reducible repeat (first | refine blk_drewN ?_ _ | refine blk_drew ?_ | refine blk_alloc ?_ _)); refine blk_put (cs := #[.string x334000_3, .int .i64 x334001_3, .slice none 0 0]) ?_ 2 _ rfl; (with_reducible repeat (first | refine blk_drewN ?_ _ | refine blk_drew ?_ | refine blk_alloc ?_ _)); refine blk_put (cs := #[.string x334000_3, .int .i64 0, .slice none 0 0]) ?_ 1 _ rfl; (with_reducible repeat (first | refine blk_drewN ?_ _ | refine blk_drew ?_ | refine blk_alloc ?_ _)); refine blk_put (cs := #[.string (⟨#[]⟩ : ByteArray), .int .i64 0, .slice none 0 0]) ?_ 0 _ rfl; (with_reducible repeat (first | refine blk_drewN ?_ _ | refine blk_drew ?_ | refine blk_alloc ?_ _)); exact BK329.out) Tryz.underlying58 rfl (by kernel_rfl)) rfl ?_
          exact ⟨_, zE, by (with_reducible repeat (first | apply Kd.R_alloc | apply Kd.R_drewN | apply Kd.R_drew)); exact Kd.R_mono (Kd.R_far (p := ⟨gb329, 2, none⟩) (Kd.R_far (p := ⟨gb329, 1, none⟩) (Kd.R_far (p := ⟨gb329, 0, none⟩) (Kd.R_types HO_334002.out BK329.out (by decide)) (fun _ hk => hk.2) (.string x334000_3)) (fun _ hk => hk.2) (.int .i64 x334001_3)) (fun _ hk => hk.2) (.slice Ao61 x334002_3.length co61)) (fun _ hk => trivial), zB⟩
end Go.Proofs.YtghhmnjkgnoogaaGreat.POuterFills
