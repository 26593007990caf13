-- Written by this session's own program (wip/tools/mkprint.py) over the kit's printer, with overrides.
import Derived.Test.YtghhmnjkgnoogaaGreatTOuterWholesa
import Derived.Test.YtghhmnjkgnoogaaGreatQOuterWholesx0
import Derived.Test.YtghhmnjkgnoogaaGreatQOuterWholesx23
namespace Go.Proofs.YtghhmnjkgnoogaaGreat.POuterWholes
open Go.RowKit Go.Mine Go.Proofs.YtghhmnjkgnoogaaGreatW.PrintWords Go.Proofs.YtghhmnjkgnoogaaGreatW.PrintLast Go.Proofs.YtghhmnjkgnoogaaGreatW.PrintMore
attribute [local go_sem] max2_int min2_int max_two min_two max_three min_three max_four min_four   -- for this text's walks alone
set_option linter.unusedVariables false
set_option linter.unusedSimpArgs false
/-! ### mosaicref02_Get: function 103 -/
def mosaicref02_Get.l0 : Nat → ByteArray → Int → Int → Option (Int)
 | 0, _, _, _ => none
 | k + 1, x0, x3, x4 => if x4 < (x0.size : Int) then (if 0 ≤ x4 then (mosaicref02_Get.l0 k x0 (wrap64 ((wrap64 (256 * x3)) + (wrap64 (bt x0 x4)))) (wrap64 (x4 + 1))) else (none)) else (some x3)
def mosaicref02_Get.f (k : Nat) (a0 : ByteArray) : Option (Int) := if (a0.size : Int) > 7 then (some 0) else (mosaicref02_Get.l0 k a0 0 0)
theorem mosaicref02_Get.mono_l : ∀ k, (∀ y0 y1 y2, LeO (mosaicref02_Get.l0 k y0 y1 y2) (mosaicref02_Get.l0 (k + 1) y0 y1 y2))
 | 0 => fun _ _ _ r h => by simp [mosaicref02_Get.l0] at h
 | k + 1 => by
  have ih0 := mosaicref02_Get.mono_l k
  ·
   intro y0 y1 y2
   unfold mosaicref02_Get.l0
   repeat' first
   | (with_reducible exact ih0 _ _ _)
   | (with_reducible exact LeO.refl _)
   | (with_reducible exact LeO.none _)
   | (with_reducible refine LeO.ite ?_ ?_)
   | (with_reducible refine LeO.bind ?_ (fun _ => ?_))
   | exact ih0 _ _ _
   | exact LeO.none _
   | refine LeO.ite ?_ ?_
   | refine LeO.bind ?_ (fun _ => ?_)
theorem mosaicref02_Get.mono : ∀ a0 k, LeO (mosaicref02_Get.f k a0) (mosaicref02_Get.f (k + 1) a0) := by
 intro a0 k
 have ih0 := mosaicref02_Get.mono_l k
 unfold mosaicref02_Get.f
 repeat' first
   | (with_reducible exact ih0 _ _ _)
   | (with_reducible exact LeO.refl _)
   | (with_reducible exact LeO.none _)
   | (with_reducible refine LeO.ite ?_ ?_)
   | (with_reducible refine LeO.bind ?_ (fun _ => ?_))
   | exact ih0 _ _ _
   | exact LeO.none _
   | refine LeO.ite ?_ ?_
   | refine LeO.bind ?_ (fun _ => ?_)
set_option maxHeartbeats 8000000 in
set_option maxRecDepth 100000 in
theorem mosaicref02_Get.calls (k : Nat) (a0 : ByteArray) (r : Int) (w : World) (h : mosaicref02_Get.f k a0 = some r) :
  Calls Tryz.prog 103 #[.string a0] w fun e w' => e = .returned (.int .i64 r) ∧ Drawn0 w w' := by
 have H : (if (a0.size : Int) > 7 then (some 0) else (mosaicref02_Get.l0 k a0 0 0)) = some r := h
 clear h; by_cases c2 : (a0.size : Int) > 7
 ·
  rw [if_pos c2] at H
  have c2b0 : decide (7 < (a0.size : Int)) = true := decide_eq_true c2
  have c2b1 : decide (7 < a0.size) = true := decide_eq_true (by omega)
  clear c2; obtain rfl := Option.some.inj H
  go_enter Tryz.func103, Tryz.ntmps103
  go_wp2
  go_ret
  exact ⟨by first | rfl | (simp; done) | (simp [*]; done), by repeat (first | exact Drawn0.refl _ | apply Drawn0.step)⟩
 ·
  rw [if_neg c2] at H
  have c2b0 : decide (7 < (a0.size : Int)) = false := decide_eq_false c2
  have c2b1 : decide (7 < a0.size) = false := decide_eq_false (by omega)
  clear c2; have H' := Aside0.mk H
  clear H; go_enter Tryz.func103, Tryz.ntmps103
  go_wp2
  go_loopg [3, 4] k (fun kq v3 v4 w' => ∃ (x3_1 : Int) (x4_1 : Int), v3 = .int .i64 x3_1 ∧ v4 = .int .i64 x4_1 ∧ Aside0 (mosaicref02_Get.l0 kq a0 x3_1 x4_1 = some r) ∧ Aside0 (kq ≤ k) ∧ Drawn0 w w')
  case atStart => exact ⟨(0), (0), zF, zF, H', ⟨Nat.le_refl _⟩, by repeat (first | exact Drawn0.refl _ | apply Drawn0.step)⟩
  case round =>
   clear H'
   (try clear c1); (try clear c2); (try clear c2b0); (try clear c2b1); (try clear p2); obtain ⟨x3_1, x4_1, rfl, rfl, HA, HK1, ⟨m1, rfl⟩⟩ := hrel
   cases gk with
   | zero => exact absurd HA.out (by simp [mosaicref02_Get.l0])
   | succ k1 =>
    have H := HA.out; clear HA; simp only [mosaicref02_Get.l0] at H
    by_cases c3 : x4_1 < (a0.size : Int)
    ·
     rw [if_pos c3] at H
     have c3b0 : decide (x4_1 < (a0.size : Int)) = true := decide_eq_true c3
     clear c3; by_cases c4 : 0 ≤ x4_1
     ·
      rw [if_pos c4] at H
      have c4b0 : decide (0 ≤ x4_1) = true := decide_eq_true c4
      clear c4; have H' := Aside0.mk H
      clear H; have p5 : 0 ≤ (x4_1 : Int) := of_decide_eq_true zA
      have q5 : x4_1 < (a0.size : Int) := of_decide_eq_true zA
      have hx5 := bt_at a0 x4_1
      replace p5 := eq_true p5
      replace q5 := eq_true q5
      go_wp2
      go_roundg k1
      case measure => have := HK1.out; omega
      case rel => exact ⟨(wrap64 ((wrap64 (256 * x3_1)) + (wrap64 (bt a0 x4_1)))), (wrap64 (x4_1 + 1)), zF, zF, H', ⟨by have := HK1.out; omega⟩, by repeat (first | exact Drawn0.refl _ | apply Drawn0.step)⟩
     ·
      rw [if_neg c4] at H
      exact absurd H (by simp)
    ·
     rw [if_neg c3] at H
     have c3b0 : decide (x4_1 < (a0.size : Int)) = false := decide_eq_false c3
     clear c3; obtain rfl := Option.some.inj H
     go_wp2
     go_ret
     exact ⟨by first | rfl | (simp; done) | (simp [*]; done), by repeat (first | exact Drawn0.refl _ | apply Drawn0.step)⟩
/-! ### mosaicref04_Gen_word: function 75 -/
def mosaicref04_Gen_word.f (k : Nat) (a0_0 : ByteArray) (a0_1 : Int) (a1 : Int) : Option (Int) := (mosaicref04_Block.f k a0_0 (wrap64 (Int.tdiv a1 8))).bind fun t311 => (if 0 ≤ (wrap64 (4 * (Int.tmod a1 8))) then (if (wrap64 (4 * (Int.tmod a1 8))) ≤ (wrap64 ((wrap64 (4 * (Int.tmod a1 8))) + 4)) then (if (wrap64 ((wrap64 (4 * (Int.tmod a1 8))) + 4)) ≤ (t311.size : Int) then ((mosaicref02_Get.f k (t311.extract ((wrap64 (4 * (Int.tmod a1 8))) : Int).toNat ((wrap64 ((wrap64 (4 * (Int.tmod a1 8))) + 4)) : Int).toNat)).bind fun t312 => (some t312)) else (none)) else (none)) else (none))
theorem mosaicref04_Gen_word.mono : ∀ a0 a1 a2 k, LeO (mosaicref04_Gen_word.f k a0 a1 a2) (mosaicref04_Gen_word.f (k + 1) a0 a1 a2) := by
 intro a0 a1 a2 k
 unfold mosaicref04_Gen_word.f
 repeat' first
   | (with_reducible exact mosaicref02_Get.mono _ _)
   | (with_reducible exact mosaicref04_Block.mono _ _ _)
   | (with_reducible exact LeO.refl _)
   | (with_reducible exact LeO.none _)
   | (with_reducible refine LeO.ite ?_ ?_)
   | (with_reducible refine LeO.bind ?_ (fun _ => ?_))
   | exact mosaicref02_Get.mono _ _
   | exact mosaicref04_Block.mono _ _ _
   | exact LeO.none _
   | refine LeO.ite ?_ ?_
   | refine LeO.bind ?_ (fun _ => ?_)
set_option maxHeartbeats 8000000 in
set_option maxRecDepth 100000 in
theorem mosaicref04_Gen_word.calls (k : Nat) (a0_0 : ByteArray) (a0_1 : Int) (a1 : Int) (r : Int) (w : World) (h : mosaicref04_Gen_word.f k a0_0 a0_1 a1 = some r) :
  Calls Tryz.prog 75 #[.agg #[.string a0_0, .int .i64 a0_1], .int .i64 a1] w fun e w' => e = .returned (.int .i64 r) ∧ Below w.heap.size w w' := by
 have hu56 := Tryz.underlying56; have HB := Aside0.mk (Below.refl w.heap.size w)
 have H : ((mosaicref04_Block.f k a0_0 (wrap64 (Int.tdiv a1 8))).bind fun t311 => (if 0 ≤ (wrap64 (4 * (Int.tmod a1 8))) then (if (wrap64 (4 * (Int.tmod a1 8))) ≤ (wrap64 ((wrap64 (4 * (Int.tmod a1 8))) + 4)) then (if (wrap64 ((wrap64 (4 * (Int.tmod a1 8))) + 4)) ≤ (t311.size : Int) then ((mosaicref02_Get.f k (t311.extract ((wrap64 (4 * (Int.tmod a1 8))) : Int).toNat ((wrap64 ((wrap64 (4 * (Int.tmod a1 8))) + 4)) : Int).toNat)).bind fun t312 => (some t312)) else (none)) else (none)) else (none))) = some r := h
 clear h; replace H := Option.bind_eq_some_iff.mp H
 obtain ⟨t311, A30, H⟩ := H
 replace H : (if 0 ≤ (wrap64 (4 * (Int.tmod a1 8))) then (if (wrap64 (4 * (Int.tmod a1 8))) ≤ (wrap64 ((wrap64 (4 * (Int.tmod a1 8))) + 4)) then (if (wrap64 ((wrap64 (4 * (Int.tmod a1 8))) + 4)) ≤ (t311.size : Int) then ((mosaicref02_Get.f k (t311.extract ((wrap64 (4 * (Int.tmod a1 8))) : Int).toNat ((wrap64 ((wrap64 (4 * (Int.tmod a1 8))) + 4)) : Int).toNat)).bind fun t312 => (some t312)) else (none)) else (none)) else (none)) = some r := H
 have A3 := Aside0.mk A30
 clear A30; obtain ⟨ji4, hji4⟩ : ∃ j_ : Int, (wrap64 (4 * (Int.tmod a1 8))) = j_ := ⟨_, rfl⟩
 replace H : (if 0 ≤ (ji4) then (if (ji4) ≤ (wrap64 ((ji4) + 4)) then (if (wrap64 ((ji4) + 4)) ≤ (t311.size : Int) then ((mosaicref02_Get.f k (t311.extract ((ji4) : Int).toNat ((wrap64 ((ji4) + 4)) : Int).toNat)).bind fun t312 => (some t312)) else (none)) else (none)) else (none)) = some r := by first | (rw [hji4] at H; exact H) | (simp only [hji4] at H ⊢; exact H)
 (try rw [hji4] at A3)
 have hji4w : (IntKind.i64.wrap (4 * (Int.tmod a1 8))) = ji4 := (i64_w _).trans hji4
 by_cases c5 : 0 ≤ (ji4)
 ·
  rw [if_pos c5] at H
  have c5b0 := eq_true c5
  have c5b1 : decide (0 ≤ (ji4)) = true := decide_eq_true c5
  clear c5; by_cases c6 : (ji4) ≤ (wrap64 ((ji4) + 4))
  ·
   rw [if_pos c6] at H
   have c6b0 := eq_true c6
   have c6b1 : decide ((ji4) ≤ (wrap64 ((ji4) + 4))) = true := decide_eq_true c6
   by_cases c7 : (wrap64 ((ji4) + 4)) ≤ (t311.size : Int)
   ·
    rw [if_pos c7] at H
    have c7b0 := eq_true c7
    have c7b1 : decide ((wrap64 ((ji4) + 4)) ≤ (t311.size : Int)) = true := decide_eq_true c7
    replace H := Option.bind_eq_some_iff.mp H
    obtain ⟨t312, A80, H⟩ := H
    replace H : (some t312) = some r := H
    have A8 := Aside0.mk A80
    clear A80; obtain rfl := Option.some.inj H
    go_enter Tryz.func75, Tryz.ntmps75
    go_wp2_with (first | ((with_reducible refine gate_dst (N := 2) rfl ?_); refine box_event ?hg (N := 2) ?hd (cs := #[.string a0_0, .int .i64 a0_1]) (t := 56) ?hr ?_; (case hd => rfl); (case hg => rfl); (case hr => first | (go_simp; done) | (go_simp; rfl)); intro gb310 hg w9 hbox hb; have BK310 := Aside0.mk (hbox); have GW310 := Aside0.mk ((zg : w.heap.size ≤ gb310)); have GE310 := Aside0.mk ((zg : w.heap.size ≤ gb310)); replace HB := Aside0.mk (below_step zB hb); clear hb hbox hg; obtain ⟨hcz10_0, hcz10_1⟩ := cZ2 BK310; obtain ⟨hfz10_0, hfz10_1⟩ := dZ2 BK310) | ((with_reducible refine gate_callee (f := 102) rfl ?_); refine goesL_ (some 11) rfl rfl Tryz.func102 (by kernel_rfl) rfl #[.string a0_0, .int .i64 (wrap64 (Int.tdiv a1 8))] rfl zM ?_; (with_reducible refine (mosaicref04_Block.calls k a0_0 (wrap64 (Int.tdiv a1 8)) t311 _ A3.out).mono ?_); rintro e w11 ⟨rfl, hb⟩; refine ⟨_, rfl, ?_⟩; replace BK310 := Aside0.mk (blk_below (zk BK310) hb); replace HB := Aside0.mk (below_step zB hb); (try clear hb); (try clear hb2); (try clear hk); (try clear hi)) | ((with_reducible refine gate_callee (f := 103) rfl ?_); refine goesL_ (some 20) rfl rfl Tryz.func103 (by kernel_rfl) rfl #[.string (t311.extract ((ji4) : Int).toNat ((wrap64 ((ji4) + 4)) : Int).toNat)] rfl (by (try simp only [List.map_toArray, List.map_cons, List.map_nil]); first | done | (simp only [hji4]; rfl) | rfl | (simp only [List.length_drop, List.length_take]; rfl)) ?_; (with_reducible refine (mosaicref02_Get.calls k (t311.extract ((ji4) : Int).toNat ((wrap64 ((ji4) + 4)) : Int).toNat) t312 _ A8.out).mono ?_); rintro e w' ⟨rfl, ⟨nd, rfl⟩⟩; refine ⟨_, rfl, ?_⟩))
    go_ret
    exact ⟨by first | rfl | (simp [errW_none, errW_some] <;> rfl) | (simp only [← hji4]; first | rfl | (simp [errW_none, errW_some] <;> rfl)) | (simp [*, errW_none, errW_some] <;> rfl), zB⟩
   ·
    rw [if_neg c7] at H
    exact absurd H (by simp)
  ·
   rw [if_neg c6] at H
   exact absurd H (by simp)
 ·
  rw [if_neg c5] at H
  exact absurd H (by simp)
end Go.Proofs.YtghhmnjkgnoogaaGreat.POuterWholes
