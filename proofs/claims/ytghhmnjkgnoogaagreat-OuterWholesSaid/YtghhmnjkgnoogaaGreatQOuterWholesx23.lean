-- Written by this session's own program (wip/tools/mkprint.py) over the kit's printer, with overrides.
import Derived.Test.YtghhmnjkgnoogaaGreatTOuterWholesa
import Derived.Test.YtghhmnjkgnoogaaGreatQOuterWholesx0
import Derived.Test.YtghhmnjkgnoogaaGreatQOuterWholesx18
import Derived.Test.YtghhmnjkgnoogaaGreatQOuterWholesx19
import Derived.Test.YtghhmnjkgnoogaaGreatQOuterWholesx22
namespace Go.Proofs.YtghhmnjkgnoogaaGreat.POuterWholes
open Go.RowKit Go.Mine Go.Proofs.YtghhmnjkgnoogaaGreatW.PrintWords Go.Proofs.YtghhmnjkgnoogaaGreatW.PrintLast Go.Proofs.YtghhmnjkgnoogaaGreatW.PrintMore
attribute [local go_sem] max2_int min2_int max_two min_two max_three min_three max_four min_four   -- for this text's walks alone
set_option linter.unusedVariables false
set_option linter.unusedSimpArgs false
/-! ### mosaicref01_Sum: function 117 -/
mutual
def mosaicref01_Sum.l0 : Nat → ByteArray → List Int → Int → Option (ByteArray)
 | 0, _, _, _ => none
 | k + 1, x3, x4, x5 => if x5 < (x3.size : Int) then (if 0 ≤ x5 then (if x5 ≤ (wrap64 (x5 + 64)) then (if (wrap64 (x5 + 64)) ≤ (x3.size : Int) then ((mosaicref01_Mix.f k x4 (x3.extract (x5 : Int).toNat ((wrap64 (x5 + 64)) : Int).toNat)).bind fun t296 => (mosaicref01_Sum.l0 k x3 t296 (wrap64 (x5 + 64)))) else (none)) else (none)) else (none)) else (mosaicref01_Sum.l1 k x4 ([] : List Int) 0)
def mosaicref01_Sum.l1 : Nat → List Int → List Int → Int → Option (ByteArray)
 | 0, _, _, _ => none
 | k + 1, x4, x6, x7 => if x7 < (x4.length : Int) then (if 0 ≤ x7 then ((some (([((rd x4 x7) / 16777216) % 256, ((rd x4 x7) / 65536) % 256, ((rd x4 x7) / 256) % 256, (rd x4 x7) % 256] : List Int) : List Int)).bind fun y300 => (if x6.length + y300.length < 140737488355328 then (mosaicref01_Sum.l1 k x4 (x6 ++ y300) (wrap64 (x7 + 1))) else (none))) else (none)) else (some (strOfNums x6))
end
def mosaicref01_Sum.f (k : Nat) (a0 : ByteArray) : Option (ByteArray) := if (a0.size : Int) > 65536 then (some (⟨#[]⟩ : ByteArray)) else ((mosaicref01_Pad.f k (a0.size : Int)).bind fun t292 => (if a0.size + t292.size ≤ 9223372036854775807 then ((mosaicref01_Start.f).bind fun t293 => (mosaicref01_Sum.l0 k (a0 ++ t292) t293 0)) else (none)))
theorem mosaicref01_Sum.mono_l : ∀ k, (∀ y0 y1 y2, LeO (mosaicref01_Sum.l0 k y0 y1 y2) (mosaicref01_Sum.l0 (k + 1) y0 y1 y2)) ∧ (∀ y0 y1 y2, LeO (mosaicref01_Sum.l1 k y0 y1 y2) (mosaicref01_Sum.l1 (k + 1) y0 y1 y2))
 | 0 => ⟨fun _ _ _ r h => by simp [mosaicref01_Sum.l0] at h, fun _ _ _ r h => by simp [mosaicref01_Sum.l1] at h⟩
 | k + 1 => by
  obtain ⟨ih0, ih1⟩ := mosaicref01_Sum.mono_l k
  refine ⟨?_, ?_⟩
  ·
   intro y0 y1 y2
   unfold mosaicref01_Sum.l0
   repeat' first
   | (with_reducible exact ih0 _ _ _)
   | (with_reducible exact ih1 _ _ _)
   | (with_reducible exact mosaicref01_Mix.mono _ _ _)
   | (with_reducible exact mosaicref01_Pad.mono _ _)
   | (with_reducible exact LeO.refl _)
   | (with_reducible exact LeO.none _)
   | (with_reducible refine LeO.ite ?_ ?_)
   | (with_reducible refine LeO.bind ?_ (fun _ => ?_))
   | exact ih0 _ _ _
   | exact ih1 _ _ _
   | exact mosaicref01_Mix.mono _ _ _
   | exact mosaicref01_Pad.mono _ _
   | exact LeO.none _
   | refine LeO.ite ?_ ?_
   | refine LeO.bind ?_ (fun _ => ?_)
  ·
   intro y0 y1 y2
   unfold mosaicref01_Sum.l1
   repeat' first
   | (with_reducible exact ih0 _ _ _)
   | (with_reducible exact ih1 _ _ _)
   | (with_reducible exact mosaicref01_Mix.mono _ _ _)
   | (with_reducible exact mosaicref01_Pad.mono _ _)
   | (with_reducible exact LeO.refl _)
   | (with_reducible exact LeO.none _)
   | (with_reducible refine LeO.ite ?_ ?_)
   | (with_reducible refine LeO.bind ?_ (fun _ => ?_))
   | exact ih0 _ _ _
   | exact ih1 _ _ _
   | exact mosaicref01_Mix.mono _ _ _
   | exact mosaicref01_Pad.mono _ _
   | exact LeO.none _
   | refine LeO.ite ?_ ?_
   | refine LeO.bind ?_ (fun _ => ?_)
theorem mosaicref01_Sum.mono : ∀ a0 k, LeO (mosaicref01_Sum.f k a0) (mosaicref01_Sum.f (k + 1) a0) := by
 intro a0 k
 obtain ⟨ih0, ih1⟩ := mosaicref01_Sum.mono_l k
 unfold mosaicref01_Sum.f
 repeat' first
   | (with_reducible exact ih0 _ _ _)
   | (with_reducible exact ih1 _ _ _)
   | (with_reducible exact mosaicref01_Mix.mono _ _ _)
   | (with_reducible exact mosaicref01_Pad.mono _ _)
   | (with_reducible exact LeO.refl _)
   | (with_reducible exact LeO.none _)
   | (with_reducible refine LeO.ite ?_ ?_)
   | (with_reducible refine LeO.bind ?_ (fun _ => ?_))
   | exact ih0 _ _ _
   | exact ih1 _ _ _
   | exact mosaicref01_Mix.mono _ _ _
   | exact mosaicref01_Pad.mono _ _
   | exact LeO.none _
   | refine LeO.ite ?_ ?_
   | refine LeO.bind ?_ (fun _ => ?_)
set_option maxHeartbeats 8000000 in
set_option maxRecDepth 100000 in
theorem mosaicref01_Sum.calls (k : Nat) (a0 : ByteArray) (r : ByteArray) (w : World) (h : mosaicref01_Sum.f k a0 = some r) :
  Calls Tryz.prog 117 #[.string a0] w fun e w' => e = .returned (.string r) ∧ Below w.heap.size w w' := by
 have HB := Aside0.mk (Below.refl w.heap.size w)
 have H : (if (a0.size : Int) > 65536 then (some (⟨#[]⟩ : ByteArray)) else ((mosaicref01_Pad.f k (a0.size : Int)).bind fun t292 => (if a0.size + t292.size ≤ 9223372036854775807 then ((mosaicref01_Start.f).bind fun t293 => (mosaicref01_Sum.l0 k (a0 ++ t292) t293 0)) else (none)))) = some r := h
 clear h; by_cases c2 : (a0.size : Int) > 65536
 ·
  rw [if_pos c2] at H
  have c2b0 : decide (65536 < (a0.size : Int)) = true := decide_eq_true c2
  have c2b1 : decide (65536 < a0.size) = true := decide_eq_true (by omega)
  clear c2; obtain rfl := Option.some.inj H
  go_enter Tryz.func117, Tryz.ntmps117
  go_wp2
  go_ret
  exact ⟨zE, zB⟩
 ·
  rw [if_neg c2] at H
  have c2b0 : decide (65536 < (a0.size : Int)) = false := decide_eq_false c2
  have c2b1 : decide (65536 < a0.size) = false := decide_eq_false (by omega)
  clear c2; replace H := Option.bind_eq_some_iff.mp H
  obtain ⟨t292, A30, H⟩ := H
  replace H : (if a0.size + t292.size ≤ 9223372036854775807 then ((mosaicref01_Start.f).bind fun t293 => (mosaicref01_Sum.l0 k (a0 ++ t292) t293 0)) else (none)) = some r := H
  have A3 := Aside0.mk A30
  clear A30; by_cases c4 : a0.size + t292.size ≤ 9223372036854775807
  ·
   rw [if_pos c4] at H
   have c4b0 := eq_true c4
   (try (have c4b0s := eq_true c4; simp only [ByteArray.size_append, Int.natCast_add] at c4b0s))
   have c4b1 : decide (a0.size + t292.size ≤ 9223372036854775807) = true := decide_eq_true c4
   try have c4b2 : (9223372036854775807 < a0.size + t292.size) = False := eq_false (Nat.not_lt.2 c4)
   replace H := Option.bind_eq_some_iff.mp H
   obtain ⟨t293, A50, H⟩ := H
   replace H : (mosaicref01_Sum.l0 k (a0 ++ t292) t293 0) = some r := H
   have A5 := Aside0.mk A50
   clear A50; have H' := Aside0.mk H
   clear H; go_enter Tryz.func117, Tryz.ntmps117
   go_wp2_with (first | ((with_reducible refine gate_callee (f := 122) rfl ?_); refine goesL_ (some 15) rfl rfl Tryz.func122 (by kernel_rfl) rfl #[.int .i64 (a0.size : Int)] rfl zM ?_; (with_reducible refine (mosaicref01_Pad.calls k (a0.size : Int) t292 _ A3.out).mono ?_); rintro e w6 ⟨rfl, hb⟩; refine ⟨_, rfl, ?_⟩; replace HB := Aside0.mk (below_step zB hb); (try clear hb); (try clear hb2); (try clear hk); (try clear hi)) | ((with_reducible refine gate_callee (f := 123) rfl ?_); refine goesL_ (some 17) rfl rfl Tryz.func123 (by kernel_rfl) rfl #[] rfl zM ?_; (with_reducible refine (mosaicref01_Start.calls  t293 _ A5.out).mono ?_); rintro e w7 ⟨v294, rfl, ho0, hb⟩; refine ⟨_, rfl, ?_⟩; have HO295 := Aside0.mk (Kd.R_lower ho0 (below_size zB)); replace HB := Aside0.mk (below_step zB hb); (try clear hb); (try clear hb2); (try clear hk); (try clear hi); (try clear ho0)))
   go_loopg [4, 5] k (fun kq v4 v5 w' => ∃ (x4_1 : List Int) (x5_1 : Int), v5 = .int .i64 x5_1 ∧ Aside0 (mosaicref01_Sum.l0 kq (a0 ++ t292) x4_1 x5_1 = some r) ∧ Aside0 (kq ≤ k) ∧ Aside0 (Kd.R (Kd.int .u32) 104 w' w.heap.size (fun _ => True) v4 x4_1) ∧ Aside0 (Below w.heap.size w w'))
   case atStart => exact ⟨(t293), (0), zF, H', ⟨Nat.le_refl _⟩, ⟨zR HO295⟩, ⟨zB⟩⟩
   case round =>
    clear H'
    (try clear c1); (try clear c2); (try clear c2b0); (try clear c2b1); (try clear p2); (try clear c4); (try clear c4b0); (try clear c4b1); (try clear c4b2); obtain ⟨x4_1, x5_1, rfl, HA, HK1, HO_4, HB⟩ := hrel
    cases gk with
    | zero => exact absurd HA.out (by simp [mosaicref01_Sum.l0])
    | succ k1 =>
     have H := HA.out; clear HA; simp only [mosaicref01_Sum.l0] at H
     by_cases c8 : x5_1 < ((a0 ++ t292).size : Int)
     ·
      rw [if_pos c8] at H
      have c8b0 : decide (x5_1 < ((a0 ++ t292).size : Int)) = true := decide_eq_true c8
      (try (have c8b0s := c8b0; simp only [ByteArray.size_append, Int.natCast_add] at c8b0s))
      (try (have c8b0r := c8b0; simp only [ByteArray.size_append] at c8b0r))
      clear c8; by_cases c9 : 0 ≤ x5_1
      ·
       rw [if_pos c9] at H
       have c9b0 := eq_true c9
       (try (have c9b0s := eq_true c9; simp only [ByteArray.size_append, Int.natCast_add] at c9b0s))
       have c9b1 : decide (0 ≤ x5_1) = true := decide_eq_true c9
       clear c9; by_cases c10 : x5_1 ≤ (wrap64 (x5_1 + 64))
       ·
        rw [if_pos c10] at H
        have c10b0 := eq_true c10
        (try (have c10b0s := eq_true c10; simp only [ByteArray.size_append, Int.natCast_add] at c10b0s))
        have c10b1 : decide (x5_1 ≤ (wrap64 (x5_1 + 64))) = true := decide_eq_true c10
        by_cases c11 : (wrap64 (x5_1 + 64)) ≤ ((a0 ++ t292).size : Int)
        ·
         rw [if_pos c11] at H
         have c11b0 := eq_true c11
         (try (have c11b0s := eq_true c11; simp only [ByteArray.size_append, Int.natCast_add] at c11b0s))
         have c11b1 : decide ((wrap64 (x5_1 + 64)) ≤ ((a0 ++ t292).size : Int)) = true := decide_eq_true c11
         (try (have c11b1s := c11b1; simp only [ByteArray.size_append, Int.natCast_add] at c11b1s))
         (try (have c11b1r := c11b1; simp only [ByteArray.size_append] at c11b1r))
         replace H := Option.bind_eq_some_iff.mp H
         obtain ⟨t296, A120, H⟩ := H
         replace H : (mosaicref01_Sum.l0 k1 (a0 ++ t292) t296 (wrap64 (x5_1 + 64))) = some r := H
         have A12 := Aside0.mk A120
         clear A120; have H' := Aside0.mk H
         clear H; obtain ⟨Ao13, co13, eo13⟩ := Kd.R_slice HO_4.out
         subst eo13
         go_wp2_with (first | ((with_reducible refine gate_callee (f := 124) rfl ?_); refine goesL_ (some 30) rfl rfl Tryz.func124 (by kernel_rfl) rfl #[.slice Ao13 x4_1.length co13, .string ((a0 ++ t292).extract (x5_1 : Int).toNat ((wrap64 (x5_1 + 64)) : Int).toNat)] rfl zM ?_; (with_reducible refine (mosaicref01_Mix.calls k1 _ _ x4_1 ((a0 ++ t292).extract (x5_1 : Int).toNat ((wrap64 (x5_1 + 64)) : Int).toNat) t296 _ ?side1 ?side2 A12.out).mono ?_); (case side1 => repeat (first | exact (Kd.R_reads' HO_4.out).2.2 | (with_reducible refine Kd.C_alloc ?_ _) | (with_reducible refine Kd.C_drewN ?_ _) | (with_reducible refine Kd.C_drew ?_))); (case side2 => exact (Kd.R_reads' HO_4.out).2.1); rintro e w14 ⟨v297, rfl, ho0, hb⟩; refine ⟨_, rfl, ?_⟩; have n0_ := Aside0.mk (Kd.R_elder' (by (with_reducible repeat (first | apply Kd.R_alloc | apply Kd.R_drewN | apply Kd.R_drew)); exact HO_4.out) (Kd.R_base ho0) hb); have n1_ := Aside0.mk (Kd.R_lower (Kd.R_new' ho0 (Kd.R_lt (by (with_reducible repeat (first | apply Kd.R_alloc | apply Kd.R_drewN | apply Kd.R_drew)); exact HO_4.out))) (below_size zB)); have n2_ := Aside0.mk (below_step zB hb); clear HO_4; clear HB; have HO_4 := n0_; have HO298 := n1_; have HB := n2_; clear n0_ n1_ n2_; (try clear hb); (try clear hb2); (try clear hk); (try clear hi); (try clear ho0)))
         go_roundg k1
         case measure => have := HK1.out; omega
         case rel => exact ⟨(t296), (wrap64 (x5_1 + 64)), zF, H', ⟨by have := HK1.out; omega⟩, ⟨by (with_reducible repeat (first | apply Kd.R_alloc | apply Kd.R_drewN | apply Kd.R_drew)); exact Kd.R_mono HO298.out (fun _ hk => trivial)⟩, ⟨zB⟩⟩
        ·
         rw [if_neg c11] at H
         exact absurd H (by simp)
       ·
        rw [if_neg c10] at H
        exact absurd H (by simp)
      ·
       rw [if_neg c9] at H
       exact absurd H (by simp)
     ·
      rw [if_neg c8] at H
      have c8b0 : decide (x5_1 < ((a0 ++ t292).size : Int)) = false := decide_eq_false c8
      (try (have c8b0s := c8b0; simp only [ByteArray.size_append, Int.natCast_add] at c8b0s))
      (try (have c8b0r := c8b0; simp only [ByteArray.size_append] at c8b0r))
      clear c8; have H' := Aside0.mk H
      clear H; go_wp2
      go_loopg [6, 7] k1 (fun kq v6 v7 w' => ∃ (x6_2 : List Int) (x7_2 : Int), v7 = .int .i64 x7_2 ∧ Aside0 (mosaicref01_Sum.l1 kq x4_1 x6_2 x7_2 = some r) ∧ Aside0 (kq ≤ k1) ∧ Aside0 (Kd.R (Kd.int .u32) 104 w' w.heap.size (fun _ => True) u4 x4_1) ∧ Aside0 (Kd.R (Kd.int .u8) 5 w' w.heap.size (fun _ => True) v6 x6_2) ∧ Aside0 (Below w.heap.size w w'))
      case atStart => exact ⟨(([] : List Int)), (0), zF, H', ⟨Nat.le_refl _⟩, ⟨zR HO_4⟩, ⟨by first | exact Kd.R_nil _ _ _ _ _ | exact Kd.N_nil _ _ _ _ _ | exact Kd.V_nil _ _ _ _ _ | exact Kd.Q_nil _ _ _ _ _ | exact Kd.S_nil _ _ _ _ _⟩, ⟨zB⟩⟩
      case round =>
       clear H'
       (try clear c1); (try clear c2); (try clear c2b0); (try clear c2b1); (try clear p2); (try clear c4); (try clear c4b0); (try clear c4b1); (try clear c4b2); (try clear p6); (try clear c8); (try clear c8b0); (try clear c9); (try clear c9b0); (try clear c9b1); (try clear c10); (try clear c10b0); (try clear c10b1); (try clear c11); (try clear c11b0); (try clear c11b1); (try clear c12); (try clear p2); obtain ⟨x6_2, x7_2, rfl, HA, HK2, HO_4, HO_6, HB⟩ := hrel
       cases gk with
       | zero => exact absurd HA.out (by simp [mosaicref01_Sum.l1])
       | succ k2 =>
        have H := HA.out; clear HA; simp only [mosaicref01_Sum.l1] at H
        by_cases c15 : x7_2 < (x4_1.length : Int)
        ·
         rw [if_pos c15] at H
         have c15b0 : decide (x7_2 < (x4_1.length : Int)) = true := decide_eq_true c15
         clear c15; by_cases c16 : 0 ≤ x7_2
         ·
          rw [if_pos c16] at H
          have c16b0 : decide (0 ≤ x7_2) = true := decide_eq_true c16
          clear c16; obtain ⟨y300, hy300⟩ : ∃ y_ : List Int, y_ = (([((rd x4_1 x7_2) / 16777216) % 256, ((rd x4_1 x7_2) / 65536) % 256, ((rd x4_1 x7_2) / 256) % 256, (rd x4_1 x7_2) % 256] : List Int)) := ⟨_, rfl⟩
          replace H : (if x6_2.length + y300.length < 140737488355328 then (mosaicref01_Sum.l1 k2 x4_1 (x6_2 ++ y300) (wrap64 (x7_2 + 1))) else (none)) = some r := by first | (rw [hy300]; with_reducible exact H) | (have H2_ := (Option.bind_some _ _).symm.trans H; rw [hy300]; with_reducible exact H2_) | (have H2_ := (Option.bind_some _ _).symm.trans H; with_reducible exact H2_) | with_reducible exact H | (rw [hy300]; exact H) | exact H
          have Ny300 := Aside0.mk hy300
          clear hy300; by_cases c17 : x6_2.length + y300.length < 140737488355328
          ·
           rw [if_pos c17] at H
           have LMc17 := Aside0.mk c17
           clear c17; obtain ⟨y303, hy303⟩ : ∃ y_ : List Int, y_ = (x6_2 ++ y300) := ⟨_, rfl⟩
           replace H : (mosaicref01_Sum.l1 k2 x4_1 y303 (wrap64 (x7_2 + 1))) = some r := by first | (rw [hy303]; with_reducible exact H) | (have H2_ := (Option.bind_some _ _).symm.trans H; rw [hy303]; with_reducible exact H2_) | (have H2_ := (Option.bind_some _ _).symm.trans H; with_reducible exact H2_) | with_reducible exact H | (rw [hy303]; exact H) | exact H
           have Ny303 := Aside0.mk hy303
           clear hy303; have H' := Aside0.mk H
           clear H; obtain ⟨Ao18, co18, eo18⟩ := Kd.R_slice HO_4.out
           subst eo18
           have p299 : 0 ≤ (x7_2 : Int) := of_decide_eq_true zA
           have q299 : x7_2 < (x4_1.length : Int) := of_decide_eq_true zA
           obtain ⟨ad299, e299, hx299_0⟩ := Kd.at_int (Kd.R_reads' HO_4.out).2.2 x7_2 p299 q299
           cases e299
           replace p299 := eq_true p299
           replace q299 := eq_true q299
           go_wp2_with (first | ((with_reducible refine gate_dst (N := 53) rfl ?_); refine Kd.R_lit (Kd.int .u8) _ 5 ?hg (N := 53) ?hd (xs := ([((rd x4_1 x7_2) / 16777216) % 256, ((rd x4_1 x7_2) / 65536) % 256, ((rd x4_1 x7_2) / 256) % 256, (rd x4_1 x7_2) % 256] : List Int)) (inner := [.int .u8 (((rd x4_1 x7_2) / 16777216) % 256), .int .u8 (((rd x4_1 x7_2) / 65536) % 256), .int .u8 (((rd x4_1 x7_2) / 256) % 256), .int .u8 ((rd x4_1 x7_2) % 256)]) (ok := fun _ => True) (okp := fun _ => True) ?hr ?hp (fun _ hk => hk) trivial (Below.refl _ _) (Nat.le_refl _) (by simp) ?_; (case hd => rfl); (case hg => rfl); (case hr => first | (go_simp; done) | (go_simp; rfl)); (case hp => exact (Reps.one (show Kd.M (Kd.int .u8) _ _ _ (((rd x4_1 x7_2) / 16777216) % 256) [.int .u8 (((rd x4_1 x7_2) / 16777216) % 256)] from rfl) (Reps.one (show Kd.M (Kd.int .u8) _ _ _ (((rd x4_1 x7_2) / 65536) % 256) [.int .u8 (((rd x4_1 x7_2) / 65536) % 256)] from rfl) (Reps.one (show Kd.M (Kd.int .u8) _ _ _ (((rd x4_1 x7_2) / 256) % 256) [.int .u8 (((rd x4_1 x7_2) / 256) % 256)] from rfl) (Reps.one (show Kd.M (Kd.int .u8) _ _ _ ((rd x4_1 x7_2) % 256) [.int .u8 ((rd x4_1 x7_2) % 256)] from rfl) (Reps.none _ _)))))); intro v301 w19 ho20 hb hg_ hnew_; clear hg_ hnew_; (first | rw [← Ny300.out] at ho20 | (simp only [Int.reduceToNat] at ho20; rw [← Ny300.out] at ho20)); have n0_ := Aside0.mk (Kd.R_below (zR HO_4) hb); have n1_ := Aside0.mk (Kd.R_elder' (by (with_reducible repeat (first | apply Kd.R_alloc | apply Kd.R_drewN | apply Kd.R_drew)); exact HO_6.out) (Kd.R_base ho20) hb); have n2_ := Aside0.mk (Kd.R_lower (Kd.R_new' ho20 (Kd.R_lt (by (with_reducible repeat (first | apply Kd.R_alloc | apply Kd.R_drewN | apply Kd.R_drew)); exact HO_6.out))) (below_size zB)); have n3_ := Aside0.mk (below_step zB hb); clear HO_4; clear HO_6; clear HB; have HO_4 := n0_; have HO_6 := n1_; have HO302 := n2_; have HB := n3_; clear n0_ n1_ n2_ n3_; clear hb ho20; obtain ⟨Ao22, co22, eo22⟩ := Kd.R_slice HO302.out; subst eo22) | ((with_reducible refine gate_builtin (b := .append) (xs := #[.tmp 41, .tmp 53]) rfl ?_); at_builtin; refine Kd.R_append_rows (Kd.int .u8) (w0 := w) w.heap.size rfl (.tmp 41) (.tmp 53) 90 5 (.int .u8 0) 1 rfl Tryz.underlying90 info5 rfl (by decide) (by omega) u6 x6_2 y300 _ _ _ (fun k_ => some k_ ≠ (.slice Ao22 y300.length co22 : Value).ownBlock) (fun _ => False) rfl rfl ?aO ?aR (fun _ _ h => h) (fun _ h => h.elim) ?aF ?aB ?aS ?aL ?_; (case aR => repeat (first | exact (Kd.R_reads' HO302.out).2.2 | (with_reducible refine Kd.C_alloc ?_ _) | (with_reducible refine Kd.C_drewN ?_ _) | (with_reducible refine Kd.C_drew ?_))); (case aB => exact zB); (case aF => exact (fun k_ hk => Kd.fresh' (Kd.R_lt (by (with_reducible repeat (first | apply Kd.R_alloc | apply Kd.R_drewN | apply Kd.R_drew)); exact HO302.out)) k_ hk)); (case aO => exact (by (with_reducible repeat (first | apply Kd.R_alloc | apply Kd.R_drewN | apply Kd.R_drew)); exact Kd.R_mono HO_6.out (fun _ hk => hk.2))); (case aS => exact (below_size zB)); (case aL => have := LMc17.out; omega); intro v304 w21 ho hb hg hat; rw [← Ny303.out] at ho; replace HO_4 := Aside0.mk (Kd.R_over' (by (with_reducible repeat (first | apply Kd.R_alloc | apply Kd.R_drewN | apply Kd.R_drew)); exact HO_4.out) (Kd.R_typed (by (with_reducible repeat (first | apply Kd.R_alloc | apply Kd.R_drewN | apply Kd.R_drew)); exact HO_6.out)) (by decide) hg); replace HO302 := Aside0.mk (Kd.R_after (ok := (fun _ => True)) (by (with_reducible repeat (first | apply Kd.R_alloc | apply Kd.R_drewN | apply Kd.R_drew)); exact HO302.out) hg hat); have HO305 := Aside0.mk (ho); replace HB := Aside0.mk (hb); clear HO_6; clear ho hb hg hat))
           go_roundg k2
           case measure => have := HK1.out; have := HK2.out; omega
           case rel => exact ⟨(y303), (wrap64 (x7_2 + 1)), zF, H', ⟨by have := HK1.out; have := HK2.out; omega⟩, ⟨zR HO_4⟩, ⟨by (with_reducible repeat (first | apply Kd.R_alloc | apply Kd.R_drewN | apply Kd.R_drew)); exact Kd.R_mono HO305.out (fun _ hk => trivial)⟩, ⟨zB⟩⟩
          ·
           rw [if_neg c17] at H
           exact absurd H (by simp)
         ·
          rw [if_neg c16] at H
          exact absurd H (by simp)
        ·
         rw [if_neg c15] at H
         have c15b0 : decide (x7_2 < (x4_1.length : Int)) = false := decide_eq_false c15
         clear c15; obtain rfl := Option.some.inj H
         obtain ⟨Ao23, co23, eo23⟩ := Kd.R_slice HO_4.out
         subst eo23
         have hcv24 := own_string (P := Tryz.prog) Tryz.underlying90 Tryz.underlying5 Tryz.underlying9 (Kd.own_of_R HO_6.out)
         have hcvd25 := fun n_ => own_string (P := Tryz.prog) Tryz.underlying90 Tryz.underlying5 Tryz.underlying9 (Kd.own_of_R (Kd.R_drewN HO_6.out n_))
         go_wp2
         go_ret
         exact ⟨zE, zB⟩
  ·
   rw [if_neg c4] at H
   exact absurd H (by simp)
/-! ### mosaicref04_Block: function 102 -/
def mosaicref04_Block.j0 : Nat → ByteArray → ByteArray → Bool → Option (ByteArray)
 | 0, _, _, _ => none
 | k + 1, x0, x5, x18 => if x18 = true then (some (⟨#[]⟩ : ByteArray)) else ((mosaicref02_Num.f k (x0.size : Int) 1).bind fun t308 => (if 1 + t308.size ≤ 9223372036854775807 then (if ((⟨#[2]⟩ : ByteArray) ++ t308).size + x0.size ≤ 9223372036854775807 then (if (((⟨#[2]⟩ : ByteArray) ++ t308) ++ x0).size + x5.size ≤ 9223372036854775807 then ((mosaicref01_Sum.f k ((((⟨#[2]⟩ : ByteArray) ++ t308) ++ x0) ++ x5)).bind fun t309 => (some t309)) else (none)) else (none)) else (none)))
def mosaicref04_Block.f (k : Nat) (a0 : ByteArray) (a1 : Int) : Option (ByteArray) := (mosaicref02_Put.f k a1 7).bind fun bt306 => (if (a0.size : Int) > 64 then (mosaicref04_Block.j0 k a0 bt306.1 true) else (mosaicref04_Block.j0 k a0 bt306.1 (bt306.2 != 0)))
theorem mosaicref04_Block.mono_l : ∀ k, (∀ y0 y1 y2, LeO (mosaicref04_Block.j0 k y0 y1 y2) (mosaicref04_Block.j0 (k + 1) y0 y1 y2))
 | 0 => fun _ _ _ r h => by simp [mosaicref04_Block.j0] at h
 | k + 1 => by
  have ih0 := mosaicref04_Block.mono_l k
  ·
   intro y0 y1 y2
   unfold mosaicref04_Block.j0
   repeat' first
   | (with_reducible exact ih0 _ _ _)
   | (with_reducible exact mosaicref01_Sum.mono _ _)
   | (with_reducible exact mosaicref02_Num.mono _ _ _)
   | (with_reducible exact mosaicref02_Put.mono _ _ _)
   | (with_reducible exact LeO.refl _)
   | (with_reducible exact LeO.none _)
   | (with_reducible refine LeO.ite ?_ ?_)
   | (with_reducible refine LeO.bind ?_ (fun _ => ?_))
   | exact ih0 _ _ _
   | exact mosaicref01_Sum.mono _ _
   | exact mosaicref02_Num.mono _ _ _
   | exact mosaicref02_Put.mono _ _ _
   | exact LeO.none _
   | refine LeO.ite ?_ ?_
   | refine LeO.bind ?_ (fun _ => ?_)
theorem mosaicref04_Block.mono : ∀ a0 a1 k, LeO (mosaicref04_Block.f k a0 a1) (mosaicref04_Block.f (k + 1) a0 a1) := by
 intro a0 a1 k
 have ih0 := mosaicref04_Block.mono_l k
 unfold mosaicref04_Block.f
 repeat' first
   | (with_reducible exact ih0 _ _ _)
   | (with_reducible exact mosaicref01_Sum.mono _ _)
   | (with_reducible exact mosaicref02_Num.mono _ _ _)
   | (with_reducible exact mosaicref02_Put.mono _ _ _)
   | (with_reducible exact LeO.refl _)
   | (with_reducible exact LeO.none _)
   | (with_reducible refine LeO.ite ?_ ?_)
   | (with_reducible refine LeO.bind ?_ (fun _ => ?_))
   | exact ih0 _ _ _
   | exact mosaicref01_Sum.mono _ _
   | exact mosaicref02_Num.mono _ _ _
   | exact mosaicref02_Put.mono _ _ _
   | exact LeO.none _
   | refine LeO.ite ?_ ?_
   | refine LeO.bind ?_ (fun _ => ?_)
set_option maxHeartbeats 8000000 in
set_option maxRecDepth 100000 in
theorem mosaicref04_Block.calls (k : Nat) (a0 : ByteArray) (a1 : Int) (r : ByteArray) (w : World) (h : mosaicref04_Block.f k a0 a1 = some r) :
  Calls Tryz.prog 102 #[.string a0, .int .i64 a1] w fun e w' => e = .returned (.string r) ∧ Below w.heap.size w w' := by
 have HB := Aside0.mk (Below.refl w.heap.size w)
 have H : ((mosaicref02_Put.f k a1 7).bind fun bt306 => (if (a0.size : Int) > 64 then (mosaicref04_Block.j0 k a0 bt306.1 true) else (mosaicref04_Block.j0 k a0 bt306.1 (bt306.2 != 0)))) = some r := h
 clear h; replace H := Option.bind_eq_some_iff.mp H
 obtain ⟨⟨t306, t307⟩, A30, H⟩ := H
 replace H : (if (a0.size : Int) > 64 then (mosaicref04_Block.j0 k a0 t306 true) else (mosaicref04_Block.j0 k a0 t306 (t307 != 0))) = some r := H
 have A3 := Aside0.mk A30
 clear A30; have HC4 := Aside0.mk H
 clear H; go_enter Tryz.func102, Tryz.ntmps102
 go_upto_region 2 with (first | ((with_reducible refine gate_callee (f := 54) rfl ?_); refine goesL_ (some 9) rfl rfl Tryz.func54 (by kernel_rfl) rfl #[.int .i64 a1, .int .i64 7] rfl zM ?_; (with_reducible refine (mosaicref02_Put.calls k a1 7 t306 t307 _ A3.out).mono ?_); rintro e w5 ⟨rfl, hb⟩; refine ⟨_, rfl, ?_⟩; replace HB := Aside0.mk (below_step zB hb); (try clear hb); (try clear hb2); (try clear hk); (try clear hi)))
 (try simp only [Act.put, List.setIfInBounds_toArray, List.set_cons_zero, List.set_cons_succ])
 go_cut [18] (fun v18 wc => ∃ (kq : Nat) (x18_3 : Bool), v18 = .bool x18_3 ∧ Aside0 (mosaicref04_Block.j0 kq a0 t306 x18_3 = some r) ∧ Aside0 (kq ≤ k) ∧ Aside0 (Below w.heap.size w wc))
 case first =>
  have H := HC4.out; clear HC4; by_cases c6 : (a0.size : Int) > 64
  ·
   rw [if_pos c6] at H
   have c6b0 : decide (64 < (a0.size : Int)) = true := decide_eq_true c6
   have c6b1 : decide (64 < a0.size) = true := decide_eq_true (by omega)
   clear c6; (first | rw [c6b0] | (simp only [i64_w, i32_w]; rw [c6b0]) | skip)
   have H' := Aside0.mk H
   clear H; go_wp2
   go_meet
   case rel => exact ⟨_, (true), zF, H', ⟨by first | omega | exact Nat.le_refl _⟩, ⟨zB⟩⟩
  ·
   rw [if_neg c6] at H
   have c6b0 : decide (64 < (a0.size : Int)) = false := decide_eq_false c6
   have c6b1 : decide (64 < a0.size) = false := decide_eq_false (by omega)
   clear c6; (first | rw [c6b0] | (simp only [i64_w, i32_w]; rw [c6b0]) | skip)
   have H' := Aside0.mk H
   clear H; go_wp2
   go_meet
   case rel => exact ⟨_, ((t307 != 0)), zF, H', ⟨by first | omega | exact Nat.le_refl _⟩, ⟨zB⟩⟩
 case rest =>
  clear HC4; (try clear c1); (try clear p2); (try clear c5); (try clear c6); (try clear c6b0); (try clear c6b1); obtain ⟨kq, x18_3, rfl, HA, HJ3, HB⟩ := hcut
  cases kq with
  | zero => exact absurd HA.out (by simp [mosaicref04_Block.j0])
  | succ kj3 =>
   have H := HA.out; clear HA; simp only [mosaicref04_Block.j0] at H
   by_cases c7 : x18_3 = true
   ·
    subst c7
    have H1 : (some (⟨#[]⟩ : ByteArray)) = some r := by rw [if_pos rfl] at H; exact H
    clear H; have H := H1; clear H1; obtain rfl := Option.some.inj H
    go_wp2
    go_ret
    exact ⟨zE, zB⟩
   ·
    replace c7 := Bool.eq_false_iff.mpr c7
    subst c7
    have H1 : ((mosaicref02_Num.f kj3 (a0.size : Int) 1).bind fun t308 => (if 1 + t308.size ≤ 9223372036854775807 then (if ((⟨#[2]⟩ : ByteArray) ++ t308).size + a0.size ≤ 9223372036854775807 then (if (((⟨#[2]⟩ : ByteArray) ++ t308) ++ a0).size + t306.size ≤ 9223372036854775807 then ((mosaicref01_Sum.f kj3 ((((⟨#[2]⟩ : ByteArray) ++ t308) ++ a0) ++ t306)).bind fun t309 => (some t309)) else (none)) else (none)) else (none))) = some r := by rw [if_neg (show ¬ (false = true) by decide)] at H; exact H
    clear H; have H := H1; clear H1; replace H := Option.bind_eq_some_iff.mp H
    obtain ⟨t308, A80, H⟩ := H
    replace H : (if 1 + t308.size ≤ 9223372036854775807 then (if ((⟨#[2]⟩ : ByteArray) ++ t308).size + a0.size ≤ 9223372036854775807 then (if (((⟨#[2]⟩ : ByteArray) ++ t308) ++ a0).size + t306.size ≤ 9223372036854775807 then ((mosaicref01_Sum.f kj3 ((((⟨#[2]⟩ : ByteArray) ++ t308) ++ a0) ++ t306)).bind fun t309 => (some t309)) else (none)) else (none)) else (none)) = some r := H
    have A8 := Aside0.mk A80
    clear A80; by_cases c9 : 1 + t308.size ≤ 9223372036854775807
    ·
     rw [if_pos c9] at H
     have c9b0 := eq_true c9
     have c9b1 : decide (1 + t308.size ≤ 9223372036854775807) = true := decide_eq_true c9
     try have c9b2 : (9223372036854775807 < 1 + t308.size) = False := eq_false (Nat.not_lt.2 c9)
     by_cases c10 : ((⟨#[2]⟩ : ByteArray) ++ t308).size + a0.size ≤ 9223372036854775807
     ·
      rw [if_pos c10] at H
      have c10b0 := eq_true c10
      have c10b1 : decide (((⟨#[2]⟩ : ByteArray) ++ t308).size + a0.size ≤ 9223372036854775807) = true := decide_eq_true c10
      try have c10b2 : (9223372036854775807 < ((⟨#[2]⟩ : ByteArray) ++ t308).size + a0.size) = False := eq_false (Nat.not_lt.2 c10)
      by_cases c11 : (((⟨#[2]⟩ : ByteArray) ++ t308) ++ a0).size + t306.size ≤ 9223372036854775807
      ·
       rw [if_pos c11] at H
       have c11b0 := eq_true c11
       have c11b1 : decide ((((⟨#[2]⟩ : ByteArray) ++ t308) ++ a0).size + t306.size ≤ 9223372036854775807) = true := decide_eq_true c11
       try have c11b2 : (9223372036854775807 < (((⟨#[2]⟩ : ByteArray) ++ t308) ++ a0).size + t306.size) = False := eq_false (Nat.not_lt.2 c11)
       replace H := Option.bind_eq_some_iff.mp H
       obtain ⟨t309, A120, H⟩ := H
       replace H : (some t309) = some r := H
       have A12 := Aside0.mk A120
       clear A120; obtain rfl := Option.some.inj H
       go_wp2_with (first | ((with_reducible refine gate_callee (f := 30) rfl ?_); refine goesL_ (some 21) rfl rfl Tryz.func30 (by kernel_rfl) rfl #[.int .i64 (a0.size : Int), .int .i64 1] rfl zM ?_; (with_reducible refine (mosaicref02_Num.calls kj3 (a0.size : Int) 1 t308 _ A8.out).mono ?_); rintro e w13 ⟨rfl, hb⟩; refine ⟨_, rfl, ?_⟩; replace HB := Aside0.mk (below_step zB hb); (try clear hb); (try clear hb2); (try clear hk); (try clear hi)) | ((with_reducible refine gate_callee (f := 117) rfl ?_); refine goesL_ (some 27) rfl rfl Tryz.func117 (by kernel_rfl) rfl #[.string ((((⟨#[2]⟩ : ByteArray) ++ t308) ++ a0) ++ t306)] rfl zM ?_; (with_reducible refine (mosaicref01_Sum.calls kj3 ((((⟨#[2]⟩ : ByteArray) ++ t308) ++ a0) ++ t306) t309 _ A12.out).mono ?_); rintro e w14 ⟨rfl, hb⟩; refine ⟨_, rfl, ?_⟩; replace HB := Aside0.mk (below_step zB hb); (try clear hb); (try clear hb2); (try clear hk); (try clear hi)))
       go_ret
       exact ⟨zE, zB⟩
      ·
       rw [if_neg c11] at H
       exact absurd H (by simp)
     ·
      rw [if_neg c10] at H
      exact absurd H (by simp)
    ·
     rw [if_neg c9] at H
     exact absurd H (by simp)
end Go.Proofs.YtghhmnjkgnoogaaGreat.POuterWholes
