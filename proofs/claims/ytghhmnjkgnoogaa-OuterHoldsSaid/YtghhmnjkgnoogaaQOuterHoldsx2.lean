-- Written by this session's own program (wip/tools/mkprint.py) over the kit's printer, with overrides.
import Derived.Test.YtghhmnjkgnoogaaTOuterHoldsa
import Derived.Test.YtghhmnjkgnoogaaQOuterHoldsx0
import Derived.Test.YtghhmnjkgnoogaaQOuterHoldsx1
namespace Go.Proofs.Ytghhmnjkgnoogaa.POuterHolds
open Go.RowKit Go.Mine Go.Proofs.YtghhmnjkgnoogaaW.PrintWords Go.Proofs.YtghhmnjkgnoogaaW.PrintLast Go.Proofs.YtghhmnjkgnoogaaW.PrintMore
attribute [local go_sem] max2_int min2_int max_two min_two max_three min_three max_four min_four   -- for this text's walks alone
set_option linter.unusedVariables false
set_option linter.unusedSimpArgs false
/-! ### sha_word: function 104 -/
def sha_word.f (l0 : List Int) (a1 : Int) : Option (Int) := if 0 ≤ a1 then (if a1 < (l0.length : Int) then (if 0 ≤ (wrap64 (a1 + 1)) then (if (wrap64 (a1 + 1)) < (l0.length : Int) then (if 0 ≤ (wrap64 (a1 + 2)) then (if (wrap64 (a1 + 2)) < (l0.length : Int) then (if 0 ≤ (wrap64 (a1 + 3)) then (if (wrap64 (a1 + 3)) < (l0.length : Int) then (some (Go.bits .or .u32 (Go.bits .or .u32 (Go.bits .or .u32 ((((rd l0 a1) % 4294967296) * 16777216) % 4294967296) ((((rd l0 (wrap64 (a1 + 1))) % 4294967296) * 65536) % 4294967296)) ((((rd l0 (wrap64 (a1 + 2))) % 4294967296) * 256) % 4294967296)) ((rd l0 (wrap64 (a1 + 3))) % 4294967296))) else (none)) else (none)) else (none)) else (none)) else (none)) else (none)) else (none)) else (none)
set_option maxHeartbeats 8000000 in
set_option maxRecDepth 100000 in
theorem sha_word.calls (A0 : Option Addr) (c0 : Nat) (l0 : List Int) (a1 : Int) (r : Int) (w : World) (hr0 : Kd.C (Kd.int .u8) w A0 l0.length l0) (hc0 : l0.length ≤ c0) (h : sha_word.f l0 a1 = some r) :
  Calls Try.prog 104 #[.slice A0 l0.length c0, .int .i64 a1] w fun e w' => e = .returned (.int .u32 r) ∧ Drawn0 w w' := by
 have HR0 := Aside0.mk hr0
 have HC0 := Aside0.mk hc0
 clear hr0 hc0; have H : (if 0 ≤ a1 then (if a1 < (l0.length : Int) then (if 0 ≤ (wrap64 (a1 + 1)) then (if (wrap64 (a1 + 1)) < (l0.length : Int) then (if 0 ≤ (wrap64 (a1 + 2)) then (if (wrap64 (a1 + 2)) < (l0.length : Int) then (if 0 ≤ (wrap64 (a1 + 3)) then (if (wrap64 (a1 + 3)) < (l0.length : Int) then (some (Go.bits .or .u32 (Go.bits .or .u32 (Go.bits .or .u32 ((((rd l0 a1) % 4294967296) * 16777216) % 4294967296) ((((rd l0 (wrap64 (a1 + 1))) % 4294967296) * 65536) % 4294967296)) ((((rd l0 (wrap64 (a1 + 2))) % 4294967296) * 256) % 4294967296)) ((rd l0 (wrap64 (a1 + 3))) % 4294967296))) else (none)) else (none)) else (none)) else (none)) else (none)) else (none)) else (none)) else (none)) = some r := h
 clear h; by_cases c3 : 0 ≤ a1
 ·
  rw [if_pos c3] at H
  have c3b0 : decide (0 ≤ a1) = true := decide_eq_true c3
  clear c3; by_cases c4 : a1 < (l0.length : Int)
  ·
   rw [if_pos c4] at H
   have c4b0 : decide (a1 < (l0.length : Int)) = true := decide_eq_true c4
   clear c4; obtain ⟨ji5, hji5⟩ : ∃ j_ : Int, (wrap64 (a1 + 1)) = j_ := ⟨_, rfl⟩
   replace H : (if 0 ≤ (ji5) then (if (ji5) < (l0.length : Int) then (if 0 ≤ (wrap64 (a1 + 2)) then (if (wrap64 (a1 + 2)) < (l0.length : Int) then (if 0 ≤ (wrap64 (a1 + 3)) then (if (wrap64 (a1 + 3)) < (l0.length : Int) then (some (Go.bits .or .u32 (Go.bits .or .u32 (Go.bits .or .u32 ((((rd l0 a1) % 4294967296) * 16777216) % 4294967296) ((((rd l0 (ji5)) % 4294967296) * 65536) % 4294967296)) ((((rd l0 (wrap64 (a1 + 2))) % 4294967296) * 256) % 4294967296)) ((rd l0 (wrap64 (a1 + 3))) % 4294967296))) else (none)) else (none)) else (none)) else (none)) else (none)) else (none)) = some r := by first | (rw [hji5] at H; exact H) | (simp only [hji5] at H ⊢; exact H)
   have hji5w : (IntKind.i64.wrap (a1 + 1)) = ji5 := (i64_w _).trans hji5
   by_cases c6 : 0 ≤ (ji5)
   ·
    rw [if_pos c6] at H
    have c6b0 : decide (0 ≤ (ji5)) = true := decide_eq_true c6
    clear c6; by_cases c7 : (ji5) < (l0.length : Int)
    ·
     rw [if_pos c7] at H
     have c7b0 : decide ((ji5) < (l0.length : Int)) = true := decide_eq_true c7
     clear c7; obtain ⟨ji8, hji8⟩ : ∃ j_ : Int, (wrap64 (a1 + 2)) = j_ := ⟨_, rfl⟩
     replace H : (if 0 ≤ (ji8) then (if (ji8) < (l0.length : Int) then (if 0 ≤ (wrap64 (a1 + 3)) then (if (wrap64 (a1 + 3)) < (l0.length : Int) then (some (Go.bits .or .u32 (Go.bits .or .u32 (Go.bits .or .u32 ((((rd l0 a1) % 4294967296) * 16777216) % 4294967296) ((((rd l0 (ji5)) % 4294967296) * 65536) % 4294967296)) ((((rd l0 (ji8)) % 4294967296) * 256) % 4294967296)) ((rd l0 (wrap64 (a1 + 3))) % 4294967296))) else (none)) else (none)) else (none)) else (none)) = some r := by first | (rw [hji8] at H; exact H) | (simp only [hji8] at H ⊢; exact H)
     have hji8w : (IntKind.i64.wrap (a1 + 2)) = ji8 := (i64_w _).trans hji8
     by_cases c9 : 0 ≤ (ji8)
     ·
      rw [if_pos c9] at H
      have c9b0 : decide (0 ≤ (ji8)) = true := decide_eq_true c9
      clear c9; by_cases c10 : (ji8) < (l0.length : Int)
      ·
       rw [if_pos c10] at H
       have c10b0 : decide ((ji8) < (l0.length : Int)) = true := decide_eq_true c10
       clear c10; obtain ⟨ji11, hji11⟩ : ∃ j_ : Int, (wrap64 (a1 + 3)) = j_ := ⟨_, rfl⟩
       replace H : (if 0 ≤ (ji11) then (if (ji11) < (l0.length : Int) then (some (Go.bits .or .u32 (Go.bits .or .u32 (Go.bits .or .u32 ((((rd l0 a1) % 4294967296) * 16777216) % 4294967296) ((((rd l0 (ji5)) % 4294967296) * 65536) % 4294967296)) ((((rd l0 (ji8)) % 4294967296) * 256) % 4294967296)) ((rd l0 (ji11)) % 4294967296))) else (none)) else (none)) = some r := by first | (rw [hji11] at H; exact H) | (simp only [hji11] at H ⊢; exact H)
       have hji11w : (IntKind.i64.wrap (a1 + 3)) = ji11 := (i64_w _).trans hji11
       by_cases c12 : 0 ≤ (ji11)
       ·
        rw [if_pos c12] at H
        have c12b0 : decide (0 ≤ (ji11)) = true := decide_eq_true c12
        clear c12; by_cases c13 : (ji11) < (l0.length : Int)
        ·
         rw [if_pos c13] at H
         have c13b0 : decide ((ji11) < (l0.length : Int)) = true := decide_eq_true c13
         clear c13; obtain rfl := Option.some.inj H
         have p110 : 0 ≤ (a1 : Int) := of_decide_eq_true zA
         have q110 : a1 < (l0.length : Int) := of_decide_eq_true zA
         obtain ⟨ad110, e110, hx110_0⟩ := Kd.at_int HR0.out a1 p110 q110
         cases e110
         replace p110 := eq_true p110
         replace q110 := eq_true q110
         have p111 : 0 ≤ ((ji5) : Int) := of_decide_eq_true zA
         have q111 : (ji5) < (l0.length : Int) := of_decide_eq_true zA
         obtain ⟨ad111, e111, hx111_0⟩ := Kd.at_int HR0.out (ji5) p111 q111
         obtain rfl : ad110 = ad111 := (by injection e111)
         replace p111 := eq_true p111
         replace q111 := eq_true q111
         have p112 : 0 ≤ ((ji8) : Int) := of_decide_eq_true zA
         have q112 : (ji8) < (l0.length : Int) := of_decide_eq_true zA
         obtain ⟨ad112, e112, hx112_0⟩ := Kd.at_int HR0.out (ji8) p112 q112
         obtain rfl : ad110 = ad112 := (by injection e112)
         replace p112 := eq_true p112
         replace q112 := eq_true q112
         have p113 : 0 ≤ ((ji11) : Int) := of_decide_eq_true zA
         have q113 : (ji11) < (l0.length : Int) := of_decide_eq_true zA
         obtain ⟨ad113, e113, hx113_0⟩ := Kd.at_int HR0.out (ji11) p113 q113
         obtain rfl : ad110 = ad113 := (by injection e113)
         replace p113 := eq_true p113
         replace q113 := eq_true q113
         go_enter Try.func104, Try.ntmps104
         go_wp2
         repeat (go_quiet (fail); try go_wp2)
         go_ret
         exact ⟨by first | rfl | (simp; done) | (simp only [← hji5, ← hji8, ← hji11] <;> (first | rfl | simp)) | (simp [*]; done), by repeat (first | exact Drawn0.refl _ | apply Drawn0.step)⟩
        ·
         rw [if_neg c13] at H
         exact absurd H (by simp)
       ·
        rw [if_neg c12] at H
        exact absurd H (by simp)
      ·
       rw [if_neg c10] at H
       exact absurd H (by simp)
     ·
      rw [if_neg c9] at H
      exact absurd H (by simp)
    ·
     rw [if_neg c7] at H
     exact absurd H (by simp)
   ·
    rw [if_neg c6] at H
    exact absurd H (by simp)
  ·
   rw [if_neg c4] at H
   exact absurd H (by simp)
 ·
  rw [if_neg c3] at H
  exact absurd H (by simp)
/-! ### sha_schedule: function 101 -/
theorem sha_schedule.word (b : List Int) (hb : b.length = 64) (t : Nat) (ht : t < 16) : sha_word.f b (4 * (t : Int)) = some (wordI b (4 * t)) := by
  have w1 : wrap64 (4 * (t : Int) + 1) = ((4 * t + 1 : Nat) : Int) := by unfold wrap64; omega
  have w2 : wrap64 (4 * (t : Int) + 2) = ((4 * t + 2 : Nat) : Int) := by unfold wrap64; omega
  have w3 : wrap64 (4 * (t : Int) + 3) = ((4 * t + 3 : Nat) : Int) := by unfold wrap64; omega
  have w0 : (4 * (t : Int)) = ((4 * t : Nat) : Int) := by omega
  unfold sha_word.f wordI
  rw [w1, w2, w3, w0, if_pos (by omega), if_pos (by omega), if_pos (by omega), if_pos (by omega), if_pos (by omega), if_pos (by omega), if_pos (by omega), if_pos (by omega)]
  simp only [rd, Int.toNat_natCast]
theorem sha_schedule.rot7 (x : Int) : sha_rotr.f x 7 = some (rotI x 7) := by
  unfold sha_rotr.f bits_RotateLeft32.f rotI
  rw [show Go.bits .and .u64 (IntKind.u64.wrap (wrap64 (-7))) 31 = 25 from by decide +kernel, if_pos (by decide), show IntKind.u64.wrap (32 - 25) = 7 from by decide +kernel, if_pos (by decide)]
  rfl
theorem sha_schedule.rot18 (x : Int) : sha_rotr.f x 18 = some (rotI x 18) := by
  unfold sha_rotr.f bits_RotateLeft32.f rotI
  rw [show Go.bits .and .u64 (IntKind.u64.wrap (wrap64 (-18))) 31 = 14 from by decide +kernel, if_pos (by decide), show IntKind.u64.wrap (32 - 14) = 18 from by decide +kernel, if_pos (by decide)]
  rfl
theorem sha_schedule.rot17 (x : Int) : sha_rotr.f x 17 = some (rotI x 17) := by
  unfold sha_rotr.f bits_RotateLeft32.f rotI
  rw [show Go.bits .and .u64 (IntKind.u64.wrap (wrap64 (-17))) 31 = 15 from by decide +kernel, if_pos (by decide), show IntKind.u64.wrap (32 - 15) = 17 from by decide +kernel, if_pos (by decide)]
  rfl
theorem sha_schedule.rot19 (x : Int) : sha_rotr.f x 19 = some (rotI x 19) := by
  unfold sha_rotr.f bits_RotateLeft32.f rotI
  rw [show Go.bits .and .u64 (IntKind.u64.wrap (wrap64 (-19))) 31 = 13 from by decide +kernel, if_pos (by decide), show IntKind.u64.wrap (32 - 13) = 19 from by decide +kernel, if_pos (by decide)]
  rfl
theorem sha_schedule.rot2 (x : Int) : sha_rotr.f x 2 = some (rotI x 2) := by
  unfold sha_rotr.f bits_RotateLeft32.f rotI
  rw [show Go.bits .and .u64 (IntKind.u64.wrap (wrap64 (-2))) 31 = 30 from by decide +kernel, if_pos (by decide), show IntKind.u64.wrap (32 - 30) = 2 from by decide +kernel, if_pos (by decide)]
  rfl
theorem sha_schedule.rot6 (x : Int) : sha_rotr.f x 6 = some (rotI x 6) := by
  unfold sha_rotr.f bits_RotateLeft32.f rotI
  rw [show Go.bits .and .u64 (IntKind.u64.wrap (wrap64 (-6))) 31 = 26 from by decide +kernel, if_pos (by decide), show IntKind.u64.wrap (32 - 26) = 6 from by decide +kernel, if_pos (by decide)]
  rfl
theorem sha_schedule.rot11 (x : Int) : sha_rotr.f x 11 = some (rotI x 11) := by
  unfold sha_rotr.f bits_RotateLeft32.f rotI
  rw [show Go.bits .and .u64 (IntKind.u64.wrap (wrap64 (-11))) 31 = 21 from by decide +kernel, if_pos (by decide), show IntKind.u64.wrap (32 - 21) = 11 from by decide +kernel, if_pos (by decide)]
  rfl
theorem sha_schedule.rot13 (x : Int) : sha_rotr.f x 13 = some (rotI x 13) := by
  unfold sha_rotr.f bits_RotateLeft32.f rotI
  rw [show Go.bits .and .u64 (IntKind.u64.wrap (wrap64 (-13))) 31 = 19 from by decide +kernel, if_pos (by decide), show IntKind.u64.wrap (32 - 19) = 13 from by decide +kernel, if_pos (by decide)]
  rfl
theorem sha_schedule.rot22 (x : Int) : sha_rotr.f x 22 = some (rotI x 22) := by
  unfold sha_rotr.f bits_RotateLeft32.f rotI
  rw [show Go.bits .and .u64 (IntKind.u64.wrap (wrap64 (-22))) 31 = 10 from by decide +kernel, if_pos (by decide), show IntKind.u64.wrap (32 - 10) = 22 from by decide +kernel, if_pos (by decide)]
  rfl
theorem sha_schedule.rot25 (x : Int) : sha_rotr.f x 25 = some (rotI x 25) := by
  unfold sha_rotr.f bits_RotateLeft32.f rotI
  rw [show Go.bits .and .u64 (IntKind.u64.wrap (wrap64 (-25))) 31 = 7 from by decide +kernel, if_pos (by decide), show IntKind.u64.wrap (32 - 7) = 25 from by decide +kernel, if_pos (by decide)]
  rfl
theorem sha_schedule.rot (x n : Int) (hn : n = 2 ∨ n = 6 ∨ n = 7 ∨ n = 11 ∨ n = 13 ∨ n = 17 ∨ n = 18 ∨ n = 19 ∨ n = 22 ∨ n = 25) (w : World) : Calls Try.prog 103 #[.int .u32 x, .int .i64 n] w fun e w' => e = .returned (.int .u32 (rotI x n)) ∧ Drawn0 w w' := by
  rcases hn with rfl | rfl | rfl | rfl | rfl | rfl | rfl | rfl | rfl | rfl
  · exact sha_rotr.calls _ 2 _ _ (sha_schedule.rot2 _)
  · exact sha_rotr.calls _ 6 _ _ (sha_schedule.rot6 _)
  · exact sha_rotr.calls _ 7 _ _ (sha_schedule.rot7 _)
  · exact sha_rotr.calls _ 11 _ _ (sha_schedule.rot11 _)
  · exact sha_rotr.calls _ 13 _ _ (sha_schedule.rot13 _)
  · exact sha_rotr.calls _ 17 _ _ (sha_schedule.rot17 _)
  · exact sha_rotr.calls _ 18 _ _ (sha_schedule.rot18 _)
  · exact sha_rotr.calls _ 19 _ _ (sha_schedule.rot19 _)
  · exact sha_rotr.calls _ 22 _ _ (sha_schedule.rot22 _)
  · exact sha_rotr.calls _ 25 _ _ (sha_schedule.rot25 _)
theorem sha_schedule.put (b : List Int) (t : Nat) (ht : t < 64) (v : Int) : (schW b t ++ List.replicate (64 - t) 0).set t v = (schW b t ++ [v]) ++ List.replicate (64 - (t + 1)) 0 := by
  have e : 64 - t = (64 - (t + 1)) + 1 := by omega
  rw [List.set_append_right _ _ (by rw [schW_length]; omega), schW_length, Nat.sub_self, e, List.replicate_succ, List.set_cons_zero, List.append_assoc, List.singleton_append]
theorem sha_schedule.get (b : List Int) (t j : Nat) (hj : j < t) : (schW b t ++ List.replicate (64 - t) 0).getD j 0 = (schW b t).getD j 0 := by
  rw [List.getD_eq_getElem?_getD, List.getD_eq_getElem?_getD, List.getElem?_append_left (by rw [schW_length]; exact hj)]
set_option maxRecDepth 100000 in
set_option maxHeartbeats 2000000 in
theorem sha_schedule.gives (A0 : Option Addr) (c0 : Nat) (b : List Int) (hb : b.length = 64) (w : World) (hr0 : Kd.C (Kd.int .u8) w A0 b.length b) (hc0 : b.length ≤ c0) :
    Calls Try.prog 101 #[.slice A0 b.length c0] w fun e w' => e = .returned (.agg ((schW b 64).map (Value.int .u32)).toArray) ∧ Below w.heap.size w w' := by
  have HB := Aside0.mk (Below.refl w.heap.size w)
  have HR0 := Aside0.mk hr0
  have HLEN := Aside0.mk hb
  have HC0 := Aside0.mk hc0
  clear hr0 hb hc0
  go_enter Try.func101, Try.ntmps101
  go_upto_region 2 with (first | ((with_reducible refine gate_dst (N := 2) rfl ?_); refine box_event ?hg (N := 2) ?hd (cs := ((List.replicate 64 (0 : Int)).map (Value.int .u32)).toArray) (t := 143) ?hr ?_; (case hd => rfl); (case hg => rfl); (case hr => kernel_rfl); intro g2 hg w1 hbox hb; have BK2 : Aside0 (WordRow 143 w1 g2 (List.replicate 64 0)) := ⟨hbox⟩; have HB1 := Aside0.mk (below_step HB.out hb); have HG2 : Aside0 (w.heap.size ≤ g2) := ⟨by rw [hg]; exact Nat.le_refl _⟩; clear HB hbox hb hg) | ((with_reducible refine gate_dst (N := 3) rfl ?_); refine box_event ?hg (N := 3) ?hd (cs := ((List.replicate 64 (0 : Int)).map (Value.int .u32)).toArray) (t := 143) ?hr ?_; (case hd => rfl); (case hg => rfl); (case hr => kernel_rfl); intro g3 hg w2 hbox hb; have BK3 : Aside0 (WordRow 143 w2 g3 (List.replicate 64 0)) := ⟨hbox⟩; have BK4 := Aside0.mk (BK2.out.below hb); have NE : Aside0 (g2 < g3) := ⟨by rw [hg]; exact BK2.out.lt⟩; have HB2 := Aside0.mk (below_step HB1.out hb); clear BK2 HB1 hbox hb hg))
  go_wp2_with fail
  go_loopw [9] (fun v9 wr => ∃ t : Nat, t ≤ 64 ∧ v9 = .int .i64 t ∧ Aside0 (WordRow 143 wr g3 (schW b t ++ List.replicate (64 - t) 0)) ∧ Aside0 (WordRow 143 wr g2 (List.replicate 64 0)) ∧ Aside0 (Below w.heap.size w wr)) (fun v9 _ => 64 - (intOf v9).toNat)
  case atStart => exact ⟨0, Nat.zero_le _, rfl, BK3, BK4, HB2⟩
  case round =>
    obtain ⟨t, ht, rfl, BT, BR, HBT⟩ := hrel
    clear BK3 BK4 HB2
    have hlen : (schW b t ++ List.replicate (64 - t) 0).length = 64 := by rw [List.length_append, schW_length, List.length_replicate]; omega
    have HL := Aside0.mk hlen
    clear hlen
    by_cases hlt : t < 16
    · have hltz : (t : Int) < 64 := by omega
      have hltz2 : (t : Int) < 16 := by omega
      have HWD := Aside0.mk (sha_schedule.word b HLEN.out t hlt)
      have hrr := Aside0.mk (Kd.C_below HR0.out HBT.out)
      have hcell := BT.out.cell t (by have := HL.out; omega)
      generalize (schW b t ++ List.replicate (64 - t) 0).getD t 0 = y at hcell
      have hfr := BT.out.frozen t
      go_wp2_with (go_at_call 104; refine (sha_word.calls A0 c0 b _ _ _ hrr.out HC0.out HWD.out).mono ?_; rintro e w' ⟨rfl, ⟨q, rfl⟩⟩)
      go_roundw
      case measure => simp [intOf]; omega
      case rel =>
        have h1 := (BT.out.drewN q).set t (wordI b (4 * t))
        rw [sha_schedule.put b t (by omega)] at h1
        have e1 : schW b (t + 1) = schW b t ++ [wordI b (4 * t)] := by rw [schW, if_pos hlt]
        rw [← e1] at h1
        exact ⟨t + 1, by omega, by go_num, ⟨h1⟩, ⟨(BR.out.drewN q).far (p := ⟨g3, t, none⟩) (Nat.ne_of_lt NE.out) _⟩, ⟨below_set (pw_below_drewN HBT.out q) (Nat.le_trans HG2.out (Nat.le_of_lt NE.out))⟩⟩
    · by_cases hlt2 : t < 64
      · obtain ⟨m, rfl⟩ : ∃ m, t = m + 16 := ⟨t - 16, by omega⟩
        have hltz : ((m + 16 : Nat) : Int) < 64 := by omega
        have hltz2 : ¬ ((m + 16 : Nat) : Int) < 16 := by omega
        have c1 := BT.out.cell (m + 1) (by have := HL.out; omega)
        have c14 := BT.out.cell (m + 14) (by have := HL.out; omega)
        have c9 := BT.out.cell (m + 9) (by have := HL.out; omega)
        have c0' := BT.out.cell m (by have := HL.out; omega)
        have c16 := BT.out.cell (m + 16) (by have := HL.out; omega)
        rw [sha_schedule.get b _ _ (by omega)] at c1 c14 c9 c0'
        have hfr := BT.out.frozen (m + 16)
        generalize hx15 : (schW b (m + 16)).getD (m + 1) 0 = x15 at *
        generalize hx2 : (schW b (m + 16)).getD (m + 14) 0 = x2 at *
        generalize hx7 : (schW b (m + 16)).getD (m + 9) 0 = x7 at *
        generalize hx16 : (schW b (m + 16)).getD m 0 = x16 at *
        generalize (schW b (m + 16) ++ List.replicate (64 - (m + 16)) 0).getD (m + 16) 0 = y at c16
        have X15 := Aside0.mk hx15
        have X2 := Aside0.mk hx2
        have X7 := Aside0.mk hx7
        have X16 := Aside0.mk hx16
        clear hx15 hx2 hx7 hx16 hlt hlt2
        have HM : Aside0 (m + 16 < 64) := ⟨by omega⟩
        have e15 : IntKind.i64.wrap (((m + 16 : Nat) : Int) - 15) = ((m + 1 : Nat) : Int) := (by rw [i64_w]; unfold wrap64; omega)
        have e2 : IntKind.i64.wrap (((m + 16 : Nat) : Int) - 2) = ((m + 14 : Nat) : Int) := (by rw [i64_w]; unfold wrap64; omega)
        have b1 : ((m + 1 : Nat) : Int) < 64 := by omega
        have b2 : ((m + 14 : Nat) : Int) < 64 := by omega
        have b3 : ((m + 9 : Nat) : Int) < 64 := by omega
        have b4 : ((m : Nat) : Int) < 64 := by omega
        have e7 : IntKind.i64.wrap (((m + 16 : Nat) : Int) - 7) = ((m + 9 : Nat) : Int) := (by rw [i64_w]; unfold wrap64; omega)
        have e16 : IntKind.i64.wrap (((m + 16 : Nat) : Int) - 16) = ((m : Nat) : Int) := (by rw [i64_w]; unfold wrap64; omega)
        go_wp2_with fail
        go_quiet (fail)
        go_wp2_with (go_at_call 103; refine (sha_schedule.rot _ _ (by decide) _).mono ?_; rintro e w' ⟨rfl, ⟨q, rfl⟩⟩)
        go_region
        all_goals
          go_wp2
          go_roundw
          case measure => simp [intOf]; omega
          case rel =>
            have h1 := BT.out.set (m + 16) ((sig1 x2 + x7 + sig0 x15 + x16) % 4294967296)
            rw [sha_schedule.put b (m + 16) HM.out] at h1
            have e1 : schW b (m + 16 + 1) = schW b (m + 16) ++ [(sig1 x2 + x7 + sig0 x15 + x16) % 4294967296] := by
              rw [schW, if_neg (by omega), show m + 16 - 2 = m + 14 from by omega, show m + 16 - 7 = m + 9 from by omega, show m + 16 - 15 = m + 1 from by omega, show m + 16 - 16 = m from by omega, X15.out, X2.out, X7.out, X16.out]
            rw [← e1] at h1
            exact ⟨m + 16 + 1, by have := HM.out; omega, by go_num, ⟨h1⟩, ⟨BR.out.far (p := ⟨g3, m + 16, none⟩) (Nat.ne_of_lt NE.out) _⟩, ⟨below_set (pw_below_drewN HBT.out _) (Nat.le_trans HG2.out (Nat.le_of_lt NE.out))⟩⟩
      · have : t = 64 := by omega
        subst this
        have BT2 : Aside0 (WordRow 143 wr g3 (schW b 64)) := ⟨by have h1 := BT.out; rw [show 64 - 64 = 0 from rfl, List.replicate_zero, List.append_nil] at h1; exact h1⟩
        clear BT HL
        go_wp2_with (first | ((with_reducible refine gate_dst (N := 60) rfl ?_); refine WordRow.load rfl 143 (.tmp 3) rfl g3 (schW b 64) rfl BT2.out _ Try.underlying143 rfl ?hi ?_; (case hi => rw [schW_length]; kernel_rfl)) | ((with_reducible refine gate_store (t := 143) (p := 2) (v := .tmp 60) rfl ?_); refine WordRow.store (B := w.heap.size) (w0 := w) rfl 143 (.tmp 2) (.tmp 60) rfl g2 (schW b 64) _ ?hx ?hy BR.out ?hl ?hi HBT.out HG2.out ?_; (case hx => rfl); (case hy => rfl); (case hl => rw [schW_length, List.length_replicate]); (case hi => rw [schW_length]; kernel_rfl); intro w5 hrow hfar hsz hb2; have BK5 := Aside0.mk hrow; have HB5 := Aside0.mk hb2; clear hrow hfar hsz hb2 BR BT2 HBT))
        refine bodyPost_ret (results_cell_row rfl _ _ g2 143 ((schW b 64).map (Value.int .u32)).toArray (0, 0) _ rfl BK5.out Try.underlying143 rfl ?_) rfl ⟨rfl, HB5.out⟩
        simp only [List.size_toArray, List.length_map, schW_length]
        kernel_rfl
/-! ### sha_constants: function 102 -/
set_option maxRecDepth 100000 in
set_option maxHeartbeats 2000000 in
theorem sha_constants.gives (w : World) : Calls Try.prog 102 #[] w fun e w' => e = .returned (.agg (shaK.map (Value.int .u32)).toArray) ∧ Below w.heap.size w w' := by
  have HB := Aside0.mk (Below.refl w.heap.size w)
  go_enter Try.func102, Try.ntmps102
  go_wp2_with (first | ((with_reducible refine gate_dst (N := 0) rfl ?_); refine box_event ?hg (N := 0) ?hd (cs := ((List.replicate 64 (0 : Int)).map (Value.int .u32)).toArray) (t := 143) ?hr ?_; (case hd => rfl); (case hg => rfl); (case hr => kernel_rfl); intro g0 hg w1 hbox hb; have BK0 : Aside0 (WordRow 143 w1 g0 (List.replicate 64 0)) := ⟨hbox⟩; have HB1 := Aside0.mk (below_step HB.out hb); have HG0 : Aside0 (w.heap.size ≤ g0) := ⟨by rw [hg]; exact Nat.le_refl _⟩; clear HB hbox hb hg) | ((with_reducible refine gate_store (t := 143) (p := 0) (v := .tmp 1) rfl ?_); refine WordRow.store (B := w.heap.size) (w0 := w) rfl 143 (.tmp 0) (.tmp 1) rfl g0 shaK _ ?hx ?hy BK0.out ?hl ?hi HB1.out HG0.out ?_; (case hx => rfl); (case hy => rfl); (case hl => rfl); (case hi => kernel_rfl); intro w2 hrow hfar hsz hb2; have BK2 := Aside0.mk hrow; have HB2 := Aside0.mk hb2; clear hrow hfar hsz hb2 BK0 HB1))
  refine bodyPost_ret (results_cell_row rfl _ _ g0 143 (shaK.map (Value.int .u32)).toArray (0, 0) _ rfl BK2.out Try.underlying143 rfl (by kernel_rfl)) rfl ⟨rfl, HB2.out⟩
/-! ### sha_mix: function 99 -/
set_option maxRecDepth 100000 in
set_option maxHeartbeats 4000000 in
theorem sha_mix.gives (s0 s1 s2 s3 s4 s5 s6 s7 : Int) (A0 : Option Addr) (c0 : Nat) (b : List Int) (hb : b.length = 64) (w : World) (hr0 : Kd.C (Kd.int .u8) w A0 b.length b) (hc0 : b.length ≤ c0) :
    Calls Try.prog 99 #[.agg (([s0, s1, s2, s3, s4, s5, s6, s7] : List Int).map (Value.int .u32)).toArray, .slice A0 b.length c0] w fun e w' => e = .returned (.agg ((mixW [s0, s1, s2, s3, s4, s5, s6, s7] b).map (Value.int .u32)).toArray) ∧ Below w.heap.size w w' := by
  have HB := Aside0.mk (Below.refl w.heap.size w)
  have HR0 := Aside0.mk hr0
  have HLEN := Aside0.mk hb
  have HC0 := Aside0.mk hc0
  clear hr0 hb hc0
  go_enter Try.func99, Try.ntmps99
  go_upto_region 3 with (first | ((with_reducible refine gate_dst (N := 2) rfl ?_); refine box_event ?hg (N := 2) ?hd (cs := (([s0, s1, s2, s3, s4, s5, s6, s7] : List Int).map (Value.int .u32)).toArray) (t := 138) ?hr ?_; (case hd => rfl); (case hg => rfl); (case hr => first | kernel_rfl | (go_simp; rfl)); intro g2 hg e1 hbox hb; have HGg2 : Aside0 (w.heap.size ≤ g2) := ⟨by rw [hg]; exact HB.out.size⟩; have Fg2 : Aside0 (WordRow 138 e1 g2 [s0, s1, s2, s3, s4, s5, s6, s7]) := ⟨hbox⟩; replace HB := Aside0.mk (below_step HB.out hb); clear hbox hb hg) | ((with_reducible refine gate_dst (N := 4) rfl ?_); refine box_event ?hg (N := 4) ?hd (cs := (((List.replicate 8 0) : List Int).map (Value.int .u32)).toArray) (t := 138) ?hr ?_; (case hd => rfl); (case hg => rfl); (case hr => first | kernel_rfl | (go_simp; rfl)); intro g4 hg e2 hbox hb; have HGg4 : Aside0 (w.heap.size ≤ g4) := ⟨by rw [hg]; exact HB.out.size⟩; have LT_g2_g4 : Aside0 (g2 < g4) := ⟨by rw [hg]; exact Fg2.out.lt⟩; replace Fg2 := Aside0.mk (Fg2.out.below hb); have Fg4 : Aside0 (WordRow 138 e2 g4 (List.replicate 8 0)) := ⟨hbox⟩; replace HB := Aside0.mk (below_step HB.out hb); clear hbox hb hg) | (go_at_call 101; refine (sha_schedule.gives A0 c0 b HLEN.out _ (Kd.C_below HR0.out HB.out) HC0.out).mono ?_; rintro e e3 ⟨rfl, hb⟩; replace Fg2 := Aside0.mk (Fg2.out.below hb); replace Fg4 := Aside0.mk (Fg4.out.below hb); replace HB := Aside0.mk (below_step HB.out hb); clear hb) | (go_at_call 102; refine (sha_constants.gives _).mono ?_; rintro e e4 ⟨rfl, hb⟩; replace Fg2 := Aside0.mk (Fg2.out.below hb); replace Fg4 := Aside0.mk (Fg4.out.below hb); replace HB := Aside0.mk (below_step HB.out hb); clear hb) | ((with_reducible refine gate_dst (N := 5) rfl ?_); refine box_event ?hg (N := 5) ?hd (cs := (((List.replicate 64 0) : List Int).map (Value.int .u32)).toArray) (t := 143) ?hr ?_; (case hd => rfl); (case hg => rfl); (case hr => first | kernel_rfl | (go_simp; rfl)); intro g5 hg e5 hbox hb; have HGg5 : Aside0 (w.heap.size ≤ g5) := ⟨by rw [hg]; exact HB.out.size⟩; have LT_g2_g5 : Aside0 (g2 < g5) := ⟨by rw [hg]; exact Fg2.out.lt⟩; have LT_g4_g5 : Aside0 (g4 < g5) := ⟨by rw [hg]; exact Fg4.out.lt⟩; replace Fg2 := Aside0.mk (Fg2.out.below hb); replace Fg4 := Aside0.mk (Fg4.out.below hb); have Fg5 : Aside0 (WordRow 143 e5 g5 (List.replicate 64 0)) := ⟨hbox⟩; replace HB := Aside0.mk (below_step HB.out hb); clear hbox hb hg) | ((with_reducible refine gate_dst (N := 6) rfl ?_); refine box_event ?hg (N := 6) ?hd (cs := (((List.replicate 64 0) : List Int).map (Value.int .u32)).toArray) (t := 143) ?hr ?_; (case hd => rfl); (case hg => rfl); (case hr => first | kernel_rfl | (go_simp; rfl)); intro g6 hg e6 hbox hb; have HGg6 : Aside0 (w.heap.size ≤ g6) := ⟨by rw [hg]; exact HB.out.size⟩; have LT_g2_g6 : Aside0 (g2 < g6) := ⟨by rw [hg]; exact Fg2.out.lt⟩; have LT_g4_g6 : Aside0 (g4 < g6) := ⟨by rw [hg]; exact Fg4.out.lt⟩; have LT_g5_g6 : Aside0 (g5 < g6) := ⟨by rw [hg]; exact Fg5.out.lt⟩; replace Fg2 := Aside0.mk (Fg2.out.below hb); replace Fg4 := Aside0.mk (Fg4.out.below hb); replace Fg5 := Aside0.mk (Fg5.out.below hb); have Fg6 : Aside0 (WordRow 143 e6 g6 (List.replicate 64 0)) := ⟨hbox⟩; replace HB := Aside0.mk (below_step HB.out hb); clear hbox hb hg) | ((with_reducible refine gate_store (t := 143) (p := 5) (v := .tmp 17) rfl ?_); refine WordRow.store (B := w.heap.size) (w0 := w) rfl 143 (.tmp 5) (.tmp 17) rfl g5 (schW b 64) _ ?hx ?hy Fg5.out ?hl ?hi HB.out HGg5.out ?_; (case hx => rfl); (case hy => rfl); (case hl => rw [schW_length, List.length_replicate]); (case hi => rw [schW_length]; kernel_rfl); intro e7 hrow hfar hsz hb2; replace Fg2 := Aside0.mk (Fg2.out.same (hfar _ (Nat.ne_of_lt LT_g2_g5.out))); replace Fg4 := Aside0.mk (Fg4.out.same (hfar _ (Nat.ne_of_lt LT_g4_g5.out))); replace Fg6 := Aside0.mk (Fg6.out.same (hfar _ (Nat.ne_of_gt LT_g5_g6.out))); replace Fg5 := Aside0.mk hrow; replace HB := Aside0.mk hb2; clear hrow hfar hsz hb2) | ((with_reducible refine gate_store (t := 143) (p := 6) (v := .tmp 18) rfl ?_); refine WordRow.store (B := w.heap.size) (w0 := w) rfl 143 (.tmp 6) (.tmp 18) rfl g6 shaK _ ?hx ?hy Fg6.out ?hl ?hi HB.out HGg6.out ?_; (case hx => rfl); (case hy => rfl); (case hl => rfl); (case hi => kernel_rfl); intro e8 hrow hfar hsz hb2; replace Fg2 := Aside0.mk (Fg2.out.same (hfar _ (Nat.ne_of_lt LT_g2_g6.out))); replace Fg4 := Aside0.mk (Fg4.out.same (hfar _ (Nat.ne_of_lt LT_g4_g6.out))); replace Fg5 := Aside0.mk (Fg5.out.same (hfar _ (Nat.ne_of_lt LT_g5_g6.out))); replace Fg6 := Aside0.mk hrow; replace HB := Aside0.mk hb2; clear hrow hfar hsz hb2) | ((with_reducible refine gate_dst (N := 19) rfl ?_); refine WordRow.load rfl 138 (.tmp 2) rfl g2 [s0, s1, s2, s3, s4, s5, s6, s7] rfl Fg2.out _ Try.underlying138 rfl ?hi ?_; (case hi => kernel_rfl)) | ((with_reducible refine gate_dst (N := 7) rfl ?_); refine box_event ?hg (N := 7) ?hd (cs := (((List.replicate 8 0) : List Int).map (Value.int .u32)).toArray) (t := 138) ?hr ?_; (case hd => rfl); (case hg => rfl); (case hr => first | kernel_rfl | (go_simp; rfl)); intro g7 hg e9 hbox hb; have HGg7 : Aside0 (w.heap.size ≤ g7) := ⟨by rw [hg]; exact HB.out.size⟩; have LT_g2_g7 : Aside0 (g2 < g7) := ⟨by rw [hg]; exact Fg2.out.lt⟩; have LT_g4_g7 : Aside0 (g4 < g7) := ⟨by rw [hg]; exact Fg4.out.lt⟩; have LT_g5_g7 : Aside0 (g5 < g7) := ⟨by rw [hg]; exact Fg5.out.lt⟩; have LT_g6_g7 : Aside0 (g6 < g7) := ⟨by rw [hg]; exact Fg6.out.lt⟩; replace Fg2 := Aside0.mk (Fg2.out.below hb); replace Fg4 := Aside0.mk (Fg4.out.below hb); replace Fg5 := Aside0.mk (Fg5.out.below hb); replace Fg6 := Aside0.mk (Fg6.out.below hb); have Fg7 : Aside0 (WordRow 138 e9 g7 (List.replicate 8 0)) := ⟨hbox⟩; replace HB := Aside0.mk (below_step HB.out hb); clear hbox hb hg) | ((with_reducible refine gate_store (t := 138) (p := 7) (v := .tmp 19) rfl ?_); refine WordRow.store (B := w.heap.size) (w0 := w) rfl 138 (.tmp 7) (.tmp 19) rfl g7 [s0, s1, s2, s3, s4, s5, s6, s7] _ ?hx ?hy Fg7.out ?hl ?hi HB.out HGg7.out ?_; (case hx => rfl); (case hy => rfl); (case hl => rfl); (case hi => kernel_rfl); intro e10 hrow hfar hsz hb2; replace Fg2 := Aside0.mk (Fg2.out.same (hfar _ (Nat.ne_of_lt LT_g2_g7.out))); replace Fg4 := Aside0.mk (Fg4.out.same (hfar _ (Nat.ne_of_lt LT_g4_g7.out))); replace Fg5 := Aside0.mk (Fg5.out.same (hfar _ (Nat.ne_of_lt LT_g5_g7.out))); replace Fg6 := Aside0.mk (Fg6.out.same (hfar _ (Nat.ne_of_lt LT_g6_g7.out))); replace Fg7 := Aside0.mk hrow; replace HB := Aside0.mk hb2; clear hrow hfar hsz hb2))
  go_wp2_with fail
  go_loopw [20] (fun v20 wr => ∃ (t : Nat) (a b' c d e f g z : Int), t ≤ 64 ∧ v20 = .int .i64 t ∧ Aside0 (rndsW [s0, s1, s2, s3, s4, s5, s6, s7] b t = [a, b', c, d, e, f, g, z]) ∧ Aside0 (WordRow 138 wr g7 [a, b', c, d, e, f, g, z]) ∧ Aside0 (WordRow 138 wr g2 [s0, s1, s2, s3, s4, s5, s6, s7]) ∧ Aside0 (WordRow 138 wr g4 (List.replicate 8 0)) ∧ Aside0 (WordRow 143 wr g5 (schW b 64)) ∧ Aside0 (WordRow 143 wr g6 shaK) ∧ Aside0 (Below w.heap.size w wr)) (fun v20 _ => 64 - (intOf v20).toNat)
  case atStart => exact ⟨0, s0, s1, s2, s3, s4, s5, s6, s7, Nat.zero_le _, rfl, ⟨rfl⟩, Fg7, Fg2, Fg4, Fg5, Fg6, HB⟩
  case round =>
    obtain ⟨t, a, b', c, d, e, f, g, z, ht, rfl, HS, F7, F2, F4, F5, F6, HBT⟩ := hrel
    clear Fg7 Fg2 Fg4 Fg5 Fg6 HB
    by_cases hlt : t < 64
    · have hltz : (t : Int) < 64 := by omega
      have k0 : wr.cell? ⟨g7, 0, none⟩ = some (.int .u32 a) := F7.out.cell 0 (show _ < 8 by decide)
      have k1 : wr.cell? ⟨g7, 1, none⟩ = some (.int .u32 b') := F7.out.cell 1 (show _ < 8 by decide)
      have k2 : wr.cell? ⟨g7, 2, none⟩ = some (.int .u32 c) := F7.out.cell 2 (show _ < 8 by decide)
      have k3 : wr.cell? ⟨g7, 3, none⟩ = some (.int .u32 d) := F7.out.cell 3 (show _ < 8 by decide)
      have k4 : wr.cell? ⟨g7, 4, none⟩ = some (.int .u32 e) := F7.out.cell 4 (show _ < 8 by decide)
      have k5 : wr.cell? ⟨g7, 5, none⟩ = some (.int .u32 f) := F7.out.cell 5 (show _ < 8 by decide)
      have k6 : wr.cell? ⟨g7, 6, none⟩ = some (.int .u32 g) := F7.out.cell 6 (show _ < 8 by decide)
      have k7 : wr.cell? ⟨g7, 7, none⟩ = some (.int .u32 z) := F7.out.cell 7 (show _ < 8 by decide)
      have kk := F6.out.cell t hlt
      have kx := F5.out.cell t (by rw [schW_length]; exact hlt)
      generalize hK : shaK.getD t 0 = K at kk
      generalize hX : (schW b 64).getD t 0 = X at kx
      have HK := Aside0.mk hK
      have HX := Aside0.mk hX
      clear hK hX
      go_wp2_with fail
      go_quiet (fail)
      go_wp2_with fail
      go_quiet ((go_at_call 103; first | exact quiet_drawn (sha_schedule.rot _ _ (by decide) _) | exact quiet_drawn_add (sha_schedule.rot _ _ (by decide) _)))
      go_wp2_with (first | ((with_reducible refine gate_store (t := 138) (p := 7) (v := .tmp 100) rfl ?_); refine WordRow.store (B := w.heap.size) (w0 := w) rfl 138 (.tmp 7) (.tmp 100) rfl g7 (rndW [a, b', c, d, e, f, g, z] K X) _ ?hx ?hy (F7.out.drewN _) ?hl ?hi (pw_below_drewN HBT.out _) HGg7.out ?_; (case hx => rfl); (case hy => rfl); (case hl => rfl); (case hi => kernel_rfl); intro w5 hrow hfar hsz hb2; have R7 := Aside0.mk hrow; have FAR := Aside0.mk hfar; have HB5 := Aside0.mk hb2; clear hrow hfar hsz hb2) | (go_at_call 103; refine (sha_schedule.rot _ _ (by decide) _).mono ?_; rintro e w' ⟨rfl, ⟨q, rfl⟩⟩))
      go_roundw
      case measure => simp [intOf]; omega
      case rel => exact ⟨t + 1, _, _, _, _, _, _, _, _, by omega, by go_num, ⟨by rw [rndsW, HS.out, HK.out, HX.out]; rfl⟩, R7, ⟨(F2.out.drewN _).same (FAR.out _ (Nat.ne_of_lt LT_g2_g7.out))⟩, ⟨(F4.out.drewN _).same (FAR.out _ (Nat.ne_of_lt LT_g4_g7.out))⟩, ⟨(F5.out.drewN _).same (FAR.out _ (Nat.ne_of_lt LT_g5_g7.out))⟩, ⟨(F6.out.drewN _).same (FAR.out _ (Nat.ne_of_lt LT_g6_g7.out))⟩, HB5⟩
    · have : t = 64 := by omega
      subst this
      have HZ : Aside0 (([a, b', c, d, e, f, g, z] : List Int).length = 8) := ⟨rfl⟩
      have H0 : Aside0 (WordRow 138 wr g7 (mixP [s0, s1, s2, s3, s4, s5, s6, s7] [a, b', c, d, e, f, g, z] 0)) := ⟨by rw [mixP_zero]; exact F7.out⟩
      have HS8 : Aside0 (([s0, s1, s2, s3, s4, s5, s6, s7] : List Int).length = 8) := ⟨rfl⟩
      clear F7 F5 F6
      generalize hZZ : [a, b', c, d, e, f, g, z] = Z at *
      clear hZZ
      generalize hSS : ([s0, s1, s2, s3, s4, s5, s6, s7] : List Int) = S at HS F2 H0 HS8
      have HSS := Aside0.mk hSS
      clear hSS
      go_wp2_with fail
      go_loopw [102] (fun v102 w6 => ∃ t : Nat, t ≤ 8 ∧ v102 = .int .i64 t ∧ Aside0 (WordRow 138 w6 g7 (mixP S Z t)) ∧ Aside0 (WordRow 138 w6 g2 S) ∧ Aside0 (WordRow 138 w6 g4 (List.replicate 8 0)) ∧ Aside0 (Below w.heap.size w w6)) (fun v102 _ => 8 - (intOf v102).toNat)
      case atStart => exact ⟨0, Nat.zero_le _, rfl, H0, F2, F4, HBT⟩
      case round =>
        obtain ⟨t, ht2, rfl, H7, F2', F4', HBU⟩ := hrel
        clear H0 F2 F4 HBT
        by_cases hlt2 : t < 8
        · have hltz2 : (t : Int) < 8 := by omega
          have k1 := H7.out.cell t (by rw [mixP_length _ _ HZ.out _ ht2]; exact hlt2)
          rw [mixP_get _ _ _ hlt2] at k1
          have k2 := F2'.out.cell t (by rw [HS8.out]; exact hlt2)
          have kf := H7.out.frozen t
          have hset := H7.out.set t ((Z.getD t 0 + S.getD t 0) % 4294967296)
          rw [mixP_set _ _ HZ.out _ hlt2] at hset
          have HSET := Aside0.mk hset
          clear hset
          generalize Z.getD t 0 = zt at *
          generalize S.getD t 0 = st at *
          go_wp2_with fail
          go_region
          all_goals
            go_wp2
            go_roundw
            case measure => simp [intOf]; omega
            case rel =>
              exact ⟨t + 1, by omega, by go_num, ⟨HSET.out.drew⟩, ⟨(F2'.out.far (p := ⟨g7, t, none⟩) (Nat.ne_of_lt LT_g2_g7.out) _).drew⟩, ⟨(F4'.out.far (p := ⟨g7, t, none⟩) (Nat.ne_of_lt LT_g4_g7.out) _).drew⟩, ⟨below_drew1 (below_set HBU.out HGg7.out)⟩⟩
        · have : t = 8 := by omega
          subst this
          have H8 : Aside0 (WordRow 138 wr g7 (addW S Z)) := ⟨by have h1 := H7.out; rw [mixP_end _ _ HZ.out] at h1; exact h1⟩
          clear H7
          go_wp2_with (first | ((with_reducible refine gate_dst (N := 114) rfl ?_); refine WordRow.load rfl 138 (.tmp 7) rfl g7 (addW S Z) rfl H8.out _ Try.underlying138 rfl ?hi ?_; (case hi => rw [addW_length]; kernel_rfl)) | ((with_reducible refine gate_store (t := 138) (p := 4) (v := .tmp 114) rfl ?_); refine WordRow.store (B := w.heap.size) (w0 := w) rfl 138 (.tmp 4) (.tmp 114) rfl g4 (addW S Z) _ ?hx ?hy F4'.out ?hl ?hi HBU.out HGg4.out ?_; (case hx => rfl); (case hy => rfl); (case hl => rw [addW_length, List.length_replicate]); (case hi => rw [addW_length]; kernel_rfl); intro w9 hrow hfar hsz hb2; have BK9 := Aside0.mk hrow; have HB9 := Aside0.mk hb2; clear hrow hfar hsz hb2))
          have hend : addW S Z = mixW [s0, s1, s2, s3, s4, s5, s6, s7] b := by rw [HSS.out, ← HS.out]; rfl
          rw [← hend]
          refine bodyPost_ret (results_cell_row rfl _ _ g4 138 ((addW S Z).map (Value.int .u32)).toArray (0, 0) _ rfl BK9.out Try.underlying138 rfl ?_) rfl ⟨rfl, HB9.out⟩
          simp only [List.size_toArray, List.length_map, addW_length]
          kernel_rfl
/-! ### sha_Hash_Write: function 96 -/
theorem sha_Hash_Write.mixE (t0 t1 t2 t3 t4 t5 t6 t7 : Int) (A0 : Option Addr) (c0 : Nat) (b : List Int) (hb : b.length = 64) (w : World) (hr : Kd.C (Kd.int .u8) w A0 64 b) (hc : 64 ≤ c0) :
    Calls Try.prog 99 #[.agg #[.int .u32 t0, .int .u32 t1, .int .u32 t2, .int .u32 t3, .int .u32 t4, .int .u32 t5, .int .u32 t6, .int .u32 t7], .slice A0 64 c0] w fun e w' => ∃ m0 m1 m2 m3 m4 m5 m6 m7 : Int, e = .returned (.agg #[.int .u32 m0, .int .u32 m1, .int .u32 m2, .int .u32 m3, .int .u32 m4, .int .u32 m5, .int .u32 m6, .int .u32 m7]) ∧ mixW [t0, t1, t2, t3, t4, t5, t6, t7] b = [m0, m1, m2, m3, m4, m5, m6, m7] ∧ Below w.heap.size w w' := by
  have h := sha_mix.gives t0 t1 t2 t3 t4 t5 t6 t7 A0 c0 b hb w (by rw [hb]; exact hr) (by rw [hb]; exact hc)
  rw [hb] at h
  obtain ⟨m0, m1, m2, m3, m4, m5, m6, m7, hm⟩ := eight (mixW [t0, t1, t2, t3, t4, t5, t6, t7] b) (mixW_length _ _)
  rw [hm] at h
  refine h.mono ?_
  rintro e w' ⟨rfl, hb'⟩
  exact ⟨m0, m1, m2, m3, m4, m5, m6, m7, rfl, hm, hb'⟩
set_option maxRecDepth 100000 in
set_option maxHeartbeats 4000000 in
theorem sha_Hash_Write.gives (B g : Nat) (s0 s1 s2 s3 s4 s5 s6 s7 : Int) (s : ByteArray) (w : World) (hg : w.heap[g]? = some (.cells #[.int .u32 s0, .int .u32 s1, .int .u32 s2, .int .u32 s3, .int .u32 s4, .int .u32 s5, .int .u32 s6, .int .u32 s7, .slice none 0 0, .int .i64 0] 141 (0, 0))) (hs : s.size ≤ 65536) (hB : B ≤ g) :
    Calls Try.prog 96 #[.pointer (some ⟨g, 0, none⟩), .string s] w fun e w' => e = .returned (.int .i64 0) ∧ ∃ (t0 t1 t2 t3 t4 t5 t6 t7 : Int) (p : List Int) (v : Value), w'.heap[g]? = some (.cells #[.int .u32 t0, .int .u32 t1, .int .u32 t2, .int .u32 t3, .int .u32 t4, .int .u32 t5, .int .u32 t6, .int .u32 t7, v, .int .i64 s.size] 141 (0, 0)) ∧ hashGo (s.size + 1) [s0, s1, s2, s3, s4, s5, s6, s7] [] s = ([t0, t1, t2, t3, t4, t5, t6, t7], p) ∧ p.length < 64 ∧ w'.ownsRow B 5 1 v p.length (nums .u8 p) ∧ Below B w w' := by
  have HS := Aside0.mk hs
  have HB := Aside0.mk hB
  have hsz : ¬ (65536 : Int) < (s.size : Int) := by omega
  have c9 : w.cell? ⟨g, 9, none⟩ = some (.int .i64 0) := (blk_cell hg 9).trans rfl
  have f9 : w.frozen? ⟨g, 9, none⟩ = false := blk_frozen hg 9
  have HG := Aside0.mk (blk_put hg 9 (.int .i64 s.size) rfl)
  generalize hF : hashGo (s.size + 1) [s0, s1, s2, s3, s4, s5, s6, s7] [] s = F at *
  have HF := Aside0.mk hF
  have HLT : Aside0 (g < w.heap.size) := ⟨(Array.getElem?_eq_some_iff.1 hg).1⟩
  have HOWN := Aside0.mk (World.ownsRow_nil (w.setCell ⟨g, 9, none⟩ (.int .i64 s.size)) B 5 1)
  have HBEL : Aside0 (Below B w (w.setCell ⟨g, 9, none⟩ (.int .i64 s.size))) := ⟨(Below.refl B w).setCell hB _⟩
  clear hF hs hB hg
  obtain ⟨N, hN⟩ : ∃ N, N = s.size := ⟨_, rfl⟩
  go_enter Try.func96, Try.ntmps96
  go_wp2_with fail
  refine wp_scope_jumps 0 (fun a' w' => ∃ (s : ByteArray) (t0 t1 t2 t3 t4 t5 t6 t7 : Int) (p : List Int) (v : Value) (d : Nat) (u2 u3 u5 u6 u7 u8 u9 u10 u11 u12 u13 u14 u15 u16 u17 u18 u19 u20 u21 u22 u23 u24 u25 u26 u27 u28 u29 u30 u31 u32 u33 u34 u35 u36 u37 u38 u39 u40 u41 u42 u43 u44 u45 u46 u47 u48 u49 u50 u51 u52 u53 u54 u55 u56 u57 u58 u59 u60 u61 u62 u63 u64 u65 u66 u67 u68 u69 u70 u71 u72 u73 u74 u75 : Value), a' = { tmps := #[.pointer (some ⟨g, 0, none⟩), .string s, u2, u3, .int .i64 0, u5, u6, u7, u8, u9, u10, u11, u12, u13, u14, u15, u16, u17, u18, u19, u20, u21, u22, u23, u24, u25, u26, u27, u28, u29, u30, u31, u32, u33, u34, u35, u36, u37, u38, u39, u40, u41, u42, u43, u44, u45, u46, u47, u48, u49, u50, u51, u52, u53, u54, u55, u56, u57, u58, u59, u60, u61, u62, u63, u64, u65, u66, u67, u68, u69, u70, u71, u72, u73, u74, u75], defers := [] } ∧ Aside0 (w'.heap[g]? = some (.cells #[.int .u32 t0, .int .u32 t1, .int .u32 t2, .int .u32 t3, .int .u32 t4, .int .u32 t5, .int .u32 t6, .int .u32 t7, v, .int .i64 (N : Int)] 141 (0, 0))) ∧ Aside0 (hashGo d [t0, t1, t2, t3, t4, t5, t6, t7] p s = F) ∧ Aside0 (p.length < 64) ∧ Aside0 (w'.ownsRow B 5 1 v p.length (nums .u8 p)) ∧ Aside0 (Below B w w') ∧ Aside0 (s.size < d) ∧ Aside0 (s.size ≤ 65536)) (fun a' _ => match a'.tmps.getD 1 undef with | .string s => s.size | _ => 0) rfl ?_ ?_
  · go_wp2_with fail
    generalize w.setCell ⟨g, 9, none⟩ (.int .i64 s.size) = wr at *
    obtain ⟨p, hp⟩ : ∃ p : List Int, p = [] := ⟨_, rfl⟩
    obtain ⟨ao, hao⟩ : ∃ p : Option Addr, p = none := ⟨_, rfl⟩
    obtain ⟨cap, hcap⟩ : ∃ p : Nat, p = 0 := ⟨_, rfl⟩
    have HOWN2 : Aside0 (wr.ownsRow B 5 1 (.slice ao p.length cap) p.length (nums .u8 p)) := ⟨by rw [hp, hao, hcap]; exact HOWN.out⟩
    have HG2 : Aside0 (wr.heap[g]? = some (.cells #[.int .u32 s0, .int .u32 s1, .int .u32 s2, .int .u32 s3, .int .u32 s4, .int .u32 s5, .int .u32 s6, .int .u32 s7, .slice ao p.length cap, .int .i64 (N : Int)] 141 (0, 0))) := ⟨by rw [hp, hao, hcap, hN]; exact HG.out⟩
    have HGO : Aside0 (hashGo (s.size + 1) [s0, s1, s2, s3, s4, s5, s6, s7] p s = F) := ⟨by rw [hp]; exact HF.out⟩
    have HP : Aside0 (p.length < 64) := ⟨by rw [hp]; decide⟩
    have HSD : Aside0 (s.size < s.size + 1) := ⟨Nat.lt_succ_self _⟩
    have HBW : Aside0 (B ≤ wr.heap.size) := ⟨Nat.le_of_lt (Nat.lt_of_le_of_lt HB.out (Array.getElem?_eq_some_iff.1 HG2.out).1)⟩
    have HN : Aside0 (N = s.size) := ⟨hN⟩
    clear hp hao hcap hN HOWN HG HF hsz c9 f9
    have e0 : wr.cell? ⟨g, 0, none⟩ = some (.int .u32 s0) := (blk_cell HG2.out 0).trans rfl
    have e1 : wr.cell? ⟨g, 1, none⟩ = some (.int .u32 s1) := (blk_cell HG2.out 1).trans rfl
    have e2 : wr.cell? ⟨g, 2, none⟩ = some (.int .u32 s2) := (blk_cell HG2.out 2).trans rfl
    have e3 : wr.cell? ⟨g, 3, none⟩ = some (.int .u32 s3) := (blk_cell HG2.out 3).trans rfl
    have e4 : wr.cell? ⟨g, 4, none⟩ = some (.int .u32 s4) := (blk_cell HG2.out 4).trans rfl
    have e5 : wr.cell? ⟨g, 5, none⟩ = some (.int .u32 s5) := (blk_cell HG2.out 5).trans rfl
    have e6 : wr.cell? ⟨g, 6, none⟩ = some (.int .u32 s6) := (blk_cell HG2.out 6).trans rfl
    have e7 : wr.cell? ⟨g, 7, none⟩ = some (.int .u32 s7) := (blk_cell HG2.out 7).trans rfl
    have c8 : wr.cell? ⟨g, 8, none⟩ = some (.slice ao p.length cap) := (blk_cell HG2.out 8).trans rfl
    have f8 := blk_frozen HG2.out 8
    have hp1 : p.length < 64 := HP.out
    have hs1 : s.size ≤ 65536 := HS.out
    by_cases hk : 64 ≤ p.length + s.size
    · have HK := Aside0.mk hk
      have m1 : (64 : Int) - (p.length : Int) ≤ (s.size : Int) := by omega
      have m2 : ¬ ((s.size : Int) < 64 - (p.length : Int)) := by omega
      have m3 : (0 : Int) ≤ 64 - (p.length : Int) := by omega
      have m4 : (p.length : Int) ≤ 64 := by omega
      have LEN : Aside0 ((p ++ bytesOf (s.extract 0 (64 - p.length))).length = 64) := ⟨by rw [List.length_append, bytesOf_length, ByteArray.size_extract]; omega⟩
      obtain ⟨p2, hp2⟩ : ∃ p2, p ++ bytesOf (s.extract 0 (64 - p.length)) = p2 := ⟨_, rfl⟩
      have HP2 := Aside0.mk hp2
      clear hp2
      rw [HP2.out] at LEN
      go_step3
      go_wp2_with fail
      go_region_law (refine step_append_str rfl (.tmp 40) (.tmp 43) 39 9 rfl B 5 Try.underlying39 Try.underlying9 info5 (.slice ao p.length cap) p (s.extract 0 (64 - p.length)) rfl rfl HOWN2.out ?l1 HBW.out ?_; (case l1 => rw [ByteArray.size_extract]; omega); intro v1 w1 ho1 hg1; rw [HP2.out, LEN.out] at ho1; obtain ⟨a1, c1, rfl⟩ := own_is_slice ho1; have HO1 := Aside0.mk ho1; have HGR := Aside0.mk hg1; have HG3 : Aside0 (w1.heap[g]? = some (.cells #[.int .u32 s0, .int .u32 s1, .int .u32 s2, .int .u32 s3, .int .u32 s4, .int .u32 s5, .int .u32 s6, .int .u32 s7, .slice ao p.length cap, .int .i64 (N : Int)] 141 (0, 0))) := ⟨(hg1.block g (Array.getElem?_eq_some_iff.1 HG2.out).1 (own_ne_blk HOWN2.out HG2.out (by decide))).trans HG2.out⟩; have c8b : w1.cell? ⟨g, 8, none⟩ = some (.slice ao p.length cap) := (blk_cell HG3.out 8).trans rfl; have f8b := blk_frozen HG3.out 8; clear ho1 hg1)
      have HG4 := Aside0.mk (blk_put HG3.out 8 (.slice a1 64 c1) rfl)
      have hne4 := own_ne_blk HO1.out HG3.out (by decide)
      have HO4 : Aside0 ((w1.setCell ⟨g, 8, none⟩ (.slice a1 64 c1)).ownsRow B 5 1 (.slice a1 64 c1) 64 (nums .u8 p2)) := ⟨own_move HO1.out fun k hk => Below.heap_setCell _ _ _ _ (fun e => hne4 (by rw [hk, e]))⟩
      have HB4 : Aside0 (Below B w (w1.setCell ⟨g, 8, none⟩ (.slice a1 64 c1))) := ⟨((Below.drew HBEL.out).grown HGR.out HBW.out (fun k hk => own_base HOWN2.out k hk)).setCell HB.out _⟩
      clear e0 e1 e2 e3 e4 e5 e6 e7 c8 f8 c8b f8b HG3 HO1 HGR HOWN2 HG2 hne4 HBEL HBW
      generalize w1.setCell ⟨g, 8, none⟩ (.slice a1 64 c1) = wa at *
      have e0 : wa.cell? ⟨g, 0, none⟩ = some (.int .u32 s0) := (blk_cell HG4.out 0).trans rfl
      have e1 : wa.cell? ⟨g, 1, none⟩ = some (.int .u32 s1) := (blk_cell HG4.out 1).trans rfl
      have e2 : wa.cell? ⟨g, 2, none⟩ = some (.int .u32 s2) := (blk_cell HG4.out 2).trans rfl
      have e3 : wa.cell? ⟨g, 3, none⟩ = some (.int .u32 s3) := (blk_cell HG4.out 3).trans rfl
      have e4 : wa.cell? ⟨g, 4, none⟩ = some (.int .u32 s4) := (blk_cell HG4.out 4).trans rfl
      have e5 : wa.cell? ⟨g, 5, none⟩ = some (.int .u32 s5) := (blk_cell HG4.out 5).trans rfl
      have e6 : wa.cell? ⟨g, 6, none⟩ = some (.int .u32 s6) := (blk_cell HG4.out 6).trans rfl
      have e7 : wa.cell? ⟨g, 7, none⟩ = some (.int .u32 s7) := (blk_cell HG4.out 7).trans rfl
      have c8 : wa.cell? ⟨g, 8, none⟩ = some (.slice a1 64 c1) := (blk_cell HG4.out 8).trans rfl
      have hlt2 : (64 : Int) - (p.length : Int) ≤ (s.size : Int) := by omega
      go_wp2_with fail
      go_region_with (go_at_call 99; refine (sha_Hash_Write.mixE _ _ _ _ _ _ _ _ a1 c1 p2 LEN.out wa.drew (Kd.C_below (Kd.C_of_reads (d := (0 : Int)) (h1 := fun _ => rfl) (own_reads' HO4.out)) (Below.drew (Below.refl _ _))) (own_cap_le HO4.out)).mono ?_; rintro e w3 ⟨m0, m1, m2, m3, m4, m5, m6, m7, rfl, hm, hb3⟩; have HM := Aside0.mk hm; have HG5 := Aside0.mk (blk_below (blk_drew HG4.out) hb3); have HB3 := Aside0.mk hb3; clear hm hb3; have k0 : w3.cell? ⟨g, 0, none⟩ = some (.int .u32 s0) := (blk_cell HG5.out 0).trans rfl; have z0 := blk_frozen HG5.out 0; have k1 : w3.cell? ⟨g, 1, none⟩ = some (.int .u32 s1) := (blk_cell HG5.out 1).trans rfl; have z1 := blk_frozen HG5.out 1; have k2 : w3.cell? ⟨g, 2, none⟩ = some (.int .u32 s2) := (blk_cell HG5.out 2).trans rfl; have z2 := blk_frozen HG5.out 2; have k3 : w3.cell? ⟨g, 3, none⟩ = some (.int .u32 s3) := (blk_cell HG5.out 3).trans rfl; have z3 := blk_frozen HG5.out 3; have k4 : w3.cell? ⟨g, 4, none⟩ = some (.int .u32 s4) := (blk_cell HG5.out 4).trans rfl; have z4 := blk_frozen HG5.out 4; have k5 : w3.cell? ⟨g, 5, none⟩ = some (.int .u32 s5) := (blk_cell HG5.out 5).trans rfl; have z5 := blk_frozen HG5.out 5; have k6 : w3.cell? ⟨g, 6, none⟩ = some (.int .u32 s6) := (blk_cell HG5.out 6).trans rfl; have z6 := blk_frozen HG5.out 6; have k7 : w3.cell? ⟨g, 7, none⟩ = some (.int .u32 s7) := (blk_cell HG5.out 7).trans rfl; have z7 := blk_frozen HG5.out 7)
      all_goals
        have bp0 := blk_put (cs' := #[.int .u32 m0, .int .u32 s1, .int .u32 s2, .int .u32 s3, .int .u32 s4, .int .u32 s5, .int .u32 s6, .int .u32 s7, .slice a1 64 c1, .int .i64 (N : Int)]) HG5.out 0 (.int .u32 m0) rfl
        have bp1 := blk_put (cs' := #[.int .u32 m0, .int .u32 m1, .int .u32 s2, .int .u32 s3, .int .u32 s4, .int .u32 s5, .int .u32 s6, .int .u32 s7, .slice a1 64 c1, .int .i64 (N : Int)]) bp0 1 (.int .u32 m1) rfl
        have bp2 := blk_put (cs' := #[.int .u32 m0, .int .u32 m1, .int .u32 m2, .int .u32 s3, .int .u32 s4, .int .u32 s5, .int .u32 s6, .int .u32 s7, .slice a1 64 c1, .int .i64 (N : Int)]) bp1 2 (.int .u32 m2) rfl
        have bp3 := blk_put (cs' := #[.int .u32 m0, .int .u32 m1, .int .u32 m2, .int .u32 m3, .int .u32 s4, .int .u32 s5, .int .u32 s6, .int .u32 s7, .slice a1 64 c1, .int .i64 (N : Int)]) bp2 3 (.int .u32 m3) rfl
        have bp4 := blk_put (cs' := #[.int .u32 m0, .int .u32 m1, .int .u32 m2, .int .u32 m3, .int .u32 m4, .int .u32 s5, .int .u32 s6, .int .u32 s7, .slice a1 64 c1, .int .i64 (N : Int)]) bp3 4 (.int .u32 m4) rfl
        have bp5 := blk_put (cs' := #[.int .u32 m0, .int .u32 m1, .int .u32 m2, .int .u32 m3, .int .u32 m4, .int .u32 m5, .int .u32 s6, .int .u32 s7, .slice a1 64 c1, .int .i64 (N : Int)]) bp4 5 (.int .u32 m5) rfl
        have bp6 := blk_put (cs' := #[.int .u32 m0, .int .u32 m1, .int .u32 m2, .int .u32 m3, .int .u32 m4, .int .u32 m5, .int .u32 m6, .int .u32 s7, .slice a1 64 c1, .int .i64 (N : Int)]) bp5 6 (.int .u32 m6) rfl
        have bp7 := blk_put (cs' := #[.int .u32 m0, .int .u32 m1, .int .u32 m2, .int .u32 m3, .int .u32 m4, .int .u32 m5, .int .u32 m6, .int .u32 m7, .slice a1 64 c1, .int .i64 (N : Int)]) bp6 7 (.int .u32 m7) rfl
        have HG6 := Aside0.mk bp7
        clear bp0 bp1 bp2 bp3 bp4 bp5 bp6 bp7
        have hne5 := own_ne_blk HO4.out HG4.out (by decide)
        have HBWA : Aside0 (B ≤ wa.heap.size) := ⟨Nat.le_of_lt (Nat.lt_of_le_of_lt HB.out (Array.getElem?_eq_some_iff.1 HG4.out).1)⟩
        have HO6 : Aside0 (((((((((w3.setCell ⟨g, 0, none⟩ (.int .u32 m0)).setCell ⟨g, 1, none⟩ (.int .u32 m1)).setCell ⟨g, 2, none⟩ (.int .u32 m2)).setCell ⟨g, 3, none⟩ (.int .u32 m3)).setCell ⟨g, 4, none⟩ (.int .u32 m4)).setCell ⟨g, 5, none⟩ (.int .u32 m5)).setCell ⟨g, 6, none⟩ (.int .u32 m6)).setCell ⟨g, 7, none⟩ (.int .u32 m7)).ownsRow B 5 1 (.slice a1 64 c1) 64 (nums .u8 p2)) := ⟨own_move HO4.out fun k hk => (have hkg : k ≠ g := fun e => hne5 (by rw [hk, e]); ((Below.heap_setCell _ _ _ _ hkg).trans ((Below.heap_setCell _ _ _ _ hkg).trans ((Below.heap_setCell _ _ _ _ hkg).trans ((Below.heap_setCell _ _ _ _ hkg).trans ((Below.heap_setCell _ _ _ _ hkg).trans ((Below.heap_setCell _ _ _ _ hkg).trans ((Below.heap_setCell _ _ _ _ hkg).trans ((Below.heap_setCell _ _ _ _ hkg).trans (HB3.out.block k (own_lt HO4.out k hk)))))))))))⟩
        have HB6 : Aside0 (Below B w ((((((((w3.setCell ⟨g, 0, none⟩ (.int .u32 m0)).setCell ⟨g, 1, none⟩ (.int .u32 m1)).setCell ⟨g, 2, none⟩ (.int .u32 m2)).setCell ⟨g, 3, none⟩ (.int .u32 m3)).setCell ⟨g, 4, none⟩ (.int .u32 m4)).setCell ⟨g, 5, none⟩ (.int .u32 m5)).setCell ⟨g, 6, none⟩ (.int .u32 m6)).setCell ⟨g, 7, none⟩ (.int .u32 m7))) := ⟨((((((((((Below.drew HB4.out).trans (HB3.out.mono HBWA.out)).setCell HB.out _).setCell HB.out _).setCell HB.out _).setCell HB.out _).setCell HB.out _).setCell HB.out _).setCell HB.out _).setCell HB.out _)⟩
        clear k0 z0 k1 z1 k2 z2 k3 z3 k4 z4 k5 z5 k6 z6 k7 z7 HG5 HG4 HO4 HB4 HB3 hne5 HBWA e0 e1 e2 e3 e4 e5 e6 e7
        clear c8
        generalize ((((((((w3.setCell ⟨g, 0, none⟩ (.int .u32 m0)).setCell ⟨g, 1, none⟩ (.int .u32 m1)).setCell ⟨g, 2, none⟩ (.int .u32 m2)).setCell ⟨g, 3, none⟩ (.int .u32 m3)).setCell ⟨g, 4, none⟩ (.int .u32 m4)).setCell ⟨g, 5, none⟩ (.int .u32 m5)).setCell ⟨g, 6, none⟩ (.int .u32 m6)).setCell ⟨g, 7, none⟩ (.int .u32 m7)) = wb at HG6 HO6 HB6 ⊢
        obtain ⟨g', rfl⟩ := own_some HO6.out (by decide)
        have c8 : wb.cell? ⟨g, 8, none⟩ = some (.slice (some ⟨g', 0, none⟩) 64 c1) := (blk_cell HG6.out 8).trans rfl
        have f8 := blk_frozen HG6.out 8
        go_wp2_with fail
        have HG7 := Aside0.mk (blk_put (cs' := #[.int .u32 m0, .int .u32 m1, .int .u32 m2, .int .u32 m3, .int .u32 m4, .int .u32 m5, .int .u32 m6, .int .u32 m7, .slice (some ⟨g', 0, none⟩) 0 c1, .int .i64 (N : Int)]) HG6.out 8 (.slice (some ⟨g', 0, none⟩) 0 c1) rfl)
        have hne6 := own_ne_blk HO6.out HG6.out (by decide)
        have HO7 : Aside0 ((wb.setCell ⟨g, 8, none⟩ (.slice (some ⟨g', 0, none⟩) 0 c1)).ownsRow B 5 1 (.slice (some ⟨g', 0, none⟩) 0 c1) ([] : List Int).length (nums .u8 [])) := ⟨own_move (own_zero HO6.out) fun k hk' => Below.heap_setCell _ _ _ _ (fun e => hne6 (by have e2 : k = g := e; rw [← e2]; exact hk'.symm))⟩
        have HB7 : Aside0 (Below B w (wb.setCell ⟨g, 8, none⟩ (.slice (some ⟨g', 0, none⟩) 0 c1))) := ⟨HB6.out.setCell HB.out _⟩
        have HGO2 : Aside0 (hashGo s.size [m0, m1, m2, m3, m4, m5, m6, m7] [] (s.extract (64 - p.length) s.size) = F) := ⟨by rw [← HGO.out, hashGo, if_pos HK.out, HP2.out, HM.out]⟩
        have HSD2 : Aside0 ((s.extract (64 - p.length) s.size).size < s.size) := ⟨by have := HK.out; have := HP.out; have := HSD.out; rw [ByteArray.size_extract]; omega⟩
        have HS2 : Aside0 ((s.extract (64 - p.length) s.size).size ≤ 65536) := ⟨by have := HS.out; rw [ByteArray.size_extract]; omega⟩
        go_step3
        exact ⟨rfl, ⟨s.extract (64 - p.length) s.size, m0, m1, m2, m3, m4, m5, m6, m7, [], _, s.size, _, _, _, _, _, _, _, _, _, _, _, _, _, _, _, _, _, _, _, _, _, _, _, _, _, _, _, _, _, _, _, _, _, _, _, _, _, _, _, _, _, _, _, _, _, _, _, _, _, _, _, _, _, _, _, _, _, _, _, _, _, _, _, _, _, _, _, _, _, _, _, _, _, rfl, HG7, HGO2, ⟨by decide⟩, HO7, HB7, HSD2, HS2⟩⟩
    · have HK := Aside0.mk hk
      have b1 : ¬ ((64 : Int) - (p.length : Int) ≤ (s.size : Int)) := by omega
      have b2 : (s.size : Int) < 64 - (p.length : Int) := by omega
      have b3 : (s.size : Int) ≤ 64 - (p.length : Int) := by omega
      obtain ⟨n2, hn2⟩ : ∃ n2, (p ++ bytesOf s).length = n2 := ⟨_, rfl⟩
      have HN2 : Aside0 (n2 < 64) := ⟨by rw [← hn2, List.length_append, bytesOf_length]; omega⟩
      have LEN := Aside0.mk hn2
      clear hn2
      have b4 : ((n2 : Int) == 64) = false := beq_eq_false_iff_ne.mpr (by have := HN2.out; omega)
      go_step3
      go_wp2_with fail
      go_region_law (refine step_append_str rfl (.tmp 40) (.tmp 43) 39 9 rfl B 5 Try.underlying39 Try.underlying9 info5 (.slice ao p.length cap) p s rfl rfl HOWN2.out ?l1 HBW.out ?_; (case l1 => omega); intro v1 w1 ho1 hg1; rw [LEN.out] at ho1; obtain ⟨a1, c1, rfl⟩ := own_is_slice ho1; have HO1 := Aside0.mk ho1; have HGR := Aside0.mk hg1; have HG3 : Aside0 (w1.heap[g]? = some (.cells #[.int .u32 s0, .int .u32 s1, .int .u32 s2, .int .u32 s3, .int .u32 s4, .int .u32 s5, .int .u32 s6, .int .u32 s7, .slice ao p.length cap, .int .i64 (N : Int)] 141 (0, 0))) := ⟨(hg1.block g (Array.getElem?_eq_some_iff.1 HG2.out).1 (own_ne_blk HOWN2.out HG2.out (by decide))).trans HG2.out⟩; have c8b : w1.cell? ⟨g, 8, none⟩ = some (.slice ao p.length cap) := (blk_cell HG3.out 8).trans rfl; have f8b := blk_frozen HG3.out 8; clear ho1 hg1)
      have HG4 := Aside0.mk (blk_put (cs' := #[.int .u32 s0, .int .u32 s1, .int .u32 s2, .int .u32 s3, .int .u32 s4, .int .u32 s5, .int .u32 s6, .int .u32 s7, .slice a1 n2 c1, .int .i64 (N : Int)]) HG3.out 8 (.slice a1 n2 c1) rfl)
      have hne4 := own_ne_blk HO1.out HG3.out (by decide)
      have HO4 : Aside0 ((w1.setCell ⟨g, 8, none⟩ (.slice a1 n2 c1)).ownsRow B 5 1 (.slice a1 n2 c1) n2 (nums .u8 (p ++ bytesOf s))) := ⟨own_move HO1.out fun k hk => Below.heap_setCell _ _ _ _ (fun e => hne4 (by rw [hk, e]))⟩
      have HB4 : Aside0 (Below B w (w1.setCell ⟨g, 8, none⟩ (.slice a1 n2 c1))) := ⟨((Below.drew HBEL.out).grown HGR.out HBW.out (fun k hk => own_base HOWN2.out k hk)).setCell HB.out _⟩
      clear e0 e1 e2 e3 e4 e5 e6 e7 c8 f8 c8b f8b HG3 HO1 HGR HOWN2 HG2 hne4 HBEL HBW
      generalize w1.setCell ⟨g, 8, none⟩ (.slice a1 n2 c1) = wa at *
      have c8 : wa.cell? ⟨g, 8, none⟩ = some (.slice a1 n2 c1) := (blk_cell HG4.out 8).trans rfl
      have b5 : (s.size : Int) ≤ (s.size : Int) := Int.le_refl _
      go_wp2_with fail
      (try simp only [Exit.jump])
      (try rw [Exit.noGoto_ret])
      go_ret
      refine ⟨rfl, s0, s1, s2, s3, s4, s5, s6, s7, p ++ bytesOf s, .slice a1 n2 c1, ?_, ?_, ?_, ?_, HB4.out⟩
      · rw [← HN.out]; exact HG4.out
      · rw [← HGO.out, hashGo, if_neg HK.out]
      · have h1 := LEN.out; have h2 := HN2.out; omega
      · have h1 := HO4.out; have h2 := LEN.out; rw [h2]; exact h1
  · have HN : Aside0 (N = s.size) := ⟨hN⟩
    clear hN HOWN HBEL HG HF HS hsz c9 f9
    rintro a0 wr ⟨s, t0, t1, t2, t3, t4, t5, t6, t7, p, v, d, u2, u3, u5, u6, u7, u8, u9, u10, u11, u12, u13, u14, u15, u16, u17, u18, u19, u20, u21, u22, u23, u24, u25, u26, u27, u28, u29, u30, u31, u32, u33, u34, u35, u36, u37, u38, u39, u40, u41, u42, u43, u44, u45, u46, u47, u48, u49, u50, u51, u52, u53, u54, u55, u56, u57, u58, u59, u60, u61, u62, u63, u64, u65, u66, u67, u68, u69, u70, u71, u72, u73, u74, u75, rfl, HG2, HGO, HP, HOWN2, HBEL, HSD, HS⟩
    obtain ⟨ao, cap, rfl⟩ := own_is_slice HOWN2.out
    have HBW : Aside0 (B ≤ wr.heap.size) := ⟨Nat.le_of_lt (Nat.lt_of_le_of_lt HB.out (Array.getElem?_eq_some_iff.1 HG2.out).1)⟩
    have e0 : wr.cell? ⟨g, 0, none⟩ = some (.int .u32 t0) := (blk_cell HG2.out 0).trans rfl
    have e1 : wr.cell? ⟨g, 1, none⟩ = some (.int .u32 t1) := (blk_cell HG2.out 1).trans rfl
    have e2 : wr.cell? ⟨g, 2, none⟩ = some (.int .u32 t2) := (blk_cell HG2.out 2).trans rfl
    have e3 : wr.cell? ⟨g, 3, none⟩ = some (.int .u32 t3) := (blk_cell HG2.out 3).trans rfl
    have e4 : wr.cell? ⟨g, 4, none⟩ = some (.int .u32 t4) := (blk_cell HG2.out 4).trans rfl
    have e5 : wr.cell? ⟨g, 5, none⟩ = some (.int .u32 t5) := (blk_cell HG2.out 5).trans rfl
    have e6 : wr.cell? ⟨g, 6, none⟩ = some (.int .u32 t6) := (blk_cell HG2.out 6).trans rfl
    have e7 : wr.cell? ⟨g, 7, none⟩ = some (.int .u32 t7) := (blk_cell HG2.out 7).trans rfl
    have c8 : wr.cell? ⟨g, 8, none⟩ = some (.slice ao p.length cap) := (blk_cell HG2.out 8).trans rfl
    have f8 := blk_frozen HG2.out 8
    have hp1 : p.length < 64 := HP.out
    have hs1 : s.size ≤ 65536 := HS.out
    obtain ⟨d, rfl⟩ : ∃ d', d = d' + 1 := ⟨d - 1, by have := HSD.out; omega⟩
    by_cases hk : 64 ≤ p.length + s.size
    · have HK := Aside0.mk hk
      have m1 : (64 : Int) - (p.length : Int) ≤ (s.size : Int) := by omega
      have m2 : ¬ ((s.size : Int) < 64 - (p.length : Int)) := by omega
      have m3 : (0 : Int) ≤ 64 - (p.length : Int) := by omega
      have m4 : (p.length : Int) ≤ 64 := by omega
      have LEN : Aside0 ((p ++ bytesOf (s.extract 0 (64 - p.length))).length = 64) := ⟨by rw [List.length_append, bytesOf_length, ByteArray.size_extract]; omega⟩
      obtain ⟨p2, hp2⟩ : ∃ p2, p ++ bytesOf (s.extract 0 (64 - p.length)) = p2 := ⟨_, rfl⟩
      have HP2 := Aside0.mk hp2
      clear hp2
      rw [HP2.out] at LEN
      go_wp2_with fail
      go_region_law (refine step_append_str rfl (.tmp 40) (.tmp 43) 39 9 rfl B 5 Try.underlying39 Try.underlying9 info5 (.slice ao p.length cap) p (s.extract 0 (64 - p.length)) rfl rfl HOWN2.out ?l1 HBW.out ?_; (case l1 => rw [ByteArray.size_extract]; omega); intro v1 w1 ho1 hg1; rw [HP2.out, LEN.out] at ho1; obtain ⟨a1, c1, rfl⟩ := own_is_slice ho1; have HO1 := Aside0.mk ho1; have HGR := Aside0.mk hg1; have HG3 : Aside0 (w1.heap[g]? = some (.cells #[.int .u32 t0, .int .u32 t1, .int .u32 t2, .int .u32 t3, .int .u32 t4, .int .u32 t5, .int .u32 t6, .int .u32 t7, .slice ao p.length cap, .int .i64 (N : Int)] 141 (0, 0))) := ⟨(hg1.block g (Array.getElem?_eq_some_iff.1 HG2.out).1 (own_ne_blk HOWN2.out HG2.out (by decide))).trans HG2.out⟩; have c8b : w1.cell? ⟨g, 8, none⟩ = some (.slice ao p.length cap) := (blk_cell HG3.out 8).trans rfl; have f8b := blk_frozen HG3.out 8; clear ho1 hg1)
      have HG4 := Aside0.mk (blk_put HG3.out 8 (.slice a1 64 c1) rfl)
      have hne4 := own_ne_blk HO1.out HG3.out (by decide)
      have HO4 : Aside0 ((w1.setCell ⟨g, 8, none⟩ (.slice a1 64 c1)).ownsRow B 5 1 (.slice a1 64 c1) 64 (nums .u8 p2)) := ⟨own_move HO1.out fun k hk => Below.heap_setCell _ _ _ _ (fun e => hne4 (by rw [hk, e]))⟩
      have HB4 : Aside0 (Below B w (w1.setCell ⟨g, 8, none⟩ (.slice a1 64 c1))) := ⟨((Below.drew HBEL.out).grown HGR.out HBW.out (fun k hk => own_base HOWN2.out k hk)).setCell HB.out _⟩
      clear e0 e1 e2 e3 e4 e5 e6 e7 c8 f8 c8b f8b HG3 HO1 HGR HOWN2 HG2 hne4 HBEL HBW
      generalize w1.setCell ⟨g, 8, none⟩ (.slice a1 64 c1) = wa at *
      have e0 : wa.cell? ⟨g, 0, none⟩ = some (.int .u32 t0) := (blk_cell HG4.out 0).trans rfl
      have e1 : wa.cell? ⟨g, 1, none⟩ = some (.int .u32 t1) := (blk_cell HG4.out 1).trans rfl
      have e2 : wa.cell? ⟨g, 2, none⟩ = some (.int .u32 t2) := (blk_cell HG4.out 2).trans rfl
      have e3 : wa.cell? ⟨g, 3, none⟩ = some (.int .u32 t3) := (blk_cell HG4.out 3).trans rfl
      have e4 : wa.cell? ⟨g, 4, none⟩ = some (.int .u32 t4) := (blk_cell HG4.out 4).trans rfl
      have e5 : wa.cell? ⟨g, 5, none⟩ = some (.int .u32 t5) := (blk_cell HG4.out 5).trans rfl
      have e6 : wa.cell? ⟨g, 6, none⟩ = some (.int .u32 t6) := (blk_cell HG4.out 6).trans rfl
      have e7 : wa.cell? ⟨g, 7, none⟩ = some (.int .u32 t7) := (blk_cell HG4.out 7).trans rfl
      have c8 : wa.cell? ⟨g, 8, none⟩ = some (.slice a1 64 c1) := (blk_cell HG4.out 8).trans rfl
      have hlt2 : (64 : Int) - (p.length : Int) ≤ (s.size : Int) := by omega
      go_wp2_with fail
      go_region_with (go_at_call 99; refine (sha_Hash_Write.mixE _ _ _ _ _ _ _ _ a1 c1 p2 LEN.out wa.drew (Kd.C_below (Kd.C_of_reads (d := (0 : Int)) (h1 := fun _ => rfl) (own_reads' HO4.out)) (Below.drew (Below.refl _ _))) (own_cap_le HO4.out)).mono ?_; rintro e w3 ⟨m0, m1, m2, m3, m4, m5, m6, m7, rfl, hm, hb3⟩; have HM := Aside0.mk hm; have HG5 := Aside0.mk (blk_below (blk_drew HG4.out) hb3); have HB3 := Aside0.mk hb3; clear hm hb3; have k0 : w3.cell? ⟨g, 0, none⟩ = some (.int .u32 t0) := (blk_cell HG5.out 0).trans rfl; have z0 := blk_frozen HG5.out 0; have k1 : w3.cell? ⟨g, 1, none⟩ = some (.int .u32 t1) := (blk_cell HG5.out 1).trans rfl; have z1 := blk_frozen HG5.out 1; have k2 : w3.cell? ⟨g, 2, none⟩ = some (.int .u32 t2) := (blk_cell HG5.out 2).trans rfl; have z2 := blk_frozen HG5.out 2; have k3 : w3.cell? ⟨g, 3, none⟩ = some (.int .u32 t3) := (blk_cell HG5.out 3).trans rfl; have z3 := blk_frozen HG5.out 3; have k4 : w3.cell? ⟨g, 4, none⟩ = some (.int .u32 t4) := (blk_cell HG5.out 4).trans rfl; have z4 := blk_frozen HG5.out 4; have k5 : w3.cell? ⟨g, 5, none⟩ = some (.int .u32 t5) := (blk_cell HG5.out 5).trans rfl; have z5 := blk_frozen HG5.out 5; have k6 : w3.cell? ⟨g, 6, none⟩ = some (.int .u32 t6) := (blk_cell HG5.out 6).trans rfl; have z6 := blk_frozen HG5.out 6; have k7 : w3.cell? ⟨g, 7, none⟩ = some (.int .u32 t7) := (blk_cell HG5.out 7).trans rfl; have z7 := blk_frozen HG5.out 7)
      all_goals
        have bp0 := blk_put (cs' := #[.int .u32 m0, .int .u32 t1, .int .u32 t2, .int .u32 t3, .int .u32 t4, .int .u32 t5, .int .u32 t6, .int .u32 t7, .slice a1 64 c1, .int .i64 (N : Int)]) HG5.out 0 (.int .u32 m0) rfl
        have bp1 := blk_put (cs' := #[.int .u32 m0, .int .u32 m1, .int .u32 t2, .int .u32 t3, .int .u32 t4, .int .u32 t5, .int .u32 t6, .int .u32 t7, .slice a1 64 c1, .int .i64 (N : Int)]) bp0 1 (.int .u32 m1) rfl
        have bp2 := blk_put (cs' := #[.int .u32 m0, .int .u32 m1, .int .u32 m2, .int .u32 t3, .int .u32 t4, .int .u32 t5, .int .u32 t6, .int .u32 t7, .slice a1 64 c1, .int .i64 (N : Int)]) bp1 2 (.int .u32 m2) rfl
        have bp3 := blk_put (cs' := #[.int .u32 m0, .int .u32 m1, .int .u32 m2, .int .u32 m3, .int .u32 t4, .int .u32 t5, .int .u32 t6, .int .u32 t7, .slice a1 64 c1, .int .i64 (N : Int)]) bp2 3 (.int .u32 m3) rfl
        have bp4 := blk_put (cs' := #[.int .u32 m0, .int .u32 m1, .int .u32 m2, .int .u32 m3, .int .u32 m4, .int .u32 t5, .int .u32 t6, .int .u32 t7, .slice a1 64 c1, .int .i64 (N : Int)]) bp3 4 (.int .u32 m4) rfl
        have bp5 := blk_put (cs' := #[.int .u32 m0, .int .u32 m1, .int .u32 m2, .int .u32 m3, .int .u32 m4, .int .u32 m5, .int .u32 t6, .int .u32 t7, .slice a1 64 c1, .int .i64 (N : Int)]) bp4 5 (.int .u32 m5) rfl
        have bp6 := blk_put (cs' := #[.int .u32 m0, .int .u32 m1, .int .u32 m2, .int .u32 m3, .int .u32 m4, .int .u32 m5, .int .u32 m6, .int .u32 t7, .slice a1 64 c1, .int .i64 (N : Int)]) bp5 6 (.int .u32 m6) rfl
        have bp7 := blk_put (cs' := #[.int .u32 m0, .int .u32 m1, .int .u32 m2, .int .u32 m3, .int .u32 m4, .int .u32 m5, .int .u32 m6, .int .u32 m7, .slice a1 64 c1, .int .i64 (N : Int)]) bp6 7 (.int .u32 m7) rfl
        have HG6 := Aside0.mk bp7
        clear bp0 bp1 bp2 bp3 bp4 bp5 bp6 bp7
        have hne5 := own_ne_blk HO4.out HG4.out (by decide)
        have HBWA : Aside0 (B ≤ wa.heap.size) := ⟨Nat.le_of_lt (Nat.lt_of_le_of_lt HB.out (Array.getElem?_eq_some_iff.1 HG4.out).1)⟩
        have HO6 : Aside0 (((((((((w3.setCell ⟨g, 0, none⟩ (.int .u32 m0)).setCell ⟨g, 1, none⟩ (.int .u32 m1)).setCell ⟨g, 2, none⟩ (.int .u32 m2)).setCell ⟨g, 3, none⟩ (.int .u32 m3)).setCell ⟨g, 4, none⟩ (.int .u32 m4)).setCell ⟨g, 5, none⟩ (.int .u32 m5)).setCell ⟨g, 6, none⟩ (.int .u32 m6)).setCell ⟨g, 7, none⟩ (.int .u32 m7)).ownsRow B 5 1 (.slice a1 64 c1) 64 (nums .u8 p2)) := ⟨own_move HO4.out fun k hk => (have hkg : k ≠ g := fun e => hne5 (by rw [hk, e]); ((Below.heap_setCell _ _ _ _ hkg).trans ((Below.heap_setCell _ _ _ _ hkg).trans ((Below.heap_setCell _ _ _ _ hkg).trans ((Below.heap_setCell _ _ _ _ hkg).trans ((Below.heap_setCell _ _ _ _ hkg).trans ((Below.heap_setCell _ _ _ _ hkg).trans ((Below.heap_setCell _ _ _ _ hkg).trans ((Below.heap_setCell _ _ _ _ hkg).trans (HB3.out.block k (own_lt HO4.out k hk)))))))))))⟩
        have HB6 : Aside0 (Below B w ((((((((w3.setCell ⟨g, 0, none⟩ (.int .u32 m0)).setCell ⟨g, 1, none⟩ (.int .u32 m1)).setCell ⟨g, 2, none⟩ (.int .u32 m2)).setCell ⟨g, 3, none⟩ (.int .u32 m3)).setCell ⟨g, 4, none⟩ (.int .u32 m4)).setCell ⟨g, 5, none⟩ (.int .u32 m5)).setCell ⟨g, 6, none⟩ (.int .u32 m6)).setCell ⟨g, 7, none⟩ (.int .u32 m7))) := ⟨((((((((((Below.drew HB4.out).trans (HB3.out.mono HBWA.out)).setCell HB.out _).setCell HB.out _).setCell HB.out _).setCell HB.out _).setCell HB.out _).setCell HB.out _).setCell HB.out _).setCell HB.out _)⟩
        clear k0 z0 k1 z1 k2 z2 k3 z3 k4 z4 k5 z5 k6 z6 k7 z7 HG5 HG4 HO4 HB4 HB3 hne5 HBWA e0 e1 e2 e3 e4 e5 e6 e7
        clear c8
        generalize ((((((((w3.setCell ⟨g, 0, none⟩ (.int .u32 m0)).setCell ⟨g, 1, none⟩ (.int .u32 m1)).setCell ⟨g, 2, none⟩ (.int .u32 m2)).setCell ⟨g, 3, none⟩ (.int .u32 m3)).setCell ⟨g, 4, none⟩ (.int .u32 m4)).setCell ⟨g, 5, none⟩ (.int .u32 m5)).setCell ⟨g, 6, none⟩ (.int .u32 m6)).setCell ⟨g, 7, none⟩ (.int .u32 m7)) = wb at HG6 HO6 HB6 ⊢
        obtain ⟨g', rfl⟩ := own_some HO6.out (by decide)
        have c8 : wb.cell? ⟨g, 8, none⟩ = some (.slice (some ⟨g', 0, none⟩) 64 c1) := (blk_cell HG6.out 8).trans rfl
        have f8 := blk_frozen HG6.out 8
        go_wp2_with fail
        have HG7 := Aside0.mk (blk_put (cs' := #[.int .u32 m0, .int .u32 m1, .int .u32 m2, .int .u32 m3, .int .u32 m4, .int .u32 m5, .int .u32 m6, .int .u32 m7, .slice (some ⟨g', 0, none⟩) 0 c1, .int .i64 (N : Int)]) HG6.out 8 (.slice (some ⟨g', 0, none⟩) 0 c1) rfl)
        have hne6 := own_ne_blk HO6.out HG6.out (by decide)
        have HO7 : Aside0 ((wb.setCell ⟨g, 8, none⟩ (.slice (some ⟨g', 0, none⟩) 0 c1)).ownsRow B 5 1 (.slice (some ⟨g', 0, none⟩) 0 c1) ([] : List Int).length (nums .u8 [])) := ⟨own_move (own_zero HO6.out) fun k hk' => Below.heap_setCell _ _ _ _ (fun e => hne6 (by have e2 : k = g := e; rw [← e2]; exact hk'.symm))⟩
        have HB7 : Aside0 (Below B w (wb.setCell ⟨g, 8, none⟩ (.slice (some ⟨g', 0, none⟩) 0 c1))) := ⟨HB6.out.setCell HB.out _⟩
        have HGO2 : Aside0 (hashGo d [m0, m1, m2, m3, m4, m5, m6, m7] [] (s.extract (64 - p.length) s.size) = F) := ⟨by rw [← HGO.out, hashGo, if_pos HK.out, HP2.out, HM.out]⟩
        have HSD2 : Aside0 ((s.extract (64 - p.length) s.size).size < d) := ⟨by have := HK.out; have := HP.out; have := HSD.out; rw [ByteArray.size_extract]; omega⟩
        have HS2 : Aside0 ((s.extract (64 - p.length) s.size).size ≤ 65536) := ⟨by have := HS.out; rw [ByteArray.size_extract]; omega⟩
        go_step3
        refine ⟨rfl, ⟨s.extract (64 - p.length) s.size, m0, m1, m2, m3, m4, m5, m6, m7, [], _, d, _, _, _, _, _, _, _, _, _, _, _, _, _, _, _, _, _, _, _, _, _, _, _, _, _, _, _, _, _, _, _, _, _, _, _, _, _, _, _, _, _, _, _, _, _, _, _, _, _, _, _, _, _, _, _, _, _, _, _, _, _, _, _, _, _, _, _, _, _, _, _, _, _, rfl, HG7, HGO2, ⟨by decide⟩, HO7, HB7, HSD2, HS2⟩, ?_⟩
        show (s.extract (64 - p.length) s.size).size < s.size
        have := HK.out
        have := HP.out
        rw [ByteArray.size_extract]
        omega
    · have HK := Aside0.mk hk
      have b1 : ¬ ((64 : Int) - (p.length : Int) ≤ (s.size : Int)) := by omega
      have b2 : (s.size : Int) < 64 - (p.length : Int) := by omega
      have b3 : (s.size : Int) ≤ 64 - (p.length : Int) := by omega
      obtain ⟨n2, hn2⟩ : ∃ n2, (p ++ bytesOf s).length = n2 := ⟨_, rfl⟩
      have HN2 : Aside0 (n2 < 64) := ⟨by rw [← hn2, List.length_append, bytesOf_length]; omega⟩
      have LEN := Aside0.mk hn2
      clear hn2
      have b4 : ((n2 : Int) == 64) = false := beq_eq_false_iff_ne.mpr (by have := HN2.out; omega)
      go_wp2_with fail
      go_region_law (refine step_append_str rfl (.tmp 40) (.tmp 43) 39 9 rfl B 5 Try.underlying39 Try.underlying9 info5 (.slice ao p.length cap) p s rfl rfl HOWN2.out ?l1 HBW.out ?_; (case l1 => omega); intro v1 w1 ho1 hg1; rw [LEN.out] at ho1; obtain ⟨a1, c1, rfl⟩ := own_is_slice ho1; have HO1 := Aside0.mk ho1; have HGR := Aside0.mk hg1; have HG3 : Aside0 (w1.heap[g]? = some (.cells #[.int .u32 t0, .int .u32 t1, .int .u32 t2, .int .u32 t3, .int .u32 t4, .int .u32 t5, .int .u32 t6, .int .u32 t7, .slice ao p.length cap, .int .i64 (N : Int)] 141 (0, 0))) := ⟨(hg1.block g (Array.getElem?_eq_some_iff.1 HG2.out).1 (own_ne_blk HOWN2.out HG2.out (by decide))).trans HG2.out⟩; have c8b : w1.cell? ⟨g, 8, none⟩ = some (.slice ao p.length cap) := (blk_cell HG3.out 8).trans rfl; have f8b := blk_frozen HG3.out 8; clear ho1 hg1)
      have HG4 := Aside0.mk (blk_put (cs' := #[.int .u32 t0, .int .u32 t1, .int .u32 t2, .int .u32 t3, .int .u32 t4, .int .u32 t5, .int .u32 t6, .int .u32 t7, .slice a1 n2 c1, .int .i64 (N : Int)]) HG3.out 8 (.slice a1 n2 c1) rfl)
      have hne4 := own_ne_blk HO1.out HG3.out (by decide)
      have HO4 : Aside0 ((w1.setCell ⟨g, 8, none⟩ (.slice a1 n2 c1)).ownsRow B 5 1 (.slice a1 n2 c1) n2 (nums .u8 (p ++ bytesOf s))) := ⟨own_move HO1.out fun k hk => Below.heap_setCell _ _ _ _ (fun e => hne4 (by rw [hk, e]))⟩
      have HB4 : Aside0 (Below B w (w1.setCell ⟨g, 8, none⟩ (.slice a1 n2 c1))) := ⟨((Below.drew HBEL.out).grown HGR.out HBW.out (fun k hk => own_base HOWN2.out k hk)).setCell HB.out _⟩
      clear e0 e1 e2 e3 e4 e5 e6 e7 c8 f8 c8b f8b HG3 HO1 HGR HOWN2 HG2 hne4 HBEL HBW
      generalize w1.setCell ⟨g, 8, none⟩ (.slice a1 n2 c1) = wa at *
      have c8 : wa.cell? ⟨g, 8, none⟩ = some (.slice a1 n2 c1) := (blk_cell HG4.out 8).trans rfl
      have b5 : (s.size : Int) ≤ (s.size : Int) := Int.le_refl _
      go_wp2_with fail
      (try simp only [Exit.jump])
      (try rw [Exit.noGoto_ret])
      go_ret
      refine ⟨rfl, t0, t1, t2, t3, t4, t5, t6, t7, p ++ bytesOf s, .slice a1 n2 c1, ?_, ?_, ?_, ?_, HB4.out⟩
      · rw [← HN.out]; exact HG4.out
      · rw [← HGO.out, hashGo, if_neg HK.out]
      · have h1 := LEN.out; have h2 := HN2.out; omega
      · have h1 := HO4.out; have h2 := LEN.out; rw [h2]; exact h1
/-! ### sha_Pad: function 100 -/
mutual
def sha_Pad.j0 : Nat → Int → Bool → Option (ByteArray)
 | 0, _, _ => none
 | k + 1, x0, x11 => if x11 = true then (some (⟨#[]⟩ : ByteArray)) else ((some (([128] : List Int) : List Int)).bind fun y114 => (if 0 ≤ (Int.tmod (wrap64 (119 - (Int.tmod x0 64))) 64) then (if y114.length + (Int.tmod (wrap64 (119 - (Int.tmod x0 64))) 64 : Int).toNat < 140737488355328 then (sha_Pad.l0 k x0 (y114 ++ List.replicate (Int.tmod (wrap64 (119 - (Int.tmod x0 64))) 64 : Int).toNat 0) 56) else (none)) else (none)))
def sha_Pad.l0 : Nat → Int → List Int → Int → Option (ByteArray)
 | 0, _, _, _ => none
 | k + 1, x0, x4, x5 => if x5 ≥ 0 then (if 0 ≤ x5 then (if x4.length < 140737488355328 then (sha_Pad.l0 k x0 (x4 ++ [(shr .u64 (IntKind.u64.wrap ((IntKind.u64.wrap (x0)) * 8)) x5) % 256]) (wrap64 (x5 - 8))) else (none)) else (none)) else (some (strOfNums x4))
end
def sha_Pad.f (k : Nat) (a0 : Int) : Option (ByteArray) := if a0 < 0 then (sha_Pad.j0 k a0 true) else (sha_Pad.j0 k a0 (decide (a0 > 65536)))
theorem sha_Pad.mono_l : ∀ k, (∀ y0 y1, LeO (sha_Pad.j0 k y0 y1) (sha_Pad.j0 (k + 1) y0 y1)) ∧ (∀ y0 y1 y2, LeO (sha_Pad.l0 k y0 y1 y2) (sha_Pad.l0 (k + 1) y0 y1 y2))
 | 0 => ⟨fun _ _ r h => by simp [sha_Pad.j0] at h, fun _ _ _ r h => by simp [sha_Pad.l0] at h⟩
 | k + 1 => by
  obtain ⟨ih0, ih1⟩ := sha_Pad.mono_l k
  refine ⟨?_, ?_⟩ <;> intros <;> (first | unfold sha_Pad.j0 | unfold sha_Pad.l0)
  all_goals repeat' first | (with_reducible first | apply ih0 | apply ih1 | exact LeO.refl _ | exact LeO.none _ | refine LeO.ite ?_ ?_ | refine LeO.bind ?_ (fun _ => ?_)) | apply ih0 | apply ih1 | exact LeO.none _ | refine LeO.ite ?_ ?_ | refine LeO.bind ?_ (fun _ => ?_)
theorem sha_Pad.mono : ∀ a0 k, LeO (sha_Pad.f k a0) (sha_Pad.f (k + 1) a0) := by
 intro a0 k
 obtain ⟨ih0, ih1⟩ := sha_Pad.mono_l k
 unfold sha_Pad.f
 repeat' first | (with_reducible first | apply ih0 | apply ih1 | exact LeO.refl _ | exact LeO.none _ | refine LeO.ite ?_ ?_ | refine LeO.bind ?_ (fun _ => ?_)) | apply ih0 | apply ih1 | exact LeO.none _ | refine LeO.ite ?_ ?_ | refine LeO.bind ?_ (fun _ => ?_)
set_option maxHeartbeats 8000000 in
set_option maxRecDepth 100000 in
theorem sha_Pad.calls (k : Nat) (a0 : Int) (r : ByteArray) (w : World) (h : sha_Pad.f k a0 = some r) :
  Calls Try.prog 100 #[.int .i64 a0] w fun e w' => e = .returned (.string r) ∧ Below w.heap.size w w' := by
 have HB := Aside0.mk (Below.refl w.heap.size w)
 have H : (if a0 < 0 then (sha_Pad.j0 k a0 true) else (sha_Pad.j0 k a0 (decide (a0 > 65536)))) = some r := h
 clear h; have HC2 := Aside0.mk H
 clear H; go_enter Try.func100, Try.ntmps100
 go_upto_region 1 with (fail)
 go_cut [11] (fun v11 wc => ∃ (kq : Nat) (x11_1 : Bool), v11 = .bool x11_1 ∧ Aside0 (sha_Pad.j0 kq a0 x11_1 = some r) ∧ Aside0 (kq ≤ k) ∧ Aside0 (Below w.heap.size w wc))
 case first =>
  have H := HC2.out; clear HC2; by_cases c3 : a0 < 0
  ·
   rw [if_pos c3] at H
   have c3b0 : decide (a0 < 0) = true := decide_eq_true c3
   clear c3; (first | rw [c3b0] | (simp only [i64_w, i32_w]; rw [c3b0]) | skip)
   have H' := Aside0.mk H
   clear H; go_wp2
   go_meet
   case rel => exact ⟨_, (true), zF, H', ⟨by first | omega | exact Nat.le_refl _⟩, ⟨zB⟩⟩
  ·
   rw [if_neg c3] at H
   have c3b0 : decide (a0 < 0) = false := decide_eq_false c3
   clear c3; (first | rw [c3b0] | (simp only [i64_w, i32_w]; rw [c3b0]) | skip)
   have H' := Aside0.mk H
   clear H; go_wp2
   go_meet
   case rel => exact ⟨_, (decide (a0 > 65536)), zF, H', ⟨by first | omega | exact Nat.le_refl _⟩, ⟨zB⟩⟩
 case rest =>
  clear HC2; obtain ⟨kq, x11_1, rfl, HA, HJ1, HB⟩ := hcut
  cases kq with
  | zero => exact absurd HA.out (by simp [sha_Pad.j0])
  | succ kj1 =>
   have H := HA.out; clear HA; simp only [sha_Pad.j0] at H
   by_cases c4 : x11_1 = true
   ·
    subst c4
    have H1 : (some (⟨#[]⟩ : ByteArray)) = some r := by rw [if_pos rfl] at H; exact H
    clear H; have H := H1; clear H1; obtain rfl := Option.some.inj H
    go_wp2
    go_ret
    exact ⟨zE, zB⟩
   ·
    replace c4 := Bool.eq_false_iff.mpr c4
    subst c4
    have H1 : ((some (([128] : List Int) : List Int)).bind fun y114 => (if 0 ≤ (Int.tmod (wrap64 (119 - (Int.tmod a0 64))) 64) then (if y114.length + (Int.tmod (wrap64 (119 - (Int.tmod a0 64))) 64 : Int).toNat < 140737488355328 then (sha_Pad.l0 kj1 a0 (y114 ++ List.replicate (Int.tmod (wrap64 (119 - (Int.tmod a0 64))) 64 : Int).toNat 0) 56) else (none)) else (none))) = some r := by rw [if_neg (show ¬ (false = true) by decide)] at H; exact H
    clear H; have H := H1; clear H1; obtain ⟨y114, hy114⟩ : ∃ y_ : List Int, y_ = (([128] : List Int)) := ⟨_, rfl⟩
    replace H : (if 0 ≤ (Int.tmod (wrap64 (119 - (Int.tmod a0 64))) 64) then (if y114.length + (Int.tmod (wrap64 (119 - (Int.tmod a0 64))) 64 : Int).toNat < 140737488355328 then (sha_Pad.l0 kj1 a0 (y114 ++ List.replicate (Int.tmod (wrap64 (119 - (Int.tmod a0 64))) 64 : Int).toNat 0) 56) else (none)) else (none)) = some r := by first | (rw [hy114]; with_reducible exact H) | (have H2_ := (Option.bind_some _ _).symm.trans H; rw [hy114]; with_reducible exact H2_) | (have H2_ := (Option.bind_some _ _).symm.trans H; with_reducible exact H2_) | with_reducible exact H | (rw [hy114]; exact H) | exact H
    have Ny114 := Aside0.mk hy114
    clear hy114; obtain ⟨ji5, hji5⟩ : ∃ j_ : Int, (Int.tmod (wrap64 (119 - (Int.tmod a0 64))) 64) = j_ := ⟨_, rfl⟩
    replace H : (if 0 ≤ (ji5) then (if y114.length + (ji5 : Int).toNat < 140737488355328 then (sha_Pad.l0 kj1 a0 (y114 ++ List.replicate (ji5 : Int).toNat 0) 56) else (none)) else (none)) = some r := by first | (rw [hji5] at H; exact H) | (simp only [hji5] at H ⊢; exact H)
    by_cases c6 : 0 ≤ (ji5)
    ·
     rw [if_pos c6] at H
     have c6b0 := eq_true c6
     have c6b1 : decide (0 ≤ (ji5)) = true := decide_eq_true c6
     clear c6; by_cases c7 : y114.length + (ji5 : Int).toNat < 140737488355328
     ·
      rw [if_pos c7] at H
      have LMc7 := Aside0.mk c7
      clear c7; obtain ⟨y117, hy117⟩ : ∃ y_ : List Int, y_ = (y114 ++ List.replicate (ji5 : Int).toNat 0) := ⟨_, rfl⟩
      replace H : (sha_Pad.l0 kj1 a0 y117 56) = some r := by first | (rw [hy117]; with_reducible exact H) | (have H2_ := (Option.bind_some _ _).symm.trans H; rw [hy117]; with_reducible exact H2_) | (have H2_ := (Option.bind_some _ _).symm.trans H; with_reducible exact H2_) | with_reducible exact H | (rw [hy117]; exact H) | exact H
      have Ny117 := Aside0.mk hy117
      clear hy117; have H' := Aside0.mk H
      clear H; go_wp2_with (first | ((with_reducible refine gate_dst (N := 16) rfl ?_); refine Kd.R_lit (Kd.int .u8) _ 5 ?hg (N := 16) ?hd (xs := ([128] : List Int)) (inner := [.int .u8 128]) (ok := fun _ => True) (okp := fun _ => True) ?hr ?hp (fun _ hk => hk) trivial (Below.refl _ _) (Nat.le_refl _) (by simp) ?_; (case hd => rfl); (case hg => rfl); (case hr => first | (go_simp; done) | (go_simp; rfl)); (case hp => exact (Reps.one (show Kd.M (Kd.int .u8) _ _ _ 128 [.int .u8 128] from rfl) (Reps.none _ _))); intro v115 w8 ho9 hb hg_ hnew_; clear hg_ hnew_; (first | rw [← Ny114.out] at ho9 | (simp only [Int.reduceToNat] at ho9; rw [← Ny114.out] at ho9)); have HO116 := Aside0.mk (Kd.R_lower ho9 (below_size zB)); replace HB := Aside0.mk (below_step zB hb); clear hb ho9) | (at_builtin; refine Kd.R_append_zeros (Kd.int .u8) (w0 := w) w.heap.size rfl (.tmp 16) (.tmp 17) 39 3 5 (.int .u8 0) 1 rfl Try.underlying39 Try.underlying3 info5 rfl (by decide) (by omega) v115 y114 0 (ji5 : Int) (fun _ => True) rfl rfl rfl ?aF ?aO (of_decide_eq_true zA) ?aB ?aS ?aL ?_; (case aB => exact zB); (case aF => exact (fun _ _ => trivial)); (case aO => exact (by (with_reducible repeat (first | apply Kd.R_alloc | apply Kd.R_drewN | apply Kd.R_drew)); exact HO116.out)); (case aS => exact (below_size zB)); (case aL => have := LMc7.out; omega); intro v118 w10 ho hb hg hat; rw [← Ny117.out] at ho; have HO119 := Aside0.mk (ho); replace HB := Aside0.mk (hb); clear HO116; clear ho hb hg hat))
      go_loopg [4, 5] kj1 (fun kq v4 v5 w' => ∃ (x4_2 : List Int) (x5_2 : Int), v5 = .int .i64 x5_2 ∧ Aside0 (sha_Pad.l0 kq a0 x4_2 x5_2 = some r) ∧ Aside0 (kq ≤ kj1) ∧ Aside0 (Kd.R (Kd.int .u8) 5 w' w.heap.size (fun _ => True) v4 x4_2) ∧ Aside0 (Below w.heap.size w w'))
      case atStart => exact ⟨(y117), (56), zF, H', ⟨Nat.le_refl _⟩, ⟨zR HO119⟩, ⟨zB⟩⟩
      case round =>
       clear H'
       obtain ⟨x4_2, x5_2, rfl, HA, HK2, HO_4, HB⟩ := hrel
       cases gk with
       | zero => exact absurd HA.out (by simp [sha_Pad.l0])
       | succ k2 =>
        have H := HA.out; clear HA; simp only [sha_Pad.l0] at H
        by_cases c11 : x5_2 ≥ 0
        ·
         rw [if_pos c11] at H
         have c11b0 : decide (0 ≤ x5_2) = true := decide_eq_true c11
         clear c11; by_cases c12 : 0 ≤ x5_2
         ·
          rw [if_pos c12] at H
          have c12b0 := eq_true c12
          have c12b1 : decide (0 ≤ x5_2) = true := decide_eq_true c12
          clear c12; obtain ⟨ji13, hji13⟩ : ∃ j_ : Int, (shr .u64 (IntKind.u64.wrap ((IntKind.u64.wrap (a0)) * 8)) x5_2) = j_ := ⟨_, rfl⟩
          replace H : (if x4_2.length < 140737488355328 then (sha_Pad.l0 k2 a0 (x4_2 ++ [(ji13) % 256]) (wrap64 (x5_2 - 8))) else (none)) = some r := by first | (rw [hji13] at H; exact H) | (simp only [hji13] at H ⊢; exact H)
          have hji13_ : ((IntKind.u64.wrap ((IntKind.u64.wrap (a0)) * 8)) / 2 ^ min x5_2.toNat 64) = ji13 := hji13
          have hji13z : x5_2 ≤ 64 → ((IntKind.u64.wrap ((IntKind.u64.wrap (a0)) * 8)) / 2 ^ x5_2.toNat) = ji13 := shr_small hji13
          by_cases c14 : x4_2.length < 140737488355328
          ·
           rw [if_pos c14] at H
           have LMc14 := Aside0.mk c14
           clear c14; obtain ⟨y120, hy120⟩ : ∃ y_ : List Int, y_ = (x4_2 ++ [(ji13) % 256]) := ⟨_, rfl⟩
           replace H : (sha_Pad.l0 k2 a0 y120 (wrap64 (x5_2 - 8))) = some r := by first | (rw [hy120]; with_reducible exact H) | (have H2_ := (Option.bind_some _ _).symm.trans H; rw [hy120]; with_reducible exact H2_) | (have H2_ := (Option.bind_some _ _).symm.trans H; with_reducible exact H2_) | with_reducible exact H | (rw [hy120]; exact H) | exact H
           have Ny120 := Aside0.mk hy120
           clear hy120; have H' := Aside0.mk H
           clear H; go_wp2_with (first | ((with_reducible refine gate_builtin (b := .append) (xs := #[.tmp 23, .tmp 30]) rfl ?_); at_builtin; refine Kd.R_append (Kd.int .u8) (w0 := w) w.heap.size rfl (.tmp 23) (.tmp 30) 39 5 (.int .u8 0) 1 rfl Try.underlying39 info5 rfl (by decide) (by omega) u4 x4_2 ((ji13) % 256) [.int .u8 ((ji13) % 256)] (fun _ => True) (fun _ => False) rfl rfl ?aP (fun _ hk => hk.elim) ?aF ?aO ?aB ?aS ?aL ?_; (case aP => exact rfl); (case aB => exact zB); (case aF => exact (fun _ _ => trivial)); (case aO => exact (by (with_reducible repeat (first | apply Kd.R_alloc | apply Kd.R_drewN | apply Kd.R_drew)); exact HO_4.out)); (case aS => exact (below_size zB)); (case aL => have := LMc14.out; omega); intro v121 w15 ho hb hg hat; rw [← Ny120.out] at ho; have HO122 := Aside0.mk (ho); replace HB := Aside0.mk (hb); clear HO_4; clear ho hb hg hat))
           go_roundg k2
           case measure => have := HJ1.out; have := HK2.out; omega
           case rel => exact ⟨(y120), (wrap64 (x5_2 - 8)), zF, H', ⟨by have := HJ1.out; have := HK2.out; omega⟩, ⟨zR HO122⟩, ⟨zB⟩⟩
          ·
           rw [if_neg c14] at H
           exact absurd H (by simp)
         ·
          rw [if_neg c12] at H
          exact absurd H (by simp)
        ·
         rw [if_neg c11] at H
         have c11b0 : decide (0 ≤ x5_2) = false := decide_eq_false c11
         clear c11; obtain rfl := Option.some.inj H
         have hcv16 := own_string (P := Try.prog) Try.underlying39 Try.underlying5 Try.underlying9 (Kd.own_of_R HO_4.out)
         have hcvd17 := fun n_ => own_string (P := Try.prog) Try.underlying39 Try.underlying5 Try.underlying9 (Kd.own_of_R (Kd.R_drewN HO_4.out n_))
         go_wp2
         go_ret
         exact ⟨by first | rfl | (simp [errW_none, errW_some] <;> rfl) | (simp only [← hji5]; first | rfl | (simp [errW_none, errW_some] <;> rfl)) | (simp [*, errW_none, errW_some] <;> rfl), zB⟩
     ·
      rw [if_neg c7] at H
      exact absurd H (by simp)
    ·
     rw [if_neg c6] at H
     exact absurd H (by simp)
end Go.Proofs.Ytghhmnjkgnoogaa.POuterHolds
