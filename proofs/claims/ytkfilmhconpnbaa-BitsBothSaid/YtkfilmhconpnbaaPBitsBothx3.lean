-- Written by this session's own program (wip/tools/mkprint.py) over the kit's printer, with overrides.
import Derived.Test.YtkfilmhconpnbaaPBitsBothx0
namespace Go.Proofs.Ytkfilmhconpnbaa.PBitsBoth
open Go.RowKit Go.Mine Go.Proofs.YtkfilmhconpnbaaW.PrintWords Go.Proofs.YtkfilmhconpnbaaW.PrintLast Go.Proofs.YtkfilmhconpnbaaW.PrintMore
attribute [local go_sem] max2_int min2_int max_two min_two max_three min_three max_four min_four   -- for this text's walks alone
set_option linter.unusedVariables false
set_option linter.unusedSimpArgs false

/-! ### bits_And: function 31 -/
def bits_And.f (a0 : ByteArray) (a1 : ByteArray) : Option (ByteArray × Int) := if a0.size = a1.size then (if a0.size ≤ 140737488351232 then some (strOfNums (bothB .and (bytesI a0) (bytesI a1) a0.size), 0) else none) else some (⟨#[]⟩, 1)
set_option maxHeartbeats 1000000 in
theorem bits_And.calls (a0 : ByteArray) (a1 : ByteArray) (r1 : ByteArray) (r2 : Int) (w : World) (h : bits_And.f a0 a1 = some (r1, r2)) :
    Calls Try.prog 31 #[.string a0, .string a1] w fun e w' => e = .returned (.tuple #[.string r1, .int .i64 r2]) ∧ Below w.heap.size w w' := by
  unfold bits_And.f at h
  by_cases hs : a0.size = a1.size
  · rw [if_pos hs] at h
    split at h
    rotate_left
    · cases h
    rename_i hsz
    simp only [Option.some.injEq, Prod.mk.injEq] at h
    obtain ⟨h, rfl⟩ := h
    have HR := Aside0.mk h
    clear h
    obtain ⟨w1, c, hrun, hrow, hb, hc, hz⟩ := run_bytes (P := Try.prog) w 9 55 5 a0 Try.underlying9 Try.underlying55 Try.underlying5
    have HB1 := Aside0.mk hb
    have HROW := Aside0.mk hrow
    have HS := Aside0.mk hs
    have t1 : ((a0.size : Int) == (a1.size : Int)) = true := by rw [hs]; simp
    have t2 : ((a0.size : Int) != (a1.size : Int)) = false := by rw [hs]; simp
    clear hb hrow hz hs
    go_enter Try.func31, Try.ntmps31
    go_wp2
    go_loopw [7, 17] (fun _ v17 wr => ∃ k : Nat, k ≤ a0.size ∧ v17 = .int .i64 k ∧ Aside0 (ByteRow 5 wr w.heap.size (bothB .and (bytesI a0) (bytesI a1) k)) ∧ Aside0 (Below w.heap.size w wr)) (fun _ v17 _ => a0.size - (intOf v17).toNat)
    case atStart => exact ⟨0, Nat.zero_le _, rfl, HROW, HB1⟩
    case round =>
      obtain ⟨k, hk, rfl, HROW2, HB2⟩ := hrel
      clear HROW HB1
      by_cases hlt : k < a0.size
      · have hltz : (k : Int) < (a0.size : Int) := by omega
        have hlt1 : k < a1.size := by have := HS.out; omega
        have hlt1z : (k : Int) < (a1.size : Int) := by omega
        have hlen : (bothB .and (bytesI a0) (bytesI a1) k).length = a0.size := by rw [bothB_length, bytesI_length]
        have hcell := HROW2.out.cell k (by omega)
        have hfr := HROW2.out.frozen k (by omega)
        have hset := HROW2.out.set k (by omega) (Go.bits .and .u8 ((bothB .and (bytesI a0) (bytesI a1) k).getD k 0) ((bytesI a1).getD k 0))
        have hst : bothB .and (bytesI a0) (bytesI a1) (k + 1) = (bothB .and (bytesI a0) (bytesI a1) k).set k (Go.bits .and .u8 ((bothB .and (bytesI a0) (bytesI a1) k).getD k 0) ((bytesI a1).getD k 0)) := rfl
        rw [← hst, bytesI_getD a1 k hlt1] at hset
        have HSET := Aside0.mk hset
        clear hset hst hlen
        generalize (bothB .and (bytesI a0) (bytesI a1) k).getD k 0 = x at *
        go_wp2_with fail
        go_region
        all_goals
          go_wp2
          go_roundw
          case rel => exact ⟨k + 1, by omega, by go_num, ⟨HSET.out.drew⟩, ⟨(HB2.out.setCell (Nat.le_refl _) _).drew⟩⟩
          case measure => simp [intOf]; omega
      · have hltz : ¬ (k : Int) < (a0.size : Int) := by omega
        have hkk : k = a0.size := by omega
        subst hkk
        have hback := HROW2.out.back (P := Try.prog) 55 9 Try.underlying55 Try.underlying5 Try.underlying9 a0.size c (by rw [bothB_length, bytesI_length])
        rw [HR.out] at hback
        go_wp2
        go_ret2
        exact ⟨rfl, HB2.out⟩
  · rw [if_neg hs] at h
    simp only [Option.some.injEq, Prod.mk.injEq] at h
    obtain ⟨rfl, rfl⟩ := h
    have t1 : ((a0.size : Int) == (a1.size : Int)) = false := by rw [beq_eq_false_iff_ne]; omega
    have t2 : ((a0.size : Int) != (a1.size : Int)) = true := by rw [bne_iff_ne]; omega
    clear hs
    go_enter Try.func31, Try.ntmps31
    go_wp2
    go_ret2
    exact ⟨rfl, Below.refl _ _⟩

/-! ### bits_Or: function 32 -/
def bits_Or.f (a0 : ByteArray) (a1 : ByteArray) : Option (ByteArray × Int) := if a0.size = a1.size then (if a0.size ≤ 140737488351232 then some (strOfNums (bothB .or (bytesI a0) (bytesI a1) a0.size), 0) else none) else some (⟨#[]⟩, 1)
set_option maxHeartbeats 1000000 in
theorem bits_Or.calls (a0 : ByteArray) (a1 : ByteArray) (r1 : ByteArray) (r2 : Int) (w : World) (h : bits_Or.f a0 a1 = some (r1, r2)) :
    Calls Try.prog 32 #[.string a0, .string a1] w fun e w' => e = .returned (.tuple #[.string r1, .int .i64 r2]) ∧ Below w.heap.size w w' := by
  unfold bits_Or.f at h
  by_cases hs : a0.size = a1.size
  · rw [if_pos hs] at h
    split at h
    rotate_left
    · cases h
    rename_i hsz
    simp only [Option.some.injEq, Prod.mk.injEq] at h
    obtain ⟨h, rfl⟩ := h
    have HR := Aside0.mk h
    clear h
    obtain ⟨w1, c, hrun, hrow, hb, hc, hz⟩ := run_bytes (P := Try.prog) w 9 55 5 a0 Try.underlying9 Try.underlying55 Try.underlying5
    have HB1 := Aside0.mk hb
    have HROW := Aside0.mk hrow
    have HS := Aside0.mk hs
    have t1 : ((a0.size : Int) == (a1.size : Int)) = true := by rw [hs]; simp
    have t2 : ((a0.size : Int) != (a1.size : Int)) = false := by rw [hs]; simp
    clear hb hrow hz hs
    go_enter Try.func32, Try.ntmps32
    go_wp2
    go_loopw [7, 17] (fun _ v17 wr => ∃ k : Nat, k ≤ a0.size ∧ v17 = .int .i64 k ∧ Aside0 (ByteRow 5 wr w.heap.size (bothB .or (bytesI a0) (bytesI a1) k)) ∧ Aside0 (Below w.heap.size w wr)) (fun _ v17 _ => a0.size - (intOf v17).toNat)
    case atStart => exact ⟨0, Nat.zero_le _, rfl, HROW, HB1⟩
    case round =>
      obtain ⟨k, hk, rfl, HROW2, HB2⟩ := hrel
      clear HROW HB1
      by_cases hlt : k < a0.size
      · have hltz : (k : Int) < (a0.size : Int) := by omega
        have hlt1 : k < a1.size := by have := HS.out; omega
        have hlt1z : (k : Int) < (a1.size : Int) := by omega
        have hlen : (bothB .or (bytesI a0) (bytesI a1) k).length = a0.size := by rw [bothB_length, bytesI_length]
        have hcell := HROW2.out.cell k (by omega)
        have hfr := HROW2.out.frozen k (by omega)
        have hset := HROW2.out.set k (by omega) (Go.bits .or .u8 ((bothB .or (bytesI a0) (bytesI a1) k).getD k 0) ((bytesI a1).getD k 0))
        have hst : bothB .or (bytesI a0) (bytesI a1) (k + 1) = (bothB .or (bytesI a0) (bytesI a1) k).set k (Go.bits .or .u8 ((bothB .or (bytesI a0) (bytesI a1) k).getD k 0) ((bytesI a1).getD k 0)) := rfl
        rw [← hst, bytesI_getD a1 k hlt1] at hset
        have HSET := Aside0.mk hset
        clear hset hst hlen
        generalize (bothB .or (bytesI a0) (bytesI a1) k).getD k 0 = x at *
        go_wp2_with fail
        go_region
        all_goals
          go_wp2
          go_roundw
          case rel => exact ⟨k + 1, by omega, by go_num, ⟨HSET.out.drew⟩, ⟨(HB2.out.setCell (Nat.le_refl _) _).drew⟩⟩
          case measure => simp [intOf]; omega
      · have hltz : ¬ (k : Int) < (a0.size : Int) := by omega
        have hkk : k = a0.size := by omega
        subst hkk
        have hback := HROW2.out.back (P := Try.prog) 55 9 Try.underlying55 Try.underlying5 Try.underlying9 a0.size c (by rw [bothB_length, bytesI_length])
        rw [HR.out] at hback
        go_wp2
        go_ret2
        exact ⟨rfl, HB2.out⟩
  · rw [if_neg hs] at h
    simp only [Option.some.injEq, Prod.mk.injEq] at h
    obtain ⟨rfl, rfl⟩ := h
    have t1 : ((a0.size : Int) == (a1.size : Int)) = false := by rw [beq_eq_false_iff_ne]; omega
    have t2 : ((a0.size : Int) != (a1.size : Int)) = true := by rw [bne_iff_ne]; omega
    clear hs
    go_enter Try.func32, Try.ntmps32
    go_wp2
    go_ret2
    exact ⟨rfl, Below.refl _ _⟩

/-! ### bits_Minus: function 33 -/
def bits_Minus.f (a0 : ByteArray) (a1 : ByteArray) : Option (ByteArray × Int) := if a0.size = a1.size then (if a0.size ≤ 140737488351232 then some (strOfNums (bothB .andNot (bytesI a0) (bytesI a1) a0.size), 0) else none) else some (⟨#[]⟩, 1)
set_option maxHeartbeats 1000000 in
theorem bits_Minus.calls (a0 : ByteArray) (a1 : ByteArray) (r1 : ByteArray) (r2 : Int) (w : World) (h : bits_Minus.f a0 a1 = some (r1, r2)) :
    Calls Try.prog 33 #[.string a0, .string a1] w fun e w' => e = .returned (.tuple #[.string r1, .int .i64 r2]) ∧ Below w.heap.size w w' := by
  unfold bits_Minus.f at h
  by_cases hs : a0.size = a1.size
  · rw [if_pos hs] at h
    split at h
    rotate_left
    · cases h
    rename_i hsz
    simp only [Option.some.injEq, Prod.mk.injEq] at h
    obtain ⟨h, rfl⟩ := h
    have HR := Aside0.mk h
    clear h
    obtain ⟨w1, c, hrun, hrow, hb, hc, hz⟩ := run_bytes (P := Try.prog) w 9 55 5 a0 Try.underlying9 Try.underlying55 Try.underlying5
    have HB1 := Aside0.mk hb
    have HROW := Aside0.mk hrow
    have HS := Aside0.mk hs
    have t1 : ((a0.size : Int) == (a1.size : Int)) = true := by rw [hs]; simp
    have t2 : ((a0.size : Int) != (a1.size : Int)) = false := by rw [hs]; simp
    clear hb hrow hz hs
    go_enter Try.func33, Try.ntmps33
    go_wp2
    go_loopw [7, 17] (fun _ v17 wr => ∃ k : Nat, k ≤ a0.size ∧ v17 = .int .i64 k ∧ Aside0 (ByteRow 5 wr w.heap.size (bothB .andNot (bytesI a0) (bytesI a1) k)) ∧ Aside0 (Below w.heap.size w wr)) (fun _ v17 _ => a0.size - (intOf v17).toNat)
    case atStart => exact ⟨0, Nat.zero_le _, rfl, HROW, HB1⟩
    case round =>
      obtain ⟨k, hk, rfl, HROW2, HB2⟩ := hrel
      clear HROW HB1
      by_cases hlt : k < a0.size
      · have hltz : (k : Int) < (a0.size : Int) := by omega
        have hlt1 : k < a1.size := by have := HS.out; omega
        have hlt1z : (k : Int) < (a1.size : Int) := by omega
        have hlen : (bothB .andNot (bytesI a0) (bytesI a1) k).length = a0.size := by rw [bothB_length, bytesI_length]
        have hcell := HROW2.out.cell k (by omega)
        have hfr := HROW2.out.frozen k (by omega)
        have hset := HROW2.out.set k (by omega) (Go.bits .andNot .u8 ((bothB .andNot (bytesI a0) (bytesI a1) k).getD k 0) ((bytesI a1).getD k 0))
        have hst : bothB .andNot (bytesI a0) (bytesI a1) (k + 1) = (bothB .andNot (bytesI a0) (bytesI a1) k).set k (Go.bits .andNot .u8 ((bothB .andNot (bytesI a0) (bytesI a1) k).getD k 0) ((bytesI a1).getD k 0)) := rfl
        rw [← hst, bytesI_getD a1 k hlt1] at hset
        have HSET := Aside0.mk hset
        clear hset hst hlen
        generalize (bothB .andNot (bytesI a0) (bytesI a1) k).getD k 0 = x at *
        go_wp2_with fail
        go_region
        all_goals
          go_wp2
          go_roundw
          case rel => exact ⟨k + 1, by omega, by go_num, ⟨HSET.out.drew⟩, ⟨(HB2.out.setCell (Nat.le_refl _) _).drew⟩⟩
          case measure => simp [intOf]; omega
      · have hltz : ¬ (k : Int) < (a0.size : Int) := by omega
        have hkk : k = a0.size := by omega
        subst hkk
        have hback := HROW2.out.back (P := Try.prog) 55 9 Try.underlying55 Try.underlying5 Try.underlying9 a0.size c (by rw [bothB_length, bytesI_length])
        rw [HR.out] at hback
        go_wp2
        go_ret2
        exact ⟨rfl, HB2.out⟩
  · rw [if_neg hs] at h
    simp only [Option.some.injEq, Prod.mk.injEq] at h
    obtain ⟨rfl, rfl⟩ := h
    have t1 : ((a0.size : Int) == (a1.size : Int)) = false := by rw [beq_eq_false_iff_ne]; omega
    have t2 : ((a0.size : Int) != (a1.size : Int)) = true := by rw [bne_iff_ne]; omega
    clear hs
    go_enter Try.func33, Try.ntmps33
    go_wp2
    go_ret2
    exact ⟨rfl, Below.refl _ _⟩

/-! ### mosaicref08_bit: function 44 -/
def mosaicref08_bit.l0 : Nat → Int → Int → Int → Option (Int)
  | 0, _, _, _ => none
  | k + 1, x1, x5, x6 => if x6 < (Int.tmod x1 8) then (mosaicref08_bit.l0 k x1 (wrap64 (Int.tdiv x5 2)) (wrap64 (x6 + 1))) else (some (Int.tmod x5 2))
def mosaicref08_bit.f (k : Nat) (a0 : ByteArray) (a1 : Int) : Option (Int) := if 0 ≤ (wrap64 (Int.tdiv a1 8)) then (if (wrap64 (Int.tdiv a1 8)) < (a0.size : Int) then (mosaicref08_bit.l0 k a1 (wrap64 (bt a0 (wrap64 (Int.tdiv a1 8)))) 0) else (none)) else (none)
theorem mosaicref08_bit.mono_l : ∀ k, (∀ y0 y1 y2, LeO (mosaicref08_bit.l0 k y0 y1 y2) (mosaicref08_bit.l0 (k + 1) y0 y1 y2))
  | 0 => fun _ _ _ r h => by simp [mosaicref08_bit.l0] at h
  | k + 1 => by
    have ih0 := mosaicref08_bit.mono_l k
    · intro y0 y1 y2
      unfold mosaicref08_bit.l0
      repeat' first
      | (with_reducible exact ih0 _ _ _)
      | (with_reducible exact LeO.refl _)
      | (with_reducible exact LeO.none _)
      | (with_reducible refine LeO.ite ?_ ?_)
      | (with_reducible refine LeO.bind ?_ (fun _ => ?_))
      | exact ih0 _ _ _
      | exact LeO.none _
      | refine LeO.ite ?_ ?_
      | refine LeO.bind ?_ (fun _ => ?_)
theorem mosaicref08_bit.mono : ∀ a0 a1 k, LeO (mosaicref08_bit.f k a0 a1) (mosaicref08_bit.f (k + 1) a0 a1) := by
  intro a0 a1 k
  have ih0 := mosaicref08_bit.mono_l k
  unfold mosaicref08_bit.f
  repeat' first
      | (with_reducible exact ih0 _ _ _)
      | (with_reducible exact LeO.refl _)
      | (with_reducible exact LeO.none _)
      | (with_reducible refine LeO.ite ?_ ?_)
      | (with_reducible refine LeO.bind ?_ (fun _ => ?_))
      | exact ih0 _ _ _
      | exact LeO.none _
      | refine LeO.ite ?_ ?_
      | refine LeO.bind ?_ (fun _ => ?_)
set_option maxHeartbeats 8000000 in
set_option maxRecDepth 100000 in
theorem mosaicref08_bit.calls (k : Nat) (a0 : ByteArray) (a1 : Int) (r : Int) (w : World) (h : mosaicref08_bit.f k a0 a1 = some r) :
    Calls Try.prog 44 #[.string a0, .int .i64 a1] w fun e w' => e = .returned (.int .i64 r) ∧ Drawn0 w w' := by
  have H : (if 0 ≤ (wrap64 (Int.tdiv a1 8)) then (if (wrap64 (Int.tdiv a1 8)) < (a0.size : Int) then (mosaicref08_bit.l0 k a1 (wrap64 (bt a0 (wrap64 (Int.tdiv a1 8)))) 0) else (none)) else (none)) = some r := h
  clear h
  obtain ⟨ji3, hji3⟩ : ∃ j_ : Int, (wrap64 (Int.tdiv a1 8)) = j_ := ⟨_, rfl⟩
  replace H : (if 0 ≤ (ji3) then (if (ji3) < (a0.size : Int) then (mosaicref08_bit.l0 k a1 (wrap64 (bt a0 (ji3))) 0) else (none)) else (none)) = some r := by first | (rw [hji3] at H; exact H) | (simp only [hji3] at H ⊢; exact H)
  have hji3w : (IntKind.i64.wrap (Int.tdiv a1 8)) = ji3 := (i64_w _).trans hji3
  by_cases c4 : 0 ≤ (ji3)
  · rw [if_pos c4] at H
    have c4b0 : decide (0 ≤ (ji3)) = true := decide_eq_true c4
    clear c4
    by_cases c5 : (ji3) < (a0.size : Int)
    · rw [if_pos c5] at H
      have c5b0 : decide ((ji3) < (a0.size : Int)) = true := decide_eq_true c5
      clear c5
      have H' := Aside0.mk H
      clear H
      have p6 : 0 ≤ ((ji3) : Int) := of_decide_eq_true (by first | (with_reducible assumption) | assumption)
      have q6 : (ji3) < (a0.size : Int) := of_decide_eq_true (by first | (with_reducible assumption) | assumption)
      have hx6 := bt_at a0 (ji3)
      replace p6 := eq_true p6
      replace q6 := eq_true q6
      go_enter Try.func44, Try.ntmps44
      go_wp2
      go_loopg [5, 6] k (fun kq v5 v6 w' => ∃ (x5_1 : Int) (x6_1 : Int), v5 = .int .i64 x5_1 ∧ v6 = .int .i64 x6_1 ∧ Aside0 (mosaicref08_bit.l0 kq a1 x5_1 x6_1 = some r) ∧ Aside0 (kq ≤ k) ∧ Drawn0 w w')
      case atStart => exact ⟨(wrap64 (bt a0 (ji3))), (0), (by first | rfl | (simp; done) | (simp only [← hji3] <;> (first | rfl | simp)) | (simp [*]; done)), (by first | rfl | (simp; done) | (simp [*]; done)), H', ⟨Nat.le_refl _⟩, by repeat (first | exact Drawn0.refl _ | apply Drawn0.step)⟩
      case round =>
        clear H'
        try clear p2
        try clear c4
        try clear c4b0
        try clear c5
        try clear c5b0
        try clear p6
        try clear q6
        try clear hx6
        try clear p6
        try clear q6
        obtain ⟨x5_1, x6_1, rfl, rfl, HA, HK1, ⟨m1, rfl⟩⟩ := hrel
        cases gk with
        | zero => exact absurd HA.out (by simp [mosaicref08_bit.l0])
        | succ k1 =>
          have H := HA.out
          clear HA
          simp only [mosaicref08_bit.l0] at H
          by_cases c7 : x6_1 < (Int.tmod a1 8)
          · rw [if_pos c7] at H
            have c7b0 : decide (x6_1 < (Int.tmod a1 8)) = true := decide_eq_true c7
            clear c7
            have H' := Aside0.mk H
            clear H
            go_wp2
            go_roundg k1
            case measure => have := HK1.out; omega
            case rel => exact ⟨(wrap64 (Int.tdiv x5_1 2)), (wrap64 (x6_1 + 1)), (by first | rfl | (simp; done) | (simp [*]; done)), (by first | rfl | (simp; done) | (simp [*]; done)), H', ⟨by have := HK1.out; omega⟩, by repeat (first | exact Drawn0.refl _ | apply Drawn0.step)⟩
          · rw [if_neg c7] at H
            have c7b0 : decide (x6_1 < (Int.tmod a1 8)) = false := decide_eq_false c7
            clear c7
            obtain rfl := Option.some.inj H
            go_wp2
            go_ret
            exact ⟨by first | rfl | (simp; done) | (simp only [← hji3] <;> (first | rfl | simp)) | (simp [*]; done), by repeat (first | exact Drawn0.refl _ | apply Drawn0.step)⟩
    · rw [if_neg c5] at H
      exact absurd H (by simp)
  · rw [if_neg c4] at H
    exact absurd H (by simp)

/-! ### mosaicref08_Has: function 30 -/
def mosaicref08_Has.f (k : Nat) (a0 : ByteArray) (a1 : Int) : Option (Bool) := if a1 ≥ 0 then (if (wrap64 (Int.tdiv a1 8)) < (a0.size : Int) then ((mosaicref08_bit.f k a0 a1).bind fun t114 => (some (t114 == 1))) else (some false)) else (some false)
theorem mosaicref08_Has.mono : ∀ a0 a1 k, LeO (mosaicref08_Has.f k a0 a1) (mosaicref08_Has.f (k + 1) a0 a1) := by
  intro a0 a1 k
  unfold mosaicref08_Has.f
  repeat' first
      | (with_reducible exact mosaicref08_bit.mono _ _ _)
      | (with_reducible exact LeO.refl _)
      | (with_reducible exact LeO.none _)
      | (with_reducible refine LeO.ite ?_ ?_)
      | (with_reducible refine LeO.bind ?_ (fun _ => ?_))
      | exact mosaicref08_bit.mono _ _ _
      | exact LeO.none _
      | refine LeO.ite ?_ ?_
      | refine LeO.bind ?_ (fun _ => ?_)
set_option maxHeartbeats 8000000 in
set_option maxRecDepth 100000 in
theorem mosaicref08_Has.calls (k : Nat) (a0 : ByteArray) (a1 : Int) (r : Bool) (w : World) (h : mosaicref08_Has.f k a0 a1 = some r) :
    Calls Try.prog 30 #[.string a0, .int .i64 a1] w fun e w' => e = .returned (.bool r) ∧ Drawn0 w w' := by
  have H : (if a1 ≥ 0 then (if (wrap64 (Int.tdiv a1 8)) < (a0.size : Int) then ((mosaicref08_bit.f k a0 a1).bind fun t114 => (some (t114 == 1))) else (some false)) else (some false)) = some r := h
  clear h
  by_cases c3 : a1 ≥ 0
  · rw [if_pos c3] at H
    have c3b0 : decide (0 ≤ a1) = true := decide_eq_true c3
    clear c3
    by_cases c4 : (wrap64 (Int.tdiv a1 8)) < (a0.size : Int)
    · rw [if_pos c4] at H
      have c4b0 : decide ((wrap64 (Int.tdiv a1 8)) < (a0.size : Int)) = true := decide_eq_true c4
      clear c4
      replace H := Option.bind_eq_some_iff.mp H
      obtain ⟨t114, A50, H⟩ := H
      replace H : (some (t114 == 1)) = some r := H
      have A5 := Aside0.mk A50
      clear A50
      obtain rfl := Option.some.inj H
      go_enter Try.func30, Try.ntmps30
      go_wp2_with (first | (go_at_call 44; (with_reducible refine (mosaicref08_bit.calls k a0 a1 t114 _ A5.out).mono ?_); rintro e w' ⟨rfl, ⟨nd, rfl⟩⟩))
      go_ret
      exact ⟨by first | rfl | (simp; done) | (simp [*]; done), by repeat (first | exact Drawn0.refl _ | apply Drawn0.step)⟩
    · rw [if_neg c4] at H
      have c4b0 : decide ((wrap64 (Int.tdiv a1 8)) < (a0.size : Int)) = false := decide_eq_false c4
      clear c4
      obtain rfl := Option.some.inj H
      go_enter Try.func30, Try.ntmps30
      go_wp2
      go_ret
      exact ⟨by first | rfl | (simp; done) | (simp [*]; done), by repeat (first | exact Drawn0.refl _ | apply Drawn0.step)⟩
  · rw [if_neg c3] at H
    have c3b0 : decide (0 ≤ a1) = false := decide_eq_false c3
    clear c3
    obtain rfl := Option.some.inj H
    go_enter Try.func30, Try.ntmps30
    go_wp2
    go_ret
    exact ⟨by first | rfl | (simp; done) | (simp [*]; done), by repeat (first | exact Drawn0.refl _ | apply Drawn0.step)⟩

end Go.Proofs.Ytkfilmhconpnbaa.PBitsBoth
