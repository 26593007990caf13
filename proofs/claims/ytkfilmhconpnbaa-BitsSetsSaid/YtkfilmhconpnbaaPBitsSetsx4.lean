-- Written by this session's own program (wip/tools/mkprint.py) over the kit's printer, with overrides.
import Derived.Test.YtkfilmhconpnbaaPBitsSetsx0
namespace Go.Proofs.Ytkfilmhconpnbaa.PBitsSets
open Go.RowKit Go.Mine Go.Proofs.YtkfilmhconpnbaaW.PrintWords Go.Proofs.YtkfilmhconpnbaaW.PrintLast Go.Proofs.YtkfilmhconpnbaaW.PrintMore
attribute [local go_sem] max2_int min2_int max_two min_two max_three min_three max_four min_four   -- for this text's walks alone
set_option linter.unusedVariables false
set_option linter.unusedSimpArgs false

/-! ### bits_Or: function 32 -/
def bits_Or.f (a0 : ByteArray) (a1 : ByteArray) : Option (ByteArray × Int) := if a0.size = a1.size then (if a0.size ≤ 140737488351232 then some (strOfNums (bothB .or (bytesI a0) (bytesI a1) a0.size), 0) else none) else some (⟨#[]⟩, 1)
set_option maxHeartbeats 1000000 in
theorem bits_Or.calls (a0 : ByteArray) (a1 : ByteArray) (r1 : ByteArray) (r2 : Int) (w : World) (h : bits_Or.f a0 a1 = some (r1, r2)) :
    Calls Try.prog 32 #[.string a0, .string a1] w fun e w' => e = .returned (.tuple #[.string r1, .int .i64 r2]) ∧ Below w.heap.size w w' := by
  unfold bits_Or.f at h
  by_cases hs : a0.size = a1.size
  · rw [if_pos hs] at h
    split at h
    rotate_left
    · cases h
    rename_i hsz
    simp only [Option.some.injEq, Prod.mk.injEq] at h
    obtain ⟨h, rfl⟩ := h
    have HR := Aside0.mk h
    clear h
    obtain ⟨w1, c, hrun, hrow, hb, hc, hz⟩ := run_bytes (P := Try.prog) w 9 55 5 a0 Try.underlying9 Try.underlying55 Try.underlying5
    have HB1 := Aside0.mk hb
    have HROW := Aside0.mk hrow
    have HS := Aside0.mk hs
    have t1 : ((a0.size : Int) == (a1.size : Int)) = true := by rw [hs]; simp
    have t2 : ((a0.size : Int) != (a1.size : Int)) = false := by rw [hs]; simp
    clear hb hrow hz hs
    go_enter Try.func32, Try.ntmps32
    go_wp2
    go_loopw [7, 17] (fun _ v17 wr => ∃ k : Nat, k ≤ a0.size ∧ v17 = .int .i64 k ∧ Aside0 (ByteRow 5 wr w.heap.size (bothB .or (bytesI a0) (bytesI a1) k)) ∧ Aside0 (Below w.heap.size w wr)) (fun _ v17 _ => a0.size - (intOf v17).toNat)
    case atStart => exact ⟨0, Nat.zero_le _, rfl, HROW, HB1⟩
    case round =>
      obtain ⟨k, hk, rfl, HROW2, HB2⟩ := hrel
      clear HROW HB1
      by_cases hlt : k < a0.size
      · have hltz : (k : Int) < (a0.size : Int) := by omega
        have hlt1 : k < a1.size := by have := HS.out; omega
        have hlt1z : (k : Int) < (a1.size : Int) := by omega
        have hlen : (bothB .or (bytesI a0) (bytesI a1) k).length = a0.size := by rw [bothB_length, bytesI_length]
        have hcell := HROW2.out.cell k (by omega)
        have hfr := HROW2.out.frozen k (by omega)
        have hset := HROW2.out.set k (by omega) (Go.bits .or .u8 ((bothB .or (bytesI a0) (bytesI a1) k).getD k 0) ((bytesI a1).getD k 0))
        have hst : bothB .or (bytesI a0) (bytesI a1) (k + 1) = (bothB .or (bytesI a0) (bytesI a1) k).set k (Go.bits .or .u8 ((bothB .or (bytesI a0) (bytesI a1) k).getD k 0) ((bytesI a1).getD k 0)) := rfl
        rw [← hst, bytesI_getD a1 k hlt1] at hset
        have HSET := Aside0.mk hset
        clear hset hst hlen
        generalize (bothB .or (bytesI a0) (bytesI a1) k).getD k 0 = x at *
        go_wp2_with fail
        go_region
        all_goals
          go_wp2
          go_roundw
          case rel => exact ⟨k + 1, by omega, by go_num, ⟨HSET.out.drew⟩, ⟨(HB2.out.setCell (Nat.le_refl _) _).drew⟩⟩
          case measure => simp [intOf]; omega
      · have hltz : ¬ (k : Int) < (a0.size : Int) := by omega
        have hkk : k = a0.size := by omega
        subst hkk
        have hback := HROW2.out.back (P := Try.prog) 55 9 Try.underlying55 Try.underlying5 Try.underlying9 a0.size c (by rw [bothB_length, bytesI_length])
        rw [HR.out] at hback
        go_wp2
        go_ret2
        exact ⟨rfl, HB2.out⟩
  · rw [if_neg hs] at h
    simp only [Option.some.injEq, Prod.mk.injEq] at h
    obtain ⟨rfl, rfl⟩ := h
    have t1 : ((a0.size : Int) == (a1.size : Int)) = false := by rw [beq_eq_false_iff_ne]; omega
    have t2 : ((a0.size : Int) != (a1.size : Int)) = true := by rw [bne_iff_ne]; omega
    clear hs
    go_enter Try.func32, Try.ntmps32
    go_wp2
    go_ret2
    exact ⟨rfl, Below.refl _ _⟩

/-! ### bits_Minus: function 33 -/
def bits_Minus.f (a0 : ByteArray) (a1 : ByteArray) : Option (ByteArray × Int) := if a0.size = a1.size then (if a0.size ≤ 140737488351232 then some (strOfNums (bothB .andNot (bytesI a0) (bytesI a1) a0.size), 0) else none) else some (⟨#[]⟩, 1)
set_option maxHeartbeats 1000000 in
theorem bits_Minus.calls (a0 : ByteArray) (a1 : ByteArray) (r1 : ByteArray) (r2 : Int) (w : World) (h : bits_Minus.f a0 a1 = some (r1, r2)) :
    Calls Try.prog 33 #[.string a0, .string a1] w fun e w' => e = .returned (.tuple #[.string r1, .int .i64 r2]) ∧ Below w.heap.size w w' := by
  unfold bits_Minus.f at h
  by_cases hs : a0.size = a1.size
  · rw [if_pos hs] at h
    split at h
    rotate_left
    · cases h
    rename_i hsz
    simp only [Option.some.injEq, Prod.mk.injEq] at h
    obtain ⟨h, rfl⟩ := h
    have HR := Aside0.mk h
    clear h
    obtain ⟨w1, c, hrun, hrow, hb, hc, hz⟩ := run_bytes (P := Try.prog) w 9 55 5 a0 Try.underlying9 Try.underlying55 Try.underlying5
    have HB1 := Aside0.mk hb
    have HROW := Aside0.mk hrow
    have HS := Aside0.mk hs
    have t1 : ((a0.size : Int) == (a1.size : Int)) = true := by rw [hs]; simp
    have t2 : ((a0.size : Int) != (a1.size : Int)) = false := by rw [hs]; simp
    clear hb hrow hz hs
    go_enter Try.func33, Try.ntmps33
    go_wp2
    go_loopw [7, 17] (fun _ v17 wr => ∃ k : Nat, k ≤ a0.size ∧ v17 = .int .i64 k ∧ Aside0 (ByteRow 5 wr w.heap.size (bothB .andNot (bytesI a0) (bytesI a1) k)) ∧ Aside0 (Below w.heap.size w wr)) (fun _ v17 _ => a0.size - (intOf v17).toNat)
    case atStart => exact ⟨0, Nat.zero_le _, rfl, HROW, HB1⟩
    case round =>
      obtain ⟨k, hk, rfl, HROW2, HB2⟩ := hrel
      clear HROW HB1
      by_cases hlt : k < a0.size
      · have hltz : (k : Int) < (a0.size : Int) := by omega
        have hlt1 : k < a1.size := by have := HS.out; omega
        have hlt1z : (k : Int) < (a1.size : Int) := by omega
        have hlen : (bothB .andNot (bytesI a0) (bytesI a1) k).length = a0.size := by rw [bothB_length, bytesI_length]
        have hcell := HROW2.out.cell k (by omega)
        have hfr := HROW2.out.frozen k (by omega)
        have hset := HROW2.out.set k (by omega) (Go.bits .andNot .u8 ((bothB .andNot (bytesI a0) (bytesI a1) k).getD k 0) ((bytesI a1).getD k 0))
        have hst : bothB .andNot (bytesI a0) (bytesI a1) (k + 1) = (bothB .andNot (bytesI a0) (bytesI a1) k).set k (Go.bits .andNot .u8 ((bothB .andNot (bytesI a0) (bytesI a1) k).getD k 0) ((bytesI a1).getD k 0)) := rfl
        rw [← hst, bytesI_getD a1 k hlt1] at hset
        have HSET := Aside0.mk hset
        clear hset hst hlen
        generalize (bothB .andNot (bytesI a0) (bytesI a1) k).getD k 0 = x at *
        go_wp2_with fail
        go_region
        all_goals
          go_wp2
          go_roundw
          case rel => exact ⟨k + 1, by omega, by go_num, ⟨HSET.out.drew⟩, ⟨(HB2.out.setCell (Nat.le_refl _) _).drew⟩⟩
          case measure => simp [intOf]; omega
      · have hltz : ¬ (k : Int) < (a0.size : Int) := by omega
        have hkk : k = a0.size := by omega
        subst hkk
        have hback := HROW2.out.back (P := Try.prog) 55 9 Try.underlying55 Try.underlying5 Try.underlying9 a0.size c (by rw [bothB_length, bytesI_length])
        rw [HR.out] at hback
        go_wp2
        go_ret2
        exact ⟨rfl, HB2.out⟩
  · rw [if_neg hs] at h
    simp only [Option.some.injEq, Prod.mk.injEq] at h
    obtain ⟨rfl, rfl⟩ := h
    have t1 : ((a0.size : Int) == (a1.size : Int)) = false := by rw [beq_eq_false_iff_ne]; omega
    have t2 : ((a0.size : Int) != (a1.size : Int)) = true := by rw [bne_iff_ne]; omega
    clear hs
    go_enter Try.func33, Try.ntmps33
    go_wp2
    go_ret2
    exact ⟨rfl, Below.refl _ _⟩

end Go.Proofs.Ytkfilmhconpnbaa.PBitsSets
