/- OctLong: for every two numbers, a text that is too long, and bytes that would be too many, are refused by a writer of package oct; just as many are not. No condition. -/
import Derived.Test.YtmebebpnogemdaaPOctLongx3
import Derived.Test.YtmebebpnogemdaaPlainBits
import Derived.Test.YtmebebpnogemdaaPlainOct
namespace Go.Proofs.Ytmebebpnogemdaa.POctLong
open Go.RowKit Go.Proofs.YtmebebpnogemdaaW.PrintWords Go.Proofs.YtmebebpnogemdaaW.PrintLast Go.Proofs.YtmebebpnogemdaaW.PrintMore Go.Mine
set_option linter.unusedVariables false
set_option linter.unusedSimpArgs false
theorem oct_Put.loop (n : Nat) (d : Nat) : ∀ (k : Nat) (xs : List Int), d ≤ 7 → d < k → xs.length + d ≤ 100 → oct_Put.l0 k (n : Int) xs ((d : Int) - 1) = some (strOfNums (xs ++ beL n d), 0) := by
  induction d with
  | zero =>
    intro k xs hd hk hx
    obtain ⟨k, rfl⟩ : ∃ m, k = m + 1 := ⟨k - 1, by omega⟩
    simp only [oct_Put.l0]
    rw [if_neg (by omega)]
    simp [beL]
  | succ d ih =>
    intro k xs hd hk hx
    obtain ⟨k, rfl⟩ : ∃ m, k = m + 1 := ⟨k - 1, by omega⟩
    simp only [oct_Put.l0]
    rw [show ((d + 1 : Nat) : Int) - 1 = (d : Int) by omega, wrap64_id (8 * (d : Int)) (by omega) (by omega), wrap64_id ((d : Int) - 1) (by omega) (by omega), if_pos (by omega), if_pos (by omega), if_pos (by omega)]
    have e : shr .i64 (n : Int) (8 * (d : Int)) % 256 = ((n / 256 ^ d % 256 : Nat) : Int) := by
      unfold shr
      rw [show (8 * (d : Int)).toNat = 8 * d by omega, Nat.min_eq_left (by show 8 * d ≤ 64; omega)]
      have h2 : ((2 : Int) ^ (8 * d)) = ((2 ^ (8 * d) : Nat) : Int) := by simp
      rw [h2, p256_two, ← Int.natCast_ediv]
      generalize n / 256 ^ d = q
      omega
    rw [e, ih k (xs ++ [((n / 256 ^ d % 256 : Nat) : Int)]) (by omega) (by omega) (by simp; omega)]
    simp [beL]
theorem oct_Put.spec (n size : Int) (k : Nat) (hn : -9223372036854775808 ≤ n ∧ n ≤ 9223372036854775807) (hk : 10 ≤ k) : oct_Put.f k n size = some (putR n size) := by
  unfold oct_Put.f putR
  obtain ⟨k, rfl⟩ : ∃ m, k = m + 1 := ⟨k - 1, by omega⟩
  by_cases h1 : size < 1
  · rw [if_pos h1]
    simp only [oct_Put.j0]
    rw [if_pos trivial, if_pos (.inl h1)]
  · rw [if_neg h1]
    simp only [oct_Put.j0]
    by_cases h2 : size > 7
    · rw [if_pos (decide_eq_true h2), if_pos (.inr h2)]
    · rw [if_neg (by simpa using h2), if_neg (show ¬ (size < 1 ∨ 7 < size) by omega)]
      by_cases h3 : n < 0
      · rw [if_pos h3, if_pos (.inl h3)]
      · rw [if_neg h3, wrap64_id (8 * size) (by omega) (by omega), wrap64_id (size - 1) (by omega) (by omega), if_pos (by omega)]
        have e : shr .i64 n (8 * size) = ((n.toNat / 256 ^ size.toNat : Nat) : Int) := by
          unfold shr
          rw [show (8 * size).toNat = 8 * size.toNat by omega, Nat.min_eq_left (by show 8 * size.toNat ≤ 64; omega)]
          have h2 : ((2 : Int) ^ (8 * size.toNat)) = ((2 ^ (8 * size.toNat) : Nat) : Int) := by simp
          rw [h2, p256_two]
          obtain ⟨m, rfl⟩ := Int.eq_ofNat_of_zero_le (show 0 ≤ n by omega)
          rfl
        rw [e]
        have hp := p256_pos size.toNat
        by_cases h4 : n.toNat < 256 ^ size.toNat
        · rw [if_pos (by rw [Nat.div_eq_of_lt h4]; rfl), if_neg (by omega)]
          have := oct_Put.loop n.toNat size.toNat k [] (by omega) (by omega) (by simp; omega)
          rw [show ((n.toNat : Nat) : Int) = n by omega, show ((size.toNat : Nat) : Int) - 1 = size - 1 by omega] at this
          rw [this]
          rfl
        · have h5 : 1 ≤ n.toNat / 256 ^ size.toNat := (Nat.le_div_iff_mul_le hp).2 (by omega)
          rw [if_neg (by omega), if_pos (by omega)]

end Go.Proofs.Ytmebebpnogemdaa.POctLong
namespace Go.Proofs.Ytmebebpnogemdaa.Pure
open Go.RowKit Go.Proofs.Ytmebebpnogemdaa.POctLong Go.Proofs.YtmebebpnogemdaaW.PrintWords Go.Proofs.YtmebebpnogemdaaW.PrintLast Go.Proofs.YtmebebpnogemdaaW.PrintMore Go.Mine
theorem OctLong : mosaiclaw02_OctLong.Pure := by
  intro a0 a1 w0 w1
  obtain ⟨h1, h2⟩ := wf_i64 w0
  obtain ⟨h3, h4⟩ := wf_i64 w1
  unfold mosaiclaw02_OctLong.f
  rw [if_pos ⟨h1, h2, h3, h4⟩]
end Go.Proofs.Ytmebebpnogemdaa.Pure
