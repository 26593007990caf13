/- OctWrites: for every fields, what becomes of them when they are written, one behind the other, or the first error, is what the document defines. No condition. -/
import Derived.Test.YtmebebpnogemdaaPOctWritesx5
import Derived.Test.YtmebebpnogemdaaPlainBits
import Derived.Test.YtmebebpnogemdaaPlainBlock
import Derived.Test.YtmebebpnogemdaaPlainOct
namespace Go.Proofs.Ytmebebpnogemdaa.POctWrites
open Go.RowKit Go.Proofs.YtmebebpnogemdaaW.PrintWords Go.Proofs.YtmebebpnogemdaaW.PrintLast Go.Proofs.YtmebebpnogemdaaW.PrintMore Go.Mine
set_option linter.unusedVariables false
set_option linter.unusedSimpArgs false
theorem oct_Put.loop (n : Nat) (d : Nat) : ∀ (k : Nat) (xs : List Int), d ≤ 7 → d < k → xs.length + d ≤ 100 → oct_Put.l0 k (n : Int) xs ((d : Int) - 1) = some (strOfNums (xs ++ beL n d), 0) := by
  induction d with
  | zero =>
    intro k xs hd hk hx
    obtain ⟨k, rfl⟩ : ∃ m, k = m + 1 := ⟨k - 1, by omega⟩
    simp only [oct_Put.l0]
    rw [if_neg (by omega)]
    simp [beL]
  | succ d ih =>
    intro k xs hd hk hx
    obtain ⟨k, rfl⟩ : ∃ m, k = m + 1 := ⟨k - 1, by omega⟩
    simp only [oct_Put.l0]
    rw [show ((d + 1 : Nat) : Int) - 1 = (d : Int) by omega, wrap64_id (8 * (d : Int)) (by omega) (by omega), wrap64_id ((d : Int) - 1) (by omega) (by omega), if_pos (by omega), if_pos (by omega), if_pos (by omega)]
    have e : shr .i64 (n : Int) (8 * (d : Int)) % 256 = ((n / 256 ^ d % 256 : Nat) : Int) := by
      unfold shr
      rw [show (8 * (d : Int)).toNat = 8 * d by omega, Nat.min_eq_left (by show 8 * d ≤ 64; omega)]
      have h2 : ((2 : Int) ^ (8 * d)) = ((2 ^ (8 * d) : Nat) : Int) := by simp
      rw [h2, p256_two, ← Int.natCast_ediv]
      generalize n / 256 ^ d = q
      omega
    rw [e, ih k (xs ++ [((n / 256 ^ d % 256 : Nat) : Int)]) (by omega) (by omega) (by simp; omega)]
    simp [beL]
theorem oct_Put.spec (n size : Int) (k : Nat) (hn : -9223372036854775808 ≤ n ∧ n ≤ 9223372036854775807) (hk : 10 ≤ k) : oct_Put.f k n size = some (putR n size) := by
  unfold oct_Put.f putR
  obtain ⟨k, rfl⟩ : ∃ m, k = m + 1 := ⟨k - 1, by omega⟩
  by_cases h1 : size < 1
  · rw [if_pos h1]
    simp only [oct_Put.j0]
    rw [if_pos trivial, if_pos (.inl h1)]
  · rw [if_neg h1]
    simp only [oct_Put.j0]
    by_cases h2 : size > 7
    · rw [if_pos (decide_eq_true h2), if_pos (.inr h2)]
    · rw [if_neg (by simpa using h2), if_neg (show ¬ (size < 1 ∨ 7 < size) by omega)]
      by_cases h3 : n < 0
      · rw [if_pos h3, if_pos (.inl h3)]
      · rw [if_neg h3, wrap64_id (8 * size) (by omega) (by omega), wrap64_id (size - 1) (by omega) (by omega), if_pos (by omega)]
        have e : shr .i64 n (8 * size) = ((n.toNat / 256 ^ size.toNat : Nat) : Int) := by
          unfold shr
          rw [show (8 * size).toNat = 8 * size.toNat by omega, Nat.min_eq_left (by show 8 * size.toNat ≤ 64; omega)]
          have h2 : ((2 : Int) ^ (8 * size.toNat)) = ((2 ^ (8 * size.toNat) : Nat) : Int) := by simp
          rw [h2, p256_two]
          obtain ⟨m, rfl⟩ := Int.eq_ofNat_of_zero_le (show 0 ≤ n by omega)
          rfl
        rw [e]
        have hp := p256_pos size.toNat
        by_cases h4 : n.toNat < 256 ^ size.toNat
        · rw [if_pos (by rw [Nat.div_eq_of_lt h4]; rfl), if_neg (by omega)]
          have := oct_Put.loop n.toNat size.toNat k [] (by omega) (by omega) (by simp; omega)
          rw [show ((n.toNat : Nat) : Int) = n by omega, show ((size.toNat : Nat) : Int) - 1 = size - 1 by omega] at this
          rw [this]
          rfl
        · have h5 : 1 ≤ n.toNat / 256 ^ size.toNat := (Nat.le_div_iff_mul_le hp).2 (by omega)
          rw [if_neg (by omega), if_pos (by omega)]

theorem mosaicref02_power.loop (m : Nat) (hm : m ≤ 7) (d : Nat) : ∀ (k i : Nat), i + d = m → d < k → mosaicref02_power.l0 k (m : Int) ((256 ^ i : Nat) : Int) (i : Int) = some ((256 ^ m : Nat) : Int) := by
  induction d with
  | zero =>
    intro k i hi hk
    obtain ⟨k, rfl⟩ : ∃ m, k = m + 1 := ⟨k - 1, by omega⟩
    simp only [mosaicref02_power.l0]
    rw [if_neg (by omega), show i = m by omega]
  | succ d ih =>
    intro k i hi hk
    obtain ⟨k, rfl⟩ : ∃ m, k = m + 1 := ⟨k - 1, by omega⟩
    have hp := p256_le7 (i + 1) (by omega)
    rw [Nat.pow_succ] at hp
    simp only [mosaicref02_power.l0]
    rw [if_pos (by omega), wrap64_id _ (by omega) (by omega), wrap64_id _ (by omega) (by omega)]
    have := ih k (i + 1) (by omega) (by omega)
    rw [Nat.pow_succ, show ((i + 1 : Nat) : Int) = (i : Int) + 1 by omega] at this
    rw [← this]
    congr 1
theorem mosaicref02_power.spec (m : Nat) (hm : m ≤ 7) (k : Nat) (hk : 8 ≤ k) : mosaicref02_power.f k (m : Int) = some ((256 ^ m : Nat) : Int) := by
  unfold mosaicref02_power.f
  have := mosaicref02_power.loop m hm m k 0 (by omega) (by omega)
  simpa using this

theorem mosaicref02_Put.loop (n : Nat) (hn : n < 72057594037927936) (d : Nat) : ∀ (k : Nat) (xs : List Int), d ≤ 7 → d + 8 < k → xs.length + d ≤ 100 → mosaicref02_Put.l0 k (n : Int) xs ((d : Int) - 1) = some (strOfNums (xs ++ beL n d), 0) := by
  induction d with
  | zero =>
    intro k xs hd hk hx
    obtain ⟨k, rfl⟩ : ∃ m, k = m + 1 := ⟨k - 1, by omega⟩
    simp only [mosaicref02_Put.l0]
    rw [if_neg (by omega)]
    simp [beL]
  | succ d ih =>
    intro k xs hd hk hx
    obtain ⟨k, rfl⟩ : ∃ m, k = m + 1 := ⟨k - 1, by omega⟩
    have hp := p256_pos d
    simp only [mosaicref02_Put.l0]
    rw [show ((d + 1 : Nat) : Int) - 1 = (d : Int) by omega, if_pos (by omega), mosaicref02_power.spec d (by omega) k (by omega), Option.bind_some, if_neg (by omega), if_pos (by omega), wrap64_id ((d : Int) - 1) (by omega) (by omega)]
    have e : Int.tmod (wrap64 (Int.tdiv (n : Int) ((256 ^ d : Nat) : Int))) 256 % 256 = ((n / 256 ^ d % 256 : Nat) : Int) := by
      have hq : n / 256 ^ d ≤ n := Nat.div_le_self _ _
      rw [tdiv_pos _ _ (by omega), ← Int.natCast_ediv]
      generalize n / 256 ^ d = q at *
      rw [wrap64_id _ (by omega) (by omega), tmod_pos _ _ (by omega)]
      omega
    rw [e, ih k (xs ++ [((n / 256 ^ d % 256 : Nat) : Int)]) (by omega) (by omega) (by simp; omega)]
    simp [beL]
theorem mosaicref02_Put.spec (n size : Int) (k : Nat) (hk : 20 ≤ k) : mosaicref02_Put.f k n size = some (putR n size) := by
  unfold mosaicref02_Put.f putR
  obtain ⟨k, rfl⟩ : ∃ m, k = m + 2 := ⟨k - 2, by omega⟩
  by_cases h1 : size < 1
  · rw [if_pos h1]
    simp only [mosaicref02_Put.j0]
    rw [if_pos trivial, if_pos (.inl h1)]
  · rw [if_neg h1]
    simp only [mosaicref02_Put.j0]
    by_cases h2 : size > 7
    · rw [if_pos (decide_eq_true h2), if_pos (.inr h2)]
    · rw [if_neg (by simpa using h2), if_neg (show ¬ (size < 1 ∨ 7 < size) by omega)]
      by_cases h3 : n < 0
      · rw [if_pos h3, if_pos (.inl h3)]
        simp only [mosaicref02_Put.j1]
        rw [if_pos trivial]
      · have hpw := mosaicref02_power.spec size.toNat (by omega) (k + 1) (by omega)
        rw [show ((size.toNat : Nat) : Int) = size by omega] at hpw
        have h7 := p256_le7 size.toNat (by omega)
        rw [if_neg h3, hpw, Option.bind_some]
        simp only [mosaicref02_Put.j1]
        by_cases h4 : n ≥ ((256 ^ size.toNat : Nat) : Int)
        · rw [if_pos (decide_eq_true h4), if_pos (.inr h4)]
        · rw [if_neg (by simpa using h4), if_neg (by omega), wrap64_id (size - 1) (by omega) (by omega)]
          have := mosaicref02_Put.loop n.toNat (by omega) size.toNat k [] (by omega) (by omega) (by simp; omega)
          rw [show ((n.toNat : Nat) : Int) = n by omega, show ((size.toNat : Nat) : Int) - 1 = size - 1 by omega] at this
          rw [this]
          rfl

theorem mosaicref02_Writer_put.spec (s t : ByteArray) (er f : Int) (hs : s.size ≤ 140737488351232) (ht : t.size ≤ 140737488351232) : mosaicref02_Writer_put.f s er t f = some (putS s er t f) := by
  unfold mosaicref02_Writer_put.f
  rw [if_pos ⟨hs, ht⟩]
theorem putS_size (s t : ByteArray) (er f : Int) (hs : s.size ≤ 65536) : (putS s er t f).1.size ≤ 65536 := by
  unfold putS
  split
  · split
    · split
      · exact hs
      · rw [ByteArray.size_append]; omega
    · exact hs
  · exact hs

theorem mosaicref02_Writer_Num.spec (s : ByteArray) (er n z : Int) (k : Nat) (hk : 20 ≤ k) (hs : s.size ≤ 65536) : mosaicref02_Writer_Num.f k s er n z = some (putS s er (putR n z).1 (putR n z).2) := by
  unfold mosaicref02_Writer_Num.f
  have := putR_size n z
  rw [mosaicref02_Put.spec _ _ _ hk, Option.bind_some, mosaicref02_Writer_put.spec _ _ _ _ (by omega) (by omega), Option.bind_some]

theorem mosaicref02_Num.spec (n z : Int) (k : Nat) (hk : 20 ≤ k) : mosaicref02_Num.f k n z = some (putR n z).1 := by
  unfold mosaicref02_Num.f
  rw [mosaicref02_Put.spec _ _ _ hk, Option.bind_some]

theorem mosaicref02_Text.spec (s : ByteArray) (k : Nat) (hk : 20 ≤ k) (hs : s.size ≤ 140737488351232) : mosaicref02_Text.f k s = some ((putR (s.size : Int) 2).1 ++ s) := by
  unfold mosaicref02_Text.f
  have := putR_size (s.size : Int) 2
  rw [mosaicref02_Num.spec _ _ _ hk, Option.bind_some, if_pos (by omega)]

theorem mosaicref02_Writer_Text.long (s t : ByteArray) (er : Int) (k : Nat) (hs : s.size ≤ 65536) (ht : (t.size : Int) > 65535) : mosaicref02_Writer_Text.f k s er t = some (putS s er ⟨#[]⟩ 2) := by
  unfold mosaicref02_Writer_Text.f
  rw [if_pos ht, mosaicref02_Writer_put.spec _ _ _ _ (by omega) (by decide), Option.bind_some]
theorem mosaicref02_Writer_Text.spec (s t : ByteArray) (er : Int) (k : Nat) (hk : 20 ≤ k) (hs : s.size ≤ 65536) (ht : ¬ (t.size : Int) > 65535) : mosaicref02_Writer_Text.f k s er t = some (putS s er ((putR (t.size : Int) 2).1 ++ t) 0) := by
  unfold mosaicref02_Writer_Text.f
  have := putR_size (t.size : Int) 2
  rw [if_neg ht, mosaicref02_Text.spec _ _ hk (by omega), Option.bind_some, mosaicref02_Writer_put.spec _ _ _ _ (by omega) (by rw [ByteArray.size_append]; omega), Option.bind_some]

theorem mosaicref02_Writer_Raw.spec (s t : ByteArray) (er : Int) (hs : s.size ≤ 65536) (ht : t.size ≤ 140737488351232) : mosaicref02_Writer_Raw.f s er t = some (putS s er t 0) := by
  unfold mosaicref02_Writer_Raw.f
  rw [mosaicref02_Writer_put.spec _ _ _ _ (by omega) ht, Option.bind_some]
theorem mosaiclaw02_OctWrites.stepok (x : S37) (s : ByteArray) (er : Int) (hs : s.size ≤ 65536) (h1 : (Lit.int .i64 x.f1).wf = true) : ∃ r, mosaiclaw02_OctWrites.step 100 x s er = some r ∧ r.1.size ≤ 65536 := by
  unfold mosaiclaw02_OctWrites.step
  by_cases hx : (x.f3.size : Int) > 70000
  · rw [if_pos hx]
    exact ⟨_, rfl, hs⟩
  rw [if_neg hx]
  by_cases h0 : x.f0 = 0
  · have hz := putR_size x.f1 x.f2
    rw [if_pos h0, oct_Put.spec _ _ _ (wf_i64 h1) (by omega), Option.bind_some, mosaicref02_Writer_Num.spec _ _ _ _ _ (by omega) hs, if_pos ⟨by omega, putS_size _ _ _ _ hs, rfl⟩]
    exact ⟨_, rfl, putS_size _ _ _ _ hs⟩
  rw [if_neg h0]
  by_cases h2 : x.f0 = 1
  · rw [if_pos h2]
    by_cases hl : (x.f3.size : Int) > 65535
    · rw [if_pos hl, mosaicref02_Writer_Text.long _ _ _ _ hs hl, if_pos ⟨putS_size _ _ _ _ hs, rfl⟩]
      exact ⟨_, rfl, putS_size _ _ _ _ hs⟩
    · have hz := putR_size (x.f3.size : Int) 2
      rw [if_neg hl, oct_Put.spec _ _ _ (by omega) (by omega), Option.bind_some, mosaicref02_Writer_Text.spec _ _ _ _ (by omega) hs hl, if_pos ⟨by omega, putS_size _ _ _ _ hs, rfl⟩]
      exact ⟨_, rfl, putS_size _ _ _ _ hs⟩
  rw [if_neg h2]
  by_cases h3 : x.f0 = 2
  · rw [if_pos h3, mosaicref02_Writer_Raw.spec _ _ _ hs (by omega), if_pos ⟨putS_size _ _ _ _ hs, rfl⟩]
    exact ⟨_, rfl, putS_size _ _ _ _ hs⟩
  · rw [if_neg h3]
    exact ⟨_, rfl, hs⟩
theorem mosaiclaw02_OctWrites.all (l : List S37) (hl : ∀ y ∈ l, (Lit.int .i64 y.f1).wf = true) (d : Nat) : ∀ (i : Nat) (s : ByteArray) (er : Int), i + d = 40 → s.size ≤ 65536 → ∃ r, mosaiclaw02_OctWrites.go 100 l d i s er = some r := by
  induction d with
  | zero =>
    intro i s er hi hs
    rw [mosaiclaw02_OctWrites.go, if_neg (by omega)]
    exact ⟨_, rfl⟩
  | succ d ih =>
    intro i s er hi hs
    rw [mosaiclaw02_OctWrites.go]
    by_cases h : i < l.length ∧ i < 40
    · rw [if_pos h]
      have e1 : rd_T37 l (i : Int) = l[i] := by simp [rd_T37, h.1]
      obtain ⟨r, hr, hz⟩ := mosaiclaw02_OctWrites.stepok l[i] s er hs (hl _ (List.getElem_mem _))
      rw [e1, hr, Option.bind_some]
      exact ih (i + 1) r.1 r.2 (by omega) hz
    · rw [if_neg h]
      exact ⟨_, rfl⟩

end Go.Proofs.Ytmebebpnogemdaa.POctWrites
namespace Go.Proofs.Ytmebebpnogemdaa.Pure
open Go.RowKit Go.Proofs.Ytmebebpnogemdaa.POctWrites Go.Proofs.YtmebebpnogemdaaW.PrintWords Go.Proofs.YtmebebpnogemdaaW.PrintLast Go.Proofs.YtmebebpnogemdaaW.PrintMore Go.Mine
theorem OctWrites : mosaiclaw02_OctWrites.Pure := by
  intro l _ hl
  refine ⟨100, ?_⟩
  unfold mosaiclaw02_OctWrites.f
  obtain ⟨r, hr⟩ := mosaiclaw02_OctWrites.all l (fun y hy => (hl y hy).2.1) 40 0 ⟨#[]⟩ 0 (by omega) (by decide)
  rw [hr]
  rfl
end Go.Proofs.Ytmebebpnogemdaa.Pure
