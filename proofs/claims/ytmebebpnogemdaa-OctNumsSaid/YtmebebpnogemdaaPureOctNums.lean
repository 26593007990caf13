/- OctNums: for every number, size and text, Put and Get of package oct answer what the document defines, or its error, and undo each other. No condition. -/
import Derived.Test.YtmebebpnogemdaaPOctNumsx4
import Derived.Test.YtmebebpnogemdaaPlainBits
import Derived.Test.YtmebebpnogemdaaPlainOct
namespace Go.Proofs.Ytmebebpnogemdaa.POctNums
open Go.RowKit Go.Proofs.YtmebebpnogemdaaW.PrintWords Go.Proofs.YtmebebpnogemdaaW.PrintLast Go.Proofs.YtmebebpnogemdaaW.PrintMore Go.Mine
set_option linter.unusedVariables false
set_option linter.unusedSimpArgs false
theorem oct_Put.loop (n : Nat) (d : Nat) : ∀ (k : Nat) (xs : List Int), d ≤ 7 → d < k → xs.length + d ≤ 100 → oct_Put.l0 k (n : Int) xs ((d : Int) - 1) = some (strOfNums (xs ++ beL n d), 0) := by
  induction d with
  | zero =>
    intro k xs hd hk hx
    obtain ⟨k, rfl⟩ : ∃ m, k = m + 1 := ⟨k - 1, by omega⟩
    simp only [oct_Put.l0]
    rw [if_neg (by omega)]
    simp [beL]
  | succ d ih =>
    intro k xs hd hk hx
    obtain ⟨k, rfl⟩ : ∃ m, k = m + 1 := ⟨k - 1, by omega⟩
    simp only [oct_Put.l0]
    rw [show ((d + 1 : Nat) : Int) - 1 = (d : Int) by omega, wrap64_id (8 * (d : Int)) (by omega) (by omega), wrap64_id ((d : Int) - 1) (by omega) (by omega), if_pos (by omega), if_pos (by omega), if_pos (by omega)]
    have e : shr .i64 (n : Int) (8 * (d : Int)) % 256 = ((n / 256 ^ d % 256 : Nat) : Int) := by
      unfold shr
      rw [show (8 * (d : Int)).toNat = 8 * d by omega, Nat.min_eq_left (by show 8 * d ≤ 64; omega)]
      have h2 : ((2 : Int) ^ (8 * d)) = ((2 ^ (8 * d) : Nat) : Int) := by simp
      rw [h2, p256_two, ← Int.natCast_ediv]
      generalize n / 256 ^ d = q
      omega
    rw [e, ih k (xs ++ [((n / 256 ^ d % 256 : Nat) : Int)]) (by omega) (by omega) (by simp; omega)]
    simp [beL]
theorem oct_Put.spec (n size : Int) (k : Nat) (hn : -9223372036854775808 ≤ n ∧ n ≤ 9223372036854775807) (hk : 10 ≤ k) : oct_Put.f k n size = some (putR n size) := by
  unfold oct_Put.f putR
  obtain ⟨k, rfl⟩ : ∃ m, k = m + 1 := ⟨k - 1, by omega⟩
  by_cases h1 : size < 1
  · rw [if_pos h1]
    simp only [oct_Put.j0]
    rw [if_pos trivial, if_pos (.inl h1)]
  · rw [if_neg h1]
    simp only [oct_Put.j0]
    by_cases h2 : size > 7
    · rw [if_pos (decide_eq_true h2), if_pos (.inr h2)]
    · rw [if_neg (by simpa using h2), if_neg (show ¬ (size < 1 ∨ 7 < size) by omega)]
      by_cases h3 : n < 0
      · rw [if_pos h3, if_pos (.inl h3)]
      · rw [if_neg h3, wrap64_id (8 * size) (by omega) (by omega), wrap64_id (size - 1) (by omega) (by omega), if_pos (by omega)]
        have e : shr .i64 n (8 * size) = ((n.toNat / 256 ^ size.toNat : Nat) : Int) := by
          unfold shr
          rw [show (8 * size).toNat = 8 * size.toNat by omega, Nat.min_eq_left (by show 8 * size.toNat ≤ 64; omega)]
          have h2 : ((2 : Int) ^ (8 * size.toNat)) = ((2 ^ (8 * size.toNat) : Nat) : Int) := by simp
          rw [h2, p256_two]
          obtain ⟨m, rfl⟩ := Int.eq_ofNat_of_zero_le (show 0 ≤ n by omega)
          rfl
        rw [e]
        have hp := p256_pos size.toNat
        by_cases h4 : n.toNat < 256 ^ size.toNat
        · rw [if_pos (by rw [Nat.div_eq_of_lt h4]; rfl), if_neg (by omega)]
          have := oct_Put.loop n.toNat size.toNat k [] (by omega) (by omega) (by simp; omega)
          rw [show ((n.toNat : Nat) : Int) = n by omega, show ((size.toNat : Nat) : Int) - 1 = size - 1 by omega] at this
          rw [this]
          rfl
        · have h5 : 1 ≤ n.toNat / 256 ^ size.toNat := (Nat.le_div_iff_mul_le hp).2 (by omega)
          rw [if_neg (by omega), if_pos (by omega)]

theorem mosaicref02_power.loop (m : Nat) (hm : m ≤ 7) (d : Nat) : ∀ (k i : Nat), i + d = m → d < k → mosaicref02_power.l0 k (m : Int) ((256 ^ i : Nat) : Int) (i : Int) = some ((256 ^ m : Nat) : Int) := by
  induction d with
  | zero =>
    intro k i hi hk
    obtain ⟨k, rfl⟩ : ∃ m, k = m + 1 := ⟨k - 1, by omega⟩
    simp only [mosaicref02_power.l0]
    rw [if_neg (by omega), show i = m by omega]
  | succ d ih =>
    intro k i hi hk
    obtain ⟨k, rfl⟩ : ∃ m, k = m + 1 := ⟨k - 1, by omega⟩
    have hp := p256_le7 (i + 1) (by omega)
    rw [Nat.pow_succ] at hp
    simp only [mosaicref02_power.l0]
    rw [if_pos (by omega), wrap64_id _ (by omega) (by omega), wrap64_id _ (by omega) (by omega)]
    have := ih k (i + 1) (by omega) (by omega)
    rw [Nat.pow_succ, show ((i + 1 : Nat) : Int) = (i : Int) + 1 by omega] at this
    rw [← this]
    congr 1
theorem mosaicref02_power.spec (m : Nat) (hm : m ≤ 7) (k : Nat) (hk : 8 ≤ k) : mosaicref02_power.f k (m : Int) = some ((256 ^ m : Nat) : Int) := by
  unfold mosaicref02_power.f
  have := mosaicref02_power.loop m hm m k 0 (by omega) (by omega)
  simpa using this

theorem mosaicref02_Put.loop (n : Nat) (hn : n < 72057594037927936) (d : Nat) : ∀ (k : Nat) (xs : List Int), d ≤ 7 → d + 8 < k → xs.length + d ≤ 100 → mosaicref02_Put.l0 k (n : Int) xs ((d : Int) - 1) = some (strOfNums (xs ++ beL n d), 0) := by
  induction d with
  | zero =>
    intro k xs hd hk hx
    obtain ⟨k, rfl⟩ : ∃ m, k = m + 1 := ⟨k - 1, by omega⟩
    simp only [mosaicref02_Put.l0]
    rw [if_neg (by omega)]
    simp [beL]
  | succ d ih =>
    intro k xs hd hk hx
    obtain ⟨k, rfl⟩ : ∃ m, k = m + 1 := ⟨k - 1, by omega⟩
    have hp := p256_pos d
    simp only [mosaicref02_Put.l0]
    rw [show ((d + 1 : Nat) : Int) - 1 = (d : Int) by omega, if_pos (by omega), mosaicref02_power.spec d (by omega) k (by omega), Option.bind_some, if_neg (by omega), if_pos (by omega), wrap64_id ((d : Int) - 1) (by omega) (by omega)]
    have e : Int.tmod (wrap64 (Int.tdiv (n : Int) ((256 ^ d : Nat) : Int))) 256 % 256 = ((n / 256 ^ d % 256 : Nat) : Int) := by
      have hq : n / 256 ^ d ≤ n := Nat.div_le_self _ _
      rw [tdiv_pos _ _ (by omega), ← Int.natCast_ediv]
      generalize n / 256 ^ d = q at *
      rw [wrap64_id _ (by omega) (by omega), tmod_pos _ _ (by omega)]
      omega
    rw [e, ih k (xs ++ [((n / 256 ^ d % 256 : Nat) : Int)]) (by omega) (by omega) (by simp; omega)]
    simp [beL]
theorem mosaicref02_Put.spec (n size : Int) (k : Nat) (hk : 20 ≤ k) : mosaicref02_Put.f k n size = some (putR n size) := by
  unfold mosaicref02_Put.f putR
  obtain ⟨k, rfl⟩ : ∃ m, k = m + 2 := ⟨k - 2, by omega⟩
  by_cases h1 : size < 1
  · rw [if_pos h1]
    simp only [mosaicref02_Put.j0]
    rw [if_pos trivial, if_pos (.inl h1)]
  · rw [if_neg h1]
    simp only [mosaicref02_Put.j0]
    by_cases h2 : size > 7
    · rw [if_pos (decide_eq_true h2), if_pos (.inr h2)]
    · rw [if_neg (by simpa using h2), if_neg (show ¬ (size < 1 ∨ 7 < size) by omega)]
      by_cases h3 : n < 0
      · rw [if_pos h3, if_pos (.inl h3)]
        simp only [mosaicref02_Put.j1]
        rw [if_pos trivial]
      · have hpw := mosaicref02_power.spec size.toNat (by omega) (k + 1) (by omega)
        rw [show ((size.toNat : Nat) : Int) = size by omega] at hpw
        have h7 := p256_le7 size.toNat (by omega)
        rw [if_neg h3, hpw, Option.bind_some]
        simp only [mosaicref02_Put.j1]
        by_cases h4 : n ≥ ((256 ^ size.toNat : Nat) : Int)
        · rw [if_pos (decide_eq_true h4), if_pos (.inr h4)]
        · rw [if_neg (by simpa using h4), if_neg (by omega), wrap64_id (size - 1) (by omega) (by omega)]
          have := mosaicref02_Put.loop n.toNat (by omega) size.toNat k [] (by omega) (by omega) (by simp; omega)
          rw [show ((n.toNat : Nat) : Int) = n by omega, show ((size.toNat : Nat) : Int) - 1 = size - 1 by omega] at this
          rw [this]
          rfl

theorem oct_Get.go_spec (l : List UInt8) : ∀ (a j : Nat), a < 256 ^ j → j + l.length ≤ 7 → oct_Get.go l (a : Int) = ((valL l a : Nat) : Int) := by
  induction l with
  | nil => intro a j _ _; rw [oct_Get.go_nil, valL_nil]
  | cons c l ih =>
    intro a j ha hj
    have hc := c.toNat_lt
    rw [List.length_cons] at hj
    have h7 := p256_le7 (j + 1) (by omega)
    have h1 : 256 * a + c.toNat < 256 ^ (j + 1) := by rw [p256_succ]; omega
    have h2 := ih _ (j + 1) h1 (by omega)
    have h3 := get_step a c.toNat hc (Nat.lt_of_lt_of_le h1 h7)
    rw [oct_Get.go_cons, valL_cons, h3, h2]
theorem oct_Get.spec (s : ByteArray) : oct_Get.f s = some (getR s) := by
  unfold oct_Get.f getR
  by_cases h : s.size > 7
  · rw [if_pos h, if_pos h]
  · rw [if_neg h, if_neg h]
    have := oct_Get.go_spec s.data.toList 0 0 (by decide) (by rw [len_data]; omega)
    rw [show ((0 : Nat) : Int) = 0 from rfl] at this
    rw [this]

theorem mosaicref02_Get.loop (s : ByteArray) (hs : s.size ≤ 7) (d : Nat) : ∀ (k i a : Nat), i + d = s.size → d < k → a < 256 ^ i → mosaicref02_Get.l0 k s (a : Int) (i : Int) = some ((valL (s.data.toList.drop i) a : Nat) : Int) := by
  have hl := len_data s
  induction d with
  | zero =>
    intro k i a hi hk ha
    obtain ⟨k, rfl⟩ : ∃ m, k = m + 1 := ⟨k - 1, by omega⟩
    simp only [mosaicref02_Get.l0]
    rw [if_neg (by omega), List.drop_of_length_le (by omega)]
    rfl
  | succ d ih =>
    intro k i a hi hk ha
    obtain ⟨k, rfl⟩ : ∃ m, k = m + 1 := ⟨k - 1, by omega⟩
    have hlt : i < s.data.toList.length := by omega
    have h7 := p256_le7 (i + 1) (by omega)
    have hb := nb_lt s i
    have hnb : nb s i = (s.data.toList[i]).toNat := by
      unfold nb
      rw [List.getD_eq_getElem?_getD, List.getElem?_eq_getElem hlt]
      rfl
    have h1 : 256 * a + nb s i < 256 ^ (i + 1) := by rw [p256_succ]; omega
    rw [p256_succ] at h7
    simp only [mosaicref02_Get.l0]
    rw [if_pos (by omega), if_pos (by omega), bt_nb, Int.toNat_natCast, wrap64_id (256 * (a : Int)) (by omega) (by omega), wrap64_id ((nb s i : Nat) : Int) (by omega) (by omega), wrap64_id _ (by omega) (by omega), wrap64_id _ (by omega) (by omega)]
    have := ih k (i + 1) (256 * a + nb s i) (by omega) (by omega) h1
    rw [show ((256 * a + nb s i : Nat) : Int) = 256 * (a : Int) + (nb s i : Int) by omega, show ((i + 1 : Nat) : Int) = (i : Int) + 1 by omega] at this
    rw [this, List.drop_eq_getElem_cons hlt]
    simp only [valL]
    rw [hnb]
theorem mosaicref02_Get.spec (s : ByteArray) (k : Nat) (hk : 8 ≤ k) : mosaicref02_Get.f k s = some (getR s) := by
  unfold mosaicref02_Get.f getR
  by_cases h : s.size > 7
  · rw [if_pos (by omega), if_pos h]
  · rw [if_neg (by omega), if_neg h]
    have := mosaicref02_Get.loop s (by omega) s.size k 0 0 (by omega) (by omega) (by decide)
    rw [show ((0 : Nat) : Int) = 0 from rfl, List.drop_zero] at this
    exact this

end Go.Proofs.Ytmebebpnogemdaa.POctNums
namespace Go.Proofs.Ytmebebpnogemdaa.Pure
open Go.RowKit Go.Proofs.Ytmebebpnogemdaa.POctNums Go.Proofs.YtmebebpnogemdaaW.PrintWords Go.Proofs.YtmebebpnogemdaaW.PrintLast Go.Proofs.YtmebebpnogemdaaW.PrintMore Go.Mine
theorem OctNums : mosaiclaw02_OctNums.Pure := by
  intro n size s hn hsz hs
  have hn := wf_i64 hn
  refine ⟨100, ?_⟩
  unfold mosaiclaw02_OctNums.f mosaiclaw02_awake.f
  by_cases h5 : (s.size : Int) > 5000
  · rw [if_pos h5]
    rfl
  · rw [if_neg h5, oct_Put.spec n size _ hn (by omega), Option.bind_some, mosaicref02_Put.spec n size _ (by omega), Option.bind_some, Option.bind_some, if_pos rfl, if_pos rfl, if_pos rfl, oct_Get.spec, Option.bind_some, mosaicref02_Get.spec s _ (by omega), Option.bind_some, if_pos rfl]
    by_cases h1 : (putR n size).2 = 0
    · have key : 0 ≤ n ∧ n.toNat < 256 ^ size.toNat ∧ (putR n size).1 = numS n.toNat size.toNat ∧ 1 ≤ size ∧ size ≤ 7 := by
        unfold putR at h1 ⊢
        split at h1
        · simp at h1
        · split at h1
          · simp at h1
          · rename_i h2 h
            rw [if_neg h2, if_neg h]
            exact ⟨by omega, by omega, rfl, by omega, by omega⟩
      obtain ⟨a0, a1, a2, a3, a4⟩ := key
      rw [if_pos h1, oct_Get.spec, Option.bind_some, a2, getR_numS _ _ (by omega) a1, if_pos (by omega), numS_size]
      simp
      omega
    · rw [if_neg h1]
end Go.Proofs.Ytmebebpnogemdaa.Pure
