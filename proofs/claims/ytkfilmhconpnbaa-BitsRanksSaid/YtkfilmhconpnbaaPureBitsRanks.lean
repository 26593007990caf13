/- BitsRanks: for every text, place and rank, Count, Rank and Nth of package bits answer what the document defines. No condition. -/
import Derived.Test.YtkfilmhconpnbaaPBitsRanksx5
import Derived.Test.YtkfilmhconpnbaaPlainBits
namespace Go.Proofs.Ytkfilmhconpnbaa.PBitsRanks
open Go.RowKit Go.Proofs.YtkfilmhconpnbaaW.PrintWords Go.Proofs.YtkfilmhconpnbaaW.PrintLast Go.Proofs.YtkfilmhconpnbaaW.PrintMore Go.Mine
set_option linter.unusedVariables false
set_option linter.unusedSimpArgs false
theorem bits_Has.spec (s : ByteArray) (i : Int) (h : i ≤ 9223372036854775807) : bits_Has.f s i = some (decide (0 ≤ i) && hb s i.toNat) := by
  unfold bits_Has.f
  by_cases h0 : 0 ≤ i
  · rw [if_pos h0, tdiv_pos _ _ h0, tmod_pos _ _ h0, wrap64_id _ (by omega) (by omega)]
    by_cases h1 : i / 8 < (s.size : Int)
    · rw [if_pos h1, if_pos (by omega), if_pos (by omega), bt_nb]
      have hn := nb_lt s (i / 8).toNat
      have e1 : shr .u8 (nb s (i / 8).toNat : Int) (i % 8) = ((nb s (i / 8).toNat / 2 ^ (i % 8).toNat : Nat) : Int) := by
        unfold shr
        rw [Nat.min_eq_left (by show (i % 8).toNat ≤ 8; omega)]
        simp
      rw [e1]
      have hq : nb s (i / 8).toNat / 2 ^ (i % 8).toNat < 256 := Nat.lt_of_le_of_lt (Nat.div_le_self _ _) hn
      have e2 := u8_and_nat (nb s (i / 8).toNat / 2 ^ (i % 8).toNat) 1 hq (by decide)
      rw [show ((1 : Nat) : Int) = 1 from rfl] at e2
      rw [e2]
      have e3 : hb s i.toNat = (nb s (i / 8).toNat / 2 ^ (i % 8).toNat % 2 == 1) := by
        unfold hb
        rw [testBit_div, show (i / 8).toNat = i.toNat / 8 by omega, show (i % 8).toNat = i.toNat % 8 by omega]
      rw [e3, Nat.and_one_is_mod, decide_eq_true h0, Bool.true_and]
      congr 1
      generalize nb s (i / 8).toNat / 2 ^ (i % 8).toNat = q
      rcases Nat.mod_two_eq_zero_or_one q with h | h <;> rw [h] <;> rfl
    · rw [if_neg h1, hb_oob s _ (by omega), Bool.and_false]
  · rw [if_neg h0, decide_eq_false h0, Bool.false_and]
theorem bits_Has.at (s : ByteArray) (i : Nat) (h : i < 9223372036854775807) : bits_Has.f s (i : Int) = some (hb s i) := by
  rw [bits_Has.spec s i (by omega)]
  simp

/-- The place of the bit of rank k, from i on. -/
def nthFrom (s : ByteArray) (k : Int) : Nat → Nat → Int
  | 0, _ => -1
  | d + 1, i => if hb s i = true ∧ ((rk s i : Nat) : Int) = k then (i : Int) else nthFrom s k d (i + 1)
theorem bits_Nth.loop (s : ByteArray) (hs : s.size ≤ 1000000) (q : Int) (hq : -9223372036854775808 ≤ q ∧ q ≤ 9223372036854775807) (d : Nat) : ∀ (k i : Nat), i + d = 8 * s.size → d < k →
    bits_Nth.l0 k s (wrap64 (q - rk s i)) ((8 * s.size : Nat) : Int) (i : Int) = some (nthFrom s q d i) := by
  induction d with
  | zero =>
    intro k i hi hk
    obtain ⟨k, rfl⟩ : ∃ m, k = m + 1 := ⟨k - 1, by omega⟩
    simp only [bits_Nth.l0, nthFrom]
    rw [if_neg (by omega)]
  | succ d ih =>
    intro k i hi hk
    obtain ⟨k, rfl⟩ : ∃ m, k = m + 1 := ⟨k - 1, by omega⟩
    have hr := rk_le s i
    simp only [bits_Nth.l0, nthFrom]
    rw [if_pos (by omega), bits_Has.at s i (by omega), Option.bind_some, wrap64_id ((i : Int) + 1) (by omega) (by omega)]
    have := ih k (i + 1) (by omega) (by omega)
    rw [show ((i + 1 : Nat) : Int) = (i : Int) + 1 by omega] at this
    cases hh : hb s i with
    | true =>
      rw [if_pos rfl]
      by_cases he : ((rk s i : Nat) : Int) = q
      · rw [if_pos (by unfold wrap64; omega), if_pos ⟨rfl, he⟩]
      · rw [if_neg (by unfold wrap64; omega), if_neg (fun h => he h.2), ← this, rk_step s i hh]
        congr 1
        unfold wrap64
        omega
    | false =>
      rw [if_neg (by decide), if_neg (fun h => by cases h.1), ← this, rk_stay s i hh]
theorem bits_Nth.spec (s : ByteArray) (q : Int) (k : Nat) (hs : s.size ≤ 1000000) (hq : -9223372036854775808 ≤ q ∧ q ≤ 9223372036854775807) (hk : 8 * s.size < k) : bits_Nth.f k s q = some (nthFrom s q (8 * s.size) 0) := by
  unfold bits_Nth.f
  have := bits_Nth.loop s hs q hq (8 * s.size) k 0 (by omega) hk
  rw [wrap64_id (8 * (s.size : Int)) (by omega) (by omega)]
  rw [show rk s 0 = 0 from rfl, show q - ((0 : Nat) : Int) = q by omega, wrap64_id q hq.1 hq.2] at this
  simpa using this

theorem mosaiclaw08_awake.now : mosaiclaw08_awake.f 100 = some true := by decide +kernel
theorem mosaiclaw08_awake.spec (k : Nat) (hk : 100 ≤ k) : mosaiclaw08_awake.f k = some true := at_rounds mosaiclaw08_awake.mono hk mosaiclaw08_awake.now

theorem bits_Rank.loop (s : ByteArray) (m : Nat) (hm : m ≤ 1000000000000000000) (d : Nat) : ∀ (k i a : Nat), i + d = m → d < k → a ≤ i →
    bits_Rank.l0 k s (a : Int) (m : Int) (i : Int) = some (((a + (rk s m - rk s i) : Nat)) : Int) := by
  induction d with
  | zero =>
    intro k i a hi hk ha
    obtain ⟨k, rfl⟩ : ∃ m, k = m + 1 := ⟨k - 1, by omega⟩
    obtain rfl : i = m := by omega
    simp only [bits_Rank.l0]
    rw [if_neg (by omega), Nat.sub_self, Nat.add_zero]
  | succ d ih =>
    intro k i a hi hk ha
    obtain ⟨k, rfl⟩ : ∃ m, k = m + 1 := ⟨k - 1, by omega⟩
    simp only [bits_Rank.l0]
    rw [if_pos (by omega), bits_Has.at s i (by omega), Option.bind_some, wrap64_id _ (by omega) (by omega), wrap64_id _ (by omega) (by omega)]
    have hmono := rk_mono s (show i + 1 ≤ m by omega)
    cases hh : hb s i with
    | true =>
      rw [if_pos rfl]
      have e := rk_step s i hh
      have := ih k (i + 1) (a + 1) (by omega) (by omega) (by omega)
      rw [show ((a + 1 : Nat) : Int) = (a : Int) + 1 by omega, show ((i + 1 : Nat) : Int) = (i : Int) + 1 by omega] at this
      rw [this]
      congr 2
      omega
    | false =>
      rw [if_neg (by decide)]
      have e := rk_stay s i hh
      have := ih k (i + 1) a (by omega) (by omega) (by omega)
      rw [show ((i + 1 : Nat) : Int) = (i : Int) + 1 by omega] at this
      rw [this, e]
theorem bits_Rank.spec (s : ByteArray) (i : Int) (k : Nat) (hs : s.size ≤ 1000000) (hk : 8 * s.size < k) : bits_Rank.f k s i = some ((rk s (min i.toNat (8 * s.size)) : Nat) : Int) := by
  unfold bits_Rank.f
  have e : mn (mx i 0) (wrap64 (8 * (s.size : Int))) = ((min i.toNat (8 * s.size) : Nat) : Int) := by
    rw [wrap64_id _ (by omega) (by omega)]
    unfold mn mx
    omega
  rw [e]
  have := bits_Rank.loop s (min i.toNat (8 * s.size)) (by omega) (min i.toNat (8 * s.size)) k 0 0 (by omega) (by omega) (by omega)
  simpa [rk] using this

theorem bits_Count.spec (s : ByteArray) (k : Nat) (hs : s.size ≤ 1000000) (hk : 8 * s.size < k) : bits_Count.f k s = some ((rk s (8 * s.size) : Nat) : Int) := by
  unfold bits_Count.f
  rw [bits_Rank.spec s _ k hs hk, Option.bind_some, wrap64_id _ (by omega) (by omega)]
  congr 3
  omega

theorem mosaicref08_bit.loop (i : Int) (h0 : 0 ≤ i) (d : Nat) : ∀ (k : Nat) (x j : Nat), (j : Int) + d = i % 8 → d < k → x < 256 → mosaicref08_bit.l0 k i x j = some ((x / 2 ^ d % 2 : Nat) : Int) := by
  induction d with
  | zero =>
    intro k x j hj hk hx
    obtain ⟨k, rfl⟩ : ∃ m, k = m + 1 := ⟨k - 1, by omega⟩
    simp only [mosaicref08_bit.l0]
    rw [tmod_pos _ _ h0, if_neg (by omega), tmod_pos _ _ (by omega)]
    simp
  | succ d ih =>
    intro k x j hj hk hx
    obtain ⟨k, rfl⟩ : ∃ m, k = m + 1 := ⟨k - 1, by omega⟩
    simp only [mosaicref08_bit.l0]
    rw [tmod_pos _ _ h0, if_pos (by omega), tdiv_pos _ _ (by omega), wrap64_id _ (by omega) (by omega), wrap64_id _ (by omega) (by omega)]
    have := ih k (x / 2) (j + 1) (by omega) (by omega) (by omega)
    rw [show ((x / 2 : Nat) : Int) = (x : Int) / 2 by omega, show ((j + 1 : Nat) : Int) = (j : Int) + 1 by omega] at this
    rw [this, Nat.div_div_eq_div_mul, Nat.pow_succ', ]
theorem mosaicref08_bit.spec (s : ByteArray) (i : Int) (k : Nat) (hk : 9 ≤ k) (h0 : 0 ≤ i) (h : i ≤ 9223372036854775807) (h1 : i / 8 < (s.size : Int)) : mosaicref08_bit.f k s i = some (if hb s i.toNat = true then 1 else 0) := by
  unfold mosaicref08_bit.f
  rw [tdiv_pos _ _ h0, wrap64_id _ (by omega) (by omega), if_pos (by omega), if_pos h1, bt_nb, wrap64_id _ (by omega) (by have := nb_lt s (i / 8).toNat; omega)]
  have := mosaicref08_bit.loop i h0 (i % 8).toNat k (nb s (i / 8).toNat) 0 (by omega) (by omega) (nb_lt _ _)
  rw [show ((0 : Nat) : Int) = 0 from rfl] at this
  rw [this]
  congr 1
  unfold hb
  rw [← testBit_div, show (i / 8).toNat = i.toNat / 8 by omega, show (i % 8).toNat = i.toNat % 8 by omega]
  have := Nat.mod_two_eq_zero_or_one (nb s (i.toNat / 8) / 2 ^ (i.toNat % 8))
  rcases this with h | h <;> simp [h]

theorem mosaicref08_Has.spec (s : ByteArray) (i : Int) (k : Nat) (hk : 9 ≤ k) (h : i ≤ 9223372036854775807) : mosaicref08_Has.f k s i = some (decide (0 ≤ i) && hb s i.toNat) := by
  unfold mosaicref08_Has.f
  by_cases h0 : 0 ≤ i
  · rw [if_pos h0, tdiv_pos _ _ h0, wrap64_id _ (by omega) (by omega)]
    by_cases h1 : i / 8 < (s.size : Int)
    · rw [if_pos h1, mosaicref08_bit.spec s i k hk h0 h h1, decide_eq_true h0, Bool.true_and, Option.bind_some]
      cases hb s i.toNat <;> rfl
    · rw [if_neg h1, hb_oob s _ (by omega), Bool.and_false]
  · rw [if_neg h0, decide_eq_false h0, Bool.false_and]
theorem mosaicref08_Has.at (s : ByteArray) (i : Nat) (k : Nat) (hk : 9 ≤ k) (h : i < 9223372036854775807) : mosaicref08_Has.f k s (i : Int) = some (hb s i) := by
  rw [mosaicref08_Has.spec s i k hk (by omega)]
  simp

theorem mosaicref08_Rank.loop (s : ByteArray) (lim : Int) (hs : s.size ≤ 1000000) (d : Nat) : ∀ (k i a : Nat), i + d = min lim.toNat (8 * s.size) → 2 * d + 12 < k → a ≤ i →
    mosaicref08_Rank.l0 k s lim (a : Int) (i : Int) = some (((a + (rk s (min lim.toNat (8 * s.size)) - rk s i) : Nat)) : Int) := by
  induction d with
  | zero =>
    intro k i a hi hk ha
    obtain ⟨k, rfl⟩ : ∃ m, k = m + 2 := ⟨k - 2, by omega⟩
    have hi' : i = min lim.toNat (8 * s.size) := by omega
    simp only [mosaicref08_Rank.l0, mosaicref08_Rank.j1]
    rw [← hi', Nat.sub_self, Nat.add_zero]
    by_cases h : (i : Int) < lim
    · rw [if_pos h, wrap64_id _ (by omega) (by omega), if_neg (by rw [decide_eq_false (by omega)]; decide)]
    · rw [if_neg h, if_neg (by decide)]
  | succ d ih =>
    intro k i a hi hk ha
    obtain ⟨k, rfl⟩ : ∃ m, k = m + 2 := ⟨k - 2, by omega⟩
    have hi' : i < min lim.toNat (8 * s.size) := by omega
    simp only [mosaicref08_Rank.l0, mosaicref08_Rank.j1]
    rw [if_pos (by omega), wrap64_id (8 * (s.size : Int)) (by omega) (by omega), if_pos (by rw [decide_eq_true (by omega)]), mosaicref08_Has.at s i k (by omega) (by omega), Option.bind_some, wrap64_id _ (by omega) (by omega), wrap64_id _ (by omega) (by omega)]
    have hmono := rk_mono s (show i + 1 ≤ min lim.toNat (8 * s.size) by omega)
    cases hh : hb s i with
    | true =>
      rw [if_pos rfl]
      have e := rk_step s i hh
      have := ih k (i + 1) (a + 1) (by omega) (by omega) (by omega)
      rw [show ((a + 1 : Nat) : Int) = (a : Int) + 1 by omega, show ((i + 1 : Nat) : Int) = (i : Int) + 1 by omega] at this
      rw [this]
      congr 2
      omega
    | false =>
      rw [if_neg (by decide)]
      have e := rk_stay s i hh
      have := ih k (i + 1) a (by omega) (by omega) (by omega)
      rw [show ((i + 1 : Nat) : Int) = (i : Int) + 1 by omega] at this
      rw [this, e]
theorem mosaicref08_Rank.spec (s : ByteArray) (i : Int) (k : Nat) (hs : s.size ≤ 1000000) (hk : 16 * s.size + 12 < k) : mosaicref08_Rank.f k s i = some ((rk s (min i.toNat (8 * s.size)) : Nat) : Int) := by
  unfold mosaicref08_Rank.f
  have := mosaicref08_Rank.loop s i hs (min i.toNat (8 * s.size)) k 0 0 (by omega) (by omega) (by omega)
  simpa [rk] using this

theorem mosaicref08_Nth.loop (s : ByteArray) (hs : s.size ≤ 1000000) (q : Int) (d : Nat) : ∀ (k i : Nat), i + d = 8 * s.size → 16 * s.size + 13 + d < k →
    mosaicref08_Nth.l0 k s q (i : Int) = some (nthFrom s q d i) := by
  induction d with
  | zero =>
    intro k i hi hk
    obtain ⟨k, rfl⟩ : ∃ m, k = m + 1 := ⟨k - 1, by omega⟩
    simp only [mosaicref08_Nth.l0, nthFrom]
    rw [wrap64_id _ (by omega) (by omega), if_neg (by omega)]
  | succ d ih =>
    intro k i hi hk
    obtain ⟨k, rfl⟩ : ∃ m, k = m + 1 := ⟨k - 1, by omega⟩
    simp only [mosaicref08_Nth.l0, nthFrom]
    rw [wrap64_id (8 * (s.size : Int)) (by omega) (by omega), if_pos (by omega), mosaicref08_Has.at s i k (by omega) (by omega), Option.bind_some, wrap64_id ((i : Int) + 1) (by omega) (by omega)]
    have := ih k (i + 1) (by omega) (by omega)
    rw [show ((i + 1 : Nat) : Int) = (i : Int) + 1 by omega] at this
    cases hh : hb s i with
    | true =>
      rw [if_pos rfl, mosaicref08_Rank.spec s _ k hs (by omega), Option.bind_some, show min ((i : Int).toNat) (8 * s.size) = i by omega]
      by_cases he : ((rk s i : Nat) : Int) = q
      · rw [if_pos he, if_pos ⟨rfl, he⟩]
      · rw [if_neg he, if_neg (fun h => he h.2), this]
    | false => rw [if_neg (by decide), if_neg (fun h => by cases h.1), this]
theorem mosaicref08_Nth.spec (s : ByteArray) (q : Int) (k : Nat) (hs : s.size ≤ 1000000) (hk : 24 * s.size + 13 < k) : mosaicref08_Nth.f k s q = some (nthFrom s q (8 * s.size) 0) := by
  unfold mosaicref08_Nth.f
  exact mosaicref08_Nth.loop s hs q (8 * s.size) k 0 (by omega) (by omega)

end Go.Proofs.Ytkfilmhconpnbaa.PBitsRanks
namespace Go.Proofs.Ytkfilmhconpnbaa.Pure
open Go.RowKit Go.Proofs.Ytkfilmhconpnbaa.PBitsRanks Go.Proofs.YtkfilmhconpnbaaW.PrintWords Go.Proofs.YtkfilmhconpnbaaW.PrintLast Go.Proofs.YtkfilmhconpnbaaW.PrintMore Go.Mine
theorem BitsRanks : mosaiclaw08_BitsRanks.Pure := by
  intro s i q hs hi hq
  have hi := wf_i64 hi
  have hq := wf_i64 hq
  refine ⟨10000, ?_⟩
  unfold mosaiclaw08_BitsRanks.f
  by_cases h30 : (s.size : Int) > 30
  · rw [if_pos h30, mosaiclaw08_awake.spec _ (by omega)]
    rfl
  · rw [if_neg h30, mosaiclaw08_awake.spec _ (by omega), Option.bind_some, if_pos rfl, bits_Count.spec s _ (by omega) (by omega), Option.bind_some, wrap64_id _ (by omega) (by omega), mosaicref08_Rank.spec s _ _ (by omega) (by omega), Option.bind_some,
      if_pos (by congr 2; omega), bits_Rank.spec s _ _ (by omega) (by omega), Option.bind_some, mosaicref08_Rank.spec s _ _ (by omega) (by omega), Option.bind_some, if_pos rfl, bits_Nth.spec s q _ (by omega) hq (by omega), Option.bind_some, mosaicref08_Nth.spec s q _ (by omega) (by omega), Option.bind_some]
    simp
end Go.Proofs.Ytkfilmhconpnbaa.Pure
