/- BlockSums: for every texts and size, the sums of package block are what the document defines, or its error; so is the block of bytes 0. No condition. -/
import Derived.Test.YtmklpmbfijljcaaPBlockSumsx7
import Derived.Test.YtmklpmbfijljcaaPlainBits
import Derived.Test.YtmklpmbfijljcaaPlainBlock
import Derived.Test.YtmklpmbfijljcaaPlainSets
import Derived.Test.YtmklpmbfijljcaaPlainXor
namespace Go.Proofs.Ytmklpmbfijljcaa.PBlockSums
open Go.RowKit Go.Proofs.YtmklpmbfijljcaaW.PrintWords Go.Proofs.YtmklpmbfijljcaaW.PrintLast Go.Proofs.YtmklpmbfijljcaaW.PrintMore Go.Mine
set_option linter.unusedVariables false
set_option linter.unusedSimpArgs false
theorem block_may.spec (z : Int) : block_may.f z = some (decide (1 ≤ z ∧ z ≤ 64)) := by
  unfold block_may.f
  by_cases h : z ≥ 1
  · rw [if_pos h]
    congr 1
    rw [Bool.eq_iff_iff, decide_eq_true_iff, decide_eq_true_iff]
    omega
  · rw [if_neg h]
    congr 1
    rw [eq_comm, decide_eq_false_iff_not]
    omega

theorem block_Count.spec (n z : Int) (k : Nat) (hk : 1 ≤ k) : block_Count.f k n z = some (cntI n z) := by
  obtain ⟨k, rfl⟩ : ∃ m, k = m + 1 := ⟨k - 1, by omega⟩
  have hj : block_Count.j0 (k + 1) n z true = some 0 := by simp only [block_Count.j0]; rw [if_pos trivial]
  unfold block_Count.f
  by_cases h1 : n < 1
  · rw [if_pos h1, hj, cntI, if_neg (by omega)]
  · rw [if_neg h1]
    by_cases h2 : n > 4096
    · rw [if_pos h2, hj, cntI, if_neg (by omega)]
    · rw [if_neg h2, block_may.spec, Option.bind_some]
      by_cases h3 : 1 ≤ z ∧ z ≤ 64
      · rw [decide_eq_true h3]
        simp only [block_Count.j0, Bool.not_true]
        rw [if_neg (by decide), if_neg (by omega)]
        obtain ⟨n, rfl⟩ : ∃ m : Nat, n = m := ⟨n.toNat, by omega⟩
        obtain ⟨z, rfl⟩ : ∃ m : Nat, z = m := ⟨z.toNat, by omega⟩
        rw [wrap64_id ((n : Int) + z) (by omega) (by omega), wrap64_id ((n : Int) + z - 1) (by omega) (by omega), tdiv_pos _ _ (by omega)]
        have e : ((n : Int) + z - 1) / z = (cntN n z : Int) := by
          unfold cntN
          rw [show (n : Int) + z - 1 = ((n + z - 1 : Nat) : Int) by omega, Int.natCast_ediv]
        have hle := cntN_le n z (by omega)
        rw [e, wrap64_id _ (by omega) (by omega), cntI]
        simp only [Int.toNat_natCast]
        by_cases h4 : cntN n z ≤ 96
        · rw [if_neg (by omega), if_pos (by omega)]
        · rw [if_pos (by omega), if_neg (by omega)]
      · rw [decide_eq_false h3]
        simp only [Bool.not_false]
        rw [hj, cntI, if_neg (by omega)]

theorem block_Cut.rep (c : Int) (hc : 0 ≤ c ∧ c ≤ 64) : strings_Repeat.f (⟨#[0]⟩ : ByteArray) c = some (zeroS c.toNat) := by
  unfold strings_Repeat.f
  have z : (⟨#[0]⟩ : ByteArray).size = 1 := rfl
  rw [if_pos (by rw [z]; omega)]
  have e : (⟨#[0]⟩ : ByteArray).data.toList = [0] := rfl
  rw [e, rep0]
  rfl
theorem block_Cut.loop (s : ByteArray) (z : Nat) (hn : 1 ≤ s.size ∧ s.size ≤ 4096) (hz : 1 ≤ z ∧ z ≤ 64) (d : Nat) : ∀ (k j : Nat), j + d = cntN s.size z → d < k → block_Cut.l0 k s (z : Int) (cutL s z j) (s.size : Int) = some (cutL s z (cntN s.size z), 0) := by
  have hle := cntN_le s.size z hz.1
  have hmul := cntN_mul s.size z hz.1
  induction d with
  | zero =>
    intro k j hj hk
    obtain ⟨k, rfl⟩ : ∃ m, k = m + 1 := ⟨k - 1, by omega⟩
    simp only [block_Cut.l0]
    obtain rfl : j = cntN s.size z := by omega
    have h2 : ¬ cntN s.size z * z < s.size := fun h => absurd ((cntN_lt s.size z _ hz.1 hn.1).1 h) (by omega)
    have e : ((cntN s.size z : Nat) : Int) * (z : Int) = ((cntN s.size z * z : Nat) : Int) := by rw [Int.natCast_mul]
    rw [cutL_length, e, wrap64_id _ (by omega) (by omega), if_neg (by omega)]
  | succ d ih =>
    intro k j hj hk
    obtain ⟨k, rfl⟩ : ∃ m, k = m + 1 := ⟨k - 1, by omega⟩
    simp only [block_Cut.l0]
    have h2 : j * z < s.size := (cntN_lt s.size z _ hz.1 hn.1).2 (by omega)
    have e : (j : Int) * (z : Int) = ((j * z : Nat) : Int) := by rw [Int.natCast_mul]
    have e1 : ((j : Int) + 1) * (z : Int) = (((j + 1) * z : Nat) : Int) := by rw [Int.natCast_mul]; rfl
    have e2 : (j + 1) * z = j * z + z := Nat.succ_mul j z
    have e3 : mn ((((j + 1) * z : Nat) : Int)) (s.size : Int) = ((min ((j + 1) * z) s.size : Nat) : Int) := by
      unfold mn
      split <;> omega
    have hsz : (s.extract (j * z) (min ((j + 1) * z) s.size)).size = min ((j + 1) * z) s.size - j * z := by rw [ByteArray.size_extract]; omega
    rw [cutL_length, e, wrap64_id ((j * z : Nat) : Int) (by omega) (by omega), if_pos (by omega), if_pos (by omega), wrap64_id ((j : Int) + 1) (by omega) (by omega), e1, wrap64_id _ (by omega) (by omega), e3, if_pos (by omega), if_pos (by omega), Int.toNat_natCast, Int.toNat_natCast, hsz, wrap64_id _ (by omega) (by omega), block_Cut.rep _ (by omega), Option.bind_some, zeroS_size, if_pos (by omega), if_pos (by omega)]
    have e4 : ((z : Int) - ((min ((j + 1) * z) s.size - j * z : Nat) : Int)).toNat = z - (min ((j + 1) * z) s.size - j * z) := by omega
    rw [e4, blk_piece s z j (by omega), ← cutL_succ]
    exact ih k (j + 1) (by omega) (by omega)
theorem block_Cut.spec (s : ByteArray) (z : Int) (k : Nat) (hk : 5000 ≤ k) : block_Cut.f k s z = some (cutR s z) := by
  obtain ⟨k, rfl⟩ : ∃ m, k = m + 1 := ⟨k - 1, by omega⟩
  have hj : block_Cut.j0 (k + 1) s z true = some ([], 1) := by simp only [block_Cut.j0]; rw [if_pos trivial]
  unfold block_Cut.f
  rw [block_may.spec, Option.bind_some]
  by_cases h3 : 1 ≤ z ∧ z ≤ 64
  · rw [decide_eq_true h3, if_pos rfl]
    by_cases h0 : s.size = 0
    · have : (s.toList == ([] : List UInt8)) = true := by
        rw [bytes_nil s h0]; rfl
      rw [this, hj, cutR, if_pos (.inr h0)]
    · have : (s.toList == ([] : List UInt8)) = false := by
        rw [beq_eq_false_iff_ne]
        exact bytes_ne s (by omega)
      rw [this]
      simp only [block_Cut.j0]
      rw [if_neg (by decide), block_Count.spec _ _ _ (by omega), Option.bind_some, cutR, if_neg (show ¬ (¬ (1 ≤ z ∧ z ≤ 64) ∨ s.size = 0) by omega)]
      by_cases h4 : cntI (s.size : Int) z = 0
      · rw [if_pos h4, if_pos h4]
      · rw [if_neg h4, if_neg h4]
        obtain ⟨z, rfl⟩ : ∃ m : Nat, z = m := ⟨z.toNat, by omega⟩
        have h5 : 1 ≤ (s.size : Int) ∧ (s.size : Int) ≤ 4096 ∧ 1 ≤ (z : Int) ∧ (z : Int) ≤ 64 ∧ cntN (s.size : Int).toNat (z : Int).toNat ≤ 96 := by
          unfold cntI at h4
          split at h4
          · assumption
          · exact absurd rfl h4
        have h6 : cntI (s.size : Int) z = cntN s.size z := by rw [cntI, if_pos h5]; rfl
        rw [h6, Int.toNat_natCast, Int.toNat_natCast]
        have hle := cntN_le s.size z (by omega)
        exact block_Cut.loop s z (by omega) (by omega) (cntN s.size z) k 0 (by omega) (by omega)
  · rw [decide_eq_false h3, if_neg (by decide), hj, cutR, if_pos (.inl h3)]

theorem mosaicref03_Same.loop (l : List ByteArray) (hl : l.length ≤ 1000000000) (m : List ByteArray) (hm : m.length = l.length) (d : Nat) : ∀ (k i : Nat), i + d = l.length → d < k → mosaicref03_Same.l0 k l m (i : Int) = some (decide (l.drop i = m.drop i)) := by
  induction d with
  | zero =>
    intro k i hi hk
    obtain ⟨k, rfl⟩ : ∃ m, k = m + 1 := ⟨k - 1, by omega⟩
    simp only [mosaicref03_Same.l0]
    rw [if_neg (by omega), List.drop_of_length_le (by omega), List.drop_of_length_le (by omega), decide_eq_true rfl]
  | succ d ih =>
    intro k i hi hk
    obtain ⟨k, rfl⟩ : ∃ m, k = m + 1 := ⟨k - 1, by omega⟩
    have h1 : i < l.length := by omega
    have h2 : i < m.length := by omega
    simp only [mosaicref03_Same.l0]
    have e1 : rdOf ByteArray.empty l (i : Int) = l[i] := by simp [rdOf, h1]
    have e2 : rdOf ByteArray.empty m (i : Int) = m[i] := by simp [rdOf, h2]
    rw [if_pos (by omega), if_pos (by omega), if_pos (by omega), e1, e2, wrap64_id _ (by omega) (by omega), List.drop_eq_getElem_cons h1, List.drop_eq_getElem_cons h2]
    have := ih k (i + 1) (by omega) (by omega)
    rw [show ((i + 1 : Nat) : Int) = (i : Int) + 1 by omega] at this
    by_cases h : l[i] = m[i]
    · rw [if_pos (by rw [h]), this]
      congr 1
      rw [Bool.eq_iff_iff, decide_eq_true_iff, decide_eq_true_iff]
      exact ⟨fun e => by rw [h, e], fun e => (List.cons.inj e).2⟩
    · rw [if_neg (fun e => h (toList_inj e))]
      congr 1
      rw [eq_comm, decide_eq_false_iff_not]
      intro hh
      exact h (List.cons.inj hh).1
theorem mosaicref03_Same.spec (l m : List ByteArray) (k : Nat) (hl : l.length ≤ 1000000000) (hk : l.length < k) : mosaicref03_Same.f k l m = some (decide (l = m)) := by
  unfold mosaicref03_Same.f
  by_cases h : l.length = m.length
  · rw [if_pos (by omega)]
    have := mosaicref03_Same.loop l hl m h.symm l.length k 0 (by omega) hk
    simpa using this
  · rw [if_neg (by omega), decide_eq_false (fun e => h (by rw [e]))]

theorem block_Xor.spec (a b : ByteArray) (h : a.size ≤ 140737488351232) : block_Xor.f a b = some (xorR a b) := by
  unfold block_Xor.f xorR
  by_cases hs : a.size = b.size
  · rw [if_pos hs, if_pos hs, if_pos h]
    rfl
  · rw [if_neg hs, if_neg hs]

theorem mosaiclaw07_awake.now : mosaiclaw07_awake.f 100 = some true := by decide +kernel
theorem mosaiclaw07_awake.spec (k : Nat) (hk : 100 ≤ k) : mosaiclaw07_awake.f k = some true := at_rounds mosaiclaw07_awake.mono hk mosaiclaw07_awake.now

theorem mosaiclaw07_few.loop (l : List ByteArray) (hl : l.length ≤ 120) (d : Nat) : ∀ (k i : Nat), i + d = l.length → d < k → mosaiclaw07_few.l0 k l (i : Int) = some (decide (∀ s ∈ l.drop i, s.size ≤ 200)) := by
  induction d with
  | zero =>
    intro k i hi hk
    obtain ⟨k, rfl⟩ : ∃ m, k = m + 1 := ⟨k - 1, by omega⟩
    simp only [mosaiclaw07_few.l0]
    rw [if_neg (by omega), List.drop_of_length_le (by omega), decide_eq_true (by simp)]
  | succ d ih =>
    intro k i hi hk
    obtain ⟨k, rfl⟩ : ∃ m, k = m + 1 := ⟨k - 1, by omega⟩
    have h1 : i < l.length := by omega
    simp only [mosaiclaw07_few.l0]
    have e1 : rdOf ByteArray.empty l (i : Int) = l[i] := by simp [rdOf, h1]
    rw [if_pos (by omega), if_pos (by omega), e1, wrap64_id _ (by omega) (by omega), List.drop_eq_getElem_cons h1]
    have := ih k (i + 1) (by omega) (by omega)
    rw [show ((i + 1 : Nat) : Int) = (i : Int) + 1 by omega] at this
    by_cases hs : (l[i].size : Int) > 200
    · rw [if_pos hs]
      congr 1
      rw [eq_comm, decide_eq_false_iff_not]
      intro hh
      have := hh l[i] List.mem_cons_self
      omega
    · rw [if_neg hs, this]
      congr 1
      rw [Bool.eq_iff_iff, decide_eq_true_iff, decide_eq_true_iff]
      constructor
      · intro hh s hm
        rcases List.mem_cons.1 hm with rfl | hm
        · omega
        · exact hh s hm
      · intro hh s hm
        exact hh s (List.mem_cons_of_mem _ hm)
theorem mosaiclaw07_few.spec (l : List ByteArray) (k : Nat) (hk : 200 ≤ k) : mosaiclaw07_few.f k l = some (decide (l.length ≤ 120 ∧ ∀ s ∈ l, s.size ≤ 200)) := by
  unfold mosaiclaw07_few.f
  by_cases h : (l.length : Int) > 120
  · rw [if_pos h, decide_eq_false (by omega)]
  · rw [if_neg h]
    have := mosaiclaw07_few.loop l (by omega) l.length k 0 (by omega) (by omega)
    rw [List.drop_zero] at this
    rw [show (0 : Int) = ((0 : Nat) : Int) from rfl, this]
    congr 1
    rw [Bool.eq_iff_iff, decide_eq_true_iff, decide_eq_true_iff]
    exact ⟨fun hh => ⟨by omega, hh⟩, fun hh => hh.2⟩

theorem block_Sum.go_eq (n : Nat) (l : List ByteArray) : ∀ (x : List Int), Bytes x → x.length = n → strOfNums (block_Sum.go n x l) = xsum (strOfNums x) l := by
  induction l with
  | nil => intro x _ _; rfl
  | cons s l ih =>
    intro x hx hn
    rw [block_Sum.go, xsum, ih _ (bytes_xor x hx s n (by omega)) (by rw [bothB_length, hn]), ← hn, bothB_step x hx s]
theorem block_Sum.spec (l : List ByteArray) (z : Int) : block_Sum.f l z = some (sumR l z) := by
  unfold block_Sum.f sumR
  rw [block_may.spec, Option.bind_some]
  by_cases h : 1 ≤ z ∧ z ≤ 64
  · rw [decide_eq_true h, if_pos rfl, if_neg (show ¬ (z < 0 ∨ 1000000 < z) by omega), if_neg (show ¬ ¬ (1 ≤ z ∧ z ≤ 64) from fun hh => hh h)]
    show (if odd l z = true then _ else _) = _
    cases odd l z with
    | true => rfl
    | false =>
      rw [if_neg (by decide), if_neg (by decide), block_Sum.go_eq _ _ _ (bytes_zero _) (List.length_replicate ..), strOfNums_zero]
  · rw [decide_eq_false h, if_neg (by decide), if_pos h]

theorem block_Zero.spec (z : Int) : block_Zero.f z = some (zeroR z) := by
  unfold block_Zero.f zeroR
  rw [block_may.spec, Option.bind_some]
  by_cases h : 1 ≤ z ∧ z ≤ 64
  · rw [decide_eq_true h, if_pos rfl, if_pos h]
    have e : strings_Repeat.f (⟨#[0]⟩ : ByteArray) z = some (zeroS z.toNat) := by
      unfold strings_Repeat.f
      have z1 : (⟨#[0]⟩ : ByteArray).size = 1 := rfl
      rw [if_pos (by rw [z1]; omega)]
      have e : (⟨#[0]⟩ : ByteArray).data.toList = [0] := rfl
      rw [e, rep0]
      rfl
    rw [e]
    rfl
  · rw [decide_eq_false h, if_neg (by decide), if_neg h]

theorem mosaicref07_Xor.loop (a b : ByteArray) (hs : a.size = b.size) (ha : a.size ≤ 1000000) (d : Nat) : ∀ (k i : Nat), i + d = a.size → d < k → mosaicref07_Xor.l0 k a b (xorL a b i) (i : Int) = some (bothS .xor a b, 0) := by
  induction d with
  | zero =>
    intro k i hi hk
    obtain ⟨k, rfl⟩ : ∃ m, k = m + 1 := ⟨k - 1, by omega⟩
    simp only [mosaicref07_Xor.l0]
    obtain rfl : i = a.size := by omega
    rw [if_neg (by omega), xorL_str]
  | succ d ih =>
    intro k i hi hk
    obtain ⟨k, rfl⟩ : ∃ m, k = m + 1 := ⟨k - 1, by omega⟩
    simp only [mosaicref07_Xor.l0]
    rw [if_pos (by omega), if_pos (by omega), if_pos (by omega), if_pos (by rw [xorL_length]; omega), wrap64_id _ (by omega) (by omega), bt_nb, bt_nb, Int.toNat_natCast, ← xorL_succ]
    have := ih k (i + 1) (by omega) (by omega)
    rw [show ((i + 1 : Nat) : Int) = (i : Int) + 1 by omega] at this
    exact this
theorem mosaicref07_Xor.spec (a b : ByteArray) (k : Nat) (ha : a.size ≤ 1000000) (hk : a.size < k) : mosaicref07_Xor.f k a b = some (xorR a b) := by
  unfold mosaicref07_Xor.f xorR
  by_cases hs : a.size = b.size
  · rw [if_pos hs, if_pos (by omega)]
    exact mosaicref07_Xor.loop a b hs ha a.size k 0 (by omega) hk
  · rw [if_neg hs, if_neg (by omega)]

theorem block_Is.spec (s : ByteArray) (z : Int) : block_Is.f s z = some (decide (1 ≤ z ∧ z ≤ 64) && ((s.size : Int) == z)) := by
  unfold block_Is.f
  rw [block_may.spec, Option.bind_some]
  cases decide (1 ≤ z ∧ z ≤ 64) <;> rfl

theorem mosaicref07_May.spec (z : Int) : mosaicref07_May.f z = some (decide (1 ≤ z ∧ z ≤ 64)) := by
  unfold mosaicref07_May.f
  by_cases h : z ≥ 1
  · rw [if_pos h]
    congr 1
    rw [Bool.eq_iff_iff, decide_eq_true_iff, decide_eq_true_iff]
    omega
  · rw [if_neg h]
    congr 1
    rw [eq_comm, decide_eq_false_iff_not]
    omega

theorem mosaicref07_Zero.loop (n : Nat) (hn : 1 ≤ n ∧ n ≤ 64) (d : Nat) : ∀ (k i : Nat), i + d = n → d < k → mosaicref07_Zero.l0 k (n : Int) (List.replicate i 0) (i : Int) = some (zeroS n) := by
  have hm : decide (1 ≤ (n : Int) ∧ (n : Int) ≤ 64) = true := decide_eq_true (by omega)
  induction d with
  | zero =>
    intro k i hi hk
    obtain ⟨k, rfl⟩ : ∃ m, k = m + 1 := ⟨k - 1, by omega⟩
    simp only [mosaicref07_Zero.l0]
    obtain rfl : i = n := by omega
    rw [if_neg (by omega), strOfNums_zero]
  | succ d ih =>
    intro k i hi hk
    obtain ⟨k, rfl⟩ : ∃ m, k = m + 1 := ⟨k - 1, by omega⟩
    simp only [mosaicref07_Zero.l0]
    rw [if_pos (by omega), mosaicref07_May.spec, hm, Option.bind_some, if_pos rfl, if_pos (by rw [List.length_replicate]; omega), wrap64_id _ (by omega) (by omega), ← List.replicate_succ']
    have := ih k (i + 1) (by omega) (by omega)
    rw [show ((i + 1 : Nat) : Int) = (i : Int) + 1 by omega] at this
    exact this
theorem mosaicref07_Zero.spec (z : Int) (k : Nat) (hk : 100 ≤ k) : mosaicref07_Zero.f k z = some (zeroR z) := by
  unfold mosaicref07_Zero.f zeroR
  by_cases h : 1 ≤ z ∧ z ≤ 64
  · rw [if_pos h]
    obtain ⟨n, rfl⟩ : ∃ m : Nat, z = m := ⟨z.toNat, by omega⟩
    exact mosaicref07_Zero.loop n (by omega) n k 0 (by omega) (by omega)
  · rw [if_neg h]
    obtain ⟨k, rfl⟩ : ∃ m, k = m + 1 := ⟨k - 1, by omega⟩
    simp only [mosaicref07_Zero.l0]
    by_cases h0 : 0 < z
    · rw [if_pos h0, mosaicref07_May.spec, decide_eq_false h, Option.bind_some, if_neg (by decide)]
      rfl
    · rw [if_neg h0]
      rfl

theorem mosaicref07_Sum.loop (l : List ByteArray) (hl : l.length ≤ 1000000) (n : Nat) (hn : n ≤ 64) (d : Nat) : ∀ (k i : Nat) (t : ByteArray), t.size = n → i + d = l.length → d + 100 < k → mosaicref07_Sum.l0 k l t (i : Int) = some (if odd (l.drop i) (n : Int) = true then (⟨#[]⟩, 1) else (xsum t (l.drop i), 0)) := by
  induction d with
  | zero =>
    intro k i t ht hi hk
    obtain ⟨k, rfl⟩ : ∃ m, k = m + 1 := ⟨k - 1, by omega⟩
    simp only [mosaicref07_Sum.l0]
    rw [if_neg (by omega), List.drop_of_length_le (by omega)]
    rfl
  | succ d ih =>
    intro k i t ht hi hk
    obtain ⟨k, rfl⟩ : ∃ m, k = m + 1 := ⟨k - 1, by omega⟩
    have h1 : i < l.length := by omega
    simp only [mosaicref07_Sum.l0]
    have e1 : rdOf ByteArray.empty l (i : Int) = l[i] := by simp [rdOf, h1]
    rw [if_pos (by omega), if_pos (by omega), e1, mosaicref07_Xor.spec _ _ _ (by omega) (by omega), Option.bind_some, wrap64_id _ (by omega) (by omega), List.drop_eq_getElem_cons h1]
    by_cases hs : t.size = l[i].size
    · have e2 : xorR t l[i] = (bothS .xor t l[i], 0) := if_pos hs
      rw [e2, if_pos rfl]
      have := ih k (i + 1) (bothS .xor t l[i]) (by rw [bothS_size]; exact ht) (by omega) (by omega)
      rw [show ((i + 1 : Nat) : Int) = (i : Int) + 1 by omega] at this
      have e3 : odd (l[i] :: l.drop (i + 1)) (n : Int) = odd (l.drop (i + 1)) (n : Int) := by
        have : (!((l[i].size : Int) == (n : Int))) = false := by
          rw [← hs, ht]; simp
        unfold odd
        rw [List.any_cons, this, Bool.false_or]
      rw [this, e3, xsum]
    · have e2 : xorR t l[i] = (⟨#[]⟩, 1) := if_neg hs
      rw [e2, if_neg (by decide)]
      have e3 : odd (l[i] :: l.drop (i + 1)) (n : Int) = true := by
        have : (!((l[i].size : Int) == (n : Int))) = true := by
          have : ((l[i].size : Int) == (n : Int)) = false := by rw [beq_eq_false_iff_ne]; omega
          rw [this]; rfl
        unfold odd
        rw [List.any_cons, this, Bool.true_or]
      rw [e3, if_pos rfl]
theorem mosaicref07_Sum.spec (l : List ByteArray) (z : Int) (k : Nat) (hl : l.length ≤ 1000000) (hk : l.length + 200 ≤ k) : mosaicref07_Sum.f k l z = some (sumR l z) := by
  unfold mosaicref07_Sum.f sumR
  rw [mosaicref07_May.spec, Option.bind_some]
  by_cases h : 1 ≤ z ∧ z ≤ 64
  · rw [decide_eq_true h, if_pos rfl, mosaicref07_Zero.spec _ _ (by omega), Option.bind_some, if_neg (by omega), zeroR, if_pos h]
    obtain ⟨n, rfl⟩ : ∃ m : Nat, z = m := ⟨z.toNat, by omega⟩
    exact mosaicref07_Sum.loop l hl n (by omega) l.length k 0 _ (zeroS_size _) (by omega) (by omega)
  · rw [decide_eq_false h, if_neg (by decide), if_pos h]
theorem mosaiclaw07_BlockSums.loop (l : List ByteArray) (z : Int) (hl : l.length ≤ 120) (hs : ∀ s ∈ l, s.size ≤ 200) (d : Nat) : ∀ (k i : Nat), i + d = l.length + 1 → d + 1000 < k → mosaiclaw07_BlockSums.l0 k l z (i : Int) = some true := by
  induction d with
  | zero =>
    intro k i hi hk
    obtain ⟨k, rfl⟩ : ∃ m, k = m + 1 := ⟨k - 1, by omega⟩
    simp only [mosaiclaw07_BlockSums.l0]
    rw [wrap64_id _ (by omega) (by omega), if_neg (by omega), block_Sum.spec, Option.bind_some, mosaicref07_Sum.spec _ _ _ (by omega) (by omega), Option.bind_some, mosaiclaw07_awake.spec _ (by omega), Option.bind_some, if_pos rfl, if_pos rfl, if_pos rfl, block_Zero.spec, Option.bind_some, mosaicref07_Zero.spec _ _ (by omega), Option.bind_some, beq_self_eq_true]
  | succ d ih =>
    intro k i hi hk
    by_cases hlt : i + 1 < l.length
    · obtain ⟨k, rfl⟩ : ∃ m, k = m + 1 := ⟨k - 1, by omega⟩
      simp only [mosaiclaw07_BlockSums.l0]
      have e1 : rdOf ByteArray.empty l (i : Int) = l[i] := by simp [rdOf, show i < l.length by omega]
      have h1 := hs l[i] (List.getElem_mem _)
      have := ih k (i + 1) (by omega) (by omega)
      rw [show ((i + 1 : Nat) : Int) = (i : Int) + 1 by omega] at this
      rw [wrap64_id _ (by omega) (by omega), if_pos (by omega), if_pos (by omega), if_pos (by omega), if_pos (by omega), e1, block_Xor.spec _ _ (by omega), Option.bind_some, mosaicref07_Xor.spec _ _ _ (by omega) (by omega), Option.bind_some, if_pos rfl, if_pos rfl, block_Is.spec, Option.bind_some, mosaicref07_May.spec, Option.bind_some]
      cases decide (1 ≤ z ∧ z ≤ 64) with
      | true => rw [if_pos rfl, Bool.true_and, bne_self_eq_false, if_neg (by decide), this]
      | false => rw [if_neg (by decide), Bool.false_and, bne_self_eq_false, if_neg (by decide), this]
    · obtain ⟨k, rfl⟩ : ∃ m, k = m + 1 := ⟨k - 1, by omega⟩
      simp only [mosaiclaw07_BlockSums.l0]
      rw [wrap64_id _ (by omega) (by omega), if_neg (by omega), block_Sum.spec, Option.bind_some, mosaicref07_Sum.spec _ _ _ (by omega) (by omega), Option.bind_some, mosaiclaw07_awake.spec _ (by omega), Option.bind_some, if_pos rfl, if_pos rfl, if_pos rfl, block_Zero.spec, Option.bind_some, mosaicref07_Zero.spec _ _ (by omega), Option.bind_some, beq_self_eq_true]

end Go.Proofs.Ytmklpmbfijljcaa.PBlockSums
namespace Go.Proofs.Ytmklpmbfijljcaa.Pure
open Go.RowKit Go.Proofs.Ytmklpmbfijljcaa.PBlockSums Go.Proofs.YtmklpmbfijljcaaW.PrintWords Go.Proofs.YtmklpmbfijljcaaW.PrintLast Go.Proofs.YtmklpmbfijljcaaW.PrintMore Go.Mine
theorem BlockSums : mosaiclaw07_BlockSums.Pure := by
  intro l z _ _ _ _
  refine ⟨100000, ?_⟩
  unfold mosaiclaw07_BlockSums.f
  rw [mosaiclaw07_few.spec _ _ (by omega), Option.bind_some]
  by_cases h : l.length ≤ 120 ∧ ∀ s ∈ l, s.size ≤ 200
  · rw [decide_eq_true h, if_pos rfl]
    exact mosaiclaw07_BlockSums.loop l z h.1 h.2 (l.length + 1) _ 0 (by omega) (by omega)
  · rw [decide_eq_false h, if_neg (by decide), mosaiclaw07_awake.spec _ (by omega)]
    rfl
end Go.Proofs.Ytmklpmbfijljcaa.Pure
