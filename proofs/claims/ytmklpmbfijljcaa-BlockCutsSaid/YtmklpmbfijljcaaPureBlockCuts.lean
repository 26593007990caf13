/- BlockCuts: for every file, size and length, the blocks and their number, of package block, are what the document defines, or its error. No condition. -/
import Derived.Test.YtmklpmbfijljcaaPBlockCutsx6
import Derived.Test.YtmklpmbfijljcaaPlainBits
import Derived.Test.YtmklpmbfijljcaaPlainBlock
namespace Go.Proofs.Ytmklpmbfijljcaa.PBlockCuts
open Go.RowKit Go.Proofs.YtmklpmbfijljcaaW.PrintWords Go.Proofs.YtmklpmbfijljcaaW.PrintLast Go.Proofs.YtmklpmbfijljcaaW.PrintMore Go.Mine
set_option linter.unusedVariables false
set_option linter.unusedSimpArgs false
theorem block_may.spec (z : Int) : block_may.f z = some (decide (1 ≤ z ∧ z ≤ 64)) := by
  unfold block_may.f
  by_cases h : z ≥ 1
  · rw [if_pos h]
    congr 1
    rw [Bool.eq_iff_iff, decide_eq_true_iff, decide_eq_true_iff]
    omega
  · rw [if_neg h]
    congr 1
    rw [eq_comm, decide_eq_false_iff_not]
    omega

theorem block_Count.spec (n z : Int) (k : Nat) (hk : 1 ≤ k) : block_Count.f k n z = some (cntI n z) := by
  obtain ⟨k, rfl⟩ : ∃ m, k = m + 1 := ⟨k - 1, by omega⟩
  have hj : block_Count.j0 (k + 1) n z true = some 0 := by simp only [block_Count.j0]; rw [if_pos trivial]
  unfold block_Count.f
  by_cases h1 : n < 1
  · rw [if_pos h1, hj, cntI, if_neg (by omega)]
  · rw [if_neg h1]
    by_cases h2 : n > 4096
    · rw [if_pos h2, hj, cntI, if_neg (by omega)]
    · rw [if_neg h2, block_may.spec, Option.bind_some]
      by_cases h3 : 1 ≤ z ∧ z ≤ 64
      · rw [decide_eq_true h3]
        simp only [block_Count.j0, Bool.not_true]
        rw [if_neg (by decide), if_neg (by omega)]
        obtain ⟨n, rfl⟩ : ∃ m : Nat, n = m := ⟨n.toNat, by omega⟩
        obtain ⟨z, rfl⟩ : ∃ m : Nat, z = m := ⟨z.toNat, by omega⟩
        rw [wrap64_id ((n : Int) + z) (by omega) (by omega), wrap64_id ((n : Int) + z - 1) (by omega) (by omega), tdiv_pos _ _ (by omega)]
        have e : ((n : Int) + z - 1) / z = (cntN n z : Int) := by
          unfold cntN
          rw [show (n : Int) + z - 1 = ((n + z - 1 : Nat) : Int) by omega, Int.natCast_ediv]
        have hle := cntN_le n z (by omega)
        rw [e, wrap64_id _ (by omega) (by omega), cntI]
        simp only [Int.toNat_natCast]
        by_cases h4 : cntN n z ≤ 96
        · rw [if_neg (by omega), if_pos (by omega)]
        · rw [if_pos (by omega), if_neg (by omega)]
      · rw [decide_eq_false h3]
        simp only [Bool.not_false]
        rw [hj, cntI, if_neg (by omega)]

theorem block_Cut.rep (c : Int) (hc : 0 ≤ c ∧ c ≤ 64) : strings_Repeat.f (⟨#[0]⟩ : ByteArray) c = some (zeroS c.toNat) := by
  unfold strings_Repeat.f
  have z : (⟨#[0]⟩ : ByteArray).size = 1 := rfl
  rw [if_pos (by rw [z]; omega)]
  have e : (⟨#[0]⟩ : ByteArray).data.toList = [0] := rfl
  rw [e, rep0]
  rfl
theorem block_Cut.loop (s : ByteArray) (z : Nat) (hn : 1 ≤ s.size ∧ s.size ≤ 4096) (hz : 1 ≤ z ∧ z ≤ 64) (d : Nat) : ∀ (k j : Nat), j + d = cntN s.size z → d < k → block_Cut.l0 k s (z : Int) (cutL s z j) (s.size : Int) = some (cutL s z (cntN s.size z), 0) := by
  have hle := cntN_le s.size z hz.1
  have hmul := cntN_mul s.size z hz.1
  induction d with
  | zero =>
    intro k j hj hk
    obtain ⟨k, rfl⟩ : ∃ m, k = m + 1 := ⟨k - 1, by omega⟩
    simp only [block_Cut.l0]
    obtain rfl : j = cntN s.size z := by omega
    have h2 : ¬ cntN s.size z * z < s.size := fun h => absurd ((cntN_lt s.size z _ hz.1 hn.1).1 h) (by omega)
    have e : ((cntN s.size z : Nat) : Int) * (z : Int) = ((cntN s.size z * z : Nat) : Int) := by rw [Int.natCast_mul]
    rw [cutL_length, e, wrap64_id _ (by omega) (by omega), if_neg (by omega)]
  | succ d ih =>
    intro k j hj hk
    obtain ⟨k, rfl⟩ : ∃ m, k = m + 1 := ⟨k - 1, by omega⟩
    simp only [block_Cut.l0]
    have h2 : j * z < s.size := (cntN_lt s.size z _ hz.1 hn.1).2 (by omega)
    have e : (j : Int) * (z : Int) = ((j * z : Nat) : Int) := by rw [Int.natCast_mul]
    have e1 : ((j : Int) + 1) * (z : Int) = (((j + 1) * z : Nat) : Int) := by rw [Int.natCast_mul]; rfl
    have e2 : (j + 1) * z = j * z + z := Nat.succ_mul j z
    have e3 : mn ((((j + 1) * z : Nat) : Int)) (s.size : Int) = ((min ((j + 1) * z) s.size : Nat) : Int) := by
      unfold mn
      split <;> omega
    have hsz : (s.extract (j * z) (min ((j + 1) * z) s.size)).size = min ((j + 1) * z) s.size - j * z := by rw [ByteArray.size_extract]; omega
    rw [cutL_length, e, wrap64_id ((j * z : Nat) : Int) (by omega) (by omega), if_pos (by omega), if_pos (by omega), wrap64_id ((j : Int) + 1) (by omega) (by omega), e1, wrap64_id _ (by omega) (by omega), e3, if_pos (by omega), if_pos (by omega), Int.toNat_natCast, Int.toNat_natCast, hsz, wrap64_id _ (by omega) (by omega), block_Cut.rep _ (by omega), Option.bind_some, zeroS_size, if_pos (by omega), if_pos (by omega)]
    have e4 : ((z : Int) - ((min ((j + 1) * z) s.size - j * z : Nat) : Int)).toNat = z - (min ((j + 1) * z) s.size - j * z) := by omega
    rw [e4, blk_piece s z j (by omega), ← cutL_succ]
    exact ih k (j + 1) (by omega) (by omega)
theorem block_Cut.spec (s : ByteArray) (z : Int) (k : Nat) (hk : 5000 ≤ k) : block_Cut.f k s z = some (cutR s z) := by
  obtain ⟨k, rfl⟩ : ∃ m, k = m + 1 := ⟨k - 1, by omega⟩
  have hj : block_Cut.j0 (k + 1) s z true = some ([], 1) := by simp only [block_Cut.j0]; rw [if_pos trivial]
  unfold block_Cut.f
  rw [block_may.spec, Option.bind_some]
  by_cases h3 : 1 ≤ z ∧ z ≤ 64
  · rw [decide_eq_true h3, if_pos rfl]
    by_cases h0 : s.size = 0
    · have : (s.toList == ([] : List UInt8)) = true := by
        rw [bytes_nil s h0]; rfl
      rw [this, hj, cutR, if_pos (.inr h0)]
    · have : (s.toList == ([] : List UInt8)) = false := by
        rw [beq_eq_false_iff_ne]
        exact bytes_ne s (by omega)
      rw [this]
      simp only [block_Cut.j0]
      rw [if_neg (by decide), block_Count.spec _ _ _ (by omega), Option.bind_some, cutR, if_neg (show ¬ (¬ (1 ≤ z ∧ z ≤ 64) ∨ s.size = 0) by omega)]
      by_cases h4 : cntI (s.size : Int) z = 0
      · rw [if_pos h4, if_pos h4]
      · rw [if_neg h4, if_neg h4]
        obtain ⟨z, rfl⟩ : ∃ m : Nat, z = m := ⟨z.toNat, by omega⟩
        have h5 : 1 ≤ (s.size : Int) ∧ (s.size : Int) ≤ 4096 ∧ 1 ≤ (z : Int) ∧ (z : Int) ≤ 64 ∧ cntN (s.size : Int).toNat (z : Int).toNat ≤ 96 := by
          unfold cntI at h4
          split at h4
          · assumption
          · exact absurd rfl h4
        have h6 : cntI (s.size : Int) z = cntN s.size z := by rw [cntI, if_pos h5]; rfl
        rw [h6, Int.toNat_natCast, Int.toNat_natCast]
        have hle := cntN_le s.size z (by omega)
        exact block_Cut.loop s z (by omega) (by omega) (cntN s.size z) k 0 (by omega) (by omega)
  · rw [decide_eq_false h3, if_neg (by decide), hj, cutR, if_pos (.inl h3)]

theorem mosaicref03_Same.loop (l : List ByteArray) (hl : l.length ≤ 1000000000) (m : List ByteArray) (hm : m.length = l.length) (d : Nat) : ∀ (k i : Nat), i + d = l.length → d < k → mosaicref03_Same.l0 k l m (i : Int) = some (decide (l.drop i = m.drop i)) := by
  induction d with
  | zero =>
    intro k i hi hk
    obtain ⟨k, rfl⟩ : ∃ m, k = m + 1 := ⟨k - 1, by omega⟩
    simp only [mosaicref03_Same.l0]
    rw [if_neg (by omega), List.drop_of_length_le (by omega), List.drop_of_length_le (by omega), decide_eq_true rfl]
  | succ d ih =>
    intro k i hi hk
    obtain ⟨k, rfl⟩ : ∃ m, k = m + 1 := ⟨k - 1, by omega⟩
    have h1 : i < l.length := by omega
    have h2 : i < m.length := by omega
    simp only [mosaicref03_Same.l0]
    have e1 : rdOf ByteArray.empty l (i : Int) = l[i] := by simp [rdOf, h1]
    have e2 : rdOf ByteArray.empty m (i : Int) = m[i] := by simp [rdOf, h2]
    rw [if_pos (by omega), if_pos (by omega), if_pos (by omega), e1, e2, wrap64_id _ (by omega) (by omega), List.drop_eq_getElem_cons h1, List.drop_eq_getElem_cons h2]
    have := ih k (i + 1) (by omega) (by omega)
    rw [show ((i + 1 : Nat) : Int) = (i : Int) + 1 by omega] at this
    by_cases h : l[i] = m[i]
    · rw [if_pos (by rw [h]), this]
      congr 1
      rw [Bool.eq_iff_iff, decide_eq_true_iff, decide_eq_true_iff]
      exact ⟨fun e => by rw [h, e], fun e => (List.cons.inj e).2⟩
    · rw [if_neg (fun e => h (toList_inj e))]
      congr 1
      rw [eq_comm, decide_eq_false_iff_not]
      intro hh
      exact h (List.cons.inj hh).1
theorem mosaicref03_Same.spec (l m : List ByteArray) (k : Nat) (hl : l.length ≤ 1000000000) (hk : l.length < k) : mosaicref03_Same.f k l m = some (decide (l = m)) := by
  unfold mosaicref03_Same.f
  by_cases h : l.length = m.length
  · rw [if_pos (by omega)]
    have := mosaicref03_Same.loop l hl m h.symm l.length k 0 (by omega) hk
    simpa using this
  · rw [if_neg (by omega), decide_eq_false (fun e => h (by rw [e]))]

theorem mosaiclaw07_awake.now : mosaiclaw07_awake.f 100 = some true := by decide +kernel
theorem mosaiclaw07_awake.spec (k : Nat) (hk : 100 ≤ k) : mosaiclaw07_awake.f k = some true := at_rounds mosaiclaw07_awake.mono hk mosaiclaw07_awake.now

theorem mosaicref07_May.spec (z : Int) : mosaicref07_May.f z = some (decide (1 ≤ z ∧ z ≤ 64)) := by
  unfold mosaicref07_May.f
  by_cases h : z ≥ 1
  · rw [if_pos h]
    congr 1
    rw [Bool.eq_iff_iff, decide_eq_true_iff, decide_eq_true_iff]
    omega
  · rw [if_neg h]
    congr 1
    rw [eq_comm, decide_eq_false_iff_not]
    omega

theorem mosaicref07_Count.loop (n z : Nat) (hn : 1 ≤ n ∧ n ≤ 4096) (hz : 1 ≤ z ∧ z ≤ 64) (d : Nat) : ∀ (k i : Nat), i + d = cntN n z → d < k → mosaicref07_Count.l0 k (n : Int) (z : Int) (i : Int) = some (if cntN n z ≤ 96 then (cntN n z : Int) else 0) := by
  have hle := cntN_le n z hz.1
  have hmul := cntN_mul n z hz.1
  induction d with
  | zero =>
    intro k i hi hk
    obtain ⟨k, rfl⟩ : ∃ m, k = m + 1 := ⟨k - 1, by omega⟩
    simp only [mosaicref07_Count.l0]
    obtain rfl : i = cntN n z := by omega
    have h2 : ¬ cntN n z * z < n := fun h => absurd ((cntN_lt n z _ hz.1 hn.1).1 h) (by omega)
    have e : ((cntN n z : Nat) : Int) * (z : Int) = ((cntN n z * z : Nat) : Int) := by rw [Int.natCast_mul]
    rw [e, wrap64_id _ (by omega) (by omega), if_neg (by omega)]
    by_cases h4 : cntN n z ≤ 96
    · rw [if_neg (by omega), if_pos h4]
    · rw [if_pos (by omega), if_neg h4]
  | succ d ih =>
    intro k i hi hk
    obtain ⟨k, rfl⟩ : ∃ m, k = m + 1 := ⟨k - 1, by omega⟩
    simp only [mosaicref07_Count.l0]
    have h2 : i * z < n := (cntN_lt n z _ hz.1 hn.1).2 (by omega)
    have e : (i : Int) * (z : Int) = ((i * z : Nat) : Int) := by rw [Int.natCast_mul]
    rw [e, wrap64_id _ (by omega) (by omega), if_pos (by omega), wrap64_id _ (by omega) (by omega)]
    have := ih k (i + 1) (by omega) (by omega)
    rw [show ((i + 1 : Nat) : Int) = (i : Int) + 1 by omega] at this
    exact this
theorem mosaicref07_Count.spec (n z : Int) (k : Nat) (hk : 5000 ≤ k) : mosaicref07_Count.f k n z = some (cntI n z) := by
  obtain ⟨k, rfl⟩ : ∃ m, k = m + 1 := ⟨k - 1, by omega⟩
  have hj : mosaicref07_Count.j0 (k + 1) n z true = some 0 := by simp only [mosaicref07_Count.j0]; rw [if_pos trivial]
  unfold mosaicref07_Count.f
  by_cases h1 : n < 1
  · rw [if_pos h1, hj, cntI, if_neg (by omega)]
  · rw [if_neg h1]
    by_cases h2 : n > 4096
    · rw [if_pos h2, hj, cntI, if_neg (by omega)]
    · rw [if_neg h2, mosaicref07_May.spec, Option.bind_some]
      by_cases h3 : 1 ≤ z ∧ z ≤ 64
      · rw [decide_eq_true h3]
        simp only [mosaicref07_Count.j0, Bool.not_true]
        rw [if_neg (by decide)]
        obtain ⟨n, rfl⟩ : ∃ m : Nat, n = m := ⟨n.toNat, by omega⟩
        obtain ⟨z, rfl⟩ : ∃ m : Nat, z = m := ⟨z.toNat, by omega⟩
        have hle := cntN_le n z (by omega)
        have := mosaicref07_Count.loop n z (by omega) (by omega) (cntN n z) k 0 (by omega) (by omega)
        rw [show ((0 : Nat) : Int) = 0 from rfl] at this
        rw [this, cntI]
        simp only [Int.toNat_natCast]
        by_cases h4 : cntN n z ≤ 96
        · rw [if_pos h4, if_pos (by omega)]
        · rw [if_neg h4, if_neg (by omega)]
      · rw [decide_eq_false h3]
        simp only [Bool.not_false]
        rw [hj, cntI, if_neg (by omega)]

theorem mosaicref07_Cut.inner (s : ByteArray) (z n j : Nat) (L : List ByteArray) (hz : 1 ≤ z ∧ z ≤ 64) (hs : s.size ≤ 10000) (hj : j ≤ 100) (hL : L.length = j) (d : Nat) : ∀ (k m : Nat), m + d = z → d < k → mosaicref07_Cut.l1 k s (z : Int) (n : Int) L (j : Int) (blkL s z j m) ((j * z + m : Nat) : Int) = mosaicref07_Cut.l0 (k - d - 1) s (z : Int) (n : Int) (L ++ [blk s z j]) ((j : Int) + 1) := by
  have hm := Nat.mul_le_mul hj hz.2
  have e : (j : Int) * (z : Int) = ((j * z : Nat) : Int) := by rw [Int.natCast_mul]
  induction d with
  | zero =>
    intro k m hm2 hk
    obtain ⟨k, rfl⟩ : ∃ m, k = m + 1 := ⟨k - 1, by omega⟩
    simp only [mosaicref07_Cut.l1]
    obtain rfl : z = m := by omega
    rw [e, wrap64_id ((j * z : Nat) : Int) (by omega) (by omega), wrap64_id (((j * z : Nat) : Int) + (z : Int)) (by omega) (by omega), if_neg (by omega), if_pos (by omega), wrap64_id _ (by omega) (by omega)]
    rfl
  | succ d ih =>
    intro k m hm2 hk
    obtain ⟨k, rfl⟩ : ∃ m, k = m + 1 := ⟨k - 1, by omega⟩
    simp only [mosaicref07_Cut.l1]
    have e9 := blkL_length s z j m
    have e10 : wrap64 (((j * z + m : Nat) : Int) + 1) = ((j * z + (m + 1) : Nat) : Int) := by
      rw [wrap64_id _ (by omega) (by omega)]
      omega
    have hi := ih k (m + 1) (by omega) (by omega)
    rw [e, wrap64_id ((j * z : Nat) : Int) (by omega) (by omega), wrap64_id (((j * z : Nat) : Int) + (z : Int)) (by omega) (by omega), if_pos (by omega), e10]
    rw [show k + 1 - (d + 1) - 1 = k - d - 1 by omega, ← hi, blkL_succ]
    by_cases h1 : j * z + m < s.size
    · rw [if_pos (by omega), if_pos (by omega), if_pos (by omega), bt_nb, Int.toNat_natCast]
    · rw [if_neg (by omega), if_pos (by omega), nb_oob s (j * z + m) (by omega)]
      rfl
theorem mosaicref07_Cut.loop (s : ByteArray) (z n : Nat) (hz : 1 ≤ z ∧ z ≤ 64) (hs : s.size ≤ 10000) (hn : n ≤ 96) (d : Nat) : ∀ (k j : Nat), j + d = n → 100 * d < k → mosaicref07_Cut.l0 k s (z : Int) (n : Int) (cutL s z j) (j : Int) = some (cutL s z n, 0) := by
  induction d with
  | zero =>
    intro k j hj hk
    obtain ⟨k, rfl⟩ : ∃ m, k = m + 1 := ⟨k - 1, by omega⟩
    simp only [mosaicref07_Cut.l0]
    obtain rfl : j = n := by omega
    rw [if_neg (by omega)]
  | succ d ih =>
    intro k j hj hk
    obtain ⟨k, rfl⟩ : ∃ m, k = m + 1 := ⟨k - 1, by omega⟩
    simp only [mosaicref07_Cut.l0]
    have e : (j : Int) * (z : Int) = ((j * z : Nat) : Int) := by rw [Int.natCast_mul]
    have hm := Nat.mul_le_mul (show j ≤ 96 by omega) hz.2
    rw [if_pos (by omega), e, wrap64_id _ (by omega) (by omega)]
    have hi := mosaicref07_Cut.inner s z n j (cutL s z j) hz hs (by omega) (cutL_length _ _ _) z k 0 (by omega) (by omega)
    have h0 : blkL s z j 0 = [] := rfl
    rw [h0, Nat.add_zero] at hi
    rw [hi, ← cutL_succ]
    have := ih (k - z - 1) (j + 1) (by omega) (by omega)
    rw [show ((j + 1 : Nat) : Int) = (j : Int) + 1 by omega] at this
    exact this
theorem mosaicref07_Cut.spec (s : ByteArray) (z : Int) (k : Nat) (hs : s.size ≤ 10000) (hk : 10000 ≤ k) : mosaicref07_Cut.f k s z = some (cutR s z) := by
  obtain ⟨k, rfl⟩ : ∃ m, k = m + 1 := ⟨k - 1, by omega⟩
  have hj : mosaicref07_Cut.j0 (k + 1) s z true = some ([], 1) := by simp only [mosaicref07_Cut.j0]; rw [if_pos trivial]
  unfold mosaicref07_Cut.f
  rw [mosaicref07_May.spec, Option.bind_some]
  by_cases h3 : 1 ≤ z ∧ z ≤ 64
  · rw [decide_eq_true h3, if_pos rfl]
    by_cases h0 : s.size = 0
    · have : ((s.size : Int) == 0) = true := by rw [h0]; rfl
      rw [this, hj, cutR, if_pos (.inr h0)]
    · have : ((s.size : Int) == 0) = false := by
        rw [beq_eq_false_iff_ne]
        omega
      rw [this]
      simp only [mosaicref07_Cut.j0]
      rw [if_neg (by decide), mosaicref07_Count.spec _ _ _ (by omega), Option.bind_some, cutR, if_neg (show ¬ (¬ (1 ≤ z ∧ z ≤ 64) ∨ s.size = 0) by omega)]
      by_cases h4 : cntI (s.size : Int) z = 0
      · rw [if_pos h4, if_pos h4]
      · rw [if_neg h4, if_neg h4]
        obtain ⟨z, rfl⟩ : ∃ m : Nat, z = m := ⟨z.toNat, by omega⟩
        have h5 : 1 ≤ (s.size : Int) ∧ (s.size : Int) ≤ 4096 ∧ 1 ≤ (z : Int) ∧ (z : Int) ≤ 64 ∧ cntN (s.size : Int).toNat (z : Int).toNat ≤ 96 := by
          unfold cntI at h4
          split at h4
          · assumption
          · exact absurd rfl h4
        have h6 : cntI (s.size : Int) z = cntN s.size z := by rw [cntI, if_pos h5]; rfl
        have h7 : cntN s.size z ≤ 96 := h5.2.2.2.2
        rw [h6, Int.toNat_natCast, Int.toNat_natCast]
        exact mosaicref07_Cut.loop s z (cntN s.size z) (by omega) hs h7 (cntN s.size z) k 0 (by omega) (by omega)
  · rw [decide_eq_false h3, if_neg (by decide), hj, cutR, if_pos (.inl h3)]

end Go.Proofs.Ytmklpmbfijljcaa.PBlockCuts
namespace Go.Proofs.Ytmklpmbfijljcaa.Pure
open Go.RowKit Go.Proofs.Ytmklpmbfijljcaa.PBlockCuts Go.Proofs.YtmklpmbfijljcaaW.PrintWords Go.Proofs.YtmklpmbfijljcaaW.PrintLast Go.Proofs.YtmklpmbfijljcaaW.PrintMore Go.Mine
theorem BlockCuts : mosaiclaw07_BlockCuts.Pure := by
  intro s z n hs hz hn
  refine ⟨100000, ?_⟩
  unfold mosaiclaw07_BlockCuts.f
  by_cases h : (s.size : Int) > 6000
  · rw [if_pos h, mosaiclaw07_awake.spec _ (by omega)]
    rfl
  · rw [if_neg h, block_Cut.spec _ _ _ (by omega), Option.bind_some, mosaicref07_Cut.spec _ _ _ (by omega) (by omega), Option.bind_some, mosaiclaw07_awake.spec _ (by omega), Option.bind_some, if_pos rfl]
    have hl : (cutR s z).1.length ≤ 5000 := by
      unfold cutR
      split
      · simp
      · split
        · simp
        · simp only [cutL_length]
          unfold cntI
          split <;> omega
    rw [mosaicref03_Same.spec _ _ _ (by omega) (by omega), Option.bind_some, decide_eq_true rfl, if_pos rfl, if_pos rfl, block_Count.spec _ _ _ (by omega), Option.bind_some, mosaicref07_Count.spec _ _ _ (by omega), Option.bind_some, beq_self_eq_true]
end Go.Proofs.Ytmklpmbfijljcaa.Pure
