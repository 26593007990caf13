/- BlockGroup: for every blocks, size and part, sums of package block do not hang on the order, and what is added twice is gone. No condition. -/
import Derived.Test.YtmklpmbfijljcaaPBlockGroupx6
import Derived.Test.YtmklpmbfijljcaaPlainBits
import Derived.Test.YtmklpmbfijljcaaPlainBlock
import Derived.Test.YtmklpmbfijljcaaPlainSets
import Derived.Test.YtmklpmbfijljcaaPlainXor
import Derived.Test.YtmklpmbfijljcaaPlainXorG
namespace Go.Proofs.Ytmklpmbfijljcaa.PBlockGroup
open Go.RowKit Go.Proofs.YtmklpmbfijljcaaW.PrintWords Go.Proofs.YtmklpmbfijljcaaW.PrintLast Go.Proofs.YtmklpmbfijljcaaW.PrintMore Go.Mine
set_option linter.unusedVariables false
set_option linter.unusedSimpArgs false
theorem block_may.spec (z : Int) : block_may.f z = some (decide (1 ≤ z ∧ z ≤ 64)) := by
  unfold block_may.f
  by_cases h : z ≥ 1
  · rw [if_pos h]
    congr 1
    rw [Bool.eq_iff_iff, decide_eq_true_iff, decide_eq_true_iff]
    omega
  · rw [if_neg h]
    congr 1
    rw [eq_comm, decide_eq_false_iff_not]
    omega

theorem block_Count.spec (n z : Int) (k : Nat) (hk : 1 ≤ k) : block_Count.f k n z = some (cntI n z) := by
  obtain ⟨k, rfl⟩ : ∃ m, k = m + 1 := ⟨k - 1, by omega⟩
  have hj : block_Count.j0 (k + 1) n z true = some 0 := by simp only [block_Count.j0]; rw [if_pos trivial]
  unfold block_Count.f
  by_cases h1 : n < 1
  · rw [if_pos h1, hj, cntI, if_neg (by omega)]
  · rw [if_neg h1]
    by_cases h2 : n > 4096
    · rw [if_pos h2, hj, cntI, if_neg (by omega)]
    · rw [if_neg h2, block_may.spec, Option.bind_some]
      by_cases h3 : 1 ≤ z ∧ z ≤ 64
      · rw [decide_eq_true h3]
        simp only [block_Count.j0, Bool.not_true]
        rw [if_neg (by decide), if_neg (by omega)]
        obtain ⟨n, rfl⟩ : ∃ m : Nat, n = m := ⟨n.toNat, by omega⟩
        obtain ⟨z, rfl⟩ : ∃ m : Nat, z = m := ⟨z.toNat, by omega⟩
        rw [wrap64_id ((n : Int) + z) (by omega) (by omega), wrap64_id ((n : Int) + z - 1) (by omega) (by omega), tdiv_pos _ _ (by omega)]
        have e : ((n : Int) + z - 1) / z = (cntN n z : Int) := by
          unfold cntN
          rw [show (n : Int) + z - 1 = ((n + z - 1 : Nat) : Int) by omega, Int.natCast_ediv]
        have hle := cntN_le n z (by omega)
        rw [e, wrap64_id _ (by omega) (by omega), cntI]
        simp only [Int.toNat_natCast]
        by_cases h4 : cntN n z ≤ 96
        · rw [if_neg (by omega), if_pos (by omega)]
        · rw [if_pos (by omega), if_neg (by omega)]
      · rw [decide_eq_false h3]
        simp only [Bool.not_false]
        rw [hj, cntI, if_neg (by omega)]

theorem block_Cut.rep (c : Int) (hc : 0 ≤ c ∧ c ≤ 64) : strings_Repeat.f (⟨#[0]⟩ : ByteArray) c = some (zeroS c.toNat) := by
  unfold strings_Repeat.f
  have z : (⟨#[0]⟩ : ByteArray).size = 1 := rfl
  rw [if_pos (by rw [z]; omega)]
  have e : (⟨#[0]⟩ : ByteArray).data.toList = [0] := rfl
  rw [e, rep0]
  rfl
theorem block_Cut.loop (s : ByteArray) (z : Nat) (hn : 1 ≤ s.size ∧ s.size ≤ 4096) (hz : 1 ≤ z ∧ z ≤ 64) (d : Nat) : ∀ (k j : Nat), j + d = cntN s.size z → d < k → block_Cut.l0 k s (z : Int) (cutL s z j) (s.size : Int) = some (cutL s z (cntN s.size z), 0) := by
  have hle := cntN_le s.size z hz.1
  have hmul := cntN_mul s.size z hz.1
  induction d with
  | zero =>
    intro k j hj hk
    obtain ⟨k, rfl⟩ : ∃ m, k = m + 1 := ⟨k - 1, by omega⟩
    simp only [block_Cut.l0]
    obtain rfl : j = cntN s.size z := by omega
    have h2 : ¬ cntN s.size z * z < s.size := fun h => absurd ((cntN_lt s.size z _ hz.1 hn.1).1 h) (by omega)
    have e : ((cntN s.size z : Nat) : Int) * (z : Int) = ((cntN s.size z * z : Nat) : Int) := by rw [Int.natCast_mul]
    rw [cutL_length, e, wrap64_id _ (by omega) (by omega), if_neg (by omega)]
  | succ d ih =>
    intro k j hj hk
    obtain ⟨k, rfl⟩ : ∃ m, k = m + 1 := ⟨k - 1, by omega⟩
    simp only [block_Cut.l0]
    have h2 : j * z < s.size := (cntN_lt s.size z _ hz.1 hn.1).2 (by omega)
    have e : (j : Int) * (z : Int) = ((j * z : Nat) : Int) := by rw [Int.natCast_mul]
    have e1 : ((j : Int) + 1) * (z : Int) = (((j + 1) * z : Nat) : Int) := by rw [Int.natCast_mul]; rfl
    have e2 : (j + 1) * z = j * z + z := Nat.succ_mul j z
    have e3 : mn ((((j + 1) * z : Nat) : Int)) (s.size : Int) = ((min ((j + 1) * z) s.size : Nat) : Int) := by
      unfold mn
      split <;> omega
    have hsz : (s.extract (j * z) (min ((j + 1) * z) s.size)).size = min ((j + 1) * z) s.size - j * z := by rw [ByteArray.size_extract]; omega
    rw [cutL_length, e, wrap64_id ((j * z : Nat) : Int) (by omega) (by omega), if_pos (by omega), if_pos (by omega), wrap64_id ((j : Int) + 1) (by omega) (by omega), e1, wrap64_id _ (by omega) (by omega), e3, if_pos (by omega), if_pos (by omega), Int.toNat_natCast, Int.toNat_natCast, hsz, wrap64_id _ (by omega) (by omega), block_Cut.rep _ (by omega), Option.bind_some, zeroS_size, if_pos (by omega), if_pos (by omega)]
    have e4 : ((z : Int) - ((min ((j + 1) * z) s.size - j * z : Nat) : Int)).toNat = z - (min ((j + 1) * z) s.size - j * z) := by omega
    rw [e4, blk_piece s z j (by omega), ← cutL_succ]
    exact ih k (j + 1) (by omega) (by omega)
theorem block_Cut.spec (s : ByteArray) (z : Int) (k : Nat) (hk : 5000 ≤ k) : block_Cut.f k s z = some (cutR s z) := by
  obtain ⟨k, rfl⟩ : ∃ m, k = m + 1 := ⟨k - 1, by omega⟩
  have hj : block_Cut.j0 (k + 1) s z true = some ([], 1) := by simp only [block_Cut.j0]; rw [if_pos trivial]
  unfold block_Cut.f
  rw [block_may.spec, Option.bind_some]
  by_cases h3 : 1 ≤ z ∧ z ≤ 64
  · rw [decide_eq_true h3, if_pos rfl]
    by_cases h0 : s.size = 0
    · have : (s.toList == ([] : List UInt8)) = true := by
        rw [bytes_nil s h0]; rfl
      rw [this, hj, cutR, if_pos (.inr h0)]
    · have : (s.toList == ([] : List UInt8)) = false := by
        rw [beq_eq_false_iff_ne]
        exact bytes_ne s (by omega)
      rw [this]
      simp only [block_Cut.j0]
      rw [if_neg (by decide), block_Count.spec _ _ _ (by omega), Option.bind_some, cutR, if_neg (show ¬ (¬ (1 ≤ z ∧ z ≤ 64) ∨ s.size = 0) by omega)]
      by_cases h4 : cntI (s.size : Int) z = 0
      · rw [if_pos h4, if_pos h4]
      · rw [if_neg h4, if_neg h4]
        obtain ⟨z, rfl⟩ : ∃ m : Nat, z = m := ⟨z.toNat, by omega⟩
        have h5 : 1 ≤ (s.size : Int) ∧ (s.size : Int) ≤ 4096 ∧ 1 ≤ (z : Int) ∧ (z : Int) ≤ 64 ∧ cntN (s.size : Int).toNat (z : Int).toNat ≤ 96 := by
          unfold cntI at h4
          split at h4
          · assumption
          · exact absurd rfl h4
        have h6 : cntI (s.size : Int) z = cntN s.size z := by rw [cntI, if_pos h5]; rfl
        rw [h6, Int.toNat_natCast, Int.toNat_natCast]
        have hle := cntN_le s.size z (by omega)
        exact block_Cut.loop s z (by omega) (by omega) (cntN s.size z) k 0 (by omega) (by omega)
  · rw [decide_eq_false h3, if_neg (by decide), hj, cutR, if_pos (.inl h3)]

theorem mosaicref03_Same.loop (l : List ByteArray) (hl : l.length ≤ 1000000000) (m : List ByteArray) (hm : m.length = l.length) (d : Nat) : ∀ (k i : Nat), i + d = l.length → d < k → mosaicref03_Same.l0 k l m (i : Int) = some (decide (l.drop i = m.drop i)) := by
  induction d with
  | zero =>
    intro k i hi hk
    obtain ⟨k, rfl⟩ : ∃ m, k = m + 1 := ⟨k - 1, by omega⟩
    simp only [mosaicref03_Same.l0]
    rw [if_neg (by omega), List.drop_of_length_le (by omega), List.drop_of_length_le (by omega), decide_eq_true rfl]
  | succ d ih =>
    intro k i hi hk
    obtain ⟨k, rfl⟩ : ∃ m, k = m + 1 := ⟨k - 1, by omega⟩
    have h1 : i < l.length := by omega
    have h2 : i < m.length := by omega
    simp only [mosaicref03_Same.l0]
    have e1 : rdOf ByteArray.empty l (i : Int) = l[i] := by simp [rdOf, h1]
    have e2 : rdOf ByteArray.empty m (i : Int) = m[i] := by simp [rdOf, h2]
    rw [if_pos (by omega), if_pos (by omega), if_pos (by omega), e1, e2, wrap64_id _ (by omega) (by omega), List.drop_eq_getElem_cons h1, List.drop_eq_getElem_cons h2]
    have := ih k (i + 1) (by omega) (by omega)
    rw [show ((i + 1 : Nat) : Int) = (i : Int) + 1 by omega] at this
    by_cases h : l[i] = m[i]
    · rw [if_pos (by rw [h]), this]
      congr 1
      rw [Bool.eq_iff_iff, decide_eq_true_iff, decide_eq_true_iff]
      exact ⟨fun e => by rw [h, e], fun e => (List.cons.inj e).2⟩
    · rw [if_neg (fun e => h (toList_inj e))]
      congr 1
      rw [eq_comm, decide_eq_false_iff_not]
      intro hh
      exact h (List.cons.inj hh).1
theorem mosaicref03_Same.spec (l m : List ByteArray) (k : Nat) (hl : l.length ≤ 1000000000) (hk : l.length < k) : mosaicref03_Same.f k l m = some (decide (l = m)) := by
  unfold mosaicref03_Same.f
  by_cases h : l.length = m.length
  · rw [if_pos (by omega)]
    have := mosaicref03_Same.loop l hl m h.symm l.length k 0 (by omega) hk
    simpa using this
  · rw [if_neg (by omega), decide_eq_false (fun e => h (by rw [e]))]

theorem block_Xor.spec (a b : ByteArray) (h : a.size ≤ 140737488351232) : block_Xor.f a b = some (xorR a b) := by
  unfold block_Xor.f xorR
  by_cases hs : a.size = b.size
  · rw [if_pos hs, if_pos hs, if_pos h]
    rfl
  · rw [if_neg hs, if_neg hs]

theorem mosaiclaw07_awake.now : mosaiclaw07_awake.f 100 = some true := by decide +kernel
theorem mosaiclaw07_awake.spec (k : Nat) (hk : 100 ≤ k) : mosaiclaw07_awake.f k = some true := at_rounds mosaiclaw07_awake.mono hk mosaiclaw07_awake.now

theorem mosaiclaw07_few.loop (l : List ByteArray) (hl : l.length ≤ 120) (d : Nat) : ∀ (k i : Nat), i + d = l.length → d < k → mosaiclaw07_few.l0 k l (i : Int) = some (decide (∀ s ∈ l.drop i, s.size ≤ 200)) := by
  induction d with
  | zero =>
    intro k i hi hk
    obtain ⟨k, rfl⟩ : ∃ m, k = m + 1 := ⟨k - 1, by omega⟩
    simp only [mosaiclaw07_few.l0]
    rw [if_neg (by omega), List.drop_of_length_le (by omega), decide_eq_true (by simp)]
  | succ d ih =>
    intro k i hi hk
    obtain ⟨k, rfl⟩ : ∃ m, k = m + 1 := ⟨k - 1, by omega⟩
    have h1 : i < l.length := by omega
    simp only [mosaiclaw07_few.l0]
    have e1 : rdOf ByteArray.empty l (i : Int) = l[i] := by simp [rdOf, h1]
    rw [if_pos (by omega), if_pos (by omega), e1, wrap64_id _ (by omega) (by omega), List.drop_eq_getElem_cons h1]
    have := ih k (i + 1) (by omega) (by omega)
    rw [show ((i + 1 : Nat) : Int) = (i : Int) + 1 by omega] at this
    by_cases hs : (l[i].size : Int) > 200
    · rw [if_pos hs]
      congr 1
      rw [eq_comm, decide_eq_false_iff_not]
      intro hh
      have := hh l[i] List.mem_cons_self
      omega
    · rw [if_neg hs, this]
      congr 1
      rw [Bool.eq_iff_iff, decide_eq_true_iff, decide_eq_true_iff]
      constructor
      · intro hh s hm
        rcases List.mem_cons.1 hm with rfl | hm
        · omega
        · exact hh s hm
      · intro hh s hm
        exact hh s (List.mem_cons_of_mem _ hm)
theorem mosaiclaw07_few.spec (l : List ByteArray) (k : Nat) (hk : 200 ≤ k) : mosaiclaw07_few.f k l = some (decide (l.length ≤ 120 ∧ ∀ s ∈ l, s.size ≤ 200)) := by
  unfold mosaiclaw07_few.f
  by_cases h : (l.length : Int) > 120
  · rw [if_pos h, decide_eq_false (by omega)]
  · rw [if_neg h]
    have := mosaiclaw07_few.loop l (by omega) l.length k 0 (by omega) (by omega)
    rw [List.drop_zero] at this
    rw [show (0 : Int) = ((0 : Nat) : Int) from rfl, this]
    congr 1
    rw [Bool.eq_iff_iff, decide_eq_true_iff, decide_eq_true_iff]
    exact ⟨fun hh => ⟨by omega, hh⟩, fun hh => hh.2⟩

theorem block_Sum.go_eq (n : Nat) (l : List ByteArray) : ∀ (x : List Int), Bytes x → x.length = n → strOfNums (block_Sum.go n x l) = xsum (strOfNums x) l := by
  induction l with
  | nil => intro x _ _; rfl
  | cons s l ih =>
    intro x hx hn
    rw [block_Sum.go, xsum, ih _ (bytes_xor x hx s n (by omega)) (by rw [bothB_length, hn]), ← hn, bothB_step x hx s]
theorem block_Sum.spec (l : List ByteArray) (z : Int) : block_Sum.f l z = some (sumR l z) := by
  unfold block_Sum.f sumR
  rw [block_may.spec, Option.bind_some]
  by_cases h : 1 ≤ z ∧ z ≤ 64
  · rw [decide_eq_true h, if_pos rfl, if_neg (show ¬ (z < 0 ∨ 1000000 < z) by omega), if_neg (show ¬ ¬ (1 ≤ z ∧ z ≤ 64) from fun hh => hh h)]
    show (if odd l z = true then _ else _) = _
    cases odd l z with
    | true => rfl
    | false =>
      rw [if_neg (by decide), if_neg (by decide), block_Sum.go_eq _ _ _ (bytes_zero _) (List.length_replicate ..), strOfNums_zero]
  · rw [decide_eq_false h, if_neg (by decide), if_pos h]

theorem block_Zero.spec (z : Int) : block_Zero.f z = some (zeroR z) := by
  unfold block_Zero.f zeroR
  rw [block_may.spec, Option.bind_some]
  by_cases h : 1 ≤ z ∧ z ≤ 64
  · rw [decide_eq_true h, if_pos rfl, if_pos h]
    have e : strings_Repeat.f (⟨#[0]⟩ : ByteArray) z = some (zeroS z.toNat) := by
      unfold strings_Repeat.f
      have z1 : (⟨#[0]⟩ : ByteArray).size = 1 := rfl
      rw [if_pos (by rw [z1]; omega)]
      have e : (⟨#[0]⟩ : ByteArray).data.toList = [0] := rfl
      rw [e, rep0]
      rfl
    rw [e]
    rfl
  · rw [decide_eq_false h, if_neg (by decide), if_neg h]
theorem mosaiclaw07_BlockGroup.two (l : List ByteArray) (hl : l.length ≤ 40) (z p : Int) (hz : 1 ≤ z ∧ z ≤ 64) (ho : odd l z = false) (k : Nat) (hk : 2000 ≤ k) (q : Int) (h0 : 0 ≤ q) (h1 : q ≤ l.length) :
    mosaiclaw07_BlockGroup.j2 k l z (xsum (zeroS z.toNat) l) l.reverse (l ++ l.reverse) q = some true := by
  obtain ⟨k, rfl⟩ : ∃ m, k = m + 1 := ⟨k - 1, by omega⟩
  simp only [mosaiclaw07_BlockGroup.j2]
  have o1 : odd l.reverse z = false := odd_sub l _ z ho fun s hs => List.mem_reverse.1 hs
  have o2 : odd (l ++ l.reverse) z = false := odd_sub l _ z ho fun s hs => (List.mem_append.1 hs).elim id List.mem_reverse.1
  have o3 : odd (l.take q.toNat) z = false := odd_sub l _ z ho fun s hs => List.mem_of_mem_take hs
  have o4 : odd (l.drop q.toNat) z = false := odd_sub l _ z ho fun s hs => List.mem_of_mem_drop hs
  rw [block_Sum.spec, Option.bind_some, block_Sum.spec, Option.bind_some, if_pos h0, if_pos h1, block_Sum.spec, Option.bind_some, block_Sum.spec, Option.bind_some, sumR_ok _ _ hz o1, sumR_ok _ _ hz o2, sumR_ok _ _ hz o3, sumR_ok _ _ hz o4]
  rw [block_Xor.spec _ _ (by rw [xsum_size, zeroS_size]; omega), Option.bind_some, mosaiclaw07_awake.spec _ (by omega), Option.bind_some, if_pos rfl]
  have e1 : xorR (xsum (zeroS z.toNat) (l.take q.toNat)) (xsum (zeroS z.toNat) (l.drop q.toNat)) = (xsum (zeroS z.toNat) l, 0) := by
    unfold xorR
    rw [if_pos (by rw [xsum_size, xsum_size]), xsum_parts]
  rw [e1, if_pos (show wrap64 (wrap64 (wrap64 (wrap64 ((0 : Int) + 0) + 0) + 0) + 0) = 0 from by decide +kernel), xsum_reverse, if_pos rfl, block_Zero.spec, Option.bind_some, xsum_twice]
  unfold zeroR
  rw [if_pos hz, if_pos rfl, beq_self_eq_true]
theorem mosaiclaw07_BlockGroup.loop (l : List ByteArray) (hl : l.length ≤ 40) (z p : Int) (hp : -9223372036854775808 ≤ p ∧ p ≤ 9223372036854775807) (hz : 1 ≤ z ∧ z ≤ 64) (ho : odd l z = false) (d : Nat) : ∀ (k : Nat), d ≤ l.length → d + 3000 < k →
    mosaiclaw07_BlockGroup.l0 k l z p (xsum (zeroS z.toNat) l) (l.drop d).reverse ((d : Int) - 1) = some true := by
  induction d with
  | zero =>
    intro k _ hk
    obtain ⟨k, rfl⟩ : ∃ m, k = m + 1 := ⟨k - 1, by omega⟩
    simp only [mosaiclaw07_BlockGroup.l0]
    rw [if_neg (by omega), List.drop_zero, List.length_nil, if_pos (by omega), Option.bind_some, List.nil_append, if_pos (by rw [List.length_reverse]; omega), Option.bind_some]
    by_cases hn : (l.length : Int) > 0
    · rw [if_pos hn, if_neg (by omega)]
      have e1 := Int.lt_tmod_of_pos p (show (0 : Int) < l.length by omega)
      have e2 := Int.tmod_lt_of_pos p (show (0 : Int) < l.length by omega)
      rw [wrap64_id _ (by omega) (by omega)]
      exact mosaiclaw07_BlockGroup.two l hl z p hz ho k (by omega) _ (Int.tmod_nonneg _ (by omega)) (Int.le_of_lt (Int.tmod_lt_of_pos _ (by omega)))
    · rw [if_neg hn]
      exact mosaiclaw07_BlockGroup.two l hl z p hz ho k (by omega) _ (by omega) (by omega)
  | succ d ih =>
    intro k hd hk
    obtain ⟨k, rfl⟩ : ∃ m, k = m + 1 := ⟨k - 1, by omega⟩
    simp only [mosaiclaw07_BlockGroup.l0]
    have h1 : d < l.length := by omega
    have e1 : rdOf ByteArray.empty l (((d + 1 : Nat) : Int) - 1) = l[d] := by
      have : (((d + 1 : Nat) : Int) - 1).toNat = d := by omega
      simp [rdOf, this, h1]
    rw [if_pos (by omega), if_pos (by omega), if_pos (by omega), if_pos (by rw [List.length_reverse, List.length_drop]; omega), e1, wrap64_id _ (by omega) (by omega)]
    have := ih k (by omega) (by omega)
    rw [List.drop_eq_getElem_cons h1, List.reverse_cons] at this
    rw [show ((d + 1 : Nat) : Int) - 1 - 1 = (d : Int) - 1 by omega]
    exact this
theorem mosaiclaw07_BlockGroup.rest (l : List ByteArray) (z p : Int) (hp : -9223372036854775808 ≤ p ∧ p ≤ 9223372036854775807) (b : Bool) (hb : b = false → l.length ≤ 40) : mosaiclaw07_BlockGroup.j0 10000 l z p b = some true := by
  show mosaiclaw07_BlockGroup.j0 (9999 + 1) l z p b = some true
  cases b with
  | true =>
    simp only [mosaiclaw07_BlockGroup.j0]
    rw [if_pos trivial, mosaiclaw07_awake.spec _ (by omega)]
    rfl
  | false =>
    have hl := hb rfl
    simp only [mosaiclaw07_BlockGroup.j0]
    rw [if_neg (by decide), block_Sum.spec, Option.bind_some]
    by_cases hz : 1 ≤ z ∧ z ≤ 64
    · cases ho : odd l z with
      | true =>
        have : sumR l z = (⟨#[]⟩, 1) := by
          unfold sumR
          rw [if_neg (show ¬ ¬ (1 ≤ z ∧ z ≤ 64) from fun hh => hh hz), ho, if_pos rfl]
        rw [this, if_neg (by decide), mosaiclaw07_awake.spec _ (by omega), Option.bind_some, if_pos rfl]
        decide +kernel
      | false =>
        rw [sumR_ok _ _ hz ho, if_pos rfl, wrap64_id _ (by omega) (by omega)]
        have := mosaiclaw07_BlockGroup.loop l hl z p hp hz ho l.length 9999 (Nat.le_refl _) (by omega)
        rw [List.drop_length, List.reverse_nil] at this
        exact this
    · have : sumR l z = (⟨#[]⟩, 1) := by
        unfold sumR
        rw [if_pos hz]
      rw [this, if_neg (by decide), mosaiclaw07_awake.spec _ (by omega), Option.bind_some, if_pos rfl]
      decide +kernel

end Go.Proofs.Ytmklpmbfijljcaa.PBlockGroup
namespace Go.Proofs.Ytmklpmbfijljcaa.Pure
open Go.RowKit Go.Proofs.Ytmklpmbfijljcaa.PBlockGroup Go.Proofs.YtmklpmbfijljcaaW.PrintWords Go.Proofs.YtmklpmbfijljcaaW.PrintLast Go.Proofs.YtmklpmbfijljcaaW.PrintMore Go.Mine
theorem BlockGroup : mosaiclaw07_BlockGroup.Pure := by
  intro l z p _ _ _ _ hp
  have hp := wf_i64 hp
  refine ⟨10000, ?_⟩
  unfold mosaiclaw07_BlockGroup.f
  by_cases h : (l.length : Int) > 40
  · rw [if_pos h]
    exact mosaiclaw07_BlockGroup.rest l z p hp true (fun h => by cases h)
  · rw [if_neg h, mosaiclaw07_few.spec _ _ (by omega), Option.bind_some]
    exact mosaiclaw07_BlockGroup.rest l z p hp _ (fun _ => by omega)
end Go.Proofs.Ytmklpmbfijljcaa.Pure
