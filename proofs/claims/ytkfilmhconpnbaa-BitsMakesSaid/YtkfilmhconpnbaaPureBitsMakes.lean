/- BitsMakes: for every number, list of numbers and text, Of, List, Check, Empty and Full of package bits answer what the document defines, or its error. No condition. -/
import Derived.Test.YtkfilmhconpnbaaPBitsMakesx8
import Derived.Test.YtkfilmhconpnbaaPlainBits
import Derived.Test.YtkfilmhconpnbaaPlainSets
namespace Go.Proofs.Ytkfilmhconpnbaa.PBitsMakes
open Go.RowKit Go.Proofs.YtkfilmhconpnbaaW.PrintWords Go.Proofs.YtkfilmhconpnbaaW.PrintLast Go.Proofs.YtkfilmhconpnbaaW.PrintMore Go.Mine
set_option linter.unusedVariables false
set_option linter.unusedSimpArgs false
theorem bits_Has.spec (s : ByteArray) (i : Int) (h : i ≤ 9223372036854775807) : bits_Has.f s i = some (decide (0 ≤ i) && hb s i.toNat) := by
  unfold bits_Has.f
  by_cases h0 : 0 ≤ i
  · rw [if_pos h0, tdiv_pos _ _ h0, tmod_pos _ _ h0, wrap64_id _ (by omega) (by omega)]
    by_cases h1 : i / 8 < (s.size : Int)
    · rw [if_pos h1, if_pos (by omega), if_pos (by omega), bt_nb]
      have hn := nb_lt s (i / 8).toNat
      have e1 : shr .u8 (nb s (i / 8).toNat : Int) (i % 8) = ((nb s (i / 8).toNat / 2 ^ (i % 8).toNat : Nat) : Int) := by
        unfold shr
        rw [Nat.min_eq_left (by show (i % 8).toNat ≤ 8; omega)]
        simp
      rw [e1]
      have hq : nb s (i / 8).toNat / 2 ^ (i % 8).toNat < 256 := Nat.lt_of_le_of_lt (Nat.div_le_self _ _) hn
      have e2 := u8_and_nat (nb s (i / 8).toNat / 2 ^ (i % 8).toNat) 1 hq (by decide)
      rw [show ((1 : Nat) : Int) = 1 from rfl] at e2
      rw [e2]
      have e3 : hb s i.toNat = (nb s (i / 8).toNat / 2 ^ (i % 8).toNat % 2 == 1) := by
        unfold hb
        rw [testBit_div, show (i / 8).toNat = i.toNat / 8 by omega, show (i % 8).toNat = i.toNat % 8 by omega]
      rw [e3, Nat.and_one_is_mod, decide_eq_true h0, Bool.true_and]
      congr 1
      generalize nb s (i / 8).toNat / 2 ^ (i % 8).toNat = q
      rcases Nat.mod_two_eq_zero_or_one q with h | h <;> rw [h] <;> rfl
    · rw [if_neg h1, hb_oob s _ (by omega), Bool.and_false]
  · rw [if_neg h0, decide_eq_false h0, Bool.false_and]
theorem bits_Has.at (s : ByteArray) (i : Nat) (h : i < 9223372036854775807) : bits_Has.f s (i : Int) = some (hb s i) := by
  rw [bits_Has.spec s i (by omega)]
  simp

theorem bits_Nth.loop (s : ByteArray) (hs : s.size ≤ 1000000) (q : Int) (hq : -9223372036854775808 ≤ q ∧ q ≤ 9223372036854775807) (d : Nat) : ∀ (k i : Nat), i + d = 8 * s.size → d < k →
    bits_Nth.l0 k s (wrap64 (q - rk s i)) ((8 * s.size : Nat) : Int) (i : Int) = some (nthFrom s q d i) := by
  induction d with
  | zero =>
    intro k i hi hk
    obtain ⟨k, rfl⟩ : ∃ m, k = m + 1 := ⟨k - 1, by omega⟩
    simp only [bits_Nth.l0, nthFrom]
    rw [if_neg (by omega)]
  | succ d ih =>
    intro k i hi hk
    obtain ⟨k, rfl⟩ : ∃ m, k = m + 1 := ⟨k - 1, by omega⟩
    have hr := rk_le s i
    simp only [bits_Nth.l0, nthFrom]
    rw [if_pos (by omega), bits_Has.at s i (by omega), Option.bind_some, wrap64_id ((i : Int) + 1) (by omega) (by omega)]
    have := ih k (i + 1) (by omega) (by omega)
    rw [show ((i + 1 : Nat) : Int) = (i : Int) + 1 by omega] at this
    cases hh : hb s i with
    | true =>
      rw [if_pos rfl]
      by_cases he : ((rk s i : Nat) : Int) = q
      · rw [if_pos (by unfold wrap64; omega), if_pos ⟨rfl, he⟩]
      · rw [if_neg (by unfold wrap64; omega), if_neg (fun h => he h.2), ← this, rk_step s i hh]
        congr 1
        unfold wrap64
        omega
    | false =>
      rw [if_neg (by decide), if_neg (fun h => by cases h.1), ← this, rk_stay s i hh]
theorem bits_Nth.spec (s : ByteArray) (q : Int) (k : Nat) (hs : s.size ≤ 1000000) (hq : -9223372036854775808 ≤ q ∧ q ≤ 9223372036854775807) (hk : 8 * s.size < k) : bits_Nth.f k s q = some (nthFrom s q (8 * s.size) 0) := by
  unfold bits_Nth.f
  have := bits_Nth.loop s hs q hq (8 * s.size) k 0 (by omega) hk
  rw [wrap64_id (8 * (s.size : Int)) (by omega) (by omega)]
  rw [show rk s 0 = 0 from rfl, show q - ((0 : Nat) : Int) = q by omega, wrap64_id q hq.1 hq.2] at this
  simpa using this

theorem bits_may.spec (n : Int) : bits_may.f n = some (decide (0 ≤ n) && decide (n ≤ 160)) := by
  unfold bits_may.f
  by_cases h : 0 ≤ n
  · rw [if_pos h, decide_eq_true h, Bool.true_and]
  · rw [if_neg h, decide_eq_false h, Bool.false_and]

theorem bits_long.spec (n : Int) (h0 : 0 ≤ n) (h1 : n ≤ 1000000) : bits_long.f n = some (((n.toNat + 7) / 8 : Nat) : Int) := by
  unfold bits_long.f
  simp (disch := omega) only [wrap64_id, tdiv_pos]
  congr 1
  omega

theorem bits_Empty.spec (n : Int) : bits_Empty.f n = some (if 0 ≤ n ∧ n ≤ 160 then mkS n.toNat (fun _ => false) else ⟨#[]⟩) := by
  unfold bits_Empty.f
  rw [bits_may.spec, Option.bind_some]
  by_cases h : 0 ≤ n ∧ n ≤ 160
  · rw [if_pos (by simp [h]), if_pos h, bits_long.spec n h.1 (by omega), Option.bind_some, if_pos (by omega), if_pos (by omega), Int.toNat_natCast]
    have e : strOfNums (List.replicate ((n.toNat + 7) / 8) 0) = mkS n.toNat (fun _ => false) := by
      apply mkS_ext
      · rw [strOfNums_size', List.length_replicate]
      · intro i
        rw [hb_strOfNums, Bool.and_false]
        have : (List.replicate ((n.toNat + 7) / 8) (0 : Int)).getD (i / 8) 0 = 0 := by
          rw [List.getD_eq_getElem?_getD, List.getElem?_replicate]
          split <;> rfl
        rw [this]
        simp
    rw [e]
  · rw [if_neg (by simpa using h), if_neg h]

theorem bits_in.spec (n i : Int) : bits_in.f n i = some (decide (0 ≤ i) && decide (i < n)) := by
  unfold bits_in.f
  by_cases h : 0 ≤ i
  · rw [if_pos h, decide_eq_true h, Bool.true_and]
  · rw [if_neg h, decide_eq_false h, Bool.false_and]

theorem bits_Of.go_spec (n : Int) (h0 : 0 ≤ n) (h1 : n ≤ 160) (l : List Int) : ∀ (seen : List Int), (∀ x ∈ l, 0 ≤ x ∧ x < n) → (∀ x ∈ seen, 0 ≤ x ∧ x < n) →
    bits_Of.go (mkS n.toNat (fun i => decide ((i : Int) ∈ seen))) l = some (if (∀ x ∈ l, x ∉ seen) ∧ l.Nodup then (mkS n.toNat (fun i => decide ((i : Int) ∈ seen ++ l)), 0) else (⟨#[]⟩, 5)) := by
  induction l with
  | nil =>
    intro seen _ _
    unfold bits_Of.go
    simp
  | cons y l ih =>
    intro seen hl hs
    have hy := hl y (List.mem_cons_self ..)
    unfold bits_Of.go
    rw [bits_Has.spec _ y (by omega), Option.bind_some, decide_eq_true hy.1, Bool.true_and, mkS_hb, decide_eq_true (by omega), Bool.true_and, show ((y.toNat : Nat) : Int) = y by omega]
    by_cases hm : y ∈ seen
    · rw [if_pos (decide_eq_true hm), if_neg (fun h => h.1 y (List.mem_cons_self ..) hm)]
    · rw [if_neg (by simpa using hm)]
      unfold bits_turn.f
      rw [if_pos ⟨hy.1, by rw [mkS_size]; omega, by omega⟩, Option.bind_some]
      have e : turnS (mkS n.toNat (fun i => decide ((i : Int) ∈ seen))) y = mkS n.toNat (fun i => decide ((i : Int) ∈ seen ++ [y])) := by
        apply mkS_ext
        · rw [turnS_size, mkS_size]
        · intro j
          have := turnS_hb (mkS n.toNat (fun i => decide ((i : Int) ∈ seen))) y.toNat (by rw [mkS_size]; omega) j
          rw [show ((y.toNat : Nat) : Int) = y by omega] at this
          rw [this, mkS_hb, mkS_hb, show ((y.toNat : Nat) : Int) = y by omega]
          by_cases e : j = y.toNat
          · rw [if_pos e, decide_eq_false hm, decide_eq_true (by omega), decide_eq_true (by omega), e]
            simp
            omega
          · rw [if_neg e]
            congr 1
            rw [Bool.eq_iff_iff]
            simp
            omega
      rw [e, ih (seen ++ [y]) (fun x hx => hl x (List.mem_cons_of_mem _ hx)) (fun x hx => by
        rcases List.mem_append.1 hx with h | h
        · exact hs x h
        · rw [List.mem_singleton.1 h]; exact hy)]
      have hiff : ((∀ x ∈ l, x ∉ seen ++ [y]) ∧ l.Nodup) ↔ ((∀ x ∈ y :: l, x ∉ seen) ∧ (y :: l).Nodup) := by
        simp only [List.mem_append, List.mem_singleton, List.mem_cons, List.nodup_cons]
        constructor
        · rintro ⟨h1, h2⟩
          refine ⟨?_, ?_, h2⟩
          · rintro x (rfl | hx)
            · exact hm
            · exact fun hxs => h1 x hx (.inl hxs)
          · exact fun hyl => h1 y hyl (.inr (.inl rfl))
        · rintro ⟨h1, h2, h3⟩
          refine ⟨fun x hx => ?_, h3⟩
          rintro (hxs | rfl | hxs)
          · exact h1 x (.inr hx) hxs
          · exact h2 hx
          · cases hxs
      by_cases hc : (∀ x ∈ l, x ∉ seen ++ [y]) ∧ l.Nodup
      · rw [if_pos hc, if_pos (hiff.1 hc), List.append_assoc]
        rfl
      · rw [if_neg hc, if_neg (fun h => hc (hiff.2 h))]
def ofR (n : Int) (l : List Int) : ByteArray × Int :=
  if 0 ≤ n ∧ n ≤ 160 ∧ ∀ x ∈ l, 0 ≤ x ∧ x < n then (if l.Nodup then (mkS n.toNat (fun i => decide ((i : Int) ∈ l)), 0) else (⟨#[]⟩, 5)) else (⟨#[]⟩, 1)
theorem bits_Of.spec (n : Int) (l : List Int) : bits_Of.f n l = some (ofR n l) := by
  unfold bits_Of.f ofR
  rw [bits_may.spec, Option.bind_some]
  by_cases h : 0 ≤ n ∧ n ≤ 160
  · rw [if_pos (by simp [h])]
    by_cases hl : ∀ x ∈ l, 0 ≤ x ∧ x < n
    · rw [if_neg, bits_Empty.spec, if_pos h, Option.bind_some, if_pos ⟨h.1, h.2, hl⟩]
      · have := bits_Of.go_spec n h.1 h.2 l [] hl (by simp)
        simpa using this
      · rw [List.any_eq_true]
        rintro ⟨x, hx, hxx⟩
        have := hl x hx
        simp [this] at hxx
    · rw [if_pos, if_neg (fun hh => hl hh.2.2)]
      rw [List.any_eq_true]
      apply Classical.byContradiction
      intro hno
      apply hl
      intro x hx
      apply Classical.byContradiction
      intro hnx
      refine hno ⟨x, hx, ?_⟩
      by_cases h0 : 0 ≤ x
      · rw [decide_eq_true h0, decide_eq_false (fun h => hnx ⟨h0, h⟩)]
        rfl
      · rw [decide_eq_false h0]
        rfl
  · rw [if_neg (by simpa using h), if_neg (fun hh => h ⟨hh.1, hh.2.1⟩)]

theorem bits_Full.spec (n : Int) : bits_Full.f n = some (if 0 ≤ n ∧ n ≤ 160 then mkS n.toNat (fun _ => true) else ⟨#[]⟩) := by
  unfold bits_Full.f
  rw [bits_Empty.spec, Option.bind_some]
  by_cases h : 0 ≤ n ∧ n ≤ 160
  · rw [if_pos h, if_pos h, if_pos (by rw [mkS_size]; omega)]
    have e : strOfNums (fullB n (bytesI (mkS n.toNat fun _ => false)) (8 * (mkS n.toNat fun _ => false).size)) = mkS n.toNat (fun _ => true) := by
      apply mkS_ext
      · rw [strOfNums_size', fullB_length, bytesI_length, mkS_size]
      · intro i
        rw [fullB_hb n _ (bytes_bytesI _) _ (by rw [bytesI_length]; exact Nat.le_refl _), strOfNums_bytesI, mkS_hb, mkS_size]
        rw [Bool.eq_iff_iff]
        simp
        omega
    rw [e]
  · rw [if_neg h, if_neg h, if_pos (by decide)]
    rfl

theorem mosaiclaw08_awake.now : mosaiclaw08_awake.f 100 = some true := by decide +kernel
theorem mosaiclaw08_awake.spec (k : Nat) (hk : 100 ≤ k) : mosaiclaw08_awake.f k = some true := at_rounds mosaiclaw08_awake.mono hk mosaiclaw08_awake.now

theorem mosaicref08_has.loop (l : List Int) (x : Int) (hl : l.length ≤ 1000000000) (d : Nat) : ∀ (k i : Nat), i + d = l.length → d < k → mosaicref08_has.l0 k l x (i : Int) = some (decide (x ∈ l.drop i)) := by
  induction d with
  | zero =>
    intro k i hi hk
    obtain ⟨k, rfl⟩ : ∃ m, k = m + 1 := ⟨k - 1, by omega⟩
    simp only [mosaicref08_has.l0]
    rw [if_neg (by omega), List.drop_of_length_le (by omega)]
    simp
  | succ d ih =>
    intro k i hi hk
    obtain ⟨k, rfl⟩ : ∃ m, k = m + 1 := ⟨k - 1, by omega⟩
    have hlt : i < l.length := by omega
    simp only [mosaicref08_has.l0]
    have hr : rd l (i : Int) = l[i] := by simp [rd, hlt]
    rw [if_pos (by omega), if_pos (by omega), hr, wrap64_id _ (by omega) (by omega), List.drop_eq_getElem_cons hlt]
    have := ih k (i + 1) (by omega) (by omega)
    rw [show ((i + 1 : Nat) : Int) = (i : Int) + 1 by omega] at this
    by_cases h : l[i] = x
    · rw [if_pos h]; simp [h]
    · rw [if_neg h, this]
      congr 1
      rw [Bool.eq_iff_iff]
      simp only [decide_eq_true_eq, List.mem_cons]
      exact ⟨fun h' => .inr h', fun h' => h'.elim (fun e => absurd e.symm h) id⟩
theorem mosaicref08_has.spec (l : List Int) (x : Int) (k : Nat) (hl : l.length ≤ 1000000000) (hk : l.length < k) : mosaicref08_has.f k l x = some (decide (x ∈ l)) := by
  unfold mosaicref08_has.f
  have := mosaicref08_has.loop l x hl l.length k 0 (by omega) hk
  simpa using this

theorem mosaicref08_Make.inner (n : Nat) (l : List Int) (R : ByteArray) (j : Nat) (xs : List Int) (K : Nat) (hn : n ≤ 1000000) (hl : l.length ≤ 1000000000) (hj : j ≤ n) (hxs : xs.length ≤ 1000000)
    (H : ∀ k, K ≤ k → mosaicref08_Make.l0 k n l (xs ++ [((accB (fun i => decide (i < n) && decide ((i : Int) ∈ l)) j 8 : Nat) : Int)]) ((j : Int) + 1) = some R) (d : Nat) :
    ∀ (k m : Nat), m + d = 8 → K + l.length + d + 1 < k → mosaicref08_Make.l1 k n l xs j ((accB (fun i => decide (i < n) && decide ((i : Int) ∈ l)) j m : Nat) : Int) (7 - (m : Int)) = some R := by
  induction d with
  | zero =>
    intro k m hm hk
    obtain ⟨k, rfl⟩ : ∃ m, k = m + 1 := ⟨k - 1, by omega⟩
    obtain rfl : m = 8 := by omega
    have hlt := accB_lt (fun i => decide (i < n) && decide ((i : Int) ∈ l)) j 8
    simp only [mosaicref08_Make.l1]
    rw [if_neg (by omega), if_pos (by omega), wrap64_id _ (by omega) (by omega), Int.emod_eq_of_lt (by omega) (by omega)]
    exact H k (by omega)
  | succ d ih =>
    intro k m hm hk
    obtain ⟨k, rfl⟩ : ∃ m, k = m + 1 := ⟨k - 1, by omega⟩
    have hlt := accB_lt (fun i => decide (i < n) && decide ((i : Int) ∈ l)) j m
    have hp : 2 ^ m ≤ 2 ^ 8 := Nat.pow_le_pow_right (by decide) (by omega)
    have hp8 : (2 : Nat) ^ 8 = 256 := by decide
    have hi := ih k (m + 1) (by omega) (by omega)
    rw [accB_succ, show 7 - ((m + 1 : Nat) : Int) = 7 - (m : Int) - 1 by omega] at hi
    generalize hA : accB (fun i => decide (i < n) && decide ((i : Int) ∈ l)) j m = A at *
    simp only [mosaicref08_Make.l1]
    have e1 : wrap64 (wrap64 (8 * (j : Int)) + (7 - (m : Int))) = ((8 * j + (7 - m) : Nat) : Int) := by
      rw [wrap64_id (8 * (j : Int)) (by omega) (by omega), wrap64_id _ (by omega) (by omega)]
      omega
    rw [if_pos (by omega), e1, wrap64_id (2 * (A : Int)) (by omega) (by omega), wrap64_id (2 * (A : Int) + 1) (by omega) (by omega), wrap64_id (7 - (m : Int) - 1) (by omega) (by omega)]
    by_cases h1 : 8 * j + (7 - m) < n
    · rw [if_pos (by omega), mosaicref08_has.spec l _ k hl (by omega), Option.bind_some]
      rw [decide_eq_true h1, Bool.true_and] at hi
      by_cases h2 : ((8 * j + (7 - m) : Nat) : Int) ∈ l
      · rw [if_pos (decide_eq_true h2)]
        rw [if_pos (decide_eq_true h2)] at hi
        rw [← hi]
        congr 1
      · rw [if_neg (by simpa using h2)]
        rw [if_neg (by simpa using h2)] at hi
        rw [← hi]
        congr 1
    · rw [if_neg (by omega)]
      rw [if_neg (by rw [decide_eq_false h1, Bool.false_and]; decide)] at hi
      rw [← hi]
      congr 1
theorem mosaicref08_Make.outer (n : Nat) (l : List Int) (hn : n ≤ 1000000) (hl : l.length ≤ 1000000000) (e : Nat) : ∀ (k j : Nat), j + e = (n + 7) / 8 → (l.length + 12) * e + 1 < k →
    mosaicref08_Make.l0 k n l (mkL n (fun i => decide ((i : Int) ∈ l)) j) (j : Int) = some (mkS n (fun i => decide ((i : Int) ∈ l))) := by
  induction e with
  | zero =>
    intro k j hj hk
    obtain ⟨k, rfl⟩ : ∃ m, k = m + 1 := ⟨k - 1, by omega⟩
    simp only [mosaicref08_Make.l0]
    simp (disch := omega) only [wrap64_id, tdiv_pos]
    rw [if_neg (by omega)]
    unfold mkS
    rw [show (n + 7) / 8 = j by omega]
  | succ e ih =>
    intro k j hj hk
    obtain ⟨k, rfl⟩ : ∃ m, k = m + 1 := ⟨k - 1, by omega⟩
    simp only [mosaicref08_Make.l0]
    simp (disch := omega) only [wrap64_id, tdiv_pos]
    rw [if_pos (by omega)]
    rw [Nat.mul_succ] at hk
    have := mosaicref08_Make.inner n l (mkS n (fun i => decide ((i : Int) ∈ l))) j (mkL n (fun i => decide ((i : Int) ∈ l)) j) ((l.length + 12) * e + 2) hn hl (by omega) (by simp [mkL]; omega) (fun k' hk' => by
      have := ih k' (j + 1) (by omega) (by omega)
      unfold mkL at this ⊢
      rw [List.range_succ, List.map_append] at this
      rw [show ((j + 1 : Nat) : Int) = (j : Int) + 1 by omega] at this
      exact this) 8 k 0 (by omega) (by omega)
    simpa [accB] using this
theorem mosaicref08_Make.spec (n : Int) (l : List Int) (k : Nat) (h0 : 0 ≤ n) (hn : n ≤ 1000000) (hl : l.length ≤ 1000000000) (hk : (l.length + 12) * ((n.toNat + 7) / 8) + 1 < k) :
    mosaicref08_Make.f k n l = some (mkS n.toNat (fun i => decide ((i : Int) ∈ l))) := by
  unfold mosaicref08_Make.f
  have := mosaicref08_Make.outer n.toNat l (by omega) hl ((n.toNat + 7) / 8) k 0 (by omega) hk
  rw [show ((n.toNat : Nat) : Int) = n by omega] at this
  simpa [mkL] using this

theorem mosaicref08_Of.dup_spec (l : List Int) (hl : l.length ≤ 1000000) (k : Nat) (hk : l.length < k) (d : Nat) : d ≤ l.length → (l.take (l.length - d)).Nodup → mosaicref08_Of.dup k l d = some (!decide l.Nodup) := by
  induction d with
  | zero =>
    intro _ h
    rw [Nat.sub_zero, List.take_of_length_le (Nat.le_refl _)] at h
    unfold mosaicref08_Of.dup
    rw [decide_eq_true h]
    rfl
  | succ d ih =>
    intro hd h
    unfold mosaicref08_Of.dup
    have hlt : l.length - (d + 1) < l.length := by omega
    have hg : l.getD (l.length - (d + 1)) 0 = l[l.length - (d + 1)] := by rw [List.getD_eq_getElem?_getD, List.getElem?_eq_getElem hlt]; rfl
    rw [hg, mosaicref08_has.spec _ _ k (by rw [List.length_take]; omega) (by rw [List.length_take]; omega), Option.bind_some]
    have ht : l.take (l.length - d) = l.take (l.length - (d + 1)) ++ [l[l.length - (d + 1)]] := by
      rw [show l.length - d = l.length - (d + 1) + 1 by omega, List.take_succ_eq_append_getElem hlt]
    by_cases hm : l[l.length - (d + 1)] ∈ l.take (l.length - (d + 1))
    · rw [if_pos (decide_eq_true hm)]
      have hn : ¬ l.Nodup := fun hnd => by
        have h1 : (l.take (l.length - d)).Nodup := hnd.sublist (List.take_sublist _ _)
        rw [ht, List.nodup_append] at h1
        exact h1.2.2 _ hm _ (List.mem_singleton.2 rfl) rfl
      rw [decide_eq_false hn]
      rfl
    · rw [if_neg (by simpa using hm)]
      apply ih (by omega)
      rw [ht, List.nodup_append]
      refine ⟨h, by simp, ?_⟩
      intro a ha b hb e
      rw [List.mem_singleton.1 hb] at e
      rw [e] at ha
      exact hm ha
theorem mosaicref08_Of.spec (n : Int) (l : List Int) (k : Nat) (hl : l.length ≤ 200) (hk : 10000 < k) : mosaicref08_Of.f k n l = some (ofR n l) := by
  unfold mosaicref08_Of.f ofR
  by_cases h : n < 0 ∨ n > 160 ∨ l.any (fun x => decide (x < 0) || decide (x ≥ n)) = true
  · rw [if_pos h, if_neg]
    rintro ⟨h0, h1, h2⟩
    rcases h with h | h | h
    · omega
    · omega
    · rw [List.any_eq_true] at h
      obtain ⟨x, hx, hxx⟩ := h
      have := h2 x hx
      simp at hxx
      omega
  · have h0 : 0 ≤ n := by
      apply Classical.byContradiction; intro hx; exact h (.inl (by omega))
    have h1 : n ≤ 160 := by
      apply Classical.byContradiction; intro hx; exact h (.inr (.inl (by omega)))
    have h2 : ∀ x ∈ l, 0 ≤ x ∧ x < n := fun x hx => by
      apply Classical.byContradiction
      intro hn
      apply h
      refine .inr (.inr ?_)
      rw [List.any_eq_true]
      refine ⟨x, hx, ?_⟩
      by_cases hx0 : x < 0
      · rw [decide_eq_true hx0]; rfl
      · rw [decide_eq_true (show x ≥ n by omega), Bool.or_true]
    rw [if_neg h, if_pos ⟨h0, h1, h2⟩, mosaicref08_Of.dup_spec l (by omega) k (by omega) l.length (Nat.le_refl _) (by rw [Nat.sub_self]; exact List.nodup_nil), Option.bind_some]
    have hm := Nat.mul_le_mul (show l.length + 12 ≤ 212 by omega) (show (n.toNat + 7) / 8 ≤ 20 by omega)
    by_cases hnd : l.Nodup
    · rw [decide_eq_true hnd, if_neg (by decide), if_pos hnd, mosaicref08_Make.spec n l k h0 (by omega) (by omega) (by omega)]
      rfl
    · rw [decide_eq_false hnd, if_pos (by decide), if_neg hnd]

theorem bits_Check.loop (s : ByteArray) (hs : s.size ≤ 1000000) (d : Nat) : ∀ (k i : Nat), 8 * s.size ≤ i + d → i ≤ 1000000000 → d < k → ∃ b, bits_Check.l0 k s (i : Int) = some b ∧ (b = true ↔ ∀ j, i ≤ j → hb s j = false) := by
  induction d with
  | zero =>
    intro k i hi hi2 hk
    obtain ⟨k, rfl⟩ : ∃ m, k = m + 1 := ⟨k - 1, by omega⟩
    simp only [bits_Check.l0]
    rw [wrap64_id _ (by omega) (by omega), if_neg (by omega)]
    exact ⟨true, rfl, by simp; intro j hj; exact hb_oob s j (by omega)⟩
  | succ d ih =>
    intro k i hi hi2 hk
    obtain ⟨k, rfl⟩ : ∃ m, k = m + 1 := ⟨k - 1, by omega⟩
    simp only [bits_Check.l0]
    rw [wrap64_id (8 * (s.size : Int)) (by omega) (by omega)]
    by_cases hlt : i < 8 * s.size
    · rw [if_pos (by omega), bits_Has.at s i (by omega), Option.bind_some, wrap64_id _ (by omega) (by omega)]
      cases hh : hb s i with
      | true =>
        rw [if_pos rfl]
        exact ⟨false, rfl, by simp; exact ⟨i, Nat.le_refl _, hh⟩⟩
      | false =>
        rw [if_neg (by decide)]
        obtain ⟨b, h1, h2⟩ := ih k (i + 1) (by omega) (by omega) (by omega)
        rw [show ((i + 1 : Nat) : Int) = (i : Int) + 1 by omega] at h1
        refine ⟨b, h1, h2.trans ⟨fun h j hj => ?_, fun h j hj => h j (by omega)⟩⟩
        by_cases e : j = i
        · rw [e]; exact hh
        · exact h j (by omega)
    · rw [if_neg (by omega)]
      exact ⟨true, rfl, by simp; intro j hj; exact hb_oob s j (by omega)⟩
theorem bits_Check.spec (n : Int) (s : ByteArray) (k : Nat) (hk : 1400 < k) : bits_Check.f k n s = some (chk n s) := by
  unfold bits_Check.f
  rw [bits_may.spec, Option.bind_some]
  obtain ⟨k, rfl⟩ : ∃ m, k = m + 1 := ⟨k - 1, by omega⟩
  by_cases h : 0 ≤ n ∧ n ≤ 160
  · rw [if_pos (by simp [h]), bits_long.spec n h.1 (by omega), Option.bind_some]
    simp only [bits_Check.j0]
    by_cases hsz : s.size = (n.toNat + 7) / 8
    · rw [if_neg (by simp; omega)]
      obtain ⟨b, h1, h2⟩ := bits_Check.loop s (by omega) (8 * s.size) k n.toNat (by omega) (by omega) (by omega)
      rw [show ((n.toNat : Nat) : Int) = n by omega] at h1
      rw [h1, chk_of n s b (h2.trans ⟨fun hh => ⟨h.1, h.2, hsz, hh⟩, fun hh => hh.2.2.2⟩)]
    · rw [if_pos (by simp; omega), chk_of n s false (by constructor; (· intro h; cases h); (· intro hh; exact absurd hh.2.2.1 hsz))]
  · rw [if_neg (by simpa using h)]
    simp only [bits_Check.j0]
    rw [if_pos trivial, chk_of n s false (by constructor; (· intro h; cases h); (· intro hh; exact absurd ⟨hh.1, hh.2.1⟩ h))]

theorem bits_List.loop (s : ByteArray) (n : Nat) (hn : n ≤ 1000000) (d : Nat) : ∀ (k i : Nat), i + d = n → d < k → bits_List.l0 k s (lstUp s i) (n : Int) (i : Int) = some (lstUp s n, 0) := by
  induction d with
  | zero =>
    intro k i hi hk
    obtain ⟨k, rfl⟩ : ∃ m, k = m + 1 := ⟨k - 1, by omega⟩
    simp only [bits_List.l0]
    rw [if_neg (by omega), show i = n by omega]
  | succ d ih =>
    intro k i hi hk
    obtain ⟨k, rfl⟩ : ∃ m, k = m + 1 := ⟨k - 1, by omega⟩
    have hl := lstUp_length s i
    have hr := rk_le s i
    simp only [bits_List.l0]
    rw [if_pos (by omega), bits_Has.at s i (by omega), Option.bind_some, wrap64_id _ (by omega) (by omega)]
    have := ih k (i + 1) (by omega) (by omega)
    rw [show ((i + 1 : Nat) : Int) = (i : Int) + 1 by omega, lstUp_succ] at this
    cases hh : hb s i with
    | true =>
      rw [hh, if_pos rfl] at this
      rw [if_pos rfl, if_pos (by omega), this]
    | false =>
      rw [hh, if_neg (by decide), List.append_nil] at this
      rw [if_neg (by decide), this]
theorem bits_List.spec (n : Int) (s : ByteArray) (k : Nat) (hk : 1400 < k) : bits_List.f k n s = some (if chk n s = true then (lstUp s n.toNat, 0) else ([], 3)) := by
  unfold bits_List.f
  rw [bits_Check.spec n s k hk, Option.bind_some]
  cases h : chk n s with
  | true =>
    have hs := (chk_iff n s).1 h
    rw [if_pos rfl, if_pos rfl]
    have := bits_List.loop s n.toNat (by have := hs.2.1; omega) n.toNat k 0 (by omega) (by have := hs.2.1; omega)
    rw [show ((n.toNat : Nat) : Int) = n by have := hs.1; omega] at this
    simpa [lstUp] using this
  | false =>
    rw [if_neg (by decide), if_neg (by decide)]

theorem mosaicref08_bit.loop (i : Int) (h0 : 0 ≤ i) (d : Nat) : ∀ (k : Nat) (x j : Nat), (j : Int) + d = i % 8 → d < k → x < 256 → mosaicref08_bit.l0 k i x j = some ((x / 2 ^ d % 2 : Nat) : Int) := by
  induction d with
  | zero =>
    intro k x j hj hk hx
    obtain ⟨k, rfl⟩ : ∃ m, k = m + 1 := ⟨k - 1, by omega⟩
    simp only [mosaicref08_bit.l0]
    rw [tmod_pos _ _ h0, if_neg (by omega), tmod_pos _ _ (by omega)]
    simp
  | succ d ih =>
    intro k x j hj hk hx
    obtain ⟨k, rfl⟩ : ∃ m, k = m + 1 := ⟨k - 1, by omega⟩
    simp only [mosaicref08_bit.l0]
    rw [tmod_pos _ _ h0, if_pos (by omega), tdiv_pos _ _ (by omega), wrap64_id _ (by omega) (by omega), wrap64_id _ (by omega) (by omega)]
    have := ih k (x / 2) (j + 1) (by omega) (by omega) (by omega)
    rw [show ((x / 2 : Nat) : Int) = (x : Int) / 2 by omega, show ((j + 1 : Nat) : Int) = (j : Int) + 1 by omega] at this
    rw [this, Nat.div_div_eq_div_mul, Nat.pow_succ', ]
theorem mosaicref08_bit.spec (s : ByteArray) (i : Int) (k : Nat) (hk : 9 ≤ k) (h0 : 0 ≤ i) (h : i ≤ 9223372036854775807) (h1 : i / 8 < (s.size : Int)) : mosaicref08_bit.f k s i = some (if hb s i.toNat = true then 1 else 0) := by
  unfold mosaicref08_bit.f
  rw [tdiv_pos _ _ h0, wrap64_id _ (by omega) (by omega), if_pos (by omega), if_pos h1, bt_nb, wrap64_id _ (by omega) (by have := nb_lt s (i / 8).toNat; omega)]
  have := mosaicref08_bit.loop i h0 (i % 8).toNat k (nb s (i / 8).toNat) 0 (by omega) (by omega) (nb_lt _ _)
  rw [show ((0 : Nat) : Int) = 0 from rfl] at this
  rw [this]
  congr 1
  unfold hb
  rw [← testBit_div, show (i / 8).toNat = i.toNat / 8 by omega, show (i % 8).toNat = i.toNat % 8 by omega]
  have := Nat.mod_two_eq_zero_or_one (nb s (i.toNat / 8) / 2 ^ (i.toNat % 8))
  rcases this with h | h <;> simp [h]

theorem mosaicref08_Has.spec (s : ByteArray) (i : Int) (k : Nat) (hk : 9 ≤ k) (h : i ≤ 9223372036854775807) : mosaicref08_Has.f k s i = some (decide (0 ≤ i) && hb s i.toNat) := by
  unfold mosaicref08_Has.f
  by_cases h0 : 0 ≤ i
  · rw [if_pos h0, tdiv_pos _ _ h0, wrap64_id _ (by omega) (by omega)]
    by_cases h1 : i / 8 < (s.size : Int)
    · rw [if_pos h1, mosaicref08_bit.spec s i k hk h0 h h1, decide_eq_true h0, Bool.true_and, Option.bind_some]
      cases hb s i.toNat <;> rfl
    · rw [if_neg h1, hb_oob s _ (by omega), Bool.and_false]
  · rw [if_neg h0, decide_eq_false h0, Bool.false_and]
theorem mosaicref08_Has.at (s : ByteArray) (i : Nat) (k : Nat) (hk : 9 ≤ k) (h : i < 9223372036854775807) : mosaicref08_Has.f k s (i : Int) = some (hb s i) := by
  rw [mosaicref08_Has.spec s i k hk (by omega)]
  simp

theorem mosaicref08_Check.loop (s : ByteArray) (hs : s.size ≤ 1000000) (d : Nat) : ∀ (k i : Nat), 8 * s.size ≤ i + d → i ≤ 1000000000 → d + 10 < k → ∃ b, mosaicref08_Check.l0 k s (i : Int) = some b ∧ (b = true ↔ ∀ j, i ≤ j → hb s j = false) := by
  induction d with
  | zero =>
    intro k i hi hi2 hk
    obtain ⟨k, rfl⟩ : ∃ m, k = m + 1 := ⟨k - 1, by omega⟩
    simp only [mosaicref08_Check.l0]
    rw [wrap64_id _ (by omega) (by omega), if_neg (by omega)]
    exact ⟨true, rfl, by simp; intro j hj; exact hb_oob s j (by omega)⟩
  | succ d ih =>
    intro k i hi hi2 hk
    obtain ⟨k, rfl⟩ : ∃ m, k = m + 1 := ⟨k - 1, by omega⟩
    simp only [mosaicref08_Check.l0]
    rw [wrap64_id (8 * (s.size : Int)) (by omega) (by omega)]
    by_cases hlt : i < 8 * s.size
    · rw [if_pos (by omega), mosaicref08_Has.at s i k (by omega) (by omega), Option.bind_some, wrap64_id _ (by omega) (by omega)]
      cases hh : hb s i with
      | true =>
        rw [if_pos rfl]
        exact ⟨false, rfl, by simp; exact ⟨i, Nat.le_refl _, hh⟩⟩
      | false =>
        rw [if_neg (by decide)]
        obtain ⟨b, h1, h2⟩ := ih k (i + 1) (by omega) (by omega) (by omega)
        rw [show ((i + 1 : Nat) : Int) = (i : Int) + 1 by omega] at h1
        refine ⟨b, h1, h2.trans ⟨fun h j hj => ?_, fun h j hj => h j (by omega)⟩⟩
        by_cases e : j = i
        · rw [e]; exact hh
        · exact h j (by omega)
    · rw [if_neg (by omega)]
      exact ⟨true, rfl, by simp; intro j hj; exact hb_oob s j (by omega)⟩
theorem mosaicref08_Check.spec (n : Int) (s : ByteArray) (k : Nat) (hk : 1400 < k) : mosaicref08_Check.f k n s = some (chk n s) := by
  unfold mosaicref08_Check.f
  obtain ⟨k, rfl⟩ : ∃ m, k = m + 1 := ⟨k - 1, by omega⟩
  by_cases h0 : n < 0
  · rw [if_pos h0]
    simp only [mosaicref08_Check.j0]
    rw [if_pos trivial, chk_of n s false (by constructor; (· intro h; cases h); (· intro hh; have := hh.1; omega))]
  · rw [if_neg h0]
    by_cases h1 : n > 160
    · rw [if_pos h1]
      simp only [mosaicref08_Check.j0]
      rw [if_pos trivial, chk_of n s false (by constructor; (· intro h; cases h); (· intro hh; have := hh.2.1; omega))]
    · rw [if_neg h1]
      simp only [mosaicref08_Check.j0]
      simp (disch := omega) only [wrap64_id, tdiv_pos]
      by_cases hsz : s.size = (n.toNat + 7) / 8
      · rw [if_neg (by simp; omega)]
        obtain ⟨b, h2, h3⟩ := mosaicref08_Check.loop s (by omega) (8 * s.size) k n.toNat (by omega) (by omega) (by omega)
        rw [show ((n.toNat : Nat) : Int) = n by omega] at h2
        rw [h2, chk_of n s b (h3.trans ⟨fun hh => ⟨by omega, by omega, hsz, hh⟩, fun hh => hh.2.2.2⟩)]
      · rw [if_pos (by simp; omega), chk_of n s false (by constructor; (· intro h; cases h); (· intro hh; exact absurd hh.2.2.1 hsz))]

theorem mosaicref08_List.loop (s : ByteArray) (n : Nat) (hn : n ≤ 1000000) (d : Nat) : ∀ (k i : Nat), i + d = n → d + 10 < k → mosaicref08_List.l0 k (n : Int) s (lstUp s i) (i : Int) = some (lstUp s n, 0) := by
  induction d with
  | zero =>
    intro k i hi hk
    obtain ⟨k, rfl⟩ : ∃ m, k = m + 1 := ⟨k - 1, by omega⟩
    simp only [mosaicref08_List.l0]
    rw [if_neg (by omega), show i = n by omega]
  | succ d ih =>
    intro k i hi hk
    obtain ⟨k, rfl⟩ : ∃ m, k = m + 1 := ⟨k - 1, by omega⟩
    have hl := lstUp_length s i
    have hr := rk_le s i
    simp only [mosaicref08_List.l0]
    rw [if_pos (by omega), mosaicref08_Has.at s i k (by omega) (by omega), Option.bind_some, wrap64_id _ (by omega) (by omega)]
    have := ih k (i + 1) (by omega) (by omega)
    rw [show ((i + 1 : Nat) : Int) = (i : Int) + 1 by omega, lstUp_succ] at this
    cases hh : hb s i with
    | true =>
      rw [hh, if_pos rfl] at this
      rw [if_pos rfl, if_pos (by omega), this]
    | false =>
      rw [hh, if_neg (by decide), List.append_nil] at this
      rw [if_neg (by decide), this]
theorem mosaicref08_List.spec (n : Int) (s : ByteArray) (k : Nat) (hk : 1400 < k) : mosaicref08_List.f k n s = some (if chk n s = true then (lstUp s n.toNat, 0) else ([], 3)) := by
  unfold mosaicref08_List.f
  rw [mosaicref08_Check.spec n s k hk, Option.bind_some]
  cases h : chk n s with
  | true =>
    have hs := (chk_iff n s).1 h
    rw [if_pos rfl, if_pos rfl]
    have := mosaicref08_List.loop s n.toNat (by have := hs.2.1; omega) n.toNat k 0 (by omega) (by have := hs.2.1; omega)
    rw [show ((n.toNat : Nat) : Int) = n by have := hs.1; omega] at this
    simpa [lstUp] using this
  | false =>
    rw [if_neg (by decide), if_neg (by decide)]

theorem mosaicref04_Same.loop (l : List Int) (hl : l.length ≤ 1000000000) (m : List Int) (hm : m.length = l.length) (d : Nat) : ∀ (k i : Nat), i + d = l.length → d < k → mosaicref04_Same.l0 k l m (i : Int) = some (decide (l.drop i = m.drop i)) := by
  induction d with
  | zero =>
    intro k i hi hk
    obtain ⟨k, rfl⟩ : ∃ m, k = m + 1 := ⟨k - 1, by omega⟩
    simp only [mosaicref04_Same.l0]
    rw [if_neg (by omega), List.drop_of_length_le (by omega), List.drop_of_length_le (by omega), decide_eq_true rfl]
  | succ d ih =>
    intro k i hi hk
    obtain ⟨k, rfl⟩ : ∃ m, k = m + 1 := ⟨k - 1, by omega⟩
    have h1 : i < l.length := by omega
    have h2 : i < m.length := by omega
    simp only [mosaicref04_Same.l0]
    have e1 : rd l (i : Int) = l[i] := by simp [rd, h1]
    have e2 : rd m (i : Int) = m[i] := by simp [rd, h2]
    rw [if_pos (by omega), if_pos (by omega), if_pos (by omega), e1, e2, wrap64_id _ (by omega) (by omega), List.drop_eq_getElem_cons h1, List.drop_eq_getElem_cons h2]
    have := ih k (i + 1) (by omega) (by omega)
    rw [show ((i + 1 : Nat) : Int) = (i : Int) + 1 by omega] at this
    by_cases h : l[i] = m[i]
    · rw [if_pos h, this]
      congr 1
      rw [Bool.eq_iff_iff, decide_eq_true_iff, decide_eq_true_iff]
      exact ⟨fun e => by rw [h, e], fun e => (List.cons.inj e).2⟩
    · rw [if_neg h]
      congr 1
      rw [eq_comm, decide_eq_false_iff_not]
      intro hh
      exact h (List.cons.inj hh).1
theorem mosaicref04_Same.spec (l m : List Int) (k : Nat) (hl : l.length ≤ 1000000000) (hk : l.length < k) : mosaicref04_Same.f k l m = some (decide (l = m)) := by
  unfold mosaicref04_Same.f
  by_cases h : l.length = m.length
  · rw [if_pos (by omega)]
    have := mosaicref04_Same.loop l hl m h.symm l.length k 0 (by omega) hk
    simpa using this
  · rw [if_neg (by omega), decide_eq_false (fun e => h (by rw [e]))]

theorem mosaicref08_Empty.spec (n : Int) (k : Nat) (hk : 10000 < k) : mosaicref08_Empty.f k n = some (if 0 ≤ n ∧ n ≤ 160 then mkS n.toNat (fun _ => false) else ⟨#[]⟩) := by
  unfold mosaicref08_Empty.f
  by_cases h0 : n < 0
  · rw [if_pos h0, if_neg (by omega)]
  · rw [if_neg h0]
    by_cases h1 : n > 160
    · rw [if_pos h1, if_neg (by omega)]
    · rw [if_neg h1, if_pos (by omega), mosaicref08_Make.spec n [] k (by omega) (by omega) (by simp) (by have := Nat.mul_le_mul (show ([] : List Int).length + 12 ≤ 12 by simp) (show (n.toNat + 7) / 8 ≤ 20 by omega); omega), Option.bind_some]
      have e : mkS n.toNat (fun i => decide ((i : Int) ∈ ([] : List Int))) = mkS n.toNat (fun _ => false) := mkS_congr _ _ _ (fun i _ => by simp)
      rw [e]

theorem mosaicref08_Full.loop (n : Nat) (hn : n ≤ 160) (d : Nat) : ∀ (k i : Nat), i + d = n → d + 5000 < k → mosaicref08_Full.l0 k (n : Int) ((List.range i).map fun (j : Nat) => (j : Int)) (i : Int) = some (mkS n (fun _ => true)) := by
  induction d with
  | zero =>
    intro k i hi hk
    obtain ⟨k, rfl⟩ : ∃ m, k = m + 1 := ⟨k - 1, by omega⟩
    obtain rfl : i = n := by omega
    simp only [mosaicref08_Full.l0]
    have hm := Nat.mul_le_mul (show ((List.range i).map fun (j : Nat) => (j : Int)).length + 12 ≤ 172 by simp; omega) (show ((i : Int).toNat + 7) / 8 ≤ 20 by omega)
    rw [if_neg (by omega), if_neg (by omega), if_neg (by omega), mosaicref08_Make.spec (i : Int) _ k (by omega) (by omega) (by simp; omega) (by omega), Option.bind_some]
    have e : mkS (i : Int).toNat (fun j => decide ((j : Int) ∈ (List.range i).map fun (j : Nat) => (j : Int))) = mkS i (fun _ => true) := by
      rw [Int.toNat_natCast]
      apply mkS_congr
      intro j hj
      apply decide_eq_true
      rw [List.mem_map]
      exact ⟨j, List.mem_range.2 hj, rfl⟩
    rw [e]
  | succ d ih =>
    intro k i hi hk
    obtain ⟨k, rfl⟩ : ∃ m, k = m + 1 := ⟨k - 1, by omega⟩
    simp only [mosaicref08_Full.l0]
    rw [if_pos (by omega), if_pos (by omega), if_pos (by simp; omega), wrap64_id _ (by omega) (by omega)]
    have := ih k (i + 1) (by omega) (by omega)
    rw [show ((i + 1 : Nat) : Int) = (i : Int) + 1 by omega, List.range_succ, List.map_append] at this
    exact this
theorem mosaicref08_Full.spec (n : Int) (k : Nat) (hk : 10000 < k) : mosaicref08_Full.f k n = some (if 0 ≤ n ∧ n ≤ 160 then mkS n.toNat (fun _ => true) else ⟨#[]⟩) := by
  unfold mosaicref08_Full.f
  by_cases h : 0 ≤ n ∧ n ≤ 160
  · rw [if_pos h]
    have := mosaicref08_Full.loop n.toNat (by omega) n.toNat k 0 (by omega) (by omega)
    rw [show ((n.toNat : Nat) : Int) = n by omega] at this
    simpa using this
  · rw [if_neg h]
    obtain ⟨k, rfl⟩ : ∃ m, k = m + 1 := ⟨k - 1, by omega⟩
    simp only [mosaicref08_Full.l0]
    by_cases h0 : n < 0
    · rw [if_neg (by omega), if_pos h0]
    · rw [if_pos (by omega), if_neg (by omega), if_neg h0, if_pos (by omega)]

end Go.Proofs.Ytkfilmhconpnbaa.PBitsMakes
namespace Go.Proofs.Ytkfilmhconpnbaa.Pure
open Go.RowKit Go.Proofs.Ytkfilmhconpnbaa.PBitsMakes Go.Proofs.YtkfilmhconpnbaaW.PrintWords Go.Proofs.YtkfilmhconpnbaaW.PrintLast Go.Proofs.YtkfilmhconpnbaaW.PrintMore Go.Mine
theorem BitsMakes : mosaiclaw08_BitsMakes.Pure := by
  intro n l s hn _ _ hl hs
  refine ⟨100000, ?_⟩
  unfold mosaiclaw08_BitsMakes.f
  by_cases h1 : (l.length : Int) > 200
  · rw [if_pos h1]
    simp only [mosaiclaw08_BitsMakes.j0]
    rw [if_pos trivial, mosaiclaw08_awake.spec _ (by omega)]
    rfl
  · rw [if_neg h1]
    simp only [mosaiclaw08_BitsMakes.j0]
    by_cases h2 : (s.size : Int) > 30
    · rw [if_pos (decide_eq_true h2), mosaiclaw08_awake.spec _ (by omega)]
      rfl
    · rw [if_neg (by simpa using h2), bits_Of.spec, Option.bind_some, mosaicref08_Of.spec n l _ (by omega) (by omega), Option.bind_some, bits_List.spec n s _ (by omega), Option.bind_some, mosaicref08_List.spec n s _ (by omega), Option.bind_some, mosaiclaw08_awake.spec _ (by omega), Option.bind_some, if_pos rfl, if_pos rfl, if_pos rfl]
      have hL : (if chk n s = true then (lstUp s n.toNat, (0 : Int)) else ([], 3)).1.length ≤ 1000 := by
        cases h : chk n s with
        | false => simp
        | true =>
          have hs := (chk_iff n s).1 h
          have := rk_le s n.toNat
          have := hs.2.1
          rw [if_pos rfl, lstUp_length]
          omega
      rw [mosaicref04_Same.spec _ _ _ (by omega) (by omega), Option.bind_some, decide_eq_true rfl, if_pos rfl, if_pos rfl, bits_Check.spec n s _ (by omega), Option.bind_some, mosaicref08_Check.spec n s _ (by omega), Option.bind_some, if_pos (by simp), bits_Empty.spec, Option.bind_some, mosaicref08_Empty.spec n _ (by omega), Option.bind_some, if_pos rfl, bits_Full.spec, Option.bind_some, mosaicref08_Full.spec n _ (by omega), Option.bind_some]
      simp
end Go.Proofs.Ytkfilmhconpnbaa.Pure
