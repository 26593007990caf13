/- BitsSets: for every two sets below one number, And, Or and Minus of package bits are reckoned number by number, as the document says. No condition. -/
import Derived.Test.YtkfilmhconpnbaaPBitsSetsx5
import Derived.Test.YtkfilmhconpnbaaPlainBits
import Derived.Test.YtkfilmhconpnbaaPlainSets
namespace Go.Proofs.Ytkfilmhconpnbaa.PBitsSets
open Go.RowKit Go.Proofs.YtkfilmhconpnbaaW.PrintWords Go.Proofs.YtkfilmhconpnbaaW.PrintLast Go.Proofs.YtkfilmhconpnbaaW.PrintMore Go.Mine
set_option linter.unusedVariables false
set_option linter.unusedSimpArgs false
theorem bits_Has.spec (s : ByteArray) (i : Int) (h : i ≤ 9223372036854775807) : bits_Has.f s i = some (decide (0 ≤ i) && hb s i.toNat) := by
  unfold bits_Has.f
  by_cases h0 : 0 ≤ i
  · rw [if_pos h0, tdiv_pos _ _ h0, tmod_pos _ _ h0, wrap64_id _ (by omega) (by omega)]
    by_cases h1 : i / 8 < (s.size : Int)
    · rw [if_pos h1, if_pos (by omega), if_pos (by omega), bt_nb]
      have hn := nb_lt s (i / 8).toNat
      have e1 : shr .u8 (nb s (i / 8).toNat : Int) (i % 8) = ((nb s (i / 8).toNat / 2 ^ (i % 8).toNat : Nat) : Int) := by
        unfold shr
        rw [Nat.min_eq_left (by show (i % 8).toNat ≤ 8; omega)]
        simp
      rw [e1]
      have hq : nb s (i / 8).toNat / 2 ^ (i % 8).toNat < 256 := Nat.lt_of_le_of_lt (Nat.div_le_self _ _) hn
      have e2 := u8_and_nat (nb s (i / 8).toNat / 2 ^ (i % 8).toNat) 1 hq (by decide)
      rw [show ((1 : Nat) : Int) = 1 from rfl] at e2
      rw [e2]
      have e3 : hb s i.toNat = (nb s (i / 8).toNat / 2 ^ (i % 8).toNat % 2 == 1) := by
        unfold hb
        rw [testBit_div, show (i / 8).toNat = i.toNat / 8 by omega, show (i % 8).toNat = i.toNat % 8 by omega]
      rw [e3, Nat.and_one_is_mod, decide_eq_true h0, Bool.true_and]
      congr 1
      generalize nb s (i / 8).toNat / 2 ^ (i % 8).toNat = q
      rcases Nat.mod_two_eq_zero_or_one q with h | h <;> rw [h] <;> rfl
    · rw [if_neg h1, hb_oob s _ (by omega), Bool.and_false]
  · rw [if_neg h0, decide_eq_false h0, Bool.false_and]
theorem bits_Has.at (s : ByteArray) (i : Nat) (h : i < 9223372036854775807) : bits_Has.f s (i : Int) = some (hb s i) := by
  rw [bits_Has.spec s i (by omega)]
  simp

theorem bits_Nth.loop (s : ByteArray) (hs : s.size ≤ 1000000) (q : Int) (hq : -9223372036854775808 ≤ q ∧ q ≤ 9223372036854775807) (d : Nat) : ∀ (k i : Nat), i + d = 8 * s.size → d < k →
    bits_Nth.l0 k s (wrap64 (q - rk s i)) ((8 * s.size : Nat) : Int) (i : Int) = some (nthFrom s q d i) := by
  induction d with
  | zero =>
    intro k i hi hk
    obtain ⟨k, rfl⟩ : ∃ m, k = m + 1 := ⟨k - 1, by omega⟩
    simp only [bits_Nth.l0, nthFrom]
    rw [if_neg (by omega)]
  | succ d ih =>
    intro k i hi hk
    obtain ⟨k, rfl⟩ : ∃ m, k = m + 1 := ⟨k - 1, by omega⟩
    have hr := rk_le s i
    simp only [bits_Nth.l0, nthFrom]
    rw [if_pos (by omega), bits_Has.at s i (by omega), Option.bind_some, wrap64_id ((i : Int) + 1) (by omega) (by omega)]
    have := ih k (i + 1) (by omega) (by omega)
    rw [show ((i + 1 : Nat) : Int) = (i : Int) + 1 by omega] at this
    cases hh : hb s i with
    | true =>
      rw [if_pos rfl]
      by_cases he : ((rk s i : Nat) : Int) = q
      · rw [if_pos (by unfold wrap64; omega), if_pos ⟨rfl, he⟩]
      · rw [if_neg (by unfold wrap64; omega), if_neg (fun h => he h.2), ← this, rk_step s i hh]
        congr 1
        unfold wrap64
        omega
    | false =>
      rw [if_neg (by decide), if_neg (fun h => by cases h.1), ← this, rk_stay s i hh]
theorem bits_Nth.spec (s : ByteArray) (q : Int) (k : Nat) (hs : s.size ≤ 1000000) (hq : -9223372036854775808 ≤ q ∧ q ≤ 9223372036854775807) (hk : 8 * s.size < k) : bits_Nth.f k s q = some (nthFrom s q (8 * s.size) 0) := by
  unfold bits_Nth.f
  have := bits_Nth.loop s hs q hq (8 * s.size) k 0 (by omega) hk
  rw [wrap64_id (8 * (s.size : Int)) (by omega) (by omega)]
  rw [show rk s 0 = 0 from rfl, show q - ((0 : Nat) : Int) = q by omega, wrap64_id q hq.1 hq.2] at this
  simpa using this

theorem bits_may.spec (n : Int) : bits_may.f n = some (decide (0 ≤ n) && decide (n ≤ 160)) := by
  unfold bits_may.f
  by_cases h : 0 ≤ n
  · rw [if_pos h, decide_eq_true h, Bool.true_and]
  · rw [if_neg h, decide_eq_false h, Bool.false_and]

theorem bits_long.spec (n : Int) (h0 : 0 ≤ n) (h1 : n ≤ 1000000) : bits_long.f n = some (((n.toNat + 7) / 8 : Nat) : Int) := by
  unfold bits_long.f
  simp (disch := omega) only [wrap64_id, tdiv_pos]
  congr 1
  omega

theorem bits_Empty.spec (n : Int) : bits_Empty.f n = some (if 0 ≤ n ∧ n ≤ 160 then mkS n.toNat (fun _ => false) else ⟨#[]⟩) := by
  unfold bits_Empty.f
  rw [bits_may.spec, Option.bind_some]
  by_cases h : 0 ≤ n ∧ n ≤ 160
  · rw [if_pos (by simp [h]), if_pos h, bits_long.spec n h.1 (by omega), Option.bind_some, if_pos (by omega), if_pos (by omega), Int.toNat_natCast]
    have e : strOfNums (List.replicate ((n.toNat + 7) / 8) 0) = mkS n.toNat (fun _ => false) := by
      apply mkS_ext
      · rw [strOfNums_size', List.length_replicate]
      · intro i
        rw [hb_strOfNums, Bool.and_false]
        have : (List.replicate ((n.toNat + 7) / 8) (0 : Int)).getD (i / 8) 0 = 0 := by
          rw [List.getD_eq_getElem?_getD, List.getElem?_replicate]
          split <;> rfl
        rw [this]
        simp
    rw [e]
  · rw [if_neg (by simpa using h), if_neg h]

theorem bits_in.spec (n i : Int) : bits_in.f n i = some (decide (0 ≤ i) && decide (i < n)) := by
  unfold bits_in.f
  by_cases h : 0 ≤ i
  · rw [if_pos h, decide_eq_true h, Bool.true_and]
  · rw [if_neg h, decide_eq_false h, Bool.false_and]

theorem bits_Of.go_spec (n : Int) (h0 : 0 ≤ n) (h1 : n ≤ 160) (l : List Int) : ∀ (seen : List Int), (∀ x ∈ l, 0 ≤ x ∧ x < n) → (∀ x ∈ seen, 0 ≤ x ∧ x < n) →
    bits_Of.go (mkS n.toNat (fun i => decide ((i : Int) ∈ seen))) l = some (if (∀ x ∈ l, x ∉ seen) ∧ l.Nodup then (mkS n.toNat (fun i => decide ((i : Int) ∈ seen ++ l)), 0) else (⟨#[]⟩, 5)) := by
  induction l with
  | nil =>
    intro seen _ _
    unfold bits_Of.go
    simp
  | cons y l ih =>
    intro seen hl hs
    have hy := hl y (List.mem_cons_self ..)
    unfold bits_Of.go
    rw [bits_Has.spec _ y (by omega), Option.bind_some, decide_eq_true hy.1, Bool.true_and, mkS_hb, decide_eq_true (by omega), Bool.true_and, show ((y.toNat : Nat) : Int) = y by omega]
    by_cases hm : y ∈ seen
    · rw [if_pos (decide_eq_true hm), if_neg (fun h => h.1 y (List.mem_cons_self ..) hm)]
    · rw [if_neg (by simpa using hm)]
      unfold bits_turn.f
      rw [if_pos ⟨hy.1, by rw [mkS_size]; omega, by omega⟩, Option.bind_some]
      have e : turnS (mkS n.toNat (fun i => decide ((i : Int) ∈ seen))) y = mkS n.toNat (fun i => decide ((i : Int) ∈ seen ++ [y])) := by
        apply mkS_ext
        · rw [turnS_size, mkS_size]
        · intro j
          have := turnS_hb (mkS n.toNat (fun i => decide ((i : Int) ∈ seen))) y.toNat (by rw [mkS_size]; omega) j
          rw [show ((y.toNat : Nat) : Int) = y by omega] at this
          rw [this, mkS_hb, mkS_hb, show ((y.toNat : Nat) : Int) = y by omega]
          by_cases e : j = y.toNat
          · rw [if_pos e, decide_eq_false hm, decide_eq_true (by omega), decide_eq_true (by omega), e]
            simp
            omega
          · rw [if_neg e]
            congr 1
            rw [Bool.eq_iff_iff]
            simp
            omega
      rw [e, ih (seen ++ [y]) (fun x hx => hl x (List.mem_cons_of_mem _ hx)) (fun x hx => by
        rcases List.mem_append.1 hx with h | h
        · exact hs x h
        · rw [List.mem_singleton.1 h]; exact hy)]
      have hiff : ((∀ x ∈ l, x ∉ seen ++ [y]) ∧ l.Nodup) ↔ ((∀ x ∈ y :: l, x ∉ seen) ∧ (y :: l).Nodup) := by
        simp only [List.mem_append, List.mem_singleton, List.mem_cons, List.nodup_cons]
        constructor
        · rintro ⟨h1, h2⟩
          refine ⟨?_, ?_, h2⟩
          · rintro x (rfl | hx)
            · exact hm
            · exact fun hxs => h1 x hx (.inl hxs)
          · exact fun hyl => h1 y hyl (.inr (.inl rfl))
        · rintro ⟨h1, h2, h3⟩
          refine ⟨fun x hx => ?_, h3⟩
          rintro (hxs | rfl | hxs)
          · exact h1 x (.inr hx) hxs
          · exact h2 hx
          · cases hxs
      by_cases hc : (∀ x ∈ l, x ∉ seen ++ [y]) ∧ l.Nodup
      · rw [if_pos hc, if_pos (hiff.1 hc), List.append_assoc]
        rfl
      · rw [if_neg hc, if_neg (fun h => hc (hiff.2 h))]
def ofR (n : Int) (l : List Int) : ByteArray × Int :=
  if 0 ≤ n ∧ n ≤ 160 ∧ ∀ x ∈ l, 0 ≤ x ∧ x < n then (if l.Nodup then (mkS n.toNat (fun i => decide ((i : Int) ∈ l)), 0) else (⟨#[]⟩, 5)) else (⟨#[]⟩, 1)
theorem bits_Of.spec (n : Int) (l : List Int) : bits_Of.f n l = some (ofR n l) := by
  unfold bits_Of.f ofR
  rw [bits_may.spec, Option.bind_some]
  by_cases h : 0 ≤ n ∧ n ≤ 160
  · rw [if_pos (by simp [h])]
    by_cases hl : ∀ x ∈ l, 0 ≤ x ∧ x < n
    · rw [if_neg, bits_Empty.spec, if_pos h, Option.bind_some, if_pos ⟨h.1, h.2, hl⟩]
      · have := bits_Of.go_spec n h.1 h.2 l [] hl (by simp)
        simpa using this
      · rw [List.any_eq_true]
        rintro ⟨x, hx, hxx⟩
        have := hl x hx
        simp [this] at hxx
    · rw [if_pos, if_neg (fun hh => hl hh.2.2)]
      rw [List.any_eq_true]
      apply Classical.byContradiction
      intro hno
      apply hl
      intro x hx
      apply Classical.byContradiction
      intro hnx
      refine hno ⟨x, hx, ?_⟩
      by_cases h0 : 0 ≤ x
      · rw [decide_eq_true h0, decide_eq_false (fun h => hnx ⟨h0, h⟩)]
        rfl
      · rw [decide_eq_false h0]
        rfl
  · rw [if_neg (by simpa using h), if_neg (fun hh => h ⟨hh.1, hh.2.1⟩)]

theorem bits_Full.spec (n : Int) : bits_Full.f n = some (if 0 ≤ n ∧ n ≤ 160 then mkS n.toNat (fun _ => true) else ⟨#[]⟩) := by
  unfold bits_Full.f
  rw [bits_Empty.spec, Option.bind_some]
  by_cases h : 0 ≤ n ∧ n ≤ 160
  · rw [if_pos h, if_pos h, if_pos (by rw [mkS_size]; omega)]
    have e : strOfNums (fullB n (bytesI (mkS n.toNat fun _ => false)) (8 * (mkS n.toNat fun _ => false).size)) = mkS n.toNat (fun _ => true) := by
      apply mkS_ext
      · rw [strOfNums_size', fullB_length, bytesI_length, mkS_size]
      · intro i
        rw [fullB_hb n _ (bytes_bytesI _) _ (by rw [bytesI_length]; exact Nat.le_refl _), strOfNums_bytesI, mkS_hb, mkS_size]
        rw [Bool.eq_iff_iff]
        simp
        omega
    rw [e]
  · rw [if_neg h, if_neg h, if_pos (by decide)]
    rfl

theorem mosaiclaw08_awake.now : mosaiclaw08_awake.f 100 = some true := by decide +kernel
theorem mosaiclaw08_awake.spec (k : Nat) (hk : 100 ≤ k) : mosaiclaw08_awake.f k = some true := at_rounds mosaiclaw08_awake.mono hk mosaiclaw08_awake.now

theorem bits_Rank.loop (s : ByteArray) (m : Nat) (hm : m ≤ 1000000000000000000) (d : Nat) : ∀ (k i a : Nat), i + d = m → d < k → a ≤ i →
    bits_Rank.l0 k s (a : Int) (m : Int) (i : Int) = some (((a + (rk s m - rk s i) : Nat)) : Int) := by
  induction d with
  | zero =>
    intro k i a hi hk ha
    obtain ⟨k, rfl⟩ : ∃ m, k = m + 1 := ⟨k - 1, by omega⟩
    obtain rfl : i = m := by omega
    simp only [bits_Rank.l0]
    rw [if_neg (by omega), Nat.sub_self, Nat.add_zero]
  | succ d ih =>
    intro k i a hi hk ha
    obtain ⟨k, rfl⟩ : ∃ m, k = m + 1 := ⟨k - 1, by omega⟩
    simp only [bits_Rank.l0]
    rw [if_pos (by omega), bits_Has.at s i (by omega), Option.bind_some, wrap64_id _ (by omega) (by omega), wrap64_id _ (by omega) (by omega)]
    have hmono := rk_mono s (show i + 1 ≤ m by omega)
    cases hh : hb s i with
    | true =>
      rw [if_pos rfl]
      have e := rk_step s i hh
      have := ih k (i + 1) (a + 1) (by omega) (by omega) (by omega)
      rw [show ((a + 1 : Nat) : Int) = (a : Int) + 1 by omega, show ((i + 1 : Nat) : Int) = (i : Int) + 1 by omega] at this
      rw [this]
      congr 2
      omega
    | false =>
      rw [if_neg (by decide)]
      have e := rk_stay s i hh
      have := ih k (i + 1) a (by omega) (by omega) (by omega)
      rw [show ((i + 1 : Nat) : Int) = (i : Int) + 1 by omega] at this
      rw [this, e]
theorem bits_Rank.spec (s : ByteArray) (i : Int) (k : Nat) (hs : s.size ≤ 1000000) (hk : 8 * s.size < k) : bits_Rank.f k s i = some ((rk s (min i.toNat (8 * s.size)) : Nat) : Int) := by
  unfold bits_Rank.f
  have e : mn (mx i 0) (wrap64 (8 * (s.size : Int))) = ((min i.toNat (8 * s.size) : Nat) : Int) := by
    rw [wrap64_id _ (by omega) (by omega)]
    unfold mn mx
    omega
  rw [e]
  have := bits_Rank.loop s (min i.toNat (8 * s.size)) (by omega) (min i.toNat (8 * s.size)) k 0 0 (by omega) (by omega) (by omega)
  simpa [rk] using this

theorem bits_Count.spec (s : ByteArray) (k : Nat) (hs : s.size ≤ 1000000) (hk : 8 * s.size < k) : bits_Count.f k s = some ((rk s (8 * s.size) : Nat) : Int) := by
  unfold bits_Count.f
  rw [bits_Rank.spec s _ k hs hk, Option.bind_some, wrap64_id _ (by omega) (by omega)]
  congr 3
  omega

theorem bits_Check.loop (s : ByteArray) (hs : s.size ≤ 1000000) (d : Nat) : ∀ (k i : Nat), 8 * s.size ≤ i + d → i ≤ 1000000000 → d < k → ∃ b, bits_Check.l0 k s (i : Int) = some b ∧ (b = true ↔ ∀ j, i ≤ j → hb s j = false) := by
  induction d with
  | zero =>
    intro k i hi hi2 hk
    obtain ⟨k, rfl⟩ : ∃ m, k = m + 1 := ⟨k - 1, by omega⟩
    simp only [bits_Check.l0]
    rw [wrap64_id _ (by omega) (by omega), if_neg (by omega)]
    exact ⟨true, rfl, by simp; intro j hj; exact hb_oob s j (by omega)⟩
  | succ d ih =>
    intro k i hi hi2 hk
    obtain ⟨k, rfl⟩ : ∃ m, k = m + 1 := ⟨k - 1, by omega⟩
    simp only [bits_Check.l0]
    rw [wrap64_id (8 * (s.size : Int)) (by omega) (by omega)]
    by_cases hlt : i < 8 * s.size
    · rw [if_pos (by omega), bits_Has.at s i (by omega), Option.bind_some, wrap64_id _ (by omega) (by omega)]
      cases hh : hb s i with
      | true =>
        rw [if_pos rfl]
        exact ⟨false, rfl, by simp; exact ⟨i, Nat.le_refl _, hh⟩⟩
      | false =>
        rw [if_neg (by decide)]
        obtain ⟨b, h1, h2⟩ := ih k (i + 1) (by omega) (by omega) (by omega)
        rw [show ((i + 1 : Nat) : Int) = (i : Int) + 1 by omega] at h1
        refine ⟨b, h1, h2.trans ⟨fun h j hj => ?_, fun h j hj => h j (by omega)⟩⟩
        by_cases e : j = i
        · rw [e]; exact hh
        · exact h j (by omega)
    · rw [if_neg (by omega)]
      exact ⟨true, rfl, by simp; intro j hj; exact hb_oob s j (by omega)⟩
theorem bits_Check.spec (n : Int) (s : ByteArray) (k : Nat) (hk : 1400 < k) : bits_Check.f k n s = some (chk n s) := by
  unfold bits_Check.f
  rw [bits_may.spec, Option.bind_some]
  obtain ⟨k, rfl⟩ : ∃ m, k = m + 1 := ⟨k - 1, by omega⟩
  by_cases h : 0 ≤ n ∧ n ≤ 160
  · rw [if_pos (by simp [h]), bits_long.spec n h.1 (by omega), Option.bind_some]
    simp only [bits_Check.j0]
    by_cases hsz : s.size = (n.toNat + 7) / 8
    · rw [if_neg (by simp; omega)]
      obtain ⟨b, h1, h2⟩ := bits_Check.loop s (by omega) (8 * s.size) k n.toNat (by omega) (by omega) (by omega)
      rw [show ((n.toNat : Nat) : Int) = n by omega] at h1
      rw [h1, chk_of n s b (h2.trans ⟨fun hh => ⟨h.1, h.2, hsz, hh⟩, fun hh => hh.2.2.2⟩)]
    · rw [if_pos (by simp; omega), chk_of n s false (by constructor; (· intro h; cases h); (· intro hh; exact absurd hh.2.2.1 hsz))]
  · rw [if_neg (by simpa using h)]
    simp only [bits_Check.j0]
    rw [if_pos trivial, chk_of n s false (by constructor; (· intro h; cases h); (· intro hh; exact absurd ⟨hh.1, hh.2.1⟩ h))]
theorem rk_or (a b x y : ByteArray) (hx : ∀ i, hb x i = (hb a i && hb b i)) (hy : ∀ i, hb y i = (hb a i || hb b i)) (m : Nat) : rk x m + rk y m = rk a m + rk b m := by
  induction m with
  | zero => rfl
  | succ m ih =>
    rw [rk_succ, rk_succ, rk_succ, rk_succ, hx, hy]
    cases hb a m <;> cases hb b m <;> simp <;> omega

end Go.Proofs.Ytkfilmhconpnbaa.PBitsSets
namespace Go.Proofs.Ytkfilmhconpnbaa.Pure
open Go.RowKit Go.Proofs.Ytkfilmhconpnbaa.PBitsSets Go.Proofs.YtkfilmhconpnbaaW.PrintWords Go.Proofs.YtkfilmhconpnbaaW.PrintLast Go.Proofs.YtkfilmhconpnbaaW.PrintMore Go.Mine
theorem BitsSets : mosaiclaw08_BitsSets.Pure := by
  intro n a b hn ha hb'
  refine ⟨100000, ?_⟩
  unfold mosaiclaw08_BitsSets.f
  rw [bits_Check.spec n a _ (by omega), Option.bind_some]
  cases hA : chk n a with
  | false =>
    rw [if_neg (by decide)]
    simp only [mosaiclaw08_BitsSets.j0]
    rw [if_pos trivial, mosaiclaw08_awake.spec _ (by omega)]
    rfl
  | true =>
    rw [if_pos rfl, bits_Check.spec n b _ (by omega), Option.bind_some]
    cases hB : chk n b with
    | false =>
      simp only [mosaiclaw08_BitsSets.j0]
      rw [if_pos (by decide), mosaiclaw08_awake.spec _ (by omega)]
      rfl
    | true =>
      have sa := (chk_iff n a).1 hA
      have sb := (chk_iff n b).1 hB
      have h160 := sa.2.1
      have hsz : a.size = b.size := by rw [sa.2.2.1, sb.2.2.1]
      have h20 : a.size ≤ 20 := by have := sa.2.2.1; omega
      simp only [mosaiclaw08_BitsSets.j0]
      rw [if_neg (by decide)]
      unfold bits_And.f bits_Or.f bits_Minus.f
      have e1 : strOfNums (bothB .and (bytesI a) (bytesI b) a.size) = bothS .and a b := rfl
      have e2 : strOfNums (bothB .or (bytesI a) (bytesI b) a.size) = bothS .or a b := rfl
      have e3 : strOfNums (bothB .andNot (bytesI a) (bytesI b) a.size) = bothS .andNot a b := rfl
      simp only [if_pos hsz, if_pos (show a.size ≤ 140737488351232 by omega), Option.bind_some]
      rw [e1, e2, e3]
      have hx := and_hb a b
      have hy := or_hb a b hsz
      have hz := minus_hb a b
      have sx := bothS_size .and a b
      have sy := bothS_size .or a b
      have sz := bothS_size .andNot a b
      generalize bothS .and a b = x at *
      generalize bothS .or a b = y at *
      generalize bothS .andNot a b = z at *
      have e4 : strOfNums (bothB .or (bytesI x) (bytesI z) x.size) = bothS .or x z := rfl
      have e5 : strOfNums (bothB .and (bytesI z) (bytesI b) z.size) = bothS .and z b := rfl
      simp only [if_pos (show x.size = z.size by omega), if_pos (show z.size = b.size by omega), if_pos (show x.size ≤ 140737488351232 by omega), if_pos (show z.size ≤ 140737488351232 by omega), Option.bind_some]
      rw [e4, e5]
      have hw := or_hb x z (by omega)
      have hv := and_hb z b
      have sw := bothS_size .or x z
      have sv := bothS_size .and z b
      generalize bothS .or x z = w at *
      generalize bothS .and z b = v at *
      have isx : chk n x = true := (chk_iff n x).2 ⟨sa.1, h160, by rw [sx, sa.2.2.1], fun i hi => by rw [hx, sa.2.2.2 i hi, Bool.false_and]⟩
      have isy : chk n y = true := (chk_iff n y).2 ⟨sa.1, h160, by rw [sy, sa.2.2.1], fun i hi => by rw [hy, sa.2.2.2 i hi, sb.2.2.2 i hi]; rfl⟩
      have isz : chk n z = true := (chk_iff n z).2 ⟨sa.1, h160, by rw [sz, sa.2.2.1], fun i hi => by rw [hz, sa.2.2.2 i hi, Bool.false_and]⟩
      rw [if_pos (by unfold wrap64; omega), bits_Check.spec n x _ (by omega), isx, Option.bind_some, if_pos rfl, bits_Check.spec n y _ (by omega), isy, Option.bind_some, if_pos rfl, bits_Check.spec n z _ (by omega), isz, Option.bind_some]
      simp only [mosaiclaw08_BitsSets.j1]
      rw [if_neg (by decide), mosaiclaw08_awake.spec _ (by omega), Option.bind_some, if_pos rfl, bits_Count.spec x _ (by omega) (by omega), Option.bind_some, bits_Count.spec y _ (by omega) (by omega), Option.bind_some, bits_Count.spec a _ (by omega) (by omega), Option.bind_some, bits_Count.spec b _ (by omega) (by omega), Option.bind_some]
      have hr := rk_or a b x y hx hy (8 * a.size)
      rw [sx, sy, ← hsz]
      rw [if_pos (by congr 1; omega)]
      have ew : w = a := hb_ext w a (by omega) (fun i _ => by rw [hw, hx, hz]; cases hb a i <;> cases hb b i <;> rfl)
      have ev : v = mkS n.toNat (fun _ => false) := mkS_ext _ _ _ (by rw [sv, sz, sa.2.2.1]) (fun i => by rw [hv, hz, Bool.and_false]; cases hb a i <;> cases hb b i <;> rfl)
      rw [if_pos (by rw [ew]), bits_Empty.spec, Option.bind_some, if_pos ⟨sa.1, h160⟩, ev]
      simp
end Go.Proofs.Ytkfilmhconpnbaa.Pure
