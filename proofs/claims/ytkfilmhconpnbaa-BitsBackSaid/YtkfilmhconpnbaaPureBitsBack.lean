/- BitsBack: for every number and text, what a set of package bits has is what its list has, and Rank and Nth undo each other. No condition. -/
import Derived.Test.YtkfilmhconpnbaaPBitsBackx5
import Derived.Test.YtkfilmhconpnbaaPlainBits
import Derived.Test.YtkfilmhconpnbaaPlainSets
namespace Go.Proofs.Ytkfilmhconpnbaa.PBitsBack
open Go.RowKit Go.Proofs.YtkfilmhconpnbaaW.PrintWords Go.Proofs.YtkfilmhconpnbaaW.PrintLast Go.Proofs.YtkfilmhconpnbaaW.PrintMore Go.Mine
set_option linter.unusedVariables false
set_option linter.unusedSimpArgs false
theorem bits_Has.spec (s : ByteArray) (i : Int) (h : i ≤ 9223372036854775807) : bits_Has.f s i = some (decide (0 ≤ i) && hb s i.toNat) := by
  unfold bits_Has.f
  by_cases h0 : 0 ≤ i
  · rw [if_pos h0, tdiv_pos _ _ h0, tmod_pos _ _ h0, wrap64_id _ (by omega) (by omega)]
    by_cases h1 : i / 8 < (s.size : Int)
    · rw [if_pos h1, if_pos (by omega), if_pos (by omega), bt_nb]
      have hn := nb_lt s (i / 8).toNat
      have e1 : shr .u8 (nb s (i / 8).toNat : Int) (i % 8) = ((nb s (i / 8).toNat / 2 ^ (i % 8).toNat : Nat) : Int) := by
        unfold shr
        rw [Nat.min_eq_left (by show (i % 8).toNat ≤ 8; omega)]
        simp
      rw [e1]
      have hq : nb s (i / 8).toNat / 2 ^ (i % 8).toNat < 256 := Nat.lt_of_le_of_lt (Nat.div_le_self _ _) hn
      have e2 := u8_and_nat (nb s (i / 8).toNat / 2 ^ (i % 8).toNat) 1 hq (by decide)
      rw [show ((1 : Nat) : Int) = 1 from rfl] at e2
      rw [e2]
      have e3 : hb s i.toNat = (nb s (i / 8).toNat / 2 ^ (i % 8).toNat % 2 == 1) := by
        unfold hb
        rw [testBit_div, show (i / 8).toNat = i.toNat / 8 by omega, show (i % 8).toNat = i.toNat % 8 by omega]
      rw [e3, Nat.and_one_is_mod, decide_eq_true h0, Bool.true_and]
      congr 1
      generalize nb s (i / 8).toNat / 2 ^ (i % 8).toNat = q
      rcases Nat.mod_two_eq_zero_or_one q with h | h <;> rw [h] <;> rfl
    · rw [if_neg h1, hb_oob s _ (by omega), Bool.and_false]
  · rw [if_neg h0, decide_eq_false h0, Bool.false_and]
theorem bits_Has.at (s : ByteArray) (i : Nat) (h : i < 9223372036854775807) : bits_Has.f s (i : Int) = some (hb s i) := by
  rw [bits_Has.spec s i (by omega)]
  simp

theorem bits_Nth.loop (s : ByteArray) (hs : s.size ≤ 1000000) (q : Int) (hq : -9223372036854775808 ≤ q ∧ q ≤ 9223372036854775807) (d : Nat) : ∀ (k i : Nat), i + d = 8 * s.size → d < k →
    bits_Nth.l0 k s (wrap64 (q - rk s i)) ((8 * s.size : Nat) : Int) (i : Int) = some (nthFrom s q d i) := by
  induction d with
  | zero =>
    intro k i hi hk
    obtain ⟨k, rfl⟩ : ∃ m, k = m + 1 := ⟨k - 1, by omega⟩
    simp only [bits_Nth.l0, nthFrom]
    rw [if_neg (by omega)]
  | succ d ih =>
    intro k i hi hk
    obtain ⟨k, rfl⟩ : ∃ m, k = m + 1 := ⟨k - 1, by omega⟩
    have hr := rk_le s i
    simp only [bits_Nth.l0, nthFrom]
    rw [if_pos (by omega), bits_Has.at s i (by omega), Option.bind_some, wrap64_id ((i : Int) + 1) (by omega) (by omega)]
    have := ih k (i + 1) (by omega) (by omega)
    rw [show ((i + 1 : Nat) : Int) = (i : Int) + 1 by omega] at this
    cases hh : hb s i with
    | true =>
      rw [if_pos rfl]
      by_cases he : ((rk s i : Nat) : Int) = q
      · rw [if_pos (by unfold wrap64; omega), if_pos ⟨rfl, he⟩]
      · rw [if_neg (by unfold wrap64; omega), if_neg (fun h => he h.2), ← this, rk_step s i hh]
        congr 1
        unfold wrap64
        omega
    | false =>
      rw [if_neg (by decide), if_neg (fun h => by cases h.1), ← this, rk_stay s i hh]
theorem bits_Nth.spec (s : ByteArray) (q : Int) (k : Nat) (hs : s.size ≤ 1000000) (hq : -9223372036854775808 ≤ q ∧ q ≤ 9223372036854775807) (hk : 8 * s.size < k) : bits_Nth.f k s q = some (nthFrom s q (8 * s.size) 0) := by
  unfold bits_Nth.f
  have := bits_Nth.loop s hs q hq (8 * s.size) k 0 (by omega) hk
  rw [wrap64_id (8 * (s.size : Int)) (by omega) (by omega)]
  rw [show rk s 0 = 0 from rfl, show q - ((0 : Nat) : Int) = q by omega, wrap64_id q hq.1 hq.2] at this
  simpa using this

theorem bits_may.spec (n : Int) : bits_may.f n = some (decide (0 ≤ n) && decide (n ≤ 160)) := by
  unfold bits_may.f
  by_cases h : 0 ≤ n
  · rw [if_pos h, decide_eq_true h, Bool.true_and]
  · rw [if_neg h, decide_eq_false h, Bool.false_and]

theorem bits_long.spec (n : Int) (h0 : 0 ≤ n) (h1 : n ≤ 1000000) : bits_long.f n = some (((n.toNat + 7) / 8 : Nat) : Int) := by
  unfold bits_long.f
  simp (disch := omega) only [wrap64_id, tdiv_pos]
  congr 1
  omega

theorem bits_Empty.spec (n : Int) : bits_Empty.f n = some (if 0 ≤ n ∧ n ≤ 160 then mkS n.toNat (fun _ => false) else ⟨#[]⟩) := by
  unfold bits_Empty.f
  rw [bits_may.spec, Option.bind_some]
  by_cases h : 0 ≤ n ∧ n ≤ 160
  · rw [if_pos (by simp [h]), if_pos h, bits_long.spec n h.1 (by omega), Option.bind_some, if_pos (by omega), if_pos (by omega), Int.toNat_natCast]
    have e : strOfNums (List.replicate ((n.toNat + 7) / 8) 0) = mkS n.toNat (fun _ => false) := by
      apply mkS_ext
      · rw [strOfNums_size', List.length_replicate]
      · intro i
        rw [hb_strOfNums, Bool.and_false]
        have : (List.replicate ((n.toNat + 7) / 8) (0 : Int)).getD (i / 8) 0 = 0 := by
          rw [List.getD_eq_getElem?_getD, List.getElem?_replicate]
          split <;> rfl
        rw [this]
        simp
    rw [e]
  · rw [if_neg (by simpa using h), if_neg h]

theorem bits_in.spec (n i : Int) : bits_in.f n i = some (decide (0 ≤ i) && decide (i < n)) := by
  unfold bits_in.f
  by_cases h : 0 ≤ i
  · rw [if_pos h, decide_eq_true h, Bool.true_and]
  · rw [if_neg h, decide_eq_false h, Bool.false_and]

theorem bits_Of.go_spec (n : Int) (h0 : 0 ≤ n) (h1 : n ≤ 160) (l : List Int) : ∀ (seen : List Int), (∀ x ∈ l, 0 ≤ x ∧ x < n) → (∀ x ∈ seen, 0 ≤ x ∧ x < n) →
    bits_Of.go (mkS n.toNat (fun i => decide ((i : Int) ∈ seen))) l = some (if (∀ x ∈ l, x ∉ seen) ∧ l.Nodup then (mkS n.toNat (fun i => decide ((i : Int) ∈ seen ++ l)), 0) else (⟨#[]⟩, 5)) := by
  induction l with
  | nil =>
    intro seen _ _
    unfold bits_Of.go
    simp
  | cons y l ih =>
    intro seen hl hs
    have hy := hl y (List.mem_cons_self ..)
    unfold bits_Of.go
    rw [bits_Has.spec _ y (by omega), Option.bind_some, decide_eq_true hy.1, Bool.true_and, mkS_hb, decide_eq_true (by omega), Bool.true_and, show ((y.toNat : Nat) : Int) = y by omega]
    by_cases hm : y ∈ seen
    · rw [if_pos (decide_eq_true hm), if_neg (fun h => h.1 y (List.mem_cons_self ..) hm)]
    · rw [if_neg (by simpa using hm)]
      unfold bits_turn.f
      rw [if_pos ⟨hy.1, by rw [mkS_size]; omega, by omega⟩, Option.bind_some]
      have e : turnS (mkS n.toNat (fun i => decide ((i : Int) ∈ seen))) y = mkS n.toNat (fun i => decide ((i : Int) ∈ seen ++ [y])) := by
        apply mkS_ext
        · rw [turnS_size, mkS_size]
        · intro j
          have := turnS_hb (mkS n.toNat (fun i => decide ((i : Int) ∈ seen))) y.toNat (by rw [mkS_size]; omega) j
          rw [show ((y.toNat : Nat) : Int) = y by omega] at this
          rw [this, mkS_hb, mkS_hb, show ((y.toNat : Nat) : Int) = y by omega]
          by_cases e : j = y.toNat
          · rw [if_pos e, decide_eq_false hm, decide_eq_true (by omega), decide_eq_true (by omega), e]
            simp
            omega
          · rw [if_neg e]
            congr 1
            rw [Bool.eq_iff_iff]
            simp
            omega
      rw [e, ih (seen ++ [y]) (fun x hx => hl x (List.mem_cons_of_mem _ hx)) (fun x hx => by
        rcases List.mem_append.1 hx with h | h
        · exact hs x h
        · rw [List.mem_singleton.1 h]; exact hy)]
      have hiff : ((∀ x ∈ l, x ∉ seen ++ [y]) ∧ l.Nodup) ↔ ((∀ x ∈ y :: l, x ∉ seen) ∧ (y :: l).Nodup) := by
        simp only [List.mem_append, List.mem_singleton, List.mem_cons, List.nodup_cons]
        constructor
        · rintro ⟨h1, h2⟩
          refine ⟨?_, ?_, h2⟩
          · rintro x (rfl | hx)
            · exact hm
            · exact fun hxs => h1 x hx (.inl hxs)
          · exact fun hyl => h1 y hyl (.inr (.inl rfl))
        · rintro ⟨h1, h2, h3⟩
          refine ⟨fun x hx => ?_, h3⟩
          rintro (hxs | rfl | hxs)
          · exact h1 x (.inr hx) hxs
          · exact h2 hx
          · cases hxs
      by_cases hc : (∀ x ∈ l, x ∉ seen ++ [y]) ∧ l.Nodup
      · rw [if_pos hc, if_pos (hiff.1 hc), List.append_assoc]
        rfl
      · rw [if_neg hc, if_neg (fun h => hc (hiff.2 h))]
def ofR (n : Int) (l : List Int) : ByteArray × Int :=
  if 0 ≤ n ∧ n ≤ 160 ∧ ∀ x ∈ l, 0 ≤ x ∧ x < n then (if l.Nodup then (mkS n.toNat (fun i => decide ((i : Int) ∈ l)), 0) else (⟨#[]⟩, 5)) else (⟨#[]⟩, 1)
theorem bits_Of.spec (n : Int) (l : List Int) : bits_Of.f n l = some (ofR n l) := by
  unfold bits_Of.f ofR
  rw [bits_may.spec, Option.bind_some]
  by_cases h : 0 ≤ n ∧ n ≤ 160
  · rw [if_pos (by simp [h])]
    by_cases hl : ∀ x ∈ l, 0 ≤ x ∧ x < n
    · rw [if_neg, bits_Empty.spec, if_pos h, Option.bind_some, if_pos ⟨h.1, h.2, hl⟩]
      · have := bits_Of.go_spec n h.1 h.2 l [] hl (by simp)
        simpa using this
      · rw [List.any_eq_true]
        rintro ⟨x, hx, hxx⟩
        have := hl x hx
        simp [this] at hxx
    · rw [if_pos, if_neg (fun hh => hl hh.2.2)]
      rw [List.any_eq_true]
      apply Classical.byContradiction
      intro hno
      apply hl
      intro x hx
      apply Classical.byContradiction
      intro hnx
      refine hno ⟨x, hx, ?_⟩
      by_cases h0 : 0 ≤ x
      · rw [decide_eq_true h0, decide_eq_false (fun h => hnx ⟨h0, h⟩)]
        rfl
      · rw [decide_eq_false h0]
        rfl
  · rw [if_neg (by simpa using h), if_neg (fun hh => h ⟨hh.1, hh.2.1⟩)]

theorem bits_Full.spec (n : Int) : bits_Full.f n = some (if 0 ≤ n ∧ n ≤ 160 then mkS n.toNat (fun _ => true) else ⟨#[]⟩) := by
  unfold bits_Full.f
  rw [bits_Empty.spec, Option.bind_some]
  by_cases h : 0 ≤ n ∧ n ≤ 160
  · rw [if_pos h, if_pos h, if_pos (by rw [mkS_size]; omega)]
    have e : strOfNums (fullB n (bytesI (mkS n.toNat fun _ => false)) (8 * (mkS n.toNat fun _ => false).size)) = mkS n.toNat (fun _ => true) := by
      apply mkS_ext
      · rw [strOfNums_size', fullB_length, bytesI_length, mkS_size]
      · intro i
        rw [fullB_hb n _ (bytes_bytesI _) _ (by rw [bytesI_length]; exact Nat.le_refl _), strOfNums_bytesI, mkS_hb, mkS_size]
        rw [Bool.eq_iff_iff]
        simp
        omega
    rw [e]
  · rw [if_neg h, if_neg h, if_pos (by decide)]
    rfl

theorem mosaiclaw08_awake.now : mosaiclaw08_awake.f 100 = some true := by decide +kernel
theorem mosaiclaw08_awake.spec (k : Nat) (hk : 100 ≤ k) : mosaiclaw08_awake.f k = some true := at_rounds mosaiclaw08_awake.mono hk mosaiclaw08_awake.now

theorem bits_Rank.loop (s : ByteArray) (m : Nat) (hm : m ≤ 1000000000000000000) (d : Nat) : ∀ (k i a : Nat), i + d = m → d < k → a ≤ i →
    bits_Rank.l0 k s (a : Int) (m : Int) (i : Int) = some (((a + (rk s m - rk s i) : Nat)) : Int) := by
  induction d with
  | zero =>
    intro k i a hi hk ha
    obtain ⟨k, rfl⟩ : ∃ m, k = m + 1 := ⟨k - 1, by omega⟩
    obtain rfl : i = m := by omega
    simp only [bits_Rank.l0]
    rw [if_neg (by omega), Nat.sub_self, Nat.add_zero]
  | succ d ih =>
    intro k i a hi hk ha
    obtain ⟨k, rfl⟩ : ∃ m, k = m + 1 := ⟨k - 1, by omega⟩
    simp only [bits_Rank.l0]
    rw [if_pos (by omega), bits_Has.at s i (by omega), Option.bind_some, wrap64_id _ (by omega) (by omega), wrap64_id _ (by omega) (by omega)]
    have hmono := rk_mono s (show i + 1 ≤ m by omega)
    cases hh : hb s i with
    | true =>
      rw [if_pos rfl]
      have e := rk_step s i hh
      have := ih k (i + 1) (a + 1) (by omega) (by omega) (by omega)
      rw [show ((a + 1 : Nat) : Int) = (a : Int) + 1 by omega, show ((i + 1 : Nat) : Int) = (i : Int) + 1 by omega] at this
      rw [this]
      congr 2
      omega
    | false =>
      rw [if_neg (by decide)]
      have e := rk_stay s i hh
      have := ih k (i + 1) a (by omega) (by omega) (by omega)
      rw [show ((i + 1 : Nat) : Int) = (i : Int) + 1 by omega] at this
      rw [this, e]
theorem bits_Rank.spec (s : ByteArray) (i : Int) (k : Nat) (hs : s.size ≤ 1000000) (hk : 8 * s.size < k) : bits_Rank.f k s i = some ((rk s (min i.toNat (8 * s.size)) : Nat) : Int) := by
  unfold bits_Rank.f
  have e : mn (mx i 0) (wrap64 (8 * (s.size : Int))) = ((min i.toNat (8 * s.size) : Nat) : Int) := by
    rw [wrap64_id _ (by omega) (by omega)]
    unfold mn mx
    omega
  rw [e]
  have := bits_Rank.loop s (min i.toNat (8 * s.size)) (by omega) (min i.toNat (8 * s.size)) k 0 0 (by omega) (by omega) (by omega)
  simpa [rk] using this

theorem bits_Count.spec (s : ByteArray) (k : Nat) (hs : s.size ≤ 1000000) (hk : 8 * s.size < k) : bits_Count.f k s = some ((rk s (8 * s.size) : Nat) : Int) := by
  unfold bits_Count.f
  rw [bits_Rank.spec s _ k hs hk, Option.bind_some, wrap64_id _ (by omega) (by omega)]
  congr 3
  omega

theorem bits_Check.loop (s : ByteArray) (hs : s.size ≤ 1000000) (d : Nat) : ∀ (k i : Nat), 8 * s.size ≤ i + d → i ≤ 1000000000 → d < k → ∃ b, bits_Check.l0 k s (i : Int) = some b ∧ (b = true ↔ ∀ j, i ≤ j → hb s j = false) := by
  induction d with
  | zero =>
    intro k i hi hi2 hk
    obtain ⟨k, rfl⟩ : ∃ m, k = m + 1 := ⟨k - 1, by omega⟩
    simp only [bits_Check.l0]
    rw [wrap64_id _ (by omega) (by omega), if_neg (by omega)]
    exact ⟨true, rfl, by simp; intro j hj; exact hb_oob s j (by omega)⟩
  | succ d ih =>
    intro k i hi hi2 hk
    obtain ⟨k, rfl⟩ : ∃ m, k = m + 1 := ⟨k - 1, by omega⟩
    simp only [bits_Check.l0]
    rw [wrap64_id (8 * (s.size : Int)) (by omega) (by omega)]
    by_cases hlt : i < 8 * s.size
    · rw [if_pos (by omega), bits_Has.at s i (by omega), Option.bind_some, wrap64_id _ (by omega) (by omega)]
      cases hh : hb s i with
      | true =>
        rw [if_pos rfl]
        exact ⟨false, rfl, by simp; exact ⟨i, Nat.le_refl _, hh⟩⟩
      | false =>
        rw [if_neg (by decide)]
        obtain ⟨b, h1, h2⟩ := ih k (i + 1) (by omega) (by omega) (by omega)
        rw [show ((i + 1 : Nat) : Int) = (i : Int) + 1 by omega] at h1
        refine ⟨b, h1, h2.trans ⟨fun h j hj => ?_, fun h j hj => h j (by omega)⟩⟩
        by_cases e : j = i
        · rw [e]; exact hh
        · exact h j (by omega)
    · rw [if_neg (by omega)]
      exact ⟨true, rfl, by simp; intro j hj; exact hb_oob s j (by omega)⟩
theorem bits_Check.spec (n : Int) (s : ByteArray) (k : Nat) (hk : 1400 < k) : bits_Check.f k n s = some (chk n s) := by
  unfold bits_Check.f
  rw [bits_may.spec, Option.bind_some]
  obtain ⟨k, rfl⟩ : ∃ m, k = m + 1 := ⟨k - 1, by omega⟩
  by_cases h : 0 ≤ n ∧ n ≤ 160
  · rw [if_pos (by simp [h]), bits_long.spec n h.1 (by omega), Option.bind_some]
    simp only [bits_Check.j0]
    by_cases hsz : s.size = (n.toNat + 7) / 8
    · rw [if_neg (by simp; omega)]
      obtain ⟨b, h1, h2⟩ := bits_Check.loop s (by omega) (8 * s.size) k n.toNat (by omega) (by omega) (by omega)
      rw [show ((n.toNat : Nat) : Int) = n by omega] at h1
      rw [h1, chk_of n s b (h2.trans ⟨fun hh => ⟨h.1, h.2, hsz, hh⟩, fun hh => hh.2.2.2⟩)]
    · rw [if_pos (by simp; omega), chk_of n s false (by constructor; (· intro h; cases h); (· intro hh; exact absurd hh.2.2.1 hsz))]
  · rw [if_neg (by simpa using h)]
    simp only [bits_Check.j0]
    rw [if_pos trivial, chk_of n s false (by constructor; (· intro h; cases h); (· intro hh; exact absurd ⟨hh.1, hh.2.1⟩ h))]

theorem bits_List.loop (s : ByteArray) (n : Nat) (hn : n ≤ 1000000) (d : Nat) : ∀ (k i : Nat), i + d = n → d < k → bits_List.l0 k s (lstUp s i) (n : Int) (i : Int) = some (lstUp s n, 0) := by
  induction d with
  | zero =>
    intro k i hi hk
    obtain ⟨k, rfl⟩ : ∃ m, k = m + 1 := ⟨k - 1, by omega⟩
    simp only [bits_List.l0]
    rw [if_neg (by omega), show i = n by omega]
  | succ d ih =>
    intro k i hi hk
    obtain ⟨k, rfl⟩ : ∃ m, k = m + 1 := ⟨k - 1, by omega⟩
    have hl := lstUp_length s i
    have hr := rk_le s i
    simp only [bits_List.l0]
    rw [if_pos (by omega), bits_Has.at s i (by omega), Option.bind_some, wrap64_id _ (by omega) (by omega)]
    have := ih k (i + 1) (by omega) (by omega)
    rw [show ((i + 1 : Nat) : Int) = (i : Int) + 1 by omega, lstUp_succ] at this
    cases hh : hb s i with
    | true =>
      rw [hh, if_pos rfl] at this
      rw [if_pos rfl, if_pos (by omega), this]
    | false =>
      rw [hh, if_neg (by decide), List.append_nil] at this
      rw [if_neg (by decide), this]
theorem bits_List.spec (n : Int) (s : ByteArray) (k : Nat) (hk : 1400 < k) : bits_List.f k n s = some (if chk n s = true then (lstUp s n.toNat, 0) else ([], 3)) := by
  unfold bits_List.f
  rw [bits_Check.spec n s k hk, Option.bind_some]
  cases h : chk n s with
  | true =>
    have hs := (chk_iff n s).1 h
    rw [if_pos rfl, if_pos rfl]
    have := bits_List.loop s n.toNat (by have := hs.2.1; omega) n.toNat k 0 (by omega) (by have := hs.2.1; omega)
    rw [show ((n.toNat : Nat) : Int) = n by have := hs.1; omega] at this
    simpa [lstUp] using this
  | false =>
    rw [if_neg (by decide), if_neg (by decide)]
theorem back_loop (n : Int) (s : ByteArray) (hs : IsSet n s) (d : Nat) : ∀ (k q : Nat), q + d = (lstUp s n.toNat).length → d + 5000 < k → mosaiclaw08_BitsBack.l0 k s (lstUp s n.toNat) (q : Int) = some true := by
  have h0 := hs.1
  have h160 := hs.2.1
  have hsz : s.size ≤ 20 := by have := hs.2.2.1; omega
  have hL : (lstUp s n.toNat).length = rk s n.toNat := lstUp_length s n.toNat
  have hr := rk_le s n.toNat
  induction d with
  | zero =>
    intro k q hq hk
    obtain ⟨k, rfl⟩ : ∃ m, k = m + 1 := ⟨k - 1, by omega⟩
    simp only [mosaiclaw08_BitsBack.l0]
    rw [if_neg (by omega), mosaiclaw08_awake.spec _ (by omega), Option.bind_some, if_pos rfl, bits_Nth.spec s _ _ (by omega) (by omega) (by omega), Option.bind_some, nthFrom_miss]
    · rfl
    · intro j _ _ hj
      have hjn : j < n.toNat := by
        rcases Nat.lt_or_ge j n.toNat with h | h
        · exact h
        · rw [hs.2.2.2 j h] at hj; cases hj
      have h1 := rk_step s j hj
      have h2 := rk_mono s (show j + 1 ≤ n.toNat by omega)
      omega
  | succ d ih =>
    intro k q hq hk
    obtain ⟨k, rfl⟩ : ∃ m, k = m + 1 := ⟨k - 1, by omega⟩
    have hlt : q < (lstUp s n.toNat).length := by omega
    obtain ⟨e, he1, he2, he3, he4⟩ := lstUp_getElem s n.toNat q hlt
    have hrd : rd (lstUp s n.toNat) (q : Int) = (e : Int) := by rw [← he1]; simp [rd]
    have he8 := hb_lt s e he3
    have := ih k (q + 1) (by omega) (by omega)
    rw [show ((q + 1 : Nat) : Int) = (q : Int) + 1 by omega] at this
    simp only [mosaiclaw08_BitsBack.l0]
    rw [if_pos (by omega), if_pos (by omega), hrd, bits_Has.at s e (by omega), he3, Option.bind_some, if_pos rfl, bits_Nth.spec s _ _ (by omega) (by omega) (by omega), Option.bind_some, nthFrom_hit s q e he3 (by omega) (8 * s.size) 0 (by omega) (by omega), if_pos rfl, bits_Rank.spec s _ _ (by omega) (by omega), Option.bind_some, show min ((e : Int).toNat) (8 * s.size) = e by omega, if_pos (by omega)]
    by_cases hq0 : (q : Int) > 0
    · rw [if_pos hq0]
      simp (disch := omega) only [wrap64_id]
      rw [if_pos (by omega), if_pos (by omega)]
      obtain ⟨e', h1, h2, h3, h4⟩ := lstUp_getElem s n.toNat (q - 1) (by omega)
      have hrd' : rd (lstUp s n.toNat) ((q : Int) - 1) = (e' : Int) := by rw [← h1]; unfold rd; congr 1; omega
      rw [hrd', if_neg]
      · exact this
      · intro hle
        have := rk_mono s (show e ≤ e' by omega)
        omega
    · rw [if_neg hq0, wrap64_id _ (by omega) (by omega)]
      exact this

end Go.Proofs.Ytkfilmhconpnbaa.PBitsBack
namespace Go.Proofs.Ytkfilmhconpnbaa.Pure
open Go.RowKit Go.Proofs.Ytkfilmhconpnbaa.PBitsBack Go.Proofs.YtkfilmhconpnbaaW.PrintWords Go.Proofs.YtkfilmhconpnbaaW.PrintLast Go.Proofs.YtkfilmhconpnbaaW.PrintMore Go.Mine
theorem BitsBack : mosaiclaw08_BitsBack.Pure := by
  intro n s hn hs
  refine ⟨100000, ?_⟩
  unfold mosaiclaw08_BitsBack.f
  rw [bits_List.spec n s _ (by omega), Option.bind_some]
  cases hA : chk n s with
  | false =>
    simp only [if_neg (show ¬ (false = true) by decide)]
    rw [if_neg (by decide), mosaiclaw08_awake.spec _ (by omega), Option.bind_some, if_pos rfl, bits_Check.spec n s _ (by omega), Option.bind_some, hA, if_neg (by decide)]
    rfl
  | true =>
    have sa := (chk_iff n s).1 hA
    have h160 := sa.2.1
    have h0 := sa.1
    have hsz : s.size ≤ 20 := by have := sa.2.2.1; omega
    simp only [if_true]
    have hmem := lstUp_mem s n.toNat
    have hnd : (lstUp s n.toNat).Nodup := by
      unfold lstUp
      refine List.Pairwise.map _ (fun a b h => ?_) (List.Pairwise.filter _ List.nodup_range)
      omega
    have hof : ofR n (lstUp s n.toNat) = (s, 0) := by
      unfold ofR
      rw [if_pos ⟨h0, h160, fun x hx => by obtain ⟨i, h1, _, rfl⟩ := (hmem x).1 hx; omega⟩, if_pos hnd]
      have e : mkS n.toNat (fun i => decide ((i : Int) ∈ lstUp s n.toNat)) = s := by
        conv => rhs; rw [sa.eq]
        apply mkS_congr
        intro j hj
        rw [Bool.eq_iff_iff]
        simp only [decide_eq_true_eq, hmem]
        constructor
        · rintro ⟨i, _, h2, h3⟩
          rw [show j = i by omega]; exact h2
        · intro h; exact ⟨j, hj, h, rfl⟩
      rw [e]
    rw [bits_Of.spec, hof, Option.bind_some, if_pos rfl, if_pos rfl, bits_Count.spec s _ (by omega) (by omega), Option.bind_some]
    have hcount : rk s (8 * s.size) = rk s n.toNat := by
      have key : ∀ d, rk s (n.toNat + d) = rk s n.toNat := by
        intro d
        induction d with
        | zero => rfl
        | succ d ih => rw [← Nat.add_assoc, rk_stay s _ (sa.2.2.2 _ (by omega)), ih]
      have := key (8 * s.size - n.toNat)
      rw [show n.toNat + (8 * s.size - n.toNat) = 8 * s.size by have := sa.2.2.1; omega] at this
      exact this
    simp only [mosaiclaw08_BitsBack.j0]
    rw [hcount, lstUp_length, if_neg (by simp)]
    have hr := rk_le s n.toNat
    have := back_loop n s sa (lstUp s n.toNat).length 99999 0 (by omega) (by rw [lstUp_length]; omega)
    simpa using this
end Go.Proofs.Ytkfilmhconpnbaa.Pure
