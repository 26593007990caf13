import Derived.Test.YtmklpmbfijljcaaPlainBits
namespace Go.Mine
open Go Go.RowKit Go.Proofs.YtmklpmbfijljcaaW.PrintWords Go.Proofs.YtmklpmbfijljcaaW.PrintLast Go.Proofs.YtmklpmbfijljcaaW.PrintMore
set_option linter.unusedSimpArgs false
set_option linter.unusedVariables false

/-- The number whose bits are f's, from bit 8 j + 7 down, m of them. -/
def accB (f : Nat → Bool) (j : Nat) : Nat → Nat
  | 0 => 0
  | m + 1 => 2 * accB f j m + (if f (8 * j + (7 - m)) = true then 1 else 0)
theorem accB_succ (f : Nat → Bool) (j m : Nat) : accB f j (m + 1) = 2 * accB f j m + (if f (8 * j + (7 - m)) = true then 1 else 0) := rfl
theorem accB_lt (f : Nat → Bool) (j m : Nat) : accB f j m < 2 ^ m := by
  induction m with
  | zero => exact Nat.one_pos
  | succ m ih => rw [Nat.pow_succ]; unfold accB; split <;> omega
theorem accB_bit (f : Nat → Bool) (j : Nat) (m : Nat) : m ≤ 8 → ∀ b, b < m → (accB f j m).testBit b = f (8 * j + (8 - m) + b) := by
  induction m with
  | zero => intro _ b hb; omega
  | succ m ih =>
    intro hm b hb
    cases b with
    | zero =>
      rw [Nat.testBit_zero]
      rw [accB_succ, show 8 * j + (8 - (m + 1)) + 0 = 8 * j + (7 - m) by omega]
      cases f (8 * j + (7 - m)) <;> simp <;> omega
    | succ b =>
      rw [Nat.testBit_succ, show accB f j (m + 1) / 2 = accB f j m by rw [accB_succ]; split <;> omega, ih (by omega) b (by omega)]
      congr 1
      omega

/-- The set below n of those numbers for which f is true. -/
def mkL (n : Nat) (f : Nat → Bool) (m : Nat) : List Int := (List.range m).map fun j => ((accB (fun i => decide (i < n) && f i) j 8 : Nat) : Int)
def mkS (n : Nat) (f : Nat → Bool) : ByteArray := strOfNums (mkL n f ((n + 7) / 8))
theorem mkS_size (n : Nat) (f : Nat → Bool) : (mkS n f).size = (n + 7) / 8 := by simp [mkS, strOfNums_size', mkL]
theorem mkS_hb (n : Nat) (f : Nat → Bool) (i : Nat) : hb (mkS n f) i = (decide (i < n) && f i) := by
  rcases Nat.lt_or_ge (i / 8) ((n + 7) / 8) with h | h
  · unfold hb mkS
    rw [nb_strOfNums]
    have e : (mkL n f ((n + 7) / 8)).getD (i / 8) 0 = ((accB (fun i => decide (i < n) && f i) (i / 8) 8 : Nat) : Int) := by
      unfold mkL
      rw [List.getD_eq_getElem?_getD, List.getElem?_map, List.getElem?_range h]
      rfl
    have hl := accB_lt (fun i => decide (i < n) && f i) (i / 8) 8
    rw [e, Int.toNat_natCast, Nat.mod_eq_of_lt hl, accB_bit _ _ 8 (by omega) (i % 8) (by omega)]
    show (decide (8 * (i / 8) + (8 - 8) + i % 8 < n) && f (8 * (i / 8) + (8 - 8) + i % 8)) = _
    rw [show 8 * (i / 8) + (8 - 8) + i % 8 = i by omega]
  · rw [hb_oob _ _ (by rw [mkS_size]; omega), decide_eq_false (by omega), Bool.false_and]
theorem mkS_ext (n : Nat) (f : Nat → Bool) (s : ByteArray) (hs : s.size = (n + 7) / 8) (h : ∀ i, hb s i = (decide (i < n) && f i)) : s = mkS n f :=
  hb_ext _ _ (by rw [mkS_size]; exact hs) (fun i _ => by rw [h, mkS_hb])
theorem mkS_congr (n : Nat) (f g : Nat → Bool) (h : ∀ i, i < n → f i = g i) : mkS n f = mkS n g :=
  hb_ext _ _ (by rw [mkS_size, mkS_size]) (fun i _ => by
    rw [mkS_hb, mkS_hb]
    by_cases hi : i < n
    · rw [h i hi]
    · simp [hi])

/-- A text that is a set below n. -/
def IsSet (n : Int) (s : ByteArray) : Prop := 0 ≤ n ∧ n ≤ 160 ∧ s.size = (n.toNat + 7) / 8 ∧ ∀ i, n.toNat ≤ i → hb s i = false
noncomputable def chk (n : Int) (s : ByteArray) : Bool := @decide (IsSet n s) (Classical.propDecidable _)
theorem chk_iff (n : Int) (s : ByteArray) : chk n s = true ↔ IsSet n s := by unfold chk; exact @decide_eq_true_iff _ (Classical.propDecidable _)
theorem chk_of (n : Int) (s : ByteArray) (b : Bool) (h : b = true ↔ IsSet n s) : chk n s = b := by
  rw [Bool.eq_iff_iff, chk_iff, h]
theorem IsSet.eq {n : Int} {s : ByteArray} (h : IsSet n s) : s = mkS n.toNat (hb s) :=
  mkS_ext _ _ _ h.2.2.1 (fun i => by
    by_cases hi : i < n.toNat
    · simp [hi]
    · rw [h.2.2.2 i (by omega)]; simp [hi])
theorem isSet_mkS (n : Int) (h0 : 0 ≤ n) (h1 : n ≤ 160) (f : Nat → Bool) : IsSet n (mkS n.toNat f) :=
  ⟨h0, h1, mkS_size _ _, fun i hi => by rw [mkS_hb, decide_eq_false (by omega), Bool.false_and]⟩

/-- A set's numbers below n. -/
def lstUp (s : ByteArray) (n : Nat) : List Int := ((List.range n).filter (hb s)).map fun (j : Nat) => (j : Int)
theorem lstUp_succ (s : ByteArray) (n : Nat) : lstUp s (n + 1) = lstUp s n ++ (if hb s n = true then [(n : Int)] else []) := by
  unfold lstUp
  rw [List.range_succ, List.filter_append, List.map_append]
  cases h : hb s n <;> simp [h]
theorem lstUp_length (s : ByteArray) (n : Nat) : (lstUp s n).length = rk s n := by
  induction n with
  | zero => rfl
  | succ n ih => rw [lstUp_succ, List.length_append, ih, rk_succ]; split <;> rfl
theorem lstUp_mem (s : ByteArray) (n : Nat) (x : Int) : x ∈ lstUp s n ↔ ∃ i : Nat, i < n ∧ hb s i = true ∧ x = (i : Int) := by
  unfold lstUp
  simp only [List.mem_map, List.mem_filter, List.mem_range]
  constructor
  · rintro ⟨i, ⟨h1, h2⟩, rfl⟩; exact ⟨i, h1, h2, rfl⟩
  · rintro ⟨i, h1, h2, rfl⟩; exact ⟨i, ⟨h1, h2⟩, rfl⟩
theorem lstUp_getElem (s : ByteArray) (n : Nat) : ∀ k, k < (lstUp s n).length → ∃ e : Nat, (lstUp s n).getD k 0 = (e : Int) ∧ e < n ∧ hb s e = true ∧ rk s e = k := by
  induction n with
  | zero => intro k hk; simp [lstUp] at hk
  | succ n ih =>
    intro k hk
    rw [lstUp_length] at hk
    rcases Nat.lt_or_ge k (rk s n) with h | h
    · obtain ⟨e, h1, h2, h3, h4⟩ := ih k (by rw [lstUp_length]; exact h)
      refine ⟨e, ?_, by omega, h3, h4⟩
      rw [lstUp_succ, List.getD_eq_getElem?_getD, List.getElem?_append_left (by rw [lstUp_length]; exact h), ← List.getD_eq_getElem?_getD, h1]
    · have hh : hb s n = true := by
        cases hb' : hb s n with
        | true => rfl
        | false => rw [rk_stay s n hb'] at hk; omega
      have hk' := hk
      rw [rk_step s n hh] at hk'
      have hkk : k = rk s n := by omega
      refine ⟨n, ?_, by omega, hh, hkk.symm⟩
      rw [lstUp_succ, if_pos hh, List.getD_eq_getElem?_getD, List.getElem?_append_right (by rw [lstUp_length]; omega), lstUp_length, hkk, Nat.sub_self]
      rfl

/-- The bits of bytes as numbers. -/
theorem hb_strOfNums (xs : List Int) (i : Nat) : hb (strOfNums xs) i = (((xs.getD (i / 8) 0).toNat % 256).testBit (i % 8)) := by unfold hb; rw [nb_strOfNums]
def Bytes (xs : List Int) : Prop := ∀ j, 0 ≤ xs.getD j 0 ∧ xs.getD j 0 < 256
theorem bytes_bytesI (s : ByteArray) : Bytes (bytesI s) := fun j => by rw [nb_bytesI]; have := nb_lt s j; omega
theorem bytes_set {xs : List Int} (h : Bytes xs) (j : Nat) (v : Int) (h0 : 0 ≤ v) (h1 : v < 256) : Bytes (xs.set j v) := fun i => by
  rw [List.getD_eq_getElem?_getD, List.getElem?_set]
  split
  · split
    · exact ⟨h0, h1⟩
    · exact ⟨Int.le_refl _, by decide⟩
  · rw [← List.getD_eq_getElem?_getD]; exact h i
theorem getD_set (xs : List Int) (j i : Nat) (v : Int) (hj : j < xs.length) : (xs.set j v).getD i 0 = if i = j then v else xs.getD i 0 := by
  rw [List.getD_eq_getElem?_getD, List.getElem?_set]
  by_cases h : j = i
  · subst h; simp [hj]
  · rw [if_neg h, if_neg (fun e => h e.symm), List.getD_eq_getElem?_getD]
theorem strOfNums_bytesI (s : ByteArray) : strOfNums (bytesI s) = s := by
  apply bytes_ext
  · rw [strOfNums_size', bytesI_length]
  · intro j _
    rw [nb_strOfNums, nb_bytesI, Int.toNat_natCast, Nat.mod_eq_of_lt (nb_lt s j)]
theorem pow_mod_256 (b : Nat) (h : b < 8) : (2 ^ b % 256 : Int) = ((2 ^ b : Nat) : Int) ∧ 2 ^ b < 256 := by
  have h2 : 2 ^ b < 2 ^ 8 := Nat.pow_lt_pow_right (by decide) h
  have h3 : (2 : Nat) ^ 8 = 256 := by decide
  have h4 : ((2 : Int) ^ b) = ((2 ^ b : Nat) : Int) := by simp
  rw [h4]
  rw [h3] at h2
  clear h4 h3
  generalize (2 : Nat) ^ b = q at *
  exact ⟨Int.emod_eq_of_lt (by omega) (by omega), h2⟩
theorem testBit_pow (a b : Nat) : (2 ^ a).testBit b = decide (a = b) := Nat.testBit_two_pow

theorem turnS_size (s : ByteArray) (i : Int) : (turnS s i).size = s.size := by unfold turnS; rw [strOfNums_size', List.length_set, bytesI_length]
theorem turnS_hb (s : ByteArray) (i : Nat) (hi : i / 8 < s.size) (j : Nat) : hb (turnS s (i : Int)) j = if j = i then !hb s i else hb s j := by
  unfold turnS
  rw [hb_strOfNums, show ((i : Int) / 8).toNat = i / 8 by omega, show ((i : Int) % 8).toNat = i % 8 by omega, getD_set _ _ _ _ (by rw [bytesI_length]; exact hi), nb_bytesI]
  obtain ⟨hp, hq⟩ := pow_mod_256 (i % 8) (by omega)
  rw [hp, u8_xor_nat _ _ (nb_lt _ _) hq]
  by_cases h8 : j / 8 = i / 8
  · rw [if_pos h8, Int.toNat_natCast, Nat.mod_eq_of_lt (Nat.xor_lt_two_pow (n := 8) (nb_lt _ _) hq), Nat.testBit_xor, testBit_pow]
    unfold hb
    by_cases hj : j = i
    · rw [if_pos hj, hj]; simp
    · rw [if_neg hj, decide_eq_false (by omega), Bool.xor_false, h8]
  · rw [if_neg h8, if_neg (by omega), nb_bytesI, Int.toNat_natCast, Nat.mod_eq_of_lt (nb_lt _ _)]
    rfl

theorem bytes_fullB (n : Int) (z : List Int) (hz : Bytes z) (k : Nat) : Bytes (fullB n z k) := by
  induction k with
  | zero => exact hz
  | succ k ih =>
    unfold fullB
    split
    · obtain ⟨hp, hq⟩ := pow_mod_256 (k % 8) (by omega)
      have hx := ih (k / 8)
      rw [hp]
      have := u8_or ((fullB n z k).getD (k / 8) 0) ((2 ^ (k % 8) : Nat) : Int) hx.1 hx.2 (by omega) (by omega)
      rw [this]
      refine bytes_set ih _ _ (by omega) ?_
      have := Nat.or_lt_two_pow (n := 8) (x := ((fullB n z k).getD (k / 8) 0).toNat) (y := ((2 ^ (k % 8) : Nat) : Int).toNat) (by omega) (by omega)
      omega
    · exact ih
theorem fullB_hb (n : Int) (z : List Int) (hz : Bytes z) (k : Nat) : k ≤ 8 * z.length → ∀ i, hb (strOfNums (fullB n z k)) i = ((decide (i < k) && decide ((i : Int) < n)) || hb (strOfNums z) i) := by
  induction k with
  | zero => intro _ i; simp [fullB]
  | succ k ih =>
    intro hk i
    have ih := ih (by omega)
    unfold fullB
    by_cases hn : (k : Int) < n
    · rw [if_pos hn]
      obtain ⟨hp, hq⟩ := pow_mod_256 (k % 8) (by omega)
      have hx := bytes_fullB n z hz k (k / 8)
      rw [hp, u8_or ((fullB n z k).getD (k / 8) 0) ((2 ^ (k % 8) : Nat) : Int) hx.1 hx.2 (by omega) (by omega), hb_strOfNums, getD_set _ _ _ _ (by rw [fullB_length]; omega)]
      have hi := ih i
      rw [hb_strOfNums] at hi
      by_cases h8 : i / 8 = k / 8
      · rw [if_pos h8, Int.toNat_natCast]
        rw [h8] at hi
        have hl := Nat.or_lt_two_pow (n := 8) (x := ((fullB n z k).getD (k / 8) 0).toNat) (y := ((2 ^ (k % 8) : Nat) : Int).toNat) (by omega) (by omega)
        rw [Nat.mod_eq_of_lt hl, Nat.testBit_or, Int.toNat_natCast, testBit_pow]
        rw [Nat.mod_eq_of_lt (by omega)] at hi
        rw [hi]
        by_cases hik : i = k
        · subst hik; simp [hn]
        · rw [decide_eq_false (show ¬ k % 8 = i % 8 by omega), Bool.or_false]
          congr 2
          rw [Bool.eq_iff_iff]; simp; omega
      · rw [if_neg h8, hi]
        congr 2
        rw [Bool.eq_iff_iff]; simp; omega
    · rw [if_neg hn, ih i]
      by_cases hik : i = k
      · subst hik; simp [hn]
      · congr 2
        rw [Bool.eq_iff_iff]; simp; omega

/-- A loop that sets each byte of a to 'op a[i] b[i]'. -/
theorem bothB_get (op : BinOp) (a b : List Int) (k : Nat) : k ≤ a.length → ∀ j, (bothB op a b k).getD j 0 = if j < k then Go.bits op .u8 (a.getD j 0) (b.getD j 0) else a.getD j 0 := by
  induction k with
  | zero => intro _ j; simp [bothB]
  | succ k ih =>
    intro hk j
    have ih := ih (by omega)
    unfold bothB
    rw [getD_set _ _ _ _ (by rw [bothB_length]; omega), ih k, if_neg (Nat.lt_irrefl _)]
    by_cases h : j = k
    · subst h; rw [if_pos rfl, if_pos (by omega)]
    · rw [if_neg h, ih j]
      by_cases h2 : j < k
      · rw [if_pos h2, if_pos (by omega)]
      · rw [if_neg h2, if_neg (by omega)]
def bothS (op : BinOp) (a b : ByteArray) : ByteArray := strOfNums (bothB op (bytesI a) (bytesI b) a.size)
theorem bothS_size (op : BinOp) (a b : ByteArray) : (bothS op a b).size = a.size := by unfold bothS; rw [strOfNums_size', bothB_length, bytesI_length]
theorem bothS_nb (op : BinOp) (a b : ByteArray) (j : Nat) (hj : j < a.size) : nb (bothS op a b) j = (Go.bits op .u8 (nb a j) (nb b j)).toNat % 256 := by
  unfold bothS
  rw [nb_strOfNums, bothB_get _ _ _ _ (by rw [bytesI_length]; exact Nat.le_refl _), if_pos hj, nb_bytesI, nb_bytesI]
theorem and_hb (a b : ByteArray) (i : Nat) : hb (bothS .and a b) i = (hb a i && hb b i) := by
  rcases Nat.lt_or_ge (i / 8) a.size with h | h
  · unfold hb
    rw [bothS_nb _ _ _ _ h, u8_and_nat _ _ (nb_lt _ _) (nb_lt _ _), Int.toNat_natCast, Nat.mod_eq_of_lt (Nat.lt_of_le_of_lt Nat.and_le_left (nb_lt _ _)), Nat.testBit_and]
  · rw [hb_oob _ i (by rw [bothS_size]; omega), hb_oob a i (by omega), Bool.false_and]
theorem or_hb (a b : ByteArray) (hs : a.size = b.size) (i : Nat) : hb (bothS .or a b) i = (hb a i || hb b i) := by
  rcases Nat.lt_or_ge (i / 8) a.size with h | h
  · unfold hb
    rw [bothS_nb _ _ _ _ h, u8_or_nat _ _ (nb_lt _ _) (nb_lt _ _), Int.toNat_natCast, Nat.mod_eq_of_lt (Nat.or_lt_two_pow (n := 8) (nb_lt _ _) (nb_lt _ _)), Nat.testBit_or]
  · rw [hb_oob _ i (by rw [bothS_size]; omega), hb_oob a i (by omega), hb_oob b i (by omega), Bool.false_or]
theorem minus_hb (a b : ByteArray) (i : Nat) : hb (bothS .andNot a b) i = (hb a i && !hb b i) := by
  rcases Nat.lt_or_ge (i / 8) a.size with h | h
  · unfold hb
    have hb8 := nb_lt b (i / 8)
    rw [bothS_nb _ _ _ _ h, u8_andNot_nat _ _ (nb_lt _ _) (nb_lt _ _), Int.toNat_natCast, Nat.mod_eq_of_lt (Nat.lt_of_le_of_lt Nat.and_le_left (nb_lt _ _)), Nat.testBit_and]
    congr 1
    have := Nat.testBit_two_pow_sub_succ (n := 8) (x := nb b (i / 8)) hb8 (i % 8)
    rw [show 2 ^ 8 - (nb b (i / 8) + 1) = 255 - nb b (i / 8) by omega] at this
    rw [this, decide_eq_true (by omega), Bool.true_and]
  · rw [hb_oob _ i (by rw [bothS_size]; omega), hb_oob a i (by omega), Bool.false_and]

/-- The place of the bit of rank k, from i on. -/
def nthFrom (s : ByteArray) (k : Int) : Nat → Nat → Int
  | 0, _ => -1
  | d + 1, i => if hb s i = true ∧ ((rk s i : Nat) : Int) = k then (i : Int) else nthFrom s k d (i + 1)
theorem nthFrom_hit (s : ByteArray) (k : Int) (e : Nat) (he : hb s e = true) (hr : ((rk s e : Nat) : Int) = k) (d : Nat) : ∀ i, i ≤ e → e < i + d → nthFrom s k d i = (e : Int) := by
  induction d with
  | zero => intro i h1 h2; omega
  | succ d ih =>
    intro i h1 h2
    unfold nthFrom
    by_cases h : i = e
    · subst h; rw [if_pos ⟨he, hr⟩]
    · rw [if_neg, ih (i + 1) (by omega) (by omega)]
      rintro ⟨h3, h4⟩
      have h5 := rk_step s i h3
      have h6 := rk_mono s (show i + 1 ≤ e by omega)
      omega
theorem nthFrom_miss (s : ByteArray) (k : Int) (d : Nat) : ∀ i, (∀ j, i ≤ j → j < i + d → hb s j = true → ((rk s j : Nat) : Int) ≠ k) → nthFrom s k d i = -1 := by
  induction d with
  | zero => intro i _; rfl
  | succ d ih =>
    intro i h
    unfold nthFrom
    rw [if_neg (fun hh => h i (Nat.le_refl _) (by omega) hh.1 hh.2), ih (i + 1) (fun j h1 h2 => h j (by omega) (by omega))]
end Go.Mine
