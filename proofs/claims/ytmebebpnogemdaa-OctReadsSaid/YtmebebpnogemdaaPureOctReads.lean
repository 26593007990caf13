/- OctReads: for every bytes and fields, what a reader of package oct reads of them, field by field, what is left, and the first error, are what the document defines. No condition. -/
import Derived.Test.YtmebebpnogemdaaPOctReadsx8
import Derived.Test.YtmebebpnogemdaaPlainBits
import Derived.Test.YtmebebpnogemdaaPlainBlock
import Derived.Test.YtmebebpnogemdaaPlainOct
import Derived.Test.YtmebebpnogemdaaPlainRead
namespace Go.Proofs.Ytmebebpnogemdaa.POctReads
open Go.RowKit Go.Proofs.YtmebebpnogemdaaW.PrintWords Go.Proofs.YtmebebpnogemdaaW.PrintLast Go.Proofs.YtmebebpnogemdaaW.PrintMore Go.Mine
set_option linter.unusedVariables false
set_option linter.unusedSimpArgs false
theorem oct_Put.loop (n : Nat) (d : Nat) : ∀ (k : Nat) (xs : List Int), d ≤ 7 → d < k → xs.length + d ≤ 100 → oct_Put.l0 k (n : Int) xs ((d : Int) - 1) = some (strOfNums (xs ++ beL n d), 0) := by
  induction d with
  | zero =>
    intro k xs hd hk hx
    obtain ⟨k, rfl⟩ : ∃ m, k = m + 1 := ⟨k - 1, by omega⟩
    simp only [oct_Put.l0]
    rw [if_neg (by omega)]
    simp [beL]
  | succ d ih =>
    intro k xs hd hk hx
    obtain ⟨k, rfl⟩ : ∃ m, k = m + 1 := ⟨k - 1, by omega⟩
    simp only [oct_Put.l0]
    rw [show ((d + 1 : Nat) : Int) - 1 = (d : Int) by omega, wrap64_id (8 * (d : Int)) (by omega) (by omega), wrap64_id ((d : Int) - 1) (by omega) (by omega), if_pos (by omega), if_pos (by omega), if_pos (by omega)]
    have e : shr .i64 (n : Int) (8 * (d : Int)) % 256 = ((n / 256 ^ d % 256 : Nat) : Int) := by
      unfold shr
      rw [show (8 * (d : Int)).toNat = 8 * d by omega, Nat.min_eq_left (by show 8 * d ≤ 64; omega)]
      have h2 : ((2 : Int) ^ (8 * d)) = ((2 ^ (8 * d) : Nat) : Int) := by simp
      rw [h2, p256_two, ← Int.natCast_ediv]
      generalize n / 256 ^ d = q
      omega
    rw [e, ih k (xs ++ [((n / 256 ^ d % 256 : Nat) : Int)]) (by omega) (by omega) (by simp; omega)]
    simp [beL]
theorem oct_Put.spec (n size : Int) (k : Nat) (hn : -9223372036854775808 ≤ n ∧ n ≤ 9223372036854775807) (hk : 10 ≤ k) : oct_Put.f k n size = some (putR n size) := by
  unfold oct_Put.f putR
  obtain ⟨k, rfl⟩ : ∃ m, k = m + 1 := ⟨k - 1, by omega⟩
  by_cases h1 : size < 1
  · rw [if_pos h1]
    simp only [oct_Put.j0]
    rw [if_pos trivial, if_pos (.inl h1)]
  · rw [if_neg h1]
    simp only [oct_Put.j0]
    by_cases h2 : size > 7
    · rw [if_pos (decide_eq_true h2), if_pos (.inr h2)]
    · rw [if_neg (by simpa using h2), if_neg (show ¬ (size < 1 ∨ 7 < size) by omega)]
      by_cases h3 : n < 0
      · rw [if_pos h3, if_pos (.inl h3)]
      · rw [if_neg h3, wrap64_id (8 * size) (by omega) (by omega), wrap64_id (size - 1) (by omega) (by omega), if_pos (by omega)]
        have e : shr .i64 n (8 * size) = ((n.toNat / 256 ^ size.toNat : Nat) : Int) := by
          unfold shr
          rw [show (8 * size).toNat = 8 * size.toNat by omega, Nat.min_eq_left (by show 8 * size.toNat ≤ 64; omega)]
          have h2 : ((2 : Int) ^ (8 * size.toNat)) = ((2 ^ (8 * size.toNat) : Nat) : Int) := by simp
          rw [h2, p256_two]
          obtain ⟨m, rfl⟩ := Int.eq_ofNat_of_zero_le (show 0 ≤ n by omega)
          rfl
        rw [e]
        have hp := p256_pos size.toNat
        by_cases h4 : n.toNat < 256 ^ size.toNat
        · rw [if_pos (by rw [Nat.div_eq_of_lt h4]; rfl), if_neg (by omega)]
          have := oct_Put.loop n.toNat size.toNat k [] (by omega) (by omega) (by simp; omega)
          rw [show ((n.toNat : Nat) : Int) = n by omega, show ((size.toNat : Nat) : Int) - 1 = size - 1 by omega] at this
          rw [this]
          rfl
        · have h5 : 1 ≤ n.toNat / 256 ^ size.toNat := (Nat.le_div_iff_mul_le hp).2 (by omega)
          rw [if_neg (by omega), if_pos (by omega)]

theorem oct_Get.go_spec (l : List UInt8) : ∀ (a j : Nat), a < 256 ^ j → j + l.length ≤ 7 → oct_Get.go l (a : Int) = ((valL l a : Nat) : Int) := by
  induction l with
  | nil => intro a j _ _; rw [oct_Get.go_nil, valL_nil]
  | cons c l ih =>
    intro a j ha hj
    have hc := c.toNat_lt
    rw [List.length_cons] at hj
    have h7 := p256_le7 (j + 1) (by omega)
    have h1 : 256 * a + c.toNat < 256 ^ (j + 1) := by rw [p256_succ]; omega
    have h2 := ih _ (j + 1) h1 (by omega)
    have h3 := get_step a c.toNat hc (Nat.lt_of_lt_of_le h1 h7)
    rw [oct_Get.go_cons, valL_cons, h3, h2]
theorem oct_Get.spec (s : ByteArray) : oct_Get.f s = some (getR s) := by
  unfold oct_Get.f getR
  by_cases h : s.size > 7
  · rw [if_pos h, if_pos h]
  · rw [if_neg h, if_neg h]
    have := oct_Get.go_spec s.data.toList 0 0 (by decide) (by rw [len_data]; omega)
    rw [show ((0 : Nat) : Int) = 0 from rfl] at this
    rw [this]

theorem oct_Reader_cut.spec (s : ByteArray) (e n : Int) : oct_Reader_cut.f s e n = some (cutT s e n) := by
  unfold oct_Reader_cut.f cutT
  by_cases h : e = 0
  · subst h
    rw [if_pos rfl, if_pos rfl]
    by_cases h1 : n < 0
    · rw [if_pos h1, if_pos h1]
    · rw [if_neg h1, if_neg h1]
      by_cases h2 : n > (s.size : Int)
      · rw [if_pos h2, if_pos h2]
      · rw [if_neg h2, if_neg h2, if_pos (by omega), if_pos (by omega)]
  · rw [if_neg h, if_neg h]

theorem oct_Reader_Num.spec (s : ByteArray) (e n : Int) (k : Nat) (hk : 1 ≤ k) : oct_Reader_Num.f k s e n = some (numT s e n) := by
  obtain ⟨k, rfl⟩ : ∃ m, k = m + 1 := ⟨k - 1, by omega⟩
  unfold oct_Reader_Num.f numT
  by_cases h : 1 ≤ n ∧ n ≤ 7
  · rw [if_neg (by omega), decide_eq_false (by omega)]
    simp only [oct_Reader_Num.j0]
    rw [if_neg (by decide), oct_Reader_cut.spec, Option.bind_some, oct_Get.spec, Option.bind_some, if_pos h]
  · have : (if n < 1 then oct_Reader_Num.j0 (k + 1) n true s e else oct_Reader_Num.j0 (k + 1) n (decide (n > 7)) s e) = oct_Reader_Num.j0 (k + 1) n true s e := by
      by_cases h1 : n < 1
      · rw [if_pos h1]
      · rw [if_neg h1, decide_eq_true (by omega)]
    rw [this]
    simp only [oct_Reader_Num.j0]
    rw [if_pos trivial, oct_Reader_cut.spec, Option.bind_some, oct_Get.spec, Option.bind_some, if_neg h]

theorem mosaicref02_Get.loop (s : ByteArray) (hs : s.size ≤ 7) (d : Nat) : ∀ (k i a : Nat), i + d = s.size → d < k → a < 256 ^ i → mosaicref02_Get.l0 k s (a : Int) (i : Int) = some ((valL (s.data.toList.drop i) a : Nat) : Int) := by
  have hl := len_data s
  induction d with
  | zero =>
    intro k i a hi hk ha
    obtain ⟨k, rfl⟩ : ∃ m, k = m + 1 := ⟨k - 1, by omega⟩
    simp only [mosaicref02_Get.l0]
    rw [if_neg (by omega), List.drop_of_length_le (by omega)]
    rfl
  | succ d ih =>
    intro k i a hi hk ha
    obtain ⟨k, rfl⟩ : ∃ m, k = m + 1 := ⟨k - 1, by omega⟩
    have hlt : i < s.data.toList.length := by omega
    have h7 := p256_le7 (i + 1) (by omega)
    have hb := nb_lt s i
    have hnb : nb s i = (s.data.toList[i]).toNat := by
      unfold nb
      rw [List.getD_eq_getElem?_getD, List.getElem?_eq_getElem hlt]
      rfl
    have h1 : 256 * a + nb s i < 256 ^ (i + 1) := by rw [p256_succ]; omega
    rw [p256_succ] at h7
    simp only [mosaicref02_Get.l0]
    rw [if_pos (by omega), if_pos (by omega), bt_nb, Int.toNat_natCast, wrap64_id (256 * (a : Int)) (by omega) (by omega), wrap64_id ((nb s i : Nat) : Int) (by omega) (by omega), wrap64_id _ (by omega) (by omega), wrap64_id _ (by omega) (by omega)]
    have := ih k (i + 1) (256 * a + nb s i) (by omega) (by omega) h1
    rw [show ((256 * a + nb s i : Nat) : Int) = 256 * (a : Int) + (nb s i : Int) by omega, show ((i + 1 : Nat) : Int) = (i : Int) + 1 by omega] at this
    rw [this, List.drop_eq_getElem_cons hlt]
    simp only [valL]
    rw [hnb]
theorem mosaicref02_Get.spec (s : ByteArray) (k : Nat) (hk : 8 ≤ k) : mosaicref02_Get.f k s = some (getR s) := by
  unfold mosaicref02_Get.f getR
  by_cases h : s.size > 7
  · rw [if_pos (by omega), if_pos h]
  · rw [if_neg (by omega), if_neg h]
    have := mosaicref02_Get.loop s (by omega) s.size k 0 0 (by omega) (by omega) (by decide)
    rw [show ((0 : Nat) : Int) = 0 from rfl, List.drop_zero] at this
    exact this

theorem mosaicref02_Reader_Num.spec (s : ByteArray) (e n : Int) (k : Nat) (hk : 9 ≤ k) : mosaicref02_Reader_Num.f k s e n = some ((numT s e n).2.1, (numT s e n).2.2, (numT s e n).1, ⟨#[]⟩) := by
  obtain ⟨k, rfl⟩ : ∃ m, k = m + 1 := ⟨k - 1, by omega⟩
  unfold mosaicref02_Reader_Num.f
  by_cases he : e = 0
  · subst he
    rw [if_pos rfl]
    unfold numT cutT
    by_cases h : 1 ≤ n ∧ n ≤ 7
    · rw [if_neg (by omega), decide_eq_false (by omega), if_pos h]
      simp only [mosaicref02_Reader_Num.j0]
      rw [if_neg (by decide), if_pos trivial, if_neg (show ¬ n < 0 by omega)]
      by_cases h2 : (s.size : Int) < n
      · rw [if_pos h2, if_pos (show n > (s.size : Int) from h2)]
        rfl
      · rw [if_neg h2, if_neg (show ¬ n > (s.size : Int) from h2), if_pos (by omega), if_pos (by omega), mosaicref02_Get.spec _ _ (by omega), Option.bind_some]
    · have : (if n < 1 then mosaicref02_Reader_Num.j0 (k + 1) n true s 0 else mosaicref02_Reader_Num.j0 (k + 1) n (decide (n > 7)) s 0) = mosaicref02_Reader_Num.j0 (k + 1) n true s 0 := by
        by_cases h1 : n < 1
        · rw [if_pos h1]
        · rw [if_neg h1, decide_eq_true (by omega)]
      rw [this, if_neg h]
      simp only [mosaicref02_Reader_Num.j0]
      rfl
  · rw [if_neg he, numT_bad _ _ _ he]

theorem oct_Reader_Text.spec (s : ByteArray) (e : Int) : oct_Reader_Text.f s e = some (textT s e) := by
  unfold oct_Reader_Text.f textT
  have e1 : numT s e 2 = (getR (cutT s e 2).1, (cutT s e 2).2.1, (cutT s e 2).2.2) := rfl
  rw [oct_Reader_cut.spec, Option.bind_some, oct_Get.spec, Option.bind_some, oct_Reader_cut.spec, Option.bind_some, e1]
  simp only []
  generalize hc : cutT (cutT s e 2).2.1 (cutT s e 2).2.2 (getR (cutT s e 2).1) = c
  by_cases h : c.2.2 = 0
  · rw [if_pos h, if_pos h]
  · rw [if_neg h, if_neg h]
    have := (cutT_err _ _ _ (by rw [hc]; exact h)).1
    rw [hc] at this
    rw [this]

theorem mosaicref02_Reader_Raw.spec (s : ByteArray) (e n : Int) : mosaicref02_Reader_Raw.f s e n = some ((cutT s e n).2.1, (cutT s e n).2.2, 0, (cutT s e n).1) := by
  unfold mosaicref02_Reader_Raw.f cutT
  by_cases h : e = 0
  · subst h
    rw [if_pos rfl, if_pos rfl]
    by_cases h1 : n < 0
    · rw [if_pos h1, if_pos h1]
    · rw [if_neg h1, if_neg h1]
      by_cases h2 : n > (s.size : Int)
      · rw [if_pos (show (s.size : Int) < n from h2), if_pos h2]
      · rw [if_neg (show ¬ (s.size : Int) < n from h2), if_neg h2, if_pos (by omega), if_pos (by omega)]
  · rw [if_neg h, if_neg h]

theorem mosaicref02_Reader_Text.spec (s : ByteArray) (e : Int) (k : Nat) (hk : 9 ≤ k) : mosaicref02_Reader_Text.f k s e = some ((textT s e).2.1, (textT s e).2.2, 0, (textT s e).1) := by
  unfold mosaicref02_Reader_Text.f textT
  rw [mosaicref02_Reader_Num.spec _ _ _ _ hk, Option.bind_some, mosaicref02_Reader_Raw.spec, Option.bind_some]
  simp only []
  generalize cutT (numT s e 2).2.1 (numT s e 2).2.2 (numT s e 2).1 = c
  by_cases h : c.2.2 = 0
  · rw [if_pos h, if_pos h]
  · rw [if_neg h, if_neg h]

theorem oct_Reader_Raw.spec (s : ByteArray) (e n : Int) : oct_Reader_Raw.f s e n = some (cutT s e n) := by
  unfold oct_Reader_Raw.f
  rw [oct_Reader_cut.spec, Option.bind_some]

theorem oct_Reader_Rest.spec (s : ByteArray) (e : Int) : oct_Reader_Rest.f s e = some (cutT s e (s.size : Int)) := by
  unfold oct_Reader_Rest.f
  rw [oct_Reader_cut.spec, Option.bind_some]

theorem oct_Reader_Left.spec (s : ByteArray) (e : Int) : oct_Reader_Left.f s e = some (leftT s e, s, e) := by
  unfold oct_Reader_Left.f leftT
  by_cases h : e = 0
  · rw [if_pos h, if_pos h]
  · rw [if_neg h, if_neg h]

theorem mosaicref02_Reader_Left.spec (s : ByteArray) (e : Int) : mosaicref02_Reader_Left.f s e = some (leftT s e) := by
  unfold mosaicref02_Reader_Left.f leftT
  by_cases h : e = 0
  · rw [if_pos h, if_pos h]
  · rw [if_neg h, if_neg h]

theorem oct_Reader_End.spec (s : ByteArray) (e : Int) : oct_Reader_End.f s e = some (endT s e, s, e) := by
  unfold oct_Reader_End.f oct_Reader_Err.f endT
  simp only [Option.bind_some]
  by_cases h : e = 0
  · subst h
    rw [if_pos rfl, if_pos rfl]
    by_cases h2 : s.toList = []
    · rw [if_pos h2, if_pos h2]
    · rw [if_neg h2, if_neg h2]
  · rw [if_neg h, if_neg h]

theorem mosaicref02_Reader_End.spec (s : ByteArray) (e : Int) : mosaicref02_Reader_End.f s e = some (endT s e) := by
  unfold mosaicref02_Reader_End.f endT
  by_cases h : e = 0
  · subst h
    rw [if_pos rfl, if_pos rfl]
    by_cases h2 : s.toList = []
    · rw [if_pos h2, if_pos h2]
    · rw [if_neg h2, if_neg h2]
  · rw [if_neg h, if_neg h]
theorem mosaiclaw02_OctReads.same (l : List S37) (i : Nat) (hi : i < 40) (n : Int) (t s : ByteArray) (e : Int) (k : Nat) (hn : mosaiclaw02_OctReads.l0 k l ((i : Int) + 1) s e s e = some true) : mosaiclaw02_OctReads.j3 (k + 1) l (i : Int) n t s e s e n t = some true := by
  simp only [mosaiclaw02_OctReads.j3]
  rw [if_pos trivial, if_pos trivial, oct_Reader_Left.spec, Option.bind_some, mosaicref02_Reader_Left.spec, Option.bind_some, if_pos rfl]
  unfold oct_Reader_Err.f
  rw [Option.bind_some, if_pos rfl, oct_Reader_End.spec, Option.bind_some, mosaicref02_Reader_End.spec, Option.bind_some, if_pos rfl, wrap64_id _ (by omega) (by omega)]
  exact hn
theorem mosaiclaw02_OctReads.loop (l : List S37) (d : Nat) : ∀ (k i : Nat) (s : ByteArray) (e : Int), i + d = 40 → 3 * d + 100 < k → mosaiclaw02_OctReads.l0 k l (i : Int) s e s e = some true := by
  induction d with
  | zero =>
    intro k i s e hi hk
    obtain ⟨k, rfl⟩ : ∃ m, k = m + 1 := ⟨k - 1, by omega⟩
    obtain ⟨k, rfl⟩ : ∃ m, k = m + 1 := ⟨k - 1, by omega⟩
    have : decide ((i : Int) < 40) = false := decide_eq_false (by omega)
    simp only [mosaiclaw02_OctReads.l0]
    rw [this, ite_self]
    simp only [mosaiclaw02_OctReads.j2]
    rfl
  | succ d ih =>
    intro k i s e hi hk
    obtain ⟨k, rfl⟩ : ∃ m, k = m + 1 := ⟨k - 1, by omega⟩
    obtain ⟨k, rfl⟩ : ∃ m, k = m + 1 := ⟨k - 1, by omega⟩
    obtain ⟨k, rfl⟩ : ∃ m, k = m + 1 := ⟨k - 1, by omega⟩
    simp only [mosaiclaw02_OctReads.l0]
    by_cases hlt : (i : Int) < (l.length : Int)
    · rw [if_pos hlt, decide_eq_true (show (i : Int) < 40 by omega)]
      simp only [mosaiclaw02_OctReads.j2]
      rw [if_pos trivial, if_pos (by omega), if_pos hlt]
      have hnext : ∀ s e, mosaiclaw02_OctReads.l0 k l ((i : Int) + 1) s e s e = some true := fun s e => by
        have := ih k (i + 1) s e (by omega) (by omega)
        rw [show ((i + 1 : Nat) : Int) = (i : Int) + 1 by omega] at this
        exact this
      generalize rd_T37 l (i : Int) = x
      by_cases h0 : x.f0 = 0
      · rw [if_pos h0, oct_Reader_Num.spec _ _ _ _ (by omega), Option.bind_some, mosaicref02_Reader_Num.spec _ _ _ _ (by omega), Option.bind_some]
        exact mosaiclaw02_OctReads.same l i (by omega) _ _ _ _ _ (hnext _ _)
      · rw [if_neg h0]
        by_cases h1 : x.f0 = 1
        · rw [if_pos h1, oct_Reader_Text.spec, Option.bind_some, mosaicref02_Reader_Text.spec _ _ _ (by omega), Option.bind_some]
          exact mosaiclaw02_OctReads.same l i (by omega) _ _ _ _ _ (hnext _ _)
        · rw [if_neg h1]
          by_cases h2 : x.f0 = 2
          · rw [if_pos h2, oct_Reader_Raw.spec, Option.bind_some, mosaicref02_Reader_Raw.spec, Option.bind_some]
            exact mosaiclaw02_OctReads.same l i (by omega) _ _ _ _ _ (hnext _ _)
          · rw [if_neg h2]
            by_cases h3 : x.f0 = 3
            · rw [if_pos h3, oct_Reader_Rest.spec, Option.bind_some, mosaicref02_Reader_Raw.spec, Option.bind_some]
              exact mosaiclaw02_OctReads.same l i (by omega) _ _ _ _ _ (hnext _ _)
            · rw [if_neg h3]
              exact mosaiclaw02_OctReads.same l i (by omega) _ _ _ _ _ (hnext _ _)
    · rw [if_neg hlt]
      simp only [mosaiclaw02_OctReads.j2]
      rfl

end Go.Proofs.Ytmebebpnogemdaa.POctReads
namespace Go.Proofs.Ytmebebpnogemdaa.Pure
open Go.RowKit Go.Proofs.Ytmebebpnogemdaa.POctReads Go.Proofs.YtmebebpnogemdaaW.PrintWords Go.Proofs.YtmebebpnogemdaaW.PrintLast Go.Proofs.YtmebebpnogemdaaW.PrintMore Go.Mine
theorem OctReads : mosaiclaw02_OctReads.Pure := by
  intro s l _ _ _
  refine ⟨1000, ?_⟩
  unfold mosaiclaw02_OctReads.f mosaiclaw02_awake.f oct_From.f
  by_cases h : (s.size : Int) > 5000
  · rw [if_pos h]
    rfl
  · rw [if_neg h, Option.bind_some, Option.bind_some, if_pos rfl]
    show mosaiclaw02_OctReads.j0 (999 + 1) l false s 0 s 0 = some true
    simp only [mosaiclaw02_OctReads.j0]
    rw [if_neg (by decide)]
    exact mosaiclaw02_OctReads.loop l 40 999 0 s 0 (by omega) (by omega)
end Go.Proofs.Ytmebebpnogemdaa.Pure
