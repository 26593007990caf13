/- OctBack: for every fields and every bytes behind them, the first thirty fields that may be are read as they were written, field by field, and what is left is what stands behind. No condition. -/
import Derived.Test.YtmebebpnogemdaaPOctBackx5
import Derived.Test.YtmebebpnogemdaaPlainBits
import Derived.Test.YtmebebpnogemdaaPlainBlock
import Derived.Test.YtmebebpnogemdaaPlainOct
import Derived.Test.YtmebebpnogemdaaPlainRead
namespace Go.Proofs.Ytmebebpnogemdaa.POctBack
open Go.RowKit Go.Proofs.YtmebebpnogemdaaW.PrintWords Go.Proofs.YtmebebpnogemdaaW.PrintLast Go.Proofs.YtmebebpnogemdaaW.PrintMore Go.Mine
set_option linter.unusedVariables false
set_option linter.unusedSimpArgs false
theorem oct_Put.loop (n : Nat) (d : Nat) : ∀ (k : Nat) (xs : List Int), d ≤ 7 → d < k → xs.length + d ≤ 100 → oct_Put.l0 k (n : Int) xs ((d : Int) - 1) = some (strOfNums (xs ++ beL n d), 0) := by
  induction d with
  | zero =>
    intro k xs hd hk hx
    obtain ⟨k, rfl⟩ : ∃ m, k = m + 1 := ⟨k - 1, by omega⟩
    simp only [oct_Put.l0]
    rw [if_neg (by omega)]
    simp [beL]
  | succ d ih =>
    intro k xs hd hk hx
    obtain ⟨k, rfl⟩ : ∃ m, k = m + 1 := ⟨k - 1, by omega⟩
    simp only [oct_Put.l0]
    rw [show ((d + 1 : Nat) : Int) - 1 = (d : Int) by omega, wrap64_id (8 * (d : Int)) (by omega) (by omega), wrap64_id ((d : Int) - 1) (by omega) (by omega), if_pos (by omega), if_pos (by omega), if_pos (by omega)]
    have e : shr .i64 (n : Int) (8 * (d : Int)) % 256 = ((n / 256 ^ d % 256 : Nat) : Int) := by
      unfold shr
      rw [show (8 * (d : Int)).toNat = 8 * d by omega, Nat.min_eq_left (by show 8 * d ≤ 64; omega)]
      have h2 : ((2 : Int) ^ (8 * d)) = ((2 ^ (8 * d) : Nat) : Int) := by simp
      rw [h2, p256_two, ← Int.natCast_ediv]
      generalize n / 256 ^ d = q
      omega
    rw [e, ih k (xs ++ [((n / 256 ^ d % 256 : Nat) : Int)]) (by omega) (by omega) (by simp; omega)]
    simp [beL]
theorem oct_Put.spec (n size : Int) (k : Nat) (hn : -9223372036854775808 ≤ n ∧ n ≤ 9223372036854775807) (hk : 10 ≤ k) : oct_Put.f k n size = some (putR n size) := by
  unfold oct_Put.f putR
  obtain ⟨k, rfl⟩ : ∃ m, k = m + 1 := ⟨k - 1, by omega⟩
  by_cases h1 : size < 1
  · rw [if_pos h1]
    simp only [oct_Put.j0]
    rw [if_pos trivial, if_pos (.inl h1)]
  · rw [if_neg h1]
    simp only [oct_Put.j0]
    by_cases h2 : size > 7
    · rw [if_pos (decide_eq_true h2), if_pos (.inr h2)]
    · rw [if_neg (by simpa using h2), if_neg (show ¬ (size < 1 ∨ 7 < size) by omega)]
      by_cases h3 : n < 0
      · rw [if_pos h3, if_pos (.inl h3)]
      · rw [if_neg h3, wrap64_id (8 * size) (by omega) (by omega), wrap64_id (size - 1) (by omega) (by omega), if_pos (by omega)]
        have e : shr .i64 n (8 * size) = ((n.toNat / 256 ^ size.toNat : Nat) : Int) := by
          unfold shr
          rw [show (8 * size).toNat = 8 * size.toNat by omega, Nat.min_eq_left (by show 8 * size.toNat ≤ 64; omega)]
          have h2 : ((2 : Int) ^ (8 * size.toNat)) = ((2 ^ (8 * size.toNat) : Nat) : Int) := by simp
          rw [h2, p256_two]
          obtain ⟨m, rfl⟩ := Int.eq_ofNat_of_zero_le (show 0 ≤ n by omega)
          rfl
        rw [e]
        have hp := p256_pos size.toNat
        by_cases h4 : n.toNat < 256 ^ size.toNat
        · rw [if_pos (by rw [Nat.div_eq_of_lt h4]; rfl), if_neg (by omega)]
          have := oct_Put.loop n.toNat size.toNat k [] (by omega) (by omega) (by simp; omega)
          rw [show ((n.toNat : Nat) : Int) = n by omega, show ((size.toNat : Nat) : Int) - 1 = size - 1 by omega] at this
          rw [this]
          rfl
        · have h5 : 1 ≤ n.toNat / 256 ^ size.toNat := (Nat.le_div_iff_mul_le hp).2 (by omega)
          rw [if_neg (by omega), if_pos (by omega)]

theorem oct_Get.go_spec (l : List UInt8) : ∀ (a j : Nat), a < 256 ^ j → j + l.length ≤ 7 → oct_Get.go l (a : Int) = ((valL l a : Nat) : Int) := by
  induction l with
  | nil => intro a j _ _; rw [oct_Get.go_nil, valL_nil]
  | cons c l ih =>
    intro a j ha hj
    have hc := c.toNat_lt
    rw [List.length_cons] at hj
    have h7 := p256_le7 (j + 1) (by omega)
    have h1 : 256 * a + c.toNat < 256 ^ (j + 1) := by rw [p256_succ]; omega
    have h2 := ih _ (j + 1) h1 (by omega)
    have h3 := get_step a c.toNat hc (Nat.lt_of_lt_of_le h1 h7)
    rw [oct_Get.go_cons, valL_cons, h3, h2]
theorem oct_Get.spec (s : ByteArray) : oct_Get.f s = some (getR s) := by
  unfold oct_Get.f getR
  by_cases h : s.size > 7
  · rw [if_pos h, if_pos h]
  · rw [if_neg h, if_neg h]
    have := oct_Get.go_spec s.data.toList 0 0 (by decide) (by rw [len_data]; omega)
    rw [show ((0 : Nat) : Int) = 0 from rfl] at this
    rw [this]

theorem oct_Reader_cut.spec (s : ByteArray) (e n : Int) : oct_Reader_cut.f s e n = some (cutT s e n) := by
  unfold oct_Reader_cut.f cutT
  by_cases h : e = 0
  · subst h
    rw [if_pos rfl, if_pos rfl]
    by_cases h1 : n < 0
    · rw [if_pos h1, if_pos h1]
    · rw [if_neg h1, if_neg h1]
      by_cases h2 : n > (s.size : Int)
      · rw [if_pos h2, if_pos h2]
      · rw [if_neg h2, if_neg h2, if_pos (by omega), if_pos (by omega)]
  · rw [if_neg h, if_neg h]

theorem oct_Reader_Num.spec (s : ByteArray) (e n : Int) (k : Nat) (hk : 1 ≤ k) : oct_Reader_Num.f k s e n = some (numT s e n) := by
  obtain ⟨k, rfl⟩ : ∃ m, k = m + 1 := ⟨k - 1, by omega⟩
  unfold oct_Reader_Num.f numT
  by_cases h : 1 ≤ n ∧ n ≤ 7
  · rw [if_neg (by omega), decide_eq_false (by omega)]
    simp only [oct_Reader_Num.j0]
    rw [if_neg (by decide), oct_Reader_cut.spec, Option.bind_some, oct_Get.spec, Option.bind_some, if_pos h]
  · have : (if n < 1 then oct_Reader_Num.j0 (k + 1) n true s e else oct_Reader_Num.j0 (k + 1) n (decide (n > 7)) s e) = oct_Reader_Num.j0 (k + 1) n true s e := by
      by_cases h1 : n < 1
      · rw [if_pos h1]
      · rw [if_neg h1, decide_eq_true (by omega)]
    rw [this]
    simp only [oct_Reader_Num.j0]
    rw [if_pos trivial, oct_Reader_cut.spec, Option.bind_some, oct_Get.spec, Option.bind_some, if_neg h]

theorem oct_Reader_Text.spec (s : ByteArray) (e : Int) : oct_Reader_Text.f s e = some (textT s e) := by
  unfold oct_Reader_Text.f textT
  have e1 : numT s e 2 = (getR (cutT s e 2).1, (cutT s e 2).2.1, (cutT s e 2).2.2) := rfl
  rw [oct_Reader_cut.spec, Option.bind_some, oct_Get.spec, Option.bind_some, oct_Reader_cut.spec, Option.bind_some, e1]
  simp only []
  generalize hc : cutT (cutT s e 2).2.1 (cutT s e 2).2.2 (getR (cutT s e 2).1) = c
  by_cases h : c.2.2 = 0
  · rw [if_pos h, if_pos h]
  · rw [if_neg h, if_neg h]
    have := (cutT_err _ _ _ (by rw [hc]; exact h)).1
    rw [hc] at this
    rw [this]

theorem oct_Reader_Raw.spec (s : ByteArray) (e n : Int) : oct_Reader_Raw.f s e n = some (cutT s e n) := by
  unfold oct_Reader_Raw.f
  rw [oct_Reader_cut.spec, Option.bind_some]

theorem oct_Reader_Rest.spec (s : ByteArray) (e : Int) : oct_Reader_Rest.f s e = some (cutT s e (s.size : Int)) := by
  unfold oct_Reader_Rest.f
  rw [oct_Reader_cut.spec, Option.bind_some]

theorem oct_Reader_Left.spec (s : ByteArray) (e : Int) : oct_Reader_Left.f s e = some (leftT s e, s, e) := by
  unfold oct_Reader_Left.f leftT
  by_cases h : e = 0
  · rw [if_pos h, if_pos h]
  · rw [if_neg h, if_neg h]

theorem oct_Reader_End.spec (s : ByteArray) (e : Int) : oct_Reader_End.f s e = some (endT s e, s, e) := by
  unfold oct_Reader_End.f oct_Reader_Err.f endT
  simp only [Option.bind_some]
  by_cases h : e = 0
  · subst h
    rw [if_pos rfl, if_pos rfl]
    by_cases h2 : s.toList = []
    · rw [if_pos h2, if_pos h2]
    · rw [if_neg h2, if_neg h2]
  · rw [if_neg h, if_neg h]
theorem ba_append_assoc (a b c : ByteArray) : (a ++ b) ++ c = a ++ (b ++ c) := by
  apply ByteArray.ext
  simp [ByteArray.data_append, Array.append_assoc]
theorem ba_take (a b : ByteArray) : (a ++ b).extract 0 a.size = a := by
  apply ByteArray.ext
  rw [ByteArray.data_extract, ByteArray.data_append]
  show (a.data ++ b.data).extract 0 a.data.size = a.data
  simp
theorem ba_drop (a b : ByteArray) : (a ++ b).extract a.size (a ++ b).size = b := by
  apply ByteArray.ext
  rw [ByteArray.data_extract, ByteArray.size_append, ByteArray.data_append]
  show (a.data ++ b.data).extract a.data.size (a.data.size + b.data.size) = b.data
  rw [Array.extract_append, Nat.sub_self, Nat.add_sub_cancel_left, Array.extract_size, Array.extract_empty_of_size_le_start (by omega)]
  simp
theorem cut_app (a b : ByteArray) (n : Int) (hn : n = (a.size : Int)) : cutT (a ++ b) 0 n = (a, b, 0) := by
  subst hn
  have h := ByteArray.size_append (a := a) (b := b)
  unfold cutT
  rw [if_pos rfl, if_neg (by omega), if_neg (by omega), Int.toNat_natCast, ba_take, ba_drop]
theorem num_app (n k : Nat) (b : ByteArray) (h1 : 1 ≤ k) (h7 : k ≤ 7) (hn : n < 256 ^ k) : numT (numS n k ++ b) 0 (k : Int) = ((n : Int), b, 0) := by
  unfold numT
  rw [if_pos ⟨by omega, by omega⟩, cut_app _ _ _ (by rw [numS_size]), getR_numS n k h7 hn]
theorem text_app (t b : ByteArray) (ht : t.size ≤ 65535) : textT ((numS t.size 2 ++ t) ++ b) 0 = (t, b, 0) := by
  unfold textT
  rw [ba_append_assoc]
  have h2 : numT (numS t.size 2 ++ (t ++ b)) 0 2 = ((t.size : Int), t ++ b, 0) := num_app t.size 2 (t ++ b) (by decide) (by decide) (by omega)
  rw [h2]
  simp only
  rw [cut_app _ _ _ rfl]
  rfl
theorem mosaiclaw02_OctBack.rgo_append (k : Nat) (l m : List S37) : ∀ q, mosaiclaw02_OctBack.rgo k (l ++ m) q = (mosaiclaw02_OctBack.rgo k l q).bind fun q => mosaiclaw02_OctBack.rgo k m q := by
  induction l with
  | nil => intro q; rfl
  | cons x l ih =>
    intro q
    rw [List.cons_append, mosaiclaw02_OctBack.rgo, mosaiclaw02_OctBack.rgo, Option.bind_assoc]
    congr 1
    funext q2
    exact ih q2
def mosaiclaw02_OctBack.Good (k : Nat) (s : ByteArray) (l : List S37) : Prop := ∀ rest, mosaiclaw02_OctBack.rgo k l (s ++ rest) = some rest
theorem mosaiclaw02_OctBack.good_step (k : Nat) (s t : ByteArray) (l : List S37) (x : S37) (h : mosaiclaw02_OctBack.Good k s l) (hx : ∀ rest, mosaiclaw02_OctBack.rstep k x (t ++ rest) = some rest) : mosaiclaw02_OctBack.Good k (s ++ t) (l ++ [x]) := by
  intro rest
  rw [mosaiclaw02_OctBack.rgo_append, ba_append_assoc, h, Option.bind_some, mosaiclaw02_OctBack.rgo, hx, Option.bind_some]
  rfl
theorem mosaiclaw02_OctBack.stepok (x : S37) (s : ByteArray) (l : List S37) (hg : mosaiclaw02_OctBack.Good 100 s l) (hs : s.size ≤ 20000) (h1 : (Lit.int .i64 x.f1).wf = true) :
    ∃ r, mosaiclaw02_OctBack.step 100 x s l = some r ∧ mosaiclaw02_OctBack.Good 100 r.1 r.2 ∧ r.1.size ≤ s.size + 310 ∧ r.2.length ≤ l.length + 1 := by
  unfold mosaiclaw02_OctBack.step
  by_cases hx : (x.f3.size : Int) > 300 ∨ x.f0 < 0 ∨ x.f0 > 2
  · rw [if_pos hx]
    exact ⟨_, rfl, hg, by simp only; omega, by simp only; omega⟩
  rw [if_neg hx]
  have hxs : x.f3.size ≤ 300 := by omega
  by_cases h0 : x.f0 = 0
  · have hz := putR_size x.f1 x.f2
    rw [if_pos h0, oct_Put.spec _ _ _ (wf_i64 h1) (by omega), Option.bind_some]
    by_cases he : (putR x.f1 x.f2).2 = 0
    · rw [if_pos he, if_pos ⟨by omega, by omega⟩]
      refine ⟨_, rfl, mosaiclaw02_OctBack.good_step 100 _ _ _ _ hg fun rest => ?_, by simp only; rw [ByteArray.size_append]; omega, by simp⟩
      unfold mosaiclaw02_OctBack.rstep
      rw [if_pos h0, oct_Reader_Num.spec _ _ _ _ (by omega), Option.bind_some]
      obtain ⟨n, m, hn, hm, h1', h7', hlt, hp⟩ : ∃ n m : Nat, x.f1 = n ∧ x.f2 = m ∧ 1 ≤ m ∧ m ≤ 7 ∧ n < 256 ^ m ∧ (putR x.f1 x.f2).1 = numS n m := by
        unfold putR at he ⊢
        by_cases q1 : x.f2 < 1 ∨ x.f2 > 7
        · rw [if_pos q1] at he; cases he
        rw [if_neg q1] at he ⊢
        split at he
        · cases he
        rename_i q2
        rw [if_neg q2]
        refine ⟨x.f1.toNat, x.f2.toNat, by omega, by omega, by omega, by omega, ?_, rfl⟩
        omega
      rw [hp, hn, hm, num_app n m rest h1' h7' hlt, if_pos ⟨rfl, rfl⟩]
    · rw [if_neg he]
      exact ⟨_, rfl, hg, by simp only; omega, by simp only; omega⟩
  rw [if_neg h0]
  by_cases h2 : x.f0 = 1
  · have hz := putR_size (x.f3.size : Int) 2
    have hput : putR (x.f3.size : Int) 2 = (numS x.f3.size 2, 0) := by
      unfold putR
      rw [if_neg (by omega), if_neg (by
        rw [show ((256 ^ (2 : Int).toNat : Nat) : Int) = 65536 from rfl]
        omega)]
      rfl
    rw [if_pos h2, oct_Put.spec _ _ _ (by omega) (by omega), Option.bind_some, hput]
    have hsz := numS_size x.f3.size 2
    rw [if_pos ⟨by simp only; omega, by simp only; rw [ByteArray.size_append]; omega⟩]
    refine ⟨_, rfl, mosaiclaw02_OctBack.good_step 100 _ _ _ _ hg fun rest => ?_, by simp only; rw [ByteArray.size_append, ByteArray.size_append]; omega, by simp⟩
    unfold mosaiclaw02_OctBack.rstep
    rw [if_neg h0, if_pos h2, oct_Reader_Text.spec, Option.bind_some]
    simp only
    rw [text_app _ _ (by omega), if_pos ⟨rfl, rfl⟩]
  rw [if_neg h2, if_pos (by omega)]
  refine ⟨_, rfl, mosaiclaw02_OctBack.good_step 100 _ _ _ _ hg fun rest => ?_, by simp only; rw [ByteArray.size_append]; omega, by simp⟩
  unfold mosaiclaw02_OctBack.rstep
  rw [if_neg h0, if_neg h2, if_pos (by omega), oct_Reader_Raw.spec, Option.bind_some, cut_app _ _ _ rfl, if_pos ⟨rfl, rfl⟩]
theorem mosaiclaw02_OctBack.all (l0 : List S37) (hl : ∀ y ∈ l0, (Lit.int .i64 y.f1).wf = true) (d : Nat) : ∀ (i : Nat) (s : ByteArray) (l : List S37), i + d = 30 → mosaiclaw02_OctBack.Good 100 s l → s.size ≤ 310 * i → l.length ≤ i →
    ∃ r, mosaiclaw02_OctBack.go 100 l0 d i s l = some r ∧ mosaiclaw02_OctBack.Good 100 r.1 r.2 ∧ r.1.size ≤ 9300 ∧ r.2.length ≤ 30 := by
  induction d with
  | zero =>
    intro i s l hi hg hs hn
    rw [mosaiclaw02_OctBack.go, if_neg (by omega)]
    exact ⟨_, rfl, hg, by simp only; omega, by simp only; omega⟩
  | succ d ih =>
    intro i s l hi hg hs hn
    rw [mosaiclaw02_OctBack.go]
    by_cases h : i < l0.length ∧ i < 30
    · rw [if_pos h]
      have e1 : rd_T37 l0 (i : Int) = l0[i] := by simp [rd_T37, h.1]
      obtain ⟨r, hr, hg2, hz, hn2⟩ := mosaiclaw02_OctBack.stepok l0[i] s l hg (by omega) (hl _ (List.getElem_mem _))
      rw [e1, hr, Option.bind_some]
      exact ih (i + 1) r.1 r.2 (by omega) hg2 (by omega) (by omega)
    · rw [if_neg h]
      exact ⟨_, rfl, hg, by simp only; omega, by simp only; omega⟩

end Go.Proofs.Ytmebebpnogemdaa.POctBack
namespace Go.Proofs.Ytmebebpnogemdaa.Pure
open Go.RowKit Go.Proofs.Ytmebebpnogemdaa.POctBack Go.Proofs.YtmebebpnogemdaaW.PrintWords Go.Proofs.YtmebebpnogemdaaW.PrintLast Go.Proofs.YtmebebpnogemdaaW.PrintMore Go.Mine
theorem OctBack : mosaiclaw02_OctBack.Pure := by
  intro l a1 _ hl _
  refine ⟨100, ?_⟩
  unfold mosaiclaw02_OctBack.f
  by_cases hA : (a1.size : Int) > 2000
  · rw [if_pos hA]
  rw [if_neg hA]
  obtain ⟨r, hr, hg, hs, hn⟩ := mosaiclaw02_OctBack.all l (fun y hy => (hl y hy).2.1) 30 0 ⟨#[]⟩ [] (by omega) (fun rest => by
    rw [mosaiclaw02_OctBack.rgo]
    congr 1
    try (apply ByteArray.ext; simp)) (by decide) (by decide)
  rw [hr, Option.bind_some, if_pos ⟨by omega, by omega⟩, hg a1, Option.bind_some, if_pos]
  refine ⟨rfl, ?_, by rw [oct_Reader_End.spec]; unfold endT; rw [if_pos rfl, if_pos (by rw [Go.ByteArray.toList_eq])]⟩
  rw [oct_Reader_Rest.spec]
  have h := cut_app a1 ⟨#[]⟩ (a1.size : Int) rfl
  have h2 : a1 ++ (⟨#[]⟩ : ByteArray) = a1 := by apply ByteArray.ext; simp
  rw [h2] at h
  rw [h]
end Go.Proofs.Ytmebebpnogemdaa.Pure
