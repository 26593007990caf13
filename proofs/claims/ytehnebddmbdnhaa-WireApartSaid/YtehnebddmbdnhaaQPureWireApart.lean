/- WireApart: two messages that may be have the same bytes just if they are the same, and no message's bytes are the beginning of another one's. No condition. -/
import Derived.Test.YtehnebddmbdnhaaTWireAparta
import Derived.Test.YtehnebddmbdnhaaQWireApartx7
import Derived.Laws.BitsAllLaws
import Derived.Lib.Repeat
import Derived.Laws.BitsLemmas
namespace Go.Mine
open Go Go.RowKit Go.Proofs.YtehnebddmbdnhaaW.PrintWords Go.Proofs.YtehnebddmbdnhaaW.PrintLast Go.Proofs.YtehnebddmbdnhaaW.PrintMore
theorem wrap64_id (n : Int) (h1 : -9223372036854775808 ≤ n) (h2 : n ≤ 9223372036854775807) : wrap64 n = n := by
  unfold wrap64
  omega
theorem tdiv_pos (a b : Int) (h : 0 ≤ a) : Int.tdiv a b = a / b := Int.tdiv_eq_ediv_of_nonneg h
def nb (s : ByteArray) (j : Nat) : Nat := (s.data.toList.getD j 0).toNat
theorem len_data (s : ByteArray) : s.data.toList.length = s.size := by rw [Array.length_toList]; rfl
def hb (s : ByteArray) (i : Nat) : Bool := (nb s (i / 8)).testBit (i % 8)
theorem strOfNums_size' (xs : List Int) : (strOfNums xs).size = xs.length := strOfNums_size xs
end Go.Mine
namespace Go.Mine
open Go Go.RowKit Go.Proofs.YtehnebddmbdnhaaW.PrintWords Go.Proofs.YtehnebddmbdnhaaW.PrintLast Go.Proofs.YtehnebddmbdnhaaW.PrintMore
set_option linter.unusedVariables false
def blkL (s : ByteArray) (z j m : Nat) : List Int := (List.range m).map fun t => ((nb s (j * z + t) : Nat) : Int)
def blk (s : ByteArray) (z j : Nat) : ByteArray := strOfNums (blkL s z j z)
def cntN (n z : Nat) : Nat := (n + z - 1) / z
theorem cntN_le (n z : Nat) (hz : 1 ≤ z) : cntN n z ≤ n + z - 1 := Nat.div_le_self _ _
def cntI (n z : Int) : Int := if 1 ≤ n ∧ n ≤ 4096 ∧ 1 ≤ z ∧ z ≤ 64 ∧ cntN n.toNat z.toNat ≤ 96 then (cntN n.toNat z.toNat : Int) else 0
theorem toList_inj {a b : ByteArray} (h : a.toList = b.toList) : a = b := by
  rw [Go.ByteArray.toList_eq, Go.ByteArray.toList_eq] at h
  cases a; cases b
  simpa using h
end Go.Mine
namespace Go.Mine
open Go Go.RowKit Go.Proofs.YtehnebddmbdnhaaW.PrintWords Go.Proofs.YtehnebddmbdnhaaW.PrintLast Go.Proofs.YtehnebddmbdnhaaW.PrintMore
set_option linter.unusedSimpArgs false
set_option linter.unusedVariables false
def beL (n : Nat) : Nat → List Int
  | 0 => []
  | k + 1 => ((n / 256 ^ k % 256 : Nat) : Int) :: beL n k
theorem beL_length (n k : Nat) : (beL n k).length = k := by
  induction k with
  | zero => rfl
  | succ k ih => simp [beL, ih]
def numS (n k : Nat) : ByteArray := strOfNums (beL n k)
theorem numS_size (n k : Nat) : (numS n k).size = k := by rw [numS, strOfNums_size', beL_length]
theorem p256_pos (k : Nat) : 0 < 256 ^ k := Nat.pow_pos (by decide)
theorem p256_succ (k : Nat) : 256 ^ (k + 1) = 256 * 256 ^ k := by rw [Nat.pow_succ, Nat.mul_comm]
theorem p256_two (k : Nat) : 2 ^ (8 * k) = 256 ^ k := by rw [Nat.pow_mul]
theorem p256_le7 (k : Nat) (h : k ≤ 7) : 256 ^ k ≤ 72057594037927936 := Nat.le_trans (Nat.pow_le_pow_right (by decide) h) (by decide)
def putR (n size : Int) : ByteArray × Int :=
  if size < 1 ∨ 7 < size then (⟨#[]⟩, 1) else if n < 0 ∨ ((256 ^ size.toNat : Nat) : Int) ≤ n then (⟨#[]⟩, 8) else (numS n.toNat size.toNat, 0)
def valL : List UInt8 → Nat → Nat
  | [], a => a
  | c :: l, a => valL l (256 * a + c.toNat)
theorem valL_nil (a : Nat) : valL [] a = a := rfl
theorem valL_cons (c : UInt8) (l : List UInt8) (a : Nat) : valL (c :: l) a = valL l (256 * a + c.toNat) := rfl
def getR (s : ByteArray) : Int := if s.size > 7 then 0 else ((valL s.data.toList 0 : Nat) : Int)
theorem i64_or_nat (a b : Nat) (ha : a < 9223372036854775808) (hb : b < 9223372036854775808) : Go.bits .or .i64 (a : Int) (b : Int) = ((a ||| b : Nat) : Int) :=
  (bits_nat .i64 63 (by decide) (fun n h0 h1 => by rw [IntKind.wrap_i64]; omega) a b ha hb).2
theorem or_low (n c : Nat) (hc : c < 256) : (n * 256) ||| c = n * 256 + c := by
  have := Nat.two_pow_add_eq_or_of_lt (i := 8) (b := c) hc n
  rw [show (2 : Nat) ^ 8 * n = n * 256 by rw [Nat.mul_comm]] at this
  exact this.symm
theorem get_step (a c : Nat) (hc : c < 256) (ha : 256 * a + c < 72057594037927936) : Go.bits .or .i64 (wrap64 ((a : Int) * 256)) (wrap64 (c : Int)) = ((256 * a + c : Nat) : Int) := by
  have e1 : wrap64 ((a : Int) * 256) = ((a * 256 : Nat) : Int) := by
    rw [wrap64_id _ (by omega) (by omega)]
    omega
  have e2 : wrap64 (c : Int) = (c : Int) := wrap64_id _ (by omega) (by omega)
  have e3 := i64_or_nat (a * 256) c (by omega) (by omega)
  rw [or_low _ _ hc] at e3
  rw [e1, e2, e3]
  omega
theorem ofNat_toNat (x : Nat) (h : x < 256) : (UInt8.ofNat x).toNat = x := by simp; omega
theorem valL_be (n : Nat) (k : Nat) : ∀ a, valL ((beL n k).map fun x => UInt8.ofNat x.toNat) a = a * 256 ^ k + n % 256 ^ k := by
  induction k with
  | zero => intro a; simp [beL, valL, Nat.mod_one]
  | succ k ih =>
    intro a
    have hb : n / 256 ^ k % 256 < 256 := Nat.mod_lt _ (by decide)
    simp only [beL, List.map_cons, valL, Int.toNat_natCast]
    rw [ofNat_toNat _ hb, ih, p256_succ, Nat.mul_comm 256 (256 ^ k), Nat.mod_mul]
    rw [Nat.add_mul, Nat.mul_comm 256 a, Nat.mul_assoc, Nat.mul_comm 256 (256 ^ k), Nat.mul_comm (n / 256 ^ k % 256)]
    omega
theorem numS_data (n k : Nat) : (numS n k).data.toList = (beL n k).map fun x => UInt8.ofNat x.toNat := strOfNums_data _
theorem getR_numS (n k : Nat) (hk : k ≤ 7) (hn : n < 256 ^ k) : getR (numS n k) = (n : Int) := by
  unfold getR
  rw [if_neg (by rw [numS_size]; omega), numS_data, valL_be, Nat.zero_mul, Nat.zero_add, Nat.mod_eq_of_lt hn]
end Go.Mine
namespace Go.Mine
open Go Go.RowKit Go.Proofs.YtehnebddmbdnhaaW.PrintWords Go.Proofs.YtehnebddmbdnhaaW.PrintLast Go.Proofs.YtehnebddmbdnhaaW.PrintMore
set_option linter.unusedVariables false
def cutT (s : ByteArray) (e n : Int) : ByteArray × ByteArray × Int :=
  if e = 0 then (if n < 0 then (⟨#[]⟩, s, 1) else if n > (s.size : Int) then (⟨#[]⟩, s, 7) else (s.extract 0 n.toNat, s.extract n.toNat s.size, 0)) else (⟨#[]⟩, s, e)
def numT (s : ByteArray) (e n : Int) : Int × ByteArray × Int :=
  (getR (cutT s e (if 1 ≤ n ∧ n ≤ 7 then n else -1)).1, (cutT s e (if 1 ≤ n ∧ n ≤ 7 then n else -1)).2.1, (cutT s e (if 1 ≤ n ∧ n ≤ 7 then n else -1)).2.2)
def textT (s : ByteArray) (e : Int) : ByteArray × ByteArray × Int :=
  if (cutT (numT s e 2).2.1 (numT s e 2).2.2 (numT s e 2).1).2.2 = 0 then cutT (numT s e 2).2.1 (numT s e 2).2.2 (numT s e 2).1
  else (⟨#[]⟩, s, (cutT (numT s e 2).2.1 (numT s e 2).2.2 (numT s e 2).1).2.2)
def endT (s : ByteArray) (e : Int) : Int := if e = 0 then (if s.toList = [] then 0 else 3) else e
theorem cutT_err (s : ByteArray) (e n : Int) (h : (cutT s e n).2.2 ≠ 0) : (cutT s e n).1 = ⟨#[]⟩ ∧ (cutT s e n).2.1 = s := by
  unfold cutT at h ⊢
  split
  · split
    · exact ⟨rfl, rfl⟩
    · split
      · exact ⟨rfl, rfl⟩
      · rename_i h1 h2 h3
        rw [if_pos h1, if_neg h2, if_neg h3] at h
        exact absurd rfl h
  · exact ⟨rfl, rfl⟩
end Go.Mine
namespace Go.Mine
open Go Go.RowKit Go.Proofs.YtehnebddmbdnhaaW.PrintWords Go.Proofs.YtehnebddmbdnhaaW.PrintLast Go.Proofs.YtehnebddmbdnhaaW.PrintMore
set_option linter.unusedVariables false
theorem ba_append_assoc (a b c : ByteArray) : (a ++ b) ++ c = a ++ (b ++ c) := by
  apply ByteArray.ext
  simp [ByteArray.data_append, Array.append_assoc]
theorem ba_append_nil (a : ByteArray) : a ++ (⟨#[]⟩ : ByteArray) = a := by
  apply ByteArray.ext
  simp [ByteArray.data_append]
theorem ba_nil_append (a : ByteArray) : (⟨#[]⟩ : ByteArray) ++ a = a := by
  apply ByteArray.ext
  simp [ByteArray.data_append]
theorem ba_take (a b : ByteArray) : (a ++ b).extract 0 a.size = a := by
  apply ByteArray.ext
  rw [ByteArray.data_extract, ByteArray.data_append]
  show (a.data ++ b.data).extract 0 a.data.size = a.data
  simp
theorem ba_drop (a b : ByteArray) : (a ++ b).extract a.size (a ++ b).size = b := by
  apply ByteArray.ext
  rw [ByteArray.data_extract, ByteArray.size_append, ByteArray.data_append]
  show (a.data ++ b.data).extract a.data.size (a.data.size + b.data.size) = b.data
  rw [Array.extract_append, Nat.sub_self, Nat.add_sub_cancel_left, Array.extract_size, Array.extract_empty_of_size_le_start (by omega)]
  simp
theorem ba_toList_inj {a b : ByteArray} (h : a.toList = b.toList) : a = b := by
  rw [Go.ByteArray.toList_eq, Go.ByteArray.toList_eq] at h
  apply ByteArray.ext
  exact Array.toList_inj.1 h
theorem cut_app (a b : ByteArray) (n : Int) (hn : n = (a.size : Int)) : cutT (a ++ b) 0 n = (a, b, 0) := by
  subst hn
  have h := ByteArray.size_append (a := a) (b := b)
  unfold cutT
  rw [if_pos rfl, if_neg (by omega), if_neg (by omega), Int.toNat_natCast, ba_take, ba_drop]
theorem cut_all (a : ByteArray) : cutT a 0 (a.size : Int) = (a, ⟨#[]⟩, 0) := by
  have h := cut_app a ⟨#[]⟩ (a.size : Int) rfl
  rwa [ba_append_nil] at h
theorem num_app (n k : Nat) (b : ByteArray) (h1 : 1 ≤ k) (h7 : k ≤ 7) (hn : n < 256 ^ k) : numT (numS n k ++ b) 0 (k : Int) = ((n : Int), b, 0) := by
  unfold numT
  rw [if_pos ⟨by omega, by omega⟩, cut_app _ _ _ (by rw [numS_size]), getR_numS n k h7 hn]
theorem num_appI (x : Int) (k : Nat) (b : ByteArray) (h1 : 1 ≤ k) (h7 : k ≤ 7) (h0 : 0 ≤ x) (hn : x < ((256 ^ k : Nat) : Int)) : numT (numS x.toNat k ++ b) 0 (k : Int) = (x, b, 0) := by
  obtain ⟨m, rfl⟩ : ∃ m : Nat, x = (m : Int) := ⟨x.toNat, by omega⟩
  rw [Int.toNat_natCast]
  exact num_app m k b h1 h7 (by omega)
theorem text_app (t b : ByteArray) (ht : t.size ≤ 65535) : textT ((numS t.size 2 ++ t) ++ b) 0 = (t, b, 0) := by
  unfold textT
  rw [ba_append_assoc]
  have h2 : numT (numS t.size 2 ++ (t ++ b)) 0 2 = ((t.size : Int), t ++ b, 0) := num_app t.size 2 (t ++ b) (by decide) (by decide) (by omega)
  rw [h2]
  simp only
  rw [cut_app _ _ _ rfl]
  rfl
theorem putR_ok (x : Int) (k : Nat) (h1 : 1 ≤ k) (h7 : k ≤ 7) (h0 : 0 ≤ x) (hn : x < ((256 ^ k : Nat) : Int)) : putR x (k : Int) = (numS x.toNat k, 0) := by
  unfold putR
  rw [if_neg (by omega), Int.toNat_natCast, if_neg (by omega)]
def catS : List ByteArray → ByteArray
  | [] => ⟨#[]⟩
  | t :: l => t ++ catS l
theorem catS_size (l : List ByteArray) (h : ∀ t ∈ l, t.size = 32) : (catS l).size = 32 * l.length := by
  induction l with
  | nil => rfl
  | cons t l ih =>
    have ht := h t (by simp)
    have h2 := ih (fun x hx => h x (by simp [hx]))
    rw [catS, ByteArray.size_append, List.length_cons, h2, ht]
    omega
end Go.Mine
namespace Go.Proofs.Ytehnebddmbdnhaa.PWireApart
open Go.RowKit Go.Proofs.YtehnebddmbdnhaaW.PrintWords Go.Proofs.YtehnebddmbdnhaaW.PrintLast Go.Proofs.YtehnebddmbdnhaaW.PrintMore Go.Mine
set_option linter.unusedVariables false
set_option linter.unusedSimpArgs false
theorem mosaiclaw16_Few.loop (a0_0 : Int) (a0_1 : Int) (a0_2 : Int) (a0_3 : ByteArray) (a0_4 : ByteArray) (a0_5 : Bool) (a0_6 : Int) (a0_7 : Int) (a0_8 : ByteArray) (a0_9 : ByteArray) (a0_10 : Int) (a0_11 : ByteArray) (l0_12 : List ByteArray) (a0_13 : Int) (a0_14 : Int) (a0_15 : Int) (a0_16 : Int) (a0_17 : Int) (a0_18 : Int) (a0_19 : Int) (a0_20 : ByteArray) (hl : l0_12.length ≤ 12) (d : Nat) : ∀ (i k : Nat), i + d = l0_12.length → d < k → ∃ r, mosaiclaw16_Few.l0 k (i : Int) a0_0 a0_1 a0_2 a0_3 a0_4 a0_5 a0_6 a0_7 a0_8 a0_9 a0_10 a0_11 l0_12 a0_13 a0_14 a0_15 a0_16 a0_17 a0_18 a0_19 a0_20 = some r := by
  induction d with
  | zero =>
    intro i k hi hk
    obtain ⟨k, rfl⟩ : ∃ m, k = m + 1 := ⟨k - 1, by omega⟩
    rw [mosaiclaw16_Few.l0, if_neg (by omega)]
    exact ⟨_, rfl⟩
  | succ d ih =>
    intro i k hi hk
    obtain ⟨k, rfl⟩ : ∃ m, k = m + 1 := ⟨k - 1, by omega⟩
    rw [mosaiclaw16_Few.l0, if_pos (by omega), if_pos (by omega)]
    split
    · exact ⟨_, rfl⟩
    · rw [wrap64_id _ (by omega) (by omega)]
      exact ih (i + 1) k (by omega) (by omega)
theorem mosaiclaw16_Few.jt (k : Nat) (hk : 1 ≤ k) (a0_0 : Int) (a0_1 : Int) (a0_2 : Int) (a0_3 : ByteArray) (a0_4 : ByteArray) (a0_5 : Bool) (a0_6 : Int) (a0_7 : Int) (a0_8 : ByteArray) (a0_9 : ByteArray) (a0_10 : Int) (a0_11 : ByteArray) (l0_12 : List ByteArray) (a0_13 : Int) (a0_14 : Int) (a0_15 : Int) (a0_16 : Int) (a0_17 : Int) (a0_18 : Int) (a0_19 : Int) (a0_20 : ByteArray) : mosaiclaw16_Few.j0 k true a0_0 a0_1 a0_2 a0_3 a0_4 a0_5 a0_6 a0_7 a0_8 a0_9 a0_10 a0_11 l0_12 a0_13 a0_14 a0_15 a0_16 a0_17 a0_18 a0_19 a0_20 = some false := by
  obtain ⟨k, rfl⟩ : ∃ m, k = m + 1 := ⟨k - 1, by omega⟩
  simp only [mosaiclaw16_Few.j0]
  rw [if_pos trivial]
theorem mosaiclaw16_Few.tot (k : Nat) (a0_0 : Int) (a0_1 : Int) (a0_2 : Int) (a0_3 : ByteArray) (a0_4 : ByteArray) (a0_5 : Bool) (a0_6 : Int) (a0_7 : Int) (a0_8 : ByteArray) (a0_9 : ByteArray) (a0_10 : Int) (a0_11 : ByteArray) (l0_12 : List ByteArray) (a0_13 : Int) (a0_14 : Int) (a0_15 : Int) (a0_16 : Int) (a0_17 : Int) (a0_18 : Int) (a0_19 : Int) (a0_20 : ByteArray) (hk : 100 ≤ k) : ∃ r, mosaiclaw16_Few.f k a0_0 a0_1 a0_2 a0_3 a0_4 a0_5 a0_6 a0_7 a0_8 a0_9 a0_10 a0_11 l0_12 a0_13 a0_14 a0_15 a0_16 a0_17 a0_18 a0_19 a0_20 = some r ∧ (r = true → l0_12.length ≤ 12) := by
  have ht := mosaiclaw16_Few.jt k (by omega) a0_0 a0_1 a0_2 a0_3 a0_4 a0_5 a0_6 a0_7 a0_8 a0_9 a0_10 a0_11 l0_12 a0_13 a0_14 a0_15 a0_16 a0_17 a0_18 a0_19 a0_20
  unfold mosaiclaw16_Few.f
  rw [ht]
  split
  · exact ⟨_, rfl, by simp⟩
  split
  · exact ⟨_, rfl, by simp⟩
  split
  · exact ⟨_, rfl, by simp⟩
  split
  · exact ⟨_, rfl, by simp⟩
  split
  · exact ⟨_, rfl, by simp⟩
  split
  · exact ⟨_, rfl, by simp⟩
  rename_i hlen
  cases hb : decide ((a0_20.size : Int) > 100) with
  | true => rw [ht]; exact ⟨_, rfl, by simp⟩
  | false =>
    obtain ⟨k, rfl⟩ : ∃ m, k = m + 1 := ⟨k - 1, by omega⟩
    obtain ⟨r, hr⟩ := mosaiclaw16_Few.loop a0_0 a0_1 a0_2 a0_3 a0_4 a0_5 a0_6 a0_7 a0_8 a0_9 a0_10 a0_11 l0_12 a0_13 a0_14 a0_15 a0_16 a0_17 a0_18 a0_19 a0_20 (by omega) l0_12.length 0 k (by omega) (by omega)
    refine ⟨r, ?_, fun _ => by omega⟩
    simp only [mosaiclaw16_Few.j0]
    rw [if_neg (by decide)]
    exact hr
theorem slices_Equal_string_string.loop (k : Nat) (a b : List ByteArray) (hl : a.length = b.length) (hn : a.length < 9223372036854775807) : ∀ (d i : Nat), i + d = a.length → d < k → ∃ r, slices_Equal_string_string.l0 k a b (a.length : Int) (i : Int) = some r ∧ (r = true ↔ a.drop i = b.drop i) := by
  intro d
  induction d generalizing k with
  | zero =>
    intro i hi hk
    obtain ⟨k, rfl⟩ : ∃ m, k = m + 1 := ⟨k - 1, by omega⟩
    rw [slices_Equal_string_string.l0, if_neg (by omega)]
    exact ⟨_, rfl, by rw [List.drop_eq_nil_of_le (by omega), List.drop_eq_nil_of_le (by omega)]; simp⟩
  | succ d ih =>
    intro i hi hk
    obtain ⟨k, rfl⟩ : ∃ m, k = m + 1 := ⟨k - 1, by omega⟩
    have h1 : i < a.length := by omega
    have h2 : i < b.length := by omega
    have e1 : rdOf ByteArray.empty a (i : Int) = a[i] := by simp [rdOf, h1]
    have e2 : rdOf ByteArray.empty b (i : Int) = b[i] := by simp [rdOf, h2]
    rw [slices_Equal_string_string.l0, if_pos (by omega), if_pos (by omega), if_pos (by omega), if_pos (by omega), e1, e2, List.drop_eq_getElem_cons h1, List.drop_eq_getElem_cons h2]
    by_cases hq : (a[i]).toList = (b[i]).toList
    · rw [if_pos hq, wrap64_id _ (by omega) (by omega)]
      obtain ⟨r, hr, hr2⟩ := ih k (i + 1) (by omega) (by omega)
      refine ⟨r, by rw [← hr]; rfl, ?_⟩
      rw [hr2, ba_toList_inj hq, List.cons.injEq]
      exact ⟨fun h => ⟨rfl, h⟩, fun h => h.2⟩
    · rw [if_neg hq]
      refine ⟨false, rfl, ?_⟩
      simp only [Bool.false_eq_true, List.cons.injEq, false_iff, not_and]
      intro h
      exact absurd (by rw [h]) hq
theorem slices_Equal_string_string.spec (k : Nat) (a b : List ByteArray) (hn : a.length < 1000) (hk : 1001 ≤ k) : ∃ r, slices_Equal_string_string.f k a b = some r ∧ (r = true ↔ a = b) := by
  unfold slices_Equal_string_string.f
  by_cases h : (a.length : Int) = (b.length : Int)
  · rw [if_pos h]
    obtain ⟨r, hr, hr2⟩ := slices_Equal_string_string.loop k a b (by omega) (by omega) a.length 0 (by omega) (by omega)
    exact ⟨r, hr, by simpa using hr2⟩
  · rw [if_neg h]
    refine ⟨false, rfl, ?_⟩
    simp only [Bool.false_eq_true, false_iff]
    rintro rfl
    exact h rfl
theorem wire_Same.tot (k : Nat) (a0_0 : Int) (a0_1 : Int) (a0_2 : Int) (a0_3 : ByteArray) (a0_4 : ByteArray) (a0_5 : Bool) (a0_6 : Int) (a0_7 : Int) (a0_8 : ByteArray) (a0_9 : ByteArray) (a0_10 : Int) (a0_11 : ByteArray) (l0_12 : List ByteArray) (a0_13 : Int) (a0_14 : Int) (a0_15 : Int) (a0_16 : Int) (a0_17 : Int) (a0_18 : Int) (a0_19 : Int) (a0_20 : ByteArray) (a1_0 : Int) (a1_1 : Int) (a1_2 : Int) (a1_3 : ByteArray) (a1_4 : ByteArray) (a1_5 : Bool) (a1_6 : Int) (a1_7 : Int) (a1_8 : ByteArray) (a1_9 : ByteArray) (a1_10 : Int) (a1_11 : ByteArray) (l1_12 : List ByteArray) (a1_13 : Int) (a1_14 : Int) (a1_15 : Int) (a1_16 : Int) (a1_17 : Int) (a1_18 : Int) (a1_19 : Int) (a1_20 : ByteArray) (hl : l0_12.length < 1000) (hk : 1001 ≤ k) : ∃ r, wire_Same.f k a0_0 a0_1 a0_2 a0_3 a0_4 a0_5 a0_6 a0_7 a0_8 a0_9 a0_10 a0_11 l0_12 a0_13 a0_14 a0_15 a0_16 a0_17 a0_18 a0_19 a0_20 a1_0 a1_1 a1_2 a1_3 a1_4 a1_5 a1_6 a1_7 a1_8 a1_9 a1_10 a1_11 l1_12 a1_13 a1_14 a1_15 a1_16 a1_17 a1_18 a1_19 a1_20 = some r ∧ (r = true ↔ (a0_0 = a1_0 ∧ a0_1 = a1_1 ∧ a0_2 = a1_2 ∧ a0_3 = a1_3 ∧ a0_4 = a1_4 ∧ a0_5 = a1_5 ∧ a0_6 = a1_6 ∧ a0_7 = a1_7 ∧ a0_8 = a1_8 ∧ a0_9 = a1_9 ∧ a0_10 = a1_10 ∧ a0_11 = a1_11 ∧ l0_12 = l1_12 ∧ a0_13 = a1_13 ∧ a0_14 = a1_14 ∧ a0_15 = a1_15 ∧ a0_16 = a1_16 ∧ a0_17 = a1_17 ∧ a0_18 = a1_18 ∧ a0_19 = a1_19 ∧ a0_20 = a1_20)) := by
  have hb : ∀ x y : ByteArray, x.toList = y.toList ↔ x = y := fun x y => ⟨ba_toList_inj, fun h => by rw [h]⟩
  unfold wire_Same.f
  obtain ⟨q, hq, hq2⟩ := slices_Equal_string_string.spec k l0_12 l1_12 hl hk
  rw [hq, Option.bind_some]
  simp only [hb]
  split
  · rename_i e
    obtain ⟨e0, e1, e2, e3, e4, e5, e6, e7, e8, e9, e10, e11⟩ := e
    by_cases e12 : q = true
    · rw [if_pos e12]
      have e12' := hq2.1 e12
      split
      · rename_i m
        obtain ⟨h13, h14, h15, h16, h17, h18, h19, h20⟩ := m
        exact ⟨_, rfl, by simp only [true_iff]; exact ⟨e0, e1, e2, e3, e4, e5, e6, e7, e8, e9, e10, e11, e12', h13, h14, h15, h16, h17, h18, h19, h20⟩⟩
      · rename_i m
        refine ⟨_, rfl, ?_⟩
        simp only [Bool.false_eq_true, false_iff]
        rintro ⟨_, _, _, _, _, _, _, _, _, _, _, _, _, h13, h14, h15, h16, h17, h18, h19, h20⟩
        exact m ⟨h13, h14, h15, h16, h17, h18, h19, h20⟩
    · rw [if_neg e12]
      refine ⟨_, rfl, ?_⟩
      simp only [Bool.false_eq_true, false_iff]
      intro h
      exact e12 (hq2.2 h.2.2.2.2.2.2.2.2.2.2.2.2.1)
  · rename_i e
    refine ⟨_, rfl, ?_⟩
    simp only [Bool.false_eq_true, false_iff]
    rintro ⟨e0, e1, e2, e3, e4, e5, e6, e7, e8, e9, e10, e11, _⟩
    exact e ⟨e0, e1, e2, e3, e4, e5, e6, e7, e8, e9, e10, e11⟩
theorem block_may.spec (z : Int) : block_may.f z = some (decide (1 ≤ z ∧ z ≤ 64)) := by
  unfold block_may.f
  by_cases h : z ≥ 1
  · rw [if_pos h]
    congr 1
    rw [Bool.eq_iff_iff, decide_eq_true_iff, decide_eq_true_iff]
    omega
  · rw [if_neg h]
    congr 1
    rw [eq_comm, decide_eq_false_iff_not]
    omega
theorem block_Count.spec (n z : Int) (k : Nat) (hk : 1 ≤ k) : block_Count.f k n z = some (cntI n z) := by
  obtain ⟨k, rfl⟩ : ∃ m, k = m + 1 := ⟨k - 1, by omega⟩
  have hj : block_Count.j0 (k + 1) n z true = some 0 := by simp only [block_Count.j0]; rw [if_pos trivial]
  unfold block_Count.f
  by_cases h1 : n < 1
  · rw [if_pos h1, hj, cntI, if_neg (by omega)]
  · rw [if_neg h1]
    by_cases h2 : n > 4096
    · rw [if_pos h2, hj, cntI, if_neg (by omega)]
    · rw [if_neg h2, block_may.spec, Option.bind_some]
      by_cases h3 : 1 ≤ z ∧ z ≤ 64
      · rw [decide_eq_true h3]
        simp only [block_Count.j0, Bool.not_true]
        rw [if_neg (by decide), if_neg (by omega)]
        obtain ⟨n, rfl⟩ : ∃ m : Nat, n = m := ⟨n.toNat, by omega⟩
        obtain ⟨z, rfl⟩ : ∃ m : Nat, z = m := ⟨z.toNat, by omega⟩
        rw [wrap64_id ((n : Int) + z) (by omega) (by omega), wrap64_id ((n : Int) + z - 1) (by omega) (by omega), tdiv_pos _ _ (by omega)]
        have e : ((n : Int) + z - 1) / z = (cntN n z : Int) := by
          unfold cntN
          rw [show (n : Int) + z - 1 = ((n + z - 1 : Nat) : Int) by omega, Int.natCast_ediv]
        have hle := cntN_le n z (by omega)
        rw [e, wrap64_id _ (by omega) (by omega), cntI]
        simp only [Int.toNat_natCast]
        by_cases h4 : cntN n z ≤ 96
        · rw [if_neg (by omega), if_pos (by omega)]
        · rw [if_pos (by omega), if_neg (by omega)]
      · rw [decide_eq_false h3]
        simp only [Bool.not_false]
        rw [hj, cntI, if_neg (by omega)]
theorem ratio_Check.spec (a b : Int) : ∃ r, ratio_Check.f a b = some r := by
  unfold ratio_Check.f
  split
  · split
    · split
      · split
        · unfold ratio_abs.f
          split
          · rw [Option.bind_some, wrap64_id _ (by omega) (by omega)]
            unfold ratio_Gcd.f
            rw [if_neg (by omega), if_neg (by omega), if_pos ⟨by omega, by omega⟩]
            exact ⟨_, rfl⟩
          · rw [Option.bind_some]
            unfold ratio_Gcd.f
            rw [if_neg (by omega), if_neg (by omega), if_pos ⟨by omega, by omega⟩]
            exact ⟨_, rfl⟩
        · exact ⟨_, rfl⟩
      · exact ⟨_, rfl⟩
    · exact ⟨_, rfl⟩
  · exact ⟨_, rfl⟩
theorem degree_Check.tot (a b c d : Int) : ∃ r, degree_Check.f a b c d = some r ∧ (r = true → 0 < a ∧ a ≤ b ∧ b ≤ 1000 ∧ 1 ≤ c ∧ c ≤ 8 ∧ 2 ≤ d ∧ d ≤ 64) := by
  obtain ⟨q, hq⟩ := ratio_Check.spec a b
  unfold degree_Check.f
  rw [hq, Option.bind_some]
  by_cases h0 : q = true
  · rw [if_pos h0]
    by_cases h1 : a > 0
    · rw [if_pos h1]
      by_cases h2 : a ≤ b
      · rw [if_pos h2]
        by_cases h3 : b ≤ 1000
        · rw [if_pos h3]
          by_cases h4 : c ≥ 1
          · rw [if_pos h4]
            by_cases h5 : c ≤ 8
            · rw [if_pos h5]
              by_cases h6 : d ≥ 2
              · rw [if_pos h6]
                by_cases h7 : d ≤ 64
                · rw [if_pos h7]
                  exact ⟨_, rfl, fun _ => ⟨h1, h2, h3, h4, h5, h6, h7⟩⟩
                · rw [if_neg h7]; exact ⟨_, rfl, by simp⟩
              · rw [if_neg h6]; exact ⟨_, rfl, by simp⟩
            · rw [if_neg h5]; exact ⟨_, rfl, by simp⟩
          · rw [if_neg h4]; exact ⟨_, rfl, by simp⟩
        · rw [if_neg h3]; exact ⟨_, rfl, by simp⟩
      · rw [if_neg h2]; exact ⟨_, rfl, by simp⟩
    · rw [if_neg h1]; exact ⟨_, rfl, by simp⟩
  · rw [if_neg h0]; exact ⟨_, rfl, by simp⟩
def manifest_Check.Ok (a0 a1 a2 a3 a4 a5 a6 : Int) (a7 : ByteArray) : Prop := (1 ≤ a0 ∧ a0 ≤ 4096) ∧ (1 ≤ a1 ∧ a1 ≤ 64) ∧ (0 ≤ a2 ∧ a2 ≤ 72057594037927935) ∧ (0 < a3 ∧ a3 ≤ 1000) ∧ (0 < a4 ∧ a4 ≤ 1000) ∧ (1 ≤ a5 ∧ a5 ≤ 8) ∧ (2 ≤ a6 ∧ a6 ≤ 64) ∧ a7.size = 32
theorem manifest_Check.tot (a0 a1 a2 a3 a4 a5 a6 : Int) (a7 : ByteArray) (k : Nat) (hk : 1 ≤ k) : ∃ r, manifest_Check.f k a0 a1 a2 a3 a4 a5 a6 a7 = some r ∧ (r = true → manifest_Check.Ok a0 a1 a2 a3 a4 a5 a6 a7) := by
  unfold manifest_Check.f
  rw [block_Count.spec _ _ _ hk, Option.bind_some]
  by_cases h1 : cntI a0 a1 > 0
  · rw [if_pos h1]
    have hc : (1 ≤ a0 ∧ a0 ≤ 4096) ∧ 1 ≤ a1 ∧ a1 ≤ 64 := by
      unfold cntI at h1
      split at h1
      · rename_i h; omega
      · omega
    unfold manifest_seeded.f
    by_cases h2 : a2 ≥ 0
    · rw [if_pos h2, Option.bind_some]
      by_cases h3 : a2 ≤ 72057594037927935
      · rw [if_pos (decide_eq_true h3)]
        obtain ⟨q, hq, hq2⟩ := degree_Check.tot a3 a4 a5 a6
        rw [hq, Option.bind_some]
        by_cases h4 : q = true
        · rw [if_pos h4]
          obtain ⟨g1, g2, g3, g4, g5, g6, g7⟩ := hq2 h4
          refine ⟨_, rfl, fun h => ?_⟩
          have h5 : (a7.size : Int) = 32 := beq_iff_eq.1 h
          exact ⟨hc.1, hc.2, ⟨h2, h3⟩, ⟨g1, by omega⟩, ⟨by omega, g3⟩, ⟨g4, g5⟩, ⟨g6, g7⟩, by omega⟩
        · rw [if_neg h4]; exact ⟨_, rfl, by simp⟩
      · rw [if_neg (by simpa using h3)]; exact ⟨_, rfl, by simp⟩
    · rw [if_neg h2, Option.bind_some, if_neg (by decide)]; exact ⟨_, rfl, by simp⟩
  · rw [if_neg h1]; exact ⟨_, rfl, by simp⟩
theorem wire_in.spec (n a b : Int) : wire_in.f n a b = some (decide (a ≤ n ∧ n ≤ b)) := by
  unfold wire_in.f
  by_cases h : n ≥ a
  · rw [if_pos h]
    by_cases h2 : n ≤ b
    · rw [decide_eq_true h2, decide_eq_true ⟨h, h2⟩]
    · rw [decide_eq_false h2, decide_eq_false (by omega)]
  · rw [if_neg h, decide_eq_false (by omega)]
theorem wire_filled.all (l : List ByteArray) : l.any wire_filled.bad = false ↔ ∀ t ∈ l, t.size = 32 := by
  rw [List.any_eq_false]
  refine forall_congr' fun t => forall_congr' fun _ => ?_
  unfold wire_filled.bad wire_digest.f
  simp only [Option.getD_some, Bool.not_eq_true', Bool.not_eq_false, beq_iff_eq]
  omega
def wire_filled.Ok (k : Nat) (a0_0 : Int) (a0_1 : Int) (a0_2 : Int) (a0_3 : ByteArray) (a0_4 : ByteArray) (a0_5 : Bool) (a0_6 : Int) (a0_7 : Int) (a0_8 : ByteArray) (a0_9 : ByteArray) (a0_10 : Int) (a0_11 : ByteArray) (l0_12 : List ByteArray) (a0_13 : Int) (a0_14 : Int) (a0_15 : Int) (a0_16 : Int) (a0_17 : Int) (a0_18 : Int) (a0_19 : Int) (a0_20 : ByteArray) : Prop := (1 ≤ a0_0 ∧ a0_0 ≤ 11) ∧ (a0_0 = 1 → (-1048576 ≤ a0_1 ∧ a0_1 ≤ 1048576) ∧ (-1048576 ≤ a0_2 ∧ a0_2 ≤ 1048576) ∧ a0_3.size = 32) ∧ (a0_0 = 2 → a0_4.size ≤ 20) ∧ (a0_0 = 6 → (0 ≤ a0_6 ∧ a0_6 ≤ 2) ∧ (0 ≤ a0_7 ∧ a0_7 ≤ 72057594037927935) ∧ a0_8.size ≤ 20 ∧ (1 ≤ a0_9.size ∧ a0_9.size ≤ 64)) ∧ (a0_0 = 7 → 0 ≤ a0_10 ∧ a0_10 ≤ 159) ∧ (a0_0 = 8 → (0 ≤ a0_10 ∧ a0_10 ≤ 159) ∧ a0_11.size = 32 ∧ l0_12.length ≤ 8 ∧ ∀ t ∈ l0_12, t.size = 32) ∧ (a0_0 = 9 → manifest_Check.f k a0_13 a0_14 a0_15 a0_16 a0_17 a0_18 a0_19 a0_20 = some true ∧ manifest_Check.Ok a0_13 a0_14 a0_15 a0_16 a0_17 a0_18 a0_19 a0_20)
theorem wire_filled.tot (k : Nat) (a0_0 : Int) (a0_1 : Int) (a0_2 : Int) (a0_3 : ByteArray) (a0_4 : ByteArray) (a0_5 : Bool) (a0_6 : Int) (a0_7 : Int) (a0_8 : ByteArray) (a0_9 : ByteArray) (a0_10 : Int) (a0_11 : ByteArray) (l0_12 : List ByteArray) (a0_13 : Int) (a0_14 : Int) (a0_15 : Int) (a0_16 : Int) (a0_17 : Int) (a0_18 : Int) (a0_19 : Int) (a0_20 : ByteArray) (hk : 1 ≤ k) : ∃ r, wire_filled.f k a0_0 a0_1 a0_2 a0_3 a0_4 a0_5 a0_6 a0_7 a0_8 a0_9 a0_10 a0_11 l0_12 a0_13 a0_14 a0_15 a0_16 a0_17 a0_18 a0_19 a0_20 = some r ∧ (r = true → wire_filled.Ok k a0_0 a0_1 a0_2 a0_3 a0_4 a0_5 a0_6 a0_7 a0_8 a0_9 a0_10 a0_11 l0_12 a0_13 a0_14 a0_15 a0_16 a0_17 a0_18 a0_19 a0_20) := by
  unfold wire_filled.f wire_filled.Ok
  by_cases c1 : a0_0 = 1
  · rw [if_pos c1]
    unfold wire_place.f
    rw [wire_in.spec, Option.bind_some]
    by_cases h1 : -1048576 ≤ a0_1 ∧ a0_1 ≤ 1048576
    · rw [if_pos (decide_eq_true h1), wire_in.spec, Option.bind_some, Option.bind_some]
      by_cases h2 : -1048576 ≤ a0_2 ∧ a0_2 ≤ 1048576
      · rw [if_pos (decide_eq_true h2)]
        unfold wire_digest.f
        refine ⟨_, rfl, fun h => ?_⟩
        have h3 : (a0_3.size : Int) = 32 := beq_iff_eq.1 h
        exact ⟨⟨by omega, by omega⟩, fun _ => ⟨h1, h2, by omega⟩, fun h => absurd h (by omega), fun h => absurd h (by omega), fun h => absurd h (by omega), fun h => absurd h (by omega), fun h => absurd h (by omega)⟩
      · rw [if_neg (by simpa using h2)]; exact ⟨_, rfl, by simp⟩
    · rw [if_neg (by simpa using h1), Option.bind_some, if_neg (by decide)]; exact ⟨_, rfl, by simp⟩
  rw [if_neg c1]
  by_cases c2 : a0_0 = 2
  · rw [if_pos c2]
    refine ⟨_, rfl, fun h => ?_⟩
    have h3 : (a0_4.size : Int) ≤ 20 := of_decide_eq_true h
    exact ⟨⟨by omega, by omega⟩, fun h => absurd h (by omega), fun _ => by omega, fun h => absurd h (by omega), fun h => absurd h (by omega), fun h => absurd h (by omega), fun h => absurd h (by omega)⟩
  rw [if_neg c2]
  by_cases c6 : a0_0 = 6
  · rw [if_pos c6]
    unfold wire_head.f
    rw [wire_in.spec, Option.bind_some]
    by_cases h1 : 0 ≤ a0_6 ∧ a0_6 ≤ 2
    · rw [if_pos (decide_eq_true h1), wire_in.spec, Option.bind_some]
      by_cases h2 : 0 ≤ a0_7 ∧ a0_7 ≤ 72057594037927935
      · rw [if_pos (decide_eq_true h2), Option.bind_some]
        by_cases h3 : (a0_8.size : Int) ≤ 20
        · rw [if_pos (decide_eq_true h3), wire_in.spec]
          refine ⟨_, rfl, fun h => ?_⟩
          have h4 : 1 ≤ (a0_9.size : Int) ∧ (a0_9.size : Int) ≤ 64 := of_decide_eq_true h
          exact ⟨⟨by omega, by omega⟩, fun h => absurd h (by omega), fun h => absurd h (by omega), fun _ => ⟨h1, h2, by omega, by omega, by omega⟩, fun h => absurd h (by omega), fun h => absurd h (by omega), fun h => absurd h (by omega)⟩
        · rw [if_neg (by simpa using h3)]; exact ⟨_, rfl, by simp⟩
      · rw [if_neg (by simpa using h2), Option.bind_some, if_neg (by decide)]; exact ⟨_, rfl, by simp⟩
    · rw [if_neg (by simpa using h1), Option.bind_some, if_neg (by decide)]; exact ⟨_, rfl, by simp⟩
  rw [if_neg c6]
  by_cases c7 : a0_0 = 7
  · rw [if_pos c7, wire_in.spec]
    refine ⟨_, rfl, fun h => ?_⟩
    have h3 : 0 ≤ a0_10 ∧ a0_10 ≤ 159 := of_decide_eq_true h
    exact ⟨⟨by omega, by omega⟩, fun h => absurd h (by omega), fun h => absurd h (by omega), fun h => absurd h (by omega), fun _ => h3, fun h => absurd h (by omega), fun h => absurd h (by omega)⟩
  rw [if_neg c7]
  by_cases c8 : a0_0 = 8
  · rw [if_pos c8, wire_in.spec, Option.bind_some]
    by_cases h1 : 0 ≤ a0_10 ∧ a0_10 ≤ 159
    · rw [if_pos (decide_eq_true h1)]
      unfold wire_digest.f
      rw [Option.bind_some]
      by_cases h2 : (a0_11.size : Int) = 32
      · rw [if_pos (beq_iff_eq.2 h2)]
        refine ⟨_, rfl, fun h => ?_⟩
        by_cases h3 : (l0_12.length : Int) ≤ 8
        · rw [if_pos h3] at h
          have h4 := (wire_filled.all l0_12).1 (by simpa using h)
          exact ⟨⟨by omega, by omega⟩, fun h => absurd h (by omega), fun h => absurd h (by omega), fun h => absurd h (by omega), fun h => absurd h (by omega), fun _ => ⟨h1, by omega, by omega, h4⟩, fun h => absurd h (by omega)⟩
        · rw [if_neg h3] at h; exact absurd h (by decide)
      · rw [if_neg (by simpa using h2)]; exact ⟨_, rfl, by simp⟩
    · rw [if_neg (by simpa using h1)]; exact ⟨_, rfl, by simp⟩
  rw [if_neg c8]
  by_cases c9 : a0_0 = 9
  · rw [if_pos c9]
    obtain ⟨r, hr, hr2⟩ := manifest_Check.tot a0_13 a0_14 a0_15 a0_16 a0_17 a0_18 a0_19 a0_20 k hk
    refine ⟨r, hr, fun h => ?_⟩
    rw [h] at hr
    exact ⟨⟨by omega, by omega⟩, fun h => absurd h (by omega), fun h => absurd h (by omega), fun h => absurd h (by omega), fun h => absurd h (by omega), fun h => absurd h (by omega), fun _ => ⟨hr, hr2 h⟩⟩
  rw [if_neg c9, wire_in.spec]
  refine ⟨_, rfl, fun h => ?_⟩
  have h3 : 1 ≤ a0_0 ∧ a0_0 ≤ 11 := of_decide_eq_true h
  exact ⟨h3, fun h => absurd h c1, fun h => absurd h c2, fun h => absurd h c6, fun h => absurd h c7, fun h => absurd h c8, fun h => absurd h c9⟩
theorem wire_Check.tot (k : Nat) (a0_0 : Int) (a0_1 : Int) (a0_2 : Int) (a0_3 : ByteArray) (a0_4 : ByteArray) (a0_5 : Bool) (a0_6 : Int) (a0_7 : Int) (a0_8 : ByteArray) (a0_9 : ByteArray) (a0_10 : Int) (a0_11 : ByteArray) (l0_12 : List ByteArray) (a0_13 : Int) (a0_14 : Int) (a0_15 : Int) (a0_16 : Int) (a0_17 : Int) (a0_18 : Int) (a0_19 : Int) (a0_20 : ByteArray) (hl : l0_12.length < 1000) (hk : 1001 ≤ k) : ∃ r, wire_Check.f k a0_0 a0_1 a0_2 a0_3 a0_4 a0_5 a0_6 a0_7 a0_8 a0_9 a0_10 a0_11 l0_12 a0_13 a0_14 a0_15 a0_16 a0_17 a0_18 a0_19 a0_20 = some r ∧ (r = true → wire_filled.Ok k a0_0 a0_1 a0_2 a0_3 a0_4 a0_5 a0_6 a0_7 a0_8 a0_9 a0_10 a0_11 l0_12 a0_13 a0_14 a0_15 a0_16 a0_17 a0_18 a0_19 a0_20 ∧ wire_only.o a0_0 a0_1 a0_2 a0_3 a0_4 a0_5 a0_6 a0_7 a0_8 a0_9 a0_10 a0_11 l0_12 a0_13 a0_14 a0_15 a0_16 a0_17 a0_18 a0_19 a0_20 = (a0_0, a0_1, a0_2, a0_3, a0_4, a0_5, a0_6, a0_7, a0_8, a0_9, a0_10, a0_11, l0_12, a0_13, a0_14, a0_15, a0_16, a0_17, a0_18, a0_19, a0_20)) := by
  unfold wire_Check.f
  obtain ⟨q, hq, hq2⟩ := wire_filled.tot k a0_0 a0_1 a0_2 a0_3 a0_4 a0_5 a0_6 a0_7 a0_8 a0_9 a0_10 a0_11 l0_12 a0_13 a0_14 a0_15 a0_16 a0_17 a0_18 a0_19 a0_20 (by omega)
  rw [hq, Option.bind_some]
  by_cases h : q = true
  case neg => rw [if_neg h]; exact ⟨_, rfl, by simp⟩
  rw [if_pos h, Option.bind_some]
  obtain ⟨r0, r1, r2, r3, r4, r5, r6, r7, r8, r9, r10, r11, r12, r13, r14, r15, r16, r17, r18, r19, r20, ho⟩ : ∃ r0 r1 r2 r3 r4 r5 r6 r7 r8 r9 r10 r11 r12 r13 r14 r15 r16 r17 r18 r19 r20, wire_only.o a0_0 a0_1 a0_2 a0_3 a0_4 a0_5 a0_6 a0_7 a0_8 a0_9 a0_10 a0_11 l0_12 a0_13 a0_14 a0_15 a0_16 a0_17 a0_18 a0_19 a0_20 = (r0, r1, r2, r3, r4, r5, r6, r7, r8, r9, r10, r11, r12, r13, r14, r15, r16, r17, r18, r19, r20) := ⟨_, _, _, _, _, _, _, _, _, _, _, _, _, _, _, _, _, _, _, _, _, rfl⟩
  rw [ho]
  obtain ⟨r, hr, hr2⟩ := wire_Same.tot k a0_0 a0_1 a0_2 a0_3 a0_4 a0_5 a0_6 a0_7 a0_8 a0_9 a0_10 a0_11 l0_12 a0_13 a0_14 a0_15 a0_16 a0_17 a0_18 a0_19 a0_20 r0 r1 r2 r3 r4 r5 r6 r7 r8 r9 r10 r11 r12 r13 r14 r15 r16 r17 r18 r19 r20 hl hk
  refine ⟨r, hr, fun hr3 => ⟨hq2 h, ?_⟩⟩
  obtain ⟨rfl, rfl, rfl, rfl, rfl, rfl, rfl, rfl, rfl, rfl, rfl, rfl, rfl, rfl, rfl, rfl, rfl, rfl, rfl, rfl, rfl⟩ := hr2.1 hr3
  rfl
theorem oct_Put.loop (n : Nat) (d : Nat) : ∀ (k : Nat) (xs : List Int), d ≤ 7 → d < k → xs.length + d ≤ 100 → oct_Put.l0 k (n : Int) xs ((d : Int) - 1) = some (strOfNums (xs ++ beL n d), 0) := by
  induction d with
  | zero =>
    intro k xs hd hk hx
    obtain ⟨k, rfl⟩ : ∃ m, k = m + 1 := ⟨k - 1, by omega⟩
    simp only [oct_Put.l0]
    rw [if_neg (by omega)]
    simp [beL]
  | succ d ih =>
    intro k xs hd hk hx
    obtain ⟨k, rfl⟩ : ∃ m, k = m + 1 := ⟨k - 1, by omega⟩
    simp only [oct_Put.l0]
    rw [show ((d + 1 : Nat) : Int) - 1 = (d : Int) by omega, wrap64_id (8 * (d : Int)) (by omega) (by omega), wrap64_id ((d : Int) - 1) (by omega) (by omega), if_pos (by omega), if_pos (by omega), if_pos (by omega)]
    have e : shr .i64 (n : Int) (8 * (d : Int)) % 256 = ((n / 256 ^ d % 256 : Nat) : Int) := by
      unfold shr
      rw [show (8 * (d : Int)).toNat = 8 * d by omega, Nat.min_eq_left (by show 8 * d ≤ 64; omega)]
      have h2 : ((2 : Int) ^ (8 * d)) = ((2 ^ (8 * d) : Nat) : Int) := by simp
      rw [h2, p256_two, ← Int.natCast_ediv]
      generalize n / 256 ^ d = q
      omega
    rw [e, ih k (xs ++ [((n / 256 ^ d % 256 : Nat) : Int)]) (by omega) (by omega) (by simp; omega)]
    simp [beL]
theorem oct_Put.spec (n size : Int) (k : Nat) (hn : -9223372036854775808 ≤ n ∧ n ≤ 9223372036854775807) (hk : 10 ≤ k) : oct_Put.f k n size = some (putR n size) := by
  unfold oct_Put.f putR
  obtain ⟨k, rfl⟩ : ∃ m, k = m + 1 := ⟨k - 1, by omega⟩
  by_cases h1 : size < 1
  · rw [if_pos h1]
    simp only [oct_Put.j0]
    rw [if_pos trivial, if_pos (.inl h1)]
  · rw [if_neg h1]
    simp only [oct_Put.j0]
    by_cases h2 : size > 7
    · rw [if_pos (decide_eq_true h2), if_pos (.inr h2)]
    · rw [if_neg (by simpa using h2), if_neg (show ¬ (size < 1 ∨ 7 < size) by omega)]
      by_cases h3 : n < 0
      · rw [if_pos h3, if_pos (.inl h3)]
      · rw [if_neg h3, wrap64_id (8 * size) (by omega) (by omega), wrap64_id (size - 1) (by omega) (by omega), if_pos (by omega)]
        have e : shr .i64 n (8 * size) = ((n.toNat / 256 ^ size.toNat : Nat) : Int) := by
          unfold shr
          rw [show (8 * size).toNat = 8 * size.toNat by omega, Nat.min_eq_left (by show 8 * size.toNat ≤ 64; omega)]
          have h2 : ((2 : Int) ^ (8 * size.toNat)) = ((2 ^ (8 * size.toNat) : Nat) : Int) := by simp
          rw [h2, p256_two]
          obtain ⟨m, rfl⟩ := Int.eq_ofNat_of_zero_le (show 0 ≤ n by omega)
          rfl
        rw [e]
        have hp := p256_pos size.toNat
        by_cases h4 : n.toNat < 256 ^ size.toNat
        · rw [if_pos (by rw [Nat.div_eq_of_lt h4]; rfl), if_neg (by omega)]
          have := oct_Put.loop n.toNat size.toNat k [] (by omega) (by omega) (by simp; omega)
          rw [show ((n.toNat : Nat) : Int) = n by omega, show ((size.toNat : Nat) : Int) - 1 = size - 1 by omega] at this
          rw [this]
          rfl
        · have h5 : 1 ≤ n.toNat / 256 ^ size.toNat := (Nat.le_div_iff_mul_le hp).2 (by omega)
          rw [if_neg (by omega), if_pos (by omega)]
def manifest_Text.P (a0 a1 a2 a3 a4 a5 a6 : Int) (a7 : ByteArray) : ByteArray := manifest_Text.word ++ (numS a0.toNat 2 ++ (numS a1.toNat 1 ++ (numS a2.toNat 7 ++ (numS a3.toNat 2 ++ (numS a4.toNat 2 ++ (numS a5.toNat 1 ++ (numS a6.toNat 1 ++ a7)))))))
theorem manifest_Text.put (k : Nat) (hk : 10 ≤ k) (x y : Int) (n : Nat) (hy : y = (n : Int)) (h1 : 1 ≤ n) (h7 : n ≤ 7) (h0 : 0 ≤ x) (hn : x < ((256 ^ n : Nat) : Int)) (l : List (Int × Int)) (s : ByteArray) : manifest_Text.puts k ((x, y) :: l) s = manifest_Text.puts k l (s ++ numS x.toNat n) := by
  subst hy
  have h8 := Int.ofNat_le.2 (p256_le7 n h7)
  rw [manifest_Text.puts, oct_Put.spec _ _ _ ⟨by omega, by omega⟩ hk, Option.bind_some, putR_ok _ _ h1 h7 h0 hn, if_pos ⟨rfl, by simp only; rw [numS_size]; omega⟩]
theorem manifest_Text.spec (a0 a1 a2 a3 a4 a5 a6 : Int) (a7 : ByteArray) (k : Nat) (hk : 10 ≤ k) (hc : manifest_Check.f k a0 a1 a2 a3 a4 a5 a6 a7 = some true) (ok : manifest_Check.Ok a0 a1 a2 a3 a4 a5 a6 a7) : manifest_Text.f k a0 a1 a2 a3 a4 a5 a6 a7 = some (manifest_Text.P a0 a1 a2 a3 a4 a5 a6 a7) := by
  obtain ⟨g0, g1, g2, g3, g4, g5, g6, g7⟩ := ok
  unfold manifest_Text.f
  rw [hc, Option.bind_some, if_pos rfl, if_pos (by omega)]
  rw [manifest_Text.put k hk a0 2 2 rfl (by decide) (by decide) (by omega) (by omega), manifest_Text.put k hk a1 1 1 rfl (by decide) (by decide) (by omega) (by omega), manifest_Text.put k hk a2 7 7 rfl (by decide) (by decide) (by omega) (by omega), manifest_Text.put k hk a3 2 2 rfl (by decide) (by decide) (by omega) (by omega), manifest_Text.put k hk a4 2 2 rfl (by decide) (by decide) (by omega) (by omega), manifest_Text.put k hk a5 1 1 rfl (by decide) (by decide) (by omega) (by omega), manifest_Text.put k hk a6 1 1 rfl (by decide) (by decide) (by omega) (by omega)]
  rw [manifest_Text.puts, Option.bind_some, manifest_Text.P]
  simp only [ba_append_assoc, ba_nil_append]
theorem manifest_Text.P_size (a0 a1 a2 a3 a4 a5 a6 : Int) (a7 : ByteArray) (h : a7.size = 32) : (manifest_Text.P a0 a1 a2 a3 a4 a5 a6 a7).size = 52 := by
  unfold manifest_Text.P
  simp only [ByteArray.size_append, numS_size, h]
  rfl
def wire_Text.B (a0_0 : Int) (a0_1 : Int) (a0_2 : Int) (a0_3 : ByteArray) (a0_4 : ByteArray) (a0_5 : Bool) (a0_6 : Int) (a0_7 : Int) (a0_8 : ByteArray) (a0_9 : ByteArray) (a0_10 : Int) (a0_11 : ByteArray) (l0_12 : List ByteArray) (a0_13 : Int) (a0_14 : Int) (a0_15 : Int) (a0_16 : Int) (a0_17 : Int) (a0_18 : Int) (a0_19 : Int) (a0_20 : ByteArray) : ByteArray :=
  if a0_0 = 1 then numS (a0_1 + 1048576).toNat 3 ++ (numS (a0_2 + 1048576).toNat 3 ++ a0_3)
  else if a0_0 = 2 then numS a0_4.size 2 ++ a0_4
  else if a0_0 = 3 then numS (if a0_5 = true then 1 else 0) 1
  else if a0_0 = 6 then numS a0_6.toNat 1 ++ (numS a0_7.toNat 7 ++ ((numS a0_8.size 2 ++ a0_8) ++ (numS a0_9.size 2 ++ a0_9)))
  else if a0_0 = 7 then numS a0_10.toNat 1
  else if a0_0 = 8 then numS a0_10.toNat 1 ++ (a0_11 ++ (numS l0_12.length 1 ++ catS l0_12))
  else if a0_0 = 9 then manifest_Text.P a0_13 a0_14 a0_15 a0_16 a0_17 a0_18 a0_19 a0_20
  else (⟨#[]⟩ : ByteArray)
def wire_Text.P (a0_0 : Int) (a0_1 : Int) (a0_2 : Int) (a0_3 : ByteArray) (a0_4 : ByteArray) (a0_5 : Bool) (a0_6 : Int) (a0_7 : Int) (a0_8 : ByteArray) (a0_9 : ByteArray) (a0_10 : Int) (a0_11 : ByteArray) (l0_12 : List ByteArray) (a0_13 : Int) (a0_14 : Int) (a0_15 : Int) (a0_16 : Int) (a0_17 : Int) (a0_18 : Int) (a0_19 : Int) (a0_20 : ByteArray) : ByteArray := numS a0_0.toNat 1 ++ wire_Text.B a0_0 a0_1 a0_2 a0_3 a0_4 a0_5 a0_6 a0_7 a0_8 a0_9 a0_10 a0_11 l0_12 a0_13 a0_14 a0_15 a0_16 a0_17 a0_18 a0_19 a0_20
theorem wire_Text.num_ok (k : Nat) (hk : 10 ≤ k) (s : ByteArray) (x y : Int) (n : Nat) (hy : y = (n : Int)) (h1 : 1 ≤ n) (h7 : n ≤ 7) (h0 : 0 ≤ x) (hn : x < ((256 ^ n : Nat) : Int)) (hs : s.size ≤ 50000) : wire_Text.num k s x y = some (s ++ numS x.toNat n) := by
  subst hy
  have h8 := Int.ofNat_le.2 (p256_le7 n h7)
  unfold wire_Text.num
  rw [oct_Put.spec _ _ _ ⟨by omega, by omega⟩ hk, Option.bind_some, putR_ok _ _ h1 h7 h0 hn, if_pos ⟨rfl, by simp only; rw [numS_size]; omega⟩]
theorem wire_Text.raw_ok (s t : ByteArray) (h : s.size ≤ 50000) (h2 : t.size ≤ 1000) : wire_Text.raw s t = some (s ++ t) := by
  unfold wire_Text.raw
  rw [if_pos (by omega)]
theorem wire_Text.txt_ok (k : Nat) (hk : 10 ≤ k) (s t : ByteArray) (h : s.size ≤ 50000) (h2 : t.size ≤ 1000) : wire_Text.txt k s t = some (s ++ (numS t.size 2 ++ t)) := by
  unfold wire_Text.txt
  rw [oct_Put.spec _ _ _ ⟨by omega, by omega⟩ hk, Option.bind_some, show (2 : Int) = ((2 : Nat) : Int) from rfl, putR_ok _ _ (by decide) (by decide) (by omega) (by omega), Int.toNat_natCast, if_pos ⟨by simp only; rw [numS_size]; omega, by simp only; rw [numS_size]; omega⟩]
theorem wire_Text.raws_ok (l : List ByteArray) (h : ∀ t ∈ l, t.size = 32) : ∀ s : ByteArray, s.size + 32 * l.length ≤ 50000 → wire_Text.raws l s = some (s ++ catS l) := by
  induction l with
  | nil => intro s _; rw [wire_Text.raws, catS, ba_append_nil]
  | cons t l ih =>
    intro s hs
    have ht := h t (by simp)
    rw [List.length_cons] at hs
    rw [wire_Text.raws, wire_Text.raw_ok _ _ (by omega) (by omega), Option.bind_some, ih (fun x hx => h x (by simp [hx])) _ (by rw [ByteArray.size_append]; omega), catS, ba_append_assoc]
theorem wire_Text.spec (k : Nat) (a0_0 : Int) (a0_1 : Int) (a0_2 : Int) (a0_3 : ByteArray) (a0_4 : ByteArray) (a0_5 : Bool) (a0_6 : Int) (a0_7 : Int) (a0_8 : ByteArray) (a0_9 : ByteArray) (a0_10 : Int) (a0_11 : ByteArray) (l0_12 : List ByteArray) (a0_13 : Int) (a0_14 : Int) (a0_15 : Int) (a0_16 : Int) (a0_17 : Int) (a0_18 : Int) (a0_19 : Int) (a0_20 : ByteArray) (hk : 1001 ≤ k) (hc : wire_Check.f k a0_0 a0_1 a0_2 a0_3 a0_4 a0_5 a0_6 a0_7 a0_8 a0_9 a0_10 a0_11 l0_12 a0_13 a0_14 a0_15 a0_16 a0_17 a0_18 a0_19 a0_20 = some true) (ok : wire_filled.Ok k a0_0 a0_1 a0_2 a0_3 a0_4 a0_5 a0_6 a0_7 a0_8 a0_9 a0_10 a0_11 l0_12 a0_13 a0_14 a0_15 a0_16 a0_17 a0_18 a0_19 a0_20) : wire_Text.f k a0_0 a0_1 a0_2 a0_3 a0_4 a0_5 a0_6 a0_7 a0_8 a0_9 a0_10 a0_11 l0_12 a0_13 a0_14 a0_15 a0_16 a0_17 a0_18 a0_19 a0_20 = some (wire_Text.P a0_0 a0_1 a0_2 a0_3 a0_4 a0_5 a0_6 a0_7 a0_8 a0_9 a0_10 a0_11 l0_12 a0_13 a0_14 a0_15 a0_16 a0_17 a0_18 a0_19 a0_20) := by
  obtain ⟨⟨hk1, hk2⟩, g1, g2, g6, g7, g8, g9⟩ := ok
  have hz : (⟨#[]⟩ : ByteArray).size = 0 := rfl
  unfold wire_Text.f
  rw [hc, Option.bind_some, if_pos rfl, wire_Text.num_ok k (by omega) _ a0_0 1 1 rfl (by decide) (by decide) (by omega) (by omega) (by (repeat rw [ByteArray.size_append]); (repeat rw [numS_size]); (try rw [hz]); omega), Option.bind_some, ba_nil_append]
  unfold wire_Text.body wire_Text.P wire_Text.B
  by_cases c1 : a0_0 = 1
  · obtain ⟨h1, h2, h3⟩ := g1 c1
    rw [if_pos c1, if_pos c1, wrap64_id (a0_1 + 1048576) (by omega) (by omega), wrap64_id (a0_2 + 1048576) (by omega) (by omega), wire_Text.num_ok k (by omega) _ (a0_1 + 1048576) 3 3 rfl (by decide) (by decide) (by omega) (by omega) (by (repeat rw [ByteArray.size_append]); (repeat rw [numS_size]); (try rw [hz]); omega), Option.bind_some, wire_Text.num_ok k (by omega) _ (a0_2 + 1048576) 3 3 rfl (by decide) (by decide) (by omega) (by omega) (by (repeat rw [ByteArray.size_append]); (repeat rw [numS_size]); (try rw [hz]); omega), Option.bind_some, wire_Text.raw_ok _ a0_3 (by (repeat rw [ByteArray.size_append]); (repeat rw [numS_size]); (try rw [hz]); omega) (by omega)]
    (try simp only [ba_append_assoc])
  rw [if_neg c1, if_neg c1]
  by_cases c2 : a0_0 = 2
  · have h1 := g2 c2
    rw [if_pos c2, if_pos c2, wire_Text.txt_ok k (by omega) _ a0_4 (by (repeat rw [ByteArray.size_append]); (repeat rw [numS_size]); (try rw [hz]); omega) (by omega)]
    (try simp only [ba_append_assoc])
  rw [if_neg c2, if_neg c2]
  by_cases c3 : a0_0 = 3
  · rw [if_pos c3, if_pos c3]
    unfold wire_flag.f
    by_cases hb : a0_5 = true
    · rw [if_pos hb, if_pos hb, Option.bind_some, wire_Text.num_ok k (by omega) _ 1 1 1 rfl (by decide) (by decide) (by omega) (by omega) (by (repeat rw [ByteArray.size_append]); (repeat rw [numS_size]); (try rw [hz]); omega)]
      rfl
    · rw [if_neg hb, if_neg hb, Option.bind_some, wire_Text.num_ok k (by omega) _ 0 1 1 rfl (by decide) (by decide) (by omega) (by omega) (by (repeat rw [ByteArray.size_append]); (repeat rw [numS_size]); (try rw [hz]); omega)]
      rfl
  rw [if_neg c3, if_neg c3]
  by_cases c6 : a0_0 = 6
  · obtain ⟨h1, h2, h3, h4⟩ := g6 c6
    rw [if_pos c6, if_pos c6, wire_Text.num_ok k (by omega) _ a0_6 1 1 rfl (by decide) (by decide) (by omega) (by omega) (by (repeat rw [ByteArray.size_append]); (repeat rw [numS_size]); (try rw [hz]); omega), Option.bind_some, wire_Text.num_ok k (by omega) _ a0_7 7 7 rfl (by decide) (by decide) (by omega) (by omega) (by (repeat rw [ByteArray.size_append]); (repeat rw [numS_size]); (try rw [hz]); omega), Option.bind_some, wire_Text.txt_ok k (by omega) _ a0_8 (by (repeat rw [ByteArray.size_append]); (repeat rw [numS_size]); (try rw [hz]); omega) (by omega), Option.bind_some, wire_Text.txt_ok k (by omega) _ a0_9 (by (repeat rw [ByteArray.size_append]); (repeat rw [numS_size]); (try rw [hz]); omega) (by omega)]
    (try simp only [ba_append_assoc])
  rw [if_neg c6, if_neg c6]
  by_cases c7 : a0_0 = 7
  · have h1 := g7 c7
    rw [if_pos c7, if_pos c7, wire_Text.num_ok k (by omega) _ a0_10 1 1 rfl (by decide) (by decide) (by omega) (by omega) (by (repeat rw [ByteArray.size_append]); (repeat rw [numS_size]); (try rw [hz]); omega)]
    (try simp only [ba_append_assoc])
  rw [if_neg c7, if_neg c7]
  by_cases c8 : a0_0 = 8
  · obtain ⟨h1, h2, h3, h4⟩ := g8 c8
    rw [if_pos c8, if_pos c8, wire_Text.num_ok k (by omega) _ a0_10 1 1 rfl (by decide) (by decide) (by omega) (by omega) (by (repeat rw [ByteArray.size_append]); (repeat rw [numS_size]); (try rw [hz]); omega), Option.bind_some, wire_Text.raw_ok _ a0_11 (by (repeat rw [ByteArray.size_append]); (repeat rw [numS_size]); (try rw [hz]); omega) (by omega), Option.bind_some, wire_Text.num_ok k (by omega) _ (l0_12.length : Int) 1 1 rfl (by decide) (by decide) (by omega) (by omega) (by (repeat rw [ByteArray.size_append]); (repeat rw [numS_size]); (try rw [hz]); omega), Option.bind_some, Int.toNat_natCast, wire_Text.raws_ok _ h4 _ (by (repeat rw [ByteArray.size_append]); (repeat rw [numS_size]); (try rw [hz]); omega)]
    (try simp only [ba_append_assoc])
  rw [if_neg c8, if_neg c8]
  by_cases c9 : a0_0 = 9
  · obtain ⟨h1, h2⟩ := g9 c9
    rw [if_pos c9, if_pos c9, manifest_Text.spec _ _ _ _ _ _ _ _ k (by omega) h1 h2, Option.bind_some, wire_Text.raw_ok _ _ (by (repeat rw [ByteArray.size_append]); (repeat rw [numS_size]); (try rw [hz]); omega) (by rw [manifest_Text.P_size _ _ _ _ _ _ _ _ h2.2.2.2.2.2.2.2]; omega)]
    (try simp only [ba_append_assoc])
  rw [if_neg c9, if_neg c9]
  rw [ba_append_nil]
theorem wire_Text.tot (k : Nat) (a0_0 : Int) (a0_1 : Int) (a0_2 : Int) (a0_3 : ByteArray) (a0_4 : ByteArray) (a0_5 : Bool) (a0_6 : Int) (a0_7 : Int) (a0_8 : ByteArray) (a0_9 : ByteArray) (a0_10 : Int) (a0_11 : ByteArray) (l0_12 : List ByteArray) (a0_13 : Int) (a0_14 : Int) (a0_15 : Int) (a0_16 : Int) (a0_17 : Int) (a0_18 : Int) (a0_19 : Int) (a0_20 : ByteArray) (hl : l0_12.length < 1000) (hk : 1001 ≤ k) : ∃ c t, wire_Check.f k a0_0 a0_1 a0_2 a0_3 a0_4 a0_5 a0_6 a0_7 a0_8 a0_9 a0_10 a0_11 l0_12 a0_13 a0_14 a0_15 a0_16 a0_17 a0_18 a0_19 a0_20 = some c ∧ wire_Text.f k a0_0 a0_1 a0_2 a0_3 a0_4 a0_5 a0_6 a0_7 a0_8 a0_9 a0_10 a0_11 l0_12 a0_13 a0_14 a0_15 a0_16 a0_17 a0_18 a0_19 a0_20 = some t ∧ (c = false → t = ⟨#[]⟩) := by
  obtain ⟨c, hc, hc2⟩ := wire_Check.tot k a0_0 a0_1 a0_2 a0_3 a0_4 a0_5 a0_6 a0_7 a0_8 a0_9 a0_10 a0_11 l0_12 a0_13 a0_14 a0_15 a0_16 a0_17 a0_18 a0_19 a0_20 hl hk
  by_cases h : c = true
  · subst h
    exact ⟨true, _, hc, wire_Text.spec k a0_0 a0_1 a0_2 a0_3 a0_4 a0_5 a0_6 a0_7 a0_8 a0_9 a0_10 a0_11 l0_12 a0_13 a0_14 a0_15 a0_16 a0_17 a0_18 a0_19 a0_20 hk hc (hc2 rfl).1, by simp⟩
  · have h2 : c = false := by simpa using h
    subst h2
    refine ⟨false, ⟨#[]⟩, hc, ?_, fun _ => rfl⟩
    unfold wire_Text.f
    rw [hc, Option.bind_some, if_neg (by decide)]
theorem oct_Get.go_spec (l : List UInt8) : ∀ (a j : Nat), a < 256 ^ j → j + l.length ≤ 7 → oct_Get.go l (a : Int) = ((valL l a : Nat) : Int) := by
  induction l with
  | nil => intro a j _ _; rw [oct_Get.go_nil, valL_nil]
  | cons c l ih =>
    intro a j ha hj
    have hc := c.toNat_lt
    rw [List.length_cons] at hj
    have h7 := p256_le7 (j + 1) (by omega)
    have h1 : 256 * a + c.toNat < 256 ^ (j + 1) := by rw [p256_succ]; omega
    have h2 := ih _ (j + 1) h1 (by omega)
    have h3 := get_step a c.toNat hc (Nat.lt_of_lt_of_le h1 h7)
    rw [oct_Get.go_cons, valL_cons, h3, h2]
theorem oct_Get.spec (s : ByteArray) : oct_Get.f s = some (getR s) := by
  unfold oct_Get.f getR
  by_cases h : s.size > 7
  · rw [if_pos h, if_pos h]
  · rw [if_neg h, if_neg h]
    have := oct_Get.go_spec s.data.toList 0 0 (by decide) (by rw [len_data]; omega)
    rw [show ((0 : Nat) : Int) = 0 from rfl] at this
    rw [this]
theorem oct_Reader_cut.spec (s : ByteArray) (e n : Int) : oct_Reader_cut.f s e n = some (cutT s e n) := by
  unfold oct_Reader_cut.f cutT
  by_cases h : e = 0
  · subst h
    rw [if_pos rfl, if_pos rfl]
    by_cases h1 : n < 0
    · rw [if_pos h1, if_pos h1]
    · rw [if_neg h1, if_neg h1]
      by_cases h2 : n > (s.size : Int)
      · rw [if_pos h2, if_pos h2]
      · rw [if_neg h2, if_neg h2, if_pos (by omega), if_pos (by omega)]
  · rw [if_neg h, if_neg h]
theorem oct_Reader_Num.spec (s : ByteArray) (e n : Int) (k : Nat) (hk : 1 ≤ k) : oct_Reader_Num.f k s e n = some (numT s e n) := by
  obtain ⟨k, rfl⟩ : ∃ m, k = m + 1 := ⟨k - 1, by omega⟩
  unfold oct_Reader_Num.f numT
  by_cases h : 1 ≤ n ∧ n ≤ 7
  · rw [if_neg (by omega), decide_eq_false (by omega)]
    simp only [oct_Reader_Num.j0]
    rw [if_neg (by decide), oct_Reader_cut.spec, Option.bind_some, oct_Get.spec, Option.bind_some, if_pos h]
  · have : (if n < 1 then oct_Reader_Num.j0 (k + 1) n true s e else oct_Reader_Num.j0 (k + 1) n (decide (n > 7)) s e) = oct_Reader_Num.j0 (k + 1) n true s e := by
      by_cases h1 : n < 1
      · rw [if_pos h1]
      · rw [if_neg h1, decide_eq_true (by omega)]
    rw [this]
    simp only [oct_Reader_Num.j0]
    rw [if_pos trivial, oct_Reader_cut.spec, Option.bind_some, oct_Get.spec, Option.bind_some, if_neg h]
theorem oct_Reader_Rest.spec (s : ByteArray) (e : Int) : oct_Reader_Rest.f s e = some (cutT s e (s.size : Int)) := by
  unfold oct_Reader_Rest.f
  rw [oct_Reader_cut.spec, Option.bind_some]
theorem oct_Reader_Text.spec (s : ByteArray) (e : Int) : oct_Reader_Text.f s e = some (textT s e) := by
  unfold oct_Reader_Text.f textT
  have e1 : numT s e 2 = (getR (cutT s e 2).1, (cutT s e 2).2.1, (cutT s e 2).2.2) := rfl
  rw [oct_Reader_cut.spec, Option.bind_some, oct_Get.spec, Option.bind_some, oct_Reader_cut.spec, Option.bind_some, e1]
  simp only []
  generalize hc : cutT (cutT s e 2).2.1 (cutT s e 2).2.2 (getR (cutT s e 2).1) = c
  by_cases h : c.2.2 = 0
  · rw [if_pos h, if_pos h]
  · rw [if_neg h, if_neg h]
    have := (cutT_err _ _ _ (by rw [hc]; exact h)).1
    rw [hc] at this
    rw [this]
theorem oct_Reader_Raw.spec (s : ByteArray) (e n : Int) : oct_Reader_Raw.f s e n = some (cutT s e n) := by
  unfold oct_Reader_Raw.f
  rw [oct_Reader_cut.spec, Option.bind_some]
def wire_proof.rd : Nat → ByteArray → Int → List ByteArray × ByteArray × Int
  | 0, s, e => ([], s, e)
  | n + 1, s, e => ((cutT s e 32).1 :: (wire_proof.rd n (cutT s e 32).2.1 (cutT s e 32).2.2).1, (wire_proof.rd n (cutT s e 32).2.1 (cutT s e 32).2.2).2)
theorem wire_proof.rd_length (n : Nat) : ∀ s e, (wire_proof.rd n s e).1.length = n := by
  induction n with
  | zero => intro s e; rfl
  | succ n ih => intro s e; simp [wire_proof.rd, ih]
theorem wire_proof.loop (m : Int) (hm : m ≤ 9) (x2 : Int) (x3 : ByteArray) (d : Nat) : ∀ (k i : Nat) (l : List ByteArray) (s : ByteArray) (e : Int), (i : Int) + d = m → d < k → l.length ≤ i → wire_proof.l0 k x2 x3 l m (i : Int) s e = some (x2, x3, l ++ (wire_proof.rd d s e).1, (wire_proof.rd d s e).2.1, (wire_proof.rd d s e).2.2) := by
  induction d with
  | zero =>
    intro k i l s e hi hk hl
    obtain ⟨k, rfl⟩ : ∃ q, k = q + 1 := ⟨k - 1, by omega⟩
    rw [wire_proof.l0, if_neg (by omega)]
    simp [wire_proof.rd]
  | succ d ih =>
    intro k i l s e hi hk hl
    obtain ⟨k, rfl⟩ : ∃ q, k = q + 1 := ⟨k - 1, by omega⟩
    rw [wire_proof.l0, if_pos (by omega), oct_Reader_Raw.spec, Option.bind_some, if_pos (by omega), wrap64_id _ (by omega) (by omega)]
    have h := ih k (i + 1) (l ++ [(cutT s e 32).1]) (cutT s e 32).2.1 (cutT s e 32).2.2 (by omega) (by omega) (by simp; omega)
    rw [show ((i : Int) + 1) = ((i + 1 : Nat) : Int) by omega, h]
    simp [wire_proof.rd]
theorem wire_proof.none_ (k : Nat) (hk : 1 ≤ k) (m : Int) (hm : m ≤ 0) (x2 : Int) (x3 : ByteArray) (l : List ByteArray) (s : ByteArray) (e : Int) : wire_proof.l0 k x2 x3 l m 0 s e = some (x2, x3, l, s, e) := by
  obtain ⟨k, rfl⟩ : ∃ q, k = q + 1 := ⟨k - 1, by omega⟩
  rw [wire_proof.l0, if_neg (by omega)]
theorem wire_proof.spec (s : ByteArray) (e : Int) (k : Nat) (hk : 20 ≤ k) : wire_proof.f k s e = some ((numT s e 1).1, (cutT (numT s e 1).2.1 (numT s e 1).2.2 32).1,
    wire_proof.rd (mn (numT (cutT (numT s e 1).2.1 (numT s e 1).2.2 32).2.1 (cutT (numT s e 1).2.1 (numT s e 1).2.2 32).2.2 1).1 9).toNat (numT (cutT (numT s e 1).2.1 (numT s e 1).2.2 32).2.1 (cutT (numT s e 1).2.1 (numT s e 1).2.2 32).2.2 1).2.1 (numT (cutT (numT s e 1).2.1 (numT s e 1).2.2 32).2.1 (cutT (numT s e 1).2.1 (numT s e 1).2.2 32).2.2 1).2.2) := by
  unfold wire_proof.f
  rw [oct_Reader_Num.spec _ _ _ _ (by omega), Option.bind_some, oct_Reader_Raw.spec, Option.bind_some, oct_Reader_Num.spec _ _ _ _ (by omega), Option.bind_some]
  generalize numT (cutT (numT s e 1).2.1 (numT s e 1).2.2 32).2.1 (cutT (numT s e 1).2.1 (numT s e 1).2.2 32).2.2 1 = z
  have hle : mn z.1 9 ≤ 9 := by unfold mn; split <;> omega
  by_cases h0 : 0 ≤ mn z.1 9
  · have h := wire_proof.loop (mn z.1 9) hle (numT s e 1).1 (cutT (numT s e 1).2.1 (numT s e 1).2.2 32).1 (mn z.1 9).toNat k 0 [] z.2.1 z.2.2 (by omega) (by omega) (by simp)
    rw [Int.ofNat_zero] at h
    rw [h]
    rfl
  · rw [wire_proof.none_ k (by omega) _ (by omega), Int.toNat_of_nonpos (by omega)]
    rfl
theorem wire_proof.rd_cat (l : List ByteArray) (h : ∀ t ∈ l, t.size = 32) (z : ByteArray) : wire_proof.rd l.length (catS l ++ z) 0 = (l, z, 0) := by
  induction l with
  | nil => simp [wire_proof.rd, catS, ba_nil_append]
  | cons t l ih =>
    have ht : (t.size : Int) = 32 := by have := h t (by simp); omega
    have h1 := cut_app t (catS l ++ z) 32 ht.symm
    rw [List.length_cons, wire_proof.rd, catS, ba_append_assoc, h1]
    simp only
    rw [ih (fun x hx => h x (by simp [hx]))]
theorem wire_proof.back (x : Int) (d : ByteArray) (l : List ByteArray) (z : ByteArray) (k : Nat) (hk : 20 ≤ k) (hx : 0 ≤ x ∧ x ≤ 159) (hd : d.size = 32) (hl : l.length ≤ 8) (h : ∀ t ∈ l, t.size = 32) :
    wire_proof.f k (numS x.toNat 1 ++ (d ++ (numS l.length 1 ++ (catS l ++ z)))) 0 = some (x, d, l, z, 0) := by
  rw [wire_proof.spec _ _ _ hk, show (1 : Int) = ((1 : Nat) : Int) from rfl, num_appI x 1 _ (by decide) (by decide) hx.1 (by omega)]
  simp only
  rw [cut_app d _ 32 (by omega)]
  simp only
  rw [num_app l.length 1 _ (by decide) (by decide) (by omega)]
  simp only
  have hmn : (mn (l.length : Int) 9).toNat = l.length := by unfold mn; split <;> omega
  rw [hmn, wire_proof.rd_cat l h z]
theorem manifest_Read.tot (s : ByteArray) (k : Nat) (hk : 1 ≤ k) : ∃ r, manifest_Read.f k s = some r := by
  unfold manifest_Read.f
  simp only [oct_Reader_Raw.spec, oct_Reader_Rest.spec, oct_Reader_Num.spec _ _ _ _ hk, Option.bind_some]
  split
  · split
    · obtain ⟨r, hr, _⟩ := manifest_Check.tot (numT (cutT s 0 4).2.1 (cutT s 0 4).2.2 2).1 (numT (numT (cutT s 0 4).2.1 (cutT s 0 4).2.2 2).2.1 (numT (cutT s 0 4).2.1 (cutT s 0 4).2.2 2).2.2 1).1 _ _ _ _ _ _ k hk
      rw [hr, Option.bind_some]
      split <;> exact ⟨_, rfl⟩
    · exact ⟨_, rfl⟩
  · exact ⟨_, rfl⟩
theorem manifest_Read.back (a0 a1 a2 a3 a4 a5 a6 : Int) (a7 : ByteArray) (k : Nat) (hk : 1 ≤ k) (hc : manifest_Check.f k a0 a1 a2 a3 a4 a5 a6 a7 = some true) (ok : manifest_Check.Ok a0 a1 a2 a3 a4 a5 a6 a7) : manifest_Read.f k (manifest_Text.P a0 a1 a2 a3 a4 a5 a6 a7) = some (a0, a1, a2, a3, a4, a5, a6, a7, 0) := by
  obtain ⟨g0, g1, g2, g3, g4, g5, g6, g7⟩ := ok
  unfold manifest_Read.f manifest_Text.P
  rw [oct_Reader_Raw.spec, Option.bind_some, cut_app manifest_Text.word _ 4 rfl]
  simp only
  rw [oct_Reader_Num.spec _ _ _ _ hk, Option.bind_some, show (2 : Int) = ((2 : Nat) : Int) from rfl, num_appI a0 2 _ (by decide) (by decide) (by omega) (by omega)]
  simp only
  rw [oct_Reader_Num.spec _ _ _ _ hk, Option.bind_some, show (1 : Int) = ((1 : Nat) : Int) from rfl, num_appI a1 1 _ (by decide) (by decide) (by omega) (by omega)]
  simp only
  rw [oct_Reader_Num.spec _ _ _ _ hk, Option.bind_some, show (7 : Int) = ((7 : Nat) : Int) from rfl, num_appI a2 7 _ (by decide) (by decide) (by omega) (by omega)]
  simp only
  rw [oct_Reader_Num.spec _ _ _ _ hk, Option.bind_some, num_appI a3 2 _ (by decide) (by decide) (by omega) (by omega)]
  simp only
  rw [oct_Reader_Num.spec _ _ _ _ hk, Option.bind_some, num_appI a4 2 _ (by decide) (by decide) (by omega) (by omega)]
  simp only
  rw [oct_Reader_Num.spec _ _ _ _ hk, Option.bind_some, num_appI a5 1 _ (by decide) (by decide) (by omega) (by omega)]
  simp only
  rw [oct_Reader_Num.spec _ _ _ _ hk, Option.bind_some, num_appI a6 1 _ (by decide) (by decide) (by omega) (by omega)]
  simp only
  rw [oct_Reader_Rest.spec, Option.bind_some, cut_all]
  simp only
  rw [if_pos (by rw [Go.ByteArray.toList_eq]; rfl), if_pos trivial, hc, Option.bind_some, if_pos rfl]
theorem oct_Reader_End.spec (s : ByteArray) (e : Int) : oct_Reader_End.f s e = some (endT s e, s, e) := by
  unfold oct_Reader_End.f oct_Reader_Err.f endT
  simp only [Option.bind_some]
  by_cases h : e = 0
  · subst h
    rw [if_pos rfl, if_pos rfl]
    by_cases h2 : s.toList = []
    · rw [if_pos h2, if_pos h2]
    · rw [if_neg h2, if_neg h2]
  · rw [if_neg h, if_neg h]
theorem wire_Read.body_tot (k : Nat) (hk : 1001 ≤ k) (n : Int) (s : ByteArray) (e : Int) : ∃ b, wire_Read.body k n s e = some b ∧ (b.2.2.2.2.2.2.2.2.2.2.2.1).length ≤ 9 := by
  unfold wire_Read.body
  have hm : ∀ x : Int, (mn x 9).toNat ≤ 9 := fun x => by unfold mn; split <;> omega
  have hN : ∀ s e m, oct_Reader_Num.f k s e m = some (numT s e m) := fun s e m => oct_Reader_Num.spec s e m k (by omega)
  simp only [hN, oct_Reader_Text.spec, oct_Reader_Rest.spec, Option.bind_some, wire_proof.spec _ _ k (show 20 ≤ k by omega)]
  split
  · exact ⟨_, rfl, by simp⟩
  split
  · exact ⟨_, rfl, by simp⟩
  split
  · exact ⟨_, rfl, by simp⟩
  split
  · exact ⟨_, rfl, by simp⟩
  split
  · exact ⟨_, rfl, by simp⟩
  split
  · refine ⟨_, rfl, ?_⟩
    simp only [wire_proof.rd_length]
    exact hm _
  split
  · obtain ⟨r, hr⟩ := manifest_Read.tot (cutT s e (s.size : Int)).1 k (by omega)
    rw [hr]
    exact ⟨_, rfl, by simp⟩
  · exact ⟨_, rfl, by simp⟩
theorem wire_Read.tail_tot (k : Nat) (hk : 1001 ≤ k) (a0 : ByteArray) (n : Int) (b1 : Int) (b2 : Int) (b3 : ByteArray) (b4 : ByteArray) (b5 : Bool) (b6 : Int) (b7 : Int) (b8 : ByteArray) (b9 : ByteArray) (b10 : Int) (b11 : ByteArray) (b12 : List ByteArray) (b13 : Int) (b14 : Int) (b15 : Int) (b16 : Int) (b17 : Int) (b18 : Int) (b19 : Int) (b20 : ByteArray) (s : ByteArray) (e : Int) (hl : b12.length ≤ 9) : wire_Read.tail k a0 n b1 b2 b3 b4 b5 b6 b7 b8 b9 b10 b11 b12 b13 b14 b15 b16 b17 b18 b19 b20 s e = some (0, 0, 0, (⟨#[]⟩ : ByteArray), (⟨#[]⟩ : ByteArray), false, 0, 0, (⟨#[]⟩ : ByteArray), (⟨#[]⟩ : ByteArray), 0, (⟨#[]⟩ : ByteArray), ([] : List ByteArray), 0, 0, 0, 0, 0, 0, 0, (⟨#[]⟩ : ByteArray), 3) ∨ (wire_Read.tail k a0 n b1 b2 b3 b4 b5 b6 b7 b8 b9 b10 b11 b12 b13 b14 b15 b16 b17 b18 b19 b20 s e = some (n, b1, b2, b3, b4, b5, b6, b7, b8, b9, b10, b11, b12, b13, b14, b15, b16, b17, b18, b19, b20, 0) ∧ wire_Check.f k n b1 b2 b3 b4 b5 b6 b7 b8 b9 b10 b11 b12 b13 b14 b15 b16 b17 b18 b19 b20 = some true ∧ ∃ t, wire_Text.f k n b1 b2 b3 b4 b5 b6 b7 b8 b9 b10 b11 b12 b13 b14 b15 b16 b17 b18 b19 b20 = some t ∧ t.toList = a0.toList) := by
  unfold wire_Read.tail
  rw [oct_Reader_End.spec, Option.bind_some]
  split
  · split
    · exact .inl rfl
    · rename_i h1 h2
      obtain ⟨c, t, hc, ht, hct⟩ := wire_Text.tot k n b1 b2 b3 b4 b5 b6 b7 b8 b9 b10 b11 b12 b13 b14 b15 b16 b17 b18 b19 b20 (by omega) hk
      rw [ht, Option.bind_some]
      split
      · rename_i h3
        refine .inr ⟨rfl, ?_, t, rfl, h3⟩
        cases c with
        | true => exact hc
        | false =>
          rw [hct rfl] at h3
          have h4 : (⟨#[]⟩ : ByteArray).toList = [] := by rw [Go.ByteArray.toList_eq]
          exact absurd (h3.symm.trans h4) h2
      · exact .inl rfl
  · exact .inl rfl
theorem wire_Read.tot (k : Nat) (hk : 1001 ≤ k) (s : ByteArray) : wire_Read.f k s = some (0, 0, 0, (⟨#[]⟩ : ByteArray), (⟨#[]⟩ : ByteArray), false, 0, 0, (⟨#[]⟩ : ByteArray), (⟨#[]⟩ : ByteArray), 0, (⟨#[]⟩ : ByteArray), ([] : List ByteArray), 0, 0, 0, 0, 0, 0, 0, (⟨#[]⟩ : ByteArray), 3) ∨ ∃ n b1 b2 b3 b4 b5 b6 b7 b8 b9 b10 b11 b12 b13 b14 b15 b16 b17 b18 b19 b20, wire_Read.f k s = some (n, b1, b2, b3, b4, b5, b6, b7, b8, b9, b10, b11, b12, b13, b14, b15, b16, b17, b18, b19, b20, 0) ∧ b12.length ≤ 9 ∧ wire_Check.f k n b1 b2 b3 b4 b5 b6 b7 b8 b9 b10 b11 b12 b13 b14 b15 b16 b17 b18 b19 b20 = some true ∧ ∃ t, wire_Text.f k n b1 b2 b3 b4 b5 b6 b7 b8 b9 b10 b11 b12 b13 b14 b15 b16 b17 b18 b19 b20 = some t ∧ t.toList = s.toList := by
  unfold wire_Read.f
  split
  · exact .inl rfl
  · rw [oct_Reader_Num.spec _ _ _ _ (by omega), Option.bind_some]
    obtain ⟨⟨b1, b2, b3, b4, b5, b6, b7, b8, b9, b10, b11, b12, b13, b14, b15, b16, b17, b18, b19, b20, s', e'⟩, hb, hl⟩ := wire_Read.body_tot k hk (numT s 0 1).1 (numT s 0 1).2.1 (numT s 0 1).2.2
    rw [hb, Option.bind_some]
    rcases wire_Read.tail_tot k hk s (numT s 0 1).1 b1 b2 b3 b4 b5 b6 b7 b8 b9 b10 b11 b12 b13 b14 b15 b16 b17 b18 b19 b20 s' e' hl with h | ⟨h, hc, ht⟩
    · exact .inl h
    · exact .inr ⟨_, b1, b2, b3, b4, b5, b6, b7, b8, b9, b10, b11, b12, b13, b14, b15, b16, b17, b18, b19, b20, h, hl, hc, ht⟩
theorem wire_Read.body_back (k : Nat) (a0_0 : Int) (a0_1 : Int) (a0_2 : Int) (a0_3 : ByteArray) (a0_4 : ByteArray) (a0_5 : Bool) (a0_6 : Int) (a0_7 : Int) (a0_8 : ByteArray) (a0_9 : ByteArray) (a0_10 : Int) (a0_11 : ByteArray) (l0_12 : List ByteArray) (a0_13 : Int) (a0_14 : Int) (a0_15 : Int) (a0_16 : Int) (a0_17 : Int) (a0_18 : Int) (a0_19 : Int) (a0_20 : ByteArray) (hk : 1001 ≤ k) (ok : wire_filled.Ok k a0_0 a0_1 a0_2 a0_3 a0_4 a0_5 a0_6 a0_7 a0_8 a0_9 a0_10 a0_11 l0_12 a0_13 a0_14 a0_15 a0_16 a0_17 a0_18 a0_19 a0_20) (can : wire_only.o a0_0 a0_1 a0_2 a0_3 a0_4 a0_5 a0_6 a0_7 a0_8 a0_9 a0_10 a0_11 l0_12 a0_13 a0_14 a0_15 a0_16 a0_17 a0_18 a0_19 a0_20 = (a0_0, a0_1, a0_2, a0_3, a0_4, a0_5, a0_6, a0_7, a0_8, a0_9, a0_10, a0_11, l0_12, a0_13, a0_14, a0_15, a0_16, a0_17, a0_18, a0_19, a0_20)) (z : ByteArray) (hz : a0_0 = 1 ∨ a0_0 = 9 → z = ⟨#[]⟩) : wire_Read.body k a0_0 (wire_Text.B a0_0 a0_1 a0_2 a0_3 a0_4 a0_5 a0_6 a0_7 a0_8 a0_9 a0_10 a0_11 l0_12 a0_13 a0_14 a0_15 a0_16 a0_17 a0_18 a0_19 a0_20 ++ z) 0 = some (a0_1, a0_2, a0_3, a0_4, a0_5, a0_6, a0_7, a0_8, a0_9, a0_10, a0_11, l0_12, a0_13, a0_14, a0_15, a0_16, a0_17, a0_18, a0_19, a0_20, z, 0) := by
  obtain ⟨⟨hk1, hk2⟩, g1, g2, g6, g7, g8, g9⟩ := ok
  have hN : ∀ s e m, oct_Reader_Num.f k s e m = some (numT s e m) := fun s e m => oct_Reader_Num.spec s e m k (by omega)
  unfold wire_only.o at can
  unfold wire_Read.body wire_Text.B
  by_cases c1 : a0_0 = 1
  · rw [if_pos c1] at can
    rw [if_pos c1, if_pos c1]
    simp only [Prod.mk.injEq] at can
    obtain ⟨-, -, -, -, rfl, rfl, rfl, rfl, rfl, rfl, rfl, rfl, rfl, rfl, rfl, rfl, rfl, rfl, rfl, rfl, rfl⟩ := can
    obtain ⟨h1, h2, h3⟩ := g1 c1
    obtain rfl := hz (.inl c1)
    rw [ba_append_nil, hN, Option.bind_some, show (3 : Int) = ((3 : Nat) : Int) from rfl, num_appI (a0_1 + 1048576) 3 _ (by decide) (by decide) (by omega) (by omega)]
    simp only
    rw [hN, Option.bind_some, num_appI (a0_2 + 1048576) 3 _ (by decide) (by decide) (by omega) (by omega)]
    simp only
    rw [oct_Reader_Rest.spec, Option.bind_some, cut_all]
    simp only
    rw [show a0_1 + 1048576 - 1048576 = a0_1 by omega, show a0_2 + 1048576 - 1048576 = a0_2 by omega, wrap64_id a0_1 (by omega) (by omega), wrap64_id a0_2 (by omega) (by omega)]
  rw [if_neg c1] at can
  rw [if_neg c1, if_neg c1]
  by_cases c2 : a0_0 = 2
  · rw [if_pos c2] at can
    rw [if_pos c2, if_pos c2]
    simp only [Prod.mk.injEq] at can
    obtain ⟨-, rfl, rfl, rfl, -, rfl, rfl, rfl, rfl, rfl, rfl, rfl, rfl, rfl, rfl, rfl, rfl, rfl, rfl, rfl, rfl⟩ := can
    have h1 := g2 c2
    rw [oct_Reader_Text.spec, Option.bind_some, text_app _ _ (by omega)]
  rw [if_neg c2] at can
  rw [if_neg c2, if_neg c2]
  by_cases c3 : a0_0 = 3
  · rw [if_pos c3] at can
    rw [if_pos c3, if_pos c3]
    simp only [Prod.mk.injEq] at can
    obtain ⟨-, rfl, rfl, rfl, rfl, -, rfl, rfl, rfl, rfl, rfl, rfl, rfl, rfl, rfl, rfl, rfl, rfl, rfl, rfl, rfl⟩ := can
    rw [hN, Option.bind_some, show (1 : Int) = ((1 : Nat) : Int) from rfl, num_app _ 1 _ (by decide) (by decide) (by split <;> decide)]
    cases a0_5 <;> rfl
  rw [if_neg c3] at can
  rw [if_neg c3, if_neg c3]
  by_cases c6 : a0_0 = 6
  · rw [if_pos c6] at can
    rw [if_pos c6, if_pos c6]
    simp only [Prod.mk.injEq] at can
    obtain ⟨-, rfl, rfl, rfl, rfl, rfl, -, -, -, -, rfl, rfl, rfl, rfl, rfl, rfl, rfl, rfl, rfl, rfl, rfl⟩ := can
    obtain ⟨h1, h2, h3, h4⟩ := g6 c6
    rw [ba_append_assoc, hN, Option.bind_some, show (1 : Int) = ((1 : Nat) : Int) from rfl, num_appI a0_6 1 _ (by decide) (by decide) (by omega) (by omega)]
    simp only
    rw [ba_append_assoc, hN, Option.bind_some, show (7 : Int) = ((7 : Nat) : Int) from rfl, num_appI a0_7 7 _ (by decide) (by decide) (by omega) (by omega)]
    simp only
    rw [ba_append_assoc (numS a0_8.size 2 ++ a0_8), oct_Reader_Text.spec, Option.bind_some, text_app _ _ (by omega)]
    simp only
    rw [oct_Reader_Text.spec, Option.bind_some, text_app _ _ (by omega)]
  rw [if_neg c6] at can
  rw [if_neg c6, if_neg c6]
  by_cases c7 : a0_0 = 7
  · rw [if_pos c7] at can
    rw [if_pos c7, if_pos c7]
    simp only [Prod.mk.injEq] at can
    obtain ⟨-, rfl, rfl, rfl, rfl, rfl, rfl, rfl, rfl, rfl, -, rfl, rfl, rfl, rfl, rfl, rfl, rfl, rfl, rfl, rfl⟩ := can
    have h1 := g7 c7
    rw [hN, Option.bind_some, show (1 : Int) = ((1 : Nat) : Int) from rfl, num_appI a0_10 1 _ (by decide) (by decide) (by omega) (by omega)]
  rw [if_neg c7] at can
  rw [if_neg c7, if_neg c7]
  by_cases c8 : a0_0 = 8
  · rw [if_pos c8] at can
    rw [if_pos c8, if_pos c8]
    simp only [Prod.mk.injEq] at can
    obtain ⟨-, rfl, rfl, rfl, rfl, rfl, rfl, rfl, rfl, rfl, -, -, -, rfl, rfl, rfl, rfl, rfl, rfl, rfl, rfl⟩ := can
    obtain ⟨h1, h2, h3, h4⟩ := g8 c8
    rw [ba_append_assoc, ba_append_assoc a0_11, ba_append_assoc (numS l0_12.length 1), wire_proof.back _ _ _ _ k (by omega) h1 h2 h3 h4, Option.bind_some]
  rw [if_neg c8] at can
  rw [if_neg c8, if_neg c8]
  by_cases c9 : a0_0 = 9
  · rw [if_pos c9] at can
    rw [if_pos c9, if_pos c9]
    simp only [Prod.mk.injEq] at can
    obtain ⟨-, rfl, rfl, rfl, rfl, rfl, rfl, rfl, rfl, rfl, rfl, rfl, rfl, -, -, -, -, -, -, -, -⟩ := can
    obtain ⟨h1, h2⟩ := g9 c9
    obtain rfl := hz (.inr c9)
    rw [ba_append_nil, oct_Reader_Rest.spec, Option.bind_some, cut_all]
    simp only
    rw [manifest_Read.back _ _ _ _ _ _ _ _ k (by omega) h1 h2, Option.bind_some]
  rw [if_neg c9] at can
  rw [if_neg c9, if_neg c9]
  simp only [Prod.mk.injEq] at can
  obtain ⟨-, rfl, rfl, rfl, rfl, rfl, rfl, rfl, rfl, rfl, rfl, rfl, rfl, rfl, rfl, rfl, rfl, rfl, rfl, rfl, rfl⟩ := can
  rw [ba_nil_append]
theorem wire_Text.P_size (k : Nat) (a0_0 : Int) (a0_1 : Int) (a0_2 : Int) (a0_3 : ByteArray) (a0_4 : ByteArray) (a0_5 : Bool) (a0_6 : Int) (a0_7 : Int) (a0_8 : ByteArray) (a0_9 : ByteArray) (a0_10 : Int) (a0_11 : ByteArray) (l0_12 : List ByteArray) (a0_13 : Int) (a0_14 : Int) (a0_15 : Int) (a0_16 : Int) (a0_17 : Int) (a0_18 : Int) (a0_19 : Int) (a0_20 : ByteArray) (ok : wire_filled.Ok k a0_0 a0_1 a0_2 a0_3 a0_4 a0_5 a0_6 a0_7 a0_8 a0_9 a0_10 a0_11 l0_12 a0_13 a0_14 a0_15 a0_16 a0_17 a0_18 a0_19 a0_20) : (wire_Text.P a0_0 a0_1 a0_2 a0_3 a0_4 a0_5 a0_6 a0_7 a0_8 a0_9 a0_10 a0_11 l0_12 a0_13 a0_14 a0_15 a0_16 a0_17 a0_18 a0_19 a0_20).size ≤ 400 ∧ 1 ≤ (wire_Text.P a0_0 a0_1 a0_2 a0_3 a0_4 a0_5 a0_6 a0_7 a0_8 a0_9 a0_10 a0_11 l0_12 a0_13 a0_14 a0_15 a0_16 a0_17 a0_18 a0_19 a0_20).size := by
  obtain ⟨⟨hk1, hk2⟩, g1, g2, g6, g7, g8, g9⟩ := ok
  unfold wire_Text.P wire_Text.B
  rw [ByteArray.size_append, numS_size]
  by_cases c1 : a0_0 = 1
  · have h := g1 c1
    rw [if_pos c1]
    simp only [ByteArray.size_append, numS_size]
    omega
  rw [if_neg c1]
  by_cases c2 : a0_0 = 2
  · have h := g2 c2
    rw [if_pos c2]
    simp only [ByteArray.size_append, numS_size]
    omega
  rw [if_neg c2]
  by_cases c3 : a0_0 = 3
  · skip
    rw [if_pos c3]
    simp only [ByteArray.size_append, numS_size]
    omega
  rw [if_neg c3]
  by_cases c6 : a0_0 = 6
  · have h := g6 c6
    rw [if_pos c6]
    simp only [ByteArray.size_append, numS_size]
    omega
  rw [if_neg c6]
  by_cases c7 : a0_0 = 7
  · skip
    rw [if_pos c7]
    simp only [ByteArray.size_append, numS_size]
    omega
  rw [if_neg c7]
  by_cases c8 : a0_0 = 8
  · obtain ⟨_, h2, h3, h4⟩ := g8 c8
    have h5 := catS_size l0_12 h4
    rw [if_pos c8]
    simp only [ByteArray.size_append, numS_size]
    omega
  rw [if_neg c8]
  by_cases c9 : a0_0 = 9
  · have h := manifest_Text.P_size a0_13 a0_14 a0_15 a0_16 a0_17 a0_18 a0_19 a0_20 (g9 c9).2.2.2.2.2.2.2.2
    rw [if_pos c9, h]
    omega
  rw [if_neg c9]
  have hz : (⟨#[]⟩ : ByteArray).size = 0 := rfl
  omega
theorem wire_Read.back (k : Nat) (a0_0 : Int) (a0_1 : Int) (a0_2 : Int) (a0_3 : ByteArray) (a0_4 : ByteArray) (a0_5 : Bool) (a0_6 : Int) (a0_7 : Int) (a0_8 : ByteArray) (a0_9 : ByteArray) (a0_10 : Int) (a0_11 : ByteArray) (l0_12 : List ByteArray) (a0_13 : Int) (a0_14 : Int) (a0_15 : Int) (a0_16 : Int) (a0_17 : Int) (a0_18 : Int) (a0_19 : Int) (a0_20 : ByteArray) (hk : 1001 ≤ k) (hl : l0_12.length < 1000) (hc : wire_Check.f k a0_0 a0_1 a0_2 a0_3 a0_4 a0_5 a0_6 a0_7 a0_8 a0_9 a0_10 a0_11 l0_12 a0_13 a0_14 a0_15 a0_16 a0_17 a0_18 a0_19 a0_20 = some true) : wire_Text.f k a0_0 a0_1 a0_2 a0_3 a0_4 a0_5 a0_6 a0_7 a0_8 a0_9 a0_10 a0_11 l0_12 a0_13 a0_14 a0_15 a0_16 a0_17 a0_18 a0_19 a0_20 = some (wire_Text.P a0_0 a0_1 a0_2 a0_3 a0_4 a0_5 a0_6 a0_7 a0_8 a0_9 a0_10 a0_11 l0_12 a0_13 a0_14 a0_15 a0_16 a0_17 a0_18 a0_19 a0_20) ∧ wire_Read.f k (wire_Text.P a0_0 a0_1 a0_2 a0_3 a0_4 a0_5 a0_6 a0_7 a0_8 a0_9 a0_10 a0_11 l0_12 a0_13 a0_14 a0_15 a0_16 a0_17 a0_18 a0_19 a0_20) = some (a0_0, a0_1, a0_2, a0_3, a0_4, a0_5, a0_6, a0_7, a0_8, a0_9, a0_10, a0_11, l0_12, a0_13, a0_14, a0_15, a0_16, a0_17, a0_18, a0_19, a0_20, 0) ∧ (wire_Text.P a0_0 a0_1 a0_2 a0_3 a0_4 a0_5 a0_6 a0_7 a0_8 a0_9 a0_10 a0_11 l0_12 a0_13 a0_14 a0_15 a0_16 a0_17 a0_18 a0_19 a0_20).size ≤ 400 ∧ (wire_Text.P a0_0 a0_1 a0_2 a0_3 a0_4 a0_5 a0_6 a0_7 a0_8 a0_9 a0_10 a0_11 l0_12 a0_13 a0_14 a0_15 a0_16 a0_17 a0_18 a0_19 a0_20).toList ≠ [] := by
  obtain ⟨c, hc1, hc2⟩ := wire_Check.tot k a0_0 a0_1 a0_2 a0_3 a0_4 a0_5 a0_6 a0_7 a0_8 a0_9 a0_10 a0_11 l0_12 a0_13 a0_14 a0_15 a0_16 a0_17 a0_18 a0_19 a0_20 hl hk
  rw [hc] at hc1
  obtain rfl := Option.some.inj hc1
  obtain ⟨ok, can⟩ := hc2 rfl
  have ht := wire_Text.spec k a0_0 a0_1 a0_2 a0_3 a0_4 a0_5 a0_6 a0_7 a0_8 a0_9 a0_10 a0_11 l0_12 a0_13 a0_14 a0_15 a0_16 a0_17 a0_18 a0_19 a0_20 hk hc ok
  obtain ⟨hs1, hs2⟩ := wire_Text.P_size k a0_0 a0_1 a0_2 a0_3 a0_4 a0_5 a0_6 a0_7 a0_8 a0_9 a0_10 a0_11 l0_12 a0_13 a0_14 a0_15 a0_16 a0_17 a0_18 a0_19 a0_20 ok
  have hne : (wire_Text.P a0_0 a0_1 a0_2 a0_3 a0_4 a0_5 a0_6 a0_7 a0_8 a0_9 a0_10 a0_11 l0_12 a0_13 a0_14 a0_15 a0_16 a0_17 a0_18 a0_19 a0_20).toList ≠ [] := by
    rw [Go.ByteArray.toList_eq]
    intro h
    have h2 : (wire_Text.P a0_0 a0_1 a0_2 a0_3 a0_4 a0_5 a0_6 a0_7 a0_8 a0_9 a0_10 a0_11 l0_12 a0_13 a0_14 a0_15 a0_16 a0_17 a0_18 a0_19 a0_20).data.toList.length = (wire_Text.P a0_0 a0_1 a0_2 a0_3 a0_4 a0_5 a0_6 a0_7 a0_8 a0_9 a0_10 a0_11 l0_12 a0_13 a0_14 a0_15 a0_16 a0_17 a0_18 a0_19 a0_20).size := Array.length_toList
    rw [h] at h2
    simp at h2
    omega
  refine ⟨ht, ?_, hs1, hne⟩
  have hb := wire_Read.body_back k a0_0 a0_1 a0_2 a0_3 a0_4 a0_5 a0_6 a0_7 a0_8 a0_9 a0_10 a0_11 l0_12 a0_13 a0_14 a0_15 a0_16 a0_17 a0_18 a0_19 a0_20 hk ok can ⟨#[]⟩ (fun _ => rfl)
  rw [ba_append_nil] at hb
  have hn : numT (wire_Text.P a0_0 a0_1 a0_2 a0_3 a0_4 a0_5 a0_6 a0_7 a0_8 a0_9 a0_10 a0_11 l0_12 a0_13 a0_14 a0_15 a0_16 a0_17 a0_18 a0_19 a0_20) 0 1 = (a0_0, wire_Text.B a0_0 a0_1 a0_2 a0_3 a0_4 a0_5 a0_6 a0_7 a0_8 a0_9 a0_10 a0_11 l0_12 a0_13 a0_14 a0_15 a0_16 a0_17 a0_18 a0_19 a0_20, 0) := by
    unfold wire_Text.P
    rw [show (1 : Int) = ((1 : Nat) : Int) from rfl]
    have := ok.1
    exact num_appI a0_0 1 _ (by decide) (by decide) (by omega) (by omega)
  unfold wire_Read.f
  rw [if_neg (by omega), oct_Reader_Num.spec _ _ _ _ (by omega), hn, Option.bind_some]
  simp only
  rw [hb, Option.bind_some]
  unfold wire_Read.tail
  rw [oct_Reader_End.spec, Option.bind_some]
  have he : endT (⟨#[]⟩ : ByteArray) 0 = 0 := by unfold endT; rw [if_pos rfl, if_pos (by rw [Go.ByteArray.toList_eq])]
  simp only
  rw [if_pos he, if_neg hne, ht, Option.bind_some, if_pos rfl]
theorem wire_Check.yes (k : Nat) (a0_0 : Int) (a0_1 : Int) (a0_2 : Int) (a0_3 : ByteArray) (a0_4 : ByteArray) (a0_5 : Bool) (a0_6 : Int) (a0_7 : Int) (a0_8 : ByteArray) (a0_9 : ByteArray) (a0_10 : Int) (a0_11 : ByteArray) (l0_12 : List ByteArray) (a0_13 : Int) (a0_14 : Int) (a0_15 : Int) (a0_16 : Int) (a0_17 : Int) (a0_18 : Int) (a0_19 : Int) (a0_20 : ByteArray) (hl : l0_12.length < 1000) (hk : 1001 ≤ k) (hf : wire_filled.f k a0_0 a0_1 a0_2 a0_3 a0_4 a0_5 a0_6 a0_7 a0_8 a0_9 a0_10 a0_11 l0_12 a0_13 a0_14 a0_15 a0_16 a0_17 a0_18 a0_19 a0_20 = some true) (ho : wire_only.o a0_0 a0_1 a0_2 a0_3 a0_4 a0_5 a0_6 a0_7 a0_8 a0_9 a0_10 a0_11 l0_12 a0_13 a0_14 a0_15 a0_16 a0_17 a0_18 a0_19 a0_20 = (a0_0, a0_1, a0_2, a0_3, a0_4, a0_5, a0_6, a0_7, a0_8, a0_9, a0_10, a0_11, l0_12, a0_13, a0_14, a0_15, a0_16, a0_17, a0_18, a0_19, a0_20)) : wire_Check.f k a0_0 a0_1 a0_2 a0_3 a0_4 a0_5 a0_6 a0_7 a0_8 a0_9 a0_10 a0_11 l0_12 a0_13 a0_14 a0_15 a0_16 a0_17 a0_18 a0_19 a0_20 = some true := by
  unfold wire_Check.f
  rw [hf, Option.bind_some, if_pos rfl, Option.bind_some, ho]
  obtain ⟨r, hr, hr2⟩ := wire_Same.tot k a0_0 a0_1 a0_2 a0_3 a0_4 a0_5 a0_6 a0_7 a0_8 a0_9 a0_10 a0_11 l0_12 a0_13 a0_14 a0_15 a0_16 a0_17 a0_18 a0_19 a0_20 a0_0 a0_1 a0_2 a0_3 a0_4 a0_5 a0_6 a0_7 a0_8 a0_9 a0_10 a0_11 l0_12 a0_13 a0_14 a0_15 a0_16 a0_17 a0_18 a0_19 a0_20 hl hk
  have h := hr2.2 ⟨rfl, rfl, rfl, rfl, rfl, rfl, rfl, rfl, rfl, rfl, rfl, rfl, rfl, rfl, rfl, rfl, rfl, rfl, rfl, rfl, rfl⟩
  rw [h] at hr
  exact hr
theorem mosaiclaw16_awake.spec (k : Nat) (hk : 1001 ≤ k) : mosaiclaw16_awake.f k = some true := by
  have h7 := wire_Read.back k (7) 0 0 (⟨#[]⟩ : ByteArray) (⟨#[]⟩ : ByteArray) false 0 0 (⟨#[]⟩ : ByteArray) (⟨#[]⟩ : ByteArray) (7) (⟨#[]⟩ : ByteArray) ([] : List ByteArray) 0 0 0 0 0 0 0 (⟨#[]⟩ : ByteArray) hk (by decide) (wire_Check.yes k (7) 0 0 (⟨#[]⟩ : ByteArray) (⟨#[]⟩ : ByteArray) false 0 0 (⟨#[]⟩ : ByteArray) (⟨#[]⟩ : ByteArray) (7) (⟨#[]⟩ : ByteArray) ([] : List ByteArray) 0 0 0 0 0 0 0 (⟨#[]⟩ : ByteArray) (by decide) hk (by rfl) (by rfl))
  rw [show wire_Text.P (7) 0 0 (⟨#[]⟩ : ByteArray) (⟨#[]⟩ : ByteArray) false 0 0 (⟨#[]⟩ : ByteArray) (⟨#[]⟩ : ByteArray) (7) (⟨#[]⟩ : ByteArray) ([] : List ByteArray) 0 0 0 0 0 0 0 (⟨#[]⟩ : ByteArray) = (⟨#[7, 7]⟩ : ByteArray) by rfl] at h7
  have h10 := wire_Read.back k (10) 0 0 (⟨#[]⟩ : ByteArray) (⟨#[]⟩ : ByteArray) false 0 0 (⟨#[]⟩ : ByteArray) (⟨#[]⟩ : ByteArray) 0 (⟨#[]⟩ : ByteArray) ([] : List ByteArray) 0 0 0 0 0 0 0 (⟨#[]⟩ : ByteArray) hk (by decide) (wire_Check.yes k (10) 0 0 (⟨#[]⟩ : ByteArray) (⟨#[]⟩ : ByteArray) false 0 0 (⟨#[]⟩ : ByteArray) (⟨#[]⟩ : ByteArray) 0 (⟨#[]⟩ : ByteArray) ([] : List ByteArray) 0 0 0 0 0 0 0 (⟨#[]⟩ : ByteArray) (by decide) hk (by rfl) (by rfl))
  rw [show wire_Text.P (10) 0 0 (⟨#[]⟩ : ByteArray) (⟨#[]⟩ : ByteArray) false 0 0 (⟨#[]⟩ : ByteArray) (⟨#[]⟩ : ByteArray) 0 (⟨#[]⟩ : ByteArray) ([] : List ByteArray) 0 0 0 0 0 0 0 (⟨#[]⟩ : ByteArray) = (⟨#[10]⟩ : ByteArray) by rfl] at h10
  have h3 := wire_Read.back k (3) 0 0 (⟨#[]⟩ : ByteArray) (⟨#[]⟩ : ByteArray) (true) 0 0 (⟨#[]⟩ : ByteArray) (⟨#[]⟩ : ByteArray) 0 (⟨#[]⟩ : ByteArray) ([] : List ByteArray) 0 0 0 0 0 0 0 (⟨#[]⟩ : ByteArray) hk (by decide) (wire_Check.yes k (3) 0 0 (⟨#[]⟩ : ByteArray) (⟨#[]⟩ : ByteArray) (true) 0 0 (⟨#[]⟩ : ByteArray) (⟨#[]⟩ : ByteArray) 0 (⟨#[]⟩ : ByteArray) ([] : List ByteArray) 0 0 0 0 0 0 0 (⟨#[]⟩ : ByteArray) (by decide) hk (by rfl) (by rfl))
  rw [show wire_Text.P (3) 0 0 (⟨#[]⟩ : ByteArray) (⟨#[]⟩ : ByteArray) (true) 0 0 (⟨#[]⟩ : ByteArray) (⟨#[]⟩ : ByteArray) 0 (⟨#[]⟩ : ByteArray) ([] : List ByteArray) 0 0 0 0 0 0 0 (⟨#[]⟩ : ByteArray) = (⟨#[3, 1]⟩ : ByteArray) by rfl] at h3
  unfold mosaiclaw16_awake.f
  rw [h7.2.1, Option.bind_some, if_pos ⟨rfl, rfl, rfl⟩, h10.1, Option.bind_some, if_pos (by rw [Go.ByteArray.toList_eq]), h3.1, Option.bind_some, if_pos (by rw [Go.ByteArray.toList_eq])]
theorem wire_Text.apart (k : Nat) (a0_0 : Int) (a0_1 : Int) (a0_2 : Int) (a0_3 : ByteArray) (a0_4 : ByteArray) (a0_5 : Bool) (a0_6 : Int) (a0_7 : Int) (a0_8 : ByteArray) (a0_9 : ByteArray) (a0_10 : Int) (a0_11 : ByteArray) (l0_12 : List ByteArray) (a0_13 : Int) (a0_14 : Int) (a0_15 : Int) (a0_16 : Int) (a0_17 : Int) (a0_18 : Int) (a0_19 : Int) (a0_20 : ByteArray) (a1_0 : Int) (a1_1 : Int) (a1_2 : Int) (a1_3 : ByteArray) (a1_4 : ByteArray) (a1_5 : Bool) (a1_6 : Int) (a1_7 : Int) (a1_8 : ByteArray) (a1_9 : ByteArray) (a1_10 : Int) (a1_11 : ByteArray) (l1_12 : List ByteArray) (a1_13 : Int) (a1_14 : Int) (a1_15 : Int) (a1_16 : Int) (a1_17 : Int) (a1_18 : Int) (a1_19 : Int) (a1_20 : ByteArray) (hk : 1001 ≤ k) (ok : wire_filled.Ok k a0_0 a0_1 a0_2 a0_3 a0_4 a0_5 a0_6 a0_7 a0_8 a0_9 a0_10 a0_11 l0_12 a0_13 a0_14 a0_15 a0_16 a0_17 a0_18 a0_19 a0_20) (can : wire_only.o a0_0 a0_1 a0_2 a0_3 a0_4 a0_5 a0_6 a0_7 a0_8 a0_9 a0_10 a0_11 l0_12 a0_13 a0_14 a0_15 a0_16 a0_17 a0_18 a0_19 a0_20 = (a0_0, a0_1, a0_2, a0_3, a0_4, a0_5, a0_6, a0_7, a0_8, a0_9, a0_10, a0_11, l0_12, a0_13, a0_14, a0_15, a0_16, a0_17, a0_18, a0_19, a0_20)) (ok1 : wire_filled.Ok k a1_0 a1_1 a1_2 a1_3 a1_4 a1_5 a1_6 a1_7 a1_8 a1_9 a1_10 a1_11 l1_12 a1_13 a1_14 a1_15 a1_16 a1_17 a1_18 a1_19 a1_20) (can1 : wire_only.o a1_0 a1_1 a1_2 a1_3 a1_4 a1_5 a1_6 a1_7 a1_8 a1_9 a1_10 a1_11 l1_12 a1_13 a1_14 a1_15 a1_16 a1_17 a1_18 a1_19 a1_20 = (a1_0, a1_1, a1_2, a1_3, a1_4, a1_5, a1_6, a1_7, a1_8, a1_9, a1_10, a1_11, l1_12, a1_13, a1_14, a1_15, a1_16, a1_17, a1_18, a1_19, a1_20)) (z : ByteArray) (h : wire_Text.P a1_0 a1_1 a1_2 a1_3 a1_4 a1_5 a1_6 a1_7 a1_8 a1_9 a1_10 a1_11 l1_12 a1_13 a1_14 a1_15 a1_16 a1_17 a1_18 a1_19 a1_20 = wire_Text.P a0_0 a0_1 a0_2 a0_3 a0_4 a0_5 a0_6 a0_7 a0_8 a0_9 a0_10 a0_11 l0_12 a0_13 a0_14 a0_15 a0_16 a0_17 a0_18 a0_19 a0_20 ++ z) : z.size = 0 := by
  have r0 := ok.1
  have r1 := ok1.1
  have h0 : numT (wire_Text.P a0_0 a0_1 a0_2 a0_3 a0_4 a0_5 a0_6 a0_7 a0_8 a0_9 a0_10 a0_11 l0_12 a0_13 a0_14 a0_15 a0_16 a0_17 a0_18 a0_19 a0_20 ++ z) 0 1 = (a0_0, wire_Text.B a0_0 a0_1 a0_2 a0_3 a0_4 a0_5 a0_6 a0_7 a0_8 a0_9 a0_10 a0_11 l0_12 a0_13 a0_14 a0_15 a0_16 a0_17 a0_18 a0_19 a0_20 ++ z, 0) := by
    unfold wire_Text.P
    rw [ba_append_assoc, show (1 : Int) = ((1 : Nat) : Int) from rfl]
    exact num_appI a0_0 1 _ (by decide) (by decide) (by omega) (by omega)
  have h1 : numT (wire_Text.P a1_0 a1_1 a1_2 a1_3 a1_4 a1_5 a1_6 a1_7 a1_8 a1_9 a1_10 a1_11 l1_12 a1_13 a1_14 a1_15 a1_16 a1_17 a1_18 a1_19 a1_20) 0 1 = (a1_0, wire_Text.B a1_0 a1_1 a1_2 a1_3 a1_4 a1_5 a1_6 a1_7 a1_8 a1_9 a1_10 a1_11 l1_12 a1_13 a1_14 a1_15 a1_16 a1_17 a1_18 a1_19 a1_20, 0) := by
    unfold wire_Text.P
    rw [show (1 : Int) = ((1 : Nat) : Int) from rfl]
    exact num_appI a1_0 1 _ (by decide) (by decide) (by omega) (by omega)
  rw [h, h0] at h1
  simp only [Prod.mk.injEq] at h1
  obtain ⟨e0, e1, _⟩ := h1
  have hz := congrArg ByteArray.size e1
  rw [ByteArray.size_append] at hz
  by_cases c1 : a0_0 = 1
  · have g := ok.2.1 c1
    have g1 := ok1.2.1 (by omega)
    unfold wire_Text.B at hz
    rw [if_pos c1, if_pos (by omega)] at hz
    simp only [ByteArray.size_append, numS_size] at hz
    omega
  by_cases c9 : a0_0 = 9
  · have g := manifest_Text.P_size a0_13 a0_14 a0_15 a0_16 a0_17 a0_18 a0_19 a0_20 (ok.2.2.2.2.2.2 c9).2.2.2.2.2.2.2.2
    have g1 := manifest_Text.P_size a1_13 a1_14 a1_15 a1_16 a1_17 a1_18 a1_19 a1_20 (ok1.2.2.2.2.2.2 (by omega)).2.2.2.2.2.2.2.2
    unfold wire_Text.B at hz
    rw [if_neg c1, if_neg (by omega), if_neg (by omega), if_neg (by omega), if_neg (by omega), if_neg (by omega), if_pos c9, if_neg (by omega), if_neg (by omega), if_neg (by omega), if_neg (by omega), if_neg (by omega), if_neg (by omega), if_pos (by omega), g, g1] at hz
    omega
  have b0 := wire_Read.body_back k a0_0 a0_1 a0_2 a0_3 a0_4 a0_5 a0_6 a0_7 a0_8 a0_9 a0_10 a0_11 l0_12 a0_13 a0_14 a0_15 a0_16 a0_17 a0_18 a0_19 a0_20 hk ok can z (fun hh => by omega)
  have b1 := wire_Read.body_back k a1_0 a1_1 a1_2 a1_3 a1_4 a1_5 a1_6 a1_7 a1_8 a1_9 a1_10 a1_11 l1_12 a1_13 a1_14 a1_15 a1_16 a1_17 a1_18 a1_19 a1_20 hk ok1 can1 ⟨#[]⟩ (fun _ => rfl)
  rw [ba_append_nil, ← e1, ← e0, b0] at b1
  simp only [Option.some.injEq, Prod.mk.injEq] at b1
  rw [b1.2.2.2.2.2.2.2.2.2.2.2.2.2.2.2.2.2.2.2.2.1]
  rfl
theorem ba_split (x y : ByteArray) (h : x.size ≤ y.size) (he : y.extract 0 x.size = x) : y = x ++ y.extract x.size y.size := by
  have h1 : y = y.extract 0 x.size ++ y.extract x.size y.size := by
    apply ByteArray.ext
    rw [ByteArray.data_append, ByteArray.data_extract, ByteArray.data_extract, Array.extract_append_extract]
    have h2 : y.data.extract 0 y.data.size = y.data := Array.extract_size
    rw [Nat.min_eq_left (Nat.zero_le _), Nat.max_eq_right h]
    exact h2.symm
  rw [he] at h1
  exact h1
theorem mosaiclaw16_WireApart.mainok (k : Nat) (a0_0 : Int) (a0_1 : Int) (a0_2 : Int) (a0_3 : ByteArray) (a0_4 : ByteArray) (a0_5 : Bool) (a0_6 : Int) (a0_7 : Int) (a0_8 : ByteArray) (a0_9 : ByteArray) (a0_10 : Int) (a0_11 : ByteArray) (l0_12 : List ByteArray) (a0_13 : Int) (a0_14 : Int) (a0_15 : Int) (a0_16 : Int) (a0_17 : Int) (a0_18 : Int) (a0_19 : Int) (a0_20 : ByteArray) (a1_0 : Int) (a1_1 : Int) (a1_2 : Int) (a1_3 : ByteArray) (a1_4 : ByteArray) (a1_5 : Bool) (a1_6 : Int) (a1_7 : Int) (a1_8 : ByteArray) (a1_9 : ByteArray) (a1_10 : Int) (a1_11 : ByteArray) (l1_12 : List ByteArray) (a1_13 : Int) (a1_14 : Int) (a1_15 : Int) (a1_16 : Int) (a1_17 : Int) (a1_18 : Int) (a1_19 : Int) (a1_20 : ByteArray) (hk : 1001 ≤ k) (hl : l0_12.length < 1000) (hl1 : l1_12.length < 1000) (hc : wire_Check.f k a0_0 a0_1 a0_2 a0_3 a0_4 a0_5 a0_6 a0_7 a0_8 a0_9 a0_10 a0_11 l0_12 a0_13 a0_14 a0_15 a0_16 a0_17 a0_18 a0_19 a0_20 = some true) (hc1 : wire_Check.f k a1_0 a1_1 a1_2 a1_3 a1_4 a1_5 a1_6 a1_7 a1_8 a1_9 a1_10 a1_11 l1_12 a1_13 a1_14 a1_15 a1_16 a1_17 a1_18 a1_19 a1_20 = some true) : mosaiclaw16_WireApart.main k a0_0 a0_1 a0_2 a0_3 a0_4 a0_5 a0_6 a0_7 a0_8 a0_9 a0_10 a0_11 l0_12 a0_13 a0_14 a0_15 a0_16 a0_17 a0_18 a0_19 a0_20 a1_0 a1_1 a1_2 a1_3 a1_4 a1_5 a1_6 a1_7 a1_8 a1_9 a1_10 a1_11 l1_12 a1_13 a1_14 a1_15 a1_16 a1_17 a1_18 a1_19 a1_20 = some true := by
  obtain ⟨ht, hr, hs, hn⟩ := wire_Read.back k a0_0 a0_1 a0_2 a0_3 a0_4 a0_5 a0_6 a0_7 a0_8 a0_9 a0_10 a0_11 l0_12 a0_13 a0_14 a0_15 a0_16 a0_17 a0_18 a0_19 a0_20 hk hl hc
  obtain ⟨ht1, hr1, hs1, hn1⟩ := wire_Read.back k a1_0 a1_1 a1_2 a1_3 a1_4 a1_5 a1_6 a1_7 a1_8 a1_9 a1_10 a1_11 l1_12 a1_13 a1_14 a1_15 a1_16 a1_17 a1_18 a1_19 a1_20 hk hl1 hc1
  unfold mosaiclaw16_WireApart.main
  rw [ht, Option.bind_some, ht1, Option.bind_some, mosaiclaw16_awake.spec k hk, Option.bind_some, if_pos rfl]
  obtain ⟨q, hq, hq2⟩ := wire_Same.tot k a0_0 a0_1 a0_2 a0_3 a0_4 a0_5 a0_6 a0_7 a0_8 a0_9 a0_10 a0_11 l0_12 a0_13 a0_14 a0_15 a0_16 a0_17 a0_18 a0_19 a0_20 a1_0 a1_1 a1_2 a1_3 a1_4 a1_5 a1_6 a1_7 a1_8 a1_9 a1_10 a1_11 l1_12 a1_13 a1_14 a1_15 a1_16 a1_17 a1_18 a1_19 a1_20 hl hk
  rw [hq, Option.bind_some]
  by_cases h : q = true
  · rw [if_pos h]
    obtain ⟨rfl, rfl, rfl, rfl, rfl, rfl, rfl, rfl, rfl, rfl, rfl, rfl, rfl, rfl, rfl, rfl, rfl, rfl, rfl, rfl, rfl⟩ := hq2.1 h
    rw [if_pos ⟨rfl, Nat.le_refl _⟩]
  · rw [if_neg h]
    have hne : ¬ (wire_Text.P a0_0 a0_1 a0_2 a0_3 a0_4 a0_5 a0_6 a0_7 a0_8 a0_9 a0_10 a0_11 l0_12 a0_13 a0_14 a0_15 a0_16 a0_17 a0_18 a0_19 a0_20).toList = (wire_Text.P a1_0 a1_1 a1_2 a1_3 a1_4 a1_5 a1_6 a1_7 a1_8 a1_9 a1_10 a1_11 l1_12 a1_13 a1_14 a1_15 a1_16 a1_17 a1_18 a1_19 a1_20).toList := by
      intro he
      rw [ba_toList_inj he, hr1] at hr
      simp only [Option.some.injEq, Prod.mk.injEq] at hr
      obtain ⟨q0, q1, q2, q3, q4, q5, q6, q7, q8, q9, q10, q11, q12, q13, q14, q15, q16, q17, q18, q19, q20, _⟩ := hr
      exact h (hq2.2 ⟨q0.symm, q1.symm, q2.symm, q3.symm, q4.symm, q5.symm, q6.symm, q7.symm, q8.symm, q9.symm, q10.symm, q11.symm, q12.symm, q13.symm, q14.symm, q15.symm, q16.symm, q17.symm, q18.symm, q19.symm, q20.symm⟩)
    rw [if_neg hne]
    by_cases hz : (wire_Text.P a1_0 a1_1 a1_2 a1_3 a1_4 a1_5 a1_6 a1_7 a1_8 a1_9 a1_10 a1_11 l1_12 a1_13 a1_14 a1_15 a1_16 a1_17 a1_18 a1_19 a1_20).size ≤ (wire_Text.P a0_0 a0_1 a0_2 a0_3 a0_4 a0_5 a0_6 a0_7 a0_8 a0_9 a0_10 a0_11 l0_12 a0_13 a0_14 a0_15 a0_16 a0_17 a0_18 a0_19 a0_20).size
    · rw [if_pos hz]
    · rw [if_neg hz, if_neg]
      intro he
      obtain ⟨c, d1, d2⟩ := wire_Check.tot k a0_0 a0_1 a0_2 a0_3 a0_4 a0_5 a0_6 a0_7 a0_8 a0_9 a0_10 a0_11 l0_12 a0_13 a0_14 a0_15 a0_16 a0_17 a0_18 a0_19 a0_20 hl hk
      rw [hc] at d1
      obtain rfl := Option.some.inj d1
      obtain ⟨c', d3, d4⟩ := wire_Check.tot k a1_0 a1_1 a1_2 a1_3 a1_4 a1_5 a1_6 a1_7 a1_8 a1_9 a1_10 a1_11 l1_12 a1_13 a1_14 a1_15 a1_16 a1_17 a1_18 a1_19 a1_20 hl1 hk
      rw [hc1] at d3
      obtain rfl := Option.some.inj d3
      have hsp := ba_split _ _ (by omega) (ba_toList_inj he)
      have h0 := wire_Text.apart k a0_0 a0_1 a0_2 a0_3 a0_4 a0_5 a0_6 a0_7 a0_8 a0_9 a0_10 a0_11 l0_12 a0_13 a0_14 a0_15 a0_16 a0_17 a0_18 a0_19 a0_20 a1_0 a1_1 a1_2 a1_3 a1_4 a1_5 a1_6 a1_7 a1_8 a1_9 a1_10 a1_11 l1_12 a1_13 a1_14 a1_15 a1_16 a1_17 a1_18 a1_19 a1_20 hk (d2 rfl).1 (d2 rfl).2 (d4 rfl).1 (d4 rfl).2 _ hsp
      have h2 := congrArg ByteArray.size hsp
      rw [ByteArray.size_append, h0] at h2
      omega
end Go.Proofs.Ytehnebddmbdnhaa.PWireApart
namespace Go.Proofs.Ytehnebddmbdnhaa.Pure
open Go.RowKit Go.Proofs.Ytehnebddmbdnhaa.PWireApart Go.Proofs.YtehnebddmbdnhaaW.PrintWords Go.Proofs.YtehnebddmbdnhaaW.PrintLast Go.Proofs.YtehnebddmbdnhaaW.PrintMore Go.Mine
theorem WireApart : mosaiclaw16_WireApart.Pure := by
  intro a0_0 a0_1 a0_2 a0_3 a0_4 a0_5 a0_6 a0_7 a0_8 a0_9 a0_10 a0_11 l0_12 a0_13 a0_14 a0_15 a0_16 a0_17 a0_18 a0_19 a0_20 a1_0 a1_1 a1_2 a1_3 a1_4 a1_5 a1_6 a1_7 a1_8 a1_9 a1_10 a1_11 l1_12 a1_13 a1_14 a1_15 a1_16 a1_17 a1_18 a1_19 a1_20
  iterate 42 intro _
  refine ⟨1001, ?_⟩
  have ha := mosaiclaw16_awake.spec 1001 (by decide)
  unfold mosaiclaw16_WireApart.f
  obtain ⟨b, hb, hb2⟩ := mosaiclaw16_Few.tot 1001 a0_0 a0_1 a0_2 a0_3 a0_4 a0_5 a0_6 a0_7 a0_8 a0_9 a0_10 a0_11 l0_12 a0_13 a0_14 a0_15 a0_16 a0_17 a0_18 a0_19 a0_20 (by decide)
  rw [hb, Option.bind_some]
  by_cases h1 : b = true
  case neg => rw [if_neg h1]; exact ha
  rw [if_pos h1]
  obtain ⟨b', hb', hb2'⟩ := mosaiclaw16_Few.tot 1001 a1_0 a1_1 a1_2 a1_3 a1_4 a1_5 a1_6 a1_7 a1_8 a1_9 a1_10 a1_11 l1_12 a1_13 a1_14 a1_15 a1_16 a1_17 a1_18 a1_19 a1_20 (by decide)
  rw [hb', Option.bind_some]
  by_cases h2 : b' = true
  case neg => rw [if_neg h2]; exact ha
  rw [if_pos h2]
  have hl := hb2 h1
  have hl1 := hb2' h2
  obtain ⟨c, hc, _⟩ := wire_Check.tot 1001 a0_0 a0_1 a0_2 a0_3 a0_4 a0_5 a0_6 a0_7 a0_8 a0_9 a0_10 a0_11 l0_12 a0_13 a0_14 a0_15 a0_16 a0_17 a0_18 a0_19 a0_20 (by omega) (by decide)
  rw [hc, Option.bind_some]
  by_cases h3 : c = true
  case neg => rw [if_neg h3]; exact ha
  rw [if_pos h3]
  subst h3
  obtain ⟨c', hc', _⟩ := wire_Check.tot 1001 a1_0 a1_1 a1_2 a1_3 a1_4 a1_5 a1_6 a1_7 a1_8 a1_9 a1_10 a1_11 l1_12 a1_13 a1_14 a1_15 a1_16 a1_17 a1_18 a1_19 a1_20 (by omega) (by decide)
  rw [hc', Option.bind_some]
  by_cases h4 : c' = true
  case neg => rw [if_neg h4]; exact ha
  rw [if_pos h4]
  subst h4
  exact mosaiclaw16_WireApart.mainok 1001 a0_0 a0_1 a0_2 a0_3 a0_4 a0_5 a0_6 a0_7 a0_8 a0_9 a0_10 a0_11 l0_12 a0_13 a0_14 a0_15 a0_16 a0_17 a0_18 a0_19 a0_20 a1_0 a1_1 a1_2 a1_3 a1_4 a1_5 a1_6 a1_7 a1_8 a1_9 a1_10 a1_11 l1_12 a1_13 a1_14 a1_15 a1_16 a1_17 a1_18 a1_19 a1_20 (by decide) (by omega) (by omega) hc hc'
end Go.Proofs.Ytehnebddmbdnhaa.Pure
