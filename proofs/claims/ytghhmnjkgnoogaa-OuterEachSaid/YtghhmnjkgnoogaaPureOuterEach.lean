/- OuterEach: for every plan, a message block joins as many auxiliary blocks as it may, unlike ones, rising; a rule has the message blocks that join it, rising, and its own block behind them. No condition. -/
import Derived.Test.YtghhmnjkgnoogaaPOuterEachx17
import Derived.Test.YtghhmnjkgnoogaaWWords
import Derived.Test.YtghhmnjkgnoogaaWMore
import Derived.Test.YtghhmnjkgnoogaaMine
import Derived.Laws.BitsAllLaws
import Derived.Lib.Repeat
import Derived.Laws.BitsLemmas
import Derived.Test.YtghhmnjkgnoogaaSha
namespace Go.Mine
open Go Go.RowKit Go.Proofs.YtghhmnjkgnoogaaW.PrintWords Go.Proofs.YtghhmnjkgnoogaaW.PrintLast Go.Proofs.YtghhmnjkgnoogaaW.PrintMore

theorem wrap64_id (n : Int) (h1 : -9223372036854775808 ≤ n) (h2 : n ≤ 9223372036854775807) : wrap64 n = n := by
  unfold wrap64
  omega
theorem wf_i64 {n : Int} (h : (Lit.int .i64 n).wf = true) : -9223372036854775808 ≤ n ∧ n ≤ 9223372036854775807 := by
  have h' : IntKind.i64.min ≤ n ∧ n ≤ IntKind.i64.max := by simpa [Lit.wf] using h
  exact h'
theorem tdiv_pos (a b : Int) (h : 0 ≤ a) : Int.tdiv a b = a / b := Int.tdiv_eq_ediv_of_nonneg h
theorem tmod_pos (a b : Int) (h : 0 ≤ a) : Int.tmod a b = a % b := Int.tmod_eq_emod_of_nonneg h

/-- Byte j of a text (0 behind its end). -/
def nb (s : ByteArray) (j : Nat) : Nat := (s.data.toList.getD j 0).toNat
theorem nb_lt (s : ByteArray) (j : Nat) : nb s j < 256 := by
  have := (s.data.toList.getD j 0).toNat_lt
  unfold nb
  omega
theorem len_data (s : ByteArray) : s.data.toList.length = s.size := by rw [Array.length_toList]; rfl
theorem nb_oob (s : ByteArray) (j : Nat) (h : s.size ≤ j) : nb s j = 0 := by
  unfold nb
  rw [List.getD_eq_getElem?_getD, List.getElem?_eq_none (by rw [len_data]; exact h)]
  rfl
theorem bt_nb (s : ByteArray) (i : Int) : bt s i = (nb s i.toNat : Int) := by
  unfold bt
  split
  · rename_i h
    unfold nb
    rw [List.getD_eq_getElem?_getD, List.getElem?_eq_getElem (by rw [len_data]; exact h)]
    rfl
  · rename_i h
    rw [nb_oob s _ (by omega)]
    rfl

/-- Bit i of a text. -/
def hb (s : ByteArray) (i : Nat) : Bool := (nb s (i / 8)).testBit (i % 8)
theorem hb_oob (s : ByteArray) (i : Nat) (h : 8 * s.size ≤ i) : hb s i = false := by
  unfold hb
  rw [nb_oob s _ (by omega)]
  exact Nat.zero_testBit _
theorem hb_lt (s : ByteArray) (i : Nat) (h : hb s i = true) : i < 8 * s.size := by
  rcases Nat.lt_or_ge i (8 * s.size) with h' | h'
  · exact h'
  · rw [hb_oob s i h'] at h
    cases h
/-- Two texts of one length and the same bits are the same. -/
theorem bytes_ext (s t : ByteArray) (hs : s.size = t.size) (h : ∀ j, j < s.size → nb s j = nb t j) : s = t := by
  have hl : s.data.toList = t.data.toList := by
    apply List.ext_getElem
    · rw [len_data, len_data]; exact hs
    · intro j h1 h2
      have := h j (by rw [len_data] at h1; exact h1)
      unfold nb at this
      rw [List.getD_eq_getElem?_getD, List.getD_eq_getElem?_getD, List.getElem?_eq_getElem h1, List.getElem?_eq_getElem h2] at this
      exact UInt8.toNat_inj.1 this
  have hd : s.data = t.data := Array.toList_inj.1 hl
  cases s; cases t
  simp only at hd
  rw [hd]
theorem hb_ext (s t : ByteArray) (hs : s.size = t.size) (h : ∀ i, i < 8 * s.size → hb s i = hb t i) : s = t := by
  apply bytes_ext s t hs
  intro j hj
  apply Nat.eq_of_testBit_eq
  intro b
  rcases Nat.lt_or_ge b 8 with hb8 | hb8
  · have := h (8 * j + b) (by omega)
    unfold hb at this
    rw [show (8 * j + b) / 8 = j by omega, show (8 * j + b) % 8 = b by omega] at this
    exact this
  · have h1 : (256 : Nat) ≤ 2 ^ b := by
      have := Nat.pow_le_pow_right (show 0 < 2 by decide) hb8
      omega
    rw [Nat.testBit_lt_two_pow (Nat.lt_of_lt_of_le (nb_lt s j) h1), Nat.testBit_lt_two_pow (Nat.lt_of_lt_of_le (nb_lt t j) h1)]

theorem testBit_div (x i : Nat) : (x / 2 ^ i % 2 == 1) = x.testBit i := by
  rw [Nat.testBit_eq_decide_div_mod_eq]
  rfl

/-- What strOfNums holds. -/
theorem strOfNums_size' (xs : List Int) : (strOfNums xs).size = xs.length := strOfNums_size xs
theorem nb_strOfNums (xs : List Int) (j : Nat) : nb (strOfNums xs) j = ((xs.getD j 0).toNat) % 256 := by
  unfold nb
  rw [strOfNums_data, List.getD_eq_getElem?_getD, List.getElem?_map, List.getD_eq_getElem?_getD]
  cases xs[j]? with
  | none => rfl
  | some v => simp
theorem nb_bytesI (s : ByteArray) (j : Nat) : (bytesI s).getD j 0 = (nb s j : Int) := by
  unfold bytesI nb
  rw [List.getD_eq_getElem?_getD, List.getElem?_map, List.getD_eq_getElem?_getD]
  cases s.data.toList[j]? with
  | none => rfl
  | some v => rfl

/-- How many bits below n are 1. -/
def rk (s : ByteArray) : Nat → Nat
  | 0 => 0
  | n + 1 => rk s n + (if hb s n = true then 1 else 0)
theorem rk_le (s : ByteArray) (n : Nat) : rk s n ≤ n := by
  induction n with
  | zero => exact Nat.le_refl _
  | succ n ih => unfold rk; split <;> omega
theorem rk_succ (s : ByteArray) (n : Nat) : rk s (n + 1) = rk s n + (if hb s n = true then 1 else 0) := rfl
theorem rk_mono (s : ByteArray) {a b : Nat} (h : a ≤ b) : rk s a ≤ rk s b := by
  induction b with
  | zero =>
    obtain rfl : a = 0 := by omega
    exact Nat.le_refl _
  | succ b ih =>
    rcases Nat.lt_or_ge a (b + 1) with h' | h'
    · have h1 := ih (by omega)
      have h2 := rk_succ s b
      omega
    · obtain rfl : a = b + 1 := by omega
      exact Nat.le_refl _
theorem rk_step (s : ByteArray) (n : Nat) (h : hb s n = true) : rk s (n + 1) = rk s n + 1 := by simp [rk, h]
theorem rk_stay (s : ByteArray) (n : Nat) (h : hb s n = false) : rk s (n + 1) = rk s n := by simp [rk, h]

end Go.Mine

namespace Go.Mine
open Go Go.RowKit Go.Proofs.YtghhmnjkgnoogaaW.PrintWords Go.Proofs.YtghhmnjkgnoogaaW.PrintLast Go.Proofs.YtghhmnjkgnoogaaW.PrintMore

set_option linter.unusedVariables false
theorem rep0 (c : Nat) : Lib.repeatL [0] c = List.replicate c (0 : UInt8) := by
  induction c with
  | zero => rfl
  | succ c ih => rw [Lib.repeatL, ih]; rfl
def zeroS (c : Nat) : ByteArray := ⟨(List.replicate c (0 : UInt8)).toArray⟩
theorem zeroS_size (c : Nat) : (zeroS c).size = c := by simp [zeroS, ByteArray.size]
theorem zeroS_nb (c j : Nat) : nb (zeroS c) j = 0 := by
  unfold nb zeroS
  simp only [List.getD_eq_getElem?_getD, List.getElem?_replicate]
  split <;> rfl
theorem nb_append (a b : ByteArray) (j : Nat) : nb (a ++ b) j = if j < a.size then nb a j else nb b (j - a.size) := by
  unfold nb
  rw [ByteArray.data_append, Array.toList_append, List.getD_eq_getElem?_getD]
  split
  · rename_i h
    rw [List.getElem?_append_left (by rw [len_data]; exact h), List.getD_eq_getElem?_getD]
  · rename_i h
    rw [List.getElem?_append_right (by rw [len_data]; omega), len_data, List.getD_eq_getElem?_getD]
theorem nb_extract (s : ByteArray) (a b j : Nat) (h : a + j < b) : nb (s.extract a b) j = nb s (a + j) := by
  unfold nb
  rw [ByteArray.data_extract, Array.toList_extract]
  simp only [List.extract_eq_take_drop, List.getD_eq_getElem?_getD]
  rw [List.getElem?_take_of_lt (by omega), List.getElem?_drop]

/-- Block j of a text by size z: m of its bytes. -/
def blkL (s : ByteArray) (z j m : Nat) : List Int := (List.range m).map fun t => ((nb s (j * z + t) : Nat) : Int)
theorem blkL_length (s : ByteArray) (z j m : Nat) : (blkL s z j m).length = m := by simp [blkL]
theorem blkL_succ (s : ByteArray) (z j m : Nat) : blkL s z j (m + 1) = blkL s z j m ++ [((nb s (j * z + m) : Nat) : Int)] := by simp [blkL, List.range_succ]
def blk (s : ByteArray) (z j : Nat) : ByteArray := strOfNums (blkL s z j z)
theorem blk_size (s : ByteArray) (z j : Nat) : (blk s z j).size = z := by rw [blk, strOfNums_size', blkL_length]
theorem blk_nb (s : ByteArray) (z j t : Nat) (h : t < z) : nb (blk s z j) t = nb s (j * z + t) := by
  rw [blk, nb_strOfNums, blkL, List.getD_eq_getElem?_getD, List.getElem?_map, List.getElem?_range h]
  have := nb_lt s (j * z + t)
  simp
  omega
def cutL (s : ByteArray) (z n : Nat) : List ByteArray := (List.range n).map (blk s z)
theorem cutL_length (s : ByteArray) (z n : Nat) : (cutL s z n).length = n := by simp [cutL]
theorem cutL_succ (s : ByteArray) (z n : Nat) : cutL s z (n + 1) = cutL s z n ++ [blk s z n] := by simp [cutL, List.range_succ]
theorem blk_piece (s : ByteArray) (z j : Nat) (hj : j * z ≤ s.size) : s.extract (j * z) (min ((j + 1) * z) s.size) ++ zeroS (z - (min ((j + 1) * z) s.size - j * z)) = blk s z j := by
  have e : (j + 1) * z = j * z + z := Nat.succ_mul j z
  have hz : (s.extract (j * z) (min ((j + 1) * z) s.size)).size = min ((j + 1) * z) s.size - j * z := by rw [ByteArray.size_extract]; omega
  refine bytes_ext _ _ ?_ fun t ht => ?_
  · rw [ByteArray.size_append, hz, zeroS_size, blk_size]; omega
  · rw [ByteArray.size_append, hz, zeroS_size] at ht
    rw [nb_append, hz, blk_nb _ _ _ _ (by omega)]
    split
    · rw [nb_extract _ _ _ _ (by omega)]
    · rw [zeroS_nb, nb_oob _ _ (by omega)]

/-- How many blocks. -/
def cntN (n z : Nat) : Nat := (n + z - 1) / z
theorem cntN_lt (n z i : Nat) (hz : 1 ≤ z) (hn : 1 ≤ n) : i * z < n ↔ i < cntN n z := by
  unfold cntN
  rw [Nat.lt_iff_add_one_le (m := i), Nat.le_div_iff_mul_le (by omega), Nat.succ_mul]
  omega
theorem cntN_mul (n z : Nat) (hz : 1 ≤ z) : cntN n z * z ≤ n + z - 1 := Nat.div_mul_le_self _ _
theorem cntN_pos (n z : Nat) (hz : 1 ≤ z) (hn : 1 ≤ n) : 1 ≤ cntN n z := (cntN_lt n z 0 hz hn).1 (by omega)
theorem cntN_le (n z : Nat) (hz : 1 ≤ z) : cntN n z ≤ n + z - 1 := Nat.div_le_self _ _
def cntI (n z : Int) : Int := if 1 ≤ n ∧ n ≤ 4096 ∧ 1 ≤ z ∧ z ≤ 64 ∧ cntN n.toNat z.toNat ≤ 96 then (cntN n.toNat z.toNat : Int) else 0
def cutR (s : ByteArray) (z : Int) : List ByteArray × Int := if ¬ (1 ≤ z ∧ z ≤ 64) ∨ s.size = 0 then ([], 1) else if cntI s.size z = 0 then ([], 2) else (cutL s z.toNat (cntI s.size z).toNat, 0)
theorem toList_inj {a b : ByteArray} (h : a.toList = b.toList) : a = b := by
  rw [Go.ByteArray.toList_eq, Go.ByteArray.toList_eq] at h
  cases a; cases b
  simpa using h
end Go.Mine

namespace Go.Mine
open Go Go.RowKit Go.Proofs.YtghhmnjkgnoogaaW.PrintWords Go.Proofs.YtghhmnjkgnoogaaW.PrintLast Go.Proofs.YtghhmnjkgnoogaaW.PrintMore
set_option linter.unusedSimpArgs false
set_option linter.unusedVariables false

/-- A number in k bytes, the highest first. -/
def beL (n : Nat) : Nat → List Int
  | 0 => []
  | k + 1 => ((n / 256 ^ k % 256 : Nat) : Int) :: beL n k
theorem beL_length (n k : Nat) : (beL n k).length = k := by
  induction k with
  | zero => rfl
  | succ k ih => simp [beL, ih]
def numS (n k : Nat) : ByteArray := strOfNums (beL n k)
theorem numS_size (n k : Nat) : (numS n k).size = k := by rw [numS, strOfNums_size', beL_length]
theorem p256_pos (k : Nat) : 0 < 256 ^ k := Nat.pow_pos (by decide)
theorem p256_succ (k : Nat) : 256 ^ (k + 1) = 256 * 256 ^ k := by rw [Nat.pow_succ, Nat.mul_comm]
theorem p256_two (k : Nat) : 2 ^ (8 * k) = 256 ^ k := by rw [Nat.pow_mul]
theorem p256_le7 (k : Nat) (h : k ≤ 7) : 256 ^ k ≤ 72057594037927936 := Nat.le_trans (Nat.pow_le_pow_right (by decide) h) (by decide)

/-- What Put answers. -/
def putR (n size : Int) : ByteArray × Int :=
  if size < 1 ∨ 7 < size then (⟨#[]⟩, 1) else if n < 0 ∨ ((256 ^ size.toNat : Nat) : Int) ≤ n then (⟨#[]⟩, 8) else (numS n.toNat size.toNat, 0)
theorem putR_size (n size : Int) : (putR n size).1.size ≤ 7 := by
  unfold putR
  split
  · decide
  · split
    · decide
    · rw [numS_size]; omega

/-- The number that bytes are, behind a. -/
def valL : List UInt8 → Nat → Nat
  | [], a => a
  | c :: l, a => valL l (256 * a + c.toNat)
theorem valL_nil (a : Nat) : valL [] a = a := rfl
theorem valL_cons (c : UInt8) (l : List UInt8) (a : Nat) : valL (c :: l) a = valL l (256 * a + c.toNat) := rfl
theorem valL_lt (l : List UInt8) : ∀ a k, a < 256 ^ k → valL l a < 256 ^ (k + l.length) := by
  induction l with
  | nil => intro a k h; exact h
  | cons c l ih =>
    intro a k h
    have hc := c.toNat_lt
    have h1 : 256 * a + c.toNat < 256 ^ (k + 1) := by rw [p256_succ]; omega
    have := ih _ _ h1
    rw [show k + 1 + l.length = k + (c :: l).length by simp; omega] at this
    exact this
def getR (s : ByteArray) : Int := if s.size > 7 then 0 else ((valL s.data.toList 0 : Nat) : Int)

theorem i64_or_nat (a b : Nat) (ha : a < 9223372036854775808) (hb : b < 9223372036854775808) : Go.bits .or .i64 (a : Int) (b : Int) = ((a ||| b : Nat) : Int) :=
  (bits_nat .i64 63 (by decide) (fun n h0 h1 => by rw [IntKind.wrap_i64]; omega) a b ha hb).2
theorem or_low (n c : Nat) (hc : c < 256) : (n * 256) ||| c = n * 256 + c := by
  have := Nat.two_pow_add_eq_or_of_lt (i := 8) (b := c) hc n
  rw [show (2 : Nat) ^ 8 * n = n * 256 by rw [Nat.mul_comm]] at this
  exact this.symm

theorem get_step (a c : Nat) (hc : c < 256) (ha : 256 * a + c < 72057594037927936) : Go.bits .or .i64 (wrap64 ((a : Int) * 256)) (wrap64 (c : Int)) = ((256 * a + c : Nat) : Int) := by
  have e1 : wrap64 ((a : Int) * 256) = ((a * 256 : Nat) : Int) := by
    rw [wrap64_id _ (by omega) (by omega)]
    omega
  have e2 : wrap64 (c : Int) = (c : Int) := wrap64_id _ (by omega) (by omega)
  have e3 := i64_or_nat (a * 256) c (by omega) (by omega)
  rw [or_low _ _ hc] at e3
  rw [e1, e2, e3]
  omega

/-- The bytes of a number say it. -/
theorem ofNat_toNat (x : Nat) (h : x < 256) : (UInt8.ofNat x).toNat = x := by simp; omega
theorem valL_be (n : Nat) (k : Nat) : ∀ a, valL ((beL n k).map fun x => UInt8.ofNat x.toNat) a = a * 256 ^ k + n % 256 ^ k := by
  induction k with
  | zero => intro a; simp [beL, valL, Nat.mod_one]
  | succ k ih =>
    intro a
    have hb : n / 256 ^ k % 256 < 256 := Nat.mod_lt _ (by decide)
    simp only [beL, List.map_cons, valL, Int.toNat_natCast]
    rw [ofNat_toNat _ hb, ih, p256_succ, Nat.mul_comm 256 (256 ^ k), Nat.mod_mul]
    rw [Nat.add_mul, Nat.mul_comm 256 a, Nat.mul_assoc, Nat.mul_comm 256 (256 ^ k), Nat.mul_comm (n / 256 ^ k % 256)]
    omega
theorem numS_data (n k : Nat) : (numS n k).data.toList = (beL n k).map fun x => UInt8.ofNat x.toNat := strOfNums_data _
theorem getR_numS (n k : Nat) (hk : k ≤ 7) (hn : n < 256 ^ k) : getR (numS n k) = (n : Int) := by
  unfold getR
  rw [if_neg (by rw [numS_size]; omega), numS_data, valL_be, Nat.zero_mul, Nat.zero_add, Nat.mod_eq_of_lt hn]

/-- Numbers of one size stand as their bytes do. -/
theorem beL_mod (n : Nat) (k : Nat) : beL (n % 256 ^ k) k = beL n k := by
  suffices h : ∀ j, j ≤ k → beL (n % 256 ^ k) j = beL n j from h k (Nat.le_refl _)
  intro j
  induction j with
  | zero => intro _; rfl
  | succ j ih =>
    intro hj
    simp only [beL]
    rw [ih (by omega)]
    congr 2
    have e : 256 ^ k = 256 ^ j * (256 * 256 ^ (k - j - 1)) := by
      rw [← p256_succ, ← Nat.pow_add]
      congr 1
      omega
    rw [e, Nat.mod_mul_right_div_self, Nat.mod_mul_right_mod]
theorem less_be (k : Nat) : ∀ a b : Nat, a < 256 ^ k → b < 256 ^ k →
    Op.bytesLess ((beL a k).map fun x => UInt8.ofNat x.toNat) ((beL b k).map fun x => UInt8.ofNat x.toNat) = decide (a < b) := by
  induction k with
  | zero =>
    intro a b ha hb
    have h1 : a = 0 := by simpa using ha
    have h2 : b = 0 := by simpa using hb
    subst h1 h2
    rfl
  | succ k ih =>
    intro a b ha hb
    rw [p256_succ] at ha hb
    have hp := p256_pos k
    have ea : a / 256 ^ k < 256 := Nat.div_lt_of_lt_mul (by rw [Nat.mul_comm]; exact ha)
    have eb : b / 256 ^ k < 256 := Nat.div_lt_of_lt_mul (by rw [Nat.mul_comm]; exact hb)
    have ih' := ih (a % 256 ^ k) (b % 256 ^ k) (Nat.mod_lt _ hp) (Nat.mod_lt _ hp)
    rw [beL_mod, beL_mod] at ih'
    simp only [beL, List.map_cons, Int.toNat_natCast, Nat.mod_eq_of_lt ea, Nat.mod_eq_of_lt eb]
    have da := Nat.div_add_mod a (256 ^ k)
    have db := Nat.div_add_mod b (256 ^ k)
    have ma := Nat.mod_lt a hp
    have mb := Nat.mod_lt b hp
    show (decide (UInt8.ofNat (a / 256 ^ k) < UInt8.ofNat (b / 256 ^ k)) || (UInt8.ofNat (a / 256 ^ k) == UInt8.ofNat (b / 256 ^ k) && Op.bytesLess _ _)) = _
    rw [ih', Bool.eq_iff_iff]
    simp only [Bool.or_eq_true, decide_eq_true_eq, Bool.and_eq_true, beq_iff_eq, UInt8.lt_iff_toNat_lt, ← UInt8.toNat_inj, ofNat_toNat _ ea, ofNat_toNat _ eb]
    generalize a / 256 ^ k = qa at *
    generalize b / 256 ^ k = qb at *
    generalize a % 256 ^ k = ra at *
    generalize b % 256 ^ k = rb at *
    generalize 256 ^ k = p at *
    constructor
    · rintro (h | ⟨h, h2⟩)
      · have := Nat.mul_le_mul_left p (show qa + 1 ≤ qb by omega)
        rw [Nat.mul_succ] at this
        omega
      · rw [h] at da; omega
    · intro h
      rcases Nat.lt_trichotomy qa qb with h1 | h1 | h1
      · exact .inl h1
      · refine .inr ⟨h1, ?_⟩
        rw [h1] at da; omega
      · have := Nat.mul_le_mul_left p (show qb + 1 ≤ qa by omega)
        rw [Nat.mul_succ] at this
        omega
theorem beL_inj (k : Nat) : ∀ a b : Nat, a < 256 ^ k → b < 256 ^ k → beL a k = beL b k → a = b := by
  intro a b ha hb h
  have h1 := valL_be a k 0
  have h2 := valL_be b k 0
  rw [h, h2, Nat.mod_eq_of_lt ha, Nat.mod_eq_of_lt hb] at h1
  omega
end Go.Mine

namespace Go.Mine
open Go Go.RowKit Go.Proofs.YtghhmnjkgnoogaaW.PrintWords Go.Proofs.YtghhmnjkgnoogaaW.PrintLast Go.Proofs.YtghhmnjkgnoogaaW.PrintMore
set_option linter.unusedSimpArgs false
set_option linter.unusedVariables false

/-- The number whose bits are f's, from bit 8 j + 7 down, m of them. -/
def accB (f : Nat → Bool) (j : Nat) : Nat → Nat
  | 0 => 0
  | m + 1 => 2 * accB f j m + (if f (8 * j + (7 - m)) = true then 1 else 0)
theorem accB_succ (f : Nat → Bool) (j m : Nat) : accB f j (m + 1) = 2 * accB f j m + (if f (8 * j + (7 - m)) = true then 1 else 0) := rfl
theorem accB_lt (f : Nat → Bool) (j m : Nat) : accB f j m < 2 ^ m := by
  induction m with
  | zero => exact Nat.one_pos
  | succ m ih => rw [Nat.pow_succ]; unfold accB; split <;> omega
theorem accB_bit (f : Nat → Bool) (j : Nat) (m : Nat) : m ≤ 8 → ∀ b, b < m → (accB f j m).testBit b = f (8 * j + (8 - m) + b) := by
  induction m with
  | zero => intro _ b hb; omega
  | succ m ih =>
    intro hm b hb
    cases b with
    | zero =>
      rw [Nat.testBit_zero]
      rw [accB_succ, show 8 * j + (8 - (m + 1)) + 0 = 8 * j + (7 - m) by omega]
      cases f (8 * j + (7 - m)) <;> simp <;> omega
    | succ b =>
      rw [Nat.testBit_succ, show accB f j (m + 1) / 2 = accB f j m by rw [accB_succ]; split <;> omega, ih (by omega) b (by omega)]
      congr 1
      omega

/-- The set below n of those numbers for which f is true. -/
def mkL (n : Nat) (f : Nat → Bool) (m : Nat) : List Int := (List.range m).map fun j => ((accB (fun i => decide (i < n) && f i) j 8 : Nat) : Int)
def mkS (n : Nat) (f : Nat → Bool) : ByteArray := strOfNums (mkL n f ((n + 7) / 8))
theorem mkS_size (n : Nat) (f : Nat → Bool) : (mkS n f).size = (n + 7) / 8 := by simp [mkS, strOfNums_size', mkL]
theorem mkS_hb (n : Nat) (f : Nat → Bool) (i : Nat) : hb (mkS n f) i = (decide (i < n) && f i) := by
  rcases Nat.lt_or_ge (i / 8) ((n + 7) / 8) with h | h
  · unfold hb mkS
    rw [nb_strOfNums]
    have e : (mkL n f ((n + 7) / 8)).getD (i / 8) 0 = ((accB (fun i => decide (i < n) && f i) (i / 8) 8 : Nat) : Int) := by
      unfold mkL
      rw [List.getD_eq_getElem?_getD, List.getElem?_map, List.getElem?_range h]
      rfl
    have hl := accB_lt (fun i => decide (i < n) && f i) (i / 8) 8
    rw [e, Int.toNat_natCast, Nat.mod_eq_of_lt hl, accB_bit _ _ 8 (by omega) (i % 8) (by omega)]
    show (decide (8 * (i / 8) + (8 - 8) + i % 8 < n) && f (8 * (i / 8) + (8 - 8) + i % 8)) = _
    rw [show 8 * (i / 8) + (8 - 8) + i % 8 = i by omega]
  · rw [hb_oob _ _ (by rw [mkS_size]; omega), decide_eq_false (by omega), Bool.false_and]
theorem mkS_ext (n : Nat) (f : Nat → Bool) (s : ByteArray) (hs : s.size = (n + 7) / 8) (h : ∀ i, hb s i = (decide (i < n) && f i)) : s = mkS n f :=
  hb_ext _ _ (by rw [mkS_size]; exact hs) (fun i _ => by rw [h, mkS_hb])
theorem mkS_congr (n : Nat) (f g : Nat → Bool) (h : ∀ i, i < n → f i = g i) : mkS n f = mkS n g :=
  hb_ext _ _ (by rw [mkS_size, mkS_size]) (fun i _ => by
    rw [mkS_hb, mkS_hb]
    by_cases hi : i < n
    · rw [h i hi]
    · simp [hi])

/-- A text that is a set below n. -/
def IsSet (n : Int) (s : ByteArray) : Prop := 0 ≤ n ∧ n ≤ 160 ∧ s.size = (n.toNat + 7) / 8 ∧ ∀ i, n.toNat ≤ i → hb s i = false
noncomputable def chk (n : Int) (s : ByteArray) : Bool := @decide (IsSet n s) (Classical.propDecidable _)
theorem chk_iff (n : Int) (s : ByteArray) : chk n s = true ↔ IsSet n s := by unfold chk; exact @decide_eq_true_iff _ (Classical.propDecidable _)
theorem chk_of (n : Int) (s : ByteArray) (b : Bool) (h : b = true ↔ IsSet n s) : chk n s = b := by
  rw [Bool.eq_iff_iff, chk_iff, h]
theorem IsSet.eq {n : Int} {s : ByteArray} (h : IsSet n s) : s = mkS n.toNat (hb s) :=
  mkS_ext _ _ _ h.2.2.1 (fun i => by
    by_cases hi : i < n.toNat
    · simp [hi]
    · rw [h.2.2.2 i (by omega)]; simp [hi])
theorem isSet_mkS (n : Int) (h0 : 0 ≤ n) (h1 : n ≤ 160) (f : Nat → Bool) : IsSet n (mkS n.toNat f) :=
  ⟨h0, h1, mkS_size _ _, fun i hi => by rw [mkS_hb, decide_eq_false (by omega), Bool.false_and]⟩

/-- A set's numbers below n. -/
def lstUp (s : ByteArray) (n : Nat) : List Int := ((List.range n).filter (hb s)).map fun (j : Nat) => (j : Int)
theorem lstUp_succ (s : ByteArray) (n : Nat) : lstUp s (n + 1) = lstUp s n ++ (if hb s n = true then [(n : Int)] else []) := by
  unfold lstUp
  rw [List.range_succ, List.filter_append, List.map_append]
  cases h : hb s n <;> simp [h]
theorem lstUp_length (s : ByteArray) (n : Nat) : (lstUp s n).length = rk s n := by
  induction n with
  | zero => rfl
  | succ n ih => rw [lstUp_succ, List.length_append, ih, rk_succ]; split <;> rfl
theorem lstUp_mem (s : ByteArray) (n : Nat) (x : Int) : x ∈ lstUp s n ↔ ∃ i : Nat, i < n ∧ hb s i = true ∧ x = (i : Int) := by
  unfold lstUp
  simp only [List.mem_map, List.mem_filter, List.mem_range]
  constructor
  · rintro ⟨i, ⟨h1, h2⟩, rfl⟩; exact ⟨i, h1, h2, rfl⟩
  · rintro ⟨i, h1, h2, rfl⟩; exact ⟨i, ⟨h1, h2⟩, rfl⟩
theorem lstUp_getElem (s : ByteArray) (n : Nat) : ∀ k, k < (lstUp s n).length → ∃ e : Nat, (lstUp s n).getD k 0 = (e : Int) ∧ e < n ∧ hb s e = true ∧ rk s e = k := by
  induction n with
  | zero => intro k hk; simp [lstUp] at hk
  | succ n ih =>
    intro k hk
    rw [lstUp_length] at hk
    rcases Nat.lt_or_ge k (rk s n) with h | h
    · obtain ⟨e, h1, h2, h3, h4⟩ := ih k (by rw [lstUp_length]; exact h)
      refine ⟨e, ?_, by omega, h3, h4⟩
      rw [lstUp_succ, List.getD_eq_getElem?_getD, List.getElem?_append_left (by rw [lstUp_length]; exact h), ← List.getD_eq_getElem?_getD, h1]
    · have hh : hb s n = true := by
        cases hb' : hb s n with
        | true => rfl
        | false => rw [rk_stay s n hb'] at hk; omega
      have hk' := hk
      rw [rk_step s n hh] at hk'
      have hkk : k = rk s n := by omega
      refine ⟨n, ?_, by omega, hh, hkk.symm⟩
      rw [lstUp_succ, if_pos hh, List.getD_eq_getElem?_getD, List.getElem?_append_right (by rw [lstUp_length]; omega), lstUp_length, hkk, Nat.sub_self]
      rfl

/-- The bits of bytes as numbers. -/
theorem hb_strOfNums (xs : List Int) (i : Nat) : hb (strOfNums xs) i = (((xs.getD (i / 8) 0).toNat % 256).testBit (i % 8)) := by unfold hb; rw [nb_strOfNums]
def Bytes (xs : List Int) : Prop := ∀ j, 0 ≤ xs.getD j 0 ∧ xs.getD j 0 < 256
theorem bytes_bytesI (s : ByteArray) : Bytes (bytesI s) := fun j => by rw [nb_bytesI]; have := nb_lt s j; omega
theorem bytes_set {xs : List Int} (h : Bytes xs) (j : Nat) (v : Int) (h0 : 0 ≤ v) (h1 : v < 256) : Bytes (xs.set j v) := fun i => by
  rw [List.getD_eq_getElem?_getD, List.getElem?_set]
  split
  · split
    · exact ⟨h0, h1⟩
    · exact ⟨Int.le_refl _, by decide⟩
  · rw [← List.getD_eq_getElem?_getD]; exact h i
theorem getD_set (xs : List Int) (j i : Nat) (v : Int) (hj : j < xs.length) : (xs.set j v).getD i 0 = if i = j then v else xs.getD i 0 := by
  rw [List.getD_eq_getElem?_getD, List.getElem?_set]
  by_cases h : j = i
  · subst h; simp [hj]
  · rw [if_neg h, if_neg (fun e => h e.symm), List.getD_eq_getElem?_getD]
theorem strOfNums_bytesI (s : ByteArray) : strOfNums (bytesI s) = s := by
  apply bytes_ext
  · rw [strOfNums_size', bytesI_length]
  · intro j _
    rw [nb_strOfNums, nb_bytesI, Int.toNat_natCast, Nat.mod_eq_of_lt (nb_lt s j)]
theorem pow_mod_256 (b : Nat) (h : b < 8) : (2 ^ b % 256 : Int) = ((2 ^ b : Nat) : Int) ∧ 2 ^ b < 256 := by
  have h2 : 2 ^ b < 2 ^ 8 := Nat.pow_lt_pow_right (by decide) h
  have h3 : (2 : Nat) ^ 8 = 256 := by decide
  have h4 : ((2 : Int) ^ b) = ((2 ^ b : Nat) : Int) := by simp
  rw [h4]
  rw [h3] at h2
  clear h4 h3
  generalize (2 : Nat) ^ b = q at *
  exact ⟨Int.emod_eq_of_lt (by omega) (by omega), h2⟩
theorem testBit_pow (a b : Nat) : (2 ^ a).testBit b = decide (a = b) := Nat.testBit_two_pow

theorem turnS_size (s : ByteArray) (i : Int) : (turnS s i).size = s.size := by unfold turnS; rw [strOfNums_size', List.length_set, bytesI_length]
theorem turnS_hb (s : ByteArray) (i : Nat) (hi : i / 8 < s.size) (j : Nat) : hb (turnS s (i : Int)) j = if j = i then !hb s i else hb s j := by
  unfold turnS
  rw [hb_strOfNums, show ((i : Int) / 8).toNat = i / 8 by omega, show ((i : Int) % 8).toNat = i % 8 by omega, getD_set _ _ _ _ (by rw [bytesI_length]; exact hi), nb_bytesI]
  obtain ⟨hp, hq⟩ := pow_mod_256 (i % 8) (by omega)
  rw [hp, u8_xor_nat _ _ (nb_lt _ _) hq]
  by_cases h8 : j / 8 = i / 8
  · rw [if_pos h8, Int.toNat_natCast, Nat.mod_eq_of_lt (Nat.xor_lt_two_pow (n := 8) (nb_lt _ _) hq), Nat.testBit_xor, testBit_pow]
    unfold hb
    by_cases hj : j = i
    · rw [if_pos hj, hj]; simp
    · rw [if_neg hj, decide_eq_false (by omega), Bool.xor_false, h8]
  · rw [if_neg h8, if_neg (by omega), nb_bytesI, Int.toNat_natCast, Nat.mod_eq_of_lt (nb_lt _ _)]
    rfl

theorem bytes_fullB (n : Int) (z : List Int) (hz : Bytes z) (k : Nat) : Bytes (fullB n z k) := by
  induction k with
  | zero => exact hz
  | succ k ih =>
    unfold fullB
    split
    · obtain ⟨hp, hq⟩ := pow_mod_256 (k % 8) (by omega)
      have hx := ih (k / 8)
      rw [hp]
      have := u8_or ((fullB n z k).getD (k / 8) 0) ((2 ^ (k % 8) : Nat) : Int) hx.1 hx.2 (by omega) (by omega)
      rw [this]
      refine bytes_set ih _ _ (by omega) ?_
      have := Nat.or_lt_two_pow (n := 8) (x := ((fullB n z k).getD (k / 8) 0).toNat) (y := ((2 ^ (k % 8) : Nat) : Int).toNat) (by omega) (by omega)
      omega
    · exact ih
theorem fullB_hb (n : Int) (z : List Int) (hz : Bytes z) (k : Nat) : k ≤ 8 * z.length → ∀ i, hb (strOfNums (fullB n z k)) i = ((decide (i < k) && decide ((i : Int) < n)) || hb (strOfNums z) i) := by
  induction k with
  | zero => intro _ i; simp [fullB]
  | succ k ih =>
    intro hk i
    have ih := ih (by omega)
    unfold fullB
    by_cases hn : (k : Int) < n
    · rw [if_pos hn]
      obtain ⟨hp, hq⟩ := pow_mod_256 (k % 8) (by omega)
      have hx := bytes_fullB n z hz k (k / 8)
      rw [hp, u8_or ((fullB n z k).getD (k / 8) 0) ((2 ^ (k % 8) : Nat) : Int) hx.1 hx.2 (by omega) (by omega), hb_strOfNums, getD_set _ _ _ _ (by rw [fullB_length]; omega)]
      have hi := ih i
      rw [hb_strOfNums] at hi
      by_cases h8 : i / 8 = k / 8
      · rw [if_pos h8, Int.toNat_natCast]
        rw [h8] at hi
        have hl := Nat.or_lt_two_pow (n := 8) (x := ((fullB n z k).getD (k / 8) 0).toNat) (y := ((2 ^ (k % 8) : Nat) : Int).toNat) (by omega) (by omega)
        rw [Nat.mod_eq_of_lt hl, Nat.testBit_or, Int.toNat_natCast, testBit_pow]
        rw [Nat.mod_eq_of_lt (by omega)] at hi
        rw [hi]
        by_cases hik : i = k
        · subst hik; simp [hn]
        · rw [decide_eq_false (show ¬ k % 8 = i % 8 by omega), Bool.or_false]
          congr 2
          rw [Bool.eq_iff_iff]; simp; omega
      · rw [if_neg h8, hi]
        congr 2
        rw [Bool.eq_iff_iff]; simp; omega
    · rw [if_neg hn, ih i]
      by_cases hik : i = k
      · subst hik; simp [hn]
      · congr 2
        rw [Bool.eq_iff_iff]; simp; omega

/-- A loop that sets each byte of a to 'op a[i] b[i]'. -/
theorem bothB_get (op : BinOp) (a b : List Int) (k : Nat) : k ≤ a.length → ∀ j, (bothB op a b k).getD j 0 = if j < k then Go.bits op .u8 (a.getD j 0) (b.getD j 0) else a.getD j 0 := by
  induction k with
  | zero => intro _ j; simp [bothB]
  | succ k ih =>
    intro hk j
    have ih := ih (by omega)
    unfold bothB
    rw [getD_set _ _ _ _ (by rw [bothB_length]; omega), ih k, if_neg (Nat.lt_irrefl _)]
    by_cases h : j = k
    · subst h; rw [if_pos rfl, if_pos (by omega)]
    · rw [if_neg h, ih j]
      by_cases h2 : j < k
      · rw [if_pos h2, if_pos (by omega)]
      · rw [if_neg h2, if_neg (by omega)]
def bothS (op : BinOp) (a b : ByteArray) : ByteArray := strOfNums (bothB op (bytesI a) (bytesI b) a.size)
theorem bothS_size (op : BinOp) (a b : ByteArray) : (bothS op a b).size = a.size := by unfold bothS; rw [strOfNums_size', bothB_length, bytesI_length]
theorem bothS_nb (op : BinOp) (a b : ByteArray) (j : Nat) (hj : j < a.size) : nb (bothS op a b) j = (Go.bits op .u8 (nb a j) (nb b j)).toNat % 256 := by
  unfold bothS
  rw [nb_strOfNums, bothB_get _ _ _ _ (by rw [bytesI_length]; exact Nat.le_refl _), if_pos hj, nb_bytesI, nb_bytesI]
theorem and_hb (a b : ByteArray) (i : Nat) : hb (bothS .and a b) i = (hb a i && hb b i) := by
  rcases Nat.lt_or_ge (i / 8) a.size with h | h
  · unfold hb
    rw [bothS_nb _ _ _ _ h, u8_and_nat _ _ (nb_lt _ _) (nb_lt _ _), Int.toNat_natCast, Nat.mod_eq_of_lt (Nat.lt_of_le_of_lt Nat.and_le_left (nb_lt _ _)), Nat.testBit_and]
  · rw [hb_oob _ i (by rw [bothS_size]; omega), hb_oob a i (by omega), Bool.false_and]
theorem or_hb (a b : ByteArray) (hs : a.size = b.size) (i : Nat) : hb (bothS .or a b) i = (hb a i || hb b i) := by
  rcases Nat.lt_or_ge (i / 8) a.size with h | h
  · unfold hb
    rw [bothS_nb _ _ _ _ h, u8_or_nat _ _ (nb_lt _ _) (nb_lt _ _), Int.toNat_natCast, Nat.mod_eq_of_lt (Nat.or_lt_two_pow (n := 8) (nb_lt _ _) (nb_lt _ _)), Nat.testBit_or]
  · rw [hb_oob _ i (by rw [bothS_size]; omega), hb_oob a i (by omega), hb_oob b i (by omega), Bool.false_or]
theorem minus_hb (a b : ByteArray) (i : Nat) : hb (bothS .andNot a b) i = (hb a i && !hb b i) := by
  rcases Nat.lt_or_ge (i / 8) a.size with h | h
  · unfold hb
    have hb8 := nb_lt b (i / 8)
    rw [bothS_nb _ _ _ _ h, u8_andNot_nat _ _ (nb_lt _ _) (nb_lt _ _), Int.toNat_natCast, Nat.mod_eq_of_lt (Nat.lt_of_le_of_lt Nat.and_le_left (nb_lt _ _)), Nat.testBit_and]
    congr 1
    have := Nat.testBit_two_pow_sub_succ (n := 8) (x := nb b (i / 8)) hb8 (i % 8)
    rw [show 2 ^ 8 - (nb b (i / 8) + 1) = 255 - nb b (i / 8) by omega] at this
    rw [this, decide_eq_true (by omega), Bool.true_and]
  · rw [hb_oob _ i (by rw [bothS_size]; omega), hb_oob a i (by omega), Bool.false_and]

/-- The place of the bit of rank k, from i on. -/
def nthFrom (s : ByteArray) (k : Int) : Nat → Nat → Int
  | 0, _ => -1
  | d + 1, i => if hb s i = true ∧ ((rk s i : Nat) : Int) = k then (i : Int) else nthFrom s k d (i + 1)
theorem nthFrom_hit (s : ByteArray) (k : Int) (e : Nat) (he : hb s e = true) (hr : ((rk s e : Nat) : Int) = k) (d : Nat) : ∀ i, i ≤ e → e < i + d → nthFrom s k d i = (e : Int) := by
  induction d with
  | zero => intro i h1 h2; omega
  | succ d ih =>
    intro i h1 h2
    unfold nthFrom
    by_cases h : i = e
    · subst h; rw [if_pos ⟨he, hr⟩]
    · rw [if_neg, ih (i + 1) (by omega) (by omega)]
      rintro ⟨h3, h4⟩
      have h5 := rk_step s i h3
      have h6 := rk_mono s (show i + 1 ≤ e by omega)
      omega
theorem nthFrom_miss (s : ByteArray) (k : Int) (d : Nat) : ∀ i, (∀ j, i ≤ j → j < i + d → hb s j = true → ((rk s j : Nat) : Int) ≠ k) → nthFrom s k d i = -1 := by
  induction d with
  | zero => intro i _; rfl
  | succ d ih =>
    intro i h
    unfold nthFrom
    rw [if_neg (fun hh => h i (Nat.le_refl _) (by omega) hh.1 hh.2), ih (i + 1) (fun j h1 h2 => h j (by omega) (by omega))]
end Go.Mine

namespace Go.Mine
open Go Go.RowKit Go.Proofs.YtghhmnjkgnoogaaW.PrintWords Go.Proofs.YtghhmnjkgnoogaaW.PrintLast Go.Proofs.YtghhmnjkgnoogaaW.PrintMore
set_option linter.unusedVariables false
theorem xor_nb (a b : ByteArray) (j : Nat) (hj : j < a.size) : nb (bothS .xor a b) j = nb a j ^^^ nb b j := by
  rw [bothS_nb _ _ _ _ hj, u8_xor_nat _ _ (nb_lt _ _) (nb_lt _ _), Int.toNat_natCast, Nat.mod_eq_of_lt (Nat.xor_lt_two_pow (n := 8) (nb_lt _ _) (nb_lt _ _))]
/-- Texts summed one behind the other. -/
def xsum (t : ByteArray) : List ByteArray → ByteArray
  | [] => t
  | s :: l => xsum (bothS .xor t s) l
theorem xsum_size (l : List ByteArray) : ∀ t, (xsum t l).size = t.size := by
  induction l with
  | nil => intro t; rfl
  | cons s l ih => intro t; rw [xsum, ih, bothS_size]
theorem bytesI_strOfNums (xs : List Int) (h : Bytes xs) : bytesI (strOfNums xs) = xs := by
  refine List.ext_getElem (by rw [bytesI_length, strOfNums_size']) fun j h1 h2 => ?_
  have e1 := nb_bytesI (strOfNums xs) j
  have e2 := nb_strOfNums xs j
  have e3 := h j
  rw [List.getD_eq_getElem?_getD, List.getElem?_eq_getElem h1] at e1
  rw [List.getD_eq_getElem?_getD, List.getElem?_eq_getElem h2] at e2 e3
  simp only [Option.getD_some] at e1 e2 e3
  omega
theorem bytes_xor (x : List Int) (hx : Bytes x) (s : ByteArray) (n : Nat) (hn : n ≤ x.length) : Bytes (bothB .xor x (bytesI s) n) := by
  intro j
  rw [bothB_get _ _ _ _ hn]
  split
  · have h1 := hx j
    have h2 := bytes_bytesI s j
    rw [u8_xor _ _ h1.1 h1.2 h2.1 h2.2]
    have := Nat.xor_lt_two_pow (n := 8) (x := (x.getD j 0).toNat) (y := ((bytesI s).getD j 0).toNat) (by omega) (by omega)
    omega
  · exact hx j
theorem bothB_step (x : List Int) (hx : Bytes x) (s : ByteArray) : strOfNums (bothB .xor x (bytesI s) x.length) = bothS .xor (strOfNums x) s := by
  unfold bothS
  rw [bytesI_strOfNums x hx, strOfNums_size']
def xorL (a b : ByteArray) (m : Nat) : List Int := (List.range m).map fun t => Go.bits .xor .u8 ((nb a t : Nat) : Int) ((nb b t : Nat) : Int)
theorem xorL_length (a b : ByteArray) (m : Nat) : (xorL a b m).length = m := by simp [xorL]
theorem xorL_succ (a b : ByteArray) (m : Nat) : xorL a b (m + 1) = xorL a b m ++ [Go.bits .xor .u8 ((nb a m : Nat) : Int) ((nb b m : Nat) : Int)] := by simp [xorL, List.range_succ]
theorem xorL_str (a b : ByteArray) : strOfNums (xorL a b a.size) = bothS .xor a b := by
  refine bytes_ext _ _ (by rw [strOfNums_size', xorL_length, bothS_size]) fun j hj => ?_
  rw [strOfNums_size', xorL_length] at hj
  rw [bothS_nb _ _ _ _ hj, nb_strOfNums, xorL, List.getD_eq_getElem?_getD, List.getElem?_map, List.getElem?_range hj]
  rfl
def xorR (a b : ByteArray) : ByteArray × Int := if a.size = b.size then (bothS .xor a b, 0) else (⟨#[]⟩, 1)
def odd (l : List ByteArray) (z : Int) : Bool := l.any fun s => !((s.size : Int) == z)
def sumR (l : List ByteArray) (z : Int) : ByteArray × Int := if ¬ (1 ≤ z ∧ z ≤ 64) then (⟨#[]⟩, 1) else if odd l z = true then (⟨#[]⟩, 1) else (xsum (zeroS z.toNat) l, 0)
def zeroR (z : Int) : ByteArray := if 1 ≤ z ∧ z ≤ 64 then zeroS z.toNat else ⟨#[]⟩
theorem strOfNums_zero (n : Nat) : strOfNums (List.replicate n 0) = zeroS n := by
  refine bytes_ext _ _ (by rw [strOfNums_size', zeroS_size, List.length_replicate]) fun j hj => ?_
  rw [nb_strOfNums, zeroS_nb, List.getD_eq_getElem?_getD, List.getElem?_replicate]
  split <;> rfl
theorem bytes_zero (n : Nat) : Bytes (List.replicate n 0) := by
  intro j
  rw [List.getD_eq_getElem?_getD, List.getElem?_replicate]
  split <;> simp
end Go.Mine

namespace Go.Mine
open Go Go.RowKit Go.Proofs.YtghhmnjkgnoogaaW.PrintWords Go.Proofs.YtghhmnjkgnoogaaW.PrintLast Go.Proofs.YtghhmnjkgnoogaaW.PrintMore
set_option linter.unusedVariables false
/-- The length's last bytes. -/
def tailB (n : Nat) : Nat → List Int
  | 0 => []
  | d + 1 => ((8 * n : Nat) : Int) / 2 ^ (8 * d) % 256 :: tailB n d
theorem tailB_length (n d : Nat) : (tailB n d).length = d := by
  induction d with
  | zero => rfl
  | succ d ih => simp only [tailB, List.length_cons, ih]
/-- What stands behind so many bytes. -/
def padL (n : Nat) : List Int := ([128] ++ List.replicate ((119 - n % 64) % 64) 0) ++ tailB n 8
theorem padL_length (n : Nat) : (padL n).length = 9 + (119 - n % 64) % 64 := by
  simp only [padL, List.length_append, tailB_length, List.length_replicate, List.length_singleton]
  omega
theorem padL_mod (n : Nat) : (n + (padL n).length) % 64 = 0 := by rw [padL_length]; omega
theorem hashGo_spec (d : Nat) : ∀ (st p : List Int) (s : ByteArray), st.length = 8 → p.length < 64 → s.size < d → (hashGo d st p s).1.length = 8 ∧ (hashGo d st p s).2.length = (p.length + s.size) % 64 := by
  induction d with
  | zero => intro st p s _ _ h; omega
  | succ d ih =>
    intro st p s hst hp hs
    rw [hashGo]
    by_cases h : 64 ≤ p.length + s.size
    · rw [if_pos h]
      have hsz : (s.extract (64 - p.length) s.size).size = s.size - (64 - p.length) := by rw [ByteArray.size_extract]; omega
      have := ih (mixW st (p ++ bytesOf (s.extract 0 (64 - p.length)))) [] (s.extract (64 - p.length) s.size) (mixW_length _ _) (by decide) (by rw [hsz]; omega)
      refine ⟨this.1, ?_⟩
      rw [this.2, hsz]
      simp only [List.length_nil]
      omega
    · rw [if_neg h]
      refine ⟨hst, ?_⟩
      simp only [List.length_append, bytesOf_length]
      omega
/-- The sum of bytes. -/
def shaS (s : ByteArray) : ByteArray := if 65536 < s.size then ⟨#[]⟩ else hsumS (hashGo (s.size + 1) shaStart [] s).1 (hashGo (s.size + 1) shaStart [] s).2 (strOfNums (padL s.size))
theorem hsumS_size (st p : List Int) (pd : ByteArray) (h : st.length = 8) : (hsumS st p pd).size = 32 := by
  rw [hsumS, strOfNums_size', outW_length, foldW_length _ _ _ h]
theorem shaS_size (s : ByteArray) (h : s.size ≤ 65536) : (shaS s).size = 32 := by
  unfold shaS
  rw [if_neg (by omega)]
  exact hsumS_size _ _ _ (hashGo_spec (s.size + 1) shaStart [] s rfl (by decide) (by omega)).1
end Go.Mine

namespace Go.Mine
open Go Go.RowKit Go.Proofs.YtghhmnjkgnoogaaW.PrintWords Go.Proofs.YtghhmnjkgnoogaaW.PrintLast Go.Proofs.YtghhmnjkgnoogaaW.PrintMore
set_option linter.unusedVariables false
/-- A list that rises. -/
abbrev Rises (l : List Int) : Prop := l.Pairwise (· < ·)
theorem rises_ext : ∀ (a b : List Int), Rises a → Rises b → (∀ x, x ∈ a ↔ x ∈ b) → a = b
  | [], b, _, _, h => by
    cases b with
    | nil => rfl
    | cons y b => exact absurd ((h y).2 List.mem_cons_self) (by simp)
  | x :: a, [], _, _, h => absurd ((h x).1 List.mem_cons_self) (by simp)
  | x :: a, y :: b, ha, hb, h => by
    obtain ⟨ha1, ha2⟩ := List.pairwise_cons.1 ha
    obtain ⟨hb1, hb2⟩ := List.pairwise_cons.1 hb
    have hxy : x = y := by
      have h1 := (h x).1 List.mem_cons_self
      have h2 := (h y).2 List.mem_cons_self
      rcases List.mem_cons.1 h1 with e | e
      · exact e
      · rcases List.mem_cons.1 h2 with e2 | e2
        · exact e2.symm
        · have := hb1 x e
          have := ha1 y e2
          omega
    subst hxy
    rw [rises_ext a b ha2 hb2 (fun z => ⟨fun hz => by
      rcases List.mem_cons.1 ((h z).1 (List.mem_cons_of_mem _ hz)) with e | e
      · have := ha1 z hz
        omega
      · exact e, fun hz => by
      rcases List.mem_cons.1 ((h z).2 (List.mem_cons_of_mem _ hz)) with e | e
      · have := hb1 z hz
        omega
      · exact e⟩)]
/-- The numbers below n. -/
def upTo (n : Nat) : List Int := (List.range n).map fun (i : Nat) => (i : Int)
theorem upTo_length (n : Nat) : (upTo n).length = n := by simp [upTo]
theorem upTo_mem (n : Nat) (x : Int) : x ∈ upTo n ↔ 0 ≤ x ∧ x < n := by
  simp only [upTo, List.mem_map, List.mem_range]
  constructor
  · rintro ⟨i, hi, rfl⟩
    omega
  · rintro ⟨h1, h2⟩
    exact ⟨x.toNat, by omega, by omega⟩
theorem upTo_rises (n : Nat) : Rises (upTo n) := by
  unfold upTo Rises
  rw [List.pairwise_map]
  refine List.pairwise_lt_range.imp ?_
  intro a b h
  omega
theorem upTo_succ (n : Nat) : upTo (n + 1) = upTo n ++ [(n : Int)] := by simp [upTo, List.range_succ]
theorem upTo_get (n i : Nat) (h : i < n) : (upTo n).getD i 0 = (i : Int) := by simp [upTo, List.getD, h]
theorem filter_rises {l : List Int} (h : Rises l) (p : Int → Bool) : Rises (l.filter p) := h.filter p
/-- What of the numbers below n a rising list has is that list. -/
theorem filter_self (n : Nat) (l : List Int) (hl : Rises l) (hb : ∀ x ∈ l, 0 ≤ x ∧ x < n) : (upTo n).filter (fun x => l.contains x) = l := by
  refine rises_ext _ _ (filter_rises (upTo_rises n) _) hl fun x => ?_
  rw [List.mem_filter, upTo_mem]
  simp only [List.contains_iff_mem]
  exact ⟨fun h => h.2, fun h => ⟨hb x h, h⟩⟩
/-- A list without a number twice, put in order, rises. -/
theorem sort_rises (l : List Int) (hn : l.Nodup) : Rises (l.mergeSort fun x y => decide (x ≤ y)) := by
  have h1 : (l.mergeSort fun x y => decide (x ≤ y)).Pairwise (fun x y => decide (x ≤ y) = true) := List.pairwise_mergeSort (by
    intro a b c h1 h2
    simp only [decide_eq_true_eq] at *
    omega) (by
    intro a b
    simp only [Bool.or_eq_true, decide_eq_true_eq]
    omega) l
  have h2 : (l.mergeSort fun x y => decide (x ≤ y)).Nodup := (List.mergeSort_perm l _).nodup_iff.2 hn
  refine (h1.and h2).imp ?_
  intro a b ⟨h3, h4⟩
  simp only [decide_eq_true_eq] at h3
  have : a ≠ b := h4
  omega
theorem rises_nodup {l : List Int} (h : Rises l) : l.Nodup := h.imp (fun hab => by omega)
theorem sort_mem (l : List Int) (x : Int) : x ∈ (l.mergeSort fun x y => decide (x ≤ y)) ↔ x ∈ l := (List.mergeSort_perm l _).mem_iff
end Go.Mine

namespace Go.Mine
open Go Go.RowKit Go.Proofs.YtghhmnjkgnoogaaW.PrintWords Go.Proofs.YtghhmnjkgnoogaaW.PrintLast Go.Proofs.YtghhmnjkgnoogaaW.PrintMore
set_option linter.unusedVariables false
/-- The message blocks below n that join j. -/
def mem (J : Nat → List Int) (n j : Nat) : List Int := (upTo n).filter fun i => (J i.toNat).contains (j : Int)
theorem mem_rises (J : Nat → List Int) (n j : Nat) : Rises (mem J n j) := filter_rises (upTo_rises n) _
theorem mem_mem (J : Nat → List Int) (n j : Nat) (x : Int) : x ∈ mem J n j ↔ (0 ≤ x ∧ x < n) ∧ (j : Int) ∈ J x.toNat := by
  unfold mem
  rw [List.mem_filter, upTo_mem, List.contains_iff_mem]
theorem mem_succ (J : Nat → List Int) (n j : Nat) : mem J (n + 1) j = if (j : Int) ∈ J n then mem J n j ++ [(n : Int)] else mem J n j := by
  unfold mem
  rw [upTo_succ, List.filter_append]
  by_cases h : (j : Int) ∈ J n
  · simp [h]
  · simp [h]
theorem mem_zero (J : Nat → List Int) (j : Nat) : mem J 0 j = [] := rfl
theorem mem_length (J : Nat → List Int) (n j : Nat) : (mem J n j).length ≤ n := by
  have := List.length_filter_le (fun i : Int => (J i.toNat).contains (j : Int)) (upTo n)
  rw [upTo_length] at this
  exact this
/-- All rows of a table. -/
def tabL (J : Nat → List Int) (n a : Nat) : List (List Int) := (List.range a).map (mem J n)
theorem tabL_length (J : Nat → List Int) (n a : Nat) : (tabL J n a).length = a := by simp [tabL]
theorem tabL_get (J : Nat → List Int) (n a j : Nat) (h : j < a) : (tabL J n a).getD j [] = mem J n j := by simp [tabL, List.getD, h]
/-- A number laid behind some rows. -/
def addTo (rows : List (List Int)) : List Int → Int → List (List Int)
  | [], _ => rows
  | x :: T, i => addTo (rows.set x.toNat (rows.getD x.toNat [] ++ [i])) T i
theorem addTo_length (T : List Int) (i : Int) : ∀ rows, (addTo rows T i).length = rows.length := by
  induction T with
  | nil => intro rows; rfl
  | cons x T ih => intro rows; rw [addTo, ih, List.length_set]
theorem addTo_get (T : List Int) (i : Int) : ∀ (rows : List (List Int)) (j : Nat), T.Nodup → (∀ x ∈ T, 0 ≤ x ∧ x < rows.length) → (addTo rows T i).getD j [] = if (j : Int) ∈ T then rows.getD j [] ++ [i] else rows.getD j [] := by
  induction T with
  | nil => intro rows j _ _; simp [addTo]
  | cons x T ih =>
    intro rows j hn hb
    obtain ⟨hx, hT⟩ := List.nodup_cons.1 hn
    have hxb := hb x List.mem_cons_self
    rw [addTo, ih _ j hT (fun y hy => by rw [List.length_set]; exact hb y (List.mem_cons_of_mem _ hy))]
    by_cases hj : (j : Int) = x
    · have hjx : x.toNat = j := by omega
      rw [if_neg (by rw [hj]; exact hx), if_pos (by rw [hj]; exact List.mem_cons_self), hjx, List.getD_eq_getElem?_getD, List.getElem?_set_self (by omega)]
      rfl
    · have hjx : x.toNat ≠ j := by omega
      have e : (rows.set x.toNat (rows.getD x.toNat [] ++ [i])).getD j [] = rows.getD j [] := by
        rw [List.getD_eq_getElem?_getD, List.getElem?_set_ne hjx, ← List.getD_eq_getElem?_getD]
      rw [e]
      simp only [List.mem_cons, hj, false_or]
theorem tab_step (J : Nat → List Int) (n a : Nat) (hn : (J n).Nodup) (hb : ∀ x ∈ J n, 0 ≤ x ∧ x < a) : addTo (tabL J n a) (J n) (n : Int) = tabL J (n + 1) a := by
  apply List.ext_getElem
  · rw [addTo_length, tabL_length, tabL_length]
  · intro j h1 h2
    have hj : j < a := by rw [tabL_length] at h2; exact h2
    have e1 := addTo_get (J n) (n : Int) (tabL J n a) j hn (by rw [tabL_length]; exact hb)
    rw [tabL_get J n a j hj, List.getD_eq_getElem?_getD, List.getElem?_eq_getElem h1, Option.getD_some] at e1
    rw [e1]
    have e2 := tabL_get J (n + 1) a j hj
    rw [List.getD_eq_getElem?_getD, List.getElem?_eq_getElem h2, Option.getD_some] at e2
    rw [e2, mem_succ]
/-- The rules of a table. -/
def rulL (J : Nat → List Int) (n a : Nat) : List (List Int) := (List.range a).map fun j => mem J n j ++ [((n + j : Nat) : Int)]
theorem rulL_length (J : Nat → List Int) (n a : Nat) : (rulL J n a).length = a := by simp [rulL]
theorem rulL_get (J : Nat → List Int) (n a j : Nat) (h : j < a) : (rulL J n a).getD j [] = mem J n j ++ [((n + j : Nat) : Int)] := by simp [rulL, List.getD, h]
/-- One list laid over another from the front. -/
theorem over_set {α : Type} (A B : List α) (d : α) (hl : A.length = B.length) (t : Nat) (ht : t < B.length) : (A.take t ++ B.drop t).set t (A.getD t d) = A.take (t + 1) ++ B.drop (t + 1) := by
  have h1 : (A.take t).length = t := by rw [List.length_take]; omega
  have h2 : B.drop t = B[t] :: B.drop (t + 1) := List.drop_eq_getElem_cons ht
  have h3 : t < A.length := by omega
  rw [List.set_append_right _ _ (by omega), h1, Nat.sub_self, h2, List.set_cons_zero, List.take_succ_eq_append_getElem h3, List.append_assoc, List.singleton_append, List.getD_eq_getElem?_getD, List.getElem?_eq_getElem h3, Option.getD_some]
theorem over_get {α : Type} (A B : List α) (d : α) (hl : A.length = B.length) (t : Nat) (ht : t < B.length) : (A.take t ++ B.drop t).getD t d = B.getD t d := by
  have h1 : (A.take t).length = t := by rw [List.length_take]; omega
  rw [List.getD_eq_getElem?_getD, List.getD_eq_getElem?_getD, List.getElem?_append_right (by omega), h1, Nat.sub_self, List.getElem?_drop, Nat.add_zero]
/-- How many there are in all rows. -/
def total (J : Nat → List Int) (n : Nat) : Nat → Nat
  | 0 => 0
  | a + 1 => total J n a + (mem J n a).length
theorem total_zero (J : Nat → List Int) (a : Nat) : total J 0 a = 0 := by
  induction a with
  | zero => rfl
  | succ a ih => rw [total, ih, mem_zero]; rfl
theorem total_succ (J : Nat → List Int) (n a : Nat) : total J (n + 1) a = total J n a + ((upTo a).filter fun x => (J n).contains x).length := by
  induction a with
  | zero => rfl
  | succ a ih =>
    rw [total, total, ih, mem_succ, upTo_succ, List.filter_append, List.length_append]
    by_cases h : (a : Int) ∈ J n
    · rw [if_pos h, List.length_append]
      simp [h]
      omega
    · rw [if_neg h]
      simp [h]
      omega
theorem total_eq (J : Nat → List Int) (a m : Nat) (n : Nat) (h : ∀ i, i < n → Rises (J i) ∧ (∀ x ∈ J i, 0 ≤ x ∧ x < a) ∧ (J i).length = m) : total J n a = n * m := by
  induction n with
  | zero => rw [total_zero, Nat.zero_mul]
  | succ n ih =>
    obtain ⟨h1, h2, h3⟩ := h n (Nat.lt_succ_self n)
    rw [total_succ, ih (fun i hi => h i (by omega)), filter_self a (J n) h1 h2, h3, Nat.succ_mul]
end Go.Mine

namespace Go.Proofs.Ytghhmnjkgnoogaa.POuterEach
open Go.RowKit Go.Proofs.YtghhmnjkgnoogaaW.PrintWords Go.Proofs.YtghhmnjkgnoogaaW.PrintLast Go.Proofs.YtghhmnjkgnoogaaW.PrintMore Go.Mine
set_option linter.unusedVariables false
set_option linter.unusedSimpArgs false
theorem outer_in.spec (a b c : Int) : outer_in.f a b c = some (decide (b ≤ a ∧ a ≤ c)) := by
  unfold outer_in.f
  by_cases h : a ≥ b
  · rw [if_pos h]
    have : b ≤ a := h
    simp [this]
  · rw [if_neg h]
    have : ¬ b ≤ a := h
    simp [this]
/-- May a plan be. -/
def outer_Check.B (s n a q : Int) : Prop := (0 ≤ s ∧ s ≤ 72057594037927935) ∧ (1 ≤ n ∧ n ≤ 96) ∧ (1 ≤ a ∧ a ≤ 64) ∧ (1 ≤ q ∧ q ≤ 8)
instance (s n a q : Int) : Decidable (outer_Check.B s n a q) := by unfold outer_Check.B; infer_instance
theorem outer_Check.spec (s n a q : Int) : outer_Check.f s n a q = some (decide (outer_Check.B s n a q)) := by
  unfold outer_Check.f outer_Check.B
  simp only [outer_in.spec, Option.bind_some]
  by_cases h1 : 0 ≤ s ∧ s ≤ 72057594037927935
  · by_cases h2 : 1 ≤ n ∧ n ≤ 96
    · by_cases h3 : 1 ≤ a ∧ a ≤ 64
      · simp [h1, h2, h3]
      · simp [h1, h2, h3]
    · simp [h1, h2]
  · simp [h1]

theorem oct_Put.loop (n : Nat) (d : Nat) : ∀ (k : Nat) (xs : List Int), d ≤ 7 → d < k → xs.length + d ≤ 100 → oct_Put.l0 k (n : Int) xs ((d : Int) - 1) = some (strOfNums (xs ++ beL n d), 0) := by
  induction d with
  | zero =>
    intro k xs hd hk hx
    obtain ⟨k, rfl⟩ : ∃ m, k = m + 1 := ⟨k - 1, by omega⟩
    simp only [oct_Put.l0]
    rw [if_neg (by omega)]
    simp [beL]
  | succ d ih =>
    intro k xs hd hk hx
    obtain ⟨k, rfl⟩ : ∃ m, k = m + 1 := ⟨k - 1, by omega⟩
    simp only [oct_Put.l0]
    rw [show ((d + 1 : Nat) : Int) - 1 = (d : Int) by omega, wrap64_id (8 * (d : Int)) (by omega) (by omega), wrap64_id ((d : Int) - 1) (by omega) (by omega), if_pos (by omega), if_pos (by omega), if_pos (by omega)]
    have e : shr .i64 (n : Int) (8 * (d : Int)) % 256 = ((n / 256 ^ d % 256 : Nat) : Int) := by
      unfold shr
      rw [show (8 * (d : Int)).toNat = 8 * d by omega, Nat.min_eq_left (by show 8 * d ≤ 64; omega)]
      have h2 : ((2 : Int) ^ (8 * d)) = ((2 ^ (8 * d) : Nat) : Int) := by simp
      rw [h2, p256_two, ← Int.natCast_ediv]
      generalize n / 256 ^ d = q
      omega
    rw [e, ih k (xs ++ [((n / 256 ^ d % 256 : Nat) : Int)]) (by omega) (by omega) (by simp; omega)]
    simp [beL]
theorem oct_Put.spec (n size : Int) (k : Nat) (hn : -9223372036854775808 ≤ n ∧ n ≤ 9223372036854775807) (hk : 10 ≤ k) : oct_Put.f k n size = some (putR n size) := by
  unfold oct_Put.f putR
  obtain ⟨k, rfl⟩ : ∃ m, k = m + 1 := ⟨k - 1, by omega⟩
  by_cases h1 : size < 1
  · rw [if_pos h1]
    simp only [oct_Put.j0]
    rw [if_pos trivial, if_pos (.inl h1)]
  · rw [if_neg h1]
    simp only [oct_Put.j0]
    by_cases h2 : size > 7
    · rw [if_pos (decide_eq_true h2), if_pos (.inr h2)]
    · rw [if_neg (by simpa using h2), if_neg (show ¬ (size < 1 ∨ 7 < size) by omega)]
      by_cases h3 : n < 0
      · rw [if_pos h3, if_pos (.inl h3)]
      · rw [if_neg h3, wrap64_id (8 * size) (by omega) (by omega), wrap64_id (size - 1) (by omega) (by omega), if_pos (by omega)]
        have e : shr .i64 n (8 * size) = ((n.toNat / 256 ^ size.toNat : Nat) : Int) := by
          unfold shr
          rw [show (8 * size).toNat = 8 * size.toNat by omega, Nat.min_eq_left (by show 8 * size.toNat ≤ 64; omega)]
          have h2 : ((2 : Int) ^ (8 * size.toNat)) = ((2 ^ (8 * size.toNat) : Nat) : Int) := by simp
          rw [h2, p256_two]
          obtain ⟨m, rfl⟩ := Int.eq_ofNat_of_zero_le (show 0 ≤ n by omega)
          rfl
        rw [e]
        have hp := p256_pos size.toNat
        by_cases h4 : n.toNat < 256 ^ size.toNat
        · rw [if_pos (by rw [Nat.div_eq_of_lt h4]; rfl), if_neg (by omega)]
          have := oct_Put.loop n.toNat size.toNat k [] (by omega) (by omega) (by simp; omega)
          rw [show ((n.toNat : Nat) : Int) = n by omega, show ((size.toNat : Nat) : Int) - 1 = size - 1 by omega] at this
          rw [this]
          rfl
        · have h5 : 1 ≤ n.toNat / 256 ^ size.toNat := (Nat.le_div_iff_mul_le hp).2 (by omega)
          rw [if_neg (by omega), if_pos (by omega)]

def outer_seed.str (seed i : Nat) : ByteArray := ((((⟨#[]⟩ : ByteArray) ++ outer_seed.word) ++ numS seed 7) ++ numS i 2)
theorem outer_seed.str_size (seed i : Nat) : (outer_seed.str seed i).size = 14 := by
  unfold outer_seed.str
  rw [ByteArray.size_append, ByteArray.size_append, numS_size, numS_size]
  rfl
theorem outer_seed.spec (seed i : Nat) (n a q : Int) (k : Nat) (hk : 10 ≤ k) (h1 : seed ≤ 72057594037927935) (h2 : i ≤ 65535) : outer_seed.f k (seed : Int) n a q (i : Int) = some (outer_seed.str seed i) := by
  unfold outer_seed.f
  have hput : putR (seed : Int) 7 = (numS seed 7, 0) := by
    unfold putR
    rw [if_neg (by omega), if_neg (by
      rw [show ((256 ^ (7 : Int).toNat : Nat) : Int) = 72057594037927936 from rfl]
      omega)]
    rfl
  have hput2 : putR (i : Int) 2 = (numS i 2, 0) := by
    unfold putR
    rw [if_neg (by omega), if_neg (by
      rw [show ((256 ^ (2 : Int).toNat : Nat) : Int) = 65536 from rfl]
      omega)]
    rfl
  rw [oct_Put.spec _ _ _ (by omega) hk, hput, Option.bind_some, oct_Put.spec _ _ _ (by omega) hk, hput2, Option.bind_some, if_pos ⟨rfl, rfl, by rw [numS_size]; omega, by rw [numS_size]; omega⟩]
  rfl

theorem sha_Pad.loop (n : Nat) (hn : n ≤ 65536) (d : Nat) : ∀ (k : Nat) (xs : List Int), d ≤ 8 → d < k → xs.length + d ≤ 1000 → sha_Pad.l0 k (n : Int) xs (8 * (d : Int) - 8) = some (strOfNums (xs ++ tailB n d)) := by
  induction d with
  | zero =>
    intro k xs hd hk hx
    obtain ⟨k, rfl⟩ : ∃ m, k = m + 1 := ⟨k - 1, by omega⟩
    rw [sha_Pad.l0, if_neg (by omega)]
    simp [tailB]
  | succ d ih =>
    intro k xs hd hk hx
    obtain ⟨k, rfl⟩ : ∃ m, k = m + 1 := ⟨k - 1, by omega⟩
    rw [sha_Pad.l0, if_pos (by omega), if_pos (by omega), if_pos (by omega)]
    have e0 : (8 * ((d + 1 : Nat) : Int) - 8) = 8 * (d : Int) := by omega
    rw [e0, wrap64_id _ (by omega) (by omega)]
    have e1 : IntKind.u64.wrap (n : Int) = (n : Int) := by
      unfold IntKind.wrap
      simp [IntKind.signed, IntKind.bits]
      omega
    have e2 : IntKind.u64.wrap ((n : Int) * 8) = ((8 * n : Nat) : Int) := by
      unfold IntKind.wrap
      simp [IntKind.signed, IntKind.bits]
      omega
    have e3 : shr .u64 ((8 * n : Nat) : Int) (8 * (d : Int)) = ((8 * n : Nat) : Int) / 2 ^ (8 * d) := by
      unfold shr
      rw [show (8 * (d : Int)).toNat = 8 * d by omega, Nat.min_eq_left (by simp [IntKind.bits]; omega)]
    rw [e1, e2, e3, ih k (xs ++ [((8 * n : Nat) : Int) / 2 ^ (8 * d) % 256]) (by omega) (by omega) (by rw [List.length_append]; simp; omega), List.append_assoc]
    rfl
theorem sha_Pad.spec (n : Nat) (k : Nat) (hn : n ≤ 65536) (hk : 10 ≤ k) : sha_Pad.f k (n : Int) = some (strOfNums (padL n)) := by
  obtain ⟨k, rfl⟩ : ∃ m, k = m + 1 := ⟨k - 1, by omega⟩
  unfold sha_Pad.f
  rw [if_neg (by omega), sha_Pad.j0, if_neg (by simp only [decide_eq_true_eq]; omega), Option.bind_some]
  have e1 : Int.tmod (n : Int) 64 = ((n % 64 : Nat) : Int) := by rw [Int.tmod_eq_emod_of_nonneg (by omega)]; omega
  have e2 : wrap64 (119 - ((n % 64 : Nat) : Int)) = ((119 - n % 64 : Nat) : Int) := by rw [wrap64_id _ (by omega) (by omega)]; omega
  have e3 : Int.tmod ((119 - n % 64 : Nat) : Int) 64 = (((119 - n % 64) % 64 : Nat) : Int) := by rw [Int.tmod_eq_emod_of_nonneg (by omega)]; omega
  rw [e1, e2, e3, if_pos (by omega), Int.toNat_natCast, if_pos (by simp only [List.length_singleton]; omega)]
  have h := sha_Pad.loop n hn 8 k ([128] ++ List.replicate ((119 - n % 64) % 64) 0) (by omega) (by omega) (by rw [List.length_append, List.length_replicate, List.length_singleton]; omega)
  exact h

theorem sha_Sum.spec (s : ByteArray) (k : Nat) (hk : 10 ≤ k) : sha_Sum.f k s = some (shaS s) := by
  unfold sha_Sum.f shaS
  by_cases h : 65536 < s.size
  · rw [if_pos h, if_pos h]
  rw [if_neg h, if_neg h, sha_Pad.spec s.size k (by omega) hk, Option.bind_some]
  have hp := (hashGo_spec (s.size + 1) shaStart [] s rfl (by decide) (by omega)).2
  have hl := padL_length s.size
  simp only [List.length_nil, Nat.zero_add] at hp
  rw [if_pos]
  · rfl
  · refine ⟨by rw [strOfNums_size']; omega, ?_⟩
    show ((hashGo (s.size + 1) shaStart [] s).2 ++ bytesOf (strOfNums (padL s.size))).length % 64 = 0
    rw [List.length_append, bytesOf_length, strOfNums_size', hp]
    have := padL_mod s.size
    omega

/-- A seed's block. -/
def prng_Block.msg (s : ByteArray) (n : Nat) : ByteArray := (((⟨#[2]⟩ : ByteArray) ++ strOfNums [(s.size : Int) % 256]) ++ s) ++ numS n 7
theorem prng_Block.msg_size (s : ByteArray) (n : Nat) : (prng_Block.msg s n).size = s.size + 9 := by
  unfold prng_Block.msg
  rw [ByteArray.size_append, ByteArray.size_append, ByteArray.size_append, numS_size, strOfNums_size']
  simp only [List.length_singleton]
  have : (⟨#[2]⟩ : ByteArray).size = 1 := rfl
  omega
theorem prng_Block.spec (s : ByteArray) (n : Nat) (k : Nat) (hs : s.size ≤ 64) (hn : n ≤ 72057594037927935) (hk : 10 ≤ k) : prng_Block.f k s (n : Int) = some (shaS (prng_Block.msg s n)) := by
  unfold prng_Block.f
  have hput : putR (n : Int) 7 = (numS n 7, 0) := by
    unfold putR
    rw [if_neg (by omega), if_neg (by
      rw [show ((256 ^ (7 : Int).toNat : Nat) : Int) = 72057594037927936 from rfl]
      omega)]
    rfl
  have h1 : (⟨#[2]⟩ : ByteArray).size = 1 := rfl
  have hz := numS_size n 7
  rw [oct_Put.spec _ _ _ (by omega) hk, hput, Option.bind_some]
  simp only
  rw [if_pos trivial, if_neg (by omega), Option.bind_some, if_pos (by rw [strOfNums_size']; simp), if_pos (by rw [ByteArray.size_append, strOfNums_size']; simp only [List.length_singleton]; omega), if_pos (by rw [ByteArray.size_append, ByteArray.size_append, strOfNums_size']; simp only [List.length_singleton]; omega), sha_Sum.spec _ _ hk, Option.bind_some]
  rfl

theorem oct_Get.go_spec (l : List UInt8) : ∀ (a j : Nat), a < 256 ^ j → j + l.length ≤ 7 → oct_Get.go l (a : Int) = ((valL l a : Nat) : Int) := by
  induction l with
  | nil => intro a j _ _; rw [oct_Get.go_nil, valL_nil]
  | cons c l ih =>
    intro a j ha hj
    have hc := c.toNat_lt
    rw [List.length_cons] at hj
    have h7 := p256_le7 (j + 1) (by omega)
    have h1 : 256 * a + c.toNat < 256 ^ (j + 1) := by rw [p256_succ]; omega
    have h2 := ih _ (j + 1) h1 (by omega)
    have h3 := get_step a c.toNat hc (Nat.lt_of_lt_of_le h1 h7)
    rw [oct_Get.go_cons, valL_cons, h3, h2]
theorem oct_Get.spec (s : ByteArray) : oct_Get.f s = some (getR s) := by
  unfold oct_Get.f getR
  by_cases h : s.size > 7
  · rw [if_pos h, if_pos h]
  · rw [if_neg h, if_neg h]
    have := oct_Get.go_spec s.data.toList 0 0 (by decide) (by rw [len_data]; omega)
    rw [show ((0 : Nat) : Int) = 0 from rfl] at this
    rw [this]

/-- A generator's state that may be. -/
def prng_Gen_Word.Ok (s0 : ByteArray) (s1 : Int) (s2 : ByteArray) : Prop := s0.size ≤ 64 ∧ 0 ≤ s1 ∧ s1 ≤ 1000000000 ∧ (s1.toNat % 8 ≠ 0 → s2.size = 32)
/-- The block behind the next word, and the word. -/
def prng_Gen_Word.blk (s0 : ByteArray) (s1 : Int) (s2 : ByteArray) : ByteArray := if s1.toNat % 8 = 0 then shaS (prng_Block.msg s0 (s1.toNat / 8)) else s2
def prng_Gen_Word.val (s0 : ByteArray) (s1 : Int) (s2 : ByteArray) : Int := getR ((prng_Gen_Word.blk s0 s1 s2).extract (4 * (s1.toNat % 8)) (4 * (s1.toNat % 8) + 4)) % 4294967296
theorem prng_Gen_Word.blk_size {s0 : ByteArray} {s1 : Int} {s2 : ByteArray} (h : prng_Gen_Word.Ok s0 s1 s2) : (prng_Gen_Word.blk s0 s1 s2).size = 32 := by
  obtain ⟨h0, h1, h2, h3⟩ := h
  unfold prng_Gen_Word.blk
  split
  · exact shaS_size _ (by rw [prng_Block.msg_size]; omega)
  · rename_i hh
    exact h3 hh
theorem prng_Gen_Word.next {s0 : ByteArray} {s1 : Int} {s2 : ByteArray} (h : prng_Gen_Word.Ok s0 s1 s2) (hb : s1 < 1000000000) : prng_Gen_Word.Ok s0 (s1 + 1) (prng_Gen_Word.blk s0 s1 s2) :=
  ⟨h.1, by have := h.2.1; omega, by omega, fun _ => prng_Gen_Word.blk_size h⟩
theorem prng_Gen_Word.range (s0 : ByteArray) (s1 : Int) (s2 : ByteArray) : 0 ≤ prng_Gen_Word.val s0 s1 s2 ∧ prng_Gen_Word.val s0 s1 s2 < 4294967296 := by
  unfold prng_Gen_Word.val
  omega
theorem prng_Gen_Word.spec {s0 : ByteArray} {s1 : Int} {s2 : ByteArray} (k : Nat) (hk : 10 ≤ k) (h : prng_Gen_Word.Ok s0 s1 s2) : prng_Gen_Word.f k s0 s1 s2 = some (prng_Gen_Word.val s0 s1 s2, s0, s1 + 1, prng_Gen_Word.blk s0 s1 s2) := by
  have hz := prng_Gen_Word.blk_size h
  obtain ⟨h0, h1, h2, h3⟩ := h
  unfold prng_Gen_Word.f
  rw [if_pos ⟨h1, by omega⟩]
  have hl : ∀ b : ByteArray, b.size = 32 → prng_Gen_Word.last k s0 s1 b = some (getR (b.extract (4 * (s1.toNat % 8)) (4 * (s1.toNat % 8) + 4)) % 4294967296, s0, s1 + 1, b) := by
    intro b hb
    unfold prng_Gen_Word.last
    rw [if_pos (by omega), oct_Get.spec, Option.bind_some]
  unfold prng_Gen_Word.val
  unfold prng_Gen_Word.blk at hz ⊢
  by_cases hm : s1.toNat % 8 = 0
  · rw [if_pos hm] at hz ⊢
    have e : s1 / 8 = ((s1.toNat / 8 : Nat) : Int) := by omega
    rw [if_pos hm, e, prng_Block.spec _ _ _ h0 (by omega) hk, Option.bind_some, hl _ hz]
  · rw [if_neg hm] at hz ⊢
    rw [if_neg hm, hl _ hz]

/-- The choice below n, from the d-th try from the end on. -/
def prng_Gen_Below.run (n : Int) : Nat → Int → ByteArray → Int → ByteArray → Int × ByteArray × Int × ByteArray
  | 0, w, s0, s1, s2 => (w % n, s0, s1, s2)
  | d + 1, _, s0, s1, s2 => if prng_Gen_Word.val s0 s1 s2 < 4294967296 - 4294967296 % n then (prng_Gen_Word.val s0 s1 s2 % n, s0, s1 + 1, prng_Gen_Word.blk s0 s1 s2)
      else prng_Gen_Below.run n d (prng_Gen_Word.val s0 s1 s2) s0 (s1 + 1) (prng_Gen_Word.blk s0 s1 s2)
theorem prng_Gen_Below.loop (n : Int) (h1 : 1 ≤ n) (h2 : n ≤ 2147483647) (d : Nat) : ∀ (k : Nat) (w : Int) (s0 : ByteArray) (s1 : Int) (s2 : ByteArray), d ≤ 8 → d + 10 < k → 0 ≤ w → prng_Gen_Word.Ok s0 s1 s2 → s1 + (d : Int) ≤ 999999100 →
    prng_Gen_Below.l0 k n w (8 - (d : Int)) s0 s1 s2 = some (prng_Gen_Below.run n d w s0 s1 s2) := by
  induction d with
  | zero =>
    intro k w s0 s1 s2 hd hk hw hok hs
    obtain ⟨k, rfl⟩ : ∃ m, k = m + 1 := ⟨k - 1, by omega⟩
    rw [prng_Gen_Below.l0, if_neg (by omega), if_neg (by omega), Int.tmod_eq_emod_of_nonneg hw]
    rfl
  | succ d ih =>
    intro k w s0 s1 s2 hd hk hw hok hs
    obtain ⟨k, rfl⟩ : ∃ m, k = m + 1 := ⟨k - 1, by omega⟩
    have hr := prng_Gen_Word.range s0 s1 s2
    rw [prng_Gen_Below.l0, if_pos (by omega), prng_Gen_Word.spec k (by omega) hok, Option.bind_some]
    have hb : prng_bound.f n = some (4294967296 - 4294967296 % n) := by
      unfold prng_bound.f
      have := Int.emod_nonneg 4294967296 (show n ≠ 0 by omega)
      have := Int.emod_lt_of_pos 4294967296 (show 0 < n by omega)
      rw [if_neg (by omega), wrap64_id _ (by omega) (by omega)]
    rw [hb, Option.bind_some]
    simp only
    rw [wrap64_id _ (by omega) (by omega), prng_Gen_Below.run]
    by_cases hc : prng_Gen_Word.val s0 s1 s2 < 4294967296 - 4294967296 % n
    · rw [if_pos hc, if_pos hc, if_neg (by omega), Int.tmod_eq_emod_of_nonneg hr.1]
    · have e : (8 : Int) - ((d + 1 : Nat) : Int) + 1 = 8 - (d : Int) := by omega
      rw [if_neg hc, if_neg hc, e, wrap64_id (8 - (d : Int)) (by omega) (by omega)]
      exact ih k _ s0 (s1 + 1) _ (by omega) (by omega) hr.1 (prng_Gen_Word.next hok (by omega)) (by omega)
theorem prng_Gen_Below.run_ok (n : Int) (h1 : 1 ≤ n) (d : Nat) : ∀ (w : Int) (s0 : ByteArray) (s1 : Int) (s2 : ByteArray), prng_Gen_Word.Ok s0 s1 s2 → s1 + d ≤ 1000000000 →
    (0 ≤ (prng_Gen_Below.run n d w s0 s1 s2).1 ∧ (prng_Gen_Below.run n d w s0 s1 s2).1 < n) ∧ prng_Gen_Word.Ok (prng_Gen_Below.run n d w s0 s1 s2).2.1 (prng_Gen_Below.run n d w s0 s1 s2).2.2.1 (prng_Gen_Below.run n d w s0 s1 s2).2.2.2 ∧ (prng_Gen_Below.run n d w s0 s1 s2).2.2.1 ≤ s1 + d := by
  induction d with
  | zero =>
    intro w s0 s1 s2 hok hs
    exact ⟨⟨Int.emod_nonneg _ (by omega), Int.emod_lt_of_pos _ (by omega)⟩, hok, by simp [prng_Gen_Below.run]⟩
  | succ d ih =>
    intro w s0 s1 s2 hok hs
    rw [prng_Gen_Below.run]
    split
    · exact ⟨⟨Int.emod_nonneg _ (by omega), Int.emod_lt_of_pos _ (by omega)⟩, prng_Gen_Word.next hok (by omega), by simp only; omega⟩
    · have h := ih (prng_Gen_Word.val s0 s1 s2) s0 (s1 + 1) (prng_Gen_Word.blk s0 s1 s2) (prng_Gen_Word.next hok (by omega)) (by omega)
      exact ⟨h.1, h.2.1, by have := h.2.2; omega⟩
theorem prng_Gen_Below.spec (n : Int) (h1 : 1 ≤ n) (h2 : n ≤ 2147483647) (k : Nat) (hk : 30 ≤ k) (s0 : ByteArray) (s1 : Int) (s2 : ByteArray) (hok : prng_Gen_Word.Ok s0 s1 s2) (hs : s1 ≤ 999999000) : prng_Gen_Below.f k s0 s1 s2 n = some (prng_Gen_Below.run n 8 0 s0 s1 s2) := by
  unfold prng_Gen_Below.f prng_may.f
  rw [if_pos (by omega), Option.bind_some, if_pos (by simp; omega)]
  exact prng_Gen_Below.loop n h1 h2 8 k 0 s0 s1 s2 (by omega) (by omega) (by omega) hok (by omega)

theorem prng_Gen_Pick.iota_upTo (n : Nat) : prng_Gen_Pick.iota n = upTo n := rfl
/-- The choice, round by round. -/
def prng_Gen_Pick.run (n : Nat) : Nat → Nat → List Int → ByteArray → Int → ByteArray → List Int × ByteArray × Int × ByteArray
  | 0, _, l, s0, s1, s2 => (l, s0, s1, s2)
  | d + 1, i, l, s0, s1, s2 => prng_Gen_Pick.run n d (i + 1) (prng_Gen_Pick.swap l i (i + (prng_Gen_Below.run ((n : Int) - (i : Int)) 8 0 s0 s1 s2).1.toNat)) (prng_Gen_Below.run ((n : Int) - (i : Int)) 8 0 s0 s1 s2).2.1 (prng_Gen_Below.run ((n : Int) - (i : Int)) 8 0 s0 s1 s2).2.2.1 (prng_Gen_Below.run ((n : Int) - (i : Int)) 8 0 s0 s1 s2).2.2.2
theorem prng_Gen_Pick.swap_perm (l : List Int) (i j : Nat) (hi : i < l.length) (hj : j < l.length) : (prng_Gen_Pick.swap l i j).Perm l := by
  unfold prng_Gen_Pick.swap
  rw [List.getD_eq_getElem?_getD, List.getD_eq_getElem?_getD, List.getElem?_eq_getElem hi, List.getElem?_eq_getElem hj]
  exact List.set_set_perm hi hj
theorem prng_Gen_Pick.go_spec (k n : Nat) (hk : 30 ≤ k) (hn : n ≤ 4096) (d : Nat) : ∀ (i : Nat) (l : List Int) (s0 : ByteArray) (s1 : Int) (s2 : ByteArray), i + d ≤ n → l.length = n → prng_Gen_Word.Ok s0 s1 s2 → s1 + 8 * d ≤ 999999000 →
    prng_Gen_Pick.go k n d i l s0 s1 s2 = some (prng_Gen_Pick.run n d i l s0 s1 s2) ∧ (prng_Gen_Pick.run n d i l s0 s1 s2).1.Perm l := by
  induction d with
  | zero => intro i l s0 s1 s2 _ _ _ _; exact ⟨rfl, List.Perm.refl _⟩
  | succ d ih =>
    intro i l s0 s1 s2 hi hl hok hs
    rw [prng_Gen_Pick.go, prng_Gen_Below.spec _ (by omega) (by omega) k hk s0 s1 s2 hok (by omega), Option.bind_some]
    obtain ⟨⟨h1, h2⟩, h3, h4⟩ := prng_Gen_Below.run_ok ((n : Int) - (i : Int)) (by omega) 8 0 s0 s1 s2 hok (by omega)
    rw [if_pos ⟨h1, h2⟩, prng_Gen_Pick.run]
    obtain ⟨h5, h6⟩ := ih (i + 1) (prng_Gen_Pick.swap l i (i + (prng_Gen_Below.run ((n : Int) - (i : Int)) 8 0 s0 s1 s2).1.toNat)) _ _ _ (by omega) (by rw [prng_Gen_Pick.swap_length]; exact hl) h3 (by omega)
    exact ⟨h5, h6.trans (prng_Gen_Pick.swap_perm l _ _ (by omega) (by omega))⟩

/-- Whom a message block joins. -/
def outer_joins.J (seed a q i : Nat) : List Int := outer_joins.sort ((prng_Gen_Pick.run a (min q a) 0 (upTo a) (outer_seed.str seed i) 0 ⟨#[]⟩).1.take (min q a))
theorem outer_joins.spec (seed a q i : Nat) (n : Int) (k : Nat) (hk : 30 ≤ k) (h1 : seed ≤ 72057594037927935) (h2 : i ≤ 65535) (ha : a ≤ 4096) (hq : q ≤ 4096) : outer_joins.f k (seed : Int) n (a : Int) (q : Int) (i : Int) = some (outer_joins.J seed a q i) := by
  unfold outer_joins.f
  rw [if_pos ⟨by omega, by omega, by omega, by omega⟩, outer_seed.spec seed i n a q k (by omega) h1 h2, Option.bind_some, if_pos (by rw [outer_seed.str_size]; omega), Int.toNat_natCast, Int.toNat_natCast]
  have hok : prng_Gen_Word.Ok (outer_seed.str seed i) 0 ⟨#[]⟩ := ⟨by rw [outer_seed.str_size]; omega, by omega, by omega, fun h => absurd rfl h⟩
  rw [(prng_Gen_Pick.go_spec k a hk ha (min q a) 0 (prng_Gen_Pick.iota a) _ 0 _ (by omega) (prng_Gen_Pick.iota_length a) hok (by omega)).1, Option.bind_some]
  rfl
theorem outer_joins.perm (seed a q i : Nat) (ha : a ≤ 4096) : (prng_Gen_Pick.run a (min q a) 0 (upTo a) (outer_seed.str seed i) 0 ⟨#[]⟩).1.Perm (upTo a) := by
  have hok : prng_Gen_Word.Ok (outer_seed.str seed i) 0 ⟨#[]⟩ := ⟨by rw [outer_seed.str_size]; omega, by omega, by omega, fun h => absurd rfl h⟩
  exact (prng_Gen_Pick.go_spec 30 a (by omega) ha (min q a) 0 (upTo a) _ 0 _ (by omega) (upTo_length a) hok (by omega)).2
theorem outer_joins.length (seed a q i : Nat) (ha : a ≤ 4096) : (outer_joins.J seed a q i).length = min q a := by
  have h := (outer_joins.perm seed a q i ha).length_eq
  rw [upTo_length] at h
  unfold outer_joins.J outer_joins.sort
  rw [List.length_mergeSort, List.length_take, h]
  omega
theorem outer_joins.rises (seed a q i : Nat) (ha : a ≤ 4096) : Rises (outer_joins.J seed a q i) :=
  sort_rises _ (((outer_joins.perm seed a q i ha).nodup_iff.2 (rises_nodup (upTo_rises a))).sublist (List.take_sublist _ _))
theorem outer_joins.range (seed a q i : Nat) (ha : a ≤ 4096) (x : Int) (hx : x ∈ outer_joins.J seed a q i) : 0 ≤ x ∧ x < a := by
  have h1 := List.mem_of_mem_take ((sort_mem _ x).1 hx)
  exact (upTo_mem a x).1 ((outer_joins.perm seed a q i ha).mem_iff.1 h1)

theorem outer_members.inner (T : List Int) (i : Nat) (hi : i ≤ 1000000) (nn p0 p1 p2 p3 : Int) (m : Nat) : ∀ (t : Nat) (rows : List (List Int)) (k : Nat), t + m = T.length → T.length ≤ 100000 → (∀ x ∈ T, 0 ≤ x ∧ x < rows.length) → (∀ j, (rows.getD j []).length + m ≤ 1000000) →
    outer_members.l1 (k + m + 1) rows (i : Int) nn (i : Int) T (T.length : Int) (t : Int) p0 p1 p2 p3 = outer_members.l0 k (addTo rows (T.drop t) (i : Int)) nn ((i + 1 : Nat) : Int) p0 p1 p2 p3 := by
  induction m with
  | zero =>
    intro t rows k ht hT hb hl
    rw [outer_members.l1, if_neg (by omega), List.drop_of_length_le (by omega), addTo, wrap64_id _ (by omega) (by omega)]
    rfl
  | succ m ih =>
    intro t rows k ht hT hb hl
    have htl : t < T.length := by omega
    have hr : rd T (t : Int) = T[t] := by simp [rd, htl]
    have hm := hb _ (List.getElem_mem htl)
    rw [show k + (m + 1) + 1 = (k + m + 1) + 1 by omega, outer_members.l1, if_pos (by omega), if_pos (by omega), if_pos (by omega), hr, if_pos hm.1, if_pos hm.2, if_pos (by have := hl (T[t]).toNat; unfold rd_L3; omega), wrap64_id _ (by omega) (by omega)]
    have e : ((t : Int) + 1) = ((t + 1 : Nat) : Int) := by omega
    rw [e, ih (t + 1) _ k (by omega) hT (fun x hx => by rw [List.length_set]; exact hb x hx) (fun j => by
      rw [List.getD_eq_getElem?_getD]
      by_cases hj : (T[t]).toNat = j
      · rw [hj, List.getElem?_set_self (by omega), Option.getD_some, List.length_append]
        have h1 := hl j
        have h2 : (rd_L3 rows (T[t])).length = (rows.getD j []).length := by unfold rd_L3; rw [hj]
        rw [h2]
        simp only [List.length_singleton]
        omega
      · rw [List.getElem?_set_ne hj, ← List.getD_eq_getElem?_getD]
        have h1 := hl j
        omega)]
    rw [List.drop_eq_getElem_cons htl, addTo]
    rfl
theorem outer_members.outer (seed a q : Nat) (h1 : seed ≤ 72057594037927935) (n : Nat) (hn : n ≤ 96) (ha : a ≤ 64) (hq : q ≤ 8) (d : Nat) : ∀ (i k : Nat), i + d = n → 100 + d * 12 ≤ k →
    outer_members.l0 k (tabL (outer_joins.J seed a q) i a) (n : Int) (i : Int) (seed : Int) (n : Int) (a : Int) (q : Int) = some (tabL (outer_joins.J seed a q) n a) := by
  induction d with
  | zero =>
    intro i k hi hk
    obtain ⟨k, rfl⟩ : ∃ m, k = m + 1 := ⟨k - 1, by omega⟩
    obtain rfl : i = n := by omega
    rw [outer_members.l0, if_neg (by omega)]
  | succ d ih =>
    intro i k hi hk
    have hlen := outer_joins.length seed a q i (by omega)
    obtain ⟨k, rfl⟩ : ∃ m, k = m + (outer_joins.J seed a q i).length + 1 + 1 := ⟨k - 2 - (outer_joins.J seed a q i).length, by omega⟩
    rw [outer_members.l0, if_pos (by omega), outer_joins.spec seed a q i _ _ (by omega) h1 (by omega) (by omega) (by omega), Option.bind_some]
    have h := outer_members.inner (outer_joins.J seed a q i) i (by omega) (n : Int) (seed : Int) (n : Int) (a : Int) (q : Int) (outer_joins.J seed a q i).length 0 (tabL (outer_joins.J seed a q) i a) k (by omega) (by omega) (fun x hx => by rw [tabL_length]; exact outer_joins.range seed a q i (by omega) x hx) (fun j => by
      by_cases hj : j < a
      · rw [tabL_get _ _ _ _ hj]
        have := mem_length (outer_joins.J seed a q) i j
        omega
      · rw [List.getD_eq_getElem?_getD, List.getElem?_eq_none (by rw [tabL_length]; omega)]
        simp only [Option.getD_none, List.length_nil]
        omega)
    rw [List.drop_zero, tab_step _ _ _ (rises_nodup (outer_joins.rises seed a q i (by omega))) (outer_joins.range seed a q i (by omega))] at h
    refine Eq.trans h ?_
    exact ih (i + 1) k (by omega) (by omega)
theorem outer_members.spec (seed a q n : Nat) (h1 : seed ≤ 72057594037927935) (hn : n ≤ 96) (ha : a ≤ 64) (hq : q ≤ 8) (k : Nat) (hk : 2000 ≤ k) : outer_members.f k (seed : Int) (n : Int) (a : Int) (q : Int) = some (tabL (outer_joins.J seed a q) n a) := by
  unfold outer_members.f
  rw [if_pos (by omega), Int.toNat_natCast, if_pos (by omega)]
  have e : List.replicate a [] = tabL (outer_joins.J seed a q) 0 a := by
    apply List.ext_getElem
    · simp [tabL_length]
    · intro j h2 h3
      simp [tabL, mem_zero]
  rw [e]
  exact outer_members.outer seed a q h1 n hn ha hq n 0 k (by omega) (by omega)

theorem outer_rules.loop (J : Nat → List Int) (n a : Nat) (hn : n ≤ 96) (ha : a ≤ 64) (p0 p2 p3 : Int) (d : Nat) : ∀ (t k : Nat), t + d = a → d < k →
    outer_rules.l0 k ((rulL J n a).take t ++ (tabL J n a).drop t) (a : Int) (t : Int) p0 (n : Int) p2 p3 = some (rulL J n a) := by
  induction d with
  | zero =>
    intro t k ht hk
    obtain ⟨k, rfl⟩ : ∃ m, k = m + 1 := ⟨k - 1, by omega⟩
    obtain rfl : t = a := by omega
    rw [outer_rules.l0, if_neg (by omega), List.take_of_length_le (by rw [rulL_length]; omega), List.drop_of_length_le (by rw [tabL_length]; omega), List.append_nil]
  | succ d ih =>
    intro t k ht hk
    obtain ⟨k, rfl⟩ : ∃ m, k = m + 1 := ⟨k - 1, by omega⟩
    have hl : (rulL J n a).length = (tabL J n a).length := by rw [rulL_length, tabL_length]
    have hta : t < (tabL J n a).length := by rw [tabL_length]; omega
    have hg : rd_L3 ((rulL J n a).take t ++ (tabL J n a).drop t) (t : Int) = mem J n t := by
      unfold rd_L3
      rw [Int.toNat_natCast, over_get _ _ _ hl t hta, tabL_get _ _ _ _ (by omega)]
    have hm := mem_length J n t
    rw [outer_rules.l0, if_pos (by omega), if_pos (by omega), if_pos (by rw [List.length_append, List.length_take, List.length_drop, rulL_length, tabL_length]; omega), hg, if_pos (by omega), wrap64_id ((n : Int) + (t : Int)) (by omega) (by omega), wrap64_id _ (by omega) (by omega), Int.toNat_natCast]
    have e : mem J n t ++ [(n : Int) + (t : Int)] = (rulL J n a).getD t [] := by rw [rulL_get _ _ _ _ (by omega)]; simp
    rw [e, over_set _ _ _ hl t hta, show ((t : Int) + 1) = ((t + 1 : Nat) : Int) by omega]
    exact ih (t + 1) k (by omega) (by omega)
theorem outer_rules.spec (seed a q n : Nat) (h1 : seed ≤ 72057594037927935) (hn : n ≤ 96) (ha : a ≤ 64) (hq : q ≤ 8) (k : Nat) (hk : 2000 ≤ k) : outer_rules.f k (seed : Int) (n : Int) (a : Int) (q : Int) = some (rulL (outer_joins.J seed a q) n a) := by
  unfold outer_rules.f
  rw [outer_members.spec seed a q n h1 hn ha hq k hk, Option.bind_some, tabL_length]
  have h := outer_rules.loop (outer_joins.J seed a q) n a hn ha (seed : Int) (a : Int) (q : Int) a 0 k (by omega) (by omega)
  rw [List.take_zero, List.nil_append, List.drop_zero] at h
  exact h

theorem outer_Rules.spec (s n a q : Int) (k : Nat) (hk : 2000 ≤ k) : outer_Rules.f k s n a q = some (if outer_Check.B s n a q then (rulL (outer_joins.J s.toNat a.toNat q.toNat) n.toNat a.toNat, 0) else ([], 1)) := by
  unfold outer_Rules.f
  rw [outer_Check.spec, Option.bind_some]
  by_cases h : outer_Check.B s n a q
  · rw [if_pos h, if_pos (decide_eq_true h)]
    obtain ⟨h1, h2, h3, h4⟩ := h
    have e := outer_rules.spec s.toNat a.toNat q.toNat n.toNat (by omega) (by omega) (by omega) (by omega) k hk
    rw [Int.toNat_of_nonneg h1.1, Int.toNat_of_nonneg (by omega : 0 ≤ n), Int.toNat_of_nonneg (by omega : 0 ≤ a), Int.toNat_of_nonneg (by omega : 0 ≤ q)] at e
    rw [e, Option.bind_some]
  · rw [if_neg h, if_neg (by simp [h])]

theorem block_may.spec (z : Int) : block_may.f z = some (decide (1 ≤ z ∧ z ≤ 64)) := by
  unfold block_may.f
  by_cases h : z ≥ 1
  · rw [if_pos h]
    congr 1
    rw [Bool.eq_iff_iff, decide_eq_true_iff, decide_eq_true_iff]
    omega
  · rw [if_neg h]
    congr 1
    rw [eq_comm, decide_eq_false_iff_not]
    omega

theorem block_Is.spec (s : ByteArray) (z : Int) : block_Is.f s z = some (decide (1 ≤ z ∧ z ≤ 64) && ((s.size : Int) == z)) := by
  unfold block_Is.f
  rw [block_may.spec, Option.bind_some]
  cases decide (1 ≤ z ∧ z ≤ 64) <;> rfl

/-- Are texts blocks of one size. -/
def outer_sized.B (l : List ByteArray) : Bool := if l.length = 0 then false else !(l.any fun x => !(outer_sized.okB x ((l.getD 0 ByteArray.empty).size : Int)))
theorem outer_sized.spec (l : List ByteArray) : outer_sized.f l = some (outer_sized.B l) := by
  unfold outer_sized.f outer_sized.B
  split <;> rfl
theorem outer_sized.iff (l : List ByteArray) : outer_sized.B l = true ↔ 0 < l.length ∧ ∀ x ∈ l, x.size = (l.getD 0 ByteArray.empty).size ∧ 1 ≤ x.size ∧ x.size ≤ 64 := by
  unfold outer_sized.B
  by_cases h : l.length = 0
  · rw [if_pos h]
    simp [h]
  · rw [if_neg h]
    rw [Bool.not_eq_true', List.any_eq_false]
    constructor
    · intro h2
      refine ⟨by omega, fun x hx => ?_⟩
      have h3 : outer_sized.okB x ((l.getD 0 ByteArray.empty).size : Int) = true := by
        have h4 := h2 x hx
        cases h5 : outer_sized.okB x ((l.getD 0 ByteArray.empty).size : Int)
        · rw [h5] at h4; exact absurd rfl h4
        · rfl
      unfold outer_sized.okB at h3
      rw [Bool.and_eq_true, Bool.and_eq_true, decide_eq_true_eq, decide_eq_true_eq, beq_iff_eq] at h3
      omega
    · rintro ⟨_, h2⟩ x hx
      have h3 := h2 x hx
      have h4 : outer_sized.okB x ((l.getD 0 ByteArray.empty).size : Int) = true := by
        unfold outer_sized.okB
        rw [Bool.and_eq_true, Bool.and_eq_true, decide_eq_true_eq, decide_eq_true_eq, beq_iff_eq]
        omega
      rw [h4]
      decide

theorem block_Sum.go_eq (n : Nat) (l : List ByteArray) : ∀ (x : List Int), Bytes x → x.length = n → strOfNums (block_Sum.go n x l) = xsum (strOfNums x) l := by
  induction l with
  | nil => intro x _ _; rfl
  | cons s l ih =>
    intro x hx hn
    rw [block_Sum.go, xsum, ih _ (bytes_xor x hx s n (by omega)) (by rw [bothB_length, hn]), ← hn, bothB_step x hx s]
theorem block_Sum.spec (l : List ByteArray) (z : Int) : block_Sum.f l z = some (sumR l z) := by
  unfold block_Sum.f sumR
  rw [block_may.spec, Option.bind_some]
  by_cases h : 1 ≤ z ∧ z ≤ 64
  · rw [decide_eq_true h, if_pos rfl, if_neg (show ¬ (z < 0 ∨ 1000000 < z) by omega), if_neg (show ¬ ¬ (1 ≤ z ∧ z ≤ 64) from fun hh => hh h)]
    show (if odd l z = true then _ else _) = _
    cases odd l z with
    | true => rfl
    | false =>
      rw [if_neg (by decide), if_neg (by decide), block_Sum.go_eq _ _ _ (bytes_zero _) (List.length_replicate ..), strOfNums_zero]
  · rw [decide_eq_false h, if_neg (by decide), if_pos h]

/-- The texts at some places. -/
def outer_sum.at_ (w : List ByteArray) (r : List Int) : List ByteArray := r.map fun x => w.getD x.toNat ByteArray.empty
theorem outer_sum.loop (w : List ByteArray) (z : Int) (r : List Int) (hr : r.length ≤ 100000) (hb : ∀ x ∈ r, 0 ≤ x ∧ x < w.length) (d : Nat) : ∀ (t k : Nat) (acc : List ByteArray), t + d = r.length → d < k → acc.length + d ≤ 200000 →
    outer_sum.l0 k w z acc r (r.length : Int) (t : Int) = some (sumR (acc ++ outer_sum.at_ w (r.drop t)) z).1 := by
  induction d with
  | zero =>
    intro t k acc ht hk ha
    obtain ⟨k, rfl⟩ : ∃ m, k = m + 1 := ⟨k - 1, by omega⟩
    rw [outer_sum.l0, if_neg (by omega), block_Sum.spec, Option.bind_some, List.drop_of_length_le (by omega)]
    simp [outer_sum.at_]
  | succ d ih =>
    intro t k acc ht hk ha
    obtain ⟨k, rfl⟩ : ∃ m, k = m + 1 := ⟨k - 1, by omega⟩
    have htl : t < r.length := by omega
    have e1 : rd r (t : Int) = r[t] := by simp [rd, htl]
    have hx := hb _ (List.getElem_mem htl)
    rw [outer_sum.l0, if_pos (by omega), if_pos (by omega), if_pos (by omega), e1, if_pos hx.1, if_pos hx.2, if_pos (by omega), wrap64_id _ (by omega) (by omega), show ((t : Int) + 1) = ((t + 1 : Nat) : Int) by omega]
    rw [ih (t + 1) k _ (by omega) (by omega) (by rw [List.length_append]; simp; omega), List.drop_eq_getElem_cons htl, List.append_assoc]
    rfl
theorem outer_sum.spec (w : List ByteArray) (r : List Int) (z : Int) (k : Nat) (hr : r.length ≤ 1000) (hk : 2000 ≤ k) (hb : ∀ x ∈ r, 0 ≤ x ∧ x < w.length) : outer_sum.f k w r z = some (sumR (outer_sum.at_ w r) z).1 := by
  unfold outer_sum.f
  have h := outer_sum.loop w z r (by omega) hb r.length 0 k [] (by omega) (by omega) (by simp; omega)
  rw [List.drop_zero, List.nil_append] at h
  exact h

/-- The auxiliary blocks of some blocks. -/
def outer_Whole.aux (J : Nat → List Int) (n a : Nat) (l : List ByteArray) : List ByteArray := (tabL J n a).map fun r => (sumR (outer_sum.at_ l r) ((l.getD 0 ByteArray.empty).size : Int)).1
theorem outer_Whole.loop (J : Nat → List Int) (n a : Nat) (ha : a ≤ 64) (hn : n ≤ 96) (l : List ByteArray) (hl : l.length = n) (h0 : 0 < n) (d : Nat) : ∀ (t k : Nat), t + d = a → 2000 + d < k →
    outer_Whole.l0 k l (l ++ (outer_Whole.aux J n a l).take t) (tabL J n a) (a : Int) (t : Int) = some (l ++ outer_Whole.aux J n a l, 0) := by
  induction d with
  | zero =>
    intro t k ht hk
    obtain ⟨k, rfl⟩ : ∃ m, k = m + 1 := ⟨k - 1, by omega⟩
    rw [outer_Whole.l0, if_neg (by omega), List.take_of_length_le (by simp [outer_Whole.aux, tabL_length]; omega)]
  | succ d ih =>
    intro t k ht hk
    obtain ⟨k, rfl⟩ : ∃ m, k = m + 1 := ⟨k - 1, by omega⟩
    have hta : t < a := by omega
    have hlen : (outer_Whole.aux J n a l).length = a := by simp [outer_Whole.aux, tabL_length]
    have hrow : rd_L3 (tabL J n a) (t : Int) = mem J n t := by unfold rd_L3; rw [Int.toNat_natCast, tabL_get _ _ _ _ hta]
    have hm := mem_length J n t
    have h1 : rdOf ByteArray.empty l 0 = l.getD 0 ByteArray.empty := by simp [rdOf]
    rw [outer_Whole.l0, if_pos (by omega), if_pos (by omega), if_pos (by rw [tabL_length]; omega), if_pos (by omega), hrow, h1,
      outer_sum.spec l (mem J n t) _ k (by omega) (by omega) (fun x hx => by rw [hl]; exact ((mem_mem J n t x).1 hx).1), Option.bind_some, if_pos (by rw [List.length_append, List.length_take]; omega), wrap64_id _ (by omega) (by omega), show ((t : Int) + 1) = ((t + 1 : Nat) : Int) by omega]
    have e : (l ++ (outer_Whole.aux J n a l).take t) ++ [(sumR (outer_sum.at_ l (mem J n t)) ((l.getD 0 ByteArray.empty).size : Int)).1] = l ++ (outer_Whole.aux J n a l).take (t + 1) := by
      have h3 : t < (outer_Whole.aux J n a l).length := by omega
      rw [List.append_assoc, List.take_succ_eq_append_getElem h3]
      congr 3
      have h4 := tabL_get J n a t hta
      have h5 : t < (tabL J n a).length := by rw [tabL_length]; exact hta
      rw [List.getD_eq_getElem?_getD, List.getElem?_eq_getElem h5, Option.getD_some] at h4
      simp only [outer_Whole.aux, List.getElem_map, h4]
    rw [e]
    exact ih (t + 1) k (by omega) (by omega)
theorem outer_Whole.spec (s n a q : Int) (l : List ByteArray) (k : Nat) (hk : 3000 ≤ k) : outer_Whole.f k s n a q l = some (if outer_Check.B s n a q ∧ (l.length : Int) = n ∧ outer_sized.B l = true then (l ++ outer_Whole.aux (outer_joins.J s.toNat a.toNat q.toNat) n.toNat a.toNat l, 0) else ([], 1)) := by
  obtain ⟨k, rfl⟩ : ∃ m, k = m + 1 := ⟨k - 1, by omega⟩
  unfold outer_Whole.f
  rw [outer_Check.spec, Option.bind_some]
  by_cases h : outer_Check.B s n a q
  · rw [if_pos (decide_eq_true h)]
    obtain ⟨h1, h2, h3, h4⟩ := h
    by_cases hl : (l.length : Int) = n
    · rw [if_pos hl, outer_sized.spec, Option.bind_some]
      by_cases hs : outer_sized.B l = true
      · rw [outer_Whole.j0, if_neg (by simp [hs]), if_pos ⟨⟨h1, h2, h3, h4⟩, hl, hs⟩]
        have hc : slices_Clone_string_string.f l = some l := by
          unfold slices_Clone_string_string.f
          rw [if_pos (by omega)]
        have e := outer_members.spec s.toNat a.toNat q.toNat n.toNat (by omega) (by omega) (by omega) (by omega) k (by omega)
        rw [Int.toNat_of_nonneg h1.1, Int.toNat_of_nonneg (by omega : 0 ≤ n), Int.toNat_of_nonneg (by omega : 0 ≤ a), Int.toNat_of_nonneg (by omega : 0 ≤ q)] at e
        rw [hc, Option.bind_some, e, Option.bind_some, tabL_length]
        have h6 := outer_Whole.loop (outer_joins.J s.toNat a.toNat q.toNat) n.toNat a.toNat (by omega) (by omega) l (by omega) (by omega) a.toNat 0 k (by omega) (by omega)
        rw [List.take_zero, List.append_nil] at h6
        exact h6
      · rw [outer_Whole.j0, if_pos (by simp [hs]), if_neg (fun h9 => hs h9.2.2)]
    · rw [if_neg hl, outer_Whole.j0, if_pos rfl, if_neg (fun h9 => hl h9.2.1)]
  · rw [if_neg (by simp only [decide_eq_true_eq]; exact h), outer_Whole.j0, if_pos rfl, if_neg (fun h9 => h h9.1)]

theorem mosaicref04_Same.loop (l : List Int) (hl : l.length ≤ 1000000000) (m : List Int) (hm : m.length = l.length) (d : Nat) : ∀ (k i : Nat), i + d = l.length → d < k → mosaicref04_Same.l0 k l m (i : Int) = some (decide (l.drop i = m.drop i)) := by
  induction d with
  | zero =>
    intro k i hi hk
    obtain ⟨k, rfl⟩ : ∃ m, k = m + 1 := ⟨k - 1, by omega⟩
    simp only [mosaicref04_Same.l0]
    rw [if_neg (by omega), List.drop_of_length_le (by omega), List.drop_of_length_le (by omega), decide_eq_true rfl]
  | succ d ih =>
    intro k i hi hk
    obtain ⟨k, rfl⟩ : ∃ m, k = m + 1 := ⟨k - 1, by omega⟩
    have h1 : i < l.length := by omega
    have h2 : i < m.length := by omega
    simp only [mosaicref04_Same.l0]
    have e1 : rd l (i : Int) = l[i] := by simp [rd, h1]
    have e2 : rd m (i : Int) = m[i] := by simp [rd, h2]
    rw [if_pos (by omega), if_pos (by omega), if_pos (by omega), e1, e2, wrap64_id _ (by omega) (by omega), List.drop_eq_getElem_cons h1, List.drop_eq_getElem_cons h2]
    have := ih k (i + 1) (by omega) (by omega)
    rw [show ((i + 1 : Nat) : Int) = (i : Int) + 1 by omega] at this
    by_cases h : l[i] = m[i]
    · rw [if_pos h, this]
      congr 1
      rw [Bool.eq_iff_iff, decide_eq_true_iff, decide_eq_true_iff]
      exact ⟨fun e => by rw [h, e], fun e => (List.cons.inj e).2⟩
    · rw [if_neg h]
      congr 1
      rw [eq_comm, decide_eq_false_iff_not]
      intro hh
      exact h (List.cons.inj hh).1
theorem mosaicref04_Same.spec (l m : List Int) (k : Nat) (hl : l.length ≤ 1000000000) (hk : l.length < k) : mosaicref04_Same.f k l m = some (decide (l = m)) := by
  unfold mosaicref04_Same.f
  by_cases h : l.length = m.length
  · rw [if_pos (by omega)]
    have := mosaicref04_Same.loop l hl m h.symm l.length k 0 (by omega) hk
    simpa using this
  · rw [if_neg (by omega), decide_eq_false (fun e => h (by rw [e]))]

theorem mosaicref03_Same.loop (l : List ByteArray) (hl : l.length ≤ 1000000000) (m : List ByteArray) (hm : m.length = l.length) (d : Nat) : ∀ (k i : Nat), i + d = l.length → d < k → mosaicref03_Same.l0 k l m (i : Int) = some (decide (l.drop i = m.drop i)) := by
  induction d with
  | zero =>
    intro k i hi hk
    obtain ⟨k, rfl⟩ : ∃ m, k = m + 1 := ⟨k - 1, by omega⟩
    simp only [mosaicref03_Same.l0]
    rw [if_neg (by omega), List.drop_of_length_le (by omega), List.drop_of_length_le (by omega), decide_eq_true rfl]
  | succ d ih =>
    intro k i hi hk
    obtain ⟨k, rfl⟩ : ∃ m, k = m + 1 := ⟨k - 1, by omega⟩
    have h1 : i < l.length := by omega
    have h2 : i < m.length := by omega
    simp only [mosaicref03_Same.l0]
    have e1 : rdOf ByteArray.empty l (i : Int) = l[i] := by simp [rdOf, h1]
    have e2 : rdOf ByteArray.empty m (i : Int) = m[i] := by simp [rdOf, h2]
    rw [if_pos (by omega), if_pos (by omega), if_pos (by omega), e1, e2, wrap64_id _ (by omega) (by omega), List.drop_eq_getElem_cons h1, List.drop_eq_getElem_cons h2]
    have := ih k (i + 1) (by omega) (by omega)
    rw [show ((i + 1 : Nat) : Int) = (i : Int) + 1 by omega] at this
    by_cases h : l[i] = m[i]
    · rw [if_pos (by rw [h]), this]
      congr 1
      rw [Bool.eq_iff_iff, decide_eq_true_iff, decide_eq_true_iff]
      exact ⟨fun e => by rw [h, e], fun e => (List.cons.inj e).2⟩
    · rw [if_neg (fun e => h (toList_inj e))]
      congr 1
      rw [eq_comm, decide_eq_false_iff_not]
      intro hh
      exact h (List.cons.inj hh).1
theorem mosaicref03_Same.spec (l m : List ByteArray) (k : Nat) (hl : l.length ≤ 1000000000) (hk : l.length < k) : mosaicref03_Same.f k l m = some (decide (l = m)) := by
  unfold mosaicref03_Same.f
  by_cases h : l.length = m.length
  · rw [if_pos (by omega)]
    have := mosaicref03_Same.loop l hl m h.symm l.length k 0 (by omega) hk
    simpa using this
  · rw [if_neg (by omega), decide_eq_false (fun e => h (by rw [e]))]

theorem mosaiclaw09_awake.J (i : Nat) : outer_joins.J 0 1 1 i = [0] := by
  have h1 := outer_joins.length 0 1 1 i (by omega)
  have h2 := outer_joins.range 0 1 1 i (by omega)
  match hJ : outer_joins.J 0 1 1 i, h1 with
  | [x], _ =>
    have := h2 x (by rw [hJ]; exact List.mem_singleton_self x)
    have : x = 0 := by omega
    rw [this]
theorem mosaiclaw09_awake.spec (k : Nat) (hk : 3000 ≤ k) : mosaiclaw09_awake.f k = some true := by
  unfold mosaiclaw09_awake.f
  have hB : outer_Check.B 0 1 1 1 := by decide
  have hJ : outer_joins.J (0 : Int).toNat (1 : Int).toNat (1 : Int).toNat = fun _ => [0] := funext mosaiclaw09_awake.J
  have hr : rulL (fun _ => [0]) 1 1 = [[0, 1]] := by decide
  have hz : outer_sized.B [(⟨#[97, 98]⟩ : ByteArray)] = true := by decide
  have ht : tabL (fun _ => [0]) 1 1 = [[0]] := by decide
  have ha : outer_Whole.aux (fun _ => [0]) 1 1 [(⟨#[97, 98]⟩ : ByteArray)] = [(⟨#[97, 98]⟩ : ByteArray)] := by
    unfold outer_Whole.aux
    rw [ht]
    decide +kernel
  rw [outer_Rules.spec _ _ _ _ _ (by omega), if_pos hB, Option.bind_some, outer_Whole.spec _ _ _ _ _ _ hk, if_pos ⟨hB, rfl, hz⟩, Option.bind_some, hJ]
  simp only
  rw [show (1 : Int).toNat = 1 from rfl, hr, ha]
  simp only [if_true]
  rw [if_pos (show ((([[0, 1]] : List (List Int)).length : Int) = 1) from rfl), if_pos (by decide)]
  rw [show rd_L3 [[0, 1]] 0 = [0, 1] from rfl, mosaicref04_Same.spec _ _ _ (by decide) (by simp; omega), Option.bind_some, if_pos (by decide), mosaicref03_Same.spec _ _ _ (by decide) (by simp; omega), Option.bind_some]
  rfl

theorem outer_Joins.spec (s n a q i : Int) (k : Nat) (hk : 30 ≤ k) : outer_Joins.f k s n a q i = some (if outer_Check.B s n a q ∧ 0 ≤ i ∧ i < n then (outer_joins.J s.toNat a.toNat q.toNat i.toNat, 0) else ([], 1)) := by
  unfold outer_Joins.f
  rw [outer_Check.spec, Option.bind_some]
  by_cases h : outer_Check.B s n a q
  · rw [if_pos (decide_eq_true h)]
    obtain ⟨h1, h2, h3, h4⟩ := h
    rw [outer_in.spec, Option.bind_some, wrap64_id _ (by omega) (by omega)]
    by_cases hi : 0 ≤ i ∧ i ≤ n - 1
    · rw [if_pos (decide_eq_true hi), if_pos ⟨⟨h1, h2, h3, h4⟩, hi.1, by omega⟩]
      have e := outer_joins.spec s.toNat a.toNat q.toNat i.toNat n k hk (by omega) (by omega) (by omega) (by omega)
      rw [Int.toNat_of_nonneg h1.1, Int.toNat_of_nonneg (by omega : 0 ≤ a), Int.toNat_of_nonneg (by omega : 0 ≤ q), Int.toNat_of_nonneg hi.1] at e
      rw [e, Option.bind_some]
    · rw [if_neg (by simp only [decide_eq_true_eq]; exact hi), if_neg (by rintro ⟨_, h5, h6⟩; exact hi ⟨h5, by omega⟩)]
  · rw [if_neg (by simp only [decide_eq_true_eq]; exact h), if_neg (fun h9 => h h9.1)]

theorem mosaicref09_Has.loop (l : List Int) (x : Int) (hl : l.length ≤ 1000000) (d : Nat) : ∀ (k i : Nat), i + d = l.length → d < k → mosaicref09_Has.l0 k l x (i : Int) = some ((l.drop i).contains x) := by
  induction d with
  | zero =>
    intro k i hi hk
    obtain ⟨k, rfl⟩ : ∃ m, k = m + 1 := ⟨k - 1, by omega⟩
    rw [mosaicref09_Has.l0, if_neg (by omega), List.drop_of_length_le (by omega)]
    rfl
  | succ d ih =>
    intro k i hi hk
    obtain ⟨k, rfl⟩ : ∃ m, k = m + 1 := ⟨k - 1, by omega⟩
    have h1 : i < l.length := by omega
    have e1 : rd l (i : Int) = l[i] := by simp [rd, h1]
    rw [mosaicref09_Has.l0, if_pos (by omega), if_pos (by omega), e1, wrap64_id _ (by omega) (by omega), List.drop_eq_getElem_cons h1]
    have := ih k (i + 1) (by omega) (by omega)
    rw [show ((i + 1 : Nat) : Int) = (i : Int) + 1 by omega] at this
    by_cases h : l[i] = x
    · rw [if_pos h, List.contains_cons, show (x == l[i]) = true from beq_iff_eq.mpr h.symm, Bool.true_or]
    · rw [if_neg h, this, List.contains_cons, show (x == l[i]) = false from beq_eq_false_iff_ne.mpr (fun e => h e.symm), Bool.false_or]
theorem mosaicref09_Has.spec (l : List Int) (x : Int) (k : Nat) (hl : l.length ≤ 1000000) (hk : l.length < k) : mosaicref09_Has.f k l x = some (l.contains x) := by
  unfold mosaicref09_Has.f
  have := mosaicref09_Has.loop l x hl l.length k 0 (by omega) hk
  simpa using this
theorem rises_get {l : List Int} (h : Rises l) (i j : Nat) (hj : j < l.length) (hi : i < j) : l[i]'(Nat.lt_trans hi hj) < l[j] := List.pairwise_iff_getElem.1 h i j _ _ hi
theorem mosaiclaw09_OuterEach.inner (x3 : List (List Int)) (x5 x6 p0 p2 p3 : Int) (n : Nat) (m : List Int) (c : Int) (hm : Rises m) (hb : ∀ x ∈ m, 0 ≤ x ∧ x < (n : Int)) (hl : m.length ≤ 1000) (d : Nat) : ∀ (t k : Nat), t + d = m.length →
    mosaiclaw09_OuterEach.l1 (k + d + 1) x3 x5 x6 (m ++ [c]) (t : Int) p0 (n : Int) p2 p3 = mosaiclaw09_OuterEach.l0 k x3 x5 (wrap64 (x6 + 1)) p0 (n : Int) p2 p3 := by
  induction d with
  | zero =>
    intro t k ht
    rw [mosaiclaw09_OuterEach.l1, wrap64_id _ (by omega) (by omega), if_neg (by rw [List.length_append, List.length_singleton]; omega)]
  | succ d ih =>
    intro t k ht
    have htl : t < m.length := by omega
    have hr : rd (m ++ [c]) (t : Int) = m[t] := by simp [rd, List.getElem?_append_left htl, htl]
    have hx := hb _ (List.getElem_mem htl)
    rw [show k + (d + 1) + 1 = (k + d + 1) + 1 by omega, mosaiclaw09_OuterEach.l1, wrap64_id ((t : Int) + 1) (by omega) (by omega), if_pos (by rw [List.length_append, List.length_singleton]; omega), if_pos (by omega), if_pos (by rw [List.length_append, List.length_singleton]; omega), hr, if_neg (by omega), if_neg (by omega), show ((t : Int) + 1) = ((t + 1 : Nat) : Int) by omega, ih (t + 1) k (by omega)]
    by_cases h0 : (t : Int) > 0
    · obtain ⟨u, rfl⟩ : ∃ u, t = u + 1 := ⟨t - 1, by omega⟩
      have e : ((u + 1 : Nat) : Int) - 1 = (u : Int) := by omega
      have hr2 : rd (m ++ [c]) (u : Int) = m[u] := by
        have : u < m.length := by omega
        simp [rd, List.getElem?_append_left this, this]
      have := rises_get hm u (u + 1) htl (by omega)
      rw [if_pos h0, e, wrap64_id _ (by omega) (by omega), if_pos (by omega), if_pos (by rw [List.length_append, List.length_singleton]; omega), hr2, if_neg (by omega)]
    · rw [if_neg h0]
theorem mosaiclaw09_OuterEach.rows (J : Nat → List Int) (n a : Nat) (hn : n ≤ 96) (ha : a ≤ 64) (p0 p2 p3 : Int) (d : Nat) : ∀ (j k : Nat), j + d = a → 5000 + 100 * d < k → total J n j ≤ 100 * j →
    ∃ k', 5000 ≤ k' ∧ mosaiclaw09_OuterEach.l0 k (rulL J n a) ((total J n j : Nat) : Int) (j : Int) p0 (n : Int) p2 p3 = mosaiclaw09_OuterEach.l2 k' (rulL J n a) ((total J n a : Nat) : Int) 0 p0 (n : Int) p2 p3 := by
  induction d with
  | zero =>
    intro j k hj hk ht
    obtain ⟨k, rfl⟩ : ∃ m, k = m + 1 := ⟨k - 1, by omega⟩
    obtain rfl : j = a := by omega
    exact ⟨k, by omega, by rw [mosaiclaw09_OuterEach.l0, if_neg (by rw [rulL_length]; omega)]⟩
  | succ d ih =>
    intro j k hj hk ht
    have hja : j < a := by omega
    have hm := mem_length J n j
    obtain ⟨k, rfl⟩ : ∃ m, k = m + (mem J n j).length + 1 + 1 := ⟨k - 2 - (mem J n j).length, by omega⟩
    have hrow : rd_L3 (rulL J n a) (j : Int) = mem J n j ++ [((n + j : Nat) : Int)] := by unfold rd_L3; rw [Int.toNat_natCast, rulL_get _ _ _ _ hja]
    have hlen : (mem J n j ++ [((n + j : Nat) : Int)]).length = (mem J n j).length + 1 := by simp
    have hlast : rd (mem J n j ++ [((n + j : Nat) : Int)]) ((mem J n j).length : Int) = ((n + j : Nat) : Int) := by simp [rd]
    rw [mosaiclaw09_OuterEach.l0, if_pos (by rw [rulL_length]; omega), if_pos (by omega), hrow, hlen, if_neg (by omega), show ((((mem J n j).length + 1 : Nat) : Int) - 1) = ((mem J n j).length : Int) by omega, wrap64_id ((mem J n j).length : Int) (by omega) (by omega), if_pos (by omega), if_pos (by omega), hlast, wrap64_id ((n : Int) + (j : Int)) (by omega) (by omega), if_pos (by omega),
      wrap64_id (((total J n j : Nat) : Int) + (((mem J n j).length + 1 : Nat) : Int)) (by omega) (by omega), show ((total J n j : Nat) : Int) + (((mem J n j).length + 1 : Nat) : Int) - 1 = ((total J n (j + 1) : Nat) : Int) by rw [total]; omega, wrap64_id _ (by rw [total]; omega) (by rw [total]; omega)]
    have h := mosaiclaw09_OuterEach.inner (rulL J n a) ((total J n (j + 1) : Nat) : Int) (j : Int) p0 p2 p3 n (mem J n j) ((n + j : Nat) : Int) (mem_rises J n j) (fun x hx => ((mem_mem J n j x).1 hx).1) (by omega) (mem J n j).length 0 k (by omega)
    obtain ⟨k', h1, h2⟩ := ih (j + 1) k (by omega) (by omega) (by rw [total]; omega)
    refine ⟨k', h1, ?_⟩
    refine Eq.trans h ?_
    rw [wrap64_id _ (by omega) (by omega), show ((j : Int) + 1) = ((j + 1 : Nat) : Int) by omega]
    exact h2
theorem mosaiclaw09_OuterEach.joins (J : Nat → List Int) (n a i : Nat) (hi : i < n) (hn : n ≤ 96) (ha : a ≤ 64) (x5 p0 p1 p3 : Int) (hr : Rises (J i)) (hb : ∀ x ∈ J i, 0 ≤ x ∧ x < (a : Int)) (hl : (J i).length ≤ 8) (d : Nat) : ∀ (t k : Nat), t + d = (J i).length → 1000 ≤ k →
    mosaiclaw09_OuterEach.l3 (k + d + 1) (rulL J n a) x5 (i : Int) (J i) (t : Int) p0 p1 (a : Int) p3 = mosaiclaw09_OuterEach.l2 k (rulL J n a) x5 (wrap64 ((i : Int) + 1)) p0 p1 (a : Int) p3 := by
  induction d with
  | zero =>
    intro t k ht hk
    rw [mosaiclaw09_OuterEach.l3, if_neg (by omega)]
  | succ d ih =>
    intro t k ht hk
    have htl : t < (J i).length := by omega
    have he : rd (J i) (t : Int) = (J i)[t] := by simp [rd, htl]
    have hx := hb _ (List.getElem_mem htl)
    have hrow : rd_L3 (rulL J n a) ((J i)[t]) = mem J n ((J i)[t]).toNat ++ [((n + ((J i)[t]).toNat : Nat) : Int)] := by unfold rd_L3; rw [rulL_get _ _ _ _ (by omega)]
    have hmem : (i : Int) ∈ mem J n ((J i)[t]).toNat := (mem_mem J n _ _).2 ⟨by omega, by rw [Int.toNat_natCast, Int.toNat_of_nonneg hx.1]; exact List.getElem_mem htl⟩
    have hm := mem_length J n ((J i)[t]).toNat
    have hhas : ∀ k, 1000 ≤ k → mosaicref09_Has.f k (rd_L3 (rulL J n a) ((J i)[t])) (i : Int) = some true := by
      intro k hk
      rw [hrow, mosaicref09_Has.spec _ _ _ (by rw [List.length_append, List.length_singleton]; omega) (by rw [List.length_append, List.length_singleton]; omega)]
      congr 1
      rw [List.contains_iff_mem]
      exact List.mem_append_left _ hmem
    rw [show k + (d + 1) + 1 = (k + d + 1) + 1 by omega, mosaiclaw09_OuterEach.l3, if_pos (by omega), if_pos (by omega), he, if_neg (by omega), if_neg (by omega)]
    by_cases h0 : (t : Int) > 0
    · obtain ⟨u, rfl⟩ : ∃ u, t = u + 1 := ⟨t - 1, by omega⟩
      have e : ((u + 1 : Nat) : Int) - 1 = (u : Int) := by omega
      have hr2 : rd (J i) (u : Int) = (J i)[u] := by
        have : u < (J i).length := by omega
        simp [rd, this]
      have := rises_get hr u (u + 1) htl (by omega)
      rw [if_pos h0, e, wrap64_id (u : Int) (by omega) (by omega), if_pos (by omega), if_pos (by omega), hr2, if_neg (by omega), if_pos hx.1, if_pos (by rw [rulL_length]; omega), hhas _ (by omega), Option.bind_some, if_pos rfl, wrap64_id (((u + 1 : Nat) : Int) + 1) (by omega) (by omega), show (((u + 1 : Nat) : Int) + 1) = ((u + 1 + 1 : Nat) : Int) by omega]
      exact ih (u + 1 + 1) k (by omega) hk
    · rw [if_neg h0, if_pos hx.1, if_pos (by rw [rulL_length]; omega), hhas _ (by omega), Option.bind_some, if_pos rfl, wrap64_id ((t : Int) + 1) (by omega) (by omega), show ((t : Int) + 1) = ((t + 1 : Nat) : Int) by omega]
      exact ih (t + 1) k (by omega) hk
theorem mosaiclaw09_OuterEach.cols (s a q n : Nat) (hB : outer_Check.B (s : Int) (n : Int) (a : Int) (q : Int)) (d : Nat) : ∀ (i k : Nat), i + d = n → 3200 + 12 * d < k →
    mosaiclaw09_OuterEach.l2 k (rulL (outer_joins.J s a q) n a) ((total (outer_joins.J s a q) n a : Nat) : Int) (i : Int) (s : Int) (n : Int) (a : Int) (q : Int) = some true := by
  have hB2 := hB
  obtain ⟨b1, b2, b3, b4⟩ := hB2
  have hmn : mn (q : Int) (a : Int) = ((min q a : Nat) : Int) := by unfold mn; split <;> omega
  induction d with
  | zero =>
    intro i k hi hk
    obtain ⟨k, rfl⟩ : ∃ m, k = m + 1 := ⟨k - 1, by omega⟩
    obtain rfl : i = n := by omega
    have ht := total_eq (outer_joins.J s a q) a (min q a) i (fun j hj => ⟨outer_joins.rises s a q j (by omega), outer_joins.range s a q j (by omega), outer_joins.length s a q j (by omega)⟩)
    have hle : i * min q a ≤ 96 * 8 := Nat.mul_le_mul (by omega) (by omega)
    rw [mosaiclaw09_OuterEach.l2, if_neg (by omega), mosaiclaw09_awake.spec _ (by omega), Option.bind_some, if_pos rfl, rulL_length, if_pos rfl, ht, hmn]
    rw [show ((i : Int) * ((min q a : Nat) : Int)) = ((i * min q a : Nat) : Int) by rw [Int.natCast_mul], wrap64_id _ (by omega) (by omega)]
    simp
  | succ d ih =>
    intro i k hi hk
    have hlen := outer_joins.length s a q i (by omega)
    obtain ⟨k, rfl⟩ : ∃ m, k = m + (outer_joins.J s a q i).length + 1 + 1 := ⟨k - 2 - (outer_joins.J s a q i).length, by omega⟩
    rw [mosaiclaw09_OuterEach.l2, if_pos (by omega), outer_Joins.spec _ _ _ _ _ _ (by omega), if_pos ⟨hB, by omega, by omega⟩, Option.bind_some]
    simp only [Int.toNat_natCast]
    rw [if_pos trivial, if_pos (by rw [hlen, hmn])]
    have h := mosaiclaw09_OuterEach.joins (outer_joins.J s a q) n a i (by omega) (by omega) (by omega) ((total (outer_joins.J s a q) n a : Nat) : Int) (s : Int) (n : Int) (q : Int) (outer_joins.rises s a q i (by omega)) (outer_joins.range s a q i (by omega)) (by omega) (outer_joins.J s a q i).length 0 k (by omega) (by omega)
    refine Eq.trans h ?_
    rw [wrap64_id _ (by omega) (by omega), show ((i : Int) + 1) = ((i + 1 : Nat) : Int) by omega]
    exact ih (i + 1) k (by omega) (by omega)

end Go.Proofs.Ytghhmnjkgnoogaa.POuterEach
namespace Go.Proofs.Ytghhmnjkgnoogaa.Pure
open Go.RowKit Go.Proofs.Ytghhmnjkgnoogaa.POuterEach Go.Proofs.YtghhmnjkgnoogaaW.PrintWords Go.Proofs.YtghhmnjkgnoogaaW.PrintLast Go.Proofs.YtghhmnjkgnoogaaW.PrintMore Go.Mine
theorem OuterEach : mosaiclaw09_OuterEach.Pure := by
  intro s n a q _ _ _ _
  refine ⟨20000, ?_⟩
  unfold mosaiclaw09_OuterEach.f
  rw [outer_Rules.spec _ _ _ _ _ (by omega), Option.bind_some]
  by_cases hB : outer_Check.B s n a q
  · rw [if_pos hB]
    simp only
    rw [if_pos trivial]
    obtain ⟨b1, b2, b3, b4⟩ := hB
    obtain ⟨s, rfl⟩ : ∃ m : Nat, s = m := ⟨s.toNat, by omega⟩
    obtain ⟨n, rfl⟩ : ∃ m : Nat, n = m := ⟨n.toNat, by omega⟩
    obtain ⟨a, rfl⟩ : ∃ m : Nat, a = m := ⟨a.toNat, by omega⟩
    obtain ⟨q, rfl⟩ : ∃ m : Nat, q = m := ⟨q.toNat, by omega⟩
    simp only [Int.toNat_natCast]
    obtain ⟨k', h1, h2⟩ := mosaiclaw09_OuterEach.rows (outer_joins.J s a q) n a (by omega) (by omega) (s : Int) (a : Int) (q : Int) a 0 20000 (by omega) (by omega) (by simp [total])
    have h3 := mosaiclaw09_OuterEach.cols s a q n ⟨b1, b2, b3, b4⟩ n 0 k' (by omega) (by omega)
    exact h2.trans h3
  · rw [if_neg hB]
    simp only
    rw [if_neg (by decide), mosaiclaw09_awake.spec _ (by omega), Option.bind_some, if_pos rfl, outer_Check.spec, Option.bind_some]
    simp [hB]
end Go.Proofs.Ytghhmnjkgnoogaa.Pure
