import Derived.Test.YtmebebpnogemdaaWWords
import Derived.Test.YtmebebpnogemdaaWMore
import Derived.Test.YtmebebpnogemdaaMine
import Derived.Laws.BitsAllLaws
namespace Go.Mine
open Go Go.RowKit Go.Proofs.YtmebebpnogemdaaW.PrintWords Go.Proofs.YtmebebpnogemdaaW.PrintLast Go.Proofs.YtmebebpnogemdaaW.PrintMore

theorem wrap64_id (n : Int) (h1 : -9223372036854775808 ≤ n) (h2 : n ≤ 9223372036854775807) : wrap64 n = n := by
  unfold wrap64
  omega
theorem wf_i64 {n : Int} (h : (Lit.int .i64 n).wf = true) : -9223372036854775808 ≤ n ∧ n ≤ 9223372036854775807 := by
  have h' : IntKind.i64.min ≤ n ∧ n ≤ IntKind.i64.max := by simpa [Lit.wf] using h
  exact h'
theorem tdiv_pos (a b : Int) (h : 0 ≤ a) : Int.tdiv a b = a / b := Int.tdiv_eq_ediv_of_nonneg h
theorem tmod_pos (a b : Int) (h : 0 ≤ a) : Int.tmod a b = a % b := Int.tmod_eq_emod_of_nonneg h

/-- Byte j of a text (0 behind its end). -/
def nb (s : ByteArray) (j : Nat) : Nat := (s.data.toList.getD j 0).toNat
theorem nb_lt (s : ByteArray) (j : Nat) : nb s j < 256 := by
  have := (s.data.toList.getD j 0).toNat_lt
  unfold nb
  omega
theorem len_data (s : ByteArray) : s.data.toList.length = s.size := by rw [Array.length_toList]; rfl
theorem nb_oob (s : ByteArray) (j : Nat) (h : s.size ≤ j) : nb s j = 0 := by
  unfold nb
  rw [List.getD_eq_getElem?_getD, List.getElem?_eq_none (by rw [len_data]; exact h)]
  rfl
theorem bt_nb (s : ByteArray) (i : Int) : bt s i = (nb s i.toNat : Int) := by
  unfold bt
  split
  · rename_i h
    unfold nb
    rw [List.getD_eq_getElem?_getD, List.getElem?_eq_getElem (by rw [len_data]; exact h)]
    rfl
  · rename_i h
    rw [nb_oob s _ (by omega)]
    rfl

/-- Bit i of a text. -/
def hb (s : ByteArray) (i : Nat) : Bool := (nb s (i / 8)).testBit (i % 8)
theorem hb_oob (s : ByteArray) (i : Nat) (h : 8 * s.size ≤ i) : hb s i = false := by
  unfold hb
  rw [nb_oob s _ (by omega)]
  exact Nat.zero_testBit _
theorem hb_lt (s : ByteArray) (i : Nat) (h : hb s i = true) : i < 8 * s.size := by
  rcases Nat.lt_or_ge i (8 * s.size) with h' | h'
  · exact h'
  · rw [hb_oob s i h'] at h
    cases h
/-- Two texts of one length and the same bits are the same. -/
theorem bytes_ext (s t : ByteArray) (hs : s.size = t.size) (h : ∀ j, j < s.size → nb s j = nb t j) : s = t := by
  have hl : s.data.toList = t.data.toList := by
    apply List.ext_getElem
    · rw [len_data, len_data]; exact hs
    · intro j h1 h2
      have := h j (by rw [len_data] at h1; exact h1)
      unfold nb at this
      rw [List.getD_eq_getElem?_getD, List.getD_eq_getElem?_getD, List.getElem?_eq_getElem h1, List.getElem?_eq_getElem h2] at this
      exact UInt8.toNat_inj.1 this
  have hd : s.data = t.data := Array.toList_inj.1 hl
  cases s; cases t
  simp only at hd
  rw [hd]
theorem hb_ext (s t : ByteArray) (hs : s.size = t.size) (h : ∀ i, i < 8 * s.size → hb s i = hb t i) : s = t := by
  apply bytes_ext s t hs
  intro j hj
  apply Nat.eq_of_testBit_eq
  intro b
  rcases Nat.lt_or_ge b 8 with hb8 | hb8
  · have := h (8 * j + b) (by omega)
    unfold hb at this
    rw [show (8 * j + b) / 8 = j by omega, show (8 * j + b) % 8 = b by omega] at this
    exact this
  · have h1 : (256 : Nat) ≤ 2 ^ b := by
      have := Nat.pow_le_pow_right (show 0 < 2 by decide) hb8
      omega
    rw [Nat.testBit_lt_two_pow (Nat.lt_of_lt_of_le (nb_lt s j) h1), Nat.testBit_lt_two_pow (Nat.lt_of_lt_of_le (nb_lt t j) h1)]

theorem testBit_div (x i : Nat) : (x / 2 ^ i % 2 == 1) = x.testBit i := by
  rw [Nat.testBit_eq_decide_div_mod_eq]
  rfl

/-- What strOfNums holds. -/
theorem strOfNums_size' (xs : List Int) : (strOfNums xs).size = xs.length := strOfNums_size xs
theorem nb_strOfNums (xs : List Int) (j : Nat) : nb (strOfNums xs) j = ((xs.getD j 0).toNat) % 256 := by
  unfold nb
  rw [strOfNums_data, List.getD_eq_getElem?_getD, List.getElem?_map, List.getD_eq_getElem?_getD]
  cases xs[j]? with
  | none => rfl
  | some v => simp
theorem nb_bytesI (s : ByteArray) (j : Nat) : (bytesI s).getD j 0 = (nb s j : Int) := by
  unfold bytesI nb
  rw [List.getD_eq_getElem?_getD, List.getElem?_map, List.getD_eq_getElem?_getD]
  cases s.data.toList[j]? with
  | none => rfl
  | some v => rfl

/-- How many bits below n are 1. -/
def rk (s : ByteArray) : Nat → Nat
  | 0 => 0
  | n + 1 => rk s n + (if hb s n = true then 1 else 0)
theorem rk_le (s : ByteArray) (n : Nat) : rk s n ≤ n := by
  induction n with
  | zero => exact Nat.le_refl _
  | succ n ih => unfold rk; split <;> omega
theorem rk_succ (s : ByteArray) (n : Nat) : rk s (n + 1) = rk s n + (if hb s n = true then 1 else 0) := rfl
theorem rk_mono (s : ByteArray) {a b : Nat} (h : a ≤ b) : rk s a ≤ rk s b := by
  induction b with
  | zero =>
    obtain rfl : a = 0 := by omega
    exact Nat.le_refl _
  | succ b ih =>
    rcases Nat.lt_or_ge a (b + 1) with h' | h'
    · have h1 := ih (by omega)
      have h2 := rk_succ s b
      omega
    · obtain rfl : a = b + 1 := by omega
      exact Nat.le_refl _
theorem rk_step (s : ByteArray) (n : Nat) (h : hb s n = true) : rk s (n + 1) = rk s n + 1 := by simp [rk, h]
theorem rk_stay (s : ByteArray) (n : Nat) (h : hb s n = false) : rk s (n + 1) = rk s n := by simp [rk, h]

end Go.Mine
