import Derived.Test.YtmebebpnogemdaaWWords
import Derived.Test.YtmebebpnogemdaaWMore
import Derived.Test.YtmebebpnogemdaaMine
import Derived.Test.YtmebebpnogemdaaPlainBits
import Derived.Lib.Repeat
namespace Go.Mine
open Go Go.RowKit Go.Proofs.YtmebebpnogemdaaW.PrintWords Go.Proofs.YtmebebpnogemdaaW.PrintLast Go.Proofs.YtmebebpnogemdaaW.PrintMore

set_option linter.unusedVariables false
theorem rep0 (c : Nat) : Lib.repeatL [0] c = List.replicate c (0 : UInt8) := by
  induction c with
  | zero => rfl
  | succ c ih => rw [Lib.repeatL, ih]; rfl
def zeroS (c : Nat) : ByteArray := ⟨(List.replicate c (0 : UInt8)).toArray⟩
theorem zeroS_size (c : Nat) : (zeroS c).size = c := by simp [zeroS, ByteArray.size]
theorem zeroS_nb (c j : Nat) : nb (zeroS c) j = 0 := by
  unfold nb zeroS
  simp only [List.getD_eq_getElem?_getD, List.getElem?_replicate]
  split <;> rfl
theorem nb_append (a b : ByteArray) (j : Nat) : nb (a ++ b) j = if j < a.size then nb a j else nb b (j - a.size) := by
  unfold nb
  rw [ByteArray.data_append, Array.toList_append, List.getD_eq_getElem?_getD]
  split
  · rename_i h
    rw [List.getElem?_append_left (by rw [len_data]; exact h), List.getD_eq_getElem?_getD]
  · rename_i h
    rw [List.getElem?_append_right (by rw [len_data]; omega), len_data, List.getD_eq_getElem?_getD]
theorem nb_extract (s : ByteArray) (a b j : Nat) (h : a + j < b) : nb (s.extract a b) j = nb s (a + j) := by
  unfold nb
  rw [ByteArray.data_extract, Array.toList_extract]
  simp only [List.extract_eq_take_drop, List.getD_eq_getElem?_getD]
  rw [List.getElem?_take_of_lt (by omega), List.getElem?_drop]

/-- Block j of a text by size z: m of its bytes. -/
def blkL (s : ByteArray) (z j m : Nat) : List Int := (List.range m).map fun t => ((nb s (j * z + t) : Nat) : Int)
theorem blkL_length (s : ByteArray) (z j m : Nat) : (blkL s z j m).length = m := by simp [blkL]
theorem blkL_succ (s : ByteArray) (z j m : Nat) : blkL s z j (m + 1) = blkL s z j m ++ [((nb s (j * z + m) : Nat) : Int)] := by simp [blkL, List.range_succ]
def blk (s : ByteArray) (z j : Nat) : ByteArray := strOfNums (blkL s z j z)
theorem blk_size (s : ByteArray) (z j : Nat) : (blk s z j).size = z := by rw [blk, strOfNums_size', blkL_length]
theorem blk_nb (s : ByteArray) (z j t : Nat) (h : t < z) : nb (blk s z j) t = nb s (j * z + t) := by
  rw [blk, nb_strOfNums, blkL, List.getD_eq_getElem?_getD, List.getElem?_map, List.getElem?_range h]
  have := nb_lt s (j * z + t)
  simp
  omega
def cutL (s : ByteArray) (z n : Nat) : List ByteArray := (List.range n).map (blk s z)
theorem cutL_length (s : ByteArray) (z n : Nat) : (cutL s z n).length = n := by simp [cutL]
theorem cutL_succ (s : ByteArray) (z n : Nat) : cutL s z (n + 1) = cutL s z n ++ [blk s z n] := by simp [cutL, List.range_succ]
theorem blk_piece (s : ByteArray) (z j : Nat) (hj : j * z ≤ s.size) : s.extract (j * z) (min ((j + 1) * z) s.size) ++ zeroS (z - (min ((j + 1) * z) s.size - j * z)) = blk s z j := by
  have e : (j + 1) * z = j * z + z := Nat.succ_mul j z
  have hz : (s.extract (j * z) (min ((j + 1) * z) s.size)).size = min ((j + 1) * z) s.size - j * z := by rw [ByteArray.size_extract]; omega
  refine bytes_ext _ _ ?_ fun t ht => ?_
  · rw [ByteArray.size_append, hz, zeroS_size, blk_size]; omega
  · rw [ByteArray.size_append, hz, zeroS_size] at ht
    rw [nb_append, hz, blk_nb _ _ _ _ (by omega)]
    split
    · rw [nb_extract _ _ _ _ (by omega)]
    · rw [zeroS_nb, nb_oob _ _ (by omega)]

/-- How many blocks. -/
def cntN (n z : Nat) : Nat := (n + z - 1) / z
theorem cntN_lt (n z i : Nat) (hz : 1 ≤ z) (hn : 1 ≤ n) : i * z < n ↔ i < cntN n z := by
  unfold cntN
  rw [Nat.lt_iff_add_one_le (m := i), Nat.le_div_iff_mul_le (by omega), Nat.succ_mul]
  omega
theorem cntN_mul (n z : Nat) (hz : 1 ≤ z) : cntN n z * z ≤ n + z - 1 := Nat.div_mul_le_self _ _
theorem cntN_pos (n z : Nat) (hz : 1 ≤ z) (hn : 1 ≤ n) : 1 ≤ cntN n z := (cntN_lt n z 0 hz hn).1 (by omega)
theorem cntN_le (n z : Nat) (hz : 1 ≤ z) : cntN n z ≤ n + z - 1 := Nat.div_le_self _ _
def cntI (n z : Int) : Int := if 1 ≤ n ∧ n ≤ 4096 ∧ 1 ≤ z ∧ z ≤ 64 ∧ cntN n.toNat z.toNat ≤ 96 then (cntN n.toNat z.toNat : Int) else 0
def cutR (s : ByteArray) (z : Int) : List ByteArray × Int := if ¬ (1 ≤ z ∧ z ≤ 64) ∨ s.size = 0 then ([], 1) else if cntI s.size z = 0 then ([], 2) else (cutL s z.toNat (cntI s.size z).toNat, 0)
theorem toList_inj {a b : ByteArray} (h : a.toList = b.toList) : a = b := by
  rw [Go.ByteArray.toList_eq, Go.ByteArray.toList_eq] at h
  cases a; cases b
  simpa using h
end Go.Mine
