import Derived.Laws.Strings
import Derived.Lib.IndexBytes
import Derived.Test.YtghhmnjkgnoogaaMine
namespace Go.Mine
open Go
theorem bytes_nil (s : ByteArray) (h : s.size = 0) : s.toList = [] := by
  rw [Go.ByteArray.toList_eq]
  exact List.eq_nil_of_length_eq_zero (by rw [Array.length_toList]; exact h)
theorem bytes_ne (s : ByteArray) (h : 0 < s.size) : s.toList ≠ [] := by
  rw [Go.ByteArray.toList_eq]
  intro e
  have := congrArg List.length e
  rw [Array.length_toList] at this
  have h2 : s.data.size = s.size := rfl
  rw [List.length_nil] at this
  omega
theorem bytes_nonempty (s : ByteArray) (h : 0 < s.size) : s.toList.isEmpty = false := by
  cases hh : s.toList with
  | nil => exact absurd hh (bytes_ne s h)
  | cons _ _ => rfl
theorem drop_extract (s : ByteArray) (a : Nat) : (s.extract a s.size).data.toList = s.data.toList.drop a := Go.Lib.extract_to_end s a
theorem size_extract_end (s : ByteArray) (a : Nat) : (s.extract a s.size).size = s.size - a := by rw [ByteArray.size_extract, Nat.min_self]
theorem list_cons (s : ByteArray) (h : 0 < s.size) : s.data.toList = s[0] :: (s.extract 1 s.size).data.toList := by
  rw [drop_extract]
  have hl : 0 < s.data.toList.length := by rw [Array.length_toList]; exact h
  have := List.drop_eq_getElem_cons (l := s.data.toList) (i := 0) hl
  rw [List.drop_zero] at this
  rw [this]
  rfl
end Go.Mine
