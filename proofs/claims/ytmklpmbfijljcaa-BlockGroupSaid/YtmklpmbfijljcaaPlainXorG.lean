import Derived.Test.YtmklpmbfijljcaaPlainXor
namespace Go.Mine
open Go Go.RowKit Go.Proofs.YtmklpmbfijljcaaW.PrintWords Go.Proofs.YtmklpmbfijljcaaW.PrintLast Go.Proofs.YtmklpmbfijljcaaW.PrintMore
set_option linter.unusedVariables false
/-- The sum of the bytes of a place. -/
def xb : List ByteArray → Nat → Nat
  | [], _ => 0
  | s :: l, j => nb s j ^^^ xb l j
theorem xb_append (l m : List ByteArray) (j : Nat) : xb (l ++ m) j = xb l j ^^^ xb m j := by
  induction l with
  | nil => rw [List.nil_append, xb, Nat.zero_xor]
  | cons s l ih => rw [List.cons_append, xb, ih, xb, Nat.xor_assoc]
theorem xb_reverse (l : List ByteArray) (j : Nat) : xb l.reverse j = xb l j := by
  induction l with
  | nil => rfl
  | cons s l ih => rw [List.reverse_cons, xb_append, ih, xb, xb, xb, Nat.xor_zero, Nat.xor_comm]
theorem xsum_nb (l : List ByteArray) (j : Nat) : ∀ t, j < t.size → nb (xsum t l) j = nb t j ^^^ xb l j := by
  induction l with
  | nil => intro t _; rw [xsum, xb, Nat.xor_zero]
  | cons s l ih => intro t ht; rw [xsum, ih _ (by rw [bothS_size]; exact ht), xor_nb _ _ _ ht, xb, Nat.xor_assoc]
theorem xsum_congr (t : ByteArray) (l m : List ByteArray) (h : ∀ j, xb l j = xb m j) : xsum t l = xsum t m := by
  refine bytes_ext _ _ (by rw [xsum_size, xsum_size]) fun j hj => ?_
  rw [xsum_size] at hj
  rw [xsum_nb _ _ _ hj, xsum_nb _ _ _ hj, h]
theorem xsum_reverse (t : ByteArray) (l : List ByteArray) : xsum t l.reverse = xsum t l := xsum_congr t _ _ fun j => xb_reverse l j
theorem xsum_twice (t : ByteArray) (l : List ByteArray) : xsum t (l ++ l.reverse) = t := by
  have := xsum_congr t (l ++ l.reverse) [] fun j => by rw [xb_append, xb_reverse, Nat.xor_self, xb]
  rw [this, xsum]
theorem xsum_parts (n k : Nat) (l : List ByteArray) : bothS .xor (xsum (zeroS n) (l.take k)) (xsum (zeroS n) (l.drop k)) = xsum (zeroS n) l := by
  refine bytes_ext _ _ (by rw [bothS_size, xsum_size, xsum_size]) fun j hj => ?_
  rw [bothS_size, xsum_size] at hj
  rw [xor_nb _ _ _ (by rw [xsum_size]; exact hj), xsum_nb _ _ _ hj, xsum_nb _ _ _ hj, xsum_nb _ _ _ hj, zeroS_nb, Nat.zero_xor, Nat.zero_xor, Nat.zero_xor, ← xb_append, List.take_append_drop]
theorem odd_iff (l : List ByteArray) (z : Int) : odd l z = false ↔ ∀ s ∈ l, (s.size : Int) = z := by
  unfold odd
  rw [List.any_eq_false]
  constructor
  · intro h s hs
    have := h s hs
    simpa using this
  · intro h s hs
    have := h s hs
    simp [this]
theorem odd_sub (l m : List ByteArray) (z : Int) (h : odd l z = false) (hm : ∀ s ∈ m, s ∈ l) : odd m z = false :=
  (odd_iff m z).2 fun s hs => (odd_iff l z).1 h s (hm s hs)
theorem sumR_ok (l : List ByteArray) (z : Int) (hz : 1 ≤ z ∧ z ≤ 64) (h : odd l z = false) : sumR l z = (xsum (zeroS z.toNat) l, 0) := by
  unfold sumR
  rw [if_neg (show ¬ ¬ (1 ≤ z ∧ z ≤ 64) from fun hh => hh hz), h, if_neg (by decide)]
end Go.Mine
