import Derived.Test.YtmklpmbfijljcaaPlainSets
import Derived.Test.YtmklpmbfijljcaaPlainBlock
namespace Go.Mine
open Go Go.RowKit Go.Proofs.YtmklpmbfijljcaaW.PrintWords Go.Proofs.YtmklpmbfijljcaaW.PrintLast Go.Proofs.YtmklpmbfijljcaaW.PrintMore
set_option linter.unusedVariables false
theorem xor_nb (a b : ByteArray) (j : Nat) (hj : j < a.size) : nb (bothS .xor a b) j = nb a j ^^^ nb b j := by
  rw [bothS_nb _ _ _ _ hj, u8_xor_nat _ _ (nb_lt _ _) (nb_lt _ _), Int.toNat_natCast, Nat.mod_eq_of_lt (Nat.xor_lt_two_pow (n := 8) (nb_lt _ _) (nb_lt _ _))]
/-- Texts summed one behind the other. -/
def xsum (t : ByteArray) : List ByteArray → ByteArray
  | [] => t
  | s :: l => xsum (bothS .xor t s) l
theorem xsum_size (l : List ByteArray) : ∀ t, (xsum t l).size = t.size := by
  induction l with
  | nil => intro t; rfl
  | cons s l ih => intro t; rw [xsum, ih, bothS_size]
theorem bytesI_strOfNums (xs : List Int) (h : Bytes xs) : bytesI (strOfNums xs) = xs := by
  refine List.ext_getElem (by rw [bytesI_length, strOfNums_size']) fun j h1 h2 => ?_
  have e1 := nb_bytesI (strOfNums xs) j
  have e2 := nb_strOfNums xs j
  have e3 := h j
  rw [List.getD_eq_getElem?_getD, List.getElem?_eq_getElem h1] at e1
  rw [List.getD_eq_getElem?_getD, List.getElem?_eq_getElem h2] at e2 e3
  simp only [Option.getD_some] at e1 e2 e3
  omega
theorem bytes_xor (x : List Int) (hx : Bytes x) (s : ByteArray) (n : Nat) (hn : n ≤ x.length) : Bytes (bothB .xor x (bytesI s) n) := by
  intro j
  rw [bothB_get _ _ _ _ hn]
  split
  · have h1 := hx j
    have h2 := bytes_bytesI s j
    rw [u8_xor _ _ h1.1 h1.2 h2.1 h2.2]
    have := Nat.xor_lt_two_pow (n := 8) (x := (x.getD j 0).toNat) (y := ((bytesI s).getD j 0).toNat) (by omega) (by omega)
    omega
  · exact hx j
theorem bothB_step (x : List Int) (hx : Bytes x) (s : ByteArray) : strOfNums (bothB .xor x (bytesI s) x.length) = bothS .xor (strOfNums x) s := by
  unfold bothS
  rw [bytesI_strOfNums x hx, strOfNums_size']
def xorL (a b : ByteArray) (m : Nat) : List Int := (List.range m).map fun t => Go.bits .xor .u8 ((nb a t : Nat) : Int) ((nb b t : Nat) : Int)
theorem xorL_length (a b : ByteArray) (m : Nat) : (xorL a b m).length = m := by simp [xorL]
theorem xorL_succ (a b : ByteArray) (m : Nat) : xorL a b (m + 1) = xorL a b m ++ [Go.bits .xor .u8 ((nb a m : Nat) : Int) ((nb b m : Nat) : Int)] := by simp [xorL, List.range_succ]
theorem xorL_str (a b : ByteArray) : strOfNums (xorL a b a.size) = bothS .xor a b := by
  refine bytes_ext _ _ (by rw [strOfNums_size', xorL_length, bothS_size]) fun j hj => ?_
  rw [strOfNums_size', xorL_length] at hj
  rw [bothS_nb _ _ _ _ hj, nb_strOfNums, xorL, List.getD_eq_getElem?_getD, List.getElem?_map, List.getElem?_range hj]
  rfl
def xorR (a b : ByteArray) : ByteArray × Int := if a.size = b.size then (bothS .xor a b, 0) else (⟨#[]⟩, 1)
def odd (l : List ByteArray) (z : Int) : Bool := l.any fun s => !((s.size : Int) == z)
def sumR (l : List ByteArray) (z : Int) : ByteArray × Int := if ¬ (1 ≤ z ∧ z ≤ 64) then (⟨#[]⟩, 1) else if odd l z = true then (⟨#[]⟩, 1) else (xsum (zeroS z.toNat) l, 0)
def zeroR (z : Int) : ByteArray := if 1 ≤ z ∧ z ≤ 64 then zeroS z.toNat else ⟨#[]⟩
theorem strOfNums_zero (n : Nat) : strOfNums (List.replicate n 0) = zeroS n := by
  refine bytes_ext _ _ (by rw [strOfNums_size', zeroS_size, List.length_replicate]) fun j hj => ?_
  rw [nb_strOfNums, zeroS_nb, List.getD_eq_getElem?_getD, List.getElem?_replicate]
  split <;> rfl
theorem bytes_zero (n : Nat) : Bytes (List.replicate n 0) := by
  intro j
  rw [List.getD_eq_getElem?_getD, List.getElem?_replicate]
  split <;> simp
end Go.Mine
