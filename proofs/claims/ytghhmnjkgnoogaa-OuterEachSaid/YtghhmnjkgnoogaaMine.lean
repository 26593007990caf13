import Derived.Laws.IdiomStrings
import Derived.Laws.BytesArg
import Derived.Below
import Derived.OwnWalk
import Derived.WalkKit
namespace Go.Mine
open Go Go.RowKit
variable {P : Program}

/-- Block g of w holds the bytes xs at its front (element type e); none of them is barred from writing. -/
def ByteRow (e : TypeId) (w : World) (g : Nat) (xs : List Int) : Prop :=
  ∃ (sp : List Value) (fr : Nat × Nat), w.heap[g]? = some (.cells (xs.map (Value.int .u8) ++ sp).toArray e fr) ∧ (xs.length ≤ fr.1 ∨ fr.2 ≤ fr.1)

section
variable {e : TypeId} {w w1 : World} {g : Nat} {xs : List Int}
theorem ByteRow.lt (h : ByteRow e w g xs) : g < w.heap.size := by
  obtain ⟨sp, fr, hg, _⟩ := h
  exact (Array.getElem?_eq_some_iff.1 hg).1
theorem ByteRow.cell (h : ByteRow e w g xs) (j : Nat) (hj : j < xs.length) : w.cell? ⟨g, j, none⟩ = some (.int .u8 (xs.getD j 0)) := by
  obtain ⟨sp, fr, hg, _⟩ := h
  simp [World.cell?, hg, List.getElem?_append_left, hj, List.getD_eq_getElem?_getD]
theorem ByteRow.frozen (h : ByteRow e w g xs) (j : Nat) (hj : j < xs.length) : w.frozen? ⟨g, j, none⟩ = false := by
  obtain ⟨sp, ⟨lo, hi⟩, hg, hf⟩ := h
  simp only at hf
  simp [World.frozen?, hg]
  intro h
  omega
theorem ByteRow.same (h : ByteRow e w g xs) (hs : w1.heap[g]? = w.heap[g]?) : ByteRow e w1 g xs := by
  obtain ⟨sp, fr, hg, hf⟩ := h
  exact ⟨sp, fr, hs.trans hg, hf⟩
theorem ByteRow.drew (h : ByteRow e w g xs) : ByteRow e w.drew g xs := h
theorem ByteRow.below (h : ByteRow e w g xs) (hb : Below w.heap.size w w1) : ByteRow e w1 g xs := h.same (hb.block g h.lt)
theorem ByteRow.set (h : ByteRow e w g xs) (j : Nat) (hj : j < xs.length) (v : Int) : ByteRow e (w.setCell ⟨g, j, none⟩ (.int .u8 v)) g (xs.set j v) := by
  obtain ⟨sp, fr, hg, hf⟩ := h
  refine ⟨sp, fr, ?_, by simpa using hf⟩
  simp only [World.setCell]
  rw [Array.getElem?_modify]
  simp [hg]
  rw [List.set_append_left _ _ (by simpa using hj)]
/-- 'string(b)' of such a block. -/
theorem ByteRow.back (h : ByteRow e w g xs) (src dst : TypeId) (hs : P.underlying src = some (.slice e)) (he : P.underlying e = some (.int .u8)) (hd : P.underlying dst = some .string) (n c : Nat) (hn : xs.length = n) :
    (convert src dst (.slice (some ⟨g, 0, none⟩) n c)).run P w = .ok (.string (strOfNums xs)) w := by
  refine run_convert_bytes_arg w src e hs he g 0 n c xs hn (fun i hi => ?_) dst hd
  rw [Nat.zero_add, h.cell i (by omega)]
end

/-- 'make([]byte, n)': bytes 0. -/
theorem ByteRow.made (e : TypeId) (w : World) (n : Nat) : ByteRow e (w.alloc (.cells (madeCells #[.int .u8 0] n) e)) w.heap.size (List.replicate n 0) := by
  refine ⟨[], (0, 0), ?_, .inr (Nat.le_refl _)⟩
  rw [heap_alloc_new]
  congr 2
  apply Array.ext'
  simp [madeCells]
  rw [List.eq_replicate_iff]
  refine ⟨by simp, fun b hb => ?_⟩
  obtain ⟨x, _, rfl⟩ := List.mem_map.1 hb
  rw [Nat.mod_one]
  rfl

def bytesI (s : ByteArray) : List Int := s.data.toList.map fun b => (b.toNat : Int)
theorem bytesI_length (s : ByteArray) : (bytesI s).length = s.size := by
  unfold bytesI
  rw [List.length_map, Array.length_toList]
  rfl

theorem bytesI_getD (s : ByteArray) (k : Nat) (h : k < s.size) : (bytesI s).getD k 0 = (s[k].toNat : Int) := by
  unfold bytesI
  rw [List.getD_eq_getElem?_getD, List.getElem?_map]
  have h1 : k < s.data.toList.length := by rw [Array.length_toList]; exact h
  rw [List.getElem?_eq_getElem h1]
  rfl

/-- '[]byte(s)': a new block that holds the bytes; all else is as it was. -/
theorem run_bytes (w : World) (src dst e : TypeId) (s : ByteArray) (hs : P.underlying src = some .string) (hd : P.underlying dst = some (.slice e)) (he : P.underlying e = some (.int .u8)) :
    ∃ (w1 : World) (c : Nat), (convert src dst (.string s)).run P w = .ok (.slice (some ⟨w.heap.size, 0, none⟩) s.size c) w1 ∧
      ByteRow e w1 w.heap.size (bytesI s) ∧ Below w.heap.size w w1 ∧ s.size ≤ c ∧ w1.heap.size = w.heap.size + 1 := by
  have hc := grownCap_ge w s.size 0 e
  refine ⟨_, _, run_bytes_of_string w src dst e s hs hd he, ?_, ?_, hc, ?_⟩
  · refine ⟨List.replicate (grownCap w s.size 0 e - s.size) (.int .u8 0), ((bytesRow s (grownCap w s.size 0 e)).size, (bytesRow s (grownCap w s.size 0 e)).size + 1), ?_, ?_⟩
    · have h1 := heap_alloc_new w.drew (.cells (bytesRow s (grownCap w s.size 0 e)) e ((bytesRow s (grownCap w s.size 0 e)).size, (bytesRow s (grownCap w s.size 0 e)).size + 1))
      have h2 : (w.drew.heap.size) = w.heap.size := rfl
      rw [h2] at h1
      rw [h1]
      congr 2
      apply Array.ext'
      simp [bytesRow, bytesI]
    · left
      rw [bytesI_length]
      show s.size ≤ (bytesRow s _).size
      unfold bytesRow
      rw [Array.size_append, Array.size_map]
      exact Nat.le_add_right _ _
  · exact (Below.refl _ _).drew.alloc (Nat.le_refl _) _
  · simp

/-- A place at which p holds somewhere in the list, or a number below 0. -/
def IdxOf {α : Type} (p : α → Bool) (l : List α) (i : Int) : Prop := 0 ≤ i ↔ l.any p = true

/-- A text with the bit of a place turned. -/
def turnS (s : ByteArray) (i : Int) : ByteArray := strOfNums ((bytesI s).set (i / 8).toNat (Go.bits .xor .u8 ((bytesI s).getD (i / 8).toNat 0) (2 ^ (i % 8).toNat % 256)))

/-- The bytes z behind k steps of bits.Full's loop. -/
def fullB (n : Int) (z : List Int) : Nat → List Int
  | 0 => z
  | k + 1 => if (k : Int) < n then (fullB n z k).set (k / 8) (Go.bits .or .u8 ((fullB n z k).getD (k / 8) 0) (2 ^ (k % 8) % 256)) else fullB n z k
theorem fullB_length (n : Int) (z : List Int) (k : Nat) : (fullB n z k).length = z.length := by
  induction k with
  | zero => rfl
  | succ k ih => unfold fullB; split <;> simp [ih]

/-- The bytes of a behind k steps of a loop that sets each to 'op a[i] b[i]'. -/
def bothB (op : BinOp) (a b : List Int) : Nat → List Int
  | 0 => a
  | k + 1 => (bothB op a b k).set k (Go.bits op .u8 ((bothB op a b k).getD k 0) (b.getD k 0))
theorem bothB_length (op : BinOp) (a b : List Int) (k : Nat) : (bothB op a b k).length = a.length := by
  induction k with
  | zero => rfl
  | succ k ih => unfold bothB; simp [ih]
end Go.Mine
