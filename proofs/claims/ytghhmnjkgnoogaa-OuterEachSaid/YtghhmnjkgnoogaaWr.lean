import Derived.Lib.FrozenHead
import Derived.Lib.UnsafeStr
import Derived.Lib.Builder
import Derived.Below
import Derived.Test.YtghhmnjkgnoogaaWKept
import Derived.Test.YtghhmnjkgnoogaaMine
namespace Go.Mine
open Go Go.RowKit Go.Lib Go.Proofs.YtghhmnjkgnoogaaW.PrintWords

/-- A writer of package oct: block g of type T: its Builder's two cells (the address p, the buffer v) and the error; the buffer holds the bytes of s (element type e). -/
def WrAt (T e : TypeId) (B g : Nat) (p v : Value) (s : ByteArray) (er : Int) (w : World) : Prop :=
  B ≤ g ∧ w.heap[g]? = some (.cells #[p, v, .int .i64 er] T (0, 0)) ∧ w.ownsRowF B e 1 v s.size (strCells s) ∧ v.ownBlock ≠ some g
/-- .. the Builder fresh, or used. -/
def IsWr (T e : TypeId) (B g : Nat) (v : Value) (s : ByteArray) (er : Int) (w : World) : Prop :=
  ∃ p, (p = .pointer none ∨ p = .pointer (some ⟨g, 0, none⟩)) ∧ WrAt T e B g p v s er w

section
variable {T e : TypeId} {B g : Nat} {p v : Value} {s : ByteArray} {er : Int} {w w1 : World}
theorem WrAt.lt (h : WrAt T e B g p v s er w) : g < w.heap.size := (Array.getElem?_eq_some_iff.1 h.2.1).1
theorem WrAt.ge (h : WrAt T e B g p v s er w) : B ≤ g := h.1
theorem WrAt.cell0 (h : WrAt T e B g p v s er w) : w.cell? ⟨g, 0, none⟩ = some p := by rw [cell_of_heap h.2.1]; rfl
theorem WrAt.cell1 (h : WrAt T e B g p v s er w) : w.cell? ⟨g, 1, none⟩ = some v := by rw [cell_of_heap h.2.1]; rfl
theorem WrAt.cell2 (h : WrAt T e B g p v s er w) : w.cell? ⟨g, 2, none⟩ = some (.int .i64 er) := by rw [cell_of_heap h.2.1]; rfl
theorem WrAt.frozen (h : WrAt T e B g p v s er w) (j : Nat) : w.frozen? ⟨g, j, none⟩ = false := frozen_of_heap h.2.1 j
theorem WrAt.shape (h : WrAt T e B g p v s er w) : w.shape? g = some (T, 3) := by simp [World.shape?, h.2.1]
theorem WrAt.drew (h : WrAt T e B g p v s er w) : WrAt T e B g p v s er w.drew := h
/-- Nothing of the writer's is touched. -/
theorem WrAt.same (h : WrAt T e B g p v s er w) (h1 : ∀ k, (k = g ∨ v.ownBlock = some k) → w1.heap[k]? = w.heap[k]?) : WrAt T e B g p v s er w1 := by
  obtain ⟨hB, hg, hown, hne⟩ := h
  refine ⟨hB, (h1 g (.inl rfl)).trans hg, ⟨hown.1, ?_⟩, hne⟩
  rcases hown.2 with hn | ⟨g', cap, cur, fz, rfl, hb, hgg, rest⟩
  · exact .inl hn
  · exact .inr ⟨g', cap, cur, fz, rfl, hb, (h1 g' (.inr rfl)).trans hgg, rest⟩
theorem WrAt.own_lt (h : WrAt T e B g p v s er w) (k : Nat) (hk : v.ownBlock = some k) : k < w.heap.size := (h.2.2.1.lt k hk).2
theorem WrAt.own_ge (h : WrAt T e B g p v s er w) (k : Nat) (hk : v.ownBlock = some k) : B ≤ k := (h.2.2.1.lt k hk).1
theorem WrAt.kept {S : Nat → Prop} (h : WrAt T e B g p v s er w) (hk : Kept w w1 S) (h1 : ∀ k, (k = g ∨ v.ownBlock = some k) → ¬ S k) : WrAt T e B g p v s er w1 :=
  h.same (fun k hk' => hk.2 k (hk'.elim (fun e => e ▸ h.lt) (fun e => h.own_lt k e)) (h1 k hk'))
theorem WrAt.below (h : WrAt T e B g p v s er w) (hb : Below w.heap.size w w1) : WrAt T e B g p v s er w1 :=
  h.same (fun k hk' => hb.block k (hk'.elim (fun e => e ▸ h.lt) (fun e => h.own_lt k e)))
theorem IsWr.below (h : IsWr T e B g v s er w) (hb : Below w.heap.size w w1) : IsWr T e B g v s er w1 := by
  obtain ⟨p, hp, h⟩ := h
  exact ⟨p, hp, h.below hb⟩
theorem IsWr.kept {S : Nat → Prop} (h : IsWr T e B g v s er w) (hk : Kept w w1 S) (h1 : ∀ k, (k = g ∨ v.ownBlock = some k) → ¬ S k) : IsWr T e B g v s er w1 := by
  obtain ⟨p, hp, h⟩ := h
  exact ⟨p, hp, h.kept hk h1⟩
/-- The cells of the block, one turned. -/
theorem WrAt.set0 (h : WrAt T e B g p v s er w) (q : Value) : WrAt T e B g q v s er (w.setCell ⟨g, 0, none⟩ q) := by
  obtain ⟨hB, hg, hown, hne⟩ := h
  refine ⟨hB, by simp [World.setCell, Array.getElem?_modify, hg], ?_, hne⟩
  exact hown.kept (row := some g) ⟨rfl, rfl, rfl, by simp [World.setCell], fun k _ hk => Below.heap_setCell _ _ _ _ (fun e => hk (by simp [e]))⟩ (Or.inr hne)
theorem WrAt.set2 (h : WrAt T e B g p v s er w) (x : Int) : WrAt T e B g p v s x (w.setCell ⟨g, 2, none⟩ (.int .i64 x)) := by
  obtain ⟨hB, hg, hown, hne⟩ := h
  refine ⟨hB, by simp [World.setCell, Array.getElem?_modify, hg], ?_, hne⟩
  exact hown.kept (row := some g) ⟨rfl, rfl, rfl, by simp [World.setCell], fun k _ hk => Below.heap_setCell _ _ _ _ (fun e => hk (by simp [e]))⟩ (Or.inr hne)
theorem WrAt.set1 {v' : Value} {s' : ByteArray} (hB : B ≤ g) (hg : w.heap[g]? = some (.cells #[p, v, .int .i64 er] T (0, 0))) (hown : w.ownsRowF B e 1 v' s'.size (strCells s')) (hTe : T ≠ e) : WrAt T e B g p v' s' er (w.setCell ⟨g, 1, none⟩ v') := by
  have hne := ownBlock_neF hown hg hTe
  refine ⟨hB, by simp [World.setCell, Array.getElem?_modify, hg], ?_, hne⟩
  exact hown.kept (row := some g) ⟨rfl, rfl, rfl, by simp [World.setCell], fun k _ hk => Below.heap_setCell _ _ _ _ (fun e => hk (by simp [e]))⟩ (Or.inr hne)
/-- The bytes that String() hands out are barred from writing; the writer can be written on. -/
theorem WrAt.froze {h' cap : Nat} (h : WrAt T e B g p (.slice (some ⟨h', 0, none⟩) s.size cap) s er w) : WrAt T e B g p (.slice (some ⟨h', 0, none⟩) s.size cap) s er (w.freeze ⟨h', 0, none⟩ s.size) := by
  obtain ⟨hB, hg, hown, hne⟩ := h
  have hgb : h' ≠ g := fun e => hne (by simp [Value.ownBlock, e])
  unfold World.freeze
  split
  · exact ⟨hB, hg, hown, hne⟩
  · rename_i hn0
    refine ⟨hB, ?_, ⟨hown.1, ?_⟩, hne⟩
    · simp only [Array.getElem?_modify]
      rw [if_neg hgb]
      exact hg
    · rcases hown.2 with ⟨hv, _⟩ | ⟨g', cap', cur, fz, hv, hbg, hgg, hfz, rest⟩
      · cases hv
      · injection hv with ha _ hcap
        injection ha with ha
        injection ha with hgg' _ _
        subst hgg'
        subst hcap
        obtain ⟨lo, hi⟩ := fz
        refine .inr ⟨h', _, cur, (if lo == hi then (0, 0 + s.size) else (min lo 0, max hi (0 + s.size))), rfl, hbg, ?_, ?_, rest⟩
        · simp [Array.getElem?_modify, hgg]
        · simp only at hfz
          split <;> simp <;> omega
end

/-- What becomes of a writer, and of the rest of memory, by a call. -/
def WrStep (T e : TypeId) (B g : Nat) (v : Value) (s' : ByteArray) (er' : Int) (w w' : World) : Prop :=
  ∃ v', IsWr T e B g v' s' er' w' ∧ Below B w w' ∧ Kept w w' (fun k => k = g ∨ v.ownBlock = some k)

/-- What putting bytes (or an error) does: the bytes and the error behind it. -/
def putS (s : ByteArray) (er : Int) (t : ByteArray) (f : Int) : ByteArray × Int :=
  if er = 0 then (if f = 0 then (if (t.size : Int) > 65536 - (s.size : Int) then (s, 2) else (s ++ t, 0)) else (s, f)) else (s, er)
end Go.Mine
