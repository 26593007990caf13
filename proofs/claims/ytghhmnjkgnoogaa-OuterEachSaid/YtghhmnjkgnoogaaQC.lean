import Derived.Test.YtghhmnjkgnoogaaWWords
import Derived.Test.YtghhmnjkgnoogaaWMore
import Derived.Test.YtghhmnjkgnoogaaMine
namespace Go.Mine
open Go Go.RowKit Go.Proofs.YtghhmnjkgnoogaaW.PrintWords Go.Proofs.YtghhmnjkgnoogaaW.PrintMore
namespace Kd
section
variable {α : Type} {d : Go.Proofs.YtghhmnjkgnoogaaW.PrintWords.Kd α} {e : Nat} {w w1 W : World} {base base' : Nat} {ok ok' : Nat → Prop} {v u : Value} {xs : List α}
/-- A row of one's own that was cut with a capacity ('l[:k:k]'): the printer's Q, and its first elements. -/
def QC {α : Type} (d : Go.Proofs.YtghhmnjkgnoogaaW.PrintWords.Kd α) (e : Nat) (w : World) (base : Nat) (ok : Nat → Prop) (v : Value) (xs : List α) : Prop :=
  ∃ (A : Option Addr) (c c2 : Nat) (ys : List α), d.Q e w base ok (.slice A ys.length c) ys ∧ v = .slice A xs.length c2 ∧ xs.length ≤ c2 ∧ ∃ n, n ≤ ys.length ∧ xs = ys.take n
theorem QC_ob {A : Option Addr} {x y a b : Nat} : (Value.slice A x a).ownBlock = (Value.slice A y b).ownBlock := by cases A <;> rfl
theorem QC_map (h : QC d e w base ok v xs) (hq : ∀ A ys c, d.Q e w base ok (.slice A ys.length c) ys → (Value.slice A ys.length c).ownBlock = v.ownBlock → d.Q e w1 base' ok' (.slice A ys.length c) ys) : QC d e w1 base' ok' v xs := by
  obtain ⟨A, c, c2, ys, h1, rfl, h2, h3⟩ := h
  exact ⟨A, c, c2, ys, hq A ys c h1 QC_ob, rfl, h2, h3⟩
theorem QC_of_Q (h : d.Q e w base ok v xs) : QC d e w base ok v xs := by
  obtain ⟨A, c, rfl, hl⟩ := Go.Proofs.YtghhmnjkgnoogaaW.PrintWords.Kd.Q_slice h
  exact ⟨A, c, c, xs, h, rfl, hl, xs.length, Nat.le_refl _, by rw [List.take_length]⟩
theorem QC_of_R (h : d.R e w base ok v xs) : QC d e w base ok v xs := QC_of_Q (Go.Proofs.YtghhmnjkgnoogaaW.PrintWords.Kd.Q_of_R h)
theorem QC_nil (d : Go.Proofs.YtghhmnjkgnoogaaW.PrintWords.Kd α) (e : Nat) (w : World) (base : Nat) (ok : Nat → Prop) : QC d e w base ok (.slice none 0 0) [] := QC_of_Q (Go.Proofs.YtghhmnjkgnoogaaW.PrintWords.Kd.Q_nil d e w base ok)
theorem QC_cut {A : Option Addr} {n c c2 m : Nat} (h : d.Q e w base ok (.slice A n c) xs) (hm : m ≤ xs.length) (hc : m ≤ c2) : QC d e w base ok (.slice A m c2) (xs.take m) := by
  have hn := (Go.Proofs.YtghhmnjkgnoogaaW.PrintWords.Kd.Q_reads' h).1
  subst hn
  have hl : (xs.take m).length = m := by rw [List.length_take]; omega
  exact ⟨A, c, c2, xs, h, by rw [hl], by rw [hl]; exact hc, m, hm, rfl⟩
theorem QC_below (h : QC d e w base ok v xs) (hb : Below w.heap.size w w1) : QC d e w1 base ok v xs := QC_map h (fun _ _ _ q _ => Go.Proofs.YtghhmnjkgnoogaaW.PrintWords.Kd.Q_below q hb)
theorem QC_alloc (h : QC d e w base ok v xs) (o : Obj) : QC d e (w.alloc o) base ok v xs := QC_below h (below_alloc (Below.refl _ _) o)
theorem QC_drew (h : QC d e w base ok v xs) : QC d e w.drew base ok v xs := QC_below h (below_drew (Below.refl _ _))
theorem QC_drewN (h : QC d e w base ok v xs) (m : Nat) : QC d e (w.drewN m) base ok v xs := QC_below h (pw_below_drewN (Below.refl _ _) m)
theorem QC_lower (h : QC d e w base ok v xs) (hb : base' ≤ base) : QC d e w base' ok v xs := QC_map h (fun _ _ _ q _ => Go.Proofs.YtghhmnjkgnoogaaW.PrintWords.Kd.Q_lower q hb)
theorem QC_mono (h : QC d e w base ok v xs) (hok : ∀ k, ok k → ok' k) : QC d e w base ok' v xs := QC_map h (fun _ _ _ q _ => Go.Proofs.YtghhmnjkgnoogaaW.PrintWords.Kd.Q_mono q hok)
theorem QC_base (h : QC d e w base ok v xs) : ∀ k, v.ownBlock = some k → base ≤ k := by
  obtain ⟨A, c, c2, ys, h1, rfl, h2, h3⟩ := h
  intro k hk
  exact Go.Proofs.YtghhmnjkgnoogaaW.PrintWords.Kd.Q_base h1 k (by rw [QC_ob (y := xs.length) (b := c2)]; exact hk)
theorem QC_lt (h : QC d e w base ok v xs) : ∀ k, v.ownBlock = some k → k < w.heap.size := by
  obtain ⟨A, c, c2, ys, h1, rfl, h2, h3⟩ := h
  intro k hk
  exact Go.Proofs.YtghhmnjkgnoogaaW.PrintWords.Kd.Q_lt h1 k (by rw [QC_ob (y := xs.length) (b := c2)]; exact hk)
theorem QC_grown2 (h : QC d e W base ok v xs) (hE : d.E = []) {row : Option Nat} (hg : W.grownBy w1 row) (hne : ∀ k, row = some k → some k ≠ v.ownBlock) : QC d e w1 base ok v xs :=
  QC_map h (fun _ _ _ q ho => Go.Proofs.YtghhmnjkgnoogaaW.PrintWords.Kd.Q_grown2 q hE hg (fun k hk => by rw [ho]; exact hne k hk))
theorem QC_over' {e' : Nat} (h : QC d e W base ok u xs) (hty : ∀ k, v.ownBlock = some k → ∃ cells, W.heap[k]? = some (.cells cells e' (0, 0))) (ht : ∀ q, q ∈ e :: d.E → q ≠ e') (hg : W.grownBy w1 v.ownBlock) : QC d e w1 base ok u xs :=
  QC_map h (fun _ _ _ q _ => Go.Proofs.YtghhmnjkgnoogaaW.PrintWords.Kd.Q_over' q hty ht hg)
theorem QC_reads' {A : Option Addr} {n c : Nat} (h : QC d e w base ok (.slice A n c) xs) : n = xs.length ∧ n ≤ c ∧ d.C w A xs.length xs := by
  obtain ⟨A', c', c2, ys, h1, he, h2, m, hm, rfl⟩ := h
  injection he with e1 e2 e3
  subst e1; subst e3
  exact ⟨e2, by omega, Go.Proofs.YtghhmnjkgnoogaaW.PrintWords.Kd.C_take (Go.Proofs.YtghhmnjkgnoogaaW.PrintWords.Kd.Q_reads' h1).2.2 hm⟩
theorem QC_slice (h : QC d e w base ok v xs) : ∃ A c, v = .slice A xs.length c ∧ xs.length ≤ c := by
  obtain ⟨A', c', c2, ys, h1, rfl, h2, _⟩ := h
  exact ⟨A', c2, rfl, h2⟩
end
end Kd
end Go.Mine
