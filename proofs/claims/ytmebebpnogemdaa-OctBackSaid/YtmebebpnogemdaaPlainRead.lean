import Derived.Test.YtmebebpnogemdaaPlainOct
namespace Go.Mine
open Go Go.RowKit Go.Proofs.YtmebebpnogemdaaW.PrintWords Go.Proofs.YtmebebpnogemdaaW.PrintLast Go.Proofs.YtmebebpnogemdaaW.PrintMore
set_option linter.unusedVariables false
/-- What is cut off the front of bytes: it, what is left, the first error. -/
def cutT (s : ByteArray) (e n : Int) : ByteArray × ByteArray × Int :=
  if e = 0 then (if n < 0 then (⟨#[]⟩, s, 1) else if n > (s.size : Int) then (⟨#[]⟩, s, 7) else (s.extract 0 n.toNat, s.extract n.toNat s.size, 0)) else (⟨#[]⟩, s, e)
/-- A number that is read. -/
def numT (s : ByteArray) (e n : Int) : Int × ByteArray × Int :=
  (getR (cutT s e (if 1 ≤ n ∧ n ≤ 7 then n else -1)).1, (cutT s e (if 1 ≤ n ∧ n ≤ 7 then n else -1)).2.1, (cutT s e (if 1 ≤ n ∧ n ≤ 7 then n else -1)).2.2)
/-- A text that is read. -/
def textT (s : ByteArray) (e : Int) : ByteArray × ByteArray × Int :=
  if (cutT (numT s e 2).2.1 (numT s e 2).2.2 (numT s e 2).1).2.2 = 0 then cutT (numT s e 2).2.1 (numT s e 2).2.2 (numT s e 2).1
  else (⟨#[]⟩, s, (cutT (numT s e 2).2.1 (numT s e 2).2.2 (numT s e 2).1).2.2)
def leftT (s : ByteArray) (e : Int) : Int := if e = 0 then (s.size : Int) else 0
def endT (s : ByteArray) (e : Int) : Int := if e = 0 then (if s.toList = [] then 0 else 3) else e
theorem getR_nil : getR ⟨#[]⟩ = 0 := rfl
theorem getR_nonneg (s : ByteArray) : 0 ≤ getR s := by unfold getR; split <;> omega
theorem cutT_err (s : ByteArray) (e n : Int) (h : (cutT s e n).2.2 ≠ 0) : (cutT s e n).1 = ⟨#[]⟩ ∧ (cutT s e n).2.1 = s := by
  unfold cutT at h ⊢
  split
  · split
    · exact ⟨rfl, rfl⟩
    · split
      · exact ⟨rfl, rfl⟩
      · rename_i h1 h2 h3
        rw [if_pos h1, if_neg h2, if_neg h3] at h
        exact absurd rfl h
  · exact ⟨rfl, rfl⟩
theorem cutT_bad (s : ByteArray) (e n : Int) (h : e ≠ 0) : cutT s e n = (⟨#[]⟩, s, e) := by unfold cutT; rw [if_neg h]
theorem numT_bad (s : ByteArray) (e n : Int) (h : e ≠ 0) : numT s e n = (0, s, e) := by unfold numT; rw [cutT_bad _ _ _ h]; rfl
end Go.Mine
