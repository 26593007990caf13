-- Written by this session's own program (wip/tools/mkprint.py) over the kit's printer, with overrides.
import Derived.Test.YtghhmnjkgnoogaaGreatTOuterWholesa
import Derived.Test.YtghhmnjkgnoogaaGreatQOuterWholesx0
import Derived.Test.YtghhmnjkgnoogaaGreatQOuterWholesx28
namespace Go.Proofs.YtghhmnjkgnoogaaGreat.POuterWholes
open Go.RowKit Go.Mine Go.Proofs.YtghhmnjkgnoogaaGreatW.PrintWords Go.Proofs.YtghhmnjkgnoogaaGreatW.PrintLast Go.Proofs.YtghhmnjkgnoogaaGreatW.PrintMore
attribute [local go_sem] max2_int min2_int max_two min_two max_three min_three max_four min_four   -- for this text's walks alone
set_option linter.unusedVariables false
set_option linter.unusedSimpArgs false
/-! ### mosaicref09_Sized: function 38 -/
def mosaicref09_Sized.l0 : Nat → List ByteArray → Int → Option (Bool)
 | 0, _, _ => none
 | k + 1, x0, x3 => if x3 < (x0.length : Int) then (if 0 ≤ x3 then ((mosaicref07_May.f ((rdOf ByteArray.empty x0 x3).size : Int)).bind fun t363 => (if t363 = true then (if 0 < (x0.length : Int) then (if ((rdOf ByteArray.empty x0 x3).size : Int) = ((rdOf ByteArray.empty x0 0).size : Int) then (mosaicref09_Sized.l0 k x0 (wrap64 (x3 + 1))) else (some false)) else (none)) else (some false))) else (none)) else (some (decide ((x0.length : Int) > 0)))
def mosaicref09_Sized.f (k : Nat) (l0 : List ByteArray) : Option (Bool) := mosaicref09_Sized.l0 k l0 0
theorem mosaicref09_Sized.mono_l : ∀ k, (∀ y0 y1, LeO (mosaicref09_Sized.l0 k y0 y1) (mosaicref09_Sized.l0 (k + 1) y0 y1))
 | 0 => fun _ _ r h => by simp [mosaicref09_Sized.l0] at h
 | k + 1 => by
  have ih0 := mosaicref09_Sized.mono_l k
  ·
   intro y0 y1
   unfold mosaicref09_Sized.l0
   repeat' first
   | (with_reducible exact ih0 _ _)
   | (with_reducible exact LeO.refl _)
   | (with_reducible exact LeO.none _)
   | (with_reducible refine LeO.ite ?_ ?_)
   | (with_reducible refine LeO.bind ?_ (fun _ => ?_))
   | exact ih0 _ _
   | exact LeO.none _
   | refine LeO.ite ?_ ?_
   | refine LeO.bind ?_ (fun _ => ?_)
theorem mosaicref09_Sized.mono : ∀ a0 k, LeO (mosaicref09_Sized.f k a0) (mosaicref09_Sized.f (k + 1) a0) := by
 intro a0 k
 have ih0 := mosaicref09_Sized.mono_l k
 unfold mosaicref09_Sized.f
 repeat' first
   | (with_reducible exact ih0 _ _)
   | (with_reducible exact LeO.refl _)
   | (with_reducible exact LeO.none _)
   | (with_reducible refine LeO.ite ?_ ?_)
   | (with_reducible refine LeO.bind ?_ (fun _ => ?_))
   | exact ih0 _ _
   | exact LeO.none _
   | refine LeO.ite ?_ ?_
   | refine LeO.bind ?_ (fun _ => ?_)
set_option maxHeartbeats 8000000 in
set_option maxRecDepth 100000 in
theorem mosaicref09_Sized.calls (k : Nat) (A0 : Option Addr) (c0 : Nat) (l0 : List ByteArray) (r : Bool) (w : World) (hr0 : Kd.C Kd.string w A0 l0.length l0) (hc0 : l0.length ≤ c0) (h : mosaicref09_Sized.f k l0 = some r) :
  Calls Tryz.prog 38 #[.slice A0 l0.length c0] w fun e w' => e = .returned (.bool r) ∧ Drawn0 w w' := by
 have HR0 := Aside0.mk hr0
 have HC0 := Aside0.mk hc0
 clear hr0 hc0; have H : (mosaicref09_Sized.l0 k l0 0) = some r := h
 clear h; have H' := Aside0.mk H
 clear H; go_enter Tryz.func38, Tryz.ntmps38
 go_wp2
 repeat (go_quiet (fail); try go_wp2)
 go_loopg [3] k (fun kq v3 w' => ∃ (x3_1 : Int), v3 = .int .i64 x3_1 ∧ Aside0 (mosaicref09_Sized.l0 kq l0 x3_1 = some r) ∧ Aside0 (kq ≤ k) ∧ Drawn0 w w')
 case atStart => exact ⟨(0), zF, H', ⟨Nat.le_refl _⟩, by repeat (first | exact Drawn0.refl _ | apply Drawn0.step)⟩
 case round =>
  clear H'
  obtain ⟨x3_1, rfl, HA, HK1, ⟨m1, rfl⟩⟩ := hrel
  cases gk with
  | zero => exact absurd HA.out (by simp [mosaicref09_Sized.l0])
  | succ k1 =>
   have H := HA.out; clear HA; simp only [mosaicref09_Sized.l0] at H
   by_cases c2 : x3_1 < (l0.length : Int)
   ·
    rw [if_pos c2] at H
    have c2b0 : decide (x3_1 < (l0.length : Int)) = true := decide_eq_true c2
    clear c2; by_cases c3 : 0 ≤ x3_1
    ·
     rw [if_pos c3] at H
     have c3b0 : decide (0 ≤ x3_1) = true := decide_eq_true c3
     clear c3; replace H := Option.bind_eq_some_iff.mp H
     obtain ⟨t363, A40, H⟩ := H
     replace H : (if t363 = true then (if 0 < (l0.length : Int) then (if ((rdOf ByteArray.empty l0 x3_1).size : Int) = ((rdOf ByteArray.empty l0 0).size : Int) then (mosaicref09_Sized.l0 k1 l0 (wrap64 (x3_1 + 1))) else (some false)) else (none)) else (some false)) = some r := H
     have A4 := Aside0.mk A40
     clear A40; by_cases c5 : t363 = true
     ·
      subst c5
      have H1 : (if 0 < (l0.length : Int) then (if ((rdOf ByteArray.empty l0 x3_1).size : Int) = ((rdOf ByteArray.empty l0 0).size : Int) then (mosaicref09_Sized.l0 k1 l0 (wrap64 (x3_1 + 1))) else (some false)) else (none)) = some r := by rw [if_pos rfl] at H; exact H
      clear H; have H := H1; clear H1; by_cases c6 : 0 < (l0.length : Int)
      ·
       rw [if_pos c6] at H
       have c6b0 : decide (0 < (l0.length : Int)) = true := decide_eq_true c6
       have c6b1 : decide (0 < l0.length) = true := decide_eq_true (by omega)
       have c6b2 : (0 < l0.length) := by omega
       clear c6; by_cases c7 : ((rdOf ByteArray.empty l0 x3_1).size : Int) = ((rdOf ByteArray.empty l0 0).size : Int)
       ·
        rw [if_pos c7] at H
        have c7b0 : (((rdOf ByteArray.empty l0 x3_1).size : Int) == ((rdOf ByteArray.empty l0 0).size : Int)) = true := beq_iff_eq.mpr c7
        have c7b1 : (((rdOf ByteArray.empty l0 x3_1).size : Int) != ((rdOf ByteArray.empty l0 0).size : Int)) = false := bne_eq_false_iff_eq.mpr c7
        have c7b2 : ((rdOf ByteArray.empty l0 x3_1).size == (rdOf ByteArray.empty l0 0).size) = true := by first | simpa using c7 | (simp at c7 ⊢; omega)
        clear c7; have H' := Aside0.mk H
        clear H; have p362 : 0 ≤ (x3_1 : Int) := of_decide_eq_true zA
        have q362 : x3_1 < (l0.length : Int) := of_decide_eq_true zA
        obtain ⟨ad362, e362, hx362_0⟩ := Kd.at_string HR0.out x3_1 p362 q362
        cases e362
        replace p362 := eq_true p362
        replace q362 := eq_true q362
        go_wp2_with (first | (go_at_call 60; (with_reducible refine (mosaicref07_May.calls ((rdOf ByteArray.empty l0 x3_1).size : Int) true _ A4.out).mono ?_); rintro e w' ⟨rfl, ⟨nd, rfl⟩⟩; (try first | exact ⟨rfl, _, World.drewN_drewN _ _ _⟩ | exact ⟨rfl, _, Eq.trans (World.drewN_drewN _ _ _) (congrArg (World.drewN _) (Nat.add_assoc _ _ _))⟩); have p364 : 0 ≤ (x3_1 : Int) := of_decide_eq_true zA; have q364 : x3_1 < (l0.length : Int) := of_decide_eq_true zA; obtain ⟨ad364, e364, hx364_0⟩ := Kd.at_string HR0.out x3_1 p364 q364; obtain rfl : ad362 = ad364 := (by injection e364); replace p364 := eq_true p364; replace q364 := eq_true q364; have p365 : 0 ≤ (0 : Int) := (by omega); have q365 : 0 < (l0.length : Int) := of_decide_eq_true zA; obtain ⟨ad365, e365, hx365_0⟩ := Kd.at_string HR0.out 0 p365 q365; obtain rfl : ad362 = ad365 := (by injection e365); have qi365 : (0 < l0.length) = True := eq_true (by omega); (try rw [show ((0 : Int)).toNat = 0 from rfl] at hx365_0); (try rw [Addr.add_zero'] at hx365_0); replace p365 := eq_true p365; replace q365 := eq_true q365))
        repeat (go_quiet (first | (go_at_call 60; (with_reducible refine (mosaicref07_May.calls ((rdOf ByteArray.empty l0 x3_1).size : Int) true _ A4.out).mono ?_); rintro e w' ⟨rfl, ⟨nd, rfl⟩⟩; (try first | exact ⟨rfl, _, World.drewN_drewN _ _ _⟩ | exact ⟨rfl, _, Eq.trans (World.drewN_drewN _ _ _) (congrArg (World.drewN _) (Nat.add_assoc _ _ _))⟩); have p364 : 0 ≤ (x3_1 : Int) := of_decide_eq_true zA; have q364 : x3_1 < (l0.length : Int) := of_decide_eq_true zA; obtain ⟨ad364, e364, hx364_0⟩ := Kd.at_string HR0.out x3_1 p364 q364; obtain rfl : ad362 = ad364 := (by injection e364); replace p364 := eq_true p364; replace q364 := eq_true q364; have p365 : 0 ≤ (0 : Int) := (by omega); have q365 : 0 < (l0.length : Int) := of_decide_eq_true zA; obtain ⟨ad365, e365, hx365_0⟩ := Kd.at_string HR0.out 0 p365 q365; obtain rfl : ad362 = ad365 := (by injection e365); have qi365 : (0 < l0.length) = True := eq_true (by omega); (try rw [show ((0 : Int)).toNat = 0 from rfl] at hx365_0); (try rw [Addr.add_zero'] at hx365_0); replace p365 := eq_true p365; replace q365 := eq_true q365)); try go_wp2_with (first | (go_at_call 60; (with_reducible refine (mosaicref07_May.calls ((rdOf ByteArray.empty l0 x3_1).size : Int) true _ A4.out).mono ?_); rintro e w' ⟨rfl, ⟨nd, rfl⟩⟩; (try first | exact ⟨rfl, _, World.drewN_drewN _ _ _⟩ | exact ⟨rfl, _, Eq.trans (World.drewN_drewN _ _ _) (congrArg (World.drewN _) (Nat.add_assoc _ _ _))⟩); have p364 : 0 ≤ (x3_1 : Int) := of_decide_eq_true zA; have q364 : x3_1 < (l0.length : Int) := of_decide_eq_true zA; obtain ⟨ad364, e364, hx364_0⟩ := Kd.at_string HR0.out x3_1 p364 q364; obtain rfl : ad362 = ad364 := (by injection e364); replace p364 := eq_true p364; replace q364 := eq_true q364; have p365 : 0 ≤ (0 : Int) := (by omega); have q365 : 0 < (l0.length : Int) := of_decide_eq_true zA; obtain ⟨ad365, e365, hx365_0⟩ := Kd.at_string HR0.out 0 p365 q365; obtain rfl : ad362 = ad365 := (by injection e365); have qi365 : (0 < l0.length) = True := eq_true (by omega); (try rw [show ((0 : Int)).toNat = 0 from rfl] at hx365_0); (try rw [Addr.add_zero'] at hx365_0); replace p365 := eq_true p365; replace q365 := eq_true q365)))
        go_roundg k1
        case measure => have := HK1.out; omega
        case rel => exact ⟨(wrap64 (x3_1 + 1)), zF, H', ⟨by have := HK1.out; omega⟩, by repeat (first | exact Drawn0.refl _ | apply Drawn0.step)⟩
       ·
        rw [if_neg c7] at H
        have c7b0 : (((rdOf ByteArray.empty l0 x3_1).size : Int) == ((rdOf ByteArray.empty l0 0).size : Int)) = false := beq_eq_false_iff_ne.mpr c7
        have c7b1 : (((rdOf ByteArray.empty l0 x3_1).size : Int) != ((rdOf ByteArray.empty l0 0).size : Int)) = true := bne_iff_ne.mpr c7
        have c7b2 : ((rdOf ByteArray.empty l0 x3_1).size == (rdOf ByteArray.empty l0 0).size) = false := by first | simpa using c7 | (simp at c7 ⊢; omega)
        obtain rfl := Option.some.inj H
        have p362 : 0 ≤ (x3_1 : Int) := of_decide_eq_true zA
        have q362 : x3_1 < (l0.length : Int) := of_decide_eq_true zA
        obtain ⟨ad362, e362, hx362_0⟩ := Kd.at_string HR0.out x3_1 p362 q362
        cases e362
        replace p362 := eq_true p362
        replace q362 := eq_true q362
        go_wp2_with (first | (go_at_call 60; (with_reducible refine (mosaicref07_May.calls ((rdOf ByteArray.empty l0 x3_1).size : Int) true _ A4.out).mono ?_); rintro e w' ⟨rfl, ⟨nd, rfl⟩⟩; (try first | exact ⟨rfl, _, World.drewN_drewN _ _ _⟩ | exact ⟨rfl, _, Eq.trans (World.drewN_drewN _ _ _) (congrArg (World.drewN _) (Nat.add_assoc _ _ _))⟩); have p364 : 0 ≤ (x3_1 : Int) := of_decide_eq_true zA; have q364 : x3_1 < (l0.length : Int) := of_decide_eq_true zA; obtain ⟨ad364, e364, hx364_0⟩ := Kd.at_string HR0.out x3_1 p364 q364; obtain rfl : ad362 = ad364 := (by injection e364); replace p364 := eq_true p364; replace q364 := eq_true q364; have p365 : 0 ≤ (0 : Int) := (by omega); have q365 : 0 < (l0.length : Int) := of_decide_eq_true zA; obtain ⟨ad365, e365, hx365_0⟩ := Kd.at_string HR0.out 0 p365 q365; obtain rfl : ad362 = ad365 := (by injection e365); have qi365 : (0 < l0.length) = True := eq_true (by omega); (try rw [show ((0 : Int)).toNat = 0 from rfl] at hx365_0); (try rw [Addr.add_zero'] at hx365_0); replace p365 := eq_true p365; replace q365 := eq_true q365))
        repeat (go_quiet (first | (go_at_call 60; (with_reducible refine (mosaicref07_May.calls ((rdOf ByteArray.empty l0 x3_1).size : Int) true _ A4.out).mono ?_); rintro e w' ⟨rfl, ⟨nd, rfl⟩⟩; (try first | exact ⟨rfl, _, World.drewN_drewN _ _ _⟩ | exact ⟨rfl, _, Eq.trans (World.drewN_drewN _ _ _) (congrArg (World.drewN _) (Nat.add_assoc _ _ _))⟩); have p364 : 0 ≤ (x3_1 : Int) := of_decide_eq_true zA; have q364 : x3_1 < (l0.length : Int) := of_decide_eq_true zA; obtain ⟨ad364, e364, hx364_0⟩ := Kd.at_string HR0.out x3_1 p364 q364; obtain rfl : ad362 = ad364 := (by injection e364); replace p364 := eq_true p364; replace q364 := eq_true q364; have p365 : 0 ≤ (0 : Int) := (by omega); have q365 : 0 < (l0.length : Int) := of_decide_eq_true zA; obtain ⟨ad365, e365, hx365_0⟩ := Kd.at_string HR0.out 0 p365 q365; obtain rfl : ad362 = ad365 := (by injection e365); have qi365 : (0 < l0.length) = True := eq_true (by omega); (try rw [show ((0 : Int)).toNat = 0 from rfl] at hx365_0); (try rw [Addr.add_zero'] at hx365_0); replace p365 := eq_true p365; replace q365 := eq_true q365)); try go_wp2_with (first | (go_at_call 60; (with_reducible refine (mosaicref07_May.calls ((rdOf ByteArray.empty l0 x3_1).size : Int) true _ A4.out).mono ?_); rintro e w' ⟨rfl, ⟨nd, rfl⟩⟩; (try first | exact ⟨rfl, _, World.drewN_drewN _ _ _⟩ | exact ⟨rfl, _, Eq.trans (World.drewN_drewN _ _ _) (congrArg (World.drewN _) (Nat.add_assoc _ _ _))⟩); have p364 : 0 ≤ (x3_1 : Int) := of_decide_eq_true zA; have q364 : x3_1 < (l0.length : Int) := of_decide_eq_true zA; obtain ⟨ad364, e364, hx364_0⟩ := Kd.at_string HR0.out x3_1 p364 q364; obtain rfl : ad362 = ad364 := (by injection e364); replace p364 := eq_true p364; replace q364 := eq_true q364; have p365 : 0 ≤ (0 : Int) := (by omega); have q365 : 0 < (l0.length : Int) := of_decide_eq_true zA; obtain ⟨ad365, e365, hx365_0⟩ := Kd.at_string HR0.out 0 p365 q365; obtain rfl : ad362 = ad365 := (by injection e365); have qi365 : (0 < l0.length) = True := eq_true (by omega); (try rw [show ((0 : Int)).toNat = 0 from rfl] at hx365_0); (try rw [Addr.add_zero'] at hx365_0); replace p365 := eq_true p365; replace q365 := eq_true q365)))
        go_ret
        exact ⟨by first | rfl | (simp; done) | (simp [*]; done), by repeat (first | exact Drawn0.refl _ | apply Drawn0.step)⟩
      ·
       rw [if_neg c6] at H
       exact absurd H (by simp)
     ·
      replace c5 := Bool.eq_false_iff.mpr c5
      subst c5
      have H1 : (some false) = some r := by rw [if_neg (show ¬ (false = true) by decide)] at H; exact H
      clear H; have H := H1; clear H1; obtain rfl := Option.some.inj H
      have p362 : 0 ≤ (x3_1 : Int) := of_decide_eq_true zA
      have q362 : x3_1 < (l0.length : Int) := of_decide_eq_true zA
      obtain ⟨ad362, e362, hx362_0⟩ := Kd.at_string HR0.out x3_1 p362 q362
      cases e362
      replace p362 := eq_true p362
      replace q362 := eq_true q362
      go_wp2_with (first | (go_at_call 60; (with_reducible refine (mosaicref07_May.calls ((rdOf ByteArray.empty l0 x3_1).size : Int) false _ A4.out).mono ?_); rintro e w' ⟨rfl, ⟨nd, rfl⟩⟩; (try first | exact ⟨rfl, _, World.drewN_drewN _ _ _⟩ | exact ⟨rfl, _, Eq.trans (World.drewN_drewN _ _ _) (congrArg (World.drewN _) (Nat.add_assoc _ _ _))⟩)))
      repeat (go_quiet (first | (go_at_call 60; (with_reducible refine (mosaicref07_May.calls ((rdOf ByteArray.empty l0 x3_1).size : Int) false _ A4.out).mono ?_); rintro e w' ⟨rfl, ⟨nd, rfl⟩⟩; (try first | exact ⟨rfl, _, World.drewN_drewN _ _ _⟩ | exact ⟨rfl, _, Eq.trans (World.drewN_drewN _ _ _) (congrArg (World.drewN _) (Nat.add_assoc _ _ _))⟩))); try go_wp2_with (first | (go_at_call 60; (with_reducible refine (mosaicref07_May.calls ((rdOf ByteArray.empty l0 x3_1).size : Int) false _ A4.out).mono ?_); rintro e w' ⟨rfl, ⟨nd, rfl⟩⟩; (try first | exact ⟨rfl, _, World.drewN_drewN _ _ _⟩ | exact ⟨rfl, _, Eq.trans (World.drewN_drewN _ _ _) (congrArg (World.drewN _) (Nat.add_assoc _ _ _))⟩))))
      go_ret
      exact ⟨by first | rfl | (simp; done) | (simp [*]; done), by repeat (first | exact Drawn0.refl _ | apply Drawn0.step)⟩
    ·
     rw [if_neg c3] at H
     exact absurd H (by simp)
   ·
    rw [if_neg c2] at H
    have c2b0 : decide (x3_1 < (l0.length : Int)) = false := decide_eq_false c2
    clear c2; obtain rfl := Option.some.inj H
    go_wp2
    repeat (go_quiet (fail); try go_wp2)
    go_ret
    exact ⟨by first | rfl | (simp; done) | (simp [*]; done), by repeat (first | exact Drawn0.refl _ | apply Drawn0.step)⟩
/-! ### mosaicref07_Zero: function 43 -/
def mosaicref07_Zero.l0 : Nat → Int → List Int → Int → Option (ByteArray)
 | 0, _, _, _ => none
 | k + 1, x0, x3, x4 => if x4 < x0 then ((mosaicref07_May.f x0).bind fun t366 => (if t366 = true then (if x3.length < 140737488355328 then (mosaicref07_Zero.l0 k x0 (x3 ++ [0]) (wrap64 (x4 + 1))) else (none)) else (some (strOfNums x3)))) else (some (strOfNums x3))
def mosaicref07_Zero.f (k : Nat) (a0 : Int) : Option (ByteArray) := mosaicref07_Zero.l0 k a0 ([] : List Int) 0
theorem mosaicref07_Zero.mono_l : ∀ k, (∀ y0 y1 y2, LeO (mosaicref07_Zero.l0 k y0 y1 y2) (mosaicref07_Zero.l0 (k + 1) y0 y1 y2))
 | 0 => fun _ _ _ r h => by simp [mosaicref07_Zero.l0] at h
 | k + 1 => by
  have ih0 := mosaicref07_Zero.mono_l k
  ·
   intro y0 y1 y2
   unfold mosaicref07_Zero.l0
   repeat' first
   | (with_reducible exact ih0 _ _ _)
   | (with_reducible exact LeO.refl _)
   | (with_reducible exact LeO.none _)
   | (with_reducible refine LeO.ite ?_ ?_)
   | (with_reducible refine LeO.bind ?_ (fun _ => ?_))
   | exact ih0 _ _ _
   | exact LeO.none _
   | refine LeO.ite ?_ ?_
   | refine LeO.bind ?_ (fun _ => ?_)
theorem mosaicref07_Zero.mono : ∀ a0 k, LeO (mosaicref07_Zero.f k a0) (mosaicref07_Zero.f (k + 1) a0) := by
 intro a0 k
 have ih0 := mosaicref07_Zero.mono_l k
 unfold mosaicref07_Zero.f
 repeat' first
   | (with_reducible exact ih0 _ _ _)
   | (with_reducible exact LeO.refl _)
   | (with_reducible exact LeO.none _)
   | (with_reducible refine LeO.ite ?_ ?_)
   | (with_reducible refine LeO.bind ?_ (fun _ => ?_))
   | exact ih0 _ _ _
   | exact LeO.none _
   | refine LeO.ite ?_ ?_
   | refine LeO.bind ?_ (fun _ => ?_)
set_option maxHeartbeats 8000000 in
set_option maxRecDepth 100000 in
theorem mosaicref07_Zero.calls (k : Nat) (a0 : Int) (r : ByteArray) (w : World) (h : mosaicref07_Zero.f k a0 = some r) :
  Calls Tryz.prog 43 #[.int .i64 a0] w fun e w' => e = .returned (.string r) ∧ Below w.heap.size w w' := by
 have HB := Aside0.mk (Below.refl w.heap.size w)
 have H : (mosaicref07_Zero.l0 k a0 ([] : List Int) 0) = some r := h
 clear h; have H' := Aside0.mk H
 clear H; go_enter Tryz.func43, Tryz.ntmps43
 go_wp2
 go_loopg [3, 4] k (fun kq v3 v4 w' => ∃ (x3_1 : List Int) (x4_1 : Int), v4 = .int .i64 x4_1 ∧ Aside0 (mosaicref07_Zero.l0 kq a0 x3_1 x4_1 = some r) ∧ Aside0 (kq ≤ k) ∧ Aside0 (Kd.R (Kd.int .u8) 5 w' w.heap.size (fun _ => True) v3 x3_1) ∧ Aside0 (Below w.heap.size w w'))
 case atStart => exact ⟨(([] : List Int)), (0), zF, H', ⟨Nat.le_refl _⟩, ⟨by first | exact Kd.R_nil _ _ _ _ _ | exact Kd.N_nil _ _ _ _ _ | exact Kd.V_nil _ _ _ _ _ | exact Kd.Q_nil _ _ _ _ _ | exact Kd.S_nil _ _ _ _ _⟩, ⟨zB⟩⟩
 case round =>
  clear H'
  obtain ⟨x3_1, x4_1, rfl, HA, HK1, HO_3, HB⟩ := hrel
  cases gk with
  | zero => exact absurd HA.out (by simp [mosaicref07_Zero.l0])
  | succ k1 =>
   have H := HA.out; clear HA; simp only [mosaicref07_Zero.l0] at H
   by_cases c2 : x4_1 < a0
   ·
    rw [if_pos c2] at H
    have c2b0 : decide (x4_1 < a0) = true := decide_eq_true c2
    clear c2; replace H := Option.bind_eq_some_iff.mp H
    obtain ⟨t366, A30, H⟩ := H
    replace H : (if t366 = true then (if x3_1.length < 140737488355328 then (mosaicref07_Zero.l0 k1 a0 (x3_1 ++ [0]) (wrap64 (x4_1 + 1))) else (none)) else (some (strOfNums x3_1))) = some r := H
    have A3 := Aside0.mk A30
    clear A30; by_cases c4 : t366 = true
    ·
     subst c4
     have H1 : (if x3_1.length < 140737488355328 then (mosaicref07_Zero.l0 k1 a0 (x3_1 ++ [0]) (wrap64 (x4_1 + 1))) else (none)) = some r := by rw [if_pos rfl] at H; exact H
     clear H; have H := H1; clear H1; by_cases c5 : x3_1.length < 140737488355328
     ·
      rw [if_pos c5] at H
      have LMc5 := Aside0.mk c5
      clear c5; obtain ⟨y367, hy367⟩ : ∃ y_ : List Int, y_ = (x3_1 ++ [0]) := ⟨_, rfl⟩
      replace H : (mosaicref07_Zero.l0 k1 a0 y367 (wrap64 (x4_1 + 1))) = some r := by first | (rw [hy367]; with_reducible exact H) | (have H2_ := (Option.bind_some _ _).symm.trans H; rw [hy367]; with_reducible exact H2_) | (have H2_ := (Option.bind_some _ _).symm.trans H; with_reducible exact H2_) | with_reducible exact H | (rw [hy367]; exact H) | exact H
      have Ny367 := Aside0.mk hy367
      clear hy367; have H' := Aside0.mk H
      clear H; go_wp2_with (first | (go_at_call 60; (with_reducible refine (mosaicref07_May.calls a0 true _ A3.out).mono ?_); rintro e w' ⟨rfl, ⟨nd, rfl⟩⟩) | ((with_reducible refine gate_builtin (b := .append) (xs := #[.tmp 14, .tmp 15]) rfl ?_); at_builtin; refine Kd.R_append (Kd.int .u8) (w0 := w) w.heap.size rfl (.tmp 14) (.tmp 15) 90 5 (.int .u8 0) 1 rfl Tryz.underlying90 info5 rfl (by decide) (by omega) u3 x3_1 0 [.int .u8 0] (fun _ => True) (fun _ => False) rfl rfl ?aP (fun _ hk => hk.elim) ?aF ?aO ?aB ?aS ?aL ?_; (case aP => exact rfl); (case aB => exact zB); (case aF => exact (fun _ _ => trivial)); (case aO => exact (by (with_reducible repeat (first | apply Kd.R_alloc | apply Kd.R_drewN | apply Kd.R_drew)); exact HO_3.out)); (case aS => exact (below_size zB)); (case aL => have := LMc5.out; omega); intro v368 w6 ho hb hg hat; rw [← Ny367.out] at ho; have HO369 := Aside0.mk (ho); replace HB := Aside0.mk (hb); clear HO_3; clear ho hb hg hat))
      go_roundg k1
      case measure => have := HK1.out; omega
      case rel => exact ⟨(y367), (wrap64 (x4_1 + 1)), zF, H', ⟨by have := HK1.out; omega⟩, ⟨zR HO369⟩, ⟨zB⟩⟩
     ·
      rw [if_neg c5] at H
      exact absurd H (by simp)
    ·
     replace c4 := Bool.eq_false_iff.mpr c4
     subst c4
     have H1 : (some (strOfNums x3_1)) = some r := by rw [if_neg (show ¬ (false = true) by decide)] at H; exact H
     clear H; have H := H1; clear H1; obtain rfl := Option.some.inj H
     go_wp2_with (first | (go_at_call 60; (with_reducible refine (mosaicref07_May.calls a0 false _ A3.out).mono ?_); rintro e w' ⟨rfl, ⟨nd, rfl⟩⟩; have hcv7 := own_string (P := Tryz.prog) Tryz.underlying90 Tryz.underlying5 Tryz.underlying9 (Kd.own_of_R HO_3.out); have hcvd8 := fun n_ => own_string (P := Tryz.prog) Tryz.underlying90 Tryz.underlying5 Tryz.underlying9 (Kd.own_of_R (Kd.R_drewN HO_3.out n_))))
     go_ret
     exact ⟨zE, zB⟩
   ·
    rw [if_neg c2] at H
    have c2b0 : decide (x4_1 < a0) = false := decide_eq_false c2
    clear c2; obtain rfl := Option.some.inj H
    have hcv9 := own_string (P := Tryz.prog) Tryz.underlying90 Tryz.underlying5 Tryz.underlying9 (Kd.own_of_R HO_3.out)
    have hcvd10 := fun n_ => own_string (P := Tryz.prog) Tryz.underlying90 Tryz.underlying5 Tryz.underlying9 (Kd.own_of_R (Kd.R_drewN HO_3.out n_))
    go_wp2
    go_ret
    exact ⟨zE, zB⟩
end Go.Proofs.YtghhmnjkgnoogaaGreat.POuterWholes
