-- Written by this session's own program (wip/tools/mkprint.py) over the kit's printer, with overrides.
import Derived.Test.YtghhmnjkgnoogaaGreatTOuterWholesa
import Derived.Test.YtghhmnjkgnoogaaGreatQOuterWholesx0
import Derived.Test.YtghhmnjkgnoogaaGreatQOuterWholesx1
import Derived.Test.YtghhmnjkgnoogaaGreatQOuterWholesx3
import Derived.Test.YtghhmnjkgnoogaaGreatQOuterWholesx8
namespace Go.Proofs.YtghhmnjkgnoogaaGreat.POuterWholes
open Go.RowKit Go.Mine Go.Proofs.YtghhmnjkgnoogaaGreatW.PrintWords Go.Proofs.YtghhmnjkgnoogaaGreatW.PrintLast Go.Proofs.YtghhmnjkgnoogaaGreatW.PrintMore
attribute [local go_sem] max2_int min2_int max_two min_two max_three min_three max_four min_four   -- for this text's walks alone
set_option linter.unusedVariables false
set_option linter.unusedSimpArgs false
/-! ### prng_bound: function 90 -/
def prng_bound.f (a0 : Int) : Option (Int) := if a0 = 0 then (none) else (some (wrap64 (4294967296 - ((4294967296 : Int) % a0))))
set_option maxHeartbeats 8000000 in
set_option maxRecDepth 100000 in
theorem prng_bound.calls (a0 : Int) (r : Int) (w : World) (h : prng_bound.f a0 = some r) :
  Calls Tryz.prog 90 #[.int .i64 a0] w fun e w' => e = .returned (.int .i64 r) ∧ Drawn0 w w' := by
 have H : (if a0 = 0 then (none) else (some (wrap64 (4294967296 - ((4294967296 : Int) % a0))))) = some r := h
 clear h; by_cases c2 : a0 = 0
 ·
  rw [if_pos c2] at H
  exact absurd H (by simp)
 ·
  rw [if_neg c2] at H
  have c2b0 : (a0 == 0) = false := beq_eq_false_iff_ne.mpr c2
  have c2b1 : (a0 != 0) = true := bne_iff_ne.mpr c2
  obtain rfl := Option.some.inj H
  go_enter Tryz.func90, Tryz.ntmps90
  go_wp2
  go_ret
  exact ⟨by first | rfl | (simp; done) | (simp [*]; done), by repeat (first | exact Drawn0.refl _ | apply Drawn0.step)⟩
/-! ### prng_Gen_Below: function 71 -/
def prng_Gen_Below.l0 : Nat → Int → Int → Int → ByteArray → Int → ByteArray → Option (Int × ByteArray × Int × ByteArray)
 | 0, _, _, _, _, _, _ => none
 | k + 1, x1, x5, x13, x1000, x1001, x1002 => if x13 < 8 then ((prng_Gen_Word.f k x1000 x1001 x1002).bind fun bt132 => ((prng_bound.f x1).bind fun t136 => (if (wrap64 (bt132.1)) < t136 then (if x1 = 0 then (none) else (some (Int.tmod (wrap64 (bt132.1)) x1, bt132.2.1, bt132.2.2.1, bt132.2.2.2))) else (prng_Gen_Below.l0 k x1 (wrap64 (bt132.1)) (wrap64 (x13 + 1)) bt132.2.1 bt132.2.2.1 bt132.2.2.2)))) else (if x1 = 0 then (none) else (some (Int.tmod x5 x1, x1000, x1001, x1002)))
def prng_Gen_Below.f (k : Nat) (s0_0 : ByteArray) (s0_1 : Int) (s0_2 : ByteArray) (a1 : Int) : Option (Int × ByteArray × Int × ByteArray) := (prng_may.f a1).bind fun t131 => (if t131 = true then (prng_Gen_Below.l0 k a1 0 0 s0_0 s0_1 s0_2) else (some (0, s0_0, s0_1, s0_2)))
theorem prng_Gen_Below.mono_l : ∀ k, (∀ y0 y1 y2 y3 y4 y5, LeO (prng_Gen_Below.l0 k y0 y1 y2 y3 y4 y5) (prng_Gen_Below.l0 (k + 1) y0 y1 y2 y3 y4 y5))
 | 0 => fun _ _ _ _ _ _ r h => by simp [prng_Gen_Below.l0] at h
 | k + 1 => by
  have ih0 := prng_Gen_Below.mono_l k
  ·
   intro y0 y1 y2 y3 y4 y5
   unfold prng_Gen_Below.l0
   repeat' first
   | (with_reducible exact ih0 _ _ _ _ _ _)
   | (with_reducible exact prng_Gen_Word.mono _ _ _ _)
   | (with_reducible exact LeO.refl _)
   | (with_reducible exact LeO.none _)
   | (with_reducible refine LeO.ite ?_ ?_)
   | (with_reducible refine LeO.bind ?_ (fun _ => ?_))
   | exact ih0 _ _ _ _ _ _
   | exact prng_Gen_Word.mono _ _ _ _
   | exact LeO.none _
   | refine LeO.ite ?_ ?_
   | refine LeO.bind ?_ (fun _ => ?_)
theorem prng_Gen_Below.mono : ∀ a0 a1 a2 a3 k, LeO (prng_Gen_Below.f k a0 a1 a2 a3) (prng_Gen_Below.f (k + 1) a0 a1 a2 a3) := by
 intro a0 a1 a2 a3 k
 have ih0 := prng_Gen_Below.mono_l k
 unfold prng_Gen_Below.f
 repeat' first
   | (with_reducible exact ih0 _ _ _ _ _ _)
   | (with_reducible exact prng_Gen_Word.mono _ _ _ _)
   | (with_reducible exact LeO.refl _)
   | (with_reducible exact LeO.none _)
   | (with_reducible refine LeO.ite ?_ ?_)
   | (with_reducible refine LeO.bind ?_ (fun _ => ?_))
   | exact ih0 _ _ _ _ _ _
   | exact prng_Gen_Word.mono _ _ _ _
   | exact LeO.none _
   | refine LeO.ite ?_ ?_
   | refine LeO.bind ?_ (fun _ => ?_)
set_option maxHeartbeats 8000000 in
set_option maxRecDepth 100000 in
theorem prng_Gen_Below.calls (k : Nat) (g : Nat) (s0_0 : ByteArray) (s0_1 : Int) (s0_2 : ByteArray) (a1 : Int) (r1 : Int) (r2 : ByteArray) (r3 : Int) (r4 : ByteArray) (w0 w : World) (hI : IsS93 w0 w g s0_0 s0_1 s0_2) (hB : Below w0.heap.size w0 w) (h : prng_Gen_Below.f k s0_0 s0_1 s0_2 a1 = some (r1, r2, r3, r4)) :
  Calls Tryz.prog 71 #[.pointer (some ⟨g, 0, none⟩), .int .i64 a1] w fun e w' => e = .returned (.int .i64 r1) ∧ IsS93 w0 w' g r2 r3 r4 ∧ Below w0.heap.size w0 w' ∧ KeepBut w w' g none := by
 have HI0 := Aside0.mk hI
 have HK := Aside0.mk (KeepBut.refl w g none)
 have HL := Aside0.mk hB.size
 clear hI; have HW0 := Aside0.mk hB.size
 have HB := Aside0.mk hB
 clear hB; have H : ((prng_may.f a1).bind fun t131 => (if t131 = true then (prng_Gen_Below.l0 k a1 0 0 s0_0 s0_1 s0_2) else (some (0, s0_0, s0_1, s0_2)))) = some (r1, r2, r3, r4) := h
 clear h; replace H := Option.bind_eq_some_iff.mp H
 obtain ⟨t131, A30, H⟩ := H
 replace H : (if t131 = true then (prng_Gen_Below.l0 k a1 0 0 s0_0 s0_1 s0_2) else (some (0, s0_0, s0_1, s0_2))) = some (r1, r2, r3, r4) := H
 have A3 := Aside0.mk A30
 clear A30; by_cases c4 : t131 = true
 ·
  subst c4
  have H1 : (prng_Gen_Below.l0 k a1 0 0 s0_0 s0_1 s0_2) = some (r1, r2, r3, r4) := by rw [if_pos rfl] at H; exact H
  clear H; have H := H1; clear H1; have H' := Aside0.mk H
  clear H; go_enter Tryz.func71, Tryz.ntmps71
  go_wp2_with (first | (go_at_call 88; (with_reducible refine (prng_may.calls a1 true _ A3.out).mono ?_); rintro e w' ⟨rfl, ⟨nd, rfl⟩⟩))
  go_loopg [5, 13] k (fun kq v5 v13 w' => ∃ (x5_1 : Int) (x13_1 : Int) (x1000_1 : ByteArray) (x1001_1 : Int) (x1002_1 : ByteArray), v5 = .int .i64 x5_1 ∧ v13 = .int .i64 x13_1 ∧ Aside0 (prng_Gen_Below.l0 kq a1 x5_1 x13_1 x1000_1 x1001_1 x1002_1 = some (r1, r2, r3, r4)) ∧ Aside0 (kq ≤ k) ∧ Aside0 (IsS93 w0 w' g x1000_1 x1001_1 x1002_1) ∧ Aside0 (KeepBut w w' g none) ∧ Aside0 (Below w0.heap.size w0 w'))
  case atStart => exact ⟨(0), (0), (s0_0), (s0_1), (s0_2), zF, zF, H', ⟨Nat.le_refl _⟩, ⟨by repeat (first | (with_reducible first | exact HI0.out | apply IsS93.alloc | apply IsS93.drewN | apply IsS93.drew | apply IsS93.set_0 | apply IsS93.set_1 | apply IsS93.set_2) | exact HI0.out)⟩, ⟨by repeat (first | (with_reducible first | exact HK.out | apply KeepBut.set_ | apply keep_drewN | apply keep_drew | apply keep_alloc) | exact HK.out)⟩, ⟨by repeat (first | (with_reducible first | exact HB.out | apply below_alloc | apply pw_below_drewN | apply below_drew1 | refine below_set ?_ (IsS93.ge HI0.out)) | exact HB.out)⟩⟩
  case round =>
   clear H'
   (try clear p2); (try clear c4); obtain ⟨x5_1, x13_1, x1000_1, x1001_1, x1002_1, rfl, rfl, HA, HK1, HI0, HK, HB⟩ := hrel
   cases gk with
   | zero => exact absurd HA.out (by simp [prng_Gen_Below.l0])
   | succ k1 =>
    have H := HA.out; clear HA; simp only [prng_Gen_Below.l0] at H
    by_cases c5 : x13_1 < 8
    ·
     rw [if_pos c5] at H
     have c5b0 : decide (x13_1 < 8) = true := decide_eq_true c5
     clear c5; replace H := Option.bind_eq_some_iff.mp H
     obtain ⟨⟨t132, t133, t134, t135⟩, A60, H⟩ := H
     replace H : ((prng_bound.f a1).bind fun t136 => (if (wrap64 (t132)) < t136 then (if a1 = 0 then (none) else (some (Int.tmod (wrap64 (t132)) a1, t133, t134, t135))) else (prng_Gen_Below.l0 k1 a1 (wrap64 (t132)) (wrap64 (x13_1 + 1)) t133 t134 t135))) = some (r1, r2, r3, r4) := H
     have A6 := Aside0.mk A60
     clear A60; replace H := Option.bind_eq_some_iff.mp H
     obtain ⟨t136, A70, H⟩ := H
     replace H : (if (wrap64 (t132)) < t136 then (if a1 = 0 then (none) else (some (Int.tmod (wrap64 (t132)) a1, t133, t134, t135))) else (prng_Gen_Below.l0 k1 a1 (wrap64 (t132)) (wrap64 (x13_1 + 1)) t133 t134 t135)) = some (r1, r2, r3, r4) := H
     have A7 := Aside0.mk A70
     clear A70; by_cases c8 : (wrap64 (t132)) < t136
     ·
      rw [if_pos c8] at H
      have c8b0 : decide ((wrap64 (t132)) < t136) = true := decide_eq_true c8
      clear c8; by_cases c9 : a1 = 0
      ·
       rw [if_pos c9] at H
       exact absurd H (by simp)
      ·
       rw [if_neg c9] at H
       have c9b0 : (a1 == 0) = false := beq_eq_false_iff_ne.mpr c9
       have c9b1 : (a1 != 0) = true := bne_iff_ne.mpr c9
       simp only [Option.some.injEq, Prod.mk.injEq] at H
       obtain ⟨rfl, rfl, rfl, rfl⟩ := H
       go_wp2_with (first | ((with_reducible refine gate_callee (f := 89) rfl ?_); refine goesL_ (some 16) rfl rfl Tryz.func89 (by kernel_rfl) rfl #[.pointer (some ⟨g, 0, none⟩)] rfl zM ?_; (with_reducible refine (prng_Gen_Word.calls k1 g x1000_1 x1001_1 x1002_1 t132 t133 t134 t135 w0 _ ?side1 ?side2 A6.out).mono ?_); (case side1 => repeat (first | (with_reducible first | exact HI0.out | apply IsS93.alloc | apply IsS93.drewN | apply IsS93.drew | apply IsS93.set_0 | apply IsS93.set_1 | apply IsS93.set_2) | exact HI0.out)); (case side2 => repeat (first | (with_reducible first | exact HB.out | apply below_alloc | apply pw_below_drewN | apply below_drew1 | refine below_set ?_ (IsS93.ge HI0.out)) | exact HB.out)); rintro e w10 ⟨rfl, hi, hb, hk⟩; refine ⟨_, rfl, ?_⟩; replace HK := Aside0.mk (KeepBut.trans (by repeat (first | (with_reducible first | exact HK.out | apply KeepBut.set_ | apply keep_drewN | apply keep_drew | apply keep_alloc) | exact HK.out)) hk (.inl rfl)); replace HI0 := Aside0.mk (hi); replace HB := Aside0.mk (hb); (try clear hb); (try clear hb2); (try clear hk); (try clear hi)) | ((with_reducible refine gate_callee (f := 90) rfl ?_); refine goesL_ (some 20) rfl rfl Tryz.func90 (by kernel_rfl) rfl #[.int .i64 a1] rfl zM ?_; (with_reducible refine (prng_bound.calls a1 t136 _ A7.out).mono ?_); rintro e w' ⟨rfl, ⟨nd, rfl⟩⟩; refine ⟨_, rfl, ?_⟩))
       go_ret
       exact ⟨zE, by repeat (first | (with_reducible first | exact HI0.out | apply IsS93.alloc | apply IsS93.drewN | apply IsS93.drew | apply IsS93.set_0 | apply IsS93.set_1 | apply IsS93.set_2) | exact HI0.out), by repeat (first | (with_reducible first | exact HB.out | apply below_alloc | apply pw_below_drewN | apply below_drew1 | refine below_set ?_ (IsS93.ge HI0.out)) | exact HB.out), by repeat (first | (with_reducible first | exact HK.out | apply KeepBut.set_ | apply keep_drewN | apply keep_drew | apply keep_alloc) | exact HK.out)⟩
     ·
      rw [if_neg c8] at H
      have c8b0 : decide ((wrap64 (t132)) < t136) = false := decide_eq_false c8
      clear c8; have H' := Aside0.mk H
      clear H; go_wp2_with (first | ((with_reducible refine gate_callee (f := 89) rfl ?_); refine goesL_ (some 16) rfl rfl Tryz.func89 (by kernel_rfl) rfl #[.pointer (some ⟨g, 0, none⟩)] rfl zM ?_; (with_reducible refine (prng_Gen_Word.calls k1 g x1000_1 x1001_1 x1002_1 t132 t133 t134 t135 w0 _ ?side1 ?side2 A6.out).mono ?_); (case side1 => repeat (first | (with_reducible first | exact HI0.out | apply IsS93.alloc | apply IsS93.drewN | apply IsS93.drew | apply IsS93.set_0 | apply IsS93.set_1 | apply IsS93.set_2) | exact HI0.out)); (case side2 => repeat (first | (with_reducible first | exact HB.out | apply below_alloc | apply pw_below_drewN | apply below_drew1 | refine below_set ?_ (IsS93.ge HI0.out)) | exact HB.out)); rintro e w11 ⟨rfl, hi, hb, hk⟩; refine ⟨_, rfl, ?_⟩; replace HK := Aside0.mk (KeepBut.trans (by repeat (first | (with_reducible first | exact HK.out | apply KeepBut.set_ | apply keep_drewN | apply keep_drew | apply keep_alloc) | exact HK.out)) hk (.inl rfl)); replace HI0 := Aside0.mk (hi); replace HB := Aside0.mk (hb); (try clear hb); (try clear hb2); (try clear hk); (try clear hi)) | ((with_reducible refine gate_callee (f := 90) rfl ?_); refine goesL_ (some 20) rfl rfl Tryz.func90 (by kernel_rfl) rfl #[.int .i64 a1] rfl zM ?_; (with_reducible refine (prng_bound.calls a1 t136 _ A7.out).mono ?_); rintro e w' ⟨rfl, ⟨nd, rfl⟩⟩; refine ⟨_, rfl, ?_⟩))
      go_roundg k1
      case measure => have := HK1.out; omega
      case rel => exact ⟨(wrap64 (t132)), (wrap64 (x13_1 + 1)), (t133), (t134), (t135), zF, zF, H', ⟨by have := HK1.out; omega⟩, ⟨by repeat (first | (with_reducible first | exact HI0.out | apply IsS93.alloc | apply IsS93.drewN | apply IsS93.drew | apply IsS93.set_0 | apply IsS93.set_1 | apply IsS93.set_2) | exact HI0.out)⟩, ⟨by repeat (first | (with_reducible first | exact HK.out | apply KeepBut.set_ | apply keep_drewN | apply keep_drew | apply keep_alloc) | exact HK.out)⟩, ⟨by repeat (first | (with_reducible first | exact HB.out | apply below_alloc | apply pw_below_drewN | apply below_drew1 | refine below_set ?_ (IsS93.ge HI0.out)) | exact HB.out)⟩⟩
    ·
     rw [if_neg c5] at H
     have c5b0 : decide (x13_1 < 8) = false := decide_eq_false c5
     clear c5; by_cases c12 : a1 = 0
     ·
      rw [if_pos c12] at H
      exact absurd H (by simp)
     ·
      rw [if_neg c12] at H
      have c12b0 : (a1 == 0) = false := beq_eq_false_iff_ne.mpr c12
      have c12b1 : (a1 != 0) = true := bne_iff_ne.mpr c12
      simp only [Option.some.injEq, Prod.mk.injEq] at H
      obtain ⟨rfl, rfl, rfl, rfl⟩ := H
      go_wp2
      go_ret
      exact ⟨zE, by repeat (first | (with_reducible first | exact HI0.out | apply IsS93.alloc | apply IsS93.drewN | apply IsS93.drew | apply IsS93.set_0 | apply IsS93.set_1 | apply IsS93.set_2) | exact HI0.out), by repeat (first | (with_reducible first | exact HB.out | apply below_alloc | apply pw_below_drewN | apply below_drew1 | refine below_set ?_ (IsS93.ge HI0.out)) | exact HB.out), by repeat (first | (with_reducible first | exact HK.out | apply KeepBut.set_ | apply keep_drewN | apply keep_drew | apply keep_alloc) | exact HK.out)⟩
 ·
  replace c4 := Bool.eq_false_iff.mpr c4
  subst c4
  have H1 : (some (0, s0_0, s0_1, s0_2)) = some (r1, r2, r3, r4) := by rw [if_neg (show ¬ (false = true) by decide)] at H; exact H
  clear H; have H := H1; clear H1; simp only [Option.some.injEq, Prod.mk.injEq] at H
  obtain ⟨rfl, rfl, rfl, rfl⟩ := H
  go_enter Tryz.func71, Tryz.ntmps71
  go_wp2_with (first | (go_at_call 88; (with_reducible refine (prng_may.calls a1 false _ A3.out).mono ?_); rintro e w' ⟨rfl, ⟨nd, rfl⟩⟩))
  go_ret
  exact ⟨zE, by repeat (first | (with_reducible first | exact HI0.out | apply IsS93.alloc | apply IsS93.drewN | apply IsS93.drew | apply IsS93.set_0 | apply IsS93.set_1 | apply IsS93.set_2) | exact HI0.out), by repeat (first | (with_reducible first | exact HB.out | apply below_alloc | apply pw_below_drewN | apply below_drew1 | refine below_set ?_ (IsS93.ge HI0.out)) | exact HB.out), by repeat (first | (with_reducible first | exact HK.out | apply KeepBut.set_ | apply keep_drewN | apply keep_drew | apply keep_alloc) | exact HK.out)⟩
/-! ### prng_Gen_Pick: function 52 -/
/-- Two places exchanged. -/
def prng_Gen_Pick.swap (l : List Int) (i j : Nat) : List Int := (l.set i (l.getD j 0)).set j (l.getD i 0)
theorem prng_Gen_Pick.swap_length (l : List Int) (i j : Nat) : (prng_Gen_Pick.swap l i j).length = l.length := by simp [prng_Gen_Pick.swap]
def prng_Gen_Pick.go (k n : Nat) : Nat → Nat → List Int → ByteArray → Int → ByteArray → Option (List Int × ByteArray × Int × ByteArray)
  | 0, _, l, s0, s1, s2 => some (l, s0, s1, s2)
  | d + 1, i, l, s0, s1, s2 => (prng_Gen_Below.f k s0 s1 s2 ((n : Int) - (i : Int))).bind fun r => if 0 ≤ r.1 ∧ r.1 < (n : Int) - (i : Int) then prng_Gen_Pick.go k n d (i + 1) (prng_Gen_Pick.swap l i (i + r.1.toNat)) r.2.1 r.2.2.1 r.2.2.2 else none
def prng_Gen_Pick.iota (n : Nat) : List Int := (List.range n).map fun (i : Nat) => (i : Int)
theorem prng_Gen_Pick.iota_length (n : Nat) : (prng_Gen_Pick.iota n).length = n := by simp [prng_Gen_Pick.iota]
def prng_Gen_Pick.part (n t : Nat) : List Int := (prng_Gen_Pick.iota n).take t ++ List.replicate (n - t) 0
theorem prng_Gen_Pick.part_length (n t : Nat) (h : t ≤ n) : (prng_Gen_Pick.part n t).length = n := by
  rw [prng_Gen_Pick.part, List.length_append, List.length_take, prng_Gen_Pick.iota_length, List.length_replicate]
  omega
theorem prng_Gen_Pick.part_zero (n : Nat) : prng_Gen_Pick.part n 0 = List.replicate n 0 := by simp [prng_Gen_Pick.part]
theorem prng_Gen_Pick.part_all (n : Nat) : prng_Gen_Pick.part n n = prng_Gen_Pick.iota n := by
  rw [prng_Gen_Pick.part, List.take_of_length_le (by rw [prng_Gen_Pick.iota_length]; omega)]
  simp
theorem prng_Gen_Pick.part_set (n t : Nat) (h : t < n) : (prng_Gen_Pick.part n t).set t (t : Int) = prng_Gen_Pick.part n (t + 1) := by
  have h1 : ((prng_Gen_Pick.iota n).take t).length = t := by rw [List.length_take, prng_Gen_Pick.iota_length]; omega
  have h2 : List.replicate (n - t) (0 : Int) = 0 :: List.replicate (n - (t + 1)) 0 := by
    rw [show n - t = (n - (t + 1)) + 1 by omega]; rfl
  have h3 : t < (prng_Gen_Pick.iota n).length := by rw [prng_Gen_Pick.iota_length]; exact h
  have h4 : (prng_Gen_Pick.iota n)[t] = (t : Int) := by simp [prng_Gen_Pick.iota]
  rw [prng_Gen_Pick.part, prng_Gen_Pick.part, List.set_append_right _ _ (by omega), h1, Nat.sub_self, h2, List.set_cons_zero, List.take_succ_eq_append_getElem h3, h4, List.append_assoc]
  rfl
theorem prng_Gen_Pick.go_length (k n : Nat) (d : Nat) : ∀ (i : Nat) (l : List Int) (s0 : ByteArray) (s1 : Int) (s2 : ByteArray) (r : List Int × ByteArray × Int × ByteArray), prng_Gen_Pick.go k n d i l s0 s1 s2 = some r → r.1.length = l.length := by
  induction d with
  | zero => intro i l s0 s1 s2 r h; rw [prng_Gen_Pick.go] at h; cases h; rfl
  | succ d ih =>
    intro i l s0 s1 s2 r h
    rw [prng_Gen_Pick.go] at h
    obtain ⟨b, _, h⟩ := Option.bind_eq_some_iff.mp h
    split at h
    · rw [ih _ _ _ _ _ _ h, prng_Gen_Pick.swap_length]
    · cases h
theorem prng_Gen_Pick.go_mono (k n : Nat) (d : Nat) : ∀ (i : Nat) (l : List Int) (s0 : ByteArray) (s1 : Int) (s2 : ByteArray), LeO (prng_Gen_Pick.go k n d i l s0 s1 s2) (prng_Gen_Pick.go (k + 1) n d i l s0 s1 s2) := by
  induction d with
  | zero => intro i l s0 s1 s2; exact LeO.refl _
  | succ d ih =>
    intro i l s0 s1 s2
    rw [prng_Gen_Pick.go, prng_Gen_Pick.go]
    exact LeO.bind (prng_Gen_Below.mono _ _ _ _ _) (fun r => LeO.ite (ih _ _ _ _ _) (LeO.refl _))
def prng_Gen_Pick.Row (w : World) (g : Nat) (xs : List Int) : Prop := w.heap[g]? = some (.cells (xs.map (Value.int .i64)).toArray 3 (0, 0))
section
variable {w w1 : World} {g : Nat} {xs : List Int}
theorem prng_Gen_Pick.Row.lt (h : prng_Gen_Pick.Row w g xs) : g < w.heap.size := (Array.getElem?_eq_some_iff.1 h).1
theorem prng_Gen_Pick.Row.cell (h : prng_Gen_Pick.Row w g xs) (j : Nat) (hj : j < xs.length) : w.cell? ⟨g, j, none⟩ = some (.int .i64 (xs.getD j 0)) := by
  unfold prng_Gen_Pick.Row at h
  simp [World.cell?, h, hj, List.getD_eq_getElem?_getD]
theorem prng_Gen_Pick.Row.frozen (h : prng_Gen_Pick.Row w g xs) (j : Nat) : w.frozen? ⟨g, j, none⟩ = false := by
  unfold prng_Gen_Pick.Row at h
  simp [World.frozen?, h]
theorem prng_Gen_Pick.Row.same (h : prng_Gen_Pick.Row w g xs) (hs : w1.heap[g]? = w.heap[g]?) : prng_Gen_Pick.Row w1 g xs := hs.trans h
theorem prng_Gen_Pick.Row.set (h : prng_Gen_Pick.Row w g xs) (j : Nat) (v : Int) : prng_Gen_Pick.Row (w.setCell ⟨g, j, none⟩ (.int .i64 v)) g (xs.set j v) := by
  unfold prng_Gen_Pick.Row at h ⊢
  simp only [World.setCell]
  rw [Array.getElem?_modify]
  simp [h]
end
theorem prng_Gen_Pick.keep_new {w w1 : World} {g b : Nat} (h : KeepBut w w1 g none) (hb : w.heap.size = b) (j : Nat) (u : Value) : KeepBut w (w1.setCell ⟨b, j, none⟩ u) g none :=
  ⟨by have := h.1; simpa [World.setCell] using this, fun i hi h1 h2 => (Below.heap_setCell _ _ _ _ (by show i ≠ b; omega)).trans (h.2 i hi h1 h2)⟩
theorem prng_Gen_Pick.made (w : World) (n : Nat) : prng_Gen_Pick.Row (w.alloc (.cells (madeCells #[.int .i64 0] n) 3)) w.heap.size (List.replicate n 0) := by
  unfold prng_Gen_Pick.Row
  rw [heap_alloc_new]
  congr 2
  apply Array.ext'
  apply List.ext_getElem
  · simp [madeCells]
  · intro i h1 h2
    simp [madeCells, Nat.mod_one]
set_option maxHeartbeats 4000000 in
set_option maxRecDepth 100000 in
theorem prng_Gen_Pick.gives (k n m g : Nat) (s0 : ByteArray) (s1 : Int) (s2 : ByteArray) (hn : n ≤ 4096) (hm : m ≤ n) (lf : List Int) (q0 : ByteArray) (q1 : Int) (q2 : ByteArray) (hgo : prng_Gen_Pick.go k n m 0 (prng_Gen_Pick.iota n) s0 s1 s2 = some (lf, q0, q1, q2))
    (w0 w : World) (hI : IsS93 w0 w g s0 s1 s2) (hB : Below w0.heap.size w0 w) :
    Calls Tryz.prog 52 #[.pointer (some ⟨g, 0, none⟩), .int .i64 n, .int .i64 m] w fun e w' => ∃ b : Nat, e = .returned (.slice (some ⟨b, 0, none⟩) m m) ∧ prng_Gen_Pick.Row w' b lf ∧ w.heap.size ≤ b ∧ IsS93 w0 w' g q0 q1 q2 ∧ Below w0.heap.size w0 w' ∧ KeepBut w w' g none := by
  have HGO := Aside0.mk hgo
  have HI := Aside0.mk hI
  have HB := Aside0.mk hB
  clear hgo hI hB
  have y1 : ¬ (n : Int) < 0 := by omega
  have y2 : ¬ (4096 : Int) < (n : Int) := by omega
  have y3 : ¬ (m : Int) < 0 := by omega
  have y4 : ¬ (n : Int) < (m : Int) := by omega
  have hmk := print_make_int (P := Tryz.prog) 26 3 (.int .i64 0) 8 Tryz.underlying26 info3 rfl (by decide) (n : Int) (by omega) (by rw [Int.toNat_natCast]; omega) w
  rw [Int.toNat_natCast] at hmk
  have HROW : Aside0 (prng_Gen_Pick.Row (w.alloc (.cells (madeCells #[.int .i64 0] n) 3)) w.heap.size (prng_Gen_Pick.part n 0)) := ⟨by rw [prng_Gen_Pick.part_zero]; exact prng_Gen_Pick.made w n⟩
  have HB1 : Aside0 (Below w0.heap.size w0 (w.alloc (.cells (madeCells #[.int .i64 0] n) 3))) := ⟨below_alloc HB.out _⟩
  have HI1 : Aside0 (IsS93 w0 (w.alloc (.cells (madeCells #[.int .i64 0] n) 3)) g s0 s1 s2) := ⟨HI.out.alloc _⟩
  have HK1 : Aside0 (KeepBut w (w.alloc (.cells (madeCells #[.int .i64 0] n) 3)) g none) := ⟨keep_alloc (KeepBut.refl w g none) _⟩
  have HNE : Aside0 (g ≠ w.heap.size) := ⟨Nat.ne_of_lt HI.out.lt⟩
  have HGE : Aside0 (w0.heap.size ≤ w.heap.size) := ⟨HB.out.size⟩
  go_enter Tryz.func52, Tryz.ntmps52
  go_wp2_with fail
  clear hmk y1 y2 y3 y4 HI HB
  obtain ⟨bq, hbq⟩ : ∃ b, w.heap.size = b := ⟨_, rfl⟩
  rw [hbq] at HROW HNE HGE
  have HBQ := Aside0.mk hbq
  rw [hbq]
  clear hbq
  generalize w.alloc (.cells (madeCells #[.int .i64 0] n) 3) = wa at *
  go_loopw [8, 33] (fun _ v33 wr => ∃ t : Nat, t ≤ n ∧ v33 = .int .i64 t ∧ Aside0 (prng_Gen_Pick.Row wr bq (prng_Gen_Pick.part n t)) ∧ Aside0 (Below w0.heap.size w0 wr) ∧ Aside0 (IsS93 w0 wr g s0 s1 s2) ∧ Aside0 (KeepBut w wr g none)) (fun _ v33 _ => n - (intOf v33).toNat)
  case atStart => exact ⟨0, Nat.zero_le _, rfl, HROW, HB1, HI1, HK1⟩
  case round =>
    obtain ⟨t, ht, rfl, HR, HBr, HIr, HKr⟩ := hrel
    clear HROW HB1 HI1 HK1
    by_cases hlt : t < n
    · have hz : (t : Int) < (n : Int) := by omega
      have c1 := HR.out.cell t (by rw [prng_Gen_Pick.part_length n t ht]; exact hlt)
      have f1 := HR.out.frozen t
      go_wp2_with fail
      go_roundw
      case rel => exact ⟨t + 1, by omega, by go_num, ⟨by rw [← prng_Gen_Pick.part_set n t hlt]; exact HR.out.set t _⟩, ⟨below_set HBr.out HGE.out⟩, ⟨HIr.out.far HNE.out _⟩, ⟨prng_Gen_Pick.keep_new HKr.out HBQ.out _ _⟩⟩
      case measure => simp [intOf]; omega
    · have hz : ¬ (t : Int) < (n : Int) := by omega
      obtain rfl : t = n := by omega
      have HR2 := HR.out
      rw [prng_Gen_Pick.part_all] at HR2
      have HRA := Aside0.mk HR2
      clear HR HR2 hlt
      go_wp2_with fail
      go_loopg [9, 10, 42] m (fun gg v9 v10 v42 wr => ∃ (i : Nat) (l : List Int) (s0 : ByteArray) (s1 : Int) (s2 : ByteArray), v42 = .int .i64 i ∧ Aside0 (i + gg = m) ∧ Aside0 (l.length = t) ∧ Aside0 (prng_Gen_Pick.go k t gg i l s0 s1 s2 = some (lf, q0, q1, q2)) ∧ Aside0 (prng_Gen_Pick.Row wr bq l) ∧ Aside0 (Below w0.heap.size w0 wr) ∧ Aside0 (IsS93 w0 wr g s0 s1 s2) ∧ Aside0 (KeepBut w wr g none))
      case atStart => exact ⟨0, prng_Gen_Pick.iota t, s0, s1, s2, rfl, ⟨by omega⟩, ⟨prng_Gen_Pick.iota_length t⟩, HGO, HRA, HBr, HIr, HKr⟩
      case round =>
        obtain ⟨i, l, s0, s1, s2, rfl, HIM, HLEN, HG, HR, HB, HI, HK⟩ := hrel
        clear HGO HRA HBr HIr HKr
        cases gk with
        | zero =>
          have h9 := HG.out
          rw [prng_Gen_Pick.go] at h9
          have h9 := Option.some.inj h9
          simp only [Prod.mk.injEq] at h9
          obtain ⟨rfl, rfl, rfl, rfl⟩ := h9
          obtain rfl : i = m := by have := HIM.out; omega
          have hin : (i : Int) ≤ (t : Int) := by omega
          have hi0 : (0 : Int) ≤ (i : Int) := by omega
          have hii : (i : Int) ≤ (i : Int) := by omega
          clear HG HIM HLEN
          go_wp2_with fail
          go_ret
          exact ⟨bq, rfl, HR.out, by rw [HBQ.out]; exact Nat.le_refl _, HI.out, HB.out, HK.out⟩
        | succ d =>
          have hi : i < m := by have := HIM.out; omega
          have hiz : (i : Int) < (m : Int) := by omega
          have h9 := HG.out
          rw [prng_Gen_Pick.go] at h9
          obtain ⟨⟨x, p0, p1, p2⟩, hbel, h9⟩ := Option.bind_eq_some_iff.mp h9
          split at h9
          rotate_left
          · cases h9
          rename_i hx
          simp only at hx h9
          obtain ⟨y, rfl⟩ : ∃ y : Nat, x = y := ⟨x.toNat, by omega⟩
          rw [Int.toNat_natCast] at h9
          obtain ⟨j, hj⟩ : ∃ j, i + y = j := ⟨_, rfl⟩
          rw [hj] at h9
          have hjz : (i : Int) + (y : Int) = (j : Int) := by omega
          have hjt : j < t := by omega
          have hjtz : (j : Int) < (t : Int) := by omega
          have hitz : (i : Int) < (t : Int) := by omega
          have hj0 : (0 : Int) ≤ (j : Int) := by omega
          have hi0 : (0 : Int) ≤ (i : Int) := by omega
          have HBEL := Aside0.mk hbel
          have HNX := Aside0.mk h9
          have HJT := Aside0.mk hjt
          clear hbel h9 HG hj hjt hx
          go_wp2_with fail
          refine (prng_Gen_Below.calls k g s0 s1 s2 _ y p0 p1 p2 w0 _ HI.out HB.out HBEL.out).mono ?_
          rintro e w5 ⟨rfl, hI5, hb5, hk5⟩
          have HI5 := Aside0.mk hI5
          have HB5 := Aside0.mk hb5
          have HR5 : Aside0 (prng_Gen_Pick.Row w5 bq l) := ⟨HR.out.same (hk5.2 bq HR.out.lt (Ne.symm HNE.out) (by simp))⟩
          have HK5 : Aside0 (KeepBut w w5 g none) := ⟨HK.out.trans hk5 (.inl rfl)⟩
          clear hI5 hb5 hk5 HI HB HR HK
          have ci := HR5.out.cell i (by have := HLEN.out; omega)
          have cj := HR5.out.cell j (by have := HLEN.out; have := HJT.out; omega)
          have fi := HR5.out.frozen i
          have fj := HR5.out.frozen j
          generalize hli : l.getD i 0 = li at ci
          generalize hlj : l.getD j 0 = lj at cj
          have HLI := Aside0.mk hli
          have HLJ := Aside0.mk hlj
          clear hli hlj
          by_cases hij : i = j
          · subst hij
            have elj : lj = li := by rw [← HLI.out, ← HLJ.out]
            subst elj
            go_wp2_with fail
            go_region
            all_goals
              go_wp2_with fail
              go_roundg d
              case measure => exact Nat.lt_succ_self _
              case rel =>
                refine ⟨i + 1, prng_Gen_Pick.swap l i i, p0, p1, p2, by go_num, ⟨by have := HIM.out; omega⟩, ⟨by rw [prng_Gen_Pick.swap_length]; exact HLEN.out⟩, HNX, ⟨?_⟩, ⟨below_drew (below_set (below_set HB5.out HGE.out) HGE.out)⟩, ⟨((HI5.out.far HNE.out _).far HNE.out _).drew⟩, ⟨keep_drew (prng_Gen_Pick.keep_new (prng_Gen_Pick.keep_new HK5.out HBQ.out _ _) HBQ.out _ _)⟩⟩
                unfold prng_Gen_Pick.swap
                rw [HLI.out]
                exact (HR5.out.set i _).set i _
          · have hji : j ≠ i := fun e => hij e.symm
            go_wp2_with fail
            go_region
            all_goals
              go_wp2_with fail
              go_roundg d
              case measure => exact Nat.lt_succ_self _
              case rel =>
                refine ⟨i + 1, prng_Gen_Pick.swap l i j, p0, p1, p2, by go_num, ⟨by have := HIM.out; omega⟩, ⟨by rw [prng_Gen_Pick.swap_length]; exact HLEN.out⟩, HNX, ⟨?_⟩, ⟨below_drew (below_set (below_set HB5.out HGE.out) HGE.out)⟩, ⟨((HI5.out.far HNE.out _).far HNE.out _).drew⟩, ⟨keep_drew (prng_Gen_Pick.keep_new (prng_Gen_Pick.keep_new HK5.out HBQ.out _ _) HBQ.out _ _)⟩⟩
                unfold prng_Gen_Pick.swap
                rw [HLI.out, HLJ.out]
                first
                | exact (HR5.out.set i _).set j _
                | (rw [List.set_comm _ _ hij]; exact (HR5.out.set j _).set i _)
end Go.Proofs.YtghhmnjkgnoogaaGreat.POuterWholes
