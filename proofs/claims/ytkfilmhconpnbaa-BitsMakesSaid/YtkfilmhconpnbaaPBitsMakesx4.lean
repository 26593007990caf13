-- Written by this session's own program (wip/tools/mkprint.py) over the kit's printer, with overrides.
import Derived.Test.YtkfilmhconpnbaaPBitsMakesx0
import Derived.Test.YtkfilmhconpnbaaPBitsMakesx1
import Derived.Test.YtkfilmhconpnbaaPBitsMakesx3
namespace Go.Proofs.Ytkfilmhconpnbaa.PBitsMakes
open Go.RowKit Go.Mine Go.Proofs.YtkfilmhconpnbaaW.PrintWords Go.Proofs.YtkfilmhconpnbaaW.PrintLast Go.Proofs.YtkfilmhconpnbaaW.PrintMore
attribute [local go_sem] max2_int min2_int max_two min_two max_three min_three max_four min_four   -- for this text's walks alone
set_option linter.unusedVariables false
set_option linter.unusedSimpArgs false

/-! ### mosaicref08_Of: function 16 -/
def mosaicref08_Of.dup (k : Nat) (l : List Int) : Nat → Option Bool
  | 0 => some false
  | d + 1 => (mosaicref08_has.f k (l.take (l.length - (d + 1))) (l.getD (l.length - (d + 1)) 0)).bind fun b => if b = true then some true else mosaicref08_Of.dup k l d
def mosaicref08_Of.f (k : Nat) (a0 : Int) (l1 : List Int) : Option (ByteArray × Int) :=
  if a0 < 0 ∨ a0 > 160 ∨ l1.any (fun x => decide (x < 0) || decide (x ≥ a0)) = true then some (⟨#[]⟩, 1) else (mosaicref08_Of.dup k l1 l1.length).bind fun b => if b = true then some (⟨#[]⟩, 5) else (mosaicref08_Make.f k a0 l1).bind fun s => some (s, 0)
theorem mosaicref08_Of.dup_mono (l : List Int) (k : Nat) : ∀ d, LeO (mosaicref08_Of.dup k l d) (mosaicref08_Of.dup (k + 1) l d)
  | 0 => LeO.refl _
  | d + 1 => by
    unfold mosaicref08_Of.dup
    refine LeO.bind (mosaicref08_has.mono _ _ _) (fun _ => LeO.ite (LeO.refl _) (mosaicref08_Of.dup_mono l k d))
theorem mosaicref08_Of.mono : ∀ a0 a1 k, LeO (mosaicref08_Of.f k a0 a1) (mosaicref08_Of.f (k + 1) a0 a1) := by
  intro a0 a1 k
  unfold mosaicref08_Of.f
  refine LeO.ite (LeO.refl _) (LeO.bind (mosaicref08_Of.dup_mono _ _ _) (fun _ => LeO.ite (LeO.refl _) (LeO.bind (mosaicref08_Make.mono _ _ _) (fun _ => LeO.refl _))))
set_option maxHeartbeats 1000000 in
theorem mosaicref08_Of.calls (k : Nat) (a0 : Int) (A1 : Option Addr) (c1 : Nat) (l1 : List Int) (r1 : ByteArray) (r2 : Int) (w : World) (hr1 : Kd.C (Kd.int .i64) w A1 l1.length l1) (hc1 : l1.length ≤ c1) (h : mosaicref08_Of.f k a0 l1 = some (r1, r2)) :
    Calls Try.prog 16 #[.int .i64 a0, .slice A1 l1.length c1] w fun e w' => e = .returned (.tuple #[.string r1, .int .i64 r2]) ∧ Below w.heap.size w w' := by
  have HR := Aside0.mk hr1
  have hlen := hr1.2.1
  have HH := Aside0.mk h
  clear hr1 h
  by_cases c0 : a0 < 0
  · have H := HH.out
    unfold mosaicref08_Of.f at H
    rw [if_pos (.inl c0)] at H
    simp only [Option.some.injEq, Prod.mk.injEq] at H
    obtain ⟨rfl, rfl⟩ := H
    clear HH
    go_enter Try.func16, Try.ntmps16
    go_wp2
    go_ret2
    exact ⟨rfl, Below.refl _ _⟩
  by_cases c1' : 160 < a0
  · have H := HH.out
    unfold mosaicref08_Of.f at H
    rw [if_pos (.inr (.inl c1'))] at H
    simp only [Option.some.injEq, Prod.mk.injEq] at H
    obtain ⟨rfl, rfl⟩ := H
    clear HH
    have c0' : 0 ≤ a0 := by omega
    go_enter Try.func16, Try.ntmps16
    go_wp2
    go_ret2
    exact ⟨rfl, Below.refl _ _⟩
  have c2 : 0 ≤ a0 := by omega
  have c3 : a0 ≤ 160 := by omega
  clear c0 c1'
  go_enter Try.func16, Try.ntmps16
  go_wp2
  go_loopg [6] l1.length (fun gg s6 wr => ∃ i : Nat, i ≤ l1.length ∧ l1.length - i ≤ gg ∧ s6 = .int .i64 i ∧ Aside0 (∀ j, j < i → 0 ≤ l1.getD j 0 ∧ l1.getD j 0 < a0) ∧ Drawn0 w wr)
  case atStart => exact ⟨0, Nat.zero_le _, by omega, rfl, ⟨fun j hj => absurd hj (Nat.not_lt_zero _)⟩, Drawn0.refl _⟩
  case round =>
    obtain ⟨i, hi, hg, rfl, HA, ⟨q, rfl⟩⟩ := hrel
    by_cases hlt : i < l1.length
    · have hltz : (i : Int) < (l1.length : Int) := by omega
      obtain ⟨ad, e1, hx⟩ := Kd.at_int HR.out i (by omega) hltz
      cases e1
      have hy : rd l1 (i : Int) = l1.getD i 0 := by simp [rd]
      rw [Int.toNat_natCast, hy] at hx
      have HM : Aside0 (l1.getD i 0 ∈ l1) := ⟨by rw [List.getD_eq_getElem?_getD, List.getElem?_eq_getElem hlt]; exact List.getElem_mem hlt⟩
      clear hy
      generalize hyy : l1.getD i 0 = y at *
      have HY := Aside0.mk hyy
      clear hyy
      by_cases y0 : y < 0
      · have HB : mosaicref08_Of.f k a0 l1 = some (⟨#[]⟩, 1) := by
          unfold mosaicref08_Of.f
          rw [if_pos (.inr (.inr (by rw [List.any_eq_true]; exact ⟨y, HM.out, by rw [decide_eq_true y0]; rfl⟩)))]
        have H := HB.symm.trans HH.out
        simp only [Option.some.injEq, Prod.mk.injEq] at H
        obtain ⟨rfl, rfl⟩ := H
        clear HH HB
        go_wp2
        go_ret2
        exact ⟨rfl, pw_below_drewN (Below.refl _ _) _⟩
      · have y0' : 0 ≤ y := by omega
        clear y0
        by_cases y1 : a0 ≤ y
        · have HB : mosaicref08_Of.f k a0 l1 = some (⟨#[]⟩, 1) := by
            unfold mosaicref08_Of.f
            rw [if_pos (.inr (.inr (by rw [List.any_eq_true]; exact ⟨y, HM.out, by rw [decide_eq_true (show y ≥ a0 from y1), Bool.or_true]⟩)))]
          have H := HB.symm.trans HH.out
          simp only [Option.some.injEq, Prod.mk.injEq] at H
          obtain ⟨rfl, rfl⟩ := H
          clear HH HB
          go_wp2
          go_ret2
          exact ⟨rfl, pw_below_drewN (Below.refl _ _) _⟩
        · have y1' : y < a0 := by omega
          clear y1
          go_wp2
          go_roundg (l1.length - (i + 1))
          case measure => omega
          case rel =>
            refine ⟨i + 1, by omega, by omega, by go_num, ⟨fun j hj => ?_⟩, ⟨_, rfl⟩⟩
            by_cases e : j = i
            · subst e; rw [HY.out]; exact ⟨y0', y1'⟩
            · exact HA.out j (by omega)
    · have hltz : ¬ (i : Int) < (l1.length : Int) := by omega
      have HD : Aside0 (((mosaicref08_Of.dup k l1 l1.length).bind fun b => if b = true then some (⟨#[]⟩, 5) else (mosaicref08_Make.f k a0 l1).bind fun s => some (s, 0)) = some (r1, r2)) := by
        have H := HH.out
        unfold mosaicref08_Of.f at H
        rw [if_neg] at H
        · exact ⟨H⟩
        · rintro (h | h | h)
          · omega
          · omega
          · rw [List.any_eq_true] at h
            obtain ⟨x, hx, hxx⟩ := h
            obtain ⟨j, hj, rfl⟩ := List.getElem_of_mem hx
            have := HA.out j (by omega)
            rw [List.getD_eq_getElem?_getD, List.getElem?_eq_getElem hj] at this
            simp at this
            simp at hxx
            omega
      have hkk : i = l1.length := by omega
      clear HH HA
      subst hkk
      have HR2 : Aside0 (Kd.C (Kd.int .i64) (w.drewN q) A1 l1.length l1) := ⟨Kd.C_below HR.out (pw_below_drewN (Below.refl _ _) _)⟩
      have HB2 : Aside0 (Below w.heap.size w (w.drewN q)) := ⟨pw_below_drewN (Below.refl _ _) _⟩
      generalize w.drewN q = w2 at *
      clear HR
      go_wp2
      go_loopg [7] l1.length (fun gg s7 wr => ∃ i : Nat, i ≤ l1.length ∧ l1.length - i ≤ gg ∧ s7 = .int .i64 i ∧ Aside0 (((mosaicref08_Of.dup k l1 (l1.length - i)).bind fun b => if b = true then some (⟨#[]⟩, 5) else (mosaicref08_Make.f k a0 l1).bind fun s => some (s, 0)) = some (r1, r2)) ∧ Drawn0 w2 wr)
      case atStart => exact ⟨0, Nat.zero_le _, by omega, rfl, by simpa using HD, Drawn0.refl _⟩
      case round =>
        obtain ⟨i, hi, hg, rfl, HD2, ⟨q2, rfl⟩⟩ := hrel
        clear HD
        by_cases hlt : i < l1.length
        · have hltz2 : (i : Int) < (l1.length : Int) := by omega
          obtain ⟨ad, e1, hx⟩ := Kd.at_int HR2.out i (by omega) hltz2
          cases e1
          have hy : rd l1 (i : Int) = l1.getD i 0 := by simp [rd]
          rw [Int.toNat_natCast, hy] at hx
          clear hy
          obtain ⟨d, hd⟩ : ∃ d, l1.length - i = d + 1 := ⟨l1.length - i - 1, by omega⟩
          have H := HD2.out
          rw [hd, mosaicref08_Of.dup, show l1.length - (d + 1) = i by omega] at H
          obtain ⟨b, hb1, hb2⟩ := Option.bind_eq_some_iff.mp H
          obtain ⟨b1, hb3, hb4⟩ := Option.bind_eq_some_iff.mp hb1
          have HT : Kd.C (Kd.int .i64) w2 (some ad) (l1.take i).length (l1.take i) := Kd.C_take (m := i) HR2.out (by omega)
          have hcall : ∀ m, Calls Try.prog 40 #[.slice (some ad) i c1, .int .i64 (l1.getD i 0)] (w2.drewN (q2 + m)) fun e w' => e = .returned (.bool b1) ∧ ∃ m', w' = w2.drewN (q2 + m') := fun m => by
            have := mosaicref08_has.calls k (some ad) c1 (l1.take i) (l1.getD i 0) b1 (w2.drewN (q2 + m)) (Kd.C_below HT (pw_below_drewN (Below.refl _ _) _)) (by rw [List.length_take]; omega) hb3
            rw [show (l1.take i).length = i by rw [List.length_take]; omega] at this
            exact this.mono fun e w' ⟨h1, ⟨m', hm'⟩⟩ => ⟨h1, m + m', by rw [hm', World.drewN_drewN, Nat.add_assoc]⟩
          obtain ⟨i0, hi0, hi1, hi2, hi3⟩ := info_parts info3
          have hsl := cut_to (P := Try.prog) 26 3 .i64 Try.underlying26 hi0 (some ad) l1.length c1 (i : Int) (by omega) (by omega) hc1
          rw [Int.toNat_natCast] at hsl
          clear hi0 hi1 hi2 hi3
          have HB1 := Aside0.mk hb1
          have HB22 := Aside0.mk hb2
          have HB4 := Aside0.mk hb4
          have HDD := Aside0.mk hd
          clear HT hb1 hb2 hb4 hb3 H HD2 hd
          generalize l1.getD i 0 = y at *
          cases b1 with
          | true =>
            have E : b = true := by have := HB4.out; rw [if_pos rfl] at this; exact (Option.some.inj this).symm
            have H := HB22.out
            rw [E, if_pos rfl] at H
            simp only [Option.some.injEq, Prod.mk.injEq] at H
            obtain ⟨rfl, rfl⟩ := H
            clear HB1 HB22 HB4 E
            go_wp2
            go_quiet (first | (go_at_call 40; exact hcall _))
            go_wp2
            go_ret2
            exact ⟨rfl, by first | exact pw_below_drewN (pw_below_drewN HB2.out _) _ | exact pw_below_drewN HB2.out _⟩
          | false =>
            have HD2 : Aside0 (((mosaicref08_Of.dup k l1 (l1.length - (i + 1))).bind fun b => if b = true then some (⟨#[]⟩, 5) else (mosaicref08_Make.f k a0 l1).bind fun s => some (s, 0)) = some (r1, r2)) := by
              have h4 := HB4.out
              rw [if_neg (by decide)] at h4
              have hd := HDD.out
              rw [show l1.length - (i + 1) = d by omega, h4]
              exact ⟨HB22.out⟩
            clear HB1 HB22 HB4
            go_wp2
            go_quiet (first | (go_at_call 40; exact hcall _))
            clear hcall
            go_wp2
            go_roundg (l1.length - (i + 1))
            case measure => omega
            case rel => exact ⟨i + 1, by omega, by omega, by go_num, HD2, ⟨_, rfl⟩⟩
        · have hltz2 : ¬ (i : Int) < (l1.length : Int) := by omega
          have H := HD2.out
          rw [show l1.length - i = 0 by omega, mosaicref08_Of.dup, Option.bind_some, if_neg (by decide)] at H
          obtain ⟨s, hs, H⟩ := Option.bind_eq_some_iff.mp H
          simp only [Option.some.injEq, Prod.mk.injEq] at H
          obtain ⟨rfl, rfl⟩ := H
          have hcall := mosaicref08_Make.calls k a0 A1 c1 l1 s (w2.drewN q2) (Kd.C_below HR2.out (pw_below_drewN (Below.refl _ _) _)) hc1 hs
          have hkk : i = l1.length := by omega
          clear HD2 hs
          subst hkk
          go_wp2_with (go_at_call 41; refine hcall.mono ?_; rintro e w3 ⟨rfl, hb3⟩)
          go_ret2
          exact ⟨rfl, below_step (pw_below_drewN HB2.out _) hb3⟩

/-! ### bits_Check: function 20 -/
mutual
def bits_Check.j0 : Nat → Int → ByteArray → Bool → Option (Bool)
  | 0, _, _, _ => none
  | k + 1, x0, x1, x15 => if x15 = true then (some false) else (bits_Check.l0 k x1 x0)
def bits_Check.l0 : Nat → ByteArray → Int → Option (Bool)
  | 0, _, _ => none
  | k + 1, x1, x5 => if x5 < (wrap64 (8 * (x1.size : Int))) then ((bits_Has.f x1 x5).bind fun t121 => (if t121 = true then (some false) else (bits_Check.l0 k x1 (wrap64 (x5 + 1))))) else (some true)
end
def bits_Check.f (k : Nat) (a0 : Int) (a1 : ByteArray) : Option (Bool) := (bits_may.f a0).bind fun t119 => (if t119 = true then ((bits_long.f a0).bind fun t120 => (bits_Check.j0 k a0 a1 ((a1.size : Int) != t120))) else (bits_Check.j0 k a0 a1 true))
theorem bits_Check.mono_l : ∀ k, (∀ y0 y1 y2, LeO (bits_Check.j0 k y0 y1 y2) (bits_Check.j0 (k + 1) y0 y1 y2)) ∧ (∀ y0 y1, LeO (bits_Check.l0 k y0 y1) (bits_Check.l0 (k + 1) y0 y1))
  | 0 => ⟨fun _ _ _ r h => by simp [bits_Check.j0] at h, fun _ _ r h => by simp [bits_Check.l0] at h⟩
  | k + 1 => by
    obtain ⟨ih0, ih1⟩ := bits_Check.mono_l k
    refine ⟨?_, ?_⟩
    · intro y0 y1 y2
      unfold bits_Check.j0
      repeat' first
      | (with_reducible exact ih0 _ _ _)
      | (with_reducible exact ih1 _ _)
      | (with_reducible exact LeO.refl _)
      | (with_reducible exact LeO.none _)
      | (with_reducible refine LeO.ite ?_ ?_)
      | (with_reducible refine LeO.bind ?_ (fun _ => ?_))
      | exact ih0 _ _ _
      | exact ih1 _ _
      | exact LeO.none _
      | refine LeO.ite ?_ ?_
      | refine LeO.bind ?_ (fun _ => ?_)
    · intro y0 y1
      unfold bits_Check.l0
      repeat' first
      | (with_reducible exact ih0 _ _ _)
      | (with_reducible exact ih1 _ _)
      | (with_reducible exact LeO.refl _)
      | (with_reducible exact LeO.none _)
      | (with_reducible refine LeO.ite ?_ ?_)
      | (with_reducible refine LeO.bind ?_ (fun _ => ?_))
      | exact ih0 _ _ _
      | exact ih1 _ _
      | exact LeO.none _
      | refine LeO.ite ?_ ?_
      | refine LeO.bind ?_ (fun _ => ?_)
theorem bits_Check.mono : ∀ a0 a1 k, LeO (bits_Check.f k a0 a1) (bits_Check.f (k + 1) a0 a1) := by
  intro a0 a1 k
  obtain ⟨ih0, ih1⟩ := bits_Check.mono_l k
  unfold bits_Check.f
  repeat' first
      | (with_reducible exact ih0 _ _ _)
      | (with_reducible exact ih1 _ _)
      | (with_reducible exact LeO.refl _)
      | (with_reducible exact LeO.none _)
      | (with_reducible refine LeO.ite ?_ ?_)
      | (with_reducible refine LeO.bind ?_ (fun _ => ?_))
      | exact ih0 _ _ _
      | exact ih1 _ _
      | exact LeO.none _
      | refine LeO.ite ?_ ?_
      | refine LeO.bind ?_ (fun _ => ?_)
set_option maxHeartbeats 8000000 in
set_option maxRecDepth 100000 in
theorem bits_Check.calls (k : Nat) (a0 : Int) (a1 : ByteArray) (r : Bool) (w : World) (h : bits_Check.f k a0 a1 = some r) :
    Calls Try.prog 20 #[.int .i64 a0, .string a1] w fun e w' => e = .returned (.bool r) ∧ Drawn0 w w' := by
  have H : ((bits_may.f a0).bind fun t119 => (if t119 = true then ((bits_long.f a0).bind fun t120 => (bits_Check.j0 k a0 a1 ((a1.size : Int) != t120))) else (bits_Check.j0 k a0 a1 true))) = some r := h
  clear h
  have HC3 := Aside0.mk H
  clear H
  go_enter Try.func20, Try.ntmps20
  go_upto_region 1 with (fail)
  go_cut [15] (fun v15 wc => ∃ (kq : Nat) (x15_2 : Bool), v15 = .bool x15_2 ∧ Aside0 (bits_Check.j0 kq a0 a1 x15_2 = some r) ∧ Aside0 (kq ≤ k) ∧ Drawn0 w wc)
  case first =>
    have H := HC3.out
    clear HC3
    replace H := Option.bind_eq_some_iff.mp H
    obtain ⟨t119, A40, H⟩ := H
    replace H : (if t119 = true then ((bits_long.f a0).bind fun t120 => (bits_Check.j0 k a0 a1 ((a1.size : Int) != t120))) else (bits_Check.j0 k a0 a1 true)) = some r := H
    have A4 := Aside0.mk A40
    clear A40
    by_cases c5 : t119 = true
    · subst c5
      have H1 : ((bits_long.f a0).bind fun t120 => (bits_Check.j0 k a0 a1 ((a1.size : Int) != t120))) = some r := by rw [if_pos rfl] at H; exact H
      clear H
      have H := H1
      clear H1
      replace H := Option.bind_eq_some_iff.mp H
      obtain ⟨t120, A60, H⟩ := H
      replace H : (bits_Check.j0 k a0 a1 ((a1.size : Int) != t120)) = some r := H
      have A6 := Aside0.mk A60
      clear A60
      have H' := Aside0.mk H
      clear H
      go_wp2_with (first | ((with_reducible refine gate_callee (f := 35) rfl ?_); refine goesL_ (some 7) rfl rfl Try.func35 (by kernel_rfl) rfl #[.int .i64 a0] rfl (by (try simp only [List.map_toArray, List.map_cons, List.map_nil]); first | done | rfl | (simp only [List.length_drop, List.length_take]; rfl)) ?_; (with_reducible refine (bits_may.calls a0 true _ A4.out).mono ?_); rintro e w' ⟨rfl, ⟨nd, rfl⟩⟩; refine ⟨_, rfl, ?_⟩) | (go_at_call 42; (with_reducible refine (bits_long.calls a0 t120 _ A6.out).mono ?_); rintro e w' ⟨rfl, ⟨nd, rfl⟩⟩))
      go_meet
      case rel => exact ⟨_, (((a1.size : Int) != t120)), (by first | rfl | (simp; done) | (simp [*]; done)), H', ⟨by first | omega | exact Nat.le_refl _⟩, by repeat (first | exact Drawn0.refl _ | apply Drawn0.step)⟩
    · replace c5 := Bool.eq_false_iff.mpr c5
      subst c5
      have H1 : (bits_Check.j0 k a0 a1 true) = some r := by rw [if_neg (show ¬ (false = true) by decide)] at H; exact H
      clear H
      have H := H1
      clear H1
      have H' := Aside0.mk H
      clear H
      go_wp2_with (first | ((with_reducible refine gate_callee (f := 35) rfl ?_); refine goesL_ (some 7) rfl rfl Try.func35 (by kernel_rfl) rfl #[.int .i64 a0] rfl (by (try simp only [List.map_toArray, List.map_cons, List.map_nil]); first | done | rfl | (simp only [List.length_drop, List.length_take]; rfl)) ?_; (with_reducible refine (bits_may.calls a0 false _ A4.out).mono ?_); rintro e w' ⟨rfl, ⟨nd, rfl⟩⟩; refine ⟨_, rfl, ?_⟩))
      go_meet
      case rel => exact ⟨_, (true), (by first | rfl | (simp; done) | (simp [*]; done)), H', ⟨by first | omega | exact Nat.le_refl _⟩, by repeat (first | exact Drawn0.refl _ | apply Drawn0.step)⟩
  case rest =>
    clear HC3
    try clear c2
    try clear p2
    try clear c3
    try clear c5
    obtain ⟨kq, x15_2, rfl, HA, HJ2, ⟨mc2, rfl⟩⟩ := hcut
    cases kq with
    | zero => exact absurd HA.out (by simp [bits_Check.j0])
    | succ kj2 =>
      have H := HA.out
      clear HA
      simp only [bits_Check.j0] at H
      by_cases c7 : x15_2 = true
      · subst c7
        have H1 : (some false) = some r := by rw [if_pos rfl] at H; exact H
        clear H
        have H := H1
        clear H1
        obtain rfl := Option.some.inj H
        go_wp2
        go_ret
        exact ⟨by first | rfl | (simp; done) | (simp [*]; done), by repeat (first | exact Drawn0.refl _ | apply Drawn0.step)⟩
      · replace c7 := Bool.eq_false_iff.mpr c7
        subst c7
        have H1 : (bits_Check.l0 kj2 a1 a0) = some r := by rw [if_neg (show ¬ (false = true) by decide)] at H; exact H
        clear H
        have H := H1
        clear H1
        have H' := Aside0.mk H
        clear H
        go_wp2
        go_loopg [5] kj2 (fun kq v5 w' => ∃ (x5_2 : Int), v5 = .int .i64 x5_2 ∧ Aside0 (bits_Check.l0 kq a1 x5_2 = some r) ∧ Aside0 (kq ≤ kj2) ∧ Drawn0 w w')
        case atStart => exact ⟨(a0), (by first | rfl | (simp; done) | (simp [*]; done)), H', ⟨Nat.le_refl _⟩, by repeat (first | exact Drawn0.refl _ | apply Drawn0.step)⟩
        case round =>
          clear H'
          try clear c2
          try clear p2
          try clear c3
          try clear c5
          try clear c7
          try clear p2
          obtain ⟨x5_2, rfl, HA, HK2, ⟨m2, rfl⟩⟩ := hrel
          cases gk with
          | zero => exact absurd HA.out (by simp [bits_Check.l0])
          | succ k2 =>
            have H := HA.out
            clear HA
            simp only [bits_Check.l0] at H
            by_cases c8 : x5_2 < (wrap64 (8 * (a1.size : Int)))
            · rw [if_pos c8] at H
              have c8b0 : decide (x5_2 < (wrap64 (8 * (a1.size : Int)))) = true := decide_eq_true c8
              clear c8
              replace H := Option.bind_eq_some_iff.mp H
              obtain ⟨t121, A90, H⟩ := H
              replace H : (if t121 = true then (some false) else (bits_Check.l0 k2 a1 (wrap64 (x5_2 + 1)))) = some r := H
              have A9 := Aside0.mk A90
              clear A90
              by_cases c10 : t121 = true
              · subst c10
                have H1 : (some false) = some r := by rw [if_pos rfl] at H; exact H
                clear H
                have H := H1
                clear H1
                obtain rfl := Option.some.inj H
                go_wp2_with (first | ((with_reducible refine gate_callee (f := 29) rfl ?_); refine goesL_ (some 26) rfl rfl Try.func29 (by kernel_rfl) rfl #[.string a1, .int .i64 x5_2] rfl (by (try simp only [List.map_toArray, List.map_cons, List.map_nil]); first | done | rfl | (simp only [List.length_drop, List.length_take]; rfl)) ?_; (with_reducible refine (bits_Has.calls a1 x5_2 true _ A9.out).mono ?_); rintro e w' ⟨rfl, ⟨nd, rfl⟩⟩; refine ⟨_, rfl, ?_⟩))
                go_ret
                exact ⟨by first | rfl | (simp; done) | (simp [*]; done), by repeat (first | exact Drawn0.refl _ | apply Drawn0.step)⟩
              · replace c10 := Bool.eq_false_iff.mpr c10
                subst c10
                have H1 : (bits_Check.l0 k2 a1 (wrap64 (x5_2 + 1))) = some r := by rw [if_neg (show ¬ (false = true) by decide)] at H; exact H
                clear H
                have H := H1
                clear H1
                have H' := Aside0.mk H
                clear H
                go_wp2_with (first | ((with_reducible refine gate_callee (f := 29) rfl ?_); refine goesL_ (some 26) rfl rfl Try.func29 (by kernel_rfl) rfl #[.string a1, .int .i64 x5_2] rfl (by (try simp only [List.map_toArray, List.map_cons, List.map_nil]); first | done | rfl | (simp only [List.length_drop, List.length_take]; rfl)) ?_; (with_reducible refine (bits_Has.calls a1 x5_2 false _ A9.out).mono ?_); rintro e w' ⟨rfl, ⟨nd, rfl⟩⟩; refine ⟨_, rfl, ?_⟩))
                go_roundg k2
                case measure => have := HJ2.out; have := HK2.out; omega
                case rel => exact ⟨(wrap64 (x5_2 + 1)), (by first | rfl | (simp; done) | (simp [*]; done)), H', ⟨by have := HJ2.out; have := HK2.out; omega⟩, by repeat (first | exact Drawn0.refl _ | apply Drawn0.step)⟩
            · rw [if_neg c8] at H
              have c8b0 : decide (x5_2 < (wrap64 (8 * (a1.size : Int)))) = false := decide_eq_false c8
              clear c8
              obtain rfl := Option.some.inj H
              go_wp2
              go_ret
              exact ⟨by first | rfl | (simp; done) | (simp [*]; done), by repeat (first | exact Drawn0.refl _ | apply Drawn0.step)⟩

end Go.Proofs.Ytkfilmhconpnbaa.PBitsMakes
