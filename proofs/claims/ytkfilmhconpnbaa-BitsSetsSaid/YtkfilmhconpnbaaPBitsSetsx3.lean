-- Written by this session's own program (wip/tools/mkprint.py) over the kit's printer, with overrides.
import Derived.Test.YtkfilmhconpnbaaPBitsSetsx0
import Derived.Test.YtkfilmhconpnbaaPBitsSetsx1
namespace Go.Proofs.Ytkfilmhconpnbaa.PBitsSets
open Go.RowKit Go.Mine Go.Proofs.YtkfilmhconpnbaaW.PrintWords Go.Proofs.YtkfilmhconpnbaaW.PrintLast Go.Proofs.YtkfilmhconpnbaaW.PrintMore
attribute [local go_sem] max2_int min2_int max_two min_two max_three min_three max_four min_four   -- for this text's walks alone
set_option linter.unusedVariables false
set_option linter.unusedSimpArgs false

/-! ### bits_Rank: function 12 -/
def bits_Rank.l0 : Nat → ByteArray → Int → Int → Int → Option (Int)
  | 0, _, _, _, _ => none
  | k + 1, x0, x5, x12, x13 => if x13 < x12 then ((bits_Has.f x0 x13).bind fun t114 => (if t114 = true then (bits_Rank.l0 k x0 (wrap64 (x5 + 1)) x12 (wrap64 (x13 + 1))) else (bits_Rank.l0 k x0 x5 x12 (wrap64 (x13 + 1))))) else (some x5)
def bits_Rank.f (k : Nat) (a0 : ByteArray) (a1 : Int) : Option (Int) := bits_Rank.l0 k a0 0 (mn (mx a1 0) (wrap64 (8 * (a0.size : Int)))) 0
theorem bits_Rank.mono_l : ∀ k, (∀ y0 y1 y2 y3, LeO (bits_Rank.l0 k y0 y1 y2 y3) (bits_Rank.l0 (k + 1) y0 y1 y2 y3))
  | 0 => fun _ _ _ _ r h => by simp [bits_Rank.l0] at h
  | k + 1 => by
    have ih0 := bits_Rank.mono_l k
    · intro y0 y1 y2 y3
      unfold bits_Rank.l0
      repeat' first
      | (with_reducible exact ih0 _ _ _ _)
      | (with_reducible exact LeO.refl _)
      | (with_reducible exact LeO.none _)
      | (with_reducible refine LeO.ite ?_ ?_)
      | (with_reducible refine LeO.bind ?_ (fun _ => ?_))
      | exact ih0 _ _ _ _
      | exact LeO.none _
      | refine LeO.ite ?_ ?_
      | refine LeO.bind ?_ (fun _ => ?_)
theorem bits_Rank.mono : ∀ a0 a1 k, LeO (bits_Rank.f k a0 a1) (bits_Rank.f (k + 1) a0 a1) := by
  intro a0 a1 k
  have ih0 := bits_Rank.mono_l k
  unfold bits_Rank.f
  repeat' first
      | (with_reducible exact ih0 _ _ _ _)
      | (with_reducible exact LeO.refl _)
      | (with_reducible exact LeO.none _)
      | (with_reducible refine LeO.ite ?_ ?_)
      | (with_reducible refine LeO.bind ?_ (fun _ => ?_))
      | exact ih0 _ _ _ _
      | exact LeO.none _
      | refine LeO.ite ?_ ?_
      | refine LeO.bind ?_ (fun _ => ?_)
set_option maxHeartbeats 8000000 in
set_option maxRecDepth 100000 in
theorem bits_Rank.calls (k : Nat) (a0 : ByteArray) (a1 : Int) (r : Int) (w : World) (h : bits_Rank.f k a0 a1 = some r) :
    Calls Try.prog 12 #[.string a0, .int .i64 a1] w fun e w' => e = .returned (.int .i64 r) ∧ Below w.heap.size w w' := by
  have HB := Aside0.mk (Below.refl w.heap.size w)
  have H : (bits_Rank.l0 k a0 0 (mn (mx a1 0) (wrap64 (8 * (a0.size : Int)))) 0) = some r := h
  clear h
  obtain ⟨ji3, hji3⟩ : ∃ j_ : Int, (mx a1 0) = j_ := ⟨_, rfl⟩
  replace H : (bits_Rank.l0 k a0 0 (mn (ji3) (wrap64 (8 * (a0.size : Int)))) 0) = some r := by first | (rw [hji3] at H; exact H) | (simp only [hji3] at H ⊢; exact H)
  (try (have hji3l : 0 ≤ ji3 := by (rw [← hji3]; unfold mx; (repeat' split) <;> omega)))
  (try (have hji3m : 0 ≤ ji3 := by omega))
  have hji3_ : (if a1 < 0 then 0 else a1) = ji3 := hji3
  obtain ⟨ji4, hji4⟩ : ∃ j_ : Int, (mn (ji3) (wrap64 (8 * (a0.size : Int)))) = j_ := ⟨_, rfl⟩
  replace H : (bits_Rank.l0 k a0 0 ji4 0) = some r := by first | (rw [hji4] at H; exact H) | (simp only [hji4] at H ⊢; exact H)
  have hji4_ : (if (wrap64 (8 * (a0.size : Int))) < (ji3) then (wrap64 (8 * (a0.size : Int))) else (ji3)) = ji4 := hji4
  have H' := Aside0.mk H
  clear H
  go_enter Try.func12, Try.ntmps12
  go_wp2
  go_loopg [5, 13] k (fun kq v5 v13 w' => ∃ (x5_1 : Int) (x13_1 : Int), v5 = .int .i64 x5_1 ∧ v13 = .int .i64 x13_1 ∧ Aside0 (bits_Rank.l0 kq a0 x5_1 ji4 x13_1 = some r) ∧ Aside0 (kq ≤ k) ∧ Aside0 (Below w.heap.size w w'))
  case atStart => exact ⟨(0), (0), (by first | rfl | (simp; done) | (simp [*]; done)), (by first | rfl | (simp; done) | (simp [*]; done)), H', ⟨Nat.le_refl _⟩, ⟨by repeat (first | (with_reducible first | exact HB.out | apply below_alloc | apply pw_below_drewN | apply below_drew1) | exact HB.out)⟩⟩
  case round =>
    clear H'
    try clear c1
    try clear p2
    obtain ⟨x5_1, x13_1, rfl, rfl, HA, HK1, HB⟩ := hrel
    cases gk with
    | zero => exact absurd HA.out (by simp [bits_Rank.l0])
    | succ k1 =>
      have H := HA.out
      clear HA
      simp only [bits_Rank.l0] at H
      by_cases c5 : x13_1 < ji4
      · rw [if_pos c5] at H
        have c5b0 : decide (x13_1 < ji4) = true := decide_eq_true c5
        clear c5
        replace H := Option.bind_eq_some_iff.mp H
        obtain ⟨t114, A60, H⟩ := H
        replace H : (if t114 = true then (bits_Rank.l0 k1 a0 (wrap64 (x5_1 + 1)) ji4 (wrap64 (x13_1 + 1))) else (bits_Rank.l0 k1 a0 x5_1 ji4 (wrap64 (x13_1 + 1)))) = some r := H
        have A6 := Aside0.mk A60
        clear A60
        by_cases c7 : t114 = true
        · subst c7
          have H1 : (bits_Rank.l0 k1 a0 (wrap64 (x5_1 + 1)) ji4 (wrap64 (x13_1 + 1))) = some r := by rw [if_pos rfl] at H; exact H
          clear H
          have H := H1
          clear H1
          have H' := Aside0.mk H
          clear H
          go_wp2_with (first | ((with_reducible refine gate_callee (f := 29) rfl ?_); refine goesL_ (some 18) rfl rfl Try.func29 (by kernel_rfl) rfl #[.string a0, .int .i64 x13_1] rfl (by (try simp only [List.map_toArray, List.map_cons, List.map_nil]); first | done | rfl | (simp only [List.length_drop, List.length_take]; rfl)) ?_; (with_reducible refine (bits_Has.calls a0 x13_1 true _ A6.out).mono ?_); rintro e w' ⟨rfl, ⟨nd, rfl⟩⟩; refine ⟨_, rfl, ?_⟩))
          go_roundg k1
          case measure => have := HK1.out; omega
          case rel => exact ⟨(wrap64 (x5_1 + 1)), (wrap64 (x13_1 + 1)), (by first | rfl | (simp; done) | (simp [*]; done)), (by first | rfl | (simp; done) | (simp [*]; done)), H', ⟨by have := HK1.out; omega⟩, ⟨by repeat (first | (with_reducible first | exact HB.out | apply below_alloc | apply pw_below_drewN | apply below_drew1) | exact HB.out)⟩⟩
        · replace c7 := Bool.eq_false_iff.mpr c7
          subst c7
          have H1 : (bits_Rank.l0 k1 a0 x5_1 ji4 (wrap64 (x13_1 + 1))) = some r := by rw [if_neg (show ¬ (false = true) by decide)] at H; exact H
          clear H
          have H := H1
          clear H1
          have H' := Aside0.mk H
          clear H
          go_wp2_with (first | ((with_reducible refine gate_callee (f := 29) rfl ?_); refine goesL_ (some 18) rfl rfl Try.func29 (by kernel_rfl) rfl #[.string a0, .int .i64 x13_1] rfl (by (try simp only [List.map_toArray, List.map_cons, List.map_nil]); first | done | rfl | (simp only [List.length_drop, List.length_take]; rfl)) ?_; (with_reducible refine (bits_Has.calls a0 x13_1 false _ A6.out).mono ?_); rintro e w' ⟨rfl, ⟨nd, rfl⟩⟩; refine ⟨_, rfl, ?_⟩))
          go_roundg k1
          case measure => have := HK1.out; omega
          case rel => exact ⟨(x5_1), (wrap64 (x13_1 + 1)), (by first | rfl | (simp; done) | (simp [*]; done)), (by first | rfl | (simp; done) | (simp [*]; done)), H', ⟨by have := HK1.out; omega⟩, ⟨by repeat (first | (with_reducible first | exact HB.out | apply below_alloc | apply pw_below_drewN | apply below_drew1) | exact HB.out)⟩⟩
      · rw [if_neg c5] at H
        have c5b0 : decide (x13_1 < ji4) = false := decide_eq_false c5
        clear c5
        obtain rfl := Option.some.inj H
        go_wp2
        go_ret
        exact ⟨by first | rfl | (simp [errW_none, errW_some] <;> rfl) | (simp only [← hji3, ← hji4]; first | rfl | (simp [errW_none, errW_some] <;> rfl)) | (simp [*, errW_none, errW_some] <;> rfl), by repeat (first | (with_reducible first | exact HB.out | apply below_alloc | apply pw_below_drewN | apply below_drew1) | exact HB.out)⟩

/-! ### bits_Count: function 10 -/
def bits_Count.f (k : Nat) (a0 : ByteArray) : Option (Int) := (bits_Rank.f k a0 (wrap64 (8 * (a0.size : Int)))).bind fun t115 => (some t115)
theorem bits_Count.mono : ∀ a0 k, LeO (bits_Count.f k a0) (bits_Count.f (k + 1) a0) := by
  intro a0 k
  unfold bits_Count.f
  repeat' first
      | (with_reducible exact bits_Rank.mono _ _ _)
      | (with_reducible exact LeO.refl _)
      | (with_reducible exact LeO.none _)
      | (with_reducible refine LeO.ite ?_ ?_)
      | (with_reducible refine LeO.bind ?_ (fun _ => ?_))
      | exact bits_Rank.mono _ _ _
      | exact LeO.none _
      | refine LeO.ite ?_ ?_
      | refine LeO.bind ?_ (fun _ => ?_)
set_option maxHeartbeats 8000000 in
set_option maxRecDepth 100000 in
theorem bits_Count.calls (k : Nat) (a0 : ByteArray) (r : Int) (w : World) (h : bits_Count.f k a0 = some r) :
    Calls Try.prog 10 #[.string a0] w fun e w' => e = .returned (.int .i64 r) ∧ Below w.heap.size w w' := by
  have HB := Aside0.mk (Below.refl w.heap.size w)
  have H : ((bits_Rank.f k a0 (wrap64 (8 * (a0.size : Int)))).bind fun t115 => (some t115)) = some r := h
  clear h
  replace H := Option.bind_eq_some_iff.mp H
  obtain ⟨t115, A20, H⟩ := H
  replace H : (some t115) = some r := H
  have A2 := Aside0.mk A20
  clear A20
  obtain rfl := Option.some.inj H
  go_enter Try.func10, Try.ntmps10
  go_wp2_with (first | ((with_reducible refine gate_callee (f := 12) rfl ?_); refine goesL_ (some 7) rfl rfl Try.func12 (by kernel_rfl) rfl #[.string a0, .int .i64 (wrap64 (8 * (a0.size : Int)))] rfl (by (try simp only [List.map_toArray, List.map_cons, List.map_nil]); first | done | rfl | (simp only [List.length_drop, List.length_take]; rfl)) ?_; (with_reducible refine (bits_Rank.calls k a0 (wrap64 (8 * (a0.size : Int))) t115 _ A2.out).mono ?_); rintro e w3 ⟨rfl, hb⟩; refine ⟨_, rfl, ?_⟩; have n0_ := Aside0.mk (below_step (by repeat (first | (with_reducible first | exact HB.out | apply below_alloc | apply pw_below_drewN | apply below_drew1) | exact HB.out)) hb); clear HB; have HB := n0_; clear n0_; (try clear hb); (try clear hb2); (try clear hk); (try clear hi)))
  go_ret
  exact ⟨by first | rfl | (simp [errW_none, errW_some] <;> rfl) | (simp [*, errW_none, errW_some] <;> rfl), by repeat (first | (with_reducible first | exact HB.out | apply below_alloc | apply pw_below_drewN | apply below_drew1) | exact HB.out)⟩

/-! ### bits_Check: function 20 -/
mutual
def bits_Check.j0 : Nat → Int → ByteArray → Bool → Option (Bool)
  | 0, _, _, _ => none
  | k + 1, x0, x1, x15 => if x15 = true then (some false) else (bits_Check.l0 k x1 x0)
def bits_Check.l0 : Nat → ByteArray → Int → Option (Bool)
  | 0, _, _ => none
  | k + 1, x1, x5 => if x5 < (wrap64 (8 * (x1.size : Int))) then ((bits_Has.f x1 x5).bind fun t118 => (if t118 = true then (some false) else (bits_Check.l0 k x1 (wrap64 (x5 + 1))))) else (some true)
end
def bits_Check.f (k : Nat) (a0 : Int) (a1 : ByteArray) : Option (Bool) := (bits_may.f a0).bind fun t116 => (if t116 = true then ((bits_long.f a0).bind fun t117 => (bits_Check.j0 k a0 a1 ((a1.size : Int) != t117))) else (bits_Check.j0 k a0 a1 true))
theorem bits_Check.mono_l : ∀ k, (∀ y0 y1 y2, LeO (bits_Check.j0 k y0 y1 y2) (bits_Check.j0 (k + 1) y0 y1 y2)) ∧ (∀ y0 y1, LeO (bits_Check.l0 k y0 y1) (bits_Check.l0 (k + 1) y0 y1))
  | 0 => ⟨fun _ _ _ r h => by simp [bits_Check.j0] at h, fun _ _ r h => by simp [bits_Check.l0] at h⟩
  | k + 1 => by
    obtain ⟨ih0, ih1⟩ := bits_Check.mono_l k
    refine ⟨?_, ?_⟩
    · intro y0 y1 y2
      unfold bits_Check.j0
      repeat' first
      | (with_reducible exact ih0 _ _ _)
      | (with_reducible exact ih1 _ _)
      | (with_reducible exact LeO.refl _)
      | (with_reducible exact LeO.none _)
      | (with_reducible refine LeO.ite ?_ ?_)
      | (with_reducible refine LeO.bind ?_ (fun _ => ?_))
      | exact ih0 _ _ _
      | exact ih1 _ _
      | exact LeO.none _
      | refine LeO.ite ?_ ?_
      | refine LeO.bind ?_ (fun _ => ?_)
    · intro y0 y1
      unfold bits_Check.l0
      repeat' first
      | (with_reducible exact ih0 _ _ _)
      | (with_reducible exact ih1 _ _)
      | (with_reducible exact LeO.refl _)
      | (with_reducible exact LeO.none _)
      | (with_reducible refine LeO.ite ?_ ?_)
      | (with_reducible refine LeO.bind ?_ (fun _ => ?_))
      | exact ih0 _ _ _
      | exact ih1 _ _
      | exact LeO.none _
      | refine LeO.ite ?_ ?_
      | refine LeO.bind ?_ (fun _ => ?_)
theorem bits_Check.mono : ∀ a0 a1 k, LeO (bits_Check.f k a0 a1) (bits_Check.f (k + 1) a0 a1) := by
  intro a0 a1 k
  obtain ⟨ih0, ih1⟩ := bits_Check.mono_l k
  unfold bits_Check.f
  repeat' first
      | (with_reducible exact ih0 _ _ _)
      | (with_reducible exact ih1 _ _)
      | (with_reducible exact LeO.refl _)
      | (with_reducible exact LeO.none _)
      | (with_reducible refine LeO.ite ?_ ?_)
      | (with_reducible refine LeO.bind ?_ (fun _ => ?_))
      | exact ih0 _ _ _
      | exact ih1 _ _
      | exact LeO.none _
      | refine LeO.ite ?_ ?_
      | refine LeO.bind ?_ (fun _ => ?_)
set_option maxHeartbeats 8000000 in
set_option maxRecDepth 100000 in
theorem bits_Check.calls (k : Nat) (a0 : Int) (a1 : ByteArray) (r : Bool) (w : World) (h : bits_Check.f k a0 a1 = some r) :
    Calls Try.prog 20 #[.int .i64 a0, .string a1] w fun e w' => e = .returned (.bool r) ∧ Drawn0 w w' := by
  have H : ((bits_may.f a0).bind fun t116 => (if t116 = true then ((bits_long.f a0).bind fun t117 => (bits_Check.j0 k a0 a1 ((a1.size : Int) != t117))) else (bits_Check.j0 k a0 a1 true))) = some r := h
  clear h
  have HC3 := Aside0.mk H
  clear H
  go_enter Try.func20, Try.ntmps20
  go_upto_region 1 with (fail)
  go_cut [15] (fun v15 wc => ∃ (kq : Nat) (x15_2 : Bool), v15 = .bool x15_2 ∧ Aside0 (bits_Check.j0 kq a0 a1 x15_2 = some r) ∧ Aside0 (kq ≤ k) ∧ Drawn0 w wc)
  case first =>
    have H := HC3.out
    clear HC3
    replace H := Option.bind_eq_some_iff.mp H
    obtain ⟨t116, A40, H⟩ := H
    replace H : (if t116 = true then ((bits_long.f a0).bind fun t117 => (bits_Check.j0 k a0 a1 ((a1.size : Int) != t117))) else (bits_Check.j0 k a0 a1 true)) = some r := H
    have A4 := Aside0.mk A40
    clear A40
    by_cases c5 : t116 = true
    · subst c5
      have H1 : ((bits_long.f a0).bind fun t117 => (bits_Check.j0 k a0 a1 ((a1.size : Int) != t117))) = some r := by rw [if_pos rfl] at H; exact H
      clear H
      have H := H1
      clear H1
      replace H := Option.bind_eq_some_iff.mp H
      obtain ⟨t117, A60, H⟩ := H
      replace H : (bits_Check.j0 k a0 a1 ((a1.size : Int) != t117)) = some r := H
      have A6 := Aside0.mk A60
      clear A60
      have H' := Aside0.mk H
      clear H
      go_wp2_with (first | ((with_reducible refine gate_callee (f := 35) rfl ?_); refine goesL_ (some 7) rfl rfl Try.func35 (by kernel_rfl) rfl #[.int .i64 a0] rfl (by (try simp only [List.map_toArray, List.map_cons, List.map_nil]); first | done | rfl | (simp only [List.length_drop, List.length_take]; rfl)) ?_; (with_reducible refine (bits_may.calls a0 true _ A4.out).mono ?_); rintro e w' ⟨rfl, ⟨nd, rfl⟩⟩; refine ⟨_, rfl, ?_⟩) | (go_at_call 42; (with_reducible refine (bits_long.calls a0 t117 _ A6.out).mono ?_); rintro e w' ⟨rfl, ⟨nd, rfl⟩⟩))
      go_meet
      case rel => exact ⟨_, (((a1.size : Int) != t117)), (by first | rfl | (simp; done) | (simp [*]; done)), H', ⟨by first | omega | exact Nat.le_refl _⟩, by repeat (first | exact Drawn0.refl _ | apply Drawn0.step)⟩
    · replace c5 := Bool.eq_false_iff.mpr c5
      subst c5
      have H1 : (bits_Check.j0 k a0 a1 true) = some r := by rw [if_neg (show ¬ (false = true) by decide)] at H; exact H
      clear H
      have H := H1
      clear H1
      have H' := Aside0.mk H
      clear H
      go_wp2_with (first | ((with_reducible refine gate_callee (f := 35) rfl ?_); refine goesL_ (some 7) rfl rfl Try.func35 (by kernel_rfl) rfl #[.int .i64 a0] rfl (by (try simp only [List.map_toArray, List.map_cons, List.map_nil]); first | done | rfl | (simp only [List.length_drop, List.length_take]; rfl)) ?_; (with_reducible refine (bits_may.calls a0 false _ A4.out).mono ?_); rintro e w' ⟨rfl, ⟨nd, rfl⟩⟩; refine ⟨_, rfl, ?_⟩))
      go_meet
      case rel => exact ⟨_, (true), (by first | rfl | (simp; done) | (simp [*]; done)), H', ⟨by first | omega | exact Nat.le_refl _⟩, by repeat (first | exact Drawn0.refl _ | apply Drawn0.step)⟩
  case rest =>
    clear HC3
    try clear c2
    try clear p2
    try clear c3
    try clear c5
    obtain ⟨kq, x15_2, rfl, HA, HJ2, ⟨mc2, rfl⟩⟩ := hcut
    cases kq with
    | zero => exact absurd HA.out (by simp [bits_Check.j0])
    | succ kj2 =>
      have H := HA.out
      clear HA
      simp only [bits_Check.j0] at H
      by_cases c7 : x15_2 = true
      · subst c7
        have H1 : (some false) = some r := by rw [if_pos rfl] at H; exact H
        clear H
        have H := H1
        clear H1
        obtain rfl := Option.some.inj H
        go_wp2
        go_ret
        exact ⟨by first | rfl | (simp; done) | (simp [*]; done), by repeat (first | exact Drawn0.refl _ | apply Drawn0.step)⟩
      · replace c7 := Bool.eq_false_iff.mpr c7
        subst c7
        have H1 : (bits_Check.l0 kj2 a1 a0) = some r := by rw [if_neg (show ¬ (false = true) by decide)] at H; exact H
        clear H
        have H := H1
        clear H1
        have H' := Aside0.mk H
        clear H
        go_wp2
        go_loopg [5] kj2 (fun kq v5 w' => ∃ (x5_2 : Int), v5 = .int .i64 x5_2 ∧ Aside0 (bits_Check.l0 kq a1 x5_2 = some r) ∧ Aside0 (kq ≤ kj2) ∧ Drawn0 w w')
        case atStart => exact ⟨(a0), (by first | rfl | (simp; done) | (simp [*]; done)), H', ⟨Nat.le_refl _⟩, by repeat (first | exact Drawn0.refl _ | apply Drawn0.step)⟩
        case round =>
          clear H'
          try clear c2
          try clear p2
          try clear c3
          try clear c5
          try clear c7
          try clear p2
          obtain ⟨x5_2, rfl, HA, HK2, ⟨m2, rfl⟩⟩ := hrel
          cases gk with
          | zero => exact absurd HA.out (by simp [bits_Check.l0])
          | succ k2 =>
            have H := HA.out
            clear HA
            simp only [bits_Check.l0] at H
            by_cases c8 : x5_2 < (wrap64 (8 * (a1.size : Int)))
            · rw [if_pos c8] at H
              have c8b0 : decide (x5_2 < (wrap64 (8 * (a1.size : Int)))) = true := decide_eq_true c8
              clear c8
              replace H := Option.bind_eq_some_iff.mp H
              obtain ⟨t118, A90, H⟩ := H
              replace H : (if t118 = true then (some false) else (bits_Check.l0 k2 a1 (wrap64 (x5_2 + 1)))) = some r := H
              have A9 := Aside0.mk A90
              clear A90
              by_cases c10 : t118 = true
              · subst c10
                have H1 : (some false) = some r := by rw [if_pos rfl] at H; exact H
                clear H
                have H := H1
                clear H1
                obtain rfl := Option.some.inj H
                go_wp2_with (first | ((with_reducible refine gate_callee (f := 29) rfl ?_); refine goesL_ (some 26) rfl rfl Try.func29 (by kernel_rfl) rfl #[.string a1, .int .i64 x5_2] rfl (by (try simp only [List.map_toArray, List.map_cons, List.map_nil]); first | done | rfl | (simp only [List.length_drop, List.length_take]; rfl)) ?_; (with_reducible refine (bits_Has.calls a1 x5_2 true _ A9.out).mono ?_); rintro e w' ⟨rfl, ⟨nd, rfl⟩⟩; refine ⟨_, rfl, ?_⟩))
                go_ret
                exact ⟨by first | rfl | (simp; done) | (simp [*]; done), by repeat (first | exact Drawn0.refl _ | apply Drawn0.step)⟩
              · replace c10 := Bool.eq_false_iff.mpr c10
                subst c10
                have H1 : (bits_Check.l0 k2 a1 (wrap64 (x5_2 + 1))) = some r := by rw [if_neg (show ¬ (false = true) by decide)] at H; exact H
                clear H
                have H := H1
                clear H1
                have H' := Aside0.mk H
                clear H
                go_wp2_with (first | ((with_reducible refine gate_callee (f := 29) rfl ?_); refine goesL_ (some 26) rfl rfl Try.func29 (by kernel_rfl) rfl #[.string a1, .int .i64 x5_2] rfl (by (try simp only [List.map_toArray, List.map_cons, List.map_nil]); first | done | rfl | (simp only [List.length_drop, List.length_take]; rfl)) ?_; (with_reducible refine (bits_Has.calls a1 x5_2 false _ A9.out).mono ?_); rintro e w' ⟨rfl, ⟨nd, rfl⟩⟩; refine ⟨_, rfl, ?_⟩))
                go_roundg k2
                case measure => have := HJ2.out; have := HK2.out; omega
                case rel => exact ⟨(wrap64 (x5_2 + 1)), (by first | rfl | (simp; done) | (simp [*]; done)), H', ⟨by have := HJ2.out; have := HK2.out; omega⟩, by repeat (first | exact Drawn0.refl _ | apply Drawn0.step)⟩
            · rw [if_neg c8] at H
              have c8b0 : decide (x5_2 < (wrap64 (8 * (a1.size : Int)))) = false := decide_eq_false c8
              clear c8
              obtain rfl := Option.some.inj H
              go_wp2
              go_ret
              exact ⟨by first | rfl | (simp; done) | (simp [*]; done), by repeat (first | exact Drawn0.refl _ | apply Drawn0.step)⟩

/-! ### bits_And: function 31 -/
def bits_And.f (a0 : ByteArray) (a1 : ByteArray) : Option (ByteArray × Int) := if a0.size = a1.size then (if a0.size ≤ 140737488351232 then some (strOfNums (bothB .and (bytesI a0) (bytesI a1) a0.size), 0) else none) else some (⟨#[]⟩, 1)
set_option maxHeartbeats 1000000 in
theorem bits_And.calls (a0 : ByteArray) (a1 : ByteArray) (r1 : ByteArray) (r2 : Int) (w : World) (h : bits_And.f a0 a1 = some (r1, r2)) :
    Calls Try.prog 31 #[.string a0, .string a1] w fun e w' => e = .returned (.tuple #[.string r1, .int .i64 r2]) ∧ Below w.heap.size w w' := by
  unfold bits_And.f at h
  by_cases hs : a0.size = a1.size
  · rw [if_pos hs] at h
    split at h
    rotate_left
    · cases h
    rename_i hsz
    simp only [Option.some.injEq, Prod.mk.injEq] at h
    obtain ⟨h, rfl⟩ := h
    have HR := Aside0.mk h
    clear h
    obtain ⟨w1, c, hrun, hrow, hb, hc, hz⟩ := run_bytes (P := Try.prog) w 9 55 5 a0 Try.underlying9 Try.underlying55 Try.underlying5
    have HB1 := Aside0.mk hb
    have HROW := Aside0.mk hrow
    have HS := Aside0.mk hs
    have t1 : ((a0.size : Int) == (a1.size : Int)) = true := by rw [hs]; simp
    have t2 : ((a0.size : Int) != (a1.size : Int)) = false := by rw [hs]; simp
    clear hb hrow hz hs
    go_enter Try.func31, Try.ntmps31
    go_wp2
    go_loopw [7, 17] (fun _ v17 wr => ∃ k : Nat, k ≤ a0.size ∧ v17 = .int .i64 k ∧ Aside0 (ByteRow 5 wr w.heap.size (bothB .and (bytesI a0) (bytesI a1) k)) ∧ Aside0 (Below w.heap.size w wr)) (fun _ v17 _ => a0.size - (intOf v17).toNat)
    case atStart => exact ⟨0, Nat.zero_le _, rfl, HROW, HB1⟩
    case round =>
      obtain ⟨k, hk, rfl, HROW2, HB2⟩ := hrel
      clear HROW HB1
      by_cases hlt : k < a0.size
      · have hltz : (k : Int) < (a0.size : Int) := by omega
        have hlt1 : k < a1.size := by have := HS.out; omega
        have hlt1z : (k : Int) < (a1.size : Int) := by omega
        have hlen : (bothB .and (bytesI a0) (bytesI a1) k).length = a0.size := by rw [bothB_length, bytesI_length]
        have hcell := HROW2.out.cell k (by omega)
        have hfr := HROW2.out.frozen k (by omega)
        have hset := HROW2.out.set k (by omega) (Go.bits .and .u8 ((bothB .and (bytesI a0) (bytesI a1) k).getD k 0) ((bytesI a1).getD k 0))
        have hst : bothB .and (bytesI a0) (bytesI a1) (k + 1) = (bothB .and (bytesI a0) (bytesI a1) k).set k (Go.bits .and .u8 ((bothB .and (bytesI a0) (bytesI a1) k).getD k 0) ((bytesI a1).getD k 0)) := rfl
        rw [← hst, bytesI_getD a1 k hlt1] at hset
        have HSET := Aside0.mk hset
        clear hset hst hlen
        generalize (bothB .and (bytesI a0) (bytesI a1) k).getD k 0 = x at *
        go_wp2_with fail
        go_region
        all_goals
          go_wp2
          go_roundw
          case rel => exact ⟨k + 1, by omega, by go_num, ⟨HSET.out.drew⟩, ⟨(HB2.out.setCell (Nat.le_refl _) _).drew⟩⟩
          case measure => simp [intOf]; omega
      · have hltz : ¬ (k : Int) < (a0.size : Int) := by omega
        have hkk : k = a0.size := by omega
        subst hkk
        have hback := HROW2.out.back (P := Try.prog) 55 9 Try.underlying55 Try.underlying5 Try.underlying9 a0.size c (by rw [bothB_length, bytesI_length])
        rw [HR.out] at hback
        go_wp2
        go_ret2
        exact ⟨rfl, HB2.out⟩
  · rw [if_neg hs] at h
    simp only [Option.some.injEq, Prod.mk.injEq] at h
    obtain ⟨rfl, rfl⟩ := h
    have t1 : ((a0.size : Int) == (a1.size : Int)) = false := by rw [beq_eq_false_iff_ne]; omega
    have t2 : ((a0.size : Int) != (a1.size : Int)) = true := by rw [bne_iff_ne]; omega
    clear hs
    go_enter Try.func31, Try.ntmps31
    go_wp2
    go_ret2
    exact ⟨rfl, Below.refl _ _⟩

end Go.Proofs.Ytkfilmhconpnbaa.PBitsSets
