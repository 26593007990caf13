-- Written by this session's own program (wip/tools/mkprint.py) over the kit's printer, with overrides.
import Derived.Test.YtkfilmhconpnbaaPBitsSetsx0
import Derived.Test.YtkfilmhconpnbaaPBitsSetsx1
import Derived.Test.YtkfilmhconpnbaaPBitsSetsx2
import Derived.Test.YtkfilmhconpnbaaPBitsSetsx3
import Derived.Test.YtkfilmhconpnbaaPBitsSetsx4
namespace Go.Proofs.Ytkfilmhconpnbaa.PBitsSets
open Go.RowKit Go.Mine Go.Proofs.YtkfilmhconpnbaaW.PrintWords Go.Proofs.YtkfilmhconpnbaaW.PrintLast Go.Proofs.YtkfilmhconpnbaaW.PrintMore
attribute [local go_sem] max2_int min2_int max_two min_two max_three min_three max_four min_four   -- for this text's walks alone
set_option linter.unusedVariables false
set_option linter.unusedSimpArgs false

/-! ### mosaiclaw08_BitsSets: function 8 -/
mutual
def mosaiclaw08_BitsSets.j0 : Nat → Int → ByteArray → ByteArray → Bool → Option (Bool)
  | 0, _, _, _, _ => none
  | k + 1, x0, x1, x2, x26 => if x26 = true then ((mosaiclaw08_awake.f k).bind fun t121 => (some t121)) else ((bits_And.f x1 x2).bind fun bt122 => ((bits_Or.f x1 x2).bind fun bt124 => ((bits_Minus.f x1 x2).bind fun bt126 => ((bits_Or.f bt122.1 bt126.1).bind fun bt128 => ((bits_And.f bt126.1 x2).bind fun bt130 => (if (wrap64 ((wrap64 ((wrap64 ((wrap64 (bt122.2 + bt124.2)) + bt126.2)) + bt128.2)) + bt130.2)) = 0 then ((bits_Check.f k x0 bt122.1).bind fun t132 => (if t132 = true then ((bits_Check.f k x0 bt124.1).bind fun t133 => (if t133 = true then ((bits_Check.f k x0 bt126.1).bind fun t134 => (mosaiclaw08_BitsSets.j1 k x0 x1 x2 bt122.1 bt124.1 bt128.1 bt130.1 (!t134))) else (mosaiclaw08_BitsSets.j1 k x0 x1 x2 bt122.1 bt124.1 bt128.1 bt130.1 true))) else (mosaiclaw08_BitsSets.j1 k x0 x1 x2 bt122.1 bt124.1 bt128.1 bt130.1 true))) else (mosaiclaw08_BitsSets.j1 k x0 x1 x2 bt122.1 bt124.1 bt128.1 bt130.1 true)))))))
def mosaiclaw08_BitsSets.j1 : Nat → Int → ByteArray → ByteArray → ByteArray → ByteArray → ByteArray → ByteArray → Bool → Option (Bool)
  | 0, _, _, _, _, _, _, _, _ => none
  | k + 1, x0, x1, x2, x7, x9, x13, x15, x85 => if x85 = true then (some false) else ((mosaiclaw08_awake.f k).bind fun t135 => (if t135 = true then ((bits_Count.f k x7).bind fun t136 => ((bits_Count.f k x9).bind fun t137 => ((bits_Count.f k x1).bind fun t138 => ((bits_Count.f k x2).bind fun t139 => (if (wrap64 (t136 + t137)) = (wrap64 (t138 + t139)) then (if x13.toList = x1.toList then ((bits_Empty.f x0).bind fun t140 => (some (x15.toList == t140.toList))) else (some false)) else (some false)))))) else (some false)))
end
def mosaiclaw08_BitsSets.f (k : Nat) (a0 : Int) (a1 : ByteArray) (a2 : ByteArray) : Option (Bool) := (bits_Check.f k a0 a1).bind fun t119 => (if t119 = true then ((bits_Check.f k a0 a2).bind fun t120 => (mosaiclaw08_BitsSets.j0 k a0 a1 a2 (!t120))) else (mosaiclaw08_BitsSets.j0 k a0 a1 a2 true))
theorem mosaiclaw08_BitsSets.mono_l : ∀ k, (∀ y0 y1 y2 y3, LeO (mosaiclaw08_BitsSets.j0 k y0 y1 y2 y3) (mosaiclaw08_BitsSets.j0 (k + 1) y0 y1 y2 y3)) ∧ (∀ y0 y1 y2 y3 y4 y5 y6 y7, LeO (mosaiclaw08_BitsSets.j1 k y0 y1 y2 y3 y4 y5 y6 y7) (mosaiclaw08_BitsSets.j1 (k + 1) y0 y1 y2 y3 y4 y5 y6 y7))
  | 0 => ⟨fun _ _ _ _ r h => by simp [mosaiclaw08_BitsSets.j0] at h, fun _ _ _ _ _ _ _ _ r h => by simp [mosaiclaw08_BitsSets.j1] at h⟩
  | k + 1 => by
    obtain ⟨ih0, ih1⟩ := mosaiclaw08_BitsSets.mono_l k
    refine ⟨?_, ?_⟩
    · intro y0 y1 y2 y3
      unfold mosaiclaw08_BitsSets.j0
      repeat' first
      | (with_reducible exact ih0 _ _ _ _)
      | (with_reducible exact ih1 _ _ _ _ _ _ _ _)
      | (with_reducible exact bits_Check.mono _ _ _)
      | (with_reducible exact bits_Count.mono _ _)
      | (with_reducible exact mosaiclaw08_awake.mono _)
      | (with_reducible exact LeO.refl _)
      | (with_reducible exact LeO.none _)
      | (with_reducible refine LeO.ite ?_ ?_)
      | (with_reducible refine LeO.bind ?_ (fun _ => ?_))
      | exact ih0 _ _ _ _
      | exact ih1 _ _ _ _ _ _ _ _
      | exact bits_Check.mono _ _ _
      | exact bits_Count.mono _ _
      | exact mosaiclaw08_awake.mono _
      | exact LeO.none _
      | refine LeO.ite ?_ ?_
      | refine LeO.bind ?_ (fun _ => ?_)
    · intro y0 y1 y2 y3 y4 y5 y6 y7
      unfold mosaiclaw08_BitsSets.j1
      repeat' first
      | (with_reducible exact ih0 _ _ _ _)
      | (with_reducible exact ih1 _ _ _ _ _ _ _ _)
      | (with_reducible exact bits_Check.mono _ _ _)
      | (with_reducible exact bits_Count.mono _ _)
      | (with_reducible exact mosaiclaw08_awake.mono _)
      | (with_reducible exact LeO.refl _)
      | (with_reducible exact LeO.none _)
      | (with_reducible refine LeO.ite ?_ ?_)
      | (with_reducible refine LeO.bind ?_ (fun _ => ?_))
      | exact ih0 _ _ _ _
      | exact ih1 _ _ _ _ _ _ _ _
      | exact bits_Check.mono _ _ _
      | exact bits_Count.mono _ _
      | exact mosaiclaw08_awake.mono _
      | exact LeO.none _
      | refine LeO.ite ?_ ?_
      | refine LeO.bind ?_ (fun _ => ?_)
theorem mosaiclaw08_BitsSets.mono : ∀ a0 a1 a2 k, LeO (mosaiclaw08_BitsSets.f k a0 a1 a2) (mosaiclaw08_BitsSets.f (k + 1) a0 a1 a2) := by
  intro a0 a1 a2 k
  obtain ⟨ih0, ih1⟩ := mosaiclaw08_BitsSets.mono_l k
  unfold mosaiclaw08_BitsSets.f
  repeat' first
      | (with_reducible exact ih0 _ _ _ _)
      | (with_reducible exact ih1 _ _ _ _ _ _ _ _)
      | (with_reducible exact bits_Check.mono _ _ _)
      | (with_reducible exact bits_Count.mono _ _)
      | (with_reducible exact mosaiclaw08_awake.mono _)
      | (with_reducible exact LeO.refl _)
      | (with_reducible exact LeO.none _)
      | (with_reducible refine LeO.ite ?_ ?_)
      | (with_reducible refine LeO.bind ?_ (fun _ => ?_))
      | exact ih0 _ _ _ _
      | exact ih1 _ _ _ _ _ _ _ _
      | exact bits_Check.mono _ _ _
      | exact bits_Count.mono _ _
      | exact mosaiclaw08_awake.mono _
      | exact LeO.none _
      | refine LeO.ite ?_ ?_
      | refine LeO.bind ?_ (fun _ => ?_)
set_option maxHeartbeats 8000000 in
set_option maxRecDepth 100000 in
theorem mosaiclaw08_BitsSets.calls (k : Nat) (a0 : Int) (a1 : ByteArray) (a2 : ByteArray) (r : Bool) (w : World) (h : mosaiclaw08_BitsSets.f k a0 a1 a2 = some r) :
    Calls Try.prog 8 #[.int .i64 a0, .string a1, .string a2] w fun e w' => e = .returned (.bool r) ∧ Below w.heap.size w w' := by
  have HB := Aside0.mk (Below.refl w.heap.size w)
  have H : ((bits_Check.f k a0 a1).bind fun t119 => (if t119 = true then ((bits_Check.f k a0 a2).bind fun t120 => (mosaiclaw08_BitsSets.j0 k a0 a1 a2 (!t120))) else (mosaiclaw08_BitsSets.j0 k a0 a1 a2 true))) = some r := h
  clear h
  have HC4 := Aside0.mk H
  clear H
  go_enter Try.func8, Try.ntmps8
  go_upto_region 1 with (fail)
  go_cut [26] (fun v26 wc => ∃ (kq : Nat) (x26_3 : Bool), v26 = .bool x26_3 ∧ Aside0 (mosaiclaw08_BitsSets.j0 kq a0 a1 a2 x26_3 = some r) ∧ Aside0 (kq ≤ k) ∧ Aside0 (Below w.heap.size w wc))
  case first =>
    have H := HC4.out
    clear HC4
    replace H := Option.bind_eq_some_iff.mp H
    obtain ⟨t119, A50, H⟩ := H
    replace H : (if t119 = true then ((bits_Check.f k a0 a2).bind fun t120 => (mosaiclaw08_BitsSets.j0 k a0 a1 a2 (!t120))) else (mosaiclaw08_BitsSets.j0 k a0 a1 a2 true)) = some r := H
    have A5 := Aside0.mk A50
    clear A50
    by_cases c6 : t119 = true
    · subst c6
      have H1 : ((bits_Check.f k a0 a2).bind fun t120 => (mosaiclaw08_BitsSets.j0 k a0 a1 a2 (!t120))) = some r := by rw [if_pos rfl] at H; exact H
      clear H
      have H := H1
      clear H1
      replace H := Option.bind_eq_some_iff.mp H
      obtain ⟨t120, A70, H⟩ := H
      replace H : (mosaiclaw08_BitsSets.j0 k a0 a1 a2 (!t120)) = some r := H
      have A7 := Aside0.mk A70
      clear A70
      have H' := Aside0.mk H
      clear H
      go_wp2_with (first | ((with_reducible refine gate_callee (f := 20) rfl ?_); refine goesL_ (some 19) rfl rfl Try.func20 (by kernel_rfl) rfl #[.int .i64 a0, .string a1] rfl (by (try simp only [List.map_toArray, List.map_cons, List.map_nil]); first | done | rfl | (simp only [List.length_drop, List.length_take]; rfl)) ?_; (with_reducible refine (bits_Check.calls k a0 a1 true _ A5.out).mono ?_); rintro e w' ⟨rfl, ⟨nd, rfl⟩⟩; refine ⟨_, rfl, ?_⟩) | (go_at_call 20; (with_reducible refine (bits_Check.calls k a0 a2 t120 _ A7.out).mono ?_); rintro e w' ⟨rfl, ⟨nd, rfl⟩⟩))
      go_meet
      case rel => exact ⟨_, (!t120), (by first | rfl | (simp; done) | (simp [*]; done)), H', ⟨by first | omega | exact Nat.le_refl _⟩, ⟨by repeat (first | (with_reducible first | exact HB.out | apply below_alloc | apply pw_below_drewN | apply below_drew1) | exact HB.out)⟩⟩
    · replace c6 := Bool.eq_false_iff.mpr c6
      subst c6
      have H1 : (mosaiclaw08_BitsSets.j0 k a0 a1 a2 true) = some r := by rw [if_neg (show ¬ (false = true) by decide)] at H; exact H
      clear H
      have H := H1
      clear H1
      have H' := Aside0.mk H
      clear H
      go_wp2_with (first | ((with_reducible refine gate_callee (f := 20) rfl ?_); refine goesL_ (some 19) rfl rfl Try.func20 (by kernel_rfl) rfl #[.int .i64 a0, .string a1] rfl (by (try simp only [List.map_toArray, List.map_cons, List.map_nil]); first | done | rfl | (simp only [List.length_drop, List.length_take]; rfl)) ?_; (with_reducible refine (bits_Check.calls k a0 a1 false _ A5.out).mono ?_); rintro e w' ⟨rfl, ⟨nd, rfl⟩⟩; refine ⟨_, rfl, ?_⟩))
      go_meet
      case rel => exact ⟨_, (true), (by first | rfl | (simp; done) | (simp [*]; done)), H', ⟨by first | omega | exact Nat.le_refl _⟩, ⟨by repeat (first | (with_reducible first | exact HB.out | apply below_alloc | apply pw_below_drewN | apply below_drew1) | exact HB.out)⟩⟩
  case rest =>
    clear HC4
    try clear c2
    try clear p2
    try clear c6
    obtain ⟨kq, x26_3, rfl, HA, HJ3, HB⟩ := hcut
    cases kq with
    | zero => exact absurd HA.out (by simp [mosaiclaw08_BitsSets.j0])
    | succ kj3 =>
      have H := HA.out
      clear HA
      simp only [mosaiclaw08_BitsSets.j0] at H
      by_cases c8 : x26_3 = true
      · subst c8
        have H1 : ((mosaiclaw08_awake.f kj3).bind fun t121 => (some t121)) = some r := by rw [if_pos rfl] at H; exact H
        clear H
        have H := H1
        clear H1
        replace H := Option.bind_eq_some_iff.mp H
        obtain ⟨t121, A90, H⟩ := H
        replace H : (some t121) = some r := H
        have A9 := Aside0.mk A90
        clear A90
        obtain rfl := Option.some.inj H
        go_wp2_with (first | ((with_reducible refine gate_callee (f := 9) rfl ?_); refine goesL_ (some 27) rfl rfl Try.func9 (by kernel_rfl) rfl #[] rfl (by (try simp only [List.map_toArray, List.map_cons, List.map_nil]); first | done | rfl | (simp only [List.length_drop, List.length_take]; rfl)) ?_; (with_reducible refine (mosaiclaw08_awake.calls kj3  t121 _ A9.out).mono ?_); rintro e w10 ⟨rfl, hb⟩; refine ⟨_, rfl, ?_⟩; have n0_ := Aside0.mk (below_step (by repeat (first | (with_reducible first | exact HB.out | apply below_alloc | apply pw_below_drewN | apply below_drew1) | exact HB.out)) hb); clear HB; have HB := n0_; clear n0_; (try clear hb); (try clear hb2); (try clear hk); (try clear hi)))
        go_ret
        exact ⟨by first | rfl | (simp [errW_none, errW_some] <;> rfl) | (simp [*, errW_none, errW_some] <;> rfl), by repeat (first | (with_reducible first | exact HB.out | apply below_alloc | apply pw_below_drewN | apply below_drew1) | exact HB.out)⟩
      · replace c8 := Bool.eq_false_iff.mpr c8
        subst c8
        have H1 : ((bits_And.f a1 a2).bind fun bt122 => ((bits_Or.f a1 a2).bind fun bt124 => ((bits_Minus.f a1 a2).bind fun bt126 => ((bits_Or.f bt122.1 bt126.1).bind fun bt128 => ((bits_And.f bt126.1 a2).bind fun bt130 => (if (wrap64 ((wrap64 ((wrap64 ((wrap64 (bt122.2 + bt124.2)) + bt126.2)) + bt128.2)) + bt130.2)) = 0 then ((bits_Check.f kj3 a0 bt122.1).bind fun t132 => (if t132 = true then ((bits_Check.f kj3 a0 bt124.1).bind fun t133 => (if t133 = true then ((bits_Check.f kj3 a0 bt126.1).bind fun t134 => (mosaiclaw08_BitsSets.j1 kj3 a0 a1 a2 bt122.1 bt124.1 bt128.1 bt130.1 (!t134))) else (mosaiclaw08_BitsSets.j1 kj3 a0 a1 a2 bt122.1 bt124.1 bt128.1 bt130.1 true))) else (mosaiclaw08_BitsSets.j1 kj3 a0 a1 a2 bt122.1 bt124.1 bt128.1 bt130.1 true))) else (mosaiclaw08_BitsSets.j1 kj3 a0 a1 a2 bt122.1 bt124.1 bt128.1 bt130.1 true))))))) = some r := by rw [if_neg (show ¬ (false = true) by decide)] at H; exact H
        clear H
        have H := H1
        clear H1
        replace H := Option.bind_eq_some_iff.mp H
        obtain ⟨⟨t122, t123⟩, A110, H⟩ := H
        replace H : ((bits_Or.f a1 a2).bind fun bt124 => ((bits_Minus.f a1 a2).bind fun bt126 => ((bits_Or.f t122 bt126.1).bind fun bt128 => ((bits_And.f bt126.1 a2).bind fun bt130 => (if (wrap64 ((wrap64 ((wrap64 ((wrap64 (t123 + bt124.2)) + bt126.2)) + bt128.2)) + bt130.2)) = 0 then ((bits_Check.f kj3 a0 t122).bind fun t132 => (if t132 = true then ((bits_Check.f kj3 a0 bt124.1).bind fun t133 => (if t133 = true then ((bits_Check.f kj3 a0 bt126.1).bind fun t134 => (mosaiclaw08_BitsSets.j1 kj3 a0 a1 a2 t122 bt124.1 bt128.1 bt130.1 (!t134))) else (mosaiclaw08_BitsSets.j1 kj3 a0 a1 a2 t122 bt124.1 bt128.1 bt130.1 true))) else (mosaiclaw08_BitsSets.j1 kj3 a0 a1 a2 t122 bt124.1 bt128.1 bt130.1 true))) else (mosaiclaw08_BitsSets.j1 kj3 a0 a1 a2 t122 bt124.1 bt128.1 bt130.1 true)))))) = some r := H
        have A11 := Aside0.mk A110
        clear A110
        replace H := Option.bind_eq_some_iff.mp H
        obtain ⟨⟨t124, t125⟩, A120, H⟩ := H
        replace H : ((bits_Minus.f a1 a2).bind fun bt126 => ((bits_Or.f t122 bt126.1).bind fun bt128 => ((bits_And.f bt126.1 a2).bind fun bt130 => (if (wrap64 ((wrap64 ((wrap64 ((wrap64 (t123 + t125)) + bt126.2)) + bt128.2)) + bt130.2)) = 0 then ((bits_Check.f kj3 a0 t122).bind fun t132 => (if t132 = true then ((bits_Check.f kj3 a0 t124).bind fun t133 => (if t133 = true then ((bits_Check.f kj3 a0 bt126.1).bind fun t134 => (mosaiclaw08_BitsSets.j1 kj3 a0 a1 a2 t122 t124 bt128.1 bt130.1 (!t134))) else (mosaiclaw08_BitsSets.j1 kj3 a0 a1 a2 t122 t124 bt128.1 bt130.1 true))) else (mosaiclaw08_BitsSets.j1 kj3 a0 a1 a2 t122 t124 bt128.1 bt130.1 true))) else (mosaiclaw08_BitsSets.j1 kj3 a0 a1 a2 t122 t124 bt128.1 bt130.1 true))))) = some r := H
        have A12 := Aside0.mk A120
        clear A120
        replace H := Option.bind_eq_some_iff.mp H
        obtain ⟨⟨t126, t127⟩, A130, H⟩ := H
        replace H : ((bits_Or.f t122 t126).bind fun bt128 => ((bits_And.f t126 a2).bind fun bt130 => (if (wrap64 ((wrap64 ((wrap64 ((wrap64 (t123 + t125)) + t127)) + bt128.2)) + bt130.2)) = 0 then ((bits_Check.f kj3 a0 t122).bind fun t132 => (if t132 = true then ((bits_Check.f kj3 a0 t124).bind fun t133 => (if t133 = true then ((bits_Check.f kj3 a0 t126).bind fun t134 => (mosaiclaw08_BitsSets.j1 kj3 a0 a1 a2 t122 t124 bt128.1 bt130.1 (!t134))) else (mosaiclaw08_BitsSets.j1 kj3 a0 a1 a2 t122 t124 bt128.1 bt130.1 true))) else (mosaiclaw08_BitsSets.j1 kj3 a0 a1 a2 t122 t124 bt128.1 bt130.1 true))) else (mosaiclaw08_BitsSets.j1 kj3 a0 a1 a2 t122 t124 bt128.1 bt130.1 true)))) = some r := H
        have A13 := Aside0.mk A130
        clear A130
        replace H := Option.bind_eq_some_iff.mp H
        obtain ⟨⟨t128, t129⟩, A140, H⟩ := H
        replace H : ((bits_And.f t126 a2).bind fun bt130 => (if (wrap64 ((wrap64 ((wrap64 ((wrap64 (t123 + t125)) + t127)) + t129)) + bt130.2)) = 0 then ((bits_Check.f kj3 a0 t122).bind fun t132 => (if t132 = true then ((bits_Check.f kj3 a0 t124).bind fun t133 => (if t133 = true then ((bits_Check.f kj3 a0 t126).bind fun t134 => (mosaiclaw08_BitsSets.j1 kj3 a0 a1 a2 t122 t124 t128 bt130.1 (!t134))) else (mosaiclaw08_BitsSets.j1 kj3 a0 a1 a2 t122 t124 t128 bt130.1 true))) else (mosaiclaw08_BitsSets.j1 kj3 a0 a1 a2 t122 t124 t128 bt130.1 true))) else (mosaiclaw08_BitsSets.j1 kj3 a0 a1 a2 t122 t124 t128 bt130.1 true))) = some r := H
        have A14 := Aside0.mk A140
        clear A140
        replace H := Option.bind_eq_some_iff.mp H
        obtain ⟨⟨t130, t131⟩, A150, H⟩ := H
        replace H : (if (wrap64 ((wrap64 ((wrap64 ((wrap64 (t123 + t125)) + t127)) + t129)) + t131)) = 0 then ((bits_Check.f kj3 a0 t122).bind fun t132 => (if t132 = true then ((bits_Check.f kj3 a0 t124).bind fun t133 => (if t133 = true then ((bits_Check.f kj3 a0 t126).bind fun t134 => (mosaiclaw08_BitsSets.j1 kj3 a0 a1 a2 t122 t124 t128 t130 (!t134))) else (mosaiclaw08_BitsSets.j1 kj3 a0 a1 a2 t122 t124 t128 t130 true))) else (mosaiclaw08_BitsSets.j1 kj3 a0 a1 a2 t122 t124 t128 t130 true))) else (mosaiclaw08_BitsSets.j1 kj3 a0 a1 a2 t122 t124 t128 t130 true)) = some r := H
        have A15 := Aside0.mk A150
        clear A150
        have HC16 := Aside0.mk H
        clear H
        go_upto_region 8 with (first | ((with_reducible refine gate_callee (f := 31) rfl ?_); refine goesL_ (some 31) rfl rfl Try.func31 (by kernel_rfl) rfl #[.string a1, .string a2] rfl (by (try simp only [List.map_toArray, List.map_cons, List.map_nil]); first | done | rfl | (simp only [List.length_drop, List.length_take]; rfl)) ?_; (with_reducible refine (bits_And.calls a1 a2 t122 t123 _ A11.out).mono ?_); rintro e w17 ⟨rfl, hb⟩; refine ⟨_, rfl, ?_⟩; have n0_ := Aside0.mk (below_step (by repeat (first | (with_reducible first | exact HB.out | apply below_alloc | apply pw_below_drewN | apply below_drew1) | exact HB.out)) hb); clear HB; have HB := n0_; clear n0_; (try clear hb); (try clear hb2); (try clear hk); (try clear hi)) | ((with_reducible refine gate_callee (f := 32) rfl ?_); refine goesL_ (some 37) rfl rfl Try.func32 (by kernel_rfl) rfl #[.string a1, .string a2] rfl (by (try simp only [List.map_toArray, List.map_cons, List.map_nil]); first | done | rfl | (simp only [List.length_drop, List.length_take]; rfl)) ?_; (with_reducible refine (bits_Or.calls a1 a2 t124 t125 _ A12.out).mono ?_); rintro e w18 ⟨rfl, hb⟩; refine ⟨_, rfl, ?_⟩; have n0_ := Aside0.mk (below_step (by repeat (first | (with_reducible first | exact HB.out | apply below_alloc | apply pw_below_drewN | apply below_drew1) | exact HB.out)) hb); clear HB; have HB := n0_; clear n0_; (try clear hb); (try clear hb2); (try clear hk); (try clear hi)) | ((with_reducible refine gate_callee (f := 33) rfl ?_); refine goesL_ (some 43) rfl rfl Try.func33 (by kernel_rfl) rfl #[.string a1, .string a2] rfl (by (try simp only [List.map_toArray, List.map_cons, List.map_nil]); first | done | rfl | (simp only [List.length_drop, List.length_take]; rfl)) ?_; (with_reducible refine (bits_Minus.calls a1 a2 t126 t127 _ A13.out).mono ?_); rintro e w19 ⟨rfl, hb⟩; refine ⟨_, rfl, ?_⟩; have n0_ := Aside0.mk (below_step (by repeat (first | (with_reducible first | exact HB.out | apply below_alloc | apply pw_below_drewN | apply below_drew1) | exact HB.out)) hb); clear HB; have HB := n0_; clear n0_; (try clear hb); (try clear hb2); (try clear hk); (try clear hi)) | ((with_reducible refine gate_callee (f := 32) rfl ?_); refine goesL_ (some 49) rfl rfl Try.func32 (by kernel_rfl) rfl #[.string t122, .string t126] rfl (by (try simp only [List.map_toArray, List.map_cons, List.map_nil]); first | done | rfl | (simp only [List.length_drop, List.length_take]; rfl)) ?_; (with_reducible refine (bits_Or.calls t122 t126 t128 t129 _ A14.out).mono ?_); rintro e w20 ⟨rfl, hb⟩; refine ⟨_, rfl, ?_⟩; have n0_ := Aside0.mk (below_step (by repeat (first | (with_reducible first | exact HB.out | apply below_alloc | apply pw_below_drewN | apply below_drew1) | exact HB.out)) hb); clear HB; have HB := n0_; clear n0_; (try clear hb); (try clear hb2); (try clear hk); (try clear hi)) | ((with_reducible refine gate_callee (f := 31) rfl ?_); refine goesL_ (some 55) rfl rfl Try.func31 (by kernel_rfl) rfl #[.string t126, .string a2] rfl (by (try simp only [List.map_toArray, List.map_cons, List.map_nil]); first | done | rfl | (simp only [List.length_drop, List.length_take]; rfl)) ?_; (with_reducible refine (bits_And.calls t126 a2 t130 t131 _ A15.out).mono ?_); rintro e w21 ⟨rfl, hb⟩; refine ⟨_, rfl, ?_⟩; have n0_ := Aside0.mk (below_step (by repeat (first | (with_reducible first | exact HB.out | apply below_alloc | apply pw_below_drewN | apply below_drew1) | exact HB.out)) hb); clear HB; have HB := n0_; clear n0_; (try clear hb); (try clear hb2); (try clear hk); (try clear hi)))
        (try simp only [Act.put, List.setIfInBounds_toArray, List.set_cons_zero, List.set_cons_succ])
        go_cut [85] (fun v85 wc => ∃ (kq : Nat) (x85_15 : Bool), v85 = .bool x85_15 ∧ Aside0 (mosaiclaw08_BitsSets.j1 kq a0 a1 a2 t122 t124 t128 t130 x85_15 = some r) ∧ Aside0 (kq ≤ kj3) ∧ Aside0 (Below w.heap.size w wc))
        case first =>
          have H := HC16.out
          clear HC16
          by_cases c22 : (wrap64 ((wrap64 ((wrap64 ((wrap64 (t123 + t125)) + t127)) + t129)) + t131)) = 0
          · rw [if_pos c22] at H
            have c22b0 : ((wrap64 ((wrap64 ((wrap64 ((wrap64 (t123 + t125)) + t127)) + t129)) + t131)) == 0) = true := beq_iff_eq.mpr c22
            have c22b1 : ((wrap64 ((wrap64 ((wrap64 ((wrap64 (t123 + t125)) + t127)) + t129)) + t131)) != 0) = false := bne_eq_false_iff_eq.mpr c22
            clear c22
            (first | rw [c22b0] | (simp only [i64_w, i32_w]; rw [c22b0]) | skip)
            replace H := Option.bind_eq_some_iff.mp H
            obtain ⟨t132, A230, H⟩ := H
            replace H : (if t132 = true then ((bits_Check.f kj3 a0 t124).bind fun t133 => (if t133 = true then ((bits_Check.f kj3 a0 t126).bind fun t134 => (mosaiclaw08_BitsSets.j1 kj3 a0 a1 a2 t122 t124 t128 t130 (!t134))) else (mosaiclaw08_BitsSets.j1 kj3 a0 a1 a2 t122 t124 t128 t130 true))) else (mosaiclaw08_BitsSets.j1 kj3 a0 a1 a2 t122 t124 t128 t130 true)) = some r := H
            have A23 := Aside0.mk A230
            clear A230
            by_cases c24 : t132 = true
            · subst c24
              have H1 : ((bits_Check.f kj3 a0 t124).bind fun t133 => (if t133 = true then ((bits_Check.f kj3 a0 t126).bind fun t134 => (mosaiclaw08_BitsSets.j1 kj3 a0 a1 a2 t122 t124 t128 t130 (!t134))) else (mosaiclaw08_BitsSets.j1 kj3 a0 a1 a2 t122 t124 t128 t130 true))) = some r := by rw [if_pos rfl] at H; exact H
              clear H
              have H := H1
              clear H1
              replace H := Option.bind_eq_some_iff.mp H
              obtain ⟨t133, A250, H⟩ := H
              replace H : (if t133 = true then ((bits_Check.f kj3 a0 t126).bind fun t134 => (mosaiclaw08_BitsSets.j1 kj3 a0 a1 a2 t122 t124 t128 t130 (!t134))) else (mosaiclaw08_BitsSets.j1 kj3 a0 a1 a2 t122 t124 t128 t130 true)) = some r := H
              have A25 := Aside0.mk A250
              clear A250
              by_cases c26 : t133 = true
              · subst c26
                have H1 : ((bits_Check.f kj3 a0 t126).bind fun t134 => (mosaiclaw08_BitsSets.j1 kj3 a0 a1 a2 t122 t124 t128 t130 (!t134))) = some r := by rw [if_pos rfl] at H; exact H
                clear H
                have H := H1
                clear H1
                replace H := Option.bind_eq_some_iff.mp H
                obtain ⟨t134, A270, H⟩ := H
                replace H : (mosaiclaw08_BitsSets.j1 kj3 a0 a1 a2 t122 t124 t128 t130 (!t134)) = some r := H
                have A27 := Aside0.mk A270
                clear A270
                have H' := Aside0.mk H
                clear H
                go_wp2_with (first | (go_at_call 20; (with_reducible refine (bits_Check.calls kj3 a0 t122 true _ A23.out).mono ?_); rintro e w' ⟨rfl, ⟨nd, rfl⟩⟩) | (go_at_call 20; (with_reducible refine (bits_Check.calls kj3 a0 t124 true _ A25.out).mono ?_); rintro e w' ⟨rfl, ⟨nd, rfl⟩⟩) | (go_at_call 20; (with_reducible refine (bits_Check.calls kj3 a0 t126 t134 _ A27.out).mono ?_); rintro e w' ⟨rfl, ⟨nd, rfl⟩⟩))
                go_meet
                case rel => exact ⟨_, (!t134), (by first | rfl | (simp; done) | (simp [*]; done)), H', ⟨by have := HJ3.out; first | omega | exact Nat.le_refl _⟩, ⟨by repeat (first | (with_reducible first | exact HB.out | apply below_alloc | apply pw_below_drewN | apply below_drew1) | exact HB.out)⟩⟩
              · replace c26 := Bool.eq_false_iff.mpr c26
                subst c26
                have H1 : (mosaiclaw08_BitsSets.j1 kj3 a0 a1 a2 t122 t124 t128 t130 true) = some r := by rw [if_neg (show ¬ (false = true) by decide)] at H; exact H
                clear H
                have H := H1
                clear H1
                have H' := Aside0.mk H
                clear H
                go_wp2_with (first | (go_at_call 20; (with_reducible refine (bits_Check.calls kj3 a0 t122 true _ A23.out).mono ?_); rintro e w' ⟨rfl, ⟨nd, rfl⟩⟩) | (go_at_call 20; (with_reducible refine (bits_Check.calls kj3 a0 t124 false _ A25.out).mono ?_); rintro e w' ⟨rfl, ⟨nd, rfl⟩⟩))
                go_meet
                case rel => exact ⟨_, (true), (by first | rfl | (simp; done) | (simp [*]; done)), H', ⟨by have := HJ3.out; first | omega | exact Nat.le_refl _⟩, ⟨by repeat (first | (with_reducible first | exact HB.out | apply below_alloc | apply pw_below_drewN | apply below_drew1) | exact HB.out)⟩⟩
            · replace c24 := Bool.eq_false_iff.mpr c24
              subst c24
              have H1 : (mosaiclaw08_BitsSets.j1 kj3 a0 a1 a2 t122 t124 t128 t130 true) = some r := by rw [if_neg (show ¬ (false = true) by decide)] at H; exact H
              clear H
              have H := H1
              clear H1
              have H' := Aside0.mk H
              clear H
              go_wp2_with (first | (go_at_call 20; (with_reducible refine (bits_Check.calls kj3 a0 t122 false _ A23.out).mono ?_); rintro e w' ⟨rfl, ⟨nd, rfl⟩⟩))
              go_meet
              case rel => exact ⟨_, (true), (by first | rfl | (simp; done) | (simp [*]; done)), H', ⟨by have := HJ3.out; first | omega | exact Nat.le_refl _⟩, ⟨by repeat (first | (with_reducible first | exact HB.out | apply below_alloc | apply pw_below_drewN | apply below_drew1) | exact HB.out)⟩⟩
          · rw [if_neg c22] at H
            have c22b0 : ((wrap64 ((wrap64 ((wrap64 ((wrap64 (t123 + t125)) + t127)) + t129)) + t131)) == 0) = false := beq_eq_false_iff_ne.mpr c22
            have c22b1 : ((wrap64 ((wrap64 ((wrap64 ((wrap64 (t123 + t125)) + t127)) + t129)) + t131)) != 0) = true := bne_iff_ne.mpr c22
            (first | rw [c22b0] | (simp only [i64_w, i32_w]; rw [c22b0]) | skip)
            have H' := Aside0.mk H
            clear H
            go_wp2
            go_meet
            case rel => exact ⟨_, (true), (by first | rfl | (simp; done) | (simp [*]; done)), H', ⟨by have := HJ3.out; first | omega | exact Nat.le_refl _⟩, ⟨by repeat (first | (with_reducible first | exact HB.out | apply below_alloc | apply pw_below_drewN | apply below_drew1) | exact HB.out)⟩⟩
        case rest =>
          clear HC16
          try clear c2
          try clear p2
          try clear c3
          try clear c6
          try clear p6
          try clear c8
          try clear c9
          try clear c20
          try clear c22
          try clear c22b0
          try clear c22b1
          try clear c24
          try clear c26
          try clear p2
          obtain ⟨kq, x85_15, rfl, HA, HJ15, HB⟩ := hcut
          cases kq with
          | zero => exact absurd HA.out (by simp [mosaiclaw08_BitsSets.j1])
          | succ kj15 =>
            have H := HA.out
            clear HA
            simp only [mosaiclaw08_BitsSets.j1] at H
            by_cases c28 : x85_15 = true
            · subst c28
              have H1 : (some false) = some r := by rw [if_pos rfl] at H; exact H
              clear H
              have H := H1
              clear H1
              obtain rfl := Option.some.inj H
              go_wp2
              go_ret
              exact ⟨by first | rfl | (simp [errW_none, errW_some] <;> rfl) | (simp [*, errW_none, errW_some] <;> rfl), by repeat (first | (with_reducible first | exact HB.out | apply below_alloc | apply pw_below_drewN | apply below_drew1) | exact HB.out)⟩
            · replace c28 := Bool.eq_false_iff.mpr c28
              subst c28
              have H1 : ((mosaiclaw08_awake.f kj15).bind fun t135 => (if t135 = true then ((bits_Count.f kj15 t122).bind fun t136 => ((bits_Count.f kj15 t124).bind fun t137 => ((bits_Count.f kj15 a1).bind fun t138 => ((bits_Count.f kj15 a2).bind fun t139 => (if (wrap64 (t136 + t137)) = (wrap64 (t138 + t139)) then (if t128.toList = a1.toList then ((bits_Empty.f a0).bind fun t140 => (some (t130.toList == t140.toList))) else (some false)) else (some false)))))) else (some false))) = some r := by rw [if_neg (show ¬ (false = true) by decide)] at H; exact H
              clear H
              have H := H1
              clear H1
              replace H := Option.bind_eq_some_iff.mp H
              obtain ⟨t135, A290, H⟩ := H
              replace H : (if t135 = true then ((bits_Count.f kj15 t122).bind fun t136 => ((bits_Count.f kj15 t124).bind fun t137 => ((bits_Count.f kj15 a1).bind fun t138 => ((bits_Count.f kj15 a2).bind fun t139 => (if (wrap64 (t136 + t137)) = (wrap64 (t138 + t139)) then (if t128.toList = a1.toList then ((bits_Empty.f a0).bind fun t140 => (some (t130.toList == t140.toList))) else (some false)) else (some false)))))) else (some false)) = some r := H
              have A29 := Aside0.mk A290
              clear A290
              by_cases c30 : t135 = true
              · subst c30
                have H1 : ((bits_Count.f kj15 t122).bind fun t136 => ((bits_Count.f kj15 t124).bind fun t137 => ((bits_Count.f kj15 a1).bind fun t138 => ((bits_Count.f kj15 a2).bind fun t139 => (if (wrap64 (t136 + t137)) = (wrap64 (t138 + t139)) then (if t128.toList = a1.toList then ((bits_Empty.f a0).bind fun t140 => (some (t130.toList == t140.toList))) else (some false)) else (some false)))))) = some r := by rw [if_pos rfl] at H; exact H
                clear H
                have H := H1
                clear H1
                replace H := Option.bind_eq_some_iff.mp H
                obtain ⟨t136, A310, H⟩ := H
                replace H : ((bits_Count.f kj15 t124).bind fun t137 => ((bits_Count.f kj15 a1).bind fun t138 => ((bits_Count.f kj15 a2).bind fun t139 => (if (wrap64 (t136 + t137)) = (wrap64 (t138 + t139)) then (if t128.toList = a1.toList then ((bits_Empty.f a0).bind fun t140 => (some (t130.toList == t140.toList))) else (some false)) else (some false))))) = some r := H
                have A31 := Aside0.mk A310
                clear A310
                replace H := Option.bind_eq_some_iff.mp H
                obtain ⟨t137, A320, H⟩ := H
                replace H : ((bits_Count.f kj15 a1).bind fun t138 => ((bits_Count.f kj15 a2).bind fun t139 => (if (wrap64 (t136 + t137)) = (wrap64 (t138 + t139)) then (if t128.toList = a1.toList then ((bits_Empty.f a0).bind fun t140 => (some (t130.toList == t140.toList))) else (some false)) else (some false)))) = some r := H
                have A32 := Aside0.mk A320
                clear A320
                replace H := Option.bind_eq_some_iff.mp H
                obtain ⟨t138, A330, H⟩ := H
                replace H : ((bits_Count.f kj15 a2).bind fun t139 => (if (wrap64 (t136 + t137)) = (wrap64 (t138 + t139)) then (if t128.toList = a1.toList then ((bits_Empty.f a0).bind fun t140 => (some (t130.toList == t140.toList))) else (some false)) else (some false))) = some r := H
                have A33 := Aside0.mk A330
                clear A330
                replace H := Option.bind_eq_some_iff.mp H
                obtain ⟨t139, A340, H⟩ := H
                replace H : (if (wrap64 (t136 + t137)) = (wrap64 (t138 + t139)) then (if t128.toList = a1.toList then ((bits_Empty.f a0).bind fun t140 => (some (t130.toList == t140.toList))) else (some false)) else (some false)) = some r := H
                have A34 := Aside0.mk A340
                clear A340
                by_cases c35 : (wrap64 (t136 + t137)) = (wrap64 (t138 + t139))
                · rw [if_pos c35] at H
                  have c35b0 : ((wrap64 (t136 + t137)) == (wrap64 (t138 + t139))) = true := beq_iff_eq.mpr c35
                  have c35b1 : ((wrap64 (t136 + t137)) != (wrap64 (t138 + t139))) = false := bne_eq_false_iff_eq.mpr c35
                  clear c35
                  by_cases c36 : t128.toList = a1.toList
                  · rw [if_pos c36] at H
                    have c36b0 : (t128.toList == a1.toList) = true := beq_iff_eq.mpr c36
                    have c36b1 : (t128.toList != a1.toList) = false := bne_eq_false_iff_eq.mpr c36
                    clear c36
                    replace H := Option.bind_eq_some_iff.mp H
                    obtain ⟨t140, A370, H⟩ := H
                    replace H : (some (t130.toList == t140.toList)) = some r := H
                    have A37 := Aside0.mk A370
                    clear A370
                    obtain rfl := Option.some.inj H
                    go_wp2_with (first | ((with_reducible refine gate_callee (f := 9) rfl ?_); refine goesL_ (some 86) rfl rfl Try.func9 (by kernel_rfl) rfl #[] rfl (by (try simp only [List.map_toArray, List.map_cons, List.map_nil]); first | done | rfl | (simp only [List.length_drop, List.length_take]; rfl)) ?_; (with_reducible refine (mosaiclaw08_awake.calls kj15  true _ A29.out).mono ?_); rintro e w38 ⟨rfl, hb⟩; refine ⟨_, rfl, ?_⟩; have n0_ := Aside0.mk (below_step (by repeat (first | (with_reducible first | exact HB.out | apply below_alloc | apply pw_below_drewN | apply below_drew1) | exact HB.out)) hb); clear HB; have HB := n0_; clear n0_; (try clear hb); (try clear hb2); (try clear hk); (try clear hi)) | (go_at_call 10; (with_reducible refine (bits_Count.calls kj15 t122 t136 _ A31.out).mono ?_); rintro e w39 ⟨rfl, hb⟩; have n0_ := Aside0.mk (below_step (by repeat (first | (with_reducible first | exact HB.out | apply below_alloc | apply pw_below_drewN | apply below_drew1) | exact HB.out)) hb); clear HB; have HB := n0_; clear n0_; (try clear hb); (try clear hb2); (try clear hk); (try clear hi)) | (go_at_call 10; (with_reducible refine (bits_Count.calls kj15 t124 t137 _ A32.out).mono ?_); rintro e w40 ⟨rfl, hb⟩; have n0_ := Aside0.mk (below_step (by repeat (first | (with_reducible first | exact HB.out | apply below_alloc | apply pw_below_drewN | apply below_drew1) | exact HB.out)) hb); clear HB; have HB := n0_; clear n0_; (try clear hb); (try clear hb2); (try clear hk); (try clear hi)) | (go_at_call 10; (with_reducible refine (bits_Count.calls kj15 a1 t138 _ A33.out).mono ?_); rintro e w41 ⟨rfl, hb⟩; have n0_ := Aside0.mk (below_step (by repeat (first | (with_reducible first | exact HB.out | apply below_alloc | apply pw_below_drewN | apply below_drew1) | exact HB.out)) hb); clear HB; have HB := n0_; clear n0_; (try clear hb); (try clear hb2); (try clear hk); (try clear hi)) | (go_at_call 10; (with_reducible refine (bits_Count.calls kj15 a2 t139 _ A34.out).mono ?_); rintro e w42 ⟨rfl, hb⟩; have n0_ := Aside0.mk (below_step (by repeat (first | (with_reducible first | exact HB.out | apply below_alloc | apply pw_below_drewN | apply below_drew1) | exact HB.out)) hb); clear HB; have HB := n0_; clear n0_; (try clear hb); (try clear hb2); (try clear hk); (try clear hi)) | (go_at_call 22; (with_reducible refine (bits_Empty.calls a0 t140 _ A37.out).mono ?_); rintro e w43 ⟨rfl, hb⟩; have n0_ := Aside0.mk (below_step (by repeat (first | (with_reducible first | exact HB.out | apply below_alloc | apply pw_below_drewN | apply below_drew1) | exact HB.out)) hb); clear HB; have HB := n0_; clear n0_; (try clear hb); (try clear hb2); (try clear hk); (try clear hi)))
                    go_ret
                    exact ⟨by first | rfl | (simp [errW_none, errW_some] <;> rfl) | (simp [*, errW_none, errW_some] <;> rfl), by repeat (first | (with_reducible first | exact HB.out | apply below_alloc | apply pw_below_drewN | apply below_drew1) | exact HB.out)⟩
                  · rw [if_neg c36] at H
                    have c36b0 : (t128.toList == a1.toList) = false := beq_eq_false_iff_ne.mpr c36
                    have c36b1 : (t128.toList != a1.toList) = true := bne_iff_ne.mpr c36
                    obtain rfl := Option.some.inj H
                    go_wp2_with (first | ((with_reducible refine gate_callee (f := 9) rfl ?_); refine goesL_ (some 86) rfl rfl Try.func9 (by kernel_rfl) rfl #[] rfl (by (try simp only [List.map_toArray, List.map_cons, List.map_nil]); first | done | rfl | (simp only [List.length_drop, List.length_take]; rfl)) ?_; (with_reducible refine (mosaiclaw08_awake.calls kj15  true _ A29.out).mono ?_); rintro e w44 ⟨rfl, hb⟩; refine ⟨_, rfl, ?_⟩; have n0_ := Aside0.mk (below_step (by repeat (first | (with_reducible first | exact HB.out | apply below_alloc | apply pw_below_drewN | apply below_drew1) | exact HB.out)) hb); clear HB; have HB := n0_; clear n0_; (try clear hb); (try clear hb2); (try clear hk); (try clear hi)) | (go_at_call 10; (with_reducible refine (bits_Count.calls kj15 t122 t136 _ A31.out).mono ?_); rintro e w45 ⟨rfl, hb⟩; have n0_ := Aside0.mk (below_step (by repeat (first | (with_reducible first | exact HB.out | apply below_alloc | apply pw_below_drewN | apply below_drew1) | exact HB.out)) hb); clear HB; have HB := n0_; clear n0_; (try clear hb); (try clear hb2); (try clear hk); (try clear hi)) | (go_at_call 10; (with_reducible refine (bits_Count.calls kj15 t124 t137 _ A32.out).mono ?_); rintro e w46 ⟨rfl, hb⟩; have n0_ := Aside0.mk (below_step (by repeat (first | (with_reducible first | exact HB.out | apply below_alloc | apply pw_below_drewN | apply below_drew1) | exact HB.out)) hb); clear HB; have HB := n0_; clear n0_; (try clear hb); (try clear hb2); (try clear hk); (try clear hi)) | (go_at_call 10; (with_reducible refine (bits_Count.calls kj15 a1 t138 _ A33.out).mono ?_); rintro e w47 ⟨rfl, hb⟩; have n0_ := Aside0.mk (below_step (by repeat (first | (with_reducible first | exact HB.out | apply below_alloc | apply pw_below_drewN | apply below_drew1) | exact HB.out)) hb); clear HB; have HB := n0_; clear n0_; (try clear hb); (try clear hb2); (try clear hk); (try clear hi)) | (go_at_call 10; (with_reducible refine (bits_Count.calls kj15 a2 t139 _ A34.out).mono ?_); rintro e w48 ⟨rfl, hb⟩; have n0_ := Aside0.mk (below_step (by repeat (first | (with_reducible first | exact HB.out | apply below_alloc | apply pw_below_drewN | apply below_drew1) | exact HB.out)) hb); clear HB; have HB := n0_; clear n0_; (try clear hb); (try clear hb2); (try clear hk); (try clear hi)))
                    go_ret
                    exact ⟨by first | rfl | (simp [errW_none, errW_some] <;> rfl) | (simp [*, errW_none, errW_some] <;> rfl), by repeat (first | (with_reducible first | exact HB.out | apply below_alloc | apply pw_below_drewN | apply below_drew1) | exact HB.out)⟩
                · rw [if_neg c35] at H
                  have c35b0 : ((wrap64 (t136 + t137)) == (wrap64 (t138 + t139))) = false := beq_eq_false_iff_ne.mpr c35
                  have c35b1 : ((wrap64 (t136 + t137)) != (wrap64 (t138 + t139))) = true := bne_iff_ne.mpr c35
                  obtain rfl := Option.some.inj H
                  go_wp2_with (first | ((with_reducible refine gate_callee (f := 9) rfl ?_); refine goesL_ (some 86) rfl rfl Try.func9 (by kernel_rfl) rfl #[] rfl (by (try simp only [List.map_toArray, List.map_cons, List.map_nil]); first | done | rfl | (simp only [List.length_drop, List.length_take]; rfl)) ?_; (with_reducible refine (mosaiclaw08_awake.calls kj15  true _ A29.out).mono ?_); rintro e w49 ⟨rfl, hb⟩; refine ⟨_, rfl, ?_⟩; have n0_ := Aside0.mk (below_step (by repeat (first | (with_reducible first | exact HB.out | apply below_alloc | apply pw_below_drewN | apply below_drew1) | exact HB.out)) hb); clear HB; have HB := n0_; clear n0_; (try clear hb); (try clear hb2); (try clear hk); (try clear hi)) | (go_at_call 10; (with_reducible refine (bits_Count.calls kj15 t122 t136 _ A31.out).mono ?_); rintro e w50 ⟨rfl, hb⟩; have n0_ := Aside0.mk (below_step (by repeat (first | (with_reducible first | exact HB.out | apply below_alloc | apply pw_below_drewN | apply below_drew1) | exact HB.out)) hb); clear HB; have HB := n0_; clear n0_; (try clear hb); (try clear hb2); (try clear hk); (try clear hi)) | (go_at_call 10; (with_reducible refine (bits_Count.calls kj15 t124 t137 _ A32.out).mono ?_); rintro e w51 ⟨rfl, hb⟩; have n0_ := Aside0.mk (below_step (by repeat (first | (with_reducible first | exact HB.out | apply below_alloc | apply pw_below_drewN | apply below_drew1) | exact HB.out)) hb); clear HB; have HB := n0_; clear n0_; (try clear hb); (try clear hb2); (try clear hk); (try clear hi)) | (go_at_call 10; (with_reducible refine (bits_Count.calls kj15 a1 t138 _ A33.out).mono ?_); rintro e w52 ⟨rfl, hb⟩; have n0_ := Aside0.mk (below_step (by repeat (first | (with_reducible first | exact HB.out | apply below_alloc | apply pw_below_drewN | apply below_drew1) | exact HB.out)) hb); clear HB; have HB := n0_; clear n0_; (try clear hb); (try clear hb2); (try clear hk); (try clear hi)) | (go_at_call 10; (with_reducible refine (bits_Count.calls kj15 a2 t139 _ A34.out).mono ?_); rintro e w53 ⟨rfl, hb⟩; have n0_ := Aside0.mk (below_step (by repeat (first | (with_reducible first | exact HB.out | apply below_alloc | apply pw_below_drewN | apply below_drew1) | exact HB.out)) hb); clear HB; have HB := n0_; clear n0_; (try clear hb); (try clear hb2); (try clear hk); (try clear hi)))
                  go_ret
                  exact ⟨by first | rfl | (simp [errW_none, errW_some] <;> rfl) | (simp [*, errW_none, errW_some] <;> rfl), by repeat (first | (with_reducible first | exact HB.out | apply below_alloc | apply pw_below_drewN | apply below_drew1) | exact HB.out)⟩
              · replace c30 := Bool.eq_false_iff.mpr c30
                subst c30
                have H1 : (some false) = some r := by rw [if_neg (show ¬ (false = true) by decide)] at H; exact H
                clear H
                have H := H1
                clear H1
                obtain rfl := Option.some.inj H
                go_wp2_with (first | ((with_reducible refine gate_callee (f := 9) rfl ?_); refine goesL_ (some 86) rfl rfl Try.func9 (by kernel_rfl) rfl #[] rfl (by (try simp only [List.map_toArray, List.map_cons, List.map_nil]); first | done | rfl | (simp only [List.length_drop, List.length_take]; rfl)) ?_; (with_reducible refine (mosaiclaw08_awake.calls kj15  false _ A29.out).mono ?_); rintro e w54 ⟨rfl, hb⟩; refine ⟨_, rfl, ?_⟩; have n0_ := Aside0.mk (below_step (by repeat (first | (with_reducible first | exact HB.out | apply below_alloc | apply pw_below_drewN | apply below_drew1) | exact HB.out)) hb); clear HB; have HB := n0_; clear n0_; (try clear hb); (try clear hb2); (try clear hk); (try clear hi)))
                go_ret
                exact ⟨by first | rfl | (simp [errW_none, errW_some] <;> rfl) | (simp [*, errW_none, errW_some] <;> rfl), by repeat (first | (with_reducible first | exact HB.out | apply below_alloc | apply pw_below_drewN | apply below_drew1) | exact HB.out)⟩

/-- THE ONE PURE STATEMENT of mosaiclaw08_BitsSets: yours. -/
def mosaiclaw08_BitsSets.Pure : Prop := ∀ (a0 : Int) (a1 : ByteArray) (a2 : ByteArray), (Lit.int .i64 a0).wf = true → a1.size ≤ 140737488351232 → a2.size ≤ 140737488351232 → ∃ k, mosaiclaw08_BitsSets.f k a0 a1 a2 = some true
theorem mosaiclaw08_BitsSets.walk (P : mosaiclaw08_BitsSets.Pure) (a0 : Int) (a1 : ByteArray) (a2 : ByteArray) (w : World) (w0 : (Lit.int .i64 a0).wf = true) (w1 : a1.size ≤ 140737488351232) (w2 : a2.size ≤ 140737488351232) :
    Calls Try.prog 8 #[.int .i64 a0, .string a1, .string a2] w fun e w' => e = .returned (.bool true) ∧ Below w.heap.size w w' := by
  obtain ⟨k, h⟩ := P a0 a1 a2 w0 w1 w2
  refine (mosaiclaw08_BitsSets.calls k a0 a1 a2 true w h).mono ?_
  rintro e w' ⟨rfl, hd⟩
  exact ⟨rfl, hd⟩

end Go.Proofs.Ytkfilmhconpnbaa.PBitsSets
