-- Written by this session's own program (wip/tools/mkprint.py) over the kit's printer, with overrides.
import Derived.Test.YtkfilmhconpnbaaPBitsRanksx0
import Derived.Test.YtkfilmhconpnbaaPBitsRanksx1
import Derived.Test.YtkfilmhconpnbaaPBitsRanksx2
import Derived.Test.YtkfilmhconpnbaaPBitsRanksx3
import Derived.Test.YtkfilmhconpnbaaPBitsRanksx4
namespace Go.Proofs.Ytkfilmhconpnbaa.PBitsRanks
open Go.RowKit Go.Mine Go.Proofs.YtkfilmhconpnbaaW.PrintWords Go.Proofs.YtkfilmhconpnbaaW.PrintLast Go.Proofs.YtkfilmhconpnbaaW.PrintMore
attribute [local go_sem] max2_int min2_int max_two min_two max_three min_three max_four min_four   -- for this text's walks alone
set_option linter.unusedVariables false
set_option linter.unusedSimpArgs false

/-! ### mosaiclaw08_BitsRanks: function 3 -/
def mosaiclaw08_BitsRanks.f (k : Nat) (a0 : ByteArray) (a1 : Int) (a2 : Int) : Option (Bool) := if (a0.size : Int) > 30 then ((mosaiclaw08_awake.f k).bind fun t120 => (some t120)) else ((mosaiclaw08_awake.f k).bind fun t121 => (if t121 = true then ((bits_Count.f k a0).bind fun t122 => ((mosaicref08_Rank.f k a0 (wrap64 (8 * (a0.size : Int)))).bind fun t123 => (if t122 = t123 then ((bits_Rank.f k a0 a1).bind fun t124 => ((mosaicref08_Rank.f k a0 a1).bind fun t125 => (if t124 = t125 then ((bits_Nth.f k a0 a2).bind fun t126 => ((mosaicref08_Nth.f k a0 a2).bind fun t127 => (some (t126 == t127)))) else (some false)))) else (some false)))) else (some false)))
theorem mosaiclaw08_BitsRanks.mono : ∀ a0 a1 a2 k, LeO (mosaiclaw08_BitsRanks.f k a0 a1 a2) (mosaiclaw08_BitsRanks.f (k + 1) a0 a1 a2) := by
  intro a0 a1 a2 k
  unfold mosaiclaw08_BitsRanks.f
  repeat' first
      | (with_reducible exact bits_Count.mono _ _)
      | (with_reducible exact bits_Nth.mono _ _ _)
      | (with_reducible exact bits_Rank.mono _ _ _)
      | (with_reducible exact mosaiclaw08_awake.mono _)
      | (with_reducible exact mosaicref08_Nth.mono _ _ _)
      | (with_reducible exact mosaicref08_Rank.mono _ _ _)
      | (with_reducible exact LeO.refl _)
      | (with_reducible exact LeO.none _)
      | (with_reducible refine LeO.ite ?_ ?_)
      | (with_reducible refine LeO.bind ?_ (fun _ => ?_))
      | exact bits_Count.mono _ _
      | exact bits_Nth.mono _ _ _
      | exact bits_Rank.mono _ _ _
      | exact mosaiclaw08_awake.mono _
      | exact mosaicref08_Nth.mono _ _ _
      | exact mosaicref08_Rank.mono _ _ _
      | exact LeO.none _
      | refine LeO.ite ?_ ?_
      | refine LeO.bind ?_ (fun _ => ?_)
set_option maxHeartbeats 8000000 in
set_option maxRecDepth 100000 in
theorem mosaiclaw08_BitsRanks.calls (k : Nat) (a0 : ByteArray) (a1 : Int) (a2 : Int) (r : Bool) (w : World) (h : mosaiclaw08_BitsRanks.f k a0 a1 a2 = some r) :
    Calls Try.prog 3 #[.string a0, .int .i64 a1, .int .i64 a2] w fun e w' => e = .returned (.bool r) ∧ Below w.heap.size w w' := by
  have HB := Aside0.mk (Below.refl w.heap.size w)
  have H : (if (a0.size : Int) > 30 then ((mosaiclaw08_awake.f k).bind fun t120 => (some t120)) else ((mosaiclaw08_awake.f k).bind fun t121 => (if t121 = true then ((bits_Count.f k a0).bind fun t122 => ((mosaicref08_Rank.f k a0 (wrap64 (8 * (a0.size : Int)))).bind fun t123 => (if t122 = t123 then ((bits_Rank.f k a0 a1).bind fun t124 => ((mosaicref08_Rank.f k a0 a1).bind fun t125 => (if t124 = t125 then ((bits_Nth.f k a0 a2).bind fun t126 => ((mosaicref08_Nth.f k a0 a2).bind fun t127 => (some (t126 == t127)))) else (some false)))) else (some false)))) else (some false)))) = some r := h
  clear h
  by_cases c4 : (a0.size : Int) > 30
  · rw [if_pos c4] at H
    have c4b0 : decide (30 < (a0.size : Int)) = true := decide_eq_true c4
    have c4b1 : decide (30 < a0.size) = true := decide_eq_true (by omega)
    clear c4
    replace H := Option.bind_eq_some_iff.mp H
    obtain ⟨t120, A50, H⟩ := H
    replace H : (some t120) = some r := H
    have A5 := Aside0.mk A50
    clear A50
    obtain rfl := Option.some.inj H
    go_enter Try.func3, Try.ntmps3
    go_wp2_with (first | ((with_reducible refine gate_callee (f := 9) rfl ?_); refine goesL_ (some 10) rfl rfl Try.func9 (by kernel_rfl) rfl #[] rfl (by (try simp only [List.map_toArray, List.map_cons, List.map_nil]); first | done | rfl | (simp only [List.length_drop, List.length_take]; rfl)) ?_; (with_reducible refine (mosaiclaw08_awake.calls k  t120 _ A5.out).mono ?_); rintro e w6 ⟨rfl, hb⟩; refine ⟨_, rfl, ?_⟩; have n0_ := Aside0.mk (below_step (by repeat (first | (with_reducible first | exact HB.out | apply below_alloc | apply pw_below_drewN | apply below_drew1) | exact HB.out)) hb); clear HB; have HB := n0_; clear n0_; (try clear hb); (try clear hb2); (try clear hk); (try clear hi)))
    go_ret
    exact ⟨by first | rfl | (simp [errW_none, errW_some] <;> rfl) | (simp [*, errW_none, errW_some] <;> rfl), by repeat (first | (with_reducible first | exact HB.out | apply below_alloc | apply pw_below_drewN | apply below_drew1) | exact HB.out)⟩
  · rw [if_neg c4] at H
    have c4b0 : decide (30 < (a0.size : Int)) = false := decide_eq_false c4
    have c4b1 : decide (30 < a0.size) = false := decide_eq_false (by omega)
    clear c4
    replace H := Option.bind_eq_some_iff.mp H
    obtain ⟨t121, A70, H⟩ := H
    replace H : (if t121 = true then ((bits_Count.f k a0).bind fun t122 => ((mosaicref08_Rank.f k a0 (wrap64 (8 * (a0.size : Int)))).bind fun t123 => (if t122 = t123 then ((bits_Rank.f k a0 a1).bind fun t124 => ((mosaicref08_Rank.f k a0 a1).bind fun t125 => (if t124 = t125 then ((bits_Nth.f k a0 a2).bind fun t126 => ((mosaicref08_Nth.f k a0 a2).bind fun t127 => (some (t126 == t127)))) else (some false)))) else (some false)))) else (some false)) = some r := H
    have A7 := Aside0.mk A70
    clear A70
    by_cases c8 : t121 = true
    · subst c8
      have H1 : ((bits_Count.f k a0).bind fun t122 => ((mosaicref08_Rank.f k a0 (wrap64 (8 * (a0.size : Int)))).bind fun t123 => (if t122 = t123 then ((bits_Rank.f k a0 a1).bind fun t124 => ((mosaicref08_Rank.f k a0 a1).bind fun t125 => (if t124 = t125 then ((bits_Nth.f k a0 a2).bind fun t126 => ((mosaicref08_Nth.f k a0 a2).bind fun t127 => (some (t126 == t127)))) else (some false)))) else (some false)))) = some r := by rw [if_pos rfl] at H; exact H
      clear H
      have H := H1
      clear H1
      replace H := Option.bind_eq_some_iff.mp H
      obtain ⟨t122, A90, H⟩ := H
      replace H : ((mosaicref08_Rank.f k a0 (wrap64 (8 * (a0.size : Int)))).bind fun t123 => (if t122 = t123 then ((bits_Rank.f k a0 a1).bind fun t124 => ((mosaicref08_Rank.f k a0 a1).bind fun t125 => (if t124 = t125 then ((bits_Nth.f k a0 a2).bind fun t126 => ((mosaicref08_Nth.f k a0 a2).bind fun t127 => (some (t126 == t127)))) else (some false)))) else (some false))) = some r := H
      have A9 := Aside0.mk A90
      clear A90
      replace H := Option.bind_eq_some_iff.mp H
      obtain ⟨t123, A100, H⟩ := H
      replace H : (if t122 = t123 then ((bits_Rank.f k a0 a1).bind fun t124 => ((mosaicref08_Rank.f k a0 a1).bind fun t125 => (if t124 = t125 then ((bits_Nth.f k a0 a2).bind fun t126 => ((mosaicref08_Nth.f k a0 a2).bind fun t127 => (some (t126 == t127)))) else (some false)))) else (some false)) = some r := H
      have A10 := Aside0.mk A100
      clear A100
      by_cases c11 : t122 = t123
      · rw [if_pos c11] at H
        have c11b0 : (t122 == t123) = true := beq_iff_eq.mpr c11
        have c11b1 : (t122 != t123) = false := bne_eq_false_iff_eq.mpr c11
        clear c11
        replace H := Option.bind_eq_some_iff.mp H
        obtain ⟨t124, A120, H⟩ := H
        replace H : ((mosaicref08_Rank.f k a0 a1).bind fun t125 => (if t124 = t125 then ((bits_Nth.f k a0 a2).bind fun t126 => ((mosaicref08_Nth.f k a0 a2).bind fun t127 => (some (t126 == t127)))) else (some false))) = some r := H
        have A12 := Aside0.mk A120
        clear A120
        replace H := Option.bind_eq_some_iff.mp H
        obtain ⟨t125, A130, H⟩ := H
        replace H : (if t124 = t125 then ((bits_Nth.f k a0 a2).bind fun t126 => ((mosaicref08_Nth.f k a0 a2).bind fun t127 => (some (t126 == t127)))) else (some false)) = some r := H
        have A13 := Aside0.mk A130
        clear A130
        by_cases c14 : t124 = t125
        · rw [if_pos c14] at H
          have c14b0 : (t124 == t125) = true := beq_iff_eq.mpr c14
          have c14b1 : (t124 != t125) = false := bne_eq_false_iff_eq.mpr c14
          clear c14
          replace H := Option.bind_eq_some_iff.mp H
          obtain ⟨t126, A150, H⟩ := H
          replace H : ((mosaicref08_Nth.f k a0 a2).bind fun t127 => (some (t126 == t127))) = some r := H
          have A15 := Aside0.mk A150
          clear A150
          replace H := Option.bind_eq_some_iff.mp H
          obtain ⟨t127, A160, H⟩ := H
          replace H : (some (t126 == t127)) = some r := H
          have A16 := Aside0.mk A160
          clear A160
          obtain rfl := Option.some.inj H
          go_enter Try.func3, Try.ntmps3
          go_wp2_with (first | ((with_reducible refine gate_callee (f := 9) rfl ?_); refine goesL_ (some 11) rfl rfl Try.func9 (by kernel_rfl) rfl #[] rfl (by (try simp only [List.map_toArray, List.map_cons, List.map_nil]); first | done | rfl | (simp only [List.length_drop, List.length_take]; rfl)) ?_; (with_reducible refine (mosaiclaw08_awake.calls k  true _ A7.out).mono ?_); rintro e w17 ⟨rfl, hb⟩; refine ⟨_, rfl, ?_⟩; have n0_ := Aside0.mk (below_step (by repeat (first | (with_reducible first | exact HB.out | apply below_alloc | apply pw_below_drewN | apply below_drew1) | exact HB.out)) hb); clear HB; have HB := n0_; clear n0_; (try clear hb); (try clear hb2); (try clear hk); (try clear hi)) | (go_at_call 10; (with_reducible refine (bits_Count.calls k a0 t122 _ A9.out).mono ?_); rintro e w18 ⟨rfl, hb⟩; have n0_ := Aside0.mk (below_step (by repeat (first | (with_reducible first | exact HB.out | apply below_alloc | apply pw_below_drewN | apply below_drew1) | exact HB.out)) hb); clear HB; have HB := n0_; clear n0_; (try clear hb); (try clear hb2); (try clear hk); (try clear hi)) | (go_at_call 11; (with_reducible refine (mosaicref08_Rank.calls k a0 (wrap64 (8 * (a0.size : Int))) t123 _ A10.out).mono ?_); rintro e w' ⟨rfl, ⟨nd, rfl⟩⟩) | (go_at_call 12; (with_reducible refine (bits_Rank.calls k a0 a1 t124 _ A12.out).mono ?_); rintro e w19 ⟨rfl, hb⟩; have n0_ := Aside0.mk (below_step (by repeat (first | (with_reducible first | exact HB.out | apply below_alloc | apply pw_below_drewN | apply below_drew1) | exact HB.out)) hb); clear HB; have HB := n0_; clear n0_; (try clear hb); (try clear hb2); (try clear hk); (try clear hi)) | (go_at_call 11; (with_reducible refine (mosaicref08_Rank.calls k a0 a1 t125 _ A13.out).mono ?_); rintro e w' ⟨rfl, ⟨nd, rfl⟩⟩) | (go_at_call 13; (with_reducible refine (bits_Nth.calls k a0 a2 t126 _ A15.out).mono ?_); rintro e w' ⟨rfl, ⟨nd, rfl⟩⟩) | (go_at_call 14; (with_reducible refine (mosaicref08_Nth.calls k a0 a2 t127 _ A16.out).mono ?_); rintro e w' ⟨rfl, ⟨nd, rfl⟩⟩))
          go_ret
          exact ⟨by first | rfl | (simp [errW_none, errW_some] <;> rfl) | (simp [*, errW_none, errW_some] <;> rfl), by repeat (first | (with_reducible first | exact HB.out | apply below_alloc | apply pw_below_drewN | apply below_drew1) | exact HB.out)⟩
        · rw [if_neg c14] at H
          have c14b0 : (t124 == t125) = false := beq_eq_false_iff_ne.mpr c14
          have c14b1 : (t124 != t125) = true := bne_iff_ne.mpr c14
          obtain rfl := Option.some.inj H
          go_enter Try.func3, Try.ntmps3
          go_wp2_with (first | ((with_reducible refine gate_callee (f := 9) rfl ?_); refine goesL_ (some 11) rfl rfl Try.func9 (by kernel_rfl) rfl #[] rfl (by (try simp only [List.map_toArray, List.map_cons, List.map_nil]); first | done | rfl | (simp only [List.length_drop, List.length_take]; rfl)) ?_; (with_reducible refine (mosaiclaw08_awake.calls k  true _ A7.out).mono ?_); rintro e w20 ⟨rfl, hb⟩; refine ⟨_, rfl, ?_⟩; have n0_ := Aside0.mk (below_step (by repeat (first | (with_reducible first | exact HB.out | apply below_alloc | apply pw_below_drewN | apply below_drew1) | exact HB.out)) hb); clear HB; have HB := n0_; clear n0_; (try clear hb); (try clear hb2); (try clear hk); (try clear hi)) | (go_at_call 10; (with_reducible refine (bits_Count.calls k a0 t122 _ A9.out).mono ?_); rintro e w21 ⟨rfl, hb⟩; have n0_ := Aside0.mk (below_step (by repeat (first | (with_reducible first | exact HB.out | apply below_alloc | apply pw_below_drewN | apply below_drew1) | exact HB.out)) hb); clear HB; have HB := n0_; clear n0_; (try clear hb); (try clear hb2); (try clear hk); (try clear hi)) | (go_at_call 11; (with_reducible refine (mosaicref08_Rank.calls k a0 (wrap64 (8 * (a0.size : Int))) t123 _ A10.out).mono ?_); rintro e w' ⟨rfl, ⟨nd, rfl⟩⟩) | (go_at_call 12; (with_reducible refine (bits_Rank.calls k a0 a1 t124 _ A12.out).mono ?_); rintro e w22 ⟨rfl, hb⟩; have n0_ := Aside0.mk (below_step (by repeat (first | (with_reducible first | exact HB.out | apply below_alloc | apply pw_below_drewN | apply below_drew1) | exact HB.out)) hb); clear HB; have HB := n0_; clear n0_; (try clear hb); (try clear hb2); (try clear hk); (try clear hi)) | (go_at_call 11; (with_reducible refine (mosaicref08_Rank.calls k a0 a1 t125 _ A13.out).mono ?_); rintro e w' ⟨rfl, ⟨nd, rfl⟩⟩))
          go_ret
          exact ⟨by first | rfl | (simp [errW_none, errW_some] <;> rfl) | (simp [*, errW_none, errW_some] <;> rfl), by repeat (first | (with_reducible first | exact HB.out | apply below_alloc | apply pw_below_drewN | apply below_drew1) | exact HB.out)⟩
      · rw [if_neg c11] at H
        have c11b0 : (t122 == t123) = false := beq_eq_false_iff_ne.mpr c11
        have c11b1 : (t122 != t123) = true := bne_iff_ne.mpr c11
        obtain rfl := Option.some.inj H
        go_enter Try.func3, Try.ntmps3
        go_wp2_with (first | ((with_reducible refine gate_callee (f := 9) rfl ?_); refine goesL_ (some 11) rfl rfl Try.func9 (by kernel_rfl) rfl #[] rfl (by (try simp only [List.map_toArray, List.map_cons, List.map_nil]); first | done | rfl | (simp only [List.length_drop, List.length_take]; rfl)) ?_; (with_reducible refine (mosaiclaw08_awake.calls k  true _ A7.out).mono ?_); rintro e w23 ⟨rfl, hb⟩; refine ⟨_, rfl, ?_⟩; have n0_ := Aside0.mk (below_step (by repeat (first | (with_reducible first | exact HB.out | apply below_alloc | apply pw_below_drewN | apply below_drew1) | exact HB.out)) hb); clear HB; have HB := n0_; clear n0_; (try clear hb); (try clear hb2); (try clear hk); (try clear hi)) | (go_at_call 10; (with_reducible refine (bits_Count.calls k a0 t122 _ A9.out).mono ?_); rintro e w24 ⟨rfl, hb⟩; have n0_ := Aside0.mk (below_step (by repeat (first | (with_reducible first | exact HB.out | apply below_alloc | apply pw_below_drewN | apply below_drew1) | exact HB.out)) hb); clear HB; have HB := n0_; clear n0_; (try clear hb); (try clear hb2); (try clear hk); (try clear hi)) | (go_at_call 11; (with_reducible refine (mosaicref08_Rank.calls k a0 (wrap64 (8 * (a0.size : Int))) t123 _ A10.out).mono ?_); rintro e w' ⟨rfl, ⟨nd, rfl⟩⟩))
        go_ret
        exact ⟨by first | rfl | (simp [errW_none, errW_some] <;> rfl) | (simp [*, errW_none, errW_some] <;> rfl), by repeat (first | (with_reducible first | exact HB.out | apply below_alloc | apply pw_below_drewN | apply below_drew1) | exact HB.out)⟩
    · replace c8 := Bool.eq_false_iff.mpr c8
      subst c8
      have H1 : (some false) = some r := by rw [if_neg (show ¬ (false = true) by decide)] at H; exact H
      clear H
      have H := H1
      clear H1
      obtain rfl := Option.some.inj H
      go_enter Try.func3, Try.ntmps3
      go_wp2_with (first | ((with_reducible refine gate_callee (f := 9) rfl ?_); refine goesL_ (some 11) rfl rfl Try.func9 (by kernel_rfl) rfl #[] rfl (by (try simp only [List.map_toArray, List.map_cons, List.map_nil]); first | done | rfl | (simp only [List.length_drop, List.length_take]; rfl)) ?_; (with_reducible refine (mosaiclaw08_awake.calls k  false _ A7.out).mono ?_); rintro e w25 ⟨rfl, hb⟩; refine ⟨_, rfl, ?_⟩; have n0_ := Aside0.mk (below_step (by repeat (first | (with_reducible first | exact HB.out | apply below_alloc | apply pw_below_drewN | apply below_drew1) | exact HB.out)) hb); clear HB; have HB := n0_; clear n0_; (try clear hb); (try clear hb2); (try clear hk); (try clear hi)))
      go_ret
      exact ⟨by first | rfl | (simp [errW_none, errW_some] <;> rfl) | (simp [*, errW_none, errW_some] <;> rfl), by repeat (first | (with_reducible first | exact HB.out | apply below_alloc | apply pw_below_drewN | apply below_drew1) | exact HB.out)⟩

/-- THE ONE PURE STATEMENT of mosaiclaw08_BitsRanks: yours. -/
def mosaiclaw08_BitsRanks.Pure : Prop := ∀ (a0 : ByteArray) (a1 : Int) (a2 : Int), a0.size ≤ 140737488351232 → (Lit.int .i64 a1).wf = true → (Lit.int .i64 a2).wf = true → ∃ k, mosaiclaw08_BitsRanks.f k a0 a1 a2 = some true
theorem mosaiclaw08_BitsRanks.walk (P : mosaiclaw08_BitsRanks.Pure) (a0 : ByteArray) (a1 : Int) (a2 : Int) (w : World) (w0 : a0.size ≤ 140737488351232) (w1 : (Lit.int .i64 a1).wf = true) (w2 : (Lit.int .i64 a2).wf = true) :
    Calls Try.prog 3 #[.string a0, .int .i64 a1, .int .i64 a2] w fun e w' => e = .returned (.bool true) ∧ Below w.heap.size w w' := by
  obtain ⟨k, h⟩ := P a0 a1 a2 w0 w1 w2
  refine (mosaiclaw08_BitsRanks.calls k a0 a1 a2 true w h).mono ?_
  rintro e w' ⟨rfl, hd⟩
  exact ⟨rfl, hd⟩

end Go.Proofs.Ytkfilmhconpnbaa.PBitsRanks
