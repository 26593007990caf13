-- Written by this session's own program (wip/tools/mkprint.py) over the kit's printer, with overrides.
import Derived.Test.YtghhmnjkgnoogaaGreatTOuterWholesa
import Derived.Test.YtghhmnjkgnoogaaGreatQOuterWholesx0
import Derived.Test.YtghhmnjkgnoogaaGreatQOuterWholesx1
import Derived.Test.YtghhmnjkgnoogaaGreatQOuterWholesx11
import Derived.Test.YtghhmnjkgnoogaaGreatQOuterWholesx13
import Derived.Test.YtghhmnjkgnoogaaGreatQOuterWholesx14
namespace Go.Proofs.YtghhmnjkgnoogaaGreat.POuterWholes
open Go.RowKit Go.Mine Go.Proofs.YtghhmnjkgnoogaaGreatW.PrintWords Go.Proofs.YtghhmnjkgnoogaaGreatW.PrintLast Go.Proofs.YtghhmnjkgnoogaaGreatW.PrintMore
attribute [local go_sem] max2_int min2_int max_two min_two max_three min_three max_four min_four   -- for this text's walks alone
set_option linter.unusedVariables false
set_option linter.unusedSimpArgs false
/-! ### outer_Whole: function 19 -/
mutual
def outer_Whole.j0 : Nat → List ByteArray → Bool → Int → Int → Int → Int → Option (List ByteArray × Int)
 | 0, _, _, _, _, _, _ => none
 | k + 1, x1, x23, x175000, x175001, x175002, x175003 => if x23 = true then (some (([] : List ByteArray), 1)) else ((slices_Clone_string_string.f x1).bind fun t177 => ((outer_members.f k x175000 x175001 x175002 x175003).bind fun t180 => (outer_Whole.l0 k x1 t177 t180 (t180.length : Int) 0)))
def outer_Whole.l0 : Nat → List ByteArray → List ByteArray → List (List Int) → Int → Int → Option (List ByteArray × Int)
 | 0, _, _, _, _, _ => none
 | k + 1, x1, x6, x27, x28, x29 => if x29 < x28 then (if 0 ≤ x29 then (if x29 < (x27.length : Int) then (if 0 < (x1.length : Int) then ((outer_sum.f k x1 (rd_L3 x27 x29) ((rdOf ByteArray.empty x1 0).size : Int)).bind fun t185 => (if x6.length < 8796093022208 then (outer_Whole.l0 k x1 (x6 ++ [t185]) x27 x28 (wrap64 (x29 + 1))) else (none))) else (none)) else (none)) else (none)) else (some (x6, 0))
end
def outer_Whole.f (k : Nat) (a0_0 : Int) (a0_1 : Int) (a0_2 : Int) (a0_3 : Int) (l1 : List ByteArray) : Option (List ByteArray × Int) := (outer_Check.f a0_0 a0_1 a0_2 a0_3).bind fun t175 => (if t175 = true then (if (l1.length : Int) = a0_1 then ((outer_sized.f l1).bind fun t176 => (outer_Whole.j0 k l1 (!t176) a0_0 a0_1 a0_2 a0_3)) else (outer_Whole.j0 k l1 true a0_0 a0_1 a0_2 a0_3)) else (outer_Whole.j0 k l1 true a0_0 a0_1 a0_2 a0_3))
theorem outer_Whole.mono_l : ∀ k, (∀ y0 y1 y2 y3 y4 y5, LeO (outer_Whole.j0 k y0 y1 y2 y3 y4 y5) (outer_Whole.j0 (k + 1) y0 y1 y2 y3 y4 y5)) ∧ (∀ y0 y1 y2 y3 y4, LeO (outer_Whole.l0 k y0 y1 y2 y3 y4) (outer_Whole.l0 (k + 1) y0 y1 y2 y3 y4))
 | 0 => ⟨fun _ _ _ _ _ _ r h => by simp [outer_Whole.j0] at h, fun _ _ _ _ _ r h => by simp [outer_Whole.l0] at h⟩
 | k + 1 => by
  obtain ⟨ih0, ih1⟩ := outer_Whole.mono_l k
  refine ⟨?_, ?_⟩
  ·
   intro y0 y1 y2 y3 y4 y5
   unfold outer_Whole.j0
   repeat' first
   | (with_reducible exact ih0 _ _ _ _ _ _)
   | (with_reducible exact ih1 _ _ _ _ _)
   | (with_reducible exact outer_members.mono _ _ _ _ _)
   | (with_reducible exact outer_sum.mono _ _ _ _)
   | (with_reducible exact LeO.refl _)
   | (with_reducible exact LeO.none _)
   | (with_reducible refine LeO.ite ?_ ?_)
   | (with_reducible refine LeO.bind ?_ (fun _ => ?_))
   | exact ih0 _ _ _ _ _ _
   | exact ih1 _ _ _ _ _
   | exact outer_members.mono _ _ _ _ _
   | exact outer_sum.mono _ _ _ _
   | exact LeO.none _
   | refine LeO.ite ?_ ?_
   | refine LeO.bind ?_ (fun _ => ?_)
  ·
   intro y0 y1 y2 y3 y4
   unfold outer_Whole.l0
   repeat' first
   | (with_reducible exact ih0 _ _ _ _ _ _)
   | (with_reducible exact ih1 _ _ _ _ _)
   | (with_reducible exact outer_members.mono _ _ _ _ _)
   | (with_reducible exact outer_sum.mono _ _ _ _)
   | (with_reducible exact LeO.refl _)
   | (with_reducible exact LeO.none _)
   | (with_reducible refine LeO.ite ?_ ?_)
   | (with_reducible refine LeO.bind ?_ (fun _ => ?_))
   | exact ih0 _ _ _ _ _ _
   | exact ih1 _ _ _ _ _
   | exact outer_members.mono _ _ _ _ _
   | exact outer_sum.mono _ _ _ _
   | exact LeO.none _
   | refine LeO.ite ?_ ?_
   | refine LeO.bind ?_ (fun _ => ?_)
theorem outer_Whole.mono : ∀ a0 a1 a2 a3 a4 k, LeO (outer_Whole.f k a0 a1 a2 a3 a4) (outer_Whole.f (k + 1) a0 a1 a2 a3 a4) := by
 intro a0 a1 a2 a3 a4 k
 obtain ⟨ih0, ih1⟩ := outer_Whole.mono_l k
 unfold outer_Whole.f
 repeat' first
   | (with_reducible exact ih0 _ _ _ _ _ _)
   | (with_reducible exact ih1 _ _ _ _ _)
   | (with_reducible exact outer_members.mono _ _ _ _ _)
   | (with_reducible exact outer_sum.mono _ _ _ _)
   | (with_reducible exact LeO.refl _)
   | (with_reducible exact LeO.none _)
   | (with_reducible refine LeO.ite ?_ ?_)
   | (with_reducible refine LeO.bind ?_ (fun _ => ?_))
   | exact ih0 _ _ _ _ _ _
   | exact ih1 _ _ _ _ _
   | exact outer_members.mono _ _ _ _ _
   | exact outer_sum.mono _ _ _ _
   | exact LeO.none _
   | refine LeO.ite ?_ ?_
   | refine LeO.bind ?_ (fun _ => ?_)
set_option maxHeartbeats 8000000 in
set_option maxRecDepth 100000 in
theorem outer_Whole.calls (k : Nat) (a0_0 : Int) (a0_1 : Int) (a0_2 : Int) (a0_3 : Int) (A1 : Option Addr) (c1 : Nat) (l1 : List ByteArray) (r1 : List ByteArray) (r2 : Int) (w : World) (hr1 : Kd.C Kd.string w A1 l1.length l1) (hc1 : l1.length ≤ c1) (h : outer_Whole.f k a0_0 a0_1 a0_2 a0_3 l1 = some (r1, r2)) :
  Calls Tryz.prog 19 #[.agg #[.int .i64 a0_0, .int .i64 a0_1, .int .i64 a0_2, .int .i64 a0_3], .slice A1 l1.length c1] w fun e w' => ∃ v0_ : Value, e = .returned (.tuple #[v0_, .int .i64 r2]) ∧ Kd.R Kd.string 9 w' w.heap.size (fun _ => True) v0_ r1 ∧ Below w.heap.size w w' := by
 have hu23 := Tryz.underlying23; have HR1 := Aside0.mk hr1
 have HC1 := Aside0.mk hc1
 clear hr1 hc1; have HB := Aside0.mk (Below.refl w.heap.size w)
 have H : ((outer_Check.f a0_0 a0_1 a0_2 a0_3).bind fun t175 => (if t175 = true then (if (l1.length : Int) = a0_1 then ((outer_sized.f l1).bind fun t176 => (outer_Whole.j0 k l1 (!t176) a0_0 a0_1 a0_2 a0_3)) else (outer_Whole.j0 k l1 true a0_0 a0_1 a0_2 a0_3)) else (outer_Whole.j0 k l1 true a0_0 a0_1 a0_2 a0_3))) = some (r1, r2) := h
 clear h; have HC3 := Aside0.mk H
 clear H; go_enter Tryz.func19, Tryz.ntmps19
 go_upto_region 1 with (first | ((with_reducible refine gate_dst (N := 2) rfl ?_); (try (refine gate_guard (by rfl) ?_; dsimp only)); refine box_event ?hg (N := 2) ?hd (cs := #[.int .i64 a0_0, .int .i64 a0_1, .int .i64 a0_2, .int .i64 a0_3]) (t := 23) ?hr ?_; (case hd => rfl); (case hg => rfl); (case hr => first | (go_simp; done) | (go_simp; rfl)); intro gb174 hg w4 hbox hb; have BK174 := Aside0.mk (hbox); have GW174 := Aside0.mk ((zg : w.heap.size ≤ gb174)); have GE174 := Aside0.mk ((zg : w.heap.size ≤ gb174)); replace HB := Aside0.mk (below_step zB hb); clear hb hbox hg))
 (try simp only [Act.put, List.setIfInBounds_toArray, List.set_cons_zero, List.set_cons_succ])
 go_cut [23] (fun v23 wc => ∃ (kq : Nat) (x23_2 : Bool), v23 = .bool x23_2 ∧ Aside0 (outer_Whole.j0 kq l1 x23_2 a0_0 a0_1 a0_2 a0_3 = some (r1, r2)) ∧ Aside0 (kq ≤ k) ∧ Aside0 (wc.heap[gb174]? = some (.cells #[.int .i64 a0_0, .int .i64 a0_1, .int .i64 a0_2, .int .i64 a0_3] 23 (0, 0))) ∧ Aside0 (Below w.heap.size w wc))
 case first =>
  have H := HC3.out; clear HC3; replace H := Option.bind_eq_some_iff.mp H
  obtain ⟨t175, A50, H⟩ := H
  replace H : (if t175 = true then (if (l1.length : Int) = a0_1 then ((outer_sized.f l1).bind fun t176 => (outer_Whole.j0 k l1 (!t176) a0_0 a0_1 a0_2 a0_3)) else (outer_Whole.j0 k l1 true a0_0 a0_1 a0_2 a0_3)) else (outer_Whole.j0 k l1 true a0_0 a0_1 a0_2 a0_3)) = some (r1, r2) := H
  have A5 := Aside0.mk A50
  clear A50; by_cases c6 : t175 = true
  ·
   subst c6
   have H1 : (if (l1.length : Int) = a0_1 then ((outer_sized.f l1).bind fun t176 => (outer_Whole.j0 k l1 (!t176) a0_0 a0_1 a0_2 a0_3)) else (outer_Whole.j0 k l1 true a0_0 a0_1 a0_2 a0_3)) = some (r1, r2) := by rw [if_pos rfl] at H; exact H
   clear H; have H := H1; clear H1; by_cases c7 : (l1.length : Int) = a0_1
   ·
    rw [if_pos c7] at H
    have c7b0 : ((l1.length : Int) == a0_1) = true := beq_iff_eq.mpr c7
    have c7b1 : ((l1.length : Int) != a0_1) = false := bne_eq_false_iff_eq.mpr c7
    clear c7; (first | rw [c7b0] | (simp only [i64_w, i32_w]; rw [c7b0]) | skip)
    replace H := Option.bind_eq_some_iff.mp H
    obtain ⟨t176, A80, H⟩ := H
    replace H : (outer_Whole.j0 k l1 (!t176) a0_0 a0_1 a0_2 a0_3) = some (r1, r2) := H
    have A8 := Aside0.mk A80
    clear A80; have H' := Aside0.mk H
    clear H; obtain ⟨hcz9_0, hcz9_1, hcz9_2, hcz9_3⟩ := cZ4 BK174
    obtain ⟨hfz9_0, hfz9_1, hfz9_2, hfz9_3⟩ := dZ4 BK174; go_wp2_with (first | ((with_reducible refine gate_callee (f := 12) rfl ?_); refine goesL_ (some 10) rfl rfl Tryz.func12 (by kernel_rfl) rfl #[.agg #[.int .i64 a0_0, .int .i64 a0_1, .int .i64 a0_2, .int .i64 a0_3]] rfl zM ?_; (with_reducible refine (outer_Check.calls a0_0 a0_1 a0_2 a0_3 true _ A5.out).mono ?_); rintro e w10 ⟨rfl, hb⟩; refine ⟨_, rfl, ?_⟩; replace BK174 := Aside0.mk (blk_below (zk BK174) hb); replace HB := Aside0.mk (below_step zB hb); (try clear hb); (try clear hb2); (try clear hk); (try clear hi); obtain ⟨hcz11_0, hcz11_1, hcz11_2, hcz11_3⟩ := cZ4 BK174; obtain ⟨hfz11_0, hfz11_1, hfz11_2, hfz11_3⟩ := dZ4 BK174) | (go_at_call 35; (with_reducible refine (outer_sized.calls _ _ l1 t176 _ ?side1 ?side2 A8.out).mono ?_); (case side1 => repeat (first | exact (Kd.C_below HR1.out HB.out) | (with_reducible refine Kd.C_alloc ?_ _) | (with_reducible refine Kd.C_drewN ?_ _) | (with_reducible refine Kd.C_drew ?_))); (case side2 => exact HC1.out); rintro e w12 ⟨rfl, hb⟩; replace BK174 := Aside0.mk (blk_below (zk BK174) hb); replace HB := Aside0.mk (below_step zB hb); (try clear hb); (try clear hb2); (try clear hk); (try clear hi)))
    go_meet
    case rel => exact ⟨_, (!t176), zF, H', ⟨by first | omega | exact Nat.le_refl _⟩, ⟨zk BK174⟩, ⟨zB⟩⟩
   ·
    rw [if_neg c7] at H
    have c7b0 : ((l1.length : Int) == a0_1) = false := beq_eq_false_iff_ne.mpr c7
    have c7b1 : ((l1.length : Int) != a0_1) = true := bne_iff_ne.mpr c7
    (first | rw [c7b0] | (simp only [i64_w, i32_w]; rw [c7b0]) | skip)
    have H' := Aside0.mk H
    clear H; obtain ⟨hcz13_0, hcz13_1, hcz13_2, hcz13_3⟩ := cZ4 BK174
    obtain ⟨hfz13_0, hfz13_1, hfz13_2, hfz13_3⟩ := dZ4 BK174; go_wp2_with (first | ((with_reducible refine gate_callee (f := 12) rfl ?_); refine goesL_ (some 10) rfl rfl Tryz.func12 (by kernel_rfl) rfl #[.agg #[.int .i64 a0_0, .int .i64 a0_1, .int .i64 a0_2, .int .i64 a0_3]] rfl zM ?_; (with_reducible refine (outer_Check.calls a0_0 a0_1 a0_2 a0_3 true _ A5.out).mono ?_); rintro e w14 ⟨rfl, hb⟩; refine ⟨_, rfl, ?_⟩; replace BK174 := Aside0.mk (blk_below (zk BK174) hb); replace HB := Aside0.mk (below_step zB hb); (try clear hb); (try clear hb2); (try clear hk); (try clear hi); obtain ⟨hcz15_0, hcz15_1, hcz15_2, hcz15_3⟩ := cZ4 BK174; obtain ⟨hfz15_0, hfz15_1, hfz15_2, hfz15_3⟩ := dZ4 BK174))
    go_meet
    case rel => exact ⟨_, (true), zF, H', ⟨by first | omega | exact Nat.le_refl _⟩, ⟨zk BK174⟩, ⟨zB⟩⟩
  ·
   replace c6 := Bool.eq_false_iff.mpr c6
   subst c6
   have H1 : (outer_Whole.j0 k l1 true a0_0 a0_1 a0_2 a0_3) = some (r1, r2) := by rw [if_neg (show ¬ (false = true) by decide)] at H; exact H
   clear H; have H := H1; clear H1; have H' := Aside0.mk H
   clear H; obtain ⟨hcz16_0, hcz16_1, hcz16_2, hcz16_3⟩ := cZ4 BK174
   obtain ⟨hfz16_0, hfz16_1, hfz16_2, hfz16_3⟩ := dZ4 BK174; go_wp2_with (first | ((with_reducible refine gate_callee (f := 12) rfl ?_); refine goesL_ (some 10) rfl rfl Tryz.func12 (by kernel_rfl) rfl #[.agg #[.int .i64 a0_0, .int .i64 a0_1, .int .i64 a0_2, .int .i64 a0_3]] rfl zM ?_; (with_reducible refine (outer_Check.calls a0_0 a0_1 a0_2 a0_3 false _ A5.out).mono ?_); rintro e w17 ⟨rfl, hb⟩; refine ⟨_, rfl, ?_⟩; replace BK174 := Aside0.mk (blk_below (zk BK174) hb); replace HB := Aside0.mk (below_step zB hb); (try clear hb); (try clear hb2); (try clear hk); (try clear hi)))
   go_meet
   case rel => exact ⟨_, (true), zF, H', ⟨by first | omega | exact Nat.le_refl _⟩, ⟨zk BK174⟩, ⟨zB⟩⟩
 case rest =>
  clear HC3; (try clear c1); (try clear p2); (try clear c6); (try clear c7); (try clear c7b0); (try clear c7b1); (try clear c12); (try clear hcz11_0); (try clear hcz11_1); (try clear hcz11_2); (try clear hcz11_3); (try clear hcz13_0); (try clear hcz13_1); (try clear hcz13_2); (try clear hcz13_3); (try clear hcz15_0); (try clear hcz15_1); (try clear hcz15_2); (try clear hcz15_3); (try clear hcz16_0); (try clear hcz16_1); (try clear hcz16_2); (try clear hcz16_3); (try clear hcz9_0); (try clear hcz9_1); (try clear hcz9_2); (try clear hcz9_3); (try clear hfz11_0); (try clear hfz11_1); (try clear hfz11_2); (try clear hfz11_3); (try clear hfz13_0); (try clear hfz13_1); (try clear hfz13_2); (try clear hfz13_3); (try clear hfz15_0); (try clear hfz15_1); (try clear hfz15_2); (try clear hfz15_3); (try clear hfz16_0); (try clear hfz16_1); (try clear hfz16_2); (try clear hfz16_3); (try clear hfz9_0); (try clear hfz9_1); (try clear hfz9_2); (try clear hfz9_3); obtain ⟨kq, x23_2, rfl, HA, HJ2, BK174, HB⟩ := hcut
  cases kq with
  | zero => exact absurd HA.out (by simp [outer_Whole.j0])
  | succ kj2 =>
   have H := HA.out; clear HA; simp only [outer_Whole.j0] at H
   by_cases c18 : x23_2 = true
   ·
    subst c18
    have H1 : (some (([] : List ByteArray), 1)) = some (r1, r2) := by rw [if_pos rfl] at H; exact H
    clear H; have H := H1; clear H1; simp only [Option.some.injEq, Prod.mk.injEq] at H
    obtain ⟨rfl, rfl⟩ := H
    go_wp2
    go_ret2
    exact ⟨_, zE, by first | exact Kd.R_nil _ _ _ _ _ | exact Kd.N_nil _ _ _ _ _ | exact Kd.V_nil _ _ _ _ _ | exact Kd.Q_nil _ _ _ _ _ | exact Kd.S_nil _ _ _ _ _, zB⟩
   ·
    replace c18 := Bool.eq_false_iff.mpr c18
    subst c18
    have H1 : ((slices_Clone_string_string.f l1).bind fun t177 => ((outer_members.f kj2 a0_0 a0_1 a0_2 a0_3).bind fun t180 => (outer_Whole.l0 kj2 l1 t177 t180 (t180.length : Int) 0))) = some (r1, r2) := by rw [if_neg (show ¬ (false = true) by decide)] at H; exact H
    clear H; have H := H1; clear H1; replace H := Option.bind_eq_some_iff.mp H
    obtain ⟨t177, A190, H⟩ := H
    replace H : ((outer_members.f kj2 a0_0 a0_1 a0_2 a0_3).bind fun t180 => (outer_Whole.l0 kj2 l1 t177 t180 (t180.length : Int) 0)) = some (r1, r2) := H
    have A19 := Aside0.mk A190
    clear A190; replace H := Option.bind_eq_some_iff.mp H
    obtain ⟨t180, A200, H⟩ := H
    replace H : (outer_Whole.l0 kj2 l1 t177 t180 (t180.length : Int) 0) = some (r1, r2) := H
    have A20 := Aside0.mk A200
    clear A200; have H' := Aside0.mk H
    clear H; go_wp2_with (first | ((with_reducible refine gate_callee (f := 36) rfl ?_); refine goesL_ (some 25) rfl rfl Tryz.func36 (by kernel_rfl) rfl #[.slice A1 l1.length c1] rfl zM ?_; (with_reducible refine (slices_Clone_string_string.calls _ _ l1 t177 _ ?side1 ?side2 A19.out).mono ?_); (case side1 => repeat (first | exact (Kd.C_below HR1.out HB.out) | (with_reducible refine Kd.C_alloc ?_ _) | (with_reducible refine Kd.C_drewN ?_ _) | (with_reducible refine Kd.C_drew ?_))); (case side2 => exact HC1.out); rintro e w21 ⟨v178, rfl, ho0, hb⟩; refine ⟨_, rfl, ?_⟩; have HO179 := Aside0.mk (Kd.R_lower ho0 (below_size zB)); replace BK174 := Aside0.mk (blk_below (zk BK174) hb); replace HB := Aside0.mk (below_step zB hb); (try clear hb); (try clear hb2); (try clear hk); (try clear hi); (try clear ho0); obtain ⟨hcz22_0, hcz22_1, hcz22_2, hcz22_3⟩ := cZ4 BK174; obtain ⟨hfz22_0, hfz22_1, hfz22_2, hfz22_3⟩ := dZ4 BK174) | ((with_reducible refine gate_callee (f := 28) rfl ?_); refine goesL_ (some 27) rfl rfl Tryz.func28 (by kernel_rfl) rfl #[.agg #[.int .i64 a0_0, .int .i64 a0_1, .int .i64 a0_2, .int .i64 a0_3]] rfl zM ?_; (with_reducible refine (outer_members.calls kj2 a0_0 a0_1 a0_2 a0_3 t180 _ A20.out).mono ?_); rintro e w23 ⟨v181, rfl, ho0, hb⟩; refine ⟨_, rfl, ?_⟩; replace HO179 := Aside0.mk (Kd.R_below (zR HO179) hb); have HO182 := Aside0.mk (Kd.S_lower ho0 (below_size zB)); replace BK174 := Aside0.mk (blk_below (zk BK174) hb); replace HB := Aside0.mk (below_step zB hb); (try clear hb); (try clear hb2); (try clear hk); (try clear hi); (try clear ho0); obtain ⟨Ao24, co24, eo24⟩ := Kd.S_slice HO182.out; subst eo24))
    go_loopg [6, 29] kj2 (fun kq v6 v29 w' => ∃ (x6_2 : List ByteArray) (x29_2 : Int), v29 = .int .i64 x29_2 ∧ Aside0 (outer_Whole.l0 kq l1 x6_2 t180 (t180.length : Int) x29_2 = some (r1, r2)) ∧ Aside0 (kq ≤ kj2) ∧ Aside0 (Kd.R Kd.string 9 w' w.heap.size (fun _ => True) v6 x6_2) ∧ Aside0 (Kd.S (Kd.slice 3 (Kd.int .i64)) 26 w' w.heap.size (fun _ => True) (.slice Ao24 t180.length co24) t180) ∧ Aside0 (w'.heap[gb174]? = some (.cells #[.int .i64 a0_0, .int .i64 a0_1, .int .i64 a0_2, .int .i64 a0_3] 23 (0, 0))) ∧ Aside0 (Below w.heap.size w w'))
    case atStart => exact ⟨(t177), (0), zF, H', ⟨Nat.le_refl _⟩, ⟨zR HO179⟩, ⟨zS HO182⟩, ⟨zk BK174⟩, ⟨zB⟩⟩
    case round =>
     clear H'
     (try clear c1); (try clear c2); (try clear p2); (try clear c3); (try clear c6); (try clear c7); (try clear c7b0); (try clear c7b1); (try clear c12); (try clear c18); (try clear c19); (try clear hcz11_0); (try clear hcz11_1); (try clear hcz11_2); (try clear hcz11_3); (try clear hcz13_0); (try clear hcz13_1); (try clear hcz13_2); (try clear hcz13_3); (try clear hcz15_0); (try clear hcz15_1); (try clear hcz15_2); (try clear hcz15_3); (try clear hcz16_0); (try clear hcz16_1); (try clear hcz16_2); (try clear hcz16_3); (try clear hcz22_0); (try clear hcz22_1); (try clear hcz22_2); (try clear hcz22_3); (try clear hcz9_0); (try clear hcz9_1); (try clear hcz9_2); (try clear hcz9_3); (try clear hfz11_0); (try clear hfz11_1); (try clear hfz11_2); (try clear hfz11_3); (try clear hfz13_0); (try clear hfz13_1); (try clear hfz13_2); (try clear hfz13_3); (try clear hfz15_0); (try clear hfz15_1); (try clear hfz15_2); (try clear hfz15_3); (try clear hfz16_0); (try clear hfz16_1); (try clear hfz16_2); (try clear hfz16_3); (try clear hfz22_0); (try clear hfz22_1); (try clear hfz22_2); (try clear hfz22_3); (try clear hfz9_0); (try clear hfz9_1); (try clear hfz9_2); (try clear hfz9_3); (try clear p2); obtain ⟨x6_2, x29_2, rfl, HA, HK2, HO_6, HO_27, BK174, HB⟩ := hrel
     cases gk with
     | zero => exact absurd HA.out (by simp [outer_Whole.l0])
     | succ k2 =>
      have H := HA.out; clear HA; simp only [outer_Whole.l0] at H
      by_cases c25 : x29_2 < (t180.length : Int)
      ·
       rw [if_pos c25] at H
       have c25b0 : decide (x29_2 < (t180.length : Int)) = true := decide_eq_true c25
       clear c25; by_cases c26 : 0 ≤ x29_2
       ·
        rw [if_pos c26] at H
        have c26b0 : decide (0 ≤ x29_2) = true := decide_eq_true c26
        clear c26; by_cases c27 : x29_2 < (t180.length : Int)
        ·
         rw [if_pos c27] at H
         have c27b0 : decide (x29_2 < (t180.length : Int)) = true := decide_eq_true c27
         clear c27; by_cases c28 : 0 < (l1.length : Int)
         ·
          rw [if_pos c28] at H
          have c28b0 : decide (0 < (l1.length : Int)) = true := decide_eq_true c28
          have c28b1 : decide (0 < l1.length) = true := decide_eq_true (by omega)
          have c28b2 : (0 < l1.length) := by omega
          clear c28; replace H := Option.bind_eq_some_iff.mp H
          obtain ⟨t185, A290, H⟩ := H
          replace H : (if x6_2.length < 8796093022208 then (outer_Whole.l0 k2 l1 (x6_2 ++ [t185]) t180 (t180.length : Int) (wrap64 (x29_2 + 1))) else (none)) = some (r1, r2) := H
          have A29 := Aside0.mk A290
          clear A290; by_cases c30 : x6_2.length < 8796093022208
          ·
           rw [if_pos c30] at H
           have LMc30 := Aside0.mk c30
           clear c30; obtain ⟨y186, hy186⟩ : ∃ y_ : List ByteArray, y_ = (x6_2 ++ [t185]) := ⟨_, rfl⟩
           replace H : (outer_Whole.l0 k2 l1 y186 t180 (t180.length : Int) (wrap64 (x29_2 + 1))) = some (r1, r2) := by first | (rw [hy186]; with_reducible exact H) | (have H2_ := (Option.bind_some _ _).symm.trans H; rw [hy186]; with_reducible exact H2_) | (have H2_ := (Option.bind_some _ _).symm.trans H; with_reducible exact H2_) | with_reducible exact H | (rw [hy186]; exact H) | exact H
           have Ny186 := Aside0.mk hy186
           clear hy186; have H' := Aside0.mk H
           clear H; have p183 : 0 ≤ (x29_2 : Int) := of_decide_eq_true zA
           have q183 : x29_2 < (t180.length : Int) := of_decide_eq_true zA
           obtain ⟨ad183, A183_0, c183_0, e183, hx183_0, hl183_0, hi183_0⟩ := at_L3 (Kd.S_reads' HO_27.out).2.2 x29_2 p183 q183
           cases e183
           obtain ⟨ce183, hce183, hMe183, hcc183⟩ := Kd.S_get HO_27.out [] x29_2 p183 (by first | exact q183 | exact of_decide_eq_true zA | (have e_ := (Kd.S_reads' HO_27.out).1; omega))
           obtain ⟨ve183_0, rfl, ge183_0⟩ := hMe183
           have hv183_0 := hcc183 0 _ rfl
           rw [Nat.add_zero, show ((Kd.slice 3 (Kd.int .i64))).sz = 1 from rfl, Nat.mul_one] at hv183_0
           replace hv183_0 := Option.some.inj (hv183_0.symm.trans hx183_0)
           rw [hv183_0] at ge183_0
           have HL183_0 := Aside0.mk (show Kd.R (Kd.int .i64) 3 _ _ _ _ (rd_L3 t180 x29_2) from ge183_0)
           clear hv183_0 ge183_0 hcc183 hce183; have HR183_0 := Aside0.mk hi183_0
           have HC183_0 := Aside0.mk hl183_0
           clear hi183_0 hl183_0; replace p183 := eq_true p183
           replace q183 := eq_true q183
           have p184 : 0 ≤ (0 : Int) := (by omega)
           have q184 : 0 < (l1.length : Int) := of_decide_eq_true zA
           obtain ⟨ad184, e184, hx184_0⟩ := Kd.at_string HR1.out 0 p184 q184
           cases e184
           have qi184 : (0 < l1.length) = True := eq_true (by omega)
           (try rw [show ((0 : Int)).toNat = 0 from rfl] at hx184_0)
           (try rw [Addr.add_zero'] at hx184_0)
           (try replace hx184_0 := (HB.out.cell (World.block_lt_of_cell? w _ hx184_0)).trans hx184_0)
           replace p184 := eq_true p184
           replace q184 := eq_true q184
           go_wp2_with (first | ((with_reducible refine gate_callee (f := 37) rfl ?_); refine goesL_ (some 40) rfl rfl Tryz.func37 (by kernel_rfl) rfl #[.slice (some ad184) l1.length c1, .slice A183_0 (rd_L3 t180 x29_2).length c183_0, .int .i64 ((rdOf ByteArray.empty l1 0).size : Int)] rfl zM ?_; (with_reducible refine (outer_sum.calls k2 _ _ l1 _ _ (rd_L3 t180 x29_2) ((rdOf ByteArray.empty l1 0).size : Int) t185 _ ?side1 ?side2 ?side3 ?side4 A29.out).mono ?_); (case side1 => repeat (first | exact (Kd.C_below HR1.out HB.out) | (with_reducible refine Kd.C_alloc ?_ _) | (with_reducible refine Kd.C_drewN ?_ _) | (with_reducible refine Kd.C_drew ?_))); (case side2 => exact HC1.out); (case side3 => repeat (first | exact (by repeat (first | (with_reducible exact HR183_0.out) | (with_reducible refine Kd.C_alloc ?_ _) | (with_reducible refine Kd.C_drewN ?_ _) | (with_reducible refine Kd.C_drew ?_) | exact HR183_0.out)) | (with_reducible refine Kd.C_alloc ?_ _) | (with_reducible refine Kd.C_drewN ?_ _) | (with_reducible refine Kd.C_drew ?_))); (case side4 => exact HC183_0.out); rintro e w31 ⟨rfl, hb⟩; refine ⟨_, rfl, ?_⟩; replace HO_6 := Aside0.mk (Kd.R_below (zR HO_6) hb); replace HO_27 := Aside0.mk (Kd.S_below (zS HO_27) hb); replace HL183_0 := Aside0.mk (Kd.R_below (zR HL183_0) hb); replace BK174 := Aside0.mk (blk_below (zk BK174) hb); replace HR183_0 := Aside0.mk (Kd.C_below (by repeat (first | (with_reducible exact HR183_0.out) | (with_reducible refine Kd.C_alloc ?_ _) | (with_reducible refine Kd.C_drewN ?_ _) | (with_reducible refine Kd.C_drew ?_) | exact HR183_0.out)) hb); replace HB := Aside0.mk (below_step zB hb); (try clear hb); (try clear hb2); (try clear hk); (try clear hi)) | ((with_reducible refine gate_builtin (b := .append) (xs := #[.tmp 33, .tmp 41]) rfl ?_); (try (refine gate_guard (by rfl) ?_; dsimp only)); at_builtin; refine Kd.R_append Kd.string (w0 := w) w.heap.size rfl (.tmp 33) (.tmp 41) 41 9 (.string ⟨#[]⟩) 16 rfl Tryz.underlying41 info9 rfl (by decide) (by omega) u6 x6_2 t185 [.string t185] (fun _ => True) (fun _ => False) rfl rfl ?aP (fun _ hk => hk.elim) ?aF ?aO ?aB ?aS ?aL ?_; (case aP => exact rfl); (case aB => exact zB); (case aF => exact (fun _ _ => trivial)); (case aO => exact (by (with_reducible repeat (first | apply Kd.R_alloc | apply Kd.R_drewN | apply Kd.R_drew)); exact HO_6.out)); (case aS => exact (below_size zB)); (case aL => have := LMc30.out; omega); intro v187 w32 ho hb hg hat; rw [← Ny186.out] at ho; replace HO_27 := Aside0.mk (Kd.S_over' (by (with_reducible repeat (first | apply Kd.S_alloc | apply Kd.S_drewN | apply Kd.S_drew)); exact HO_27.out) (Kd.R_typed (by (with_reducible repeat (first | apply Kd.R_alloc | apply Kd.R_drewN | apply Kd.R_drew)); exact HO_6.out)) (by decide) hg); replace BK174 := Aside0.mk (blk_grown (zk BK174) hg (Kd.R_ne HO_6.out BK174.out (by decide))); replace HL183_0 := Aside0.mk (Kd.R_over' (by (with_reducible repeat (first | apply Kd.R_alloc | apply Kd.R_drewN | apply Kd.R_drew)); exact HL183_0.out) (Kd.R_typed (by (with_reducible repeat (first | apply Kd.R_alloc | apply Kd.R_drewN | apply Kd.R_drew)); exact HO_6.out)) (by decide) hg); have HO188 := Aside0.mk (ho); replace HB := Aside0.mk (hb); clear HO_6; clear ho hb hg hat))
           go_roundg k2
           case measure => have := HJ2.out; have := HK2.out; omega
           case rel => exact ⟨(y186), (wrap64 (x29_2 + 1)), zF, H', ⟨by have := HJ2.out; have := HK2.out; omega⟩, ⟨zR HO188⟩, ⟨zS HO_27⟩, ⟨zk BK174⟩, ⟨zB⟩⟩
          ·
           rw [if_neg c30] at H
           exact absurd H (by simp)
         ·
          rw [if_neg c28] at H
          exact absurd H (by simp)
        ·
         rw [if_neg c27] at H
         exact absurd H (by simp)
       ·
        rw [if_neg c26] at H
        exact absurd H (by simp)
      ·
       rw [if_neg c25] at H
       have c25b0 : decide (x29_2 < (t180.length : Int)) = false := decide_eq_false c25
       clear c25; simp only [Option.some.injEq, Prod.mk.injEq] at H
       obtain ⟨rfl, rfl⟩ := H
       go_wp2
       go_ret2
       exact ⟨_, zE, by (with_reducible repeat (first | apply Kd.R_alloc | apply Kd.R_drewN | apply Kd.R_drew)); exact HO_6.out, zB⟩
/-! ### mosaicref03_Same: function 21 -/
def mosaicref03_Same.l0 : Nat → List ByteArray → List ByteArray → Int → Option (Bool)
 | 0, _, _, _ => none
 | k + 1, x0, x1, x5 => if x5 < (x0.length : Int) then (if 0 ≤ x5 then (if x5 < (x1.length : Int) then (if (rdOf ByteArray.empty x0 x5).toList = (rdOf ByteArray.empty x1 x5).toList then (mosaicref03_Same.l0 k x0 x1 (wrap64 (x5 + 1))) else (some false)) else (none)) else (none)) else (some true)
def mosaicref03_Same.f (k : Nat) (l0 : List ByteArray) (l1 : List ByteArray) : Option (Bool) := if (l0.length : Int) = (l1.length : Int) then (mosaicref03_Same.l0 k l0 l1 0) else (some false)
theorem mosaicref03_Same.mono_l : ∀ k, (∀ y0 y1 y2, LeO (mosaicref03_Same.l0 k y0 y1 y2) (mosaicref03_Same.l0 (k + 1) y0 y1 y2))
 | 0 => fun _ _ _ r h => by simp [mosaicref03_Same.l0] at h
 | k + 1 => by
  have ih0 := mosaicref03_Same.mono_l k
  ·
   intro y0 y1 y2
   unfold mosaicref03_Same.l0
   repeat' first
   | (with_reducible exact ih0 _ _ _)
   | (with_reducible exact LeO.refl _)
   | (with_reducible exact LeO.none _)
   | (with_reducible refine LeO.ite ?_ ?_)
   | (with_reducible refine LeO.bind ?_ (fun _ => ?_))
   | exact ih0 _ _ _
   | exact LeO.none _
   | refine LeO.ite ?_ ?_
   | refine LeO.bind ?_ (fun _ => ?_)
theorem mosaicref03_Same.mono : ∀ a0 a1 k, LeO (mosaicref03_Same.f k a0 a1) (mosaicref03_Same.f (k + 1) a0 a1) := by
 intro a0 a1 k
 have ih0 := mosaicref03_Same.mono_l k
 unfold mosaicref03_Same.f
 repeat' first
   | (with_reducible exact ih0 _ _ _)
   | (with_reducible exact LeO.refl _)
   | (with_reducible exact LeO.none _)
   | (with_reducible refine LeO.ite ?_ ?_)
   | (with_reducible refine LeO.bind ?_ (fun _ => ?_))
   | exact ih0 _ _ _
   | exact LeO.none _
   | refine LeO.ite ?_ ?_
   | refine LeO.bind ?_ (fun _ => ?_)
set_option maxHeartbeats 8000000 in
set_option maxRecDepth 100000 in
theorem mosaicref03_Same.calls (k : Nat) (A0 : Option Addr) (c0 : Nat) (l0 : List ByteArray) (A1 : Option Addr) (c1 : Nat) (l1 : List ByteArray) (r : Bool) (w : World) (hr0 : Kd.C Kd.string w A0 l0.length l0) (hc0 : l0.length ≤ c0) (hr1 : Kd.C Kd.string w A1 l1.length l1) (hc1 : l1.length ≤ c1) (h : mosaicref03_Same.f k l0 l1 = some r) :
  Calls Tryz.prog 21 #[.slice A0 l0.length c0, .slice A1 l1.length c1] w fun e w' => e = .returned (.bool r) ∧ Drawn0 w w' := by
 have HR0 := Aside0.mk hr0
 have HC0 := Aside0.mk hc0
 clear hr0 hc0; have HR1 := Aside0.mk hr1
 have HC1 := Aside0.mk hc1
 clear hr1 hc1; have H : (if (l0.length : Int) = (l1.length : Int) then (mosaicref03_Same.l0 k l0 l1 0) else (some false)) = some r := h
 clear h; by_cases c3 : (l0.length : Int) = (l1.length : Int)
 ·
  rw [if_pos c3] at H
  have c3b0 : ((l0.length : Int) == (l1.length : Int)) = true := beq_iff_eq.mpr c3
  have c3b1 : ((l0.length : Int) != (l1.length : Int)) = false := bne_eq_false_iff_eq.mpr c3
  have c3b2 : (l0.length == l1.length) = true := by first | simpa using c3 | (simp at c3 ⊢; omega)
  clear c3; have H' := Aside0.mk H
  clear H; go_enter Tryz.func21, Tryz.ntmps21
  go_wp2
  repeat (go_quiet (fail); try go_wp2)
  go_loopg [5] k (fun kq v5 w' => ∃ (x5_1 : Int), v5 = .int .i64 x5_1 ∧ Aside0 (mosaicref03_Same.l0 kq l0 l1 x5_1 = some r) ∧ Aside0 (kq ≤ k) ∧ Drawn0 w w')
  case atStart => exact ⟨(0), zF, H', ⟨Nat.le_refl _⟩, by repeat (first | exact Drawn0.refl _ | apply Drawn0.step)⟩
  case round =>
   clear H'
   (try clear c1); (try clear c2); (try clear p2); (try clear c3); (try clear c3b0); (try clear c3b1); (try clear c3b2); obtain ⟨x5_1, rfl, HA, HK1, ⟨m1, rfl⟩⟩ := hrel
   cases gk with
   | zero => exact absurd HA.out (by simp [mosaicref03_Same.l0])
   | succ k1 =>
    have H := HA.out; clear HA; simp only [mosaicref03_Same.l0] at H
    by_cases c4 : x5_1 < (l0.length : Int)
    ·
     rw [if_pos c4] at H
     have c4b0 : decide (x5_1 < (l0.length : Int)) = true := decide_eq_true c4
     clear c4; by_cases c5 : 0 ≤ x5_1
     ·
      rw [if_pos c5] at H
      have c5b0 : decide (0 ≤ x5_1) = true := decide_eq_true c5
      clear c5; by_cases c6 : x5_1 < (l1.length : Int)
      ·
       rw [if_pos c6] at H
       have c6b0 : decide (x5_1 < (l1.length : Int)) = true := decide_eq_true c6
       clear c6; by_cases c7 : (rdOf ByteArray.empty l0 x5_1).toList = (rdOf ByteArray.empty l1 x5_1).toList
       ·
        rw [if_pos c7] at H
        have c7b0 : ((rdOf ByteArray.empty l0 x5_1).toList == (rdOf ByteArray.empty l1 x5_1).toList) = true := beq_iff_eq.mpr c7
        have c7b1 : ((rdOf ByteArray.empty l0 x5_1).toList != (rdOf ByteArray.empty l1 x5_1).toList) = false := bne_eq_false_iff_eq.mpr c7
        clear c7; have H' := Aside0.mk H
        clear H; have p189 : 0 ≤ (x5_1 : Int) := of_decide_eq_true zA
        have q189 : x5_1 < (l0.length : Int) := of_decide_eq_true zA
        obtain ⟨ad189, e189, hx189_0⟩ := Kd.at_string HR0.out x5_1 p189 q189
        cases e189
        replace p189 := eq_true p189
        replace q189 := eq_true q189
        have p190 : 0 ≤ (x5_1 : Int) := of_decide_eq_true zA
        have q190 : x5_1 < (l1.length : Int) := of_decide_eq_true zA
        obtain ⟨ad190, e190, hx190_0⟩ := Kd.at_string HR1.out x5_1 p190 q190
        cases e190
        replace p190 := eq_true p190
        replace q190 := eq_true q190
        go_wp2
        repeat (go_quiet (fail); try go_wp2)
        go_roundg k1
        case measure => have := HK1.out; omega
        case rel => exact ⟨(wrap64 (x5_1 + 1)), zF, H', ⟨by have := HK1.out; omega⟩, by repeat (first | exact Drawn0.refl _ | apply Drawn0.step)⟩
       ·
        rw [if_neg c7] at H
        have c7b0 : ((rdOf ByteArray.empty l0 x5_1).toList == (rdOf ByteArray.empty l1 x5_1).toList) = false := beq_eq_false_iff_ne.mpr c7
        have c7b1 : ((rdOf ByteArray.empty l0 x5_1).toList != (rdOf ByteArray.empty l1 x5_1).toList) = true := bne_iff_ne.mpr c7
        obtain rfl := Option.some.inj H
        have p189 : 0 ≤ (x5_1 : Int) := of_decide_eq_true zA
        have q189 : x5_1 < (l0.length : Int) := of_decide_eq_true zA
        obtain ⟨ad189, e189, hx189_0⟩ := Kd.at_string HR0.out x5_1 p189 q189
        cases e189
        replace p189 := eq_true p189
        replace q189 := eq_true q189
        have p190 : 0 ≤ (x5_1 : Int) := of_decide_eq_true zA
        have q190 : x5_1 < (l1.length : Int) := of_decide_eq_true zA
        obtain ⟨ad190, e190, hx190_0⟩ := Kd.at_string HR1.out x5_1 p190 q190
        cases e190
        replace p190 := eq_true p190
        replace q190 := eq_true q190
        go_wp2
        repeat (go_quiet (fail); try go_wp2)
        go_ret
        exact ⟨by first | rfl | (simp; done) | (simp [*]; done), by repeat (first | exact Drawn0.refl _ | apply Drawn0.step)⟩
      ·
       rw [if_neg c6] at H
       exact absurd H (by simp)
     ·
      rw [if_neg c5] at H
      exact absurd H (by simp)
    ·
     rw [if_neg c4] at H
     have c4b0 : decide (x5_1 < (l0.length : Int)) = false := decide_eq_false c4
     clear c4; obtain rfl := Option.some.inj H
     go_wp2
     repeat (go_quiet (fail); try go_wp2)
     go_ret
     exact ⟨by first | rfl | (simp; done) | (simp [*]; done), by repeat (first | exact Drawn0.refl _ | apply Drawn0.step)⟩
 ·
  rw [if_neg c3] at H
  have c3b0 : ((l0.length : Int) == (l1.length : Int)) = false := beq_eq_false_iff_ne.mpr c3
  have c3b1 : ((l0.length : Int) != (l1.length : Int)) = true := bne_iff_ne.mpr c3
  have c3b2 : (l0.length == l1.length) = false := by first | simpa using c3 | (simp at c3 ⊢; omega)
  obtain rfl := Option.some.inj H
  go_enter Tryz.func21, Tryz.ntmps21
  go_wp2
  repeat (go_quiet (fail); try go_wp2)
  go_ret
  exact ⟨by first | rfl | (simp; done) | (simp [*]; done), by repeat (first | exact Drawn0.refl _ | apply Drawn0.step)⟩
end Go.Proofs.YtghhmnjkgnoogaaGreat.POuterWholes
