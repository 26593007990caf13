-- Written by this session's own program (wip/tools/mkprint.py) over the kit's printer, with overrides.
import Derived.Test.YtghhmnjkgnoogaaGreatTOuterFillsa
import Derived.Test.YtghhmnjkgnoogaaGreatQOuterFillsx0
import Derived.Test.YtghhmnjkgnoogaaGreatQOuterFillsx1
import Derived.Test.YtghhmnjkgnoogaaGreatQOuterFillsx4
import Derived.Test.YtghhmnjkgnoogaaGreatQOuterFillsx5
namespace Go.Proofs.YtghhmnjkgnoogaaGreat.POuterFills
open Go.RowKit Go.Mine Go.Proofs.YtghhmnjkgnoogaaGreatW.PrintWords Go.Proofs.YtghhmnjkgnoogaaGreatW.PrintLast Go.Proofs.YtghhmnjkgnoogaaGreatW.PrintMore
attribute [local go_sem] max2_int min2_int max_two min_two max_three min_three max_four min_four   -- for this text's walks alone
set_option linter.unusedVariables false
set_option linter.unusedSimpArgs false
/-! ### outer_sum: function 37 -/
def outer_sum.l0 : Nat → List ByteArray → Int → List ByteArray → List Int → Int → Int → Option (ByteArray)
 | 0, _, _, _, _, _, _ => none
 | k + 1, x0, x2, x7, x12, x13, x14 => if x14 < x13 then (if 0 ≤ x14 then (if x14 < (x12.length : Int) then (if 0 ≤ (rd x12 x14) then (if (rd x12 x14) < (x0.length : Int) then (if x7.length < 8796093022208 then (outer_sum.l0 k x0 x2 (x7 ++ [rdOf ByteArray.empty x0 (rd x12 x14)]) x12 x13 (wrap64 (x14 + 1))) else (none)) else (none)) else (none)) else (none)) else (none)) else ((block_Sum.f x7 x2).bind fun bt172 => (some bt172.1))
def outer_sum.f (k : Nat) (l0 : List ByteArray) (l1 : List Int) (a2 : Int) : Option (ByteArray) := outer_sum.l0 k l0 a2 ([] : List ByteArray) l1 (l1.length : Int) 0
theorem outer_sum.mono_l : ∀ k, (∀ y0 y1 y2 y3 y4 y5, LeO (outer_sum.l0 k y0 y1 y2 y3 y4 y5) (outer_sum.l0 (k + 1) y0 y1 y2 y3 y4 y5))
 | 0 => fun _ _ _ _ _ _ r h => by simp [outer_sum.l0] at h
 | k + 1 => by
  have ih0 := outer_sum.mono_l k
  ·
   intro y0 y1 y2 y3 y4 y5
   unfold outer_sum.l0
   repeat' first | (with_reducible first | apply ih0 | exact LeO.refl _ | exact LeO.none _ | refine LeO.ite ?_ ?_ | refine LeO.bind ?_ (fun _ => ?_)) | apply ih0 | exact LeO.none _ | refine LeO.ite ?_ ?_ | refine LeO.bind ?_ (fun _ => ?_)
theorem outer_sum.mono : ∀ a0 a1 a2 k, LeO (outer_sum.f k a0 a1 a2) (outer_sum.f (k + 1) a0 a1 a2) := by
 intro a0 a1 a2 k
 have ih0 := outer_sum.mono_l k
 unfold outer_sum.f
 repeat' first | (with_reducible first | apply ih0 | exact LeO.refl _ | exact LeO.none _ | refine LeO.ite ?_ ?_ | refine LeO.bind ?_ (fun _ => ?_)) | apply ih0 | exact LeO.none _ | refine LeO.ite ?_ ?_ | refine LeO.bind ?_ (fun _ => ?_)
set_option maxHeartbeats 8000000 in
set_option maxRecDepth 100000 in
theorem outer_sum.calls (k : Nat) (A0 : Option Addr) (c0 : Nat) (l0 : List ByteArray) (A1 : Option Addr) (c1 : Nat) (l1 : List Int) (a2 : Int) (r : ByteArray) (w : World) (hr0 : Kd.C Kd.string w A0 l0.length l0) (hc0 : l0.length ≤ c0) (hr1 : Kd.C (Kd.int .i64) w A1 l1.length l1) (hc1 : l1.length ≤ c1) (h : outer_sum.f k l0 l1 a2 = some r) :
  Calls Tryz.prog 37 #[.slice A0 l0.length c0, .slice A1 l1.length c1, .int .i64 a2] w fun e w' => e = .returned (.string r) ∧ Below w.heap.size w w' := by
 have HR0 := Aside0.mk hr0
 have HC0 := Aside0.mk hc0
 clear hr0 hc0; have HR1 := Aside0.mk hr1
 have HC1 := Aside0.mk hc1
 clear hr1 hc1; have HB := Aside0.mk (Below.refl w.heap.size w)
 have H : (outer_sum.l0 k l0 a2 ([] : List ByteArray) l1 (l1.length : Int) 0) = some r := h
 clear h; have H' := Aside0.mk H
 clear H; go_enter Tryz.func37, Tryz.ntmps37
 go_wp2
 go_loopg [7, 14] k (fun kq v7 v14 w' => ∃ (x7_1 : List ByteArray) (x14_1 : Int), v14 = .int .i64 x14_1 ∧ Aside0 (outer_sum.l0 kq l0 a2 x7_1 l1 (l1.length : Int) x14_1 = some r) ∧ Aside0 (kq ≤ k) ∧ Aside0 (Kd.R Kd.string 9 w' w.heap.size (fun _ => True) v7 x7_1) ∧ Aside0 (Below w.heap.size w w'))
 case atStart => exact ⟨(([] : List ByteArray)), (0), zF, H', ⟨Nat.le_refl _⟩, ⟨by first | exact Kd.R_nil _ _ _ _ _ | exact Kd.N_nil _ _ _ _ _ | exact Kd.V_nil _ _ _ _ _ | exact Kd.Q_nil _ _ _ _ _ | exact Kd.S_nil _ _ _ _ _⟩, ⟨zB⟩⟩
 case round =>
  clear H'
  obtain ⟨x7_1, x14_1, rfl, HA, HK1, HO_7, HB⟩ := hrel
  cases gk with
  | zero => exact absurd HA.out (by simp [outer_sum.l0])
  | succ k1 =>
   have H := HA.out; clear HA; simp only [outer_sum.l0] at H
   by_cases c4 : x14_1 < (l1.length : Int)
   ·
    rw [if_pos c4] at H
    have c4b0 : decide (x14_1 < (l1.length : Int)) = true := decide_eq_true c4
    clear c4; by_cases c5 : 0 ≤ x14_1
    ·
     rw [if_pos c5] at H
     have c5b0 : decide (0 ≤ x14_1) = true := decide_eq_true c5
     clear c5; by_cases c6 : x14_1 < (l1.length : Int)
     ·
      rw [if_pos c6] at H
      have c6b0 : decide (x14_1 < (l1.length : Int)) = true := decide_eq_true c6
      clear c6; by_cases c7 : 0 ≤ (rd l1 x14_1)
      ·
       rw [if_pos c7] at H
       have c7b0 : decide (0 ≤ (rd l1 x14_1)) = true := decide_eq_true c7
       clear c7; by_cases c8 : (rd l1 x14_1) < (l0.length : Int)
       ·
        rw [if_pos c8] at H
        have c8b0 : decide ((rd l1 x14_1) < (l0.length : Int)) = true := decide_eq_true c8
        clear c8; by_cases c9 : x7_1.length < 8796093022208
        ·
         rw [if_pos c9] at H
         have LMc9 := Aside0.mk c9
         clear c9; obtain ⟨y169, hy169⟩ : ∃ y_ : List ByteArray, y_ = (x7_1 ++ [rdOf ByteArray.empty l0 (rd l1 x14_1)]) := ⟨_, rfl⟩
         replace H : (outer_sum.l0 k1 l0 a2 y169 l1 (l1.length : Int) (wrap64 (x14_1 + 1))) = some r := by first | (rw [hy169]; with_reducible exact H) | (have H2_ := (Option.bind_some _ _).symm.trans H; rw [hy169]; with_reducible exact H2_) | (have H2_ := (Option.bind_some _ _).symm.trans H; with_reducible exact H2_) | with_reducible exact H | (rw [hy169]; exact H) | exact H
         have Ny169 := Aside0.mk hy169
         clear hy169; have H' := Aside0.mk H
         clear H; have p167 : 0 ≤ (x14_1 : Int) := of_decide_eq_true zA
         have q167 : x14_1 < (l1.length : Int) := of_decide_eq_true zA
         obtain ⟨ad167, e167, hx167_0⟩ := Kd.at_int HR1.out x14_1 p167 q167
         cases e167
         (try replace hx167_0 := (HB.out.cell (World.block_lt_of_cell? w _ hx167_0)).trans hx167_0)
         replace p167 := eq_true p167
         replace q167 := eq_true q167
         have p168 : 0 ≤ ((rd l1 x14_1) : Int) := of_decide_eq_true zA
         have q168 : (rd l1 x14_1) < (l0.length : Int) := of_decide_eq_true zA
         obtain ⟨ad168, e168, hx168_0⟩ := Kd.at_string HR0.out (rd l1 x14_1) p168 q168
         cases e168
         (try replace hx168_0 := (HB.out.cell (World.block_lt_of_cell? w _ hx168_0)).trans hx168_0)
         replace p168 := eq_true p168
         replace q168 := eq_true q168
         go_wp2_with (first | ((with_reducible refine gate_builtin (b := .append) (xs := #[.tmp 18, .tmp 23]) rfl ?_); at_builtin; refine Kd.R_append Kd.string (w0 := w) w.heap.size rfl (.tmp 18) (.tmp 23) 41 9 (.string ⟨#[]⟩) 16 rfl Tryz.underlying41 info9 rfl (by decide) (by omega) u7 x7_1 (rdOf ByteArray.empty l0 (rd l1 x14_1)) [.string (rdOf ByteArray.empty l0 (rd l1 x14_1))] (fun _ => True) (fun _ => False) rfl rfl ?aP (fun _ hk => hk.elim) ?aF ?aO ?aB ?aS ?aL ?_; (case aP => exact rfl); (case aB => exact zB); (case aF => exact (fun _ _ => trivial)); (case aO => exact (by (with_reducible repeat (first | apply Kd.R_alloc | apply Kd.R_drewN | apply Kd.R_drew)); exact HO_7.out)); (case aS => exact (below_size zB)); (case aL => have := LMc9.out; omega); intro v170 w10 ho hb hg hat; rw [← Ny169.out] at ho; have HO171 := Aside0.mk (ho); replace HB := Aside0.mk (hb); clear HO_7; clear ho hb hg hat))
         go_roundg k1
         case measure => have := HK1.out; omega
         case rel => exact ⟨(y169), (wrap64 (x14_1 + 1)), zF, H', ⟨by have := HK1.out; omega⟩, ⟨zR HO171⟩, ⟨zB⟩⟩
        ·
         rw [if_neg c9] at H
         exact absurd H (by simp)
       ·
        rw [if_neg c8] at H
        exact absurd H (by simp)
      ·
       rw [if_neg c7] at H
       exact absurd H (by simp)
     ·
      rw [if_neg c6] at H
      exact absurd H (by simp)
    ·
     rw [if_neg c5] at H
     exact absurd H (by simp)
   ·
    rw [if_neg c4] at H
    have c4b0 : decide (x14_1 < (l1.length : Int)) = false := decide_eq_false c4
    clear c4; replace H := Option.bind_eq_some_iff.mp H
    obtain ⟨⟨t172, t173⟩, A110, H⟩ := H
    replace H : (some t172) = some r := H
    have A11 := Aside0.mk A110
    clear A110; obtain rfl := Option.some.inj H
    obtain ⟨Ao12, co12, eo12⟩ := Kd.R_slice HO_7.out
    subst eo12
    go_wp2_with (first | ((with_reducible refine gate_callee (f := 59) rfl ?_); refine goesL_ (some 29) rfl rfl Tryz.func59 (by kernel_rfl) rfl #[.slice Ao12 x7_1.length co12, .int .i64 a2] rfl zM ?_; (with_reducible refine (block_Sum.calls _ _ x7_1 a2 t172 t173 _ ?side1 ?side2 A11.out).mono ?_); (case side1 => exact zRC HO_7); (case side2 => exact (Kd.R_reads' HO_7.out).2.1); rintro e w13 ⟨rfl, hb⟩; refine ⟨_, rfl, ?_⟩; replace HO_7 := Aside0.mk (Kd.R_below (zR HO_7) hb); replace HB := Aside0.mk (below_step zB hb); (try clear hb); (try clear hb2); (try clear hk); (try clear hi)))
    go_ret
    exact ⟨zE, zB⟩
/-! ### outer_Whole: function 19 -/
mutual
def outer_Whole.j0 : Nat → List ByteArray → Bool → Int → Int → Int → Int → Option (List ByteArray × Int)
 | 0, _, _, _, _, _, _ => none
 | k + 1, x1, x23, x175000, x175001, x175002, x175003 => if x23 = true then (some (([] : List ByteArray), 1)) else ((slices_Clone_string_string.f x1).bind fun t177 => ((outer_members.f k x175000 x175001 x175002 x175003).bind fun t180 => (outer_Whole.l0 k x1 t177 t180 (t180.length : Int) 0)))
def outer_Whole.l0 : Nat → List ByteArray → List ByteArray → List (List Int) → Int → Int → Option (List ByteArray × Int)
 | 0, _, _, _, _, _ => none
 | k + 1, x1, x6, x27, x28, x29 => if x29 < x28 then (if 0 ≤ x29 then (if x29 < (x27.length : Int) then (if 0 < (x1.length : Int) then ((outer_sum.f k x1 (rd_L3 x27 x29) ((rdOf ByteArray.empty x1 0).size : Int)).bind fun t185 => (if x6.length < 8796093022208 then (outer_Whole.l0 k x1 (x6 ++ [t185]) x27 x28 (wrap64 (x29 + 1))) else (none))) else (none)) else (none)) else (none)) else (some (x6, 0))
end
def outer_Whole.f (k : Nat) (a0_0 : Int) (a0_1 : Int) (a0_2 : Int) (a0_3 : Int) (l1 : List ByteArray) : Option (List ByteArray × Int) := (outer_Check.f a0_0 a0_1 a0_2 a0_3).bind fun t175 => (if t175 = true then (if (l1.length : Int) = a0_1 then ((outer_sized.f l1).bind fun t176 => (outer_Whole.j0 k l1 (!t176) a0_0 a0_1 a0_2 a0_3)) else (outer_Whole.j0 k l1 true a0_0 a0_1 a0_2 a0_3)) else (outer_Whole.j0 k l1 true a0_0 a0_1 a0_2 a0_3))
theorem outer_Whole.mono_l : ∀ k, (∀ y0 y1 y2 y3 y4 y5, LeO (outer_Whole.j0 k y0 y1 y2 y3 y4 y5) (outer_Whole.j0 (k + 1) y0 y1 y2 y3 y4 y5)) ∧ (∀ y0 y1 y2 y3 y4, LeO (outer_Whole.l0 k y0 y1 y2 y3 y4) (outer_Whole.l0 (k + 1) y0 y1 y2 y3 y4))
 | 0 => ⟨fun _ _ _ _ _ _ r h => by simp [outer_Whole.j0] at h, fun _ _ _ _ _ r h => by simp [outer_Whole.l0] at h⟩
 | k + 1 => by
  obtain ⟨ih0, ih1⟩ := outer_Whole.mono_l k
  refine ⟨?_, ?_⟩ <;> intros <;> (first | unfold outer_Whole.j0 | unfold outer_Whole.l0)
  all_goals repeat' first | (with_reducible first | apply ih0 | apply ih1 | apply outer_members.mono | apply outer_sum.mono | exact LeO.refl _ | exact LeO.none _ | refine LeO.ite ?_ ?_ | refine LeO.bind ?_ (fun _ => ?_)) | apply ih0 | apply ih1 | apply outer_members.mono | apply outer_sum.mono | exact LeO.none _ | refine LeO.ite ?_ ?_ | refine LeO.bind ?_ (fun _ => ?_)
theorem outer_Whole.mono : ∀ a0 a1 a2 a3 a4 k, LeO (outer_Whole.f k a0 a1 a2 a3 a4) (outer_Whole.f (k + 1) a0 a1 a2 a3 a4) := by
 intro a0 a1 a2 a3 a4 k
 obtain ⟨ih0, ih1⟩ := outer_Whole.mono_l k
 unfold outer_Whole.f
 repeat' first | (with_reducible first | apply ih0 | apply ih1 | apply outer_members.mono | apply outer_sum.mono | exact LeO.refl _ | exact LeO.none _ | refine LeO.ite ?_ ?_ | refine LeO.bind ?_ (fun _ => ?_)) | apply ih0 | apply ih1 | apply outer_members.mono | apply outer_sum.mono | exact LeO.none _ | refine LeO.ite ?_ ?_ | refine LeO.bind ?_ (fun _ => ?_)
set_option maxHeartbeats 8000000 in
set_option maxRecDepth 100000 in
theorem outer_Whole.calls (k : Nat) (a0_0 : Int) (a0_1 : Int) (a0_2 : Int) (a0_3 : Int) (A1 : Option Addr) (c1 : Nat) (l1 : List ByteArray) (r1 : List ByteArray) (r2 : Int) (w : World) (hr1 : Kd.C Kd.string w A1 l1.length l1) (hc1 : l1.length ≤ c1) (h : outer_Whole.f k a0_0 a0_1 a0_2 a0_3 l1 = some (r1, r2)) :
  Calls Tryz.prog 19 #[.agg #[.int .i64 a0_0, .int .i64 a0_1, .int .i64 a0_2, .int .i64 a0_3], .slice A1 l1.length c1] w fun e w' => ∃ v0_ : Value, e = .returned (.tuple #[v0_, .int .i64 r2]) ∧ Kd.R Kd.string 9 w' w.heap.size (fun _ => True) v0_ r1 ∧ Below w.heap.size w w' := by
 have hu23 := Tryz.underlying23; have HR1 := Aside0.mk hr1
 have HC1 := Aside0.mk hc1
 clear hr1 hc1; have HB := Aside0.mk (Below.refl w.heap.size w)
 have H : ((outer_Check.f a0_0 a0_1 a0_2 a0_3).bind fun t175 => (if t175 = true then (if (l1.length : Int) = a0_1 then ((outer_sized.f l1).bind fun t176 => (outer_Whole.j0 k l1 (!t176) a0_0 a0_1 a0_2 a0_3)) else (outer_Whole.j0 k l1 true a0_0 a0_1 a0_2 a0_3)) else (outer_Whole.j0 k l1 true a0_0 a0_1 a0_2 a0_3))) = some (r1, r2) := h
 clear h; have HC3 := Aside0.mk H
 clear H; go_enter Tryz.func19, Tryz.ntmps19
 go_upto_region 1 with (first | ((with_reducible refine gate_dst (N := 2) rfl ?_); (try (refine gate_guard (by rfl) ?_; dsimp only)); refine box_event ?hg (N := 2) ?hd (cs := #[.int .i64 a0_0, .int .i64 a0_1, .int .i64 a0_2, .int .i64 a0_3]) (t := 23) ?hr ?_; (case hd => rfl); (case hg => rfl); (case hr => first | (go_simp; done) | (go_simp; rfl)); intro gb174 hg w4 hbox hb; have BK174 := Aside0.mk (hbox); have GW174 := Aside0.mk ((zg : w.heap.size ≤ gb174)); have GE174 := Aside0.mk ((zg : w.heap.size ≤ gb174)); replace HB := Aside0.mk (below_step zB hb); clear hb hbox hg))
 (try simp only [Act.put, List.setIfInBounds_toArray, List.set_cons_zero, List.set_cons_succ])
 go_cut [23] (fun v23 wc => ∃ (kq : Nat) (x23_2 : Bool), v23 = .bool x23_2 ∧ Aside0 (outer_Whole.j0 kq l1 x23_2 a0_0 a0_1 a0_2 a0_3 = some (r1, r2)) ∧ Aside0 (kq ≤ k) ∧ Aside0 (wc.heap[gb174]? = some (.cells #[.int .i64 a0_0, .int .i64 a0_1, .int .i64 a0_2, .int .i64 a0_3] 23 (0, 0))) ∧ Aside0 (Below w.heap.size w wc))
 case first =>
  have H := HC3.out; clear HC3; replace H := Option.bind_eq_some_iff.mp H
  obtain ⟨t175, A50, H⟩ := H
  replace H : (if t175 = true then (if (l1.length : Int) = a0_1 then ((outer_sized.f l1).bind fun t176 => (outer_Whole.j0 k l1 (!t176) a0_0 a0_1 a0_2 a0_3)) else (outer_Whole.j0 k l1 true a0_0 a0_1 a0_2 a0_3)) else (outer_Whole.j0 k l1 true a0_0 a0_1 a0_2 a0_3)) = some (r1, r2) := H
  have A5 := Aside0.mk A50
  clear A50; by_cases c6 : t175 = true
  ·
   subst c6
   have H1 : (if (l1.length : Int) = a0_1 then ((outer_sized.f l1).bind fun t176 => (outer_Whole.j0 k l1 (!t176) a0_0 a0_1 a0_2 a0_3)) else (outer_Whole.j0 k l1 true a0_0 a0_1 a0_2 a0_3)) = some (r1, r2) := by rw [if_pos rfl] at H; exact H
   clear H; have H := H1; clear H1; by_cases c7 : (l1.length : Int) = a0_1
   ·
    rw [if_pos c7] at H
    have c7b0 : ((l1.length : Int) == a0_1) = true := beq_iff_eq.mpr c7
    have c7b1 : ((l1.length : Int) != a0_1) = false := bne_eq_false_iff_eq.mpr c7
    clear c7; (first | rw [c7b0] | (simp only [i64_w, i32_w]; rw [c7b0]) | skip)
    replace H := Option.bind_eq_some_iff.mp H
    obtain ⟨t176, A80, H⟩ := H
    replace H : (outer_Whole.j0 k l1 (!t176) a0_0 a0_1 a0_2 a0_3) = some (r1, r2) := H
    have A8 := Aside0.mk A80
    clear A80; have H' := Aside0.mk H
    clear H; obtain ⟨hcz9_0, hcz9_1, hcz9_2, hcz9_3⟩ := cZ4 BK174
    obtain ⟨hfz9_0, hfz9_1, hfz9_2, hfz9_3⟩ := dZ4 BK174; go_wp2_with (first | ((with_reducible refine gate_callee (f := 12) rfl ?_); refine goesL_ (some 10) rfl rfl Tryz.func12 (by kernel_rfl) rfl #[.agg #[.int .i64 a0_0, .int .i64 a0_1, .int .i64 a0_2, .int .i64 a0_3]] rfl zM ?_; (with_reducible refine (outer_Check.calls a0_0 a0_1 a0_2 a0_3 true _ A5.out).mono ?_); rintro e w10 ⟨rfl, hb⟩; refine ⟨_, rfl, ?_⟩; replace BK174 := Aside0.mk (blk_below (zk BK174) hb); replace HB := Aside0.mk (below_step zB hb); (try clear hb); (try clear hb2); (try clear hk); (try clear hi); obtain ⟨hcz11_0, hcz11_1, hcz11_2, hcz11_3⟩ := cZ4 BK174; obtain ⟨hfz11_0, hfz11_1, hfz11_2, hfz11_3⟩ := dZ4 BK174) | (go_at_call 35; (with_reducible refine (outer_sized.calls _ _ l1 t176 _ ?side1 ?side2 A8.out).mono ?_); (case side1 => exact zCB HR1); (case side2 => exact HC1.out); rintro e w12 ⟨rfl, hb⟩; replace BK174 := Aside0.mk (blk_below (zk BK174) hb); replace HB := Aside0.mk (below_step zB hb); (try clear hb); (try clear hb2); (try clear hk); (try clear hi)))
    go_meet
    case rel => exact ⟨_, (!t176), zF, H', ⟨by first | omega | exact Nat.le_refl _⟩, ⟨zk BK174⟩, ⟨zB⟩⟩
   ·
    rw [if_neg c7] at H
    have c7b0 : ((l1.length : Int) == a0_1) = false := beq_eq_false_iff_ne.mpr c7
    have c7b1 : ((l1.length : Int) != a0_1) = true := bne_iff_ne.mpr c7
    (first | rw [c7b0] | (simp only [i64_w, i32_w]; rw [c7b0]) | skip)
    have H' := Aside0.mk H
    clear H; obtain ⟨hcz13_0, hcz13_1, hcz13_2, hcz13_3⟩ := cZ4 BK174
    obtain ⟨hfz13_0, hfz13_1, hfz13_2, hfz13_3⟩ := dZ4 BK174; go_wp2_with (first | ((with_reducible refine gate_callee (f := 12) rfl ?_); refine goesL_ (some 10) rfl rfl Tryz.func12 (by kernel_rfl) rfl #[.agg #[.int .i64 a0_0, .int .i64 a0_1, .int .i64 a0_2, .int .i64 a0_3]] rfl zM ?_; (with_reducible refine (outer_Check.calls a0_0 a0_1 a0_2 a0_3 true _ A5.out).mono ?_); rintro e w14 ⟨rfl, hb⟩; refine ⟨_, rfl, ?_⟩; replace BK174 := Aside0.mk (blk_below (zk BK174) hb); replace HB := Aside0.mk (below_step zB hb); (try clear hb); (try clear hb2); (try clear hk); (try clear hi); obtain ⟨hcz15_0, hcz15_1, hcz15_2, hcz15_3⟩ := cZ4 BK174; obtain ⟨hfz15_0, hfz15_1, hfz15_2, hfz15_3⟩ := dZ4 BK174))
    go_meet
    case rel => exact ⟨_, (true), zF, H', ⟨by first | omega | exact Nat.le_refl _⟩, ⟨zk BK174⟩, ⟨zB⟩⟩
  ·
   replace c6 := Bool.eq_false_iff.mpr c6
   subst c6
   have H1 : (outer_Whole.j0 k l1 true a0_0 a0_1 a0_2 a0_3) = some (r1, r2) := by rw [if_neg (show ¬ (false = true) by decide)] at H; exact H
   clear H; have H := H1; clear H1; have H' := Aside0.mk H
   clear H; obtain ⟨hcz16_0, hcz16_1, hcz16_2, hcz16_3⟩ := cZ4 BK174
   obtain ⟨hfz16_0, hfz16_1, hfz16_2, hfz16_3⟩ := dZ4 BK174; go_wp2_with (first | ((with_reducible refine gate_callee (f := 12) rfl ?_); refine goesL_ (some 10) rfl rfl Tryz.func12 (by kernel_rfl) rfl #[.agg #[.int .i64 a0_0, .int .i64 a0_1, .int .i64 a0_2, .int .i64 a0_3]] rfl zM ?_; (with_reducible refine (outer_Check.calls a0_0 a0_1 a0_2 a0_3 false _ A5.out).mono ?_); rintro e w17 ⟨rfl, hb⟩; refine ⟨_, rfl, ?_⟩; replace BK174 := Aside0.mk (blk_below (zk BK174) hb); replace HB := Aside0.mk (below_step zB hb); (try clear hb); (try clear hb2); (try clear hk); (try clear hi)))
   go_meet
   case rel => exact ⟨_, (true), zF, H', ⟨by first | omega | exact Nat.le_refl _⟩, ⟨zk BK174⟩, ⟨zB⟩⟩
 case rest =>
  clear HC3; obtain ⟨kq, x23_2, rfl, HA, HJ2, BK174, HB⟩ := hcut
  cases kq with
  | zero => exact absurd HA.out (by simp [outer_Whole.j0])
  | succ kj2 =>
   have H := HA.out; clear HA; simp only [outer_Whole.j0] at H
   by_cases c18 : x23_2 = true
   ·
    subst c18
    have H1 : (some (([] : List ByteArray), 1)) = some (r1, r2) := by rw [if_pos rfl] at H; exact H
    clear H; have H := H1; clear H1; simp only [Option.some.injEq, Prod.mk.injEq] at H
    obtain ⟨rfl, rfl⟩ := H
    go_wp2
    go_ret2
    exact ⟨_, zE, by first | exact Kd.R_nil _ _ _ _ _ | exact Kd.N_nil _ _ _ _ _ | exact Kd.V_nil _ _ _ _ _ | exact Kd.Q_nil _ _ _ _ _ | exact Kd.S_nil _ _ _ _ _, zB⟩
   ·
    replace c18 := Bool.eq_false_iff.mpr c18
    subst c18
    have H1 : ((slices_Clone_string_string.f l1).bind fun t177 => ((outer_members.f kj2 a0_0 a0_1 a0_2 a0_3).bind fun t180 => (outer_Whole.l0 kj2 l1 t177 t180 (t180.length : Int) 0))) = some (r1, r2) := by rw [if_neg (show ¬ (false = true) by decide)] at H; exact H
    clear H; have H := H1; clear H1; replace H := Option.bind_eq_some_iff.mp H
    obtain ⟨t177, A190, H⟩ := H
    replace H : ((outer_members.f kj2 a0_0 a0_1 a0_2 a0_3).bind fun t180 => (outer_Whole.l0 kj2 l1 t177 t180 (t180.length : Int) 0)) = some (r1, r2) := H
    have A19 := Aside0.mk A190
    clear A190; replace H := Option.bind_eq_some_iff.mp H
    obtain ⟨t180, A200, H⟩ := H
    replace H : (outer_Whole.l0 kj2 l1 t177 t180 (t180.length : Int) 0) = some (r1, r2) := H
    have A20 := Aside0.mk A200
    clear A200; have H' := Aside0.mk H
    clear H; go_wp2_with (first | ((with_reducible refine gate_callee (f := 36) rfl ?_); refine goesL_ (some 25) rfl rfl Tryz.func36 (by kernel_rfl) rfl #[.slice A1 l1.length c1] rfl zM ?_; (with_reducible refine (slices_Clone_string_string.calls _ _ l1 t177 _ ?side1 ?side2 A19.out).mono ?_); (case side1 => exact zCB HR1); (case side2 => exact HC1.out); rintro e w21 ⟨v178, rfl, ho0, hb⟩; refine ⟨_, rfl, ?_⟩; have HO179 := Aside0.mk (Kd.R_lower ho0 (below_size zB)); replace BK174 := Aside0.mk (blk_below (zk BK174) hb); replace HB := Aside0.mk (below_step zB hb); (try clear hb); (try clear hb2); (try clear hk); (try clear hi); (try clear ho0); obtain ⟨hcz22_0, hcz22_1, hcz22_2, hcz22_3⟩ := cZ4 BK174; obtain ⟨hfz22_0, hfz22_1, hfz22_2, hfz22_3⟩ := dZ4 BK174) | ((with_reducible refine gate_callee (f := 28) rfl ?_); refine goesL_ (some 27) rfl rfl Tryz.func28 (by kernel_rfl) rfl #[.agg #[.int .i64 a0_0, .int .i64 a0_1, .int .i64 a0_2, .int .i64 a0_3]] rfl zM ?_; (with_reducible refine (outer_members.calls kj2 a0_0 a0_1 a0_2 a0_3 t180 _ A20.out).mono ?_); rintro e w23 ⟨v181, rfl, ho0, hb⟩; refine ⟨_, rfl, ?_⟩; replace HO179 := Aside0.mk (Kd.R_below (zR HO179) hb); have HO182 := Aside0.mk (Kd.S_lower ho0 (below_size zB)); replace BK174 := Aside0.mk (blk_below (zk BK174) hb); replace HB := Aside0.mk (below_step zB hb); (try clear hb); (try clear hb2); (try clear hk); (try clear hi); (try clear ho0); obtain ⟨Ao24, co24, eo24⟩ := Kd.S_slice HO182.out; subst eo24))
    go_loopg [6, 29] kj2 (fun kq v6 v29 w' => ∃ (x6_2 : List ByteArray) (x29_2 : Int), v29 = .int .i64 x29_2 ∧ Aside0 (outer_Whole.l0 kq l1 x6_2 t180 (t180.length : Int) x29_2 = some (r1, r2)) ∧ Aside0 (kq ≤ kj2) ∧ Aside0 (Kd.R Kd.string 9 w' w.heap.size (fun _ => True) v6 x6_2) ∧ Aside0 (Kd.S (Kd.slice 3 (Kd.int .i64)) 26 w' w.heap.size (fun _ => True) (.slice Ao24 t180.length co24) t180) ∧ Aside0 (w'.heap[gb174]? = some (.cells #[.int .i64 a0_0, .int .i64 a0_1, .int .i64 a0_2, .int .i64 a0_3] 23 (0, 0))) ∧ Aside0 (Below w.heap.size w w'))
    case atStart => exact ⟨(t177), (0), zF, H', ⟨Nat.le_refl _⟩, ⟨zR HO179⟩, ⟨zS HO182⟩, ⟨zk BK174⟩, ⟨zB⟩⟩
    case round =>
     clear H'
     obtain ⟨x6_2, x29_2, rfl, HA, HK2, HO_6, HO_27, BK174, HB⟩ := hrel
     cases gk with
     | zero => exact absurd HA.out (by simp [outer_Whole.l0])
     | succ k2 =>
      have H := HA.out; clear HA; simp only [outer_Whole.l0] at H
      by_cases c25 : x29_2 < (t180.length : Int)
      ·
       rw [if_pos c25] at H
       have c25b0 : decide (x29_2 < (t180.length : Int)) = true := decide_eq_true c25
       clear c25; by_cases c26 : 0 ≤ x29_2
       ·
        rw [if_pos c26] at H
        have c26b0 : decide (0 ≤ x29_2) = true := decide_eq_true c26
        clear c26; by_cases c27 : x29_2 < (t180.length : Int)
        ·
         rw [if_pos c27] at H
         have c27b0 : decide (x29_2 < (t180.length : Int)) = true := decide_eq_true c27
         clear c27; by_cases c28 : 0 < (l1.length : Int)
         ·
          rw [if_pos c28] at H
          have c28b0 : decide (0 < (l1.length : Int)) = true := decide_eq_true c28
          have c28b1 : decide (0 < l1.length) = true := decide_eq_true (by omega)
          have c28b2 : (0 < l1.length) := by omega
          clear c28; replace H := Option.bind_eq_some_iff.mp H
          obtain ⟨t185, A290, H⟩ := H
          replace H : (if x6_2.length < 8796093022208 then (outer_Whole.l0 k2 l1 (x6_2 ++ [t185]) t180 (t180.length : Int) (wrap64 (x29_2 + 1))) else (none)) = some (r1, r2) := H
          have A29 := Aside0.mk A290
          clear A290; by_cases c30 : x6_2.length < 8796093022208
          ·
           rw [if_pos c30] at H
           have LMc30 := Aside0.mk c30
           clear c30; obtain ⟨y186, hy186⟩ : ∃ y_ : List ByteArray, y_ = (x6_2 ++ [t185]) := ⟨_, rfl⟩
           replace H : (outer_Whole.l0 k2 l1 y186 t180 (t180.length : Int) (wrap64 (x29_2 + 1))) = some (r1, r2) := by first | (rw [hy186]; with_reducible exact H) | (have H2_ := (Option.bind_some _ _).symm.trans H; rw [hy186]; with_reducible exact H2_) | (have H2_ := (Option.bind_some _ _).symm.trans H; with_reducible exact H2_) | with_reducible exact H | (rw [hy186]; exact H) | exact H
           have Ny186 := Aside0.mk hy186
           clear hy186; have H' := Aside0.mk H
           clear H; have p183 : 0 ≤ (x29_2 : Int) := of_decide_eq_true zA
           have q183 : x29_2 < (t180.length : Int) := of_decide_eq_true zA
           obtain ⟨ad183, A183_0, c183_0, e183, hx183_0, hl183_0, hi183_0⟩ := at_L3 (Kd.S_reads' HO_27.out).2.2 x29_2 p183 q183
           cases e183
           obtain ⟨ce183, hce183, hMe183, hcc183⟩ := Kd.S_get HO_27.out [] x29_2 p183 (by first | exact q183 | exact of_decide_eq_true zA | (have e_ := (Kd.S_reads' HO_27.out).1; omega))
           obtain ⟨ve183_0, rfl, ge183_0⟩ := hMe183
           have hv183_0 := hcc183 0 _ rfl
           rw [Nat.add_zero, show ((Kd.slice 3 (Kd.int .i64))).sz = 1 from rfl, Nat.mul_one] at hv183_0
           replace hv183_0 := Option.some.inj (hv183_0.symm.trans hx183_0)
           rw [hv183_0] at ge183_0
           have HL183_0 := Aside0.mk (show Kd.R (Kd.int .i64) 3 _ _ _ _ (rd_L3 t180 x29_2) from ge183_0)
           clear hv183_0 ge183_0 hcc183 hce183; have HR183_0 := Aside0.mk hi183_0
           have HC183_0 := Aside0.mk hl183_0
           clear hi183_0 hl183_0; replace p183 := eq_true p183
           replace q183 := eq_true q183
           have p184 : 0 ≤ (0 : Int) := (by omega)
           have q184 : 0 < (l1.length : Int) := of_decide_eq_true zA
           obtain ⟨ad184, e184, hx184_0⟩ := Kd.at_string HR1.out 0 p184 q184
           cases e184
           have qi184 : (0 < l1.length) = True := eq_true (by omega)
           (try rw [show ((0 : Int)).toNat = 0 from rfl] at hx184_0)
           (try rw [Addr.add_zero'] at hx184_0)
           (try replace hx184_0 := (HB.out.cell (World.block_lt_of_cell? w _ hx184_0)).trans hx184_0)
           replace p184 := eq_true p184
           replace q184 := eq_true q184
           go_wp2_with (first | ((with_reducible refine gate_callee (f := 37) rfl ?_); refine goesL_ (some 40) rfl rfl Tryz.func37 (by kernel_rfl) rfl #[.slice (some ad184) l1.length c1, .slice A183_0 (rd_L3 t180 x29_2).length c183_0, .int .i64 ((rdOf ByteArray.empty l1 0).size : Int)] rfl zM ?_; (with_reducible refine (outer_sum.calls k2 _ _ l1 _ _ (rd_L3 t180 x29_2) ((rdOf ByteArray.empty l1 0).size : Int) t185 _ ?side1 ?side2 ?side3 ?side4 A29.out).mono ?_); (case side1 => exact zCB HR1); (case side2 => exact HC1.out); (case side3 => exact zC HR183_0); (case side4 => exact HC183_0.out); rintro e w31 ⟨rfl, hb⟩; refine ⟨_, rfl, ?_⟩; replace HO_6 := Aside0.mk (Kd.R_below (zR HO_6) hb); replace HO_27 := Aside0.mk (Kd.S_below (zS HO_27) hb); replace HL183_0 := Aside0.mk (Kd.R_below (zR HL183_0) hb); replace BK174 := Aside0.mk (blk_below (zk BK174) hb); replace HR183_0 := Aside0.mk (Kd.C_below (zC HR183_0) hb); replace HB := Aside0.mk (below_step zB hb); (try clear hb); (try clear hb2); (try clear hk); (try clear hi)) | ((with_reducible refine gate_builtin (b := .append) (xs := #[.tmp 33, .tmp 41]) rfl ?_); (try (refine gate_guard (by rfl) ?_; dsimp only)); at_builtin; refine Kd.R_append Kd.string (w0 := w) w.heap.size rfl (.tmp 33) (.tmp 41) 41 9 (.string ⟨#[]⟩) 16 rfl Tryz.underlying41 info9 rfl (by decide) (by omega) u6 x6_2 t185 [.string t185] (fun _ => True) (fun _ => False) rfl rfl ?aP (fun _ hk => hk.elim) ?aF ?aO ?aB ?aS ?aL ?_; (case aP => exact rfl); (case aB => exact zB); (case aF => exact (fun _ _ => trivial)); (case aO => exact (by (with_reducible repeat (first | apply Kd.R_alloc | apply Kd.R_drewN | apply Kd.R_drew)); exact HO_6.out)); (case aS => exact (below_size zB)); (case aL => have := LMc30.out; omega); intro v187 w32 ho hb hg hat; rw [← Ny186.out] at ho; replace HO_27 := Aside0.mk (Kd.S_over' (by (with_reducible repeat (first | apply Kd.S_alloc | apply Kd.S_drewN | apply Kd.S_drew)); exact HO_27.out) (Kd.R_typed (by (with_reducible repeat (first | apply Kd.R_alloc | apply Kd.R_drewN | apply Kd.R_drew)); exact HO_6.out)) (by decide) hg); replace BK174 := Aside0.mk (blk_grown (zk BK174) hg (Kd.R_ne HO_6.out BK174.out (by decide))); replace HL183_0 := Aside0.mk (Kd.R_over' (by (with_reducible repeat (first | apply Kd.R_alloc | apply Kd.R_drewN | apply Kd.R_drew)); exact HL183_0.out) (Kd.R_typed (by (with_reducible repeat (first | apply Kd.R_alloc | apply Kd.R_drewN | apply Kd.R_drew)); exact HO_6.out)) (by decide) hg); have HO188 := Aside0.mk (ho); replace HB := Aside0.mk (hb); clear HO_6; clear ho hb hg hat))
           go_roundg k2
           case measure => have := HJ2.out; have := HK2.out; omega
           case rel => exact ⟨(y186), (wrap64 (x29_2 + 1)), zF, H', ⟨by have := HJ2.out; have := HK2.out; omega⟩, ⟨zR HO188⟩, ⟨zS HO_27⟩, ⟨zk BK174⟩, ⟨zB⟩⟩
          ·
           rw [if_neg c30] at H
           exact absurd H (by simp)
         ·
          rw [if_neg c28] at H
          exact absurd H (by simp)
        ·
         rw [if_neg c27] at H
         exact absurd H (by simp)
       ·
        rw [if_neg c26] at H
        exact absurd H (by simp)
      ·
       rw [if_neg c25] at H
       have c25b0 : decide (x29_2 < (t180.length : Int)) = false := decide_eq_false c25
       clear c25; simp only [Option.some.injEq, Prod.mk.injEq] at H
       obtain ⟨rfl, rfl⟩ := H
       go_wp2
       go_ret2
       exact ⟨_, zE, by (with_reducible repeat (first | apply Kd.R_alloc | apply Kd.R_drewN | apply Kd.R_drew)); exact HO_6.out, zB⟩
/-! ### mosaicref03_Same: function 21 -/
def mosaicref03_Same.l0 : Nat → List ByteArray → List ByteArray → Int → Option (Bool)
 | 0, _, _, _ => none
 | k + 1, x0, x1, x5 => if x5 < (x0.length : Int) then (if 0 ≤ x5 then (if x5 < (x1.length : Int) then (if (rdOf ByteArray.empty x0 x5).toList = (rdOf ByteArray.empty x1 x5).toList then (mosaicref03_Same.l0 k x0 x1 (wrap64 (x5 + 1))) else (some false)) else (none)) else (none)) else (some true)
def mosaicref03_Same.f (k : Nat) (l0 : List ByteArray) (l1 : List ByteArray) : Option (Bool) := if (l0.length : Int) = (l1.length : Int) then (mosaicref03_Same.l0 k l0 l1 0) else (some false)
theorem mosaicref03_Same.mono_l : ∀ k, (∀ y0 y1 y2, LeO (mosaicref03_Same.l0 k y0 y1 y2) (mosaicref03_Same.l0 (k + 1) y0 y1 y2))
 | 0 => fun _ _ _ r h => by simp [mosaicref03_Same.l0] at h
 | k + 1 => by
  have ih0 := mosaicref03_Same.mono_l k
  ·
   intro y0 y1 y2
   unfold mosaicref03_Same.l0
   repeat' first | (with_reducible first | apply ih0 | exact LeO.refl _ | exact LeO.none _ | refine LeO.ite ?_ ?_ | refine LeO.bind ?_ (fun _ => ?_)) | apply ih0 | exact LeO.none _ | refine LeO.ite ?_ ?_ | refine LeO.bind ?_ (fun _ => ?_)
theorem mosaicref03_Same.mono : ∀ a0 a1 k, LeO (mosaicref03_Same.f k a0 a1) (mosaicref03_Same.f (k + 1) a0 a1) := by
 intro a0 a1 k
 have ih0 := mosaicref03_Same.mono_l k
 unfold mosaicref03_Same.f
 repeat' first | (with_reducible first | apply ih0 | exact LeO.refl _ | exact LeO.none _ | refine LeO.ite ?_ ?_ | refine LeO.bind ?_ (fun _ => ?_)) | apply ih0 | exact LeO.none _ | refine LeO.ite ?_ ?_ | refine LeO.bind ?_ (fun _ => ?_)
set_option maxHeartbeats 8000000 in
set_option maxRecDepth 100000 in
theorem mosaicref03_Same.calls (k : Nat) (A0 : Option Addr) (c0 : Nat) (l0 : List ByteArray) (A1 : Option Addr) (c1 : Nat) (l1 : List ByteArray) (r : Bool) (w : World) (hr0 : Kd.C Kd.string w A0 l0.length l0) (hc0 : l0.length ≤ c0) (hr1 : Kd.C Kd.string w A1 l1.length l1) (hc1 : l1.length ≤ c1) (h : mosaicref03_Same.f k l0 l1 = some r) :
  Calls Tryz.prog 21 #[.slice A0 l0.length c0, .slice A1 l1.length c1] w fun e w' => e = .returned (.bool r) ∧ Drawn0 w w' := by
 have HR0 := Aside0.mk hr0
 have HC0 := Aside0.mk hc0
 clear hr0 hc0; have HR1 := Aside0.mk hr1
 have HC1 := Aside0.mk hc1
 clear hr1 hc1; have H : (if (l0.length : Int) = (l1.length : Int) then (mosaicref03_Same.l0 k l0 l1 0) else (some false)) = some r := h
 clear h; by_cases c3 : (l0.length : Int) = (l1.length : Int)
 ·
  rw [if_pos c3] at H
  have c3b0 : ((l0.length : Int) == (l1.length : Int)) = true := beq_iff_eq.mpr c3
  have c3b1 : ((l0.length : Int) != (l1.length : Int)) = false := bne_eq_false_iff_eq.mpr c3
  have c3b2 : (l0.length == l1.length) = true := by first | simpa using c3 | (simp at c3 ⊢; omega)
  clear c3; have H' := Aside0.mk H
  clear H; go_enter Tryz.func21, Tryz.ntmps21
  go_wp2
  repeat (go_quiet (fail); try go_wp2)
  go_loopg [5] k (fun kq v5 w' => ∃ (x5_1 : Int), v5 = .int .i64 x5_1 ∧ Aside0 (mosaicref03_Same.l0 kq l0 l1 x5_1 = some r) ∧ Aside0 (kq ≤ k) ∧ Drawn0 w w')
  case atStart => exact ⟨(0), zF, H', ⟨Nat.le_refl _⟩, by repeat (first | exact Drawn0.refl _ | apply Drawn0.step)⟩
  case round =>
   clear H'
   obtain ⟨x5_1, rfl, HA, HK1, ⟨m1, rfl⟩⟩ := hrel
   cases gk with
   | zero => exact absurd HA.out (by simp [mosaicref03_Same.l0])
   | succ k1 =>
    have H := HA.out; clear HA; simp only [mosaicref03_Same.l0] at H
    by_cases c4 : x5_1 < (l0.length : Int)
    ·
     rw [if_pos c4] at H
     have c4b0 : decide (x5_1 < (l0.length : Int)) = true := decide_eq_true c4
     clear c4; by_cases c5 : 0 ≤ x5_1
     ·
      rw [if_pos c5] at H
      have c5b0 : decide (0 ≤ x5_1) = true := decide_eq_true c5
      clear c5; by_cases c6 : x5_1 < (l1.length : Int)
      ·
       rw [if_pos c6] at H
       have c6b0 : decide (x5_1 < (l1.length : Int)) = true := decide_eq_true c6
       clear c6; by_cases c7 : (rdOf ByteArray.empty l0 x5_1).toList = (rdOf ByteArray.empty l1 x5_1).toList
       ·
        rw [if_pos c7] at H
        have c7b0 : ((rdOf ByteArray.empty l0 x5_1).toList == (rdOf ByteArray.empty l1 x5_1).toList) = true := beq_iff_eq.mpr c7
        have c7b1 : ((rdOf ByteArray.empty l0 x5_1).toList != (rdOf ByteArray.empty l1 x5_1).toList) = false := bne_eq_false_iff_eq.mpr c7
        clear c7; have H' := Aside0.mk H
        clear H; have p189 : 0 ≤ (x5_1 : Int) := of_decide_eq_true zA
        have q189 : x5_1 < (l0.length : Int) := of_decide_eq_true zA
        obtain ⟨ad189, e189, hx189_0⟩ := Kd.at_string HR0.out x5_1 p189 q189
        cases e189
        replace p189 := eq_true p189
        replace q189 := eq_true q189
        have p190 : 0 ≤ (x5_1 : Int) := of_decide_eq_true zA
        have q190 : x5_1 < (l1.length : Int) := of_decide_eq_true zA
        obtain ⟨ad190, e190, hx190_0⟩ := Kd.at_string HR1.out x5_1 p190 q190
        cases e190
        replace p190 := eq_true p190
        replace q190 := eq_true q190
        go_wp2
        repeat (go_quiet (fail); try go_wp2)
        go_roundg k1
        case measure => have := HK1.out; omega
        case rel => exact ⟨(wrap64 (x5_1 + 1)), zF, H', ⟨by have := HK1.out; omega⟩, by repeat (first | exact Drawn0.refl _ | apply Drawn0.step)⟩
       ·
        rw [if_neg c7] at H
        have c7b0 : ((rdOf ByteArray.empty l0 x5_1).toList == (rdOf ByteArray.empty l1 x5_1).toList) = false := beq_eq_false_iff_ne.mpr c7
        have c7b1 : ((rdOf ByteArray.empty l0 x5_1).toList != (rdOf ByteArray.empty l1 x5_1).toList) = true := bne_iff_ne.mpr c7
        obtain rfl := Option.some.inj H
        have p189 : 0 ≤ (x5_1 : Int) := of_decide_eq_true zA
        have q189 : x5_1 < (l0.length : Int) := of_decide_eq_true zA
        obtain ⟨ad189, e189, hx189_0⟩ := Kd.at_string HR0.out x5_1 p189 q189
        cases e189
        replace p189 := eq_true p189
        replace q189 := eq_true q189
        have p190 : 0 ≤ (x5_1 : Int) := of_decide_eq_true zA
        have q190 : x5_1 < (l1.length : Int) := of_decide_eq_true zA
        obtain ⟨ad190, e190, hx190_0⟩ := Kd.at_string HR1.out x5_1 p190 q190
        cases e190
        replace p190 := eq_true p190
        replace q190 := eq_true q190
        go_wp2
        repeat (go_quiet (fail); try go_wp2)
        go_ret
        exact ⟨by first | rfl | (simp; done) | (simp [*]; done), by repeat (first | exact Drawn0.refl _ | apply Drawn0.step)⟩
      ·
       rw [if_neg c6] at H
       exact absurd H (by simp)
     ·
      rw [if_neg c5] at H
      exact absurd H (by simp)
    ·
     rw [if_neg c4] at H
     have c4b0 : decide (x5_1 < (l0.length : Int)) = false := decide_eq_false c4
     clear c4; obtain rfl := Option.some.inj H
     go_wp2
     repeat (go_quiet (fail); try go_wp2)
     go_ret
     exact ⟨by first | rfl | (simp; done) | (simp [*]; done), by repeat (first | exact Drawn0.refl _ | apply Drawn0.step)⟩
 ·
  rw [if_neg c3] at H
  have c3b0 : ((l0.length : Int) == (l1.length : Int)) = false := beq_eq_false_iff_ne.mpr c3
  have c3b1 : ((l0.length : Int) != (l1.length : Int)) = true := bne_iff_ne.mpr c3
  have c3b2 : (l0.length == l1.length) = false := by first | simpa using c3 | (simp at c3 ⊢; omega)
  obtain rfl := Option.some.inj H
  go_enter Tryz.func21, Tryz.ntmps21
  go_wp2
  repeat (go_quiet (fail); try go_wp2)
  go_ret
  exact ⟨by first | rfl | (simp; done) | (simp [*]; done), by repeat (first | exact Drawn0.refl _ | apply Drawn0.step)⟩
/-! ### mosaiclaw09_awake: function 11 -/
def mosaiclaw09_awake.f (k : Nat)  : Option (Bool) := (outer_Rules.f k 0 1 1 1).bind fun bt192 => ((outer_Whole.f k 0 1 1 1 (([(⟨#[97, 98]⟩ : ByteArray)] : List ByteArray))).bind fun bt199 => (if bt192.2 = 0 then (if bt199.2 = 0 then (if (bt192.1.length : Int) = 1 then (if 0 < (bt192.1.length : Int) then ((mosaicref04_Same.f k (rd_L3 bt192.1 0) (([0, 1] : List Int))).bind fun t207 => (if t207 = true then ((mosaicref03_Same.f k bt199.1 (([(⟨#[97, 98]⟩ : ByteArray), (⟨#[97, 98]⟩ : ByteArray)] : List ByteArray))).bind fun t211 => (some t211)) else (some false))) else (none)) else (some false)) else (some false)) else (some false)))
theorem mosaiclaw09_awake.mono : ∀ k, LeO (mosaiclaw09_awake.f k ) (mosaiclaw09_awake.f (k + 1) ) := by
 intro  k
 unfold mosaiclaw09_awake.f
 repeat' first | (with_reducible first | apply mosaicref03_Same.mono | apply mosaicref04_Same.mono | apply outer_Rules.mono | apply outer_Whole.mono | exact LeO.refl _ | exact LeO.none _ | refine LeO.ite ?_ ?_ | refine LeO.bind ?_ (fun _ => ?_)) | apply mosaicref03_Same.mono | apply mosaicref04_Same.mono | apply outer_Rules.mono | apply outer_Whole.mono | exact LeO.none _ | refine LeO.ite ?_ ?_ | refine LeO.bind ?_ (fun _ => ?_)
set_option maxHeartbeats 8000000 in
set_option maxRecDepth 100000 in
theorem mosaiclaw09_awake.calls (k : Nat)  (r : Bool) (w : World) (h : mosaiclaw09_awake.f k  = some r) :
  Calls Tryz.prog 11 #[] w fun e w' => e = .returned (.bool r) ∧ Below w.heap.size w w' := by
 have hu23 := Tryz.underlying23; have HB := Aside0.mk (Below.refl w.heap.size w)
 have H : ((outer_Rules.f k 0 1 1 1).bind fun bt192 => ((outer_Whole.f k 0 1 1 1 (([(⟨#[97, 98]⟩ : ByteArray)] : List ByteArray))).bind fun bt199 => (if bt192.2 = 0 then (if bt199.2 = 0 then (if (bt192.1.length : Int) = 1 then (if 0 < (bt192.1.length : Int) then ((mosaicref04_Same.f k (rd_L3 bt192.1 0) (([0, 1] : List Int))).bind fun t207 => (if t207 = true then ((mosaicref03_Same.f k bt199.1 (([(⟨#[97, 98]⟩ : ByteArray), (⟨#[97, 98]⟩ : ByteArray)] : List ByteArray))).bind fun t211 => (some t211)) else (some false))) else (none)) else (some false)) else (some false)) else (some false)))) = some r := h
 clear h; replace H := Option.bind_eq_some_iff.mp H
 obtain ⟨⟨t192, t195⟩, A10, H⟩ := H
 replace H : ((outer_Whole.f k 0 1 1 1 (([(⟨#[97, 98]⟩ : ByteArray)] : List ByteArray))).bind fun bt199 => (if t195 = 0 then (if bt199.2 = 0 then (if (t192.length : Int) = 1 then (if 0 < (t192.length : Int) then ((mosaicref04_Same.f k (rd_L3 t192 0) (([0, 1] : List Int))).bind fun t207 => (if t207 = true then ((mosaicref03_Same.f k bt199.1 (([(⟨#[97, 98]⟩ : ByteArray), (⟨#[97, 98]⟩ : ByteArray)] : List ByteArray))).bind fun t211 => (some t211)) else (some false))) else (none)) else (some false)) else (some false)) else (some false))) = some r := H
 have A1 := Aside0.mk A10
 clear A10; obtain ⟨y196, hy196⟩ : ∃ y_ : List ByteArray, y_ = (([(⟨#[97, 98]⟩ : ByteArray)] : List ByteArray)) := ⟨_, rfl⟩
 replace H : ((outer_Whole.f k 0 1 1 1 y196).bind fun bt199 => (if t195 = 0 then (if bt199.2 = 0 then (if (t192.length : Int) = 1 then (if 0 < (t192.length : Int) then ((mosaicref04_Same.f k (rd_L3 t192 0) (([0, 1] : List Int))).bind fun t207 => (if t207 = true then ((mosaicref03_Same.f k bt199.1 (([(⟨#[97, 98]⟩ : ByteArray), (⟨#[97, 98]⟩ : ByteArray)] : List ByteArray))).bind fun t211 => (some t211)) else (some false))) else (none)) else (some false)) else (some false)) else (some false))) = some r := by first | (rw [hy196]; with_reducible exact H) | (have H2_ := (Option.bind_some _ _).symm.trans H; rw [hy196]; with_reducible exact H2_) | (have H2_ := (Option.bind_some _ _).symm.trans H; with_reducible exact H2_) | with_reducible exact H | (rw [hy196]; exact H) | exact H
 have Ny196 := Aside0.mk hy196
 clear hy196; replace H := Option.bind_eq_some_iff.mp H
 obtain ⟨⟨t199, t202⟩, A20, H⟩ := H
 replace H : (if t195 = 0 then (if t202 = 0 then (if (t192.length : Int) = 1 then (if 0 < (t192.length : Int) then ((mosaicref04_Same.f k (rd_L3 t192 0) (([0, 1] : List Int))).bind fun t207 => (if t207 = true then ((mosaicref03_Same.f k t199 (([(⟨#[97, 98]⟩ : ByteArray), (⟨#[97, 98]⟩ : ByteArray)] : List ByteArray))).bind fun t211 => (some t211)) else (some false))) else (none)) else (some false)) else (some false)) else (some false)) = some r := H
 have A2 := Aside0.mk A20
 clear A20; by_cases c3 : t195 = 0
 ·
  rw [if_pos c3] at H
  have c3b0 : (t195 == 0) = true := beq_iff_eq.mpr c3
  have c3b1 : (t195 != 0) = false := bne_eq_false_iff_eq.mpr c3
  clear c3; by_cases c4 : t202 = 0
  ·
   rw [if_pos c4] at H
   have c4b0 : (t202 == 0) = true := beq_iff_eq.mpr c4
   have c4b1 : (t202 != 0) = false := bne_eq_false_iff_eq.mpr c4
   clear c4; by_cases c5 : (t192.length : Int) = 1
   ·
    rw [if_pos c5] at H
    have c5b0 : ((t192.length : Int) == 1) = true := beq_iff_eq.mpr c5
    have c5b1 : ((t192.length : Int) != 1) = false := bne_eq_false_iff_eq.mpr c5
    clear c5; by_cases c6 : 0 < (t192.length : Int)
    ·
     rw [if_pos c6] at H
     have c6b0 : decide (0 < (t192.length : Int)) = true := decide_eq_true c6
     have c6b1 : decide (0 < t192.length) = true := decide_eq_true (by omega)
     have c6b2 : (0 < t192.length) := by omega
     clear c6; obtain ⟨y204, hy204⟩ : ∃ y_ : List Int, y_ = (([0, 1] : List Int)) := ⟨_, rfl⟩
     replace H : ((mosaicref04_Same.f k (rd_L3 t192 0) y204).bind fun t207 => (if t207 = true then ((mosaicref03_Same.f k t199 (([(⟨#[97, 98]⟩ : ByteArray), (⟨#[97, 98]⟩ : ByteArray)] : List ByteArray))).bind fun t211 => (some t211)) else (some false))) = some r := by first | (rw [hy204]; with_reducible exact H) | (have H2_ := (Option.bind_some _ _).symm.trans H; rw [hy204]; with_reducible exact H2_) | (have H2_ := (Option.bind_some _ _).symm.trans H; with_reducible exact H2_) | with_reducible exact H | (rw [hy204]; exact H) | exact H
     have Ny204 := Aside0.mk hy204
     clear hy204; replace H := Option.bind_eq_some_iff.mp H
     obtain ⟨t207, A70, H⟩ := H
     replace H : (if t207 = true then ((mosaicref03_Same.f k t199 (([(⟨#[97, 98]⟩ : ByteArray), (⟨#[97, 98]⟩ : ByteArray)] : List ByteArray))).bind fun t211 => (some t211)) else (some false)) = some r := H
     have A7 := Aside0.mk A70
     clear A70; by_cases c8 : t207 = true
     ·
      subst c8
      have H1 : ((mosaicref03_Same.f k t199 (([(⟨#[97, 98]⟩ : ByteArray), (⟨#[97, 98]⟩ : ByteArray)] : List ByteArray))).bind fun t211 => (some t211)) = some r := by rw [if_pos rfl] at H; exact H
      clear H; have H := H1; clear H1; obtain ⟨y208, hy208⟩ : ∃ y_ : List ByteArray, y_ = (([(⟨#[97, 98]⟩ : ByteArray), (⟨#[97, 98]⟩ : ByteArray)] : List ByteArray)) := ⟨_, rfl⟩
      replace H : ((mosaicref03_Same.f k t199 y208).bind fun t211 => (some t211)) = some r := by first | (rw [hy208]; with_reducible exact H) | (have H2_ := (Option.bind_some _ _).symm.trans H; rw [hy208]; with_reducible exact H2_) | (have H2_ := (Option.bind_some _ _).symm.trans H; with_reducible exact H2_) | with_reducible exact H | (rw [hy208]; exact H) | exact H
      have Ny208 := Aside0.mk hy208
      clear hy208; replace H := Option.bind_eq_some_iff.mp H
      obtain ⟨t211, A90, H⟩ := H
      replace H : (some t211) = some r := H
      have A9 := Aside0.mk A90
      clear A90; obtain rfl := Option.some.inj H
      go_enter Tryz.func11, Tryz.ntmps11
      go_wp2_with (first | ((with_reducible refine gate_dst (N := 1) rfl ?_); (try (refine gate_guard (by rfl) ?_; dsimp only)); refine box_event ?hg (N := 1) ?hd (cs := #[.int .i64 0, .int .i64 0, .int .i64 0, .int .i64 0]) (t := 23) ?hr ?_; (case hd => rfl); (case hg => rfl); (case hr => first | (go_simp; done) | (go_simp; rfl)); intro gb191 hg w10 hbox hb; have BK191 := Aside0.mk (hbox); have GW191 := Aside0.mk ((zg : w.heap.size ≤ gb191)); have GE191 := Aside0.mk ((zg : w.heap.size ≤ gb191)); replace HB := Aside0.mk (below_step zB hb); clear hb hbox hg; obtain ⟨hcz11_0, hcz11_1, hcz11_2, hcz11_3⟩ := cZ4 BK191; obtain ⟨hfz11_0, hfz11_1, hfz11_2, hfz11_3⟩ := dZ4 BK191) | ((with_reducible refine gate_callee (f := 9) rfl ?_); refine goesL_ (some 9) rfl rfl Tryz.func9 (by kernel_rfl) rfl #[.agg #[.int .i64 0, .int .i64 1, .int .i64 1, .int .i64 1]] rfl zM ?_; (with_reducible refine (outer_Rules.calls k 0 1 1 1 t192 t195 _ A1.out).mono ?_); rintro e w12 ⟨v193, rfl, ho0, hb⟩; refine ⟨_, rfl, ?_⟩; have HO194 := Aside0.mk (Kd.S_lower ho0 (below_size zB)); replace BK191 := Aside0.mk (blk_below (g := gb191) (o := .cells #[.int .i64 0, .int .i64 1, .int .i64 1, .int .i64 1] 23 (0, 0)) (by (with_reducible repeat (first | refine blk_drewN ?_ _ | refine blk_drew ?_ | refine blk_alloc ?_ _)); refine blk_put (cs := #[.int .i64 0, .int .i64 1, .int .i64 1, .int .i64 0]) ?_ 3 _ rfl; (with_reducible repeat (first | refine blk_drewN ?_ _ | refine blk_drew ?_ | refine blk_alloc ?_ _)); refine blk_put (cs := #[.int .i64 0, .int .i64 1, .int .i64 0, .int .i64 0]) ?_ 2 _ rfl; (with_reducible repeat (first | refine blk_drewN ?_ _ | refine blk_drew ?_ | refine blk_alloc ?_ _)); refine blk_put (cs := #[.int .i64 0, .int .i64 0, .int .i64 0, .int .i64 0]) ?_ 1 _ rfl; (with_reducible repeat (first | refine blk_drewN ?_ _ | refine blk_drew ?_ | refine blk_alloc ?_ _)); refine blk_put (cs := #[.int .i64 0, .int .i64 0, .int .i64 0, .int .i64 0]) ?_ 0 _ rfl; (with_reducible repeat (first | refine blk_drewN ?_ _ | refine blk_drew ?_ | refine blk_alloc ?_ _)); exact BK191.out) hb); replace HB := Aside0.mk (below_step zB hb); (try clear hb); (try clear hb2); (try clear hk); (try clear hi); (try clear ho0); obtain ⟨hcz13_0, hcz13_1, hcz13_2, hcz13_3⟩ := cZ4 BK191; obtain ⟨hfz13_0, hfz13_1, hfz13_2, hfz13_3⟩ := dZ4 BK191) | ((with_reducible refine gate_dst (N := 14) rfl ?_); (try (refine gate_guard (by rfl) ?_; dsimp only)); refine Kd.R_lit Kd.string _ 9 ?hg (N := 14) ?hd (xs := ([(⟨#[97, 98]⟩ : ByteArray)] : List ByteArray)) (inner := [.string (⟨#[97, 98]⟩ : ByteArray)]) (ok := fun _ => True) (okp := fun _ => True) ?hr ?hp (fun _ hk => hk) trivial (Below.refl _ _) (Nat.le_refl _) (by simp) ?_; (case hd => rfl); (case hg => rfl); (case hr => first | (go_simp; done) | (go_simp; rfl)); (case hp => exact (Reps.one (show Kd.M Kd.string _ _ _ (⟨#[97, 98]⟩ : ByteArray) [.string (⟨#[97, 98]⟩ : ByteArray)] from rfl) (Reps.none _ _))); intro v197 w14 ho15 hb hg_ hnew_; clear hg_ hnew_; (first | rw [← Ny196.out] at ho15 | (simp only [Int.reduceToNat] at ho15; rw [← Ny196.out] at ho15)); replace HO194 := Aside0.mk (Kd.S_below (zS HO194) hb); have HO198 := Aside0.mk (Kd.R_lower ho15 (below_size zB)); replace BK191 := Aside0.mk (blk_below (zk BK191) hb); replace HB := Aside0.mk (below_step zB hb); clear hb ho15; obtain ⟨Ao16, co16, eo16⟩ := Kd.R_slice HO198.out; subst eo16) | ((with_reducible refine gate_callee (f := 19) rfl ?_); refine goesL_ (some 15) rfl rfl Tryz.func19 (by kernel_rfl) rfl #[.agg #[.int .i64 0, .int .i64 1, .int .i64 1, .int .i64 1], .slice Ao16 y196.length co16] rfl zM ?_; (with_reducible refine (outer_Whole.calls k 0 1 1 1 _ _ y196 t199 t202 _ ?side1 ?side2 A2.out).mono ?_); (case side1 => exact zRC HO198); (case side2 => exact (Kd.R_reads' HO198.out).2.1); rintro e w17 ⟨v200, rfl, ho0, hb⟩; refine ⟨_, rfl, ?_⟩; have n0_ := Aside0.mk (Kd.S_below (zS HO194) hb); have n1_ := Aside0.mk (Kd.R_elder' (by (with_reducible repeat (first | apply Kd.R_alloc | apply Kd.R_drewN | apply Kd.R_drew)); exact HO198.out) (Kd.R_base ho0) hb); have n2_ := Aside0.mk (Kd.R_lower (Kd.R_new' ho0 (Kd.R_lt (by (with_reducible repeat (first | apply Kd.R_alloc | apply Kd.R_drewN | apply Kd.R_drew)); exact HO198.out))) (below_size zB)); have n3_ := Aside0.mk (blk_below (zk BK191) hb); have n4_ := Aside0.mk (below_step zB hb); clear HO194; clear HO198; clear BK191; clear HB; have HO194 := n0_; have HO198 := n1_; have HO201 := n2_; have BK191 := n3_; have HB := n4_; clear n0_ n1_ n2_ n3_ n4_; (try clear hb); (try clear hb2); (try clear hk); (try clear hi); (try clear ho0); obtain ⟨Ao18, co18, eo18⟩ := Kd.S_slice HO194.out; subst eo18; have p203 : 0 ≤ (0 : Int) := (by omega); have q203 : 0 < (t192.length : Int) := of_decide_eq_true zA; obtain ⟨ad203, A203_0, c203_0, e203, hx203_0, hl203_0, hi203_0⟩ := at_L3 (Kd.S_reads' HO194.out).2.2 0 p203 q203; cases e203; obtain ⟨ce203, hce203, hMe203, hcc203⟩ := Kd.S_get HO194.out [] 0 p203 (by first | exact q203 | exact of_decide_eq_true zA | (have e_ := (Kd.S_reads' HO194.out).1; omega)); obtain ⟨ve203_0, rfl, ge203_0⟩ := hMe203; have hv203_0 := hcc203 0 _ rfl; rw [Nat.add_zero, show ((Kd.slice 3 (Kd.int .i64))).sz = 1 from rfl, Nat.mul_one] at hv203_0; replace hv203_0 := Option.some.inj (hv203_0.symm.trans hx203_0); rw [hv203_0] at ge203_0; have HL203_0 := Aside0.mk (show Kd.R (Kd.int .i64) 3 _ _ _ _ (rd_L3 t192 0) from ge203_0); clear hv203_0 ge203_0; clear hcc203 hce203; have qi203 : (0 < t192.length) = True := eq_true (by omega); (try rw [show ((0 : Int)).toNat = 0 from rfl] at hx203_0); (try rw [Addr.add_zero'] at hx203_0); have HR203_0 := Aside0.mk hi203_0; have HC203_0 := Aside0.mk hl203_0; clear hi203_0 hl203_0; replace p203 := eq_true p203; replace q203 := eq_true q203) | ((with_reducible refine gate_dst (N := 33) rfl ?_); (try (refine gate_guard (by rfl) ?_; dsimp only)); refine Kd.R_lit (Kd.int .i64) _ 3 ?hg (N := 33) ?hd (xs := ([0, 1] : List Int)) (inner := [.int .i64 0, .int .i64 1]) (ok := fun _ => True) (okp := fun _ => True) ?hr ?hp (fun _ hk => hk) trivial (Below.refl _ _) (Nat.le_refl _) (by simp) ?_; (case hd => rfl); (case hg => rfl); (case hr => first | (go_simp; done) | (go_simp; rfl)); (case hp => exact (Reps.one (show Kd.M (Kd.int .i64) _ _ _ 0 [.int .i64 0] from rfl) (Reps.one (show Kd.M (Kd.int .i64) _ _ _ 1 [.int .i64 1] from rfl) (Reps.none _ _)))); intro v205 w19 ho20 hb hg_ hnew_; clear hg_ hnew_; (first | rw [← Ny204.out] at ho20 | (simp only [Int.reduceToNat] at ho20; rw [← Ny204.out] at ho20)); have n0_ := Aside0.mk (Kd.S_elder' (by (with_reducible repeat (first | apply Kd.S_alloc | apply Kd.S_drewN | apply Kd.S_drew)); exact HO194.out) (Kd.R_base ho20) hb); have n1_ := Aside0.mk (Kd.R_below (zR HO198) hb); have n2_ := Aside0.mk (Kd.R_below (zR HO201) hb); have n3_ := Aside0.mk (Kd.R_elder' (by (with_reducible repeat (first | apply Kd.R_alloc | apply Kd.R_drewN | apply Kd.R_drew)); exact HL203_0.out) (Kd.R_base ho20) hb); have n4_ := Aside0.mk (Kd.R_lower (Kd.R_new' ho20 (Kd.R_lt (by (with_reducible repeat (first | apply Kd.R_alloc | apply Kd.R_drewN | apply Kd.R_drew)); exact HL203_0.out))) (below_size zB)); have n5_ := Aside0.mk (blk_below (zk BK191) hb); have n6_ := Aside0.mk (Kd.C_below (zC HR203_0) hb); have n7_ := Aside0.mk (below_step zB hb); clear HO194; clear HO198; clear HO201; clear HL203_0; clear BK191; clear HR203_0; clear HB; have HO194 := n0_; have HO198 := n1_; have HO201 := n2_; have HL203_0 := n3_; have HO206 := n4_; have BK191 := n5_; have HR203_0 := n6_; have HB := n7_; clear n0_ n1_ n2_ n3_ n4_ n5_ n6_ n7_; clear hb ho20; obtain ⟨Ao21, co21, eo21⟩ := Kd.R_slice HO206.out; subst eo21) | (go_at_call 13; (with_reducible refine (mosaicref04_Same.calls k _ _ (rd_L3 t192 0) _ _ y204 true _ ?side1 ?side2 ?side3 ?side4 A7.out).mono ?_); (case side1 => exact zC HR203_0); (case side2 => exact HC203_0.out); (case side3 => exact zRC HO206); (case side4 => exact (Kd.R_reads' HO206.out).2.1); rintro e w' ⟨rfl, ⟨nd, rfl⟩⟩) | ((with_reducible refine gate_dst (N := 38) rfl ?_); (try (refine gate_guard (by rfl) ?_; dsimp only)); refine Kd.R_lit Kd.string _ 9 ?hg (N := 38) ?hd (xs := ([(⟨#[97, 98]⟩ : ByteArray), (⟨#[97, 98]⟩ : ByteArray)] : List ByteArray)) (inner := [.string (⟨#[97, 98]⟩ : ByteArray), .string (⟨#[97, 98]⟩ : ByteArray)]) (ok := fun _ => True) (okp := fun _ => True) ?hr ?hp (fun _ hk => hk) trivial (Below.refl _ _) (Nat.le_refl _) (by simp) ?_; (case hd => rfl); (case hg => rfl); (case hr => first | (go_simp; done) | (go_simp; rfl)); (case hp => exact (Reps.one (show Kd.M Kd.string _ _ _ (⟨#[97, 98]⟩ : ByteArray) [.string (⟨#[97, 98]⟩ : ByteArray)] from rfl) (Reps.one (show Kd.M Kd.string _ _ _ (⟨#[97, 98]⟩ : ByteArray) [.string (⟨#[97, 98]⟩ : ByteArray)] from rfl) (Reps.none _ _)))); intro v209 w22 ho23 hb hg_ hnew_; clear hg_ hnew_; (first | rw [← Ny208.out] at ho23 | (simp only [Int.reduceToNat] at ho23; rw [← Ny208.out] at ho23)); have n0_ := Aside0.mk (Kd.S_below (zS HO194) hb); have n1_ := Aside0.mk (Kd.R_elder' (by (with_reducible repeat (first | apply Kd.R_alloc | apply Kd.R_drewN | apply Kd.R_drew)); exact HO198.out) (Kd.R_base ho23) hb); have n2_ := Aside0.mk (Kd.R_elder' (by (with_reducible repeat (first | apply Kd.R_alloc | apply Kd.R_drewN | apply Kd.R_drew)); exact HO201.out) (Kd.R_base ho23) hb); have n3_ := Aside0.mk (Kd.R_below (zR HL203_0) hb); have n4_ := Aside0.mk (Kd.R_below (zR HO206) hb); have n5_ := Aside0.mk (Kd.R_lower (Kd.R_new' (Kd.R_new' ho23 (Kd.R_lt (by (with_reducible repeat (first | apply Kd.R_alloc | apply Kd.R_drewN | apply Kd.R_drew)); exact HO198.out))) (Kd.R_lt (by (with_reducible repeat (first | apply Kd.R_alloc | apply Kd.R_drewN | apply Kd.R_drew)); exact HO201.out))) (below_size zB)); have n6_ := Aside0.mk (blk_below (zk BK191) hb); have n7_ := Aside0.mk (Kd.C_below (zC HR203_0) hb); have n8_ := Aside0.mk (below_step zB hb); clear HO194; clear HO198; clear HO201; clear HL203_0; clear HO206; clear BK191; clear HR203_0; clear HB; have HO194 := n0_; have HO198 := n1_; have HO201 := n2_; have HL203_0 := n3_; have HO206 := n4_; have HO210 := n5_; have BK191 := n6_; have HR203_0 := n7_; have HB := n8_; clear n0_ n1_ n2_ n3_ n4_ n5_ n6_ n7_ n8_; clear hb ho23; obtain ⟨Ao24, co24, eo24⟩ := Kd.R_slice HO201.out; subst eo24; obtain ⟨Ao25, co25, eo25⟩ := Kd.R_slice HO210.out; subst eo25) | (go_at_call 21; (with_reducible refine (mosaicref03_Same.calls k _ _ t199 _ _ y208 t211 _ ?side1 ?side2 ?side3 ?side4 A9.out).mono ?_); (case side1 => exact zRC HO201); (case side2 => exact (Kd.R_reads' HO201.out).2.1); (case side3 => exact zRC HO210); (case side4 => exact (Kd.R_reads' HO210.out).2.1); rintro e w' ⟨rfl, ⟨nd, rfl⟩⟩))
      go_ret
      exact ⟨zE, zB⟩
     ·
      replace c8 := Bool.eq_false_iff.mpr c8
      subst c8
      have H1 : (some false) = some r := by rw [if_neg (show ¬ (false = true) by decide)] at H; exact H
      clear H; have H := H1; clear H1; obtain rfl := Option.some.inj H
      go_enter Tryz.func11, Tryz.ntmps11
      go_wp2_with (first | ((with_reducible refine gate_dst (N := 1) rfl ?_); (try (refine gate_guard (by rfl) ?_; dsimp only)); refine box_event ?hg (N := 1) ?hd (cs := #[.int .i64 0, .int .i64 0, .int .i64 0, .int .i64 0]) (t := 23) ?hr ?_; (case hd => rfl); (case hg => rfl); (case hr => first | (go_simp; done) | (go_simp; rfl)); intro gb191 hg w26 hbox hb; have BK191 := Aside0.mk (hbox); have GW191 := Aside0.mk ((zg : w.heap.size ≤ gb191)); have GE191 := Aside0.mk ((zg : w.heap.size ≤ gb191)); replace HB := Aside0.mk (below_step zB hb); clear hb hbox hg; obtain ⟨hcz27_0, hcz27_1, hcz27_2, hcz27_3⟩ := cZ4 BK191; obtain ⟨hfz27_0, hfz27_1, hfz27_2, hfz27_3⟩ := dZ4 BK191) | ((with_reducible refine gate_callee (f := 9) rfl ?_); refine goesL_ (some 9) rfl rfl Tryz.func9 (by kernel_rfl) rfl #[.agg #[.int .i64 0, .int .i64 1, .int .i64 1, .int .i64 1]] rfl zM ?_; (with_reducible refine (outer_Rules.calls k 0 1 1 1 t192 t195 _ A1.out).mono ?_); rintro e w28 ⟨v193, rfl, ho0, hb⟩; refine ⟨_, rfl, ?_⟩; have HO194 := Aside0.mk (Kd.S_lower ho0 (below_size zB)); replace BK191 := Aside0.mk (blk_below (g := gb191) (o := .cells #[.int .i64 0, .int .i64 1, .int .i64 1, .int .i64 1] 23 (0, 0)) (by (with_reducible repeat (first | refine blk_drewN ?_ _ | refine blk_drew ?_ | refine blk_alloc ?_ _)); refine blk_put (cs := #[.int .i64 0, .int .i64 1, .int .i64 1, .int .i64 0]) ?_ 3 _ rfl; (with_reducible repeat (first | refine blk_drewN ?_ _ | refine blk_drew ?_ | refine blk_alloc ?_ _)); refine blk_put (cs := #[.int .i64 0, .int .i64 1, .int .i64 0, .int .i64 0]) ?_ 2 _ rfl; (with_reducible repeat (first | refine blk_drewN ?_ _ | refine blk_drew ?_ | refine blk_alloc ?_ _)); refine blk_put (cs := #[.int .i64 0, .int .i64 0, .int .i64 0, .int .i64 0]) ?_ 1 _ rfl; (with_reducible repeat (first | refine blk_drewN ?_ _ | refine blk_drew ?_ | refine blk_alloc ?_ _)); refine blk_put (cs := #[.int .i64 0, .int .i64 0, .int .i64 0, .int .i64 0]) ?_ 0 _ rfl; (with_reducible repeat (first | refine blk_drewN ?_ _ | refine blk_drew ?_ | refine blk_alloc ?_ _)); exact BK191.out) hb); replace HB := Aside0.mk (below_step zB hb); (try clear hb); (try clear hb2); (try clear hk); (try clear hi); (try clear ho0); obtain ⟨hcz29_0, hcz29_1, hcz29_2, hcz29_3⟩ := cZ4 BK191; obtain ⟨hfz29_0, hfz29_1, hfz29_2, hfz29_3⟩ := dZ4 BK191) | ((with_reducible refine gate_dst (N := 14) rfl ?_); (try (refine gate_guard (by rfl) ?_; dsimp only)); refine Kd.R_lit Kd.string _ 9 ?hg (N := 14) ?hd (xs := ([(⟨#[97, 98]⟩ : ByteArray)] : List ByteArray)) (inner := [.string (⟨#[97, 98]⟩ : ByteArray)]) (ok := fun _ => True) (okp := fun _ => True) ?hr ?hp (fun _ hk => hk) trivial (Below.refl _ _) (Nat.le_refl _) (by simp) ?_; (case hd => rfl); (case hg => rfl); (case hr => first | (go_simp; done) | (go_simp; rfl)); (case hp => exact (Reps.one (show Kd.M Kd.string _ _ _ (⟨#[97, 98]⟩ : ByteArray) [.string (⟨#[97, 98]⟩ : ByteArray)] from rfl) (Reps.none _ _))); intro v197 w30 ho31 hb hg_ hnew_; clear hg_ hnew_; (first | rw [← Ny196.out] at ho31 | (simp only [Int.reduceToNat] at ho31; rw [← Ny196.out] at ho31)); replace HO194 := Aside0.mk (Kd.S_below (zS HO194) hb); have HO198 := Aside0.mk (Kd.R_lower ho31 (below_size zB)); replace BK191 := Aside0.mk (blk_below (zk BK191) hb); replace HB := Aside0.mk (below_step zB hb); clear hb ho31; obtain ⟨Ao32, co32, eo32⟩ := Kd.R_slice HO198.out; subst eo32) | ((with_reducible refine gate_callee (f := 19) rfl ?_); refine goesL_ (some 15) rfl rfl Tryz.func19 (by kernel_rfl) rfl #[.agg #[.int .i64 0, .int .i64 1, .int .i64 1, .int .i64 1], .slice Ao32 y196.length co32] rfl zM ?_; (with_reducible refine (outer_Whole.calls k 0 1 1 1 _ _ y196 t199 t202 _ ?side1 ?side2 A2.out).mono ?_); (case side1 => exact zRC HO198); (case side2 => exact (Kd.R_reads' HO198.out).2.1); rintro e w33 ⟨v200, rfl, ho0, hb⟩; refine ⟨_, rfl, ?_⟩; have n0_ := Aside0.mk (Kd.S_below (zS HO194) hb); have n1_ := Aside0.mk (Kd.R_elder' (by (with_reducible repeat (first | apply Kd.R_alloc | apply Kd.R_drewN | apply Kd.R_drew)); exact HO198.out) (Kd.R_base ho0) hb); have n2_ := Aside0.mk (Kd.R_lower (Kd.R_new' ho0 (Kd.R_lt (by (with_reducible repeat (first | apply Kd.R_alloc | apply Kd.R_drewN | apply Kd.R_drew)); exact HO198.out))) (below_size zB)); have n3_ := Aside0.mk (blk_below (zk BK191) hb); have n4_ := Aside0.mk (below_step zB hb); clear HO194; clear HO198; clear BK191; clear HB; have HO194 := n0_; have HO198 := n1_; have HO201 := n2_; have BK191 := n3_; have HB := n4_; clear n0_ n1_ n2_ n3_ n4_; (try clear hb); (try clear hb2); (try clear hk); (try clear hi); (try clear ho0); obtain ⟨Ao34, co34, eo34⟩ := Kd.S_slice HO194.out; subst eo34; have p203 : 0 ≤ (0 : Int) := (by omega); have q203 : 0 < (t192.length : Int) := of_decide_eq_true zA; obtain ⟨ad203, A203_0, c203_0, e203, hx203_0, hl203_0, hi203_0⟩ := at_L3 (Kd.S_reads' HO194.out).2.2 0 p203 q203; cases e203; obtain ⟨ce203, hce203, hMe203, hcc203⟩ := Kd.S_get HO194.out [] 0 p203 (by first | exact q203 | exact of_decide_eq_true zA | (have e_ := (Kd.S_reads' HO194.out).1; omega)); obtain ⟨ve203_0, rfl, ge203_0⟩ := hMe203; have hv203_0 := hcc203 0 _ rfl; rw [Nat.add_zero, show ((Kd.slice 3 (Kd.int .i64))).sz = 1 from rfl, Nat.mul_one] at hv203_0; replace hv203_0 := Option.some.inj (hv203_0.symm.trans hx203_0); rw [hv203_0] at ge203_0; have HL203_0 := Aside0.mk (show Kd.R (Kd.int .i64) 3 _ _ _ _ (rd_L3 t192 0) from ge203_0); clear hv203_0 ge203_0; clear hcc203 hce203; have qi203 : (0 < t192.length) = True := eq_true (by omega); (try rw [show ((0 : Int)).toNat = 0 from rfl] at hx203_0); (try rw [Addr.add_zero'] at hx203_0); have HR203_0 := Aside0.mk hi203_0; have HC203_0 := Aside0.mk hl203_0; clear hi203_0 hl203_0; replace p203 := eq_true p203; replace q203 := eq_true q203) | ((with_reducible refine gate_dst (N := 33) rfl ?_); (try (refine gate_guard (by rfl) ?_; dsimp only)); refine Kd.R_lit (Kd.int .i64) _ 3 ?hg (N := 33) ?hd (xs := ([0, 1] : List Int)) (inner := [.int .i64 0, .int .i64 1]) (ok := fun _ => True) (okp := fun _ => True) ?hr ?hp (fun _ hk => hk) trivial (Below.refl _ _) (Nat.le_refl _) (by simp) ?_; (case hd => rfl); (case hg => rfl); (case hr => first | (go_simp; done) | (go_simp; rfl)); (case hp => exact (Reps.one (show Kd.M (Kd.int .i64) _ _ _ 0 [.int .i64 0] from rfl) (Reps.one (show Kd.M (Kd.int .i64) _ _ _ 1 [.int .i64 1] from rfl) (Reps.none _ _)))); intro v205 w35 ho36 hb hg_ hnew_; clear hg_ hnew_; (first | rw [← Ny204.out] at ho36 | (simp only [Int.reduceToNat] at ho36; rw [← Ny204.out] at ho36)); have n0_ := Aside0.mk (Kd.S_elder' (by (with_reducible repeat (first | apply Kd.S_alloc | apply Kd.S_drewN | apply Kd.S_drew)); exact HO194.out) (Kd.R_base ho36) hb); have n1_ := Aside0.mk (Kd.R_below (zR HO198) hb); have n2_ := Aside0.mk (Kd.R_below (zR HO201) hb); have n3_ := Aside0.mk (Kd.R_elder' (by (with_reducible repeat (first | apply Kd.R_alloc | apply Kd.R_drewN | apply Kd.R_drew)); exact HL203_0.out) (Kd.R_base ho36) hb); have n4_ := Aside0.mk (Kd.R_lower (Kd.R_new' ho36 (Kd.R_lt (by (with_reducible repeat (first | apply Kd.R_alloc | apply Kd.R_drewN | apply Kd.R_drew)); exact HL203_0.out))) (below_size zB)); have n5_ := Aside0.mk (blk_below (zk BK191) hb); have n6_ := Aside0.mk (Kd.C_below (zC HR203_0) hb); have n7_ := Aside0.mk (below_step zB hb); clear HO194; clear HO198; clear HO201; clear HL203_0; clear BK191; clear HR203_0; clear HB; have HO194 := n0_; have HO198 := n1_; have HO201 := n2_; have HL203_0 := n3_; have HO206 := n4_; have BK191 := n5_; have HR203_0 := n6_; have HB := n7_; clear n0_ n1_ n2_ n3_ n4_ n5_ n6_ n7_; clear hb ho36; obtain ⟨Ao37, co37, eo37⟩ := Kd.R_slice HO206.out; subst eo37) | (go_at_call 13; (with_reducible refine (mosaicref04_Same.calls k _ _ (rd_L3 t192 0) _ _ y204 false _ ?side1 ?side2 ?side3 ?side4 A7.out).mono ?_); (case side1 => exact zC HR203_0); (case side2 => exact HC203_0.out); (case side3 => exact zRC HO206); (case side4 => exact (Kd.R_reads' HO206.out).2.1); rintro e w' ⟨rfl, ⟨nd, rfl⟩⟩))
      go_ret
      exact ⟨zE, zB⟩
    ·
     rw [if_neg c6] at H
     exact absurd H (by simp)
   ·
    rw [if_neg c5] at H
    have c5b0 : ((t192.length : Int) == 1) = false := beq_eq_false_iff_ne.mpr c5
    have c5b1 : ((t192.length : Int) != 1) = true := bne_iff_ne.mpr c5
    obtain rfl := Option.some.inj H
    go_enter Tryz.func11, Tryz.ntmps11
    go_wp2_with (first | ((with_reducible refine gate_dst (N := 1) rfl ?_); (try (refine gate_guard (by rfl) ?_; dsimp only)); refine box_event ?hg (N := 1) ?hd (cs := #[.int .i64 0, .int .i64 0, .int .i64 0, .int .i64 0]) (t := 23) ?hr ?_; (case hd => rfl); (case hg => rfl); (case hr => first | (go_simp; done) | (go_simp; rfl)); intro gb191 hg w38 hbox hb; have BK191 := Aside0.mk (hbox); have GW191 := Aside0.mk ((zg : w.heap.size ≤ gb191)); have GE191 := Aside0.mk ((zg : w.heap.size ≤ gb191)); replace HB := Aside0.mk (below_step zB hb); clear hb hbox hg; obtain ⟨hcz39_0, hcz39_1, hcz39_2, hcz39_3⟩ := cZ4 BK191; obtain ⟨hfz39_0, hfz39_1, hfz39_2, hfz39_3⟩ := dZ4 BK191) | ((with_reducible refine gate_callee (f := 9) rfl ?_); refine goesL_ (some 9) rfl rfl Tryz.func9 (by kernel_rfl) rfl #[.agg #[.int .i64 0, .int .i64 1, .int .i64 1, .int .i64 1]] rfl zM ?_; (with_reducible refine (outer_Rules.calls k 0 1 1 1 t192 t195 _ A1.out).mono ?_); rintro e w40 ⟨v193, rfl, ho0, hb⟩; refine ⟨_, rfl, ?_⟩; have HO194 := Aside0.mk (Kd.S_lower ho0 (below_size zB)); replace BK191 := Aside0.mk (blk_below (g := gb191) (o := .cells #[.int .i64 0, .int .i64 1, .int .i64 1, .int .i64 1] 23 (0, 0)) (by (with_reducible repeat (first | refine blk_drewN ?_ _ | refine blk_drew ?_ | refine blk_alloc ?_ _)); refine blk_put (cs := #[.int .i64 0, .int .i64 1, .int .i64 1, .int .i64 0]) ?_ 3 _ rfl; (with_reducible repeat (first | refine blk_drewN ?_ _ | refine blk_drew ?_ | refine blk_alloc ?_ _)); refine blk_put (cs := #[.int .i64 0, .int .i64 1, .int .i64 0, .int .i64 0]) ?_ 2 _ rfl; (with_reducible repeat (first | refine blk_drewN ?_ _ | refine blk_drew ?_ | refine blk_alloc ?_ _)); refine blk_put (cs := #[.int .i64 0, .int .i64 0, .int .i64 0, .int .i64 0]) ?_ 1 _ rfl; (with_reducible repeat (first | refine blk_drewN ?_ _ | refine blk_drew ?_ | refine blk_alloc ?_ _)); refine blk_put (cs := #[.int .i64 0, .int .i64 0, .int .i64 0, .int .i64 0]) ?_ 0 _ rfl; (with_reducible repeat (first | refine blk_drewN ?_ _ | refine blk_drew ?_ | refine blk_alloc ?_ _)); exact BK191.out) hb); replace HB := Aside0.mk (below_step zB hb); (try clear hb); (try clear hb2); (try clear hk); (try clear hi); (try clear ho0); obtain ⟨hcz41_0, hcz41_1, hcz41_2, hcz41_3⟩ := cZ4 BK191; obtain ⟨hfz41_0, hfz41_1, hfz41_2, hfz41_3⟩ := dZ4 BK191) | ((with_reducible refine gate_dst (N := 14) rfl ?_); (try (refine gate_guard (by rfl) ?_; dsimp only)); refine Kd.R_lit Kd.string _ 9 ?hg (N := 14) ?hd (xs := ([(⟨#[97, 98]⟩ : ByteArray)] : List ByteArray)) (inner := [.string (⟨#[97, 98]⟩ : ByteArray)]) (ok := fun _ => True) (okp := fun _ => True) ?hr ?hp (fun _ hk => hk) trivial (Below.refl _ _) (Nat.le_refl _) (by simp) ?_; (case hd => rfl); (case hg => rfl); (case hr => first | (go_simp; done) | (go_simp; rfl)); (case hp => exact (Reps.one (show Kd.M Kd.string _ _ _ (⟨#[97, 98]⟩ : ByteArray) [.string (⟨#[97, 98]⟩ : ByteArray)] from rfl) (Reps.none _ _))); intro v197 w42 ho43 hb hg_ hnew_; clear hg_ hnew_; (first | rw [← Ny196.out] at ho43 | (simp only [Int.reduceToNat] at ho43; rw [← Ny196.out] at ho43)); replace HO194 := Aside0.mk (Kd.S_below (zS HO194) hb); have HO198 := Aside0.mk (Kd.R_lower ho43 (below_size zB)); replace BK191 := Aside0.mk (blk_below (zk BK191) hb); replace HB := Aside0.mk (below_step zB hb); clear hb ho43; obtain ⟨Ao44, co44, eo44⟩ := Kd.R_slice HO198.out; subst eo44) | ((with_reducible refine gate_callee (f := 19) rfl ?_); refine goesL_ (some 15) rfl rfl Tryz.func19 (by kernel_rfl) rfl #[.agg #[.int .i64 0, .int .i64 1, .int .i64 1, .int .i64 1], .slice Ao44 y196.length co44] rfl zM ?_; (with_reducible refine (outer_Whole.calls k 0 1 1 1 _ _ y196 t199 t202 _ ?side1 ?side2 A2.out).mono ?_); (case side1 => exact zRC HO198); (case side2 => exact (Kd.R_reads' HO198.out).2.1); rintro e w45 ⟨v200, rfl, ho0, hb⟩; refine ⟨_, rfl, ?_⟩; have n0_ := Aside0.mk (Kd.S_below (zS HO194) hb); have n1_ := Aside0.mk (Kd.R_elder' (by (with_reducible repeat (first | apply Kd.R_alloc | apply Kd.R_drewN | apply Kd.R_drew)); exact HO198.out) (Kd.R_base ho0) hb); have n2_ := Aside0.mk (Kd.R_lower (Kd.R_new' ho0 (Kd.R_lt (by (with_reducible repeat (first | apply Kd.R_alloc | apply Kd.R_drewN | apply Kd.R_drew)); exact HO198.out))) (below_size zB)); have n3_ := Aside0.mk (blk_below (zk BK191) hb); have n4_ := Aside0.mk (below_step zB hb); clear HO194; clear HO198; clear BK191; clear HB; have HO194 := n0_; have HO198 := n1_; have HO201 := n2_; have BK191 := n3_; have HB := n4_; clear n0_ n1_ n2_ n3_ n4_; (try clear hb); (try clear hb2); (try clear hk); (try clear hi); (try clear ho0); obtain ⟨Ao46, co46, eo46⟩ := Kd.S_slice HO194.out; subst eo46))
    go_ret
    exact ⟨zE, zB⟩
  ·
   rw [if_neg c4] at H
   have c4b0 : (t202 == 0) = false := beq_eq_false_iff_ne.mpr c4
   have c4b1 : (t202 != 0) = true := bne_iff_ne.mpr c4
   obtain rfl := Option.some.inj H
   go_enter Tryz.func11, Tryz.ntmps11
   go_wp2_with (first | ((with_reducible refine gate_dst (N := 1) rfl ?_); (try (refine gate_guard (by rfl) ?_; dsimp only)); refine box_event ?hg (N := 1) ?hd (cs := #[.int .i64 0, .int .i64 0, .int .i64 0, .int .i64 0]) (t := 23) ?hr ?_; (case hd => rfl); (case hg => rfl); (case hr => first | (go_simp; done) | (go_simp; rfl)); intro gb191 hg w47 hbox hb; have BK191 := Aside0.mk (hbox); have GW191 := Aside0.mk ((zg : w.heap.size ≤ gb191)); have GE191 := Aside0.mk ((zg : w.heap.size ≤ gb191)); replace HB := Aside0.mk (below_step zB hb); clear hb hbox hg; obtain ⟨hcz48_0, hcz48_1, hcz48_2, hcz48_3⟩ := cZ4 BK191; obtain ⟨hfz48_0, hfz48_1, hfz48_2, hfz48_3⟩ := dZ4 BK191) | ((with_reducible refine gate_callee (f := 9) rfl ?_); refine goesL_ (some 9) rfl rfl Tryz.func9 (by kernel_rfl) rfl #[.agg #[.int .i64 0, .int .i64 1, .int .i64 1, .int .i64 1]] rfl zM ?_; (with_reducible refine (outer_Rules.calls k 0 1 1 1 t192 t195 _ A1.out).mono ?_); rintro e w49 ⟨v193, rfl, ho0, hb⟩; refine ⟨_, rfl, ?_⟩; have HO194 := Aside0.mk (Kd.S_lower ho0 (below_size zB)); replace BK191 := Aside0.mk (blk_below (g := gb191) (o := .cells #[.int .i64 0, .int .i64 1, .int .i64 1, .int .i64 1] 23 (0, 0)) (by (with_reducible repeat (first | refine blk_drewN ?_ _ | refine blk_drew ?_ | refine blk_alloc ?_ _)); refine blk_put (cs := #[.int .i64 0, .int .i64 1, .int .i64 1, .int .i64 0]) ?_ 3 _ rfl; (with_reducible repeat (first | refine blk_drewN ?_ _ | refine blk_drew ?_ | refine blk_alloc ?_ _)); refine blk_put (cs := #[.int .i64 0, .int .i64 1, .int .i64 0, .int .i64 0]) ?_ 2 _ rfl; (with_reducible repeat (first | refine blk_drewN ?_ _ | refine blk_drew ?_ | refine blk_alloc ?_ _)); refine blk_put (cs := #[.int .i64 0, .int .i64 0, .int .i64 0, .int .i64 0]) ?_ 1 _ rfl; (with_reducible repeat (first | refine blk_drewN ?_ _ | refine blk_drew ?_ | refine blk_alloc ?_ _)); refine blk_put (cs := #[.int .i64 0, .int .i64 0, .int .i64 0, .int .i64 0]) ?_ 0 _ rfl; (with_reducible repeat (first | refine blk_drewN ?_ _ | refine blk_drew ?_ | refine blk_alloc ?_ _)); exact BK191.out) hb); replace HB := Aside0.mk (below_step zB hb); (try clear hb); (try clear hb2); (try clear hk); (try clear hi); (try clear ho0); obtain ⟨hcz50_0, hcz50_1, hcz50_2, hcz50_3⟩ := cZ4 BK191; obtain ⟨hfz50_0, hfz50_1, hfz50_2, hfz50_3⟩ := dZ4 BK191) | ((with_reducible refine gate_dst (N := 14) rfl ?_); (try (refine gate_guard (by rfl) ?_; dsimp only)); refine Kd.R_lit Kd.string _ 9 ?hg (N := 14) ?hd (xs := ([(⟨#[97, 98]⟩ : ByteArray)] : List ByteArray)) (inner := [.string (⟨#[97, 98]⟩ : ByteArray)]) (ok := fun _ => True) (okp := fun _ => True) ?hr ?hp (fun _ hk => hk) trivial (Below.refl _ _) (Nat.le_refl _) (by simp) ?_; (case hd => rfl); (case hg => rfl); (case hr => first | (go_simp; done) | (go_simp; rfl)); (case hp => exact (Reps.one (show Kd.M Kd.string _ _ _ (⟨#[97, 98]⟩ : ByteArray) [.string (⟨#[97, 98]⟩ : ByteArray)] from rfl) (Reps.none _ _))); intro v197 w51 ho52 hb hg_ hnew_; clear hg_ hnew_; (first | rw [← Ny196.out] at ho52 | (simp only [Int.reduceToNat] at ho52; rw [← Ny196.out] at ho52)); replace HO194 := Aside0.mk (Kd.S_below (zS HO194) hb); have HO198 := Aside0.mk (Kd.R_lower ho52 (below_size zB)); replace BK191 := Aside0.mk (blk_below (zk BK191) hb); replace HB := Aside0.mk (below_step zB hb); clear hb ho52; obtain ⟨Ao53, co53, eo53⟩ := Kd.R_slice HO198.out; subst eo53) | ((with_reducible refine gate_callee (f := 19) rfl ?_); refine goesL_ (some 15) rfl rfl Tryz.func19 (by kernel_rfl) rfl #[.agg #[.int .i64 0, .int .i64 1, .int .i64 1, .int .i64 1], .slice Ao53 y196.length co53] rfl zM ?_; (with_reducible refine (outer_Whole.calls k 0 1 1 1 _ _ y196 t199 t202 _ ?side1 ?side2 A2.out).mono ?_); (case side1 => exact zRC HO198); (case side2 => exact (Kd.R_reads' HO198.out).2.1); rintro e w54 ⟨v200, rfl, ho0, hb⟩; refine ⟨_, rfl, ?_⟩; have n0_ := Aside0.mk (Kd.S_below (zS HO194) hb); have n1_ := Aside0.mk (Kd.R_elder' (by (with_reducible repeat (first | apply Kd.R_alloc | apply Kd.R_drewN | apply Kd.R_drew)); exact HO198.out) (Kd.R_base ho0) hb); have n2_ := Aside0.mk (Kd.R_lower (Kd.R_new' ho0 (Kd.R_lt (by (with_reducible repeat (first | apply Kd.R_alloc | apply Kd.R_drewN | apply Kd.R_drew)); exact HO198.out))) (below_size zB)); have n3_ := Aside0.mk (blk_below (zk BK191) hb); have n4_ := Aside0.mk (below_step zB hb); clear HO194; clear HO198; clear BK191; clear HB; have HO194 := n0_; have HO198 := n1_; have HO201 := n2_; have BK191 := n3_; have HB := n4_; clear n0_ n1_ n2_ n3_ n4_; (try clear hb); (try clear hb2); (try clear hk); (try clear hi); (try clear ho0)))
   go_ret
   exact ⟨zE, zB⟩
 ·
  rw [if_neg c3] at H
  have c3b0 : (t195 == 0) = false := beq_eq_false_iff_ne.mpr c3
  have c3b1 : (t195 != 0) = true := bne_iff_ne.mpr c3
  obtain rfl := Option.some.inj H
  go_enter Tryz.func11, Tryz.ntmps11
  go_wp2_with (first | ((with_reducible refine gate_dst (N := 1) rfl ?_); (try (refine gate_guard (by rfl) ?_; dsimp only)); refine box_event ?hg (N := 1) ?hd (cs := #[.int .i64 0, .int .i64 0, .int .i64 0, .int .i64 0]) (t := 23) ?hr ?_; (case hd => rfl); (case hg => rfl); (case hr => first | (go_simp; done) | (go_simp; rfl)); intro gb191 hg w55 hbox hb; have BK191 := Aside0.mk (hbox); have GW191 := Aside0.mk ((zg : w.heap.size ≤ gb191)); have GE191 := Aside0.mk ((zg : w.heap.size ≤ gb191)); replace HB := Aside0.mk (below_step zB hb); clear hb hbox hg; obtain ⟨hcz56_0, hcz56_1, hcz56_2, hcz56_3⟩ := cZ4 BK191; obtain ⟨hfz56_0, hfz56_1, hfz56_2, hfz56_3⟩ := dZ4 BK191) | ((with_reducible refine gate_callee (f := 9) rfl ?_); refine goesL_ (some 9) rfl rfl Tryz.func9 (by kernel_rfl) rfl #[.agg #[.int .i64 0, .int .i64 1, .int .i64 1, .int .i64 1]] rfl zM ?_; (with_reducible refine (outer_Rules.calls k 0 1 1 1 t192 t195 _ A1.out).mono ?_); rintro e w57 ⟨v193, rfl, ho0, hb⟩; refine ⟨_, rfl, ?_⟩; have HO194 := Aside0.mk (Kd.S_lower ho0 (below_size zB)); replace BK191 := Aside0.mk (blk_below (g := gb191) (o := .cells #[.int .i64 0, .int .i64 1, .int .i64 1, .int .i64 1] 23 (0, 0)) (by (with_reducible repeat (first | refine blk_drewN ?_ _ | refine blk_drew ?_ | refine blk_alloc ?_ _)); refine blk_put (cs := #[.int .i64 0, .int .i64 1, .int .i64 1, .int .i64 0]) ?_ 3 _ rfl; (with_reducible repeat (first | refine blk_drewN ?_ _ | refine blk_drew ?_ | refine blk_alloc ?_ _)); refine blk_put (cs := #[.int .i64 0, .int .i64 1, .int .i64 0, .int .i64 0]) ?_ 2 _ rfl; (with_reducible repeat (first | refine blk_drewN ?_ _ | refine blk_drew ?_ | refine blk_alloc ?_ _)); refine blk_put (cs := #[.int .i64 0, .int .i64 0, .int .i64 0, .int .i64 0]) ?_ 1 _ rfl; (with_reducible repeat (first | refine blk_drewN ?_ _ | refine blk_drew ?_ | refine blk_alloc ?_ _)); refine blk_put (cs := #[.int .i64 0, .int .i64 0, .int .i64 0, .int .i64 0]) ?_ 0 _ rfl; (with_reducible repeat (first | refine blk_drewN ?_ _ | refine blk_drew ?_ | refine blk_alloc ?_ _)); exact BK191.out) hb); replace HB := Aside0.mk (below_step zB hb); (try clear hb); (try clear hb2); (try clear hk); (try clear hi); (try clear ho0); obtain ⟨hcz58_0, hcz58_1, hcz58_2, hcz58_3⟩ := cZ4 BK191; obtain ⟨hfz58_0, hfz58_1, hfz58_2, hfz58_3⟩ := dZ4 BK191) | ((with_reducible refine gate_dst (N := 14) rfl ?_); (try (refine gate_guard (by rfl) ?_; dsimp only)); refine Kd.R_lit Kd.string _ 9 ?hg (N := 14) ?hd (xs := ([(⟨#[97, 98]⟩ : ByteArray)] : List ByteArray)) (inner := [.string (⟨#[97, 98]⟩ : ByteArray)]) (ok := fun _ => True) (okp := fun _ => True) ?hr ?hp (fun _ hk => hk) trivial (Below.refl _ _) (Nat.le_refl _) (by simp) ?_; (case hd => rfl); (case hg => rfl); (case hr => first | (go_simp; done) | (go_simp; rfl)); (case hp => exact (Reps.one (show Kd.M Kd.string _ _ _ (⟨#[97, 98]⟩ : ByteArray) [.string (⟨#[97, 98]⟩ : ByteArray)] from rfl) (Reps.none _ _))); intro v197 w59 ho60 hb hg_ hnew_; clear hg_ hnew_; (first | rw [← Ny196.out] at ho60 | (simp only [Int.reduceToNat] at ho60; rw [← Ny196.out] at ho60)); replace HO194 := Aside0.mk (Kd.S_below (zS HO194) hb); have HO198 := Aside0.mk (Kd.R_lower ho60 (below_size zB)); replace BK191 := Aside0.mk (blk_below (zk BK191) hb); replace HB := Aside0.mk (below_step zB hb); clear hb ho60; obtain ⟨Ao61, co61, eo61⟩ := Kd.R_slice HO198.out; subst eo61) | ((with_reducible refine gate_callee (f := 19) rfl ?_); refine goesL_ (some 15) rfl rfl Tryz.func19 (by kernel_rfl) rfl #[.agg #[.int .i64 0, .int .i64 1, .int .i64 1, .int .i64 1], .slice Ao61 y196.length co61] rfl zM ?_; (with_reducible refine (outer_Whole.calls k 0 1 1 1 _ _ y196 t199 t202 _ ?side1 ?side2 A2.out).mono ?_); (case side1 => exact zRC HO198); (case side2 => exact (Kd.R_reads' HO198.out).2.1); rintro e w62 ⟨v200, rfl, ho0, hb⟩; refine ⟨_, rfl, ?_⟩; have n0_ := Aside0.mk (Kd.S_below (zS HO194) hb); have n1_ := Aside0.mk (Kd.R_elder' (by (with_reducible repeat (first | apply Kd.R_alloc | apply Kd.R_drewN | apply Kd.R_drew)); exact HO198.out) (Kd.R_base ho0) hb); have n2_ := Aside0.mk (Kd.R_lower (Kd.R_new' ho0 (Kd.R_lt (by (with_reducible repeat (first | apply Kd.R_alloc | apply Kd.R_drewN | apply Kd.R_drew)); exact HO198.out))) (below_size zB)); have n3_ := Aside0.mk (blk_below (zk BK191) hb); have n4_ := Aside0.mk (below_step zB hb); clear HO194; clear HO198; clear BK191; clear HB; have HO194 := n0_; have HO198 := n1_; have HO201 := n2_; have BK191 := n3_; have HB := n4_; clear n0_ n1_ n2_ n3_ n4_; (try clear hb); (try clear hb2); (try clear hk); (try clear hi); (try clear ho0)))
  go_ret
  exact ⟨zE, zB⟩
/-! ### mosaiclaw09_few: function 18 -/
def mosaiclaw09_few.l0 : Nat → List ByteArray → Int → Option (Bool)
 | 0, _, _ => none
 | k + 1, x0, x3 => if x3 < (x0.length : Int) then (if 0 ≤ x3 then (if ((rdOf ByteArray.empty x0 x3).size : Int) > 100 then (some false) else (mosaiclaw09_few.l0 k x0 (wrap64 (x3 + 1)))) else (none)) else (some true)
def mosaiclaw09_few.f (k : Nat) (l0 : List ByteArray) : Option (Bool) := if (l0.length : Int) > 180 then (some false) else (mosaiclaw09_few.l0 k l0 0)
theorem mosaiclaw09_few.mono_l : ∀ k, (∀ y0 y1, LeO (mosaiclaw09_few.l0 k y0 y1) (mosaiclaw09_few.l0 (k + 1) y0 y1))
 | 0 => fun _ _ r h => by simp [mosaiclaw09_few.l0] at h
 | k + 1 => by
  have ih0 := mosaiclaw09_few.mono_l k
  ·
   intro y0 y1
   unfold mosaiclaw09_few.l0
   repeat' first | (with_reducible first | apply ih0 | exact LeO.refl _ | exact LeO.none _ | refine LeO.ite ?_ ?_ | refine LeO.bind ?_ (fun _ => ?_)) | apply ih0 | exact LeO.none _ | refine LeO.ite ?_ ?_ | refine LeO.bind ?_ (fun _ => ?_)
theorem mosaiclaw09_few.mono : ∀ a0 k, LeO (mosaiclaw09_few.f k a0) (mosaiclaw09_few.f (k + 1) a0) := by
 intro a0 k
 have ih0 := mosaiclaw09_few.mono_l k
 unfold mosaiclaw09_few.f
 repeat' first | (with_reducible first | apply ih0 | exact LeO.refl _ | exact LeO.none _ | refine LeO.ite ?_ ?_ | refine LeO.bind ?_ (fun _ => ?_)) | apply ih0 | exact LeO.none _ | refine LeO.ite ?_ ?_ | refine LeO.bind ?_ (fun _ => ?_)
set_option maxHeartbeats 8000000 in
set_option maxRecDepth 100000 in
theorem mosaiclaw09_few.calls (k : Nat) (A0 : Option Addr) (c0 : Nat) (l0 : List ByteArray) (r : Bool) (w : World) (hr0 : Kd.C Kd.string w A0 l0.length l0) (hc0 : l0.length ≤ c0) (h : mosaiclaw09_few.f k l0 = some r) :
  Calls Tryz.prog 18 #[.slice A0 l0.length c0] w fun e w' => e = .returned (.bool r) ∧ Drawn0 w w' := by
 have HR0 := Aside0.mk hr0
 have HC0 := Aside0.mk hc0
 clear hr0 hc0; have H : (if (l0.length : Int) > 180 then (some false) else (mosaiclaw09_few.l0 k l0 0)) = some r := h
 clear h; by_cases c2 : (l0.length : Int) > 180
 ·
  rw [if_pos c2] at H
  have c2b0 : decide (180 < (l0.length : Int)) = true := decide_eq_true c2
  have c2b1 : decide (180 < l0.length) = true := decide_eq_true (by omega)
  clear c2; obtain rfl := Option.some.inj H
  go_enter Tryz.func18, Tryz.ntmps18
  go_wp2
  go_ret
  exact ⟨by first | rfl | (simp; done) | (simp [*]; done), by repeat (first | exact Drawn0.refl _ | apply Drawn0.step)⟩
 ·
  rw [if_neg c2] at H
  have c2b0 : decide (180 < (l0.length : Int)) = false := decide_eq_false c2
  have c2b1 : decide (180 < l0.length) = false := decide_eq_false (by omega)
  clear c2; have H' := Aside0.mk H
  clear H; go_enter Tryz.func18, Tryz.ntmps18
  go_wp2
  go_loopg [3] k (fun kq v3 w' => ∃ (x3_1 : Int), v3 = .int .i64 x3_1 ∧ Aside0 (mosaiclaw09_few.l0 kq l0 x3_1 = some r) ∧ Aside0 (kq ≤ k) ∧ Drawn0 w w')
  case atStart => exact ⟨(0), zF, H', ⟨Nat.le_refl _⟩, by repeat (first | exact Drawn0.refl _ | apply Drawn0.step)⟩
  case round =>
   clear H'
   obtain ⟨x3_1, rfl, HA, HK1, ⟨m1, rfl⟩⟩ := hrel
   cases gk with
   | zero => exact absurd HA.out (by simp [mosaiclaw09_few.l0])
   | succ k1 =>
    have H := HA.out; clear HA; simp only [mosaiclaw09_few.l0] at H
    by_cases c3 : x3_1 < (l0.length : Int)
    ·
     rw [if_pos c3] at H
     have c3b0 : decide (x3_1 < (l0.length : Int)) = true := decide_eq_true c3
     clear c3; by_cases c4 : 0 ≤ x3_1
     ·
      rw [if_pos c4] at H
      have c4b0 : decide (0 ≤ x3_1) = true := decide_eq_true c4
      clear c4; by_cases c5 : ((rdOf ByteArray.empty l0 x3_1).size : Int) > 100
      ·
       rw [if_pos c5] at H
       have c5b0 : decide (100 < ((rdOf ByteArray.empty l0 x3_1).size : Int)) = true := decide_eq_true c5
       have c5b1 : decide (100 < (rdOf ByteArray.empty l0 x3_1).size) = true := decide_eq_true (by omega)
       clear c5; obtain rfl := Option.some.inj H
       have p212 : 0 ≤ (x3_1 : Int) := of_decide_eq_true zA
       have q212 : x3_1 < (l0.length : Int) := of_decide_eq_true zA
       obtain ⟨ad212, e212, hx212_0⟩ := Kd.at_string HR0.out x3_1 p212 q212
       cases e212
       replace p212 := eq_true p212
       replace q212 := eq_true q212
       go_wp2
       go_ret
       exact ⟨by first | rfl | (simp; done) | (simp [*]; done), by repeat (first | exact Drawn0.refl _ | apply Drawn0.step)⟩
      ·
       rw [if_neg c5] at H
       have c5b0 : decide (100 < ((rdOf ByteArray.empty l0 x3_1).size : Int)) = false := decide_eq_false c5
       have c5b1 : decide (100 < (rdOf ByteArray.empty l0 x3_1).size) = false := decide_eq_false (by omega)
       clear c5; have H' := Aside0.mk H
       clear H; have p212 : 0 ≤ (x3_1 : Int) := of_decide_eq_true zA
       have q212 : x3_1 < (l0.length : Int) := of_decide_eq_true zA
       obtain ⟨ad212, e212, hx212_0⟩ := Kd.at_string HR0.out x3_1 p212 q212
       cases e212
       replace p212 := eq_true p212
       replace q212 := eq_true q212
       go_wp2
       go_roundg k1
       case measure => have := HK1.out; omega
       case rel => exact ⟨(wrap64 (x3_1 + 1)), zF, H', ⟨by have := HK1.out; omega⟩, by repeat (first | exact Drawn0.refl _ | apply Drawn0.step)⟩
     ·
      rw [if_neg c4] at H
      exact absurd H (by simp)
    ·
     rw [if_neg c3] at H
     have c3b0 : decide (x3_1 < (l0.length : Int)) = false := decide_eq_false c3
     clear c3; obtain rfl := Option.some.inj H
     go_wp2
     go_ret
     exact ⟨by first | rfl | (simp; done) | (simp [*]; done), by repeat (first | exact Drawn0.refl _ | apply Drawn0.step)⟩
/-! ### strings_Repeat: function 64 -/
open Go.Shelf in
def strings_Repeat.lays_ren : Go.Shelf.Ren := ⟨fun | 105 => 64 | 212 => 80 | 99 => 81 | 165 => 82 | 166 => 83 | 170 => 84 | 169 => 85 | 263 => 104 | 264 => 105 | 206 => 106 | 240 => 107 | 241 => 108 | 276 => 118 | 277 => 119 | n => n, fun | 9 => 9 | 3 => 3 | 4 => 4 | 20 => 20 | 0 => 0 | 46 => 102 | 109 => 110 | 5 => 5 | 72 => 115 | 76 => 119 | 51 => 104 | 146 => 141 | 53 => 139 | 148 => 143 | 70 => 113 | 37 => 90 | 75 => 118 | 127 => 145 | 164 => 153 | 80 => 122 | n => n, fun | n => n⟩
open Go.Shelf in
theorem strings_Repeat.lays : Go.Proofs.Lays.n105 Tryz.prog strings_Repeat.lays_ren := {
  mixed := by kernel_rfl
  f99 := Tryz.func81.trans (congrArg some (by kernel_rfl))
  f105 := Tryz.func64.trans (congrArg some (by kernel_rfl))
  f165 := Tryz.func82.trans (congrArg some (by kernel_rfl))
  f166 := Tryz.func83.trans (congrArg some (by kernel_rfl))
  f169 := Tryz.func85.trans (congrArg some (by kernel_rfl))
  f170 := Tryz.func84.trans (congrArg some (by kernel_rfl))
  f206 := Tryz.func106.trans (congrArg some (by kernel_rfl))
  f212 := Tryz.func80.trans (congrArg some (by kernel_rfl))
  f240 := Tryz.func107.trans (congrArg some (by kernel_rfl))
  f241 := Tryz.func108.trans (congrArg some (by kernel_rfl))
  f263 := Tryz.func104.trans (congrArg some (by kernel_rfl))
  f264 := Tryz.func105.trans (congrArg some (by kernel_rfl))
  f276 := Tryz.func118.trans (congrArg some (by kernel_rfl))
  f277 := Tryz.func119.trans (congrArg some (by kernel_rfl))
  t0 := Tryz.underlying0
  a0 := Tryz.isAgg0
  z0 := Tryz.sizeOf0
  v0 := Tryz.zeroValue0
  t3 := Tryz.underlying3
  a3 := Tryz.isAgg3
  z3 := Tryz.sizeOf3
  v3 := Tryz.zeroValue3
  t4 := Tryz.underlying4
  a4 := Tryz.isAgg4
  z4 := Tryz.sizeOf4
  v4 := Tryz.zeroValue4
  t5 := Tryz.underlying5
  a5 := Tryz.isAgg5
  z5 := Tryz.sizeOf5
  v5 := Tryz.zeroValue5
  t9 := Tryz.underlying9
  a9 := Tryz.isAgg9
  z9 := Tryz.sizeOf9
  v9 := Tryz.zeroValue9
  t20 := Tryz.underlying20
  a20 := Tryz.isAgg20
  z20 := Tryz.sizeOf20
  v20 := Tryz.zeroValue20
  t37 := Tryz.underlying90
  a37 := Tryz.isAgg90
  z37 := Tryz.sizeOf90
  v37 := Tryz.zeroValue90
  t46 := Tryz.underlying102
  a46 := Tryz.isAgg102
  z46 := Tryz.sizeOf102
  v46 := Tryz.zeroValue102
  t51 := Tryz.underlying104
  a51 := Tryz.isAgg104
  z51 := Tryz.sizeOf104
  v51 := Tryz.zeroValue104
  t53 := Tryz.underlying139
  a53 := Tryz.isAgg139
  z53 := Tryz.sizeOf139
  v53 := Tryz.zeroValue139
  t70 := Tryz.underlying113
  a70 := Tryz.isAgg113
  z70 := Tryz.sizeOf113
  v70 := Tryz.zeroValue113
  t72 := Tryz.underlying115
  a72 := Tryz.isAgg115
  z72 := Tryz.sizeOf115
  v72 := Tryz.zeroValue115
  t75 := Tryz.underlying118
  a75 := Tryz.isAgg118
  z75 := Tryz.sizeOf118
  v75 := Tryz.zeroValue118
  t76 := Tryz.underlying119
  a76 := Tryz.isAgg119
  z76 := Tryz.sizeOf119
  v76 := Tryz.zeroValue119
  t109 := Tryz.underlying110
  a109 := Tryz.isAgg110
  z109 := Tryz.sizeOf110
  v109 := Tryz.zeroValue110
  t127 := Tryz.underlying145
  a127 := Tryz.isAgg145
  z127 := Tryz.sizeOf145
  v127 := Tryz.zeroValue145
  t146 := Tryz.underlying141
  a146 := Tryz.isAgg141
  z146 := Tryz.sizeOf141
  v146 := Tryz.zeroValue141
  t148 := Tryz.underlying143
  a148 := Tryz.isAgg143
  z148 := Tryz.sizeOf143
  v148 := Tryz.zeroValue143
  t164 := Tryz.underlying153
  a164 := Tryz.isAgg153
  z164 := Tryz.sizeOf153
  v164 := Tryz.zeroValue153 }
open Go.Shelf in
theorem strings_Repeat.extra : Builder.Extra Tryz.prog strings_Repeat.lays_ren where
  sizeBuilder := by kernel_rfl
  liesBuilder := by kernel_rfl
  t5 := Tryz.underlying5
  a5 := Tryz.isAgg5
  z5 := Tryz.sizeOf5
  v5 := Tryz.zeroValue5
  infoByte := by kernel_rfl
  cellsByte := by kernel_rfl
  sizeByte := by kernel_rfl
  neB5 := by decide
def strings_Repeat.f (a0 : ByteArray) (a1 : Int) : Option ByteArray := if 0 ≤ a1 ∧ a1 ≤ 9223372036854775807 ∧ a0.size * a1.toNat ≤ 140737488355328 then some ⟨(Lib.repeatL a0.data.toList a1.toNat).toArray⟩ else none
theorem strings_Repeat.calls (a0 : ByteArray) (a1 : Int) (r : ByteArray) (w : World) (h : strings_Repeat.f a0 a1 = some r) :
    Calls Tryz.prog 64 #[.string a0, .int .i64 a1] w fun e w' => e = .returned (.string r) ∧ Below w.heap.size w w' := by
  unfold strings_Repeat.f at h
  split at h
  rotate_left
  · cases h
  rename_i hb
  obtain ⟨b1, b2, b3⟩ := hb
  cases h
  obtain ⟨c, rfl⟩ := Int.eq_ofNat_of_zero_le b1
  rw [Int.toNat_natCast] at b3 ⊢
  exact Any.strings_Repeat strings_Repeat.lays strings_Repeat.extra a0 c w (by omega) b3
/-! ### block_Zero: function 42 -/
def block_Zero.f (a0 : Int) : Option (ByteArray) := (block_may.f a0).bind fun t213 => (if t213 = true then ((strings_Repeat.f (⟨#[0]⟩ : ByteArray) a0).bind fun t214 => (some t214)) else (some (⟨#[]⟩ : ByteArray)))
set_option maxHeartbeats 8000000 in
set_option maxRecDepth 100000 in
theorem block_Zero.calls (a0 : Int) (r : ByteArray) (w : World) (h : block_Zero.f a0 = some r) :
  Calls Tryz.prog 42 #[.int .i64 a0] w fun e w' => e = .returned (.string r) ∧ Below w.heap.size w w' := by
 have HB := Aside0.mk (Below.refl w.heap.size w)
 have H : ((block_may.f a0).bind fun t213 => (if t213 = true then ((strings_Repeat.f (⟨#[0]⟩ : ByteArray) a0).bind fun t214 => (some t214)) else (some (⟨#[]⟩ : ByteArray)))) = some r := h
 clear h; replace H := Option.bind_eq_some_iff.mp H
 obtain ⟨t213, A20, H⟩ := H
 replace H : (if t213 = true then ((strings_Repeat.f (⟨#[0]⟩ : ByteArray) a0).bind fun t214 => (some t214)) else (some (⟨#[]⟩ : ByteArray))) = some r := H
 have A2 := Aside0.mk A20
 clear A20; by_cases c3 : t213 = true
 ·
  subst c3
  have H1 : ((strings_Repeat.f (⟨#[0]⟩ : ByteArray) a0).bind fun t214 => (some t214)) = some r := by rw [if_pos rfl] at H; exact H
  clear H; have H := H1; clear H1; replace H := Option.bind_eq_some_iff.mp H
  obtain ⟨t214, A40, H⟩ := H
  replace H : (some t214) = some r := H
  have A4 := Aside0.mk A40
  clear A40; obtain rfl := Option.some.inj H
  go_enter Tryz.func42, Tryz.ntmps42
  go_wp2_with (first | ((with_reducible refine gate_callee (f := 63) rfl ?_); refine goesL_ (some 4) rfl rfl Tryz.func63 (by kernel_rfl) rfl #[.int .i64 a0] rfl zM ?_; (with_reducible refine (block_may.calls a0 true _ A2.out).mono ?_); rintro e w' ⟨rfl, ⟨nd, rfl⟩⟩; refine ⟨_, rfl, ?_⟩) | ((with_reducible refine gate_callee (f := 64) rfl ?_); refine goesL_ (some 7) rfl rfl Tryz.func64 (by kernel_rfl) rfl #[.string (⟨#[0]⟩ : ByteArray), .int .i64 a0] rfl zM ?_; (with_reducible refine (strings_Repeat.calls (⟨#[0]⟩ : ByteArray) a0 t214 _ A4.out).mono ?_); rintro e w5 ⟨rfl, hb⟩; refine ⟨_, rfl, ?_⟩; replace HB := Aside0.mk (below_step zB hb); (try clear hb); (try clear hb2); (try clear hk); (try clear hi)))
  go_ret
  exact ⟨zE, zB⟩
 ·
  replace c3 := Bool.eq_false_iff.mpr c3
  subst c3
  have H1 : (some (⟨#[]⟩ : ByteArray)) = some r := by rw [if_neg (show ¬ (false = true) by decide)] at H; exact H
  clear H; have H := H1; clear H1; obtain rfl := Option.some.inj H
  go_enter Tryz.func42, Tryz.ntmps42
  go_wp2_with (first | ((with_reducible refine gate_callee (f := 63) rfl ?_); refine goesL_ (some 4) rfl rfl Tryz.func63 (by kernel_rfl) rfl #[.int .i64 a0] rfl zM ?_; (with_reducible refine (block_may.calls a0 false _ A2.out).mono ?_); rintro e w' ⟨rfl, ⟨nd, rfl⟩⟩; refine ⟨_, rfl, ?_⟩))
  go_ret
  exact ⟨zE, zB⟩
/-! ### outer_size: function 44 -/
mutual
def outer_size.l0 : Nat → Int → List ByteArray → Int → Int → Option (Int)
 | 0, _, _, _, _ => none
 | k + 1, x3, x6, x7, x8 => if x8 < x7 then (if 0 ≤ x8 then (if x8 < (x6.length : Int) then (if (rdOf ByteArray.empty x6 x8).toList = ([] : List UInt8) then (outer_size.l0 k x3 x6 x7 (wrap64 (x8 + 1))) else (if x3 = 0 then ((block_Is.f (rdOf ByteArray.empty x6 x8) ((rdOf ByteArray.empty x6 x8).size : Int)).bind fun t216 => (outer_size.j1 k x3 (rdOf ByteArray.empty x6 x8) x6 x7 x8 t216)) else (outer_size.j1 k x3 (rdOf ByteArray.empty x6 x8) x6 x7 x8 false))) else (none)) else (none)) else (some x3)
def outer_size.j1 : Nat → Int → ByteArray → List ByteArray → Int → Int → Bool → Option (Int)
 | 0, _, _, _, _, _, _ => none
 | k + 1, x3, x5, x6, x7, x8, x15 => if x15 = true then (outer_size.l0 k (x5.size : Int) x6 x7 (wrap64 (x8 + 1))) else (if (x5.size : Int) = x3 then (outer_size.l0 k x3 x6 x7 (wrap64 (x8 + 1))) else (some 0))
end
def outer_size.f (k : Nat) (l0 : List ByteArray) : Option (Int) := outer_size.l0 k 0 l0 (l0.length : Int) 0
theorem outer_size.mono_l : ∀ k, (∀ y0 y1 y2 y3, LeO (outer_size.l0 k y0 y1 y2 y3) (outer_size.l0 (k + 1) y0 y1 y2 y3)) ∧ (∀ y0 y1 y2 y3 y4 y5, LeO (outer_size.j1 k y0 y1 y2 y3 y4 y5) (outer_size.j1 (k + 1) y0 y1 y2 y3 y4 y5))
 | 0 => ⟨fun _ _ _ _ r h => by simp [outer_size.l0] at h, fun _ _ _ _ _ _ r h => by simp [outer_size.j1] at h⟩
 | k + 1 => by
  obtain ⟨ih0, ih1⟩ := outer_size.mono_l k
  refine ⟨?_, ?_⟩ <;> intros <;> (first | unfold outer_size.l0 | unfold outer_size.j1)
  all_goals repeat' first | (with_reducible first | apply ih0 | apply ih1 | exact LeO.refl _ | exact LeO.none _ | refine LeO.ite ?_ ?_ | refine LeO.bind ?_ (fun _ => ?_)) | apply ih0 | apply ih1 | exact LeO.none _ | refine LeO.ite ?_ ?_ | refine LeO.bind ?_ (fun _ => ?_)
theorem outer_size.mono : ∀ a0 k, LeO (outer_size.f k a0) (outer_size.f (k + 1) a0) := by
 intro a0 k
 obtain ⟨ih0, ih1⟩ := outer_size.mono_l k
 unfold outer_size.f
 repeat' first | (with_reducible first | apply ih0 | apply ih1 | exact LeO.refl _ | exact LeO.none _ | refine LeO.ite ?_ ?_ | refine LeO.bind ?_ (fun _ => ?_)) | apply ih0 | apply ih1 | exact LeO.none _ | refine LeO.ite ?_ ?_ | refine LeO.bind ?_ (fun _ => ?_)
set_option maxHeartbeats 8000000 in
set_option maxRecDepth 100000 in
theorem outer_size.calls (k : Nat) (A0 : Option Addr) (c0 : Nat) (l0 : List ByteArray) (r : Int) (w : World) (hr0 : Kd.C Kd.string w A0 l0.length l0) (hc0 : l0.length ≤ c0) (h : outer_size.f k l0 = some r) :
  Calls Tryz.prog 44 #[.slice A0 l0.length c0] w fun e w' => e = .returned (.int .i64 r) ∧ Drawn0 w w' := by
 have HR0 := Aside0.mk hr0
 have HC0 := Aside0.mk hc0
 clear hr0 hc0; have H : (outer_size.l0 k 0 l0 (l0.length : Int) 0) = some r := h
 clear h; have H' := Aside0.mk H
 clear H; go_enter Tryz.func44, Tryz.ntmps44
 go_wp2
 go_loopg [3, 8] k (fun kq v3 v8 w' => ∃ (x3_1 : Int) (x8_1 : Int), v3 = .int .i64 x3_1 ∧ v8 = .int .i64 x8_1 ∧ Aside0 (outer_size.l0 kq x3_1 l0 (l0.length : Int) x8_1 = some r) ∧ Aside0 (kq ≤ k) ∧ Drawn0 w w')
 case atStart => exact ⟨(0), (0), zF, zF, H', ⟨Nat.le_refl _⟩, by repeat (first | exact Drawn0.refl _ | apply Drawn0.step)⟩
 case round =>
  clear H'
  obtain ⟨x3_1, x8_1, rfl, rfl, HA, HK1, ⟨m1, rfl⟩⟩ := hrel
  cases gk with
  | zero => exact absurd HA.out (by simp [outer_size.l0])
  | succ k1 =>
   have H := HA.out; clear HA; simp only [outer_size.l0] at H
   by_cases c2 : x8_1 < (l0.length : Int)
   ·
    rw [if_pos c2] at H
    have c2b0 : decide (x8_1 < (l0.length : Int)) = true := decide_eq_true c2
    clear c2; by_cases c3 : 0 ≤ x8_1
    ·
     rw [if_pos c3] at H
     have c3b0 : decide (0 ≤ x8_1) = true := decide_eq_true c3
     clear c3; by_cases c4 : x8_1 < (l0.length : Int)
     ·
      rw [if_pos c4] at H
      have c4b0 : decide (x8_1 < (l0.length : Int)) = true := decide_eq_true c4
      clear c4; by_cases c5 : (rdOf ByteArray.empty l0 x8_1).toList = ([] : List UInt8)
      ·
       rw [if_pos c5] at H
       have c5b0 : ((rdOf ByteArray.empty l0 x8_1).toList == ([] : List UInt8)) = true := beq_iff_eq.mpr c5
       have c5b1 : ((rdOf ByteArray.empty l0 x8_1).toList != ([] : List UInt8)) = false := bne_eq_false_iff_eq.mpr c5
       clear c5; have H' := Aside0.mk H
       clear H; have p215 : 0 ≤ (x8_1 : Int) := of_decide_eq_true zA
       have q215 : x8_1 < (l0.length : Int) := of_decide_eq_true zA
       obtain ⟨ad215, e215, hx215_0⟩ := Kd.at_string HR0.out x8_1 p215 q215
       cases e215
       replace p215 := eq_true p215
       replace q215 := eq_true q215
       go_wp2
       go_roundg k1
       case measure => have := HK1.out; omega
       case rel => exact ⟨(x3_1), (wrap64 (x8_1 + 1)), zF, zF, H', ⟨by have := HK1.out; omega⟩, by repeat (first | exact Drawn0.refl _ | apply Drawn0.step)⟩
      ·
       rw [if_neg c5] at H
       have c5b0 : ((rdOf ByteArray.empty l0 x8_1).toList == ([] : List UInt8)) = false := beq_eq_false_iff_ne.mpr c5
       have c5b1 : ((rdOf ByteArray.empty l0 x8_1).toList != ([] : List UInt8)) = true := bne_iff_ne.mpr c5
       have HC6 := Aside0.mk H
       clear H; have p215 : 0 ≤ (x8_1 : Int) := of_decide_eq_true zA
       have q215 : x8_1 < (l0.length : Int) := of_decide_eq_true zA
       obtain ⟨ad215, e215, hx215_0⟩ := Kd.at_string HR0.out x8_1 p215 q215
       cases e215
       replace p215 := eq_true p215
       replace q215 := eq_true q215
       go_upto_region 6 with (fail)
       go_cut [15] (fun v15 wc => ∃ (kq : Nat) (x15_5 : Bool), v15 = .bool x15_5 ∧ Aside0 (outer_size.j1 kq x3_1 (rdOf ByteArray.empty l0 x8_1) l0 (l0.length : Int) x8_1 x15_5 = some r) ∧ Aside0 (kq ≤ k1) ∧ Drawn0 w wc)
       case first =>
        have H := HC6.out; clear HC6; by_cases c7 : x3_1 = 0
        ·
         rw [if_pos c7] at H
         have c7b0 : (x3_1 == 0) = true := beq_iff_eq.mpr c7
         have c7b1 : (x3_1 != 0) = false := bne_eq_false_iff_eq.mpr c7
         clear c7; (first | rw [c7b0] | (simp only [i64_w, i32_w]; rw [c7b0]) | skip)
         replace H := Option.bind_eq_some_iff.mp H
         obtain ⟨t216, A80, H⟩ := H
         replace H : (outer_size.j1 k1 x3_1 (rdOf ByteArray.empty l0 x8_1) l0 (l0.length : Int) x8_1 t216) = some r := H
         have A8 := Aside0.mk A80
         clear A80; have H' := Aside0.mk H
         clear H; go_wp2_with (first | (go_at_call 58; (with_reducible refine (block_Is.calls (rdOf ByteArray.empty l0 x8_1) ((rdOf ByteArray.empty l0 x8_1).size : Int) t216 _ A8.out).mono ?_); rintro e w' ⟨rfl, ⟨nd, rfl⟩⟩))
         go_meet
         case rel => exact ⟨_, (t216), zF, H', ⟨by have := HK1.out; first | omega | exact Nat.le_refl _⟩, by repeat (first | exact Drawn0.refl _ | apply Drawn0.step)⟩
        ·
         rw [if_neg c7] at H
         have c7b0 : (x3_1 == 0) = false := beq_eq_false_iff_ne.mpr c7
         have c7b1 : (x3_1 != 0) = true := bne_iff_ne.mpr c7
         (first | rw [c7b0] | (simp only [i64_w, i32_w]; rw [c7b0]) | skip)
         have H' := Aside0.mk H
         clear H; go_wp2
         go_meet
         case rel => exact ⟨_, (false), zF, H', ⟨by have := HK1.out; first | omega | exact Nat.le_refl _⟩, by repeat (first | exact Drawn0.refl _ | apply Drawn0.step)⟩
       case rest =>
        clear HC6; (try clear hx2); (try clear hx215_0); obtain ⟨kq, x15_5, rfl, HA, HJ5, ⟨mc5, rfl⟩⟩ := hcut
        cases kq with
        | zero => exact absurd HA.out (by simp [outer_size.j1])
        | succ kj5 =>
         have H := HA.out; clear HA; simp only [outer_size.j1] at H
         by_cases c9 : x15_5 = true
         ·
          subst c9
          have H1 : (outer_size.l0 kj5 ((rdOf ByteArray.empty l0 x8_1).size : Int) l0 (l0.length : Int) (wrap64 (x8_1 + 1))) = some r := by rw [if_pos rfl] at H; exact H
          clear H; have H := H1; clear H1; have H' := Aside0.mk H
          clear H; go_wp2
          go_roundg kj5
          case measure => have := HK1.out; have := HJ5.out; omega
          case rel => exact ⟨(((rdOf ByteArray.empty l0 x8_1).size : Int)), (wrap64 (x8_1 + 1)), zF, zF, H', ⟨by have := HK1.out; have := HJ5.out; omega⟩, by repeat (first | exact Drawn0.refl _ | apply Drawn0.step)⟩
         ·
          replace c9 := Bool.eq_false_iff.mpr c9
          subst c9
          have H1 : (if ((rdOf ByteArray.empty l0 x8_1).size : Int) = x3_1 then (outer_size.l0 kj5 x3_1 l0 (l0.length : Int) (wrap64 (x8_1 + 1))) else (some 0)) = some r := by rw [if_neg (show ¬ (false = true) by decide)] at H; exact H
          clear H; have H := H1; clear H1; by_cases c10 : ((rdOf ByteArray.empty l0 x8_1).size : Int) = x3_1
          ·
           rw [if_pos c10] at H
           have c10b0 : (((rdOf ByteArray.empty l0 x8_1).size : Int) == x3_1) = true := beq_iff_eq.mpr c10
           have c10b1 : (((rdOf ByteArray.empty l0 x8_1).size : Int) != x3_1) = false := bne_eq_false_iff_eq.mpr c10
           clear c10; have H' := Aside0.mk H
           clear H; go_wp2
           go_roundg kj5
           case measure => have := HK1.out; have := HJ5.out; omega
           case rel => exact ⟨(x3_1), (wrap64 (x8_1 + 1)), zF, zF, H', ⟨by have := HK1.out; have := HJ5.out; omega⟩, by repeat (first | exact Drawn0.refl _ | apply Drawn0.step)⟩
          ·
           rw [if_neg c10] at H
           have c10b0 : (((rdOf ByteArray.empty l0 x8_1).size : Int) == x3_1) = false := beq_eq_false_iff_ne.mpr c10
           have c10b1 : (((rdOf ByteArray.empty l0 x8_1).size : Int) != x3_1) = true := bne_iff_ne.mpr c10
           obtain rfl := Option.some.inj H
           go_wp2
           go_ret
           exact ⟨by first | rfl | (simp; done) | (simp [*]; done), by repeat (first | exact Drawn0.refl _ | apply Drawn0.step)⟩
     ·
      rw [if_neg c4] at H
      exact absurd H (by simp)
    ·
     rw [if_neg c3] at H
     exact absurd H (by simp)
   ·
    rw [if_neg c2] at H
    have c2b0 : decide (x8_1 < (l0.length : Int)) = false := decide_eq_false c2
    clear c2; obtain rfl := Option.some.inj H
    go_wp2
    go_ret
    exact ⟨by first | rfl | (simp; done) | (simp [*]; done), by repeat (first | exact Drawn0.refl _ | apply Drawn0.step)⟩
end Go.Proofs.YtghhmnjkgnoogaaGreat.POuterFills
