-- Written by this session's own program (wip/tools/mkprint.py) over the kit's printer, with overrides.
import Derived.Test.YtghhmnjkgnoogaaTOuterHoldsa
import Derived.Test.YtghhmnjkgnoogaaQOuterHoldsx0
import Derived.Test.YtghhmnjkgnoogaaQOuterHoldsx1
import Derived.Test.YtghhmnjkgnoogaaQOuterHoldsx4
namespace Go.Proofs.Ytghhmnjkgnoogaa.POuterHolds
open Go.RowKit Go.Mine Go.Proofs.YtghhmnjkgnoogaaW.PrintWords Go.Proofs.YtghhmnjkgnoogaaW.PrintLast Go.Proofs.YtghhmnjkgnoogaaW.PrintMore
attribute [local go_sem] max2_int min2_int max_two min_two max_three min_three max_four min_four   -- for this text's walks alone
set_option linter.unusedVariables false
set_option linter.unusedSimpArgs false
/-! ### outer_rules: function 16 -/
/-- The Bools of a number's bits. -/
def mkB16 (w m : Nat) : Array Bool := ⟨(List.range w).map fun i => m.testBit i⟩
def outer_rules.l0 : Nat → List (List Int) → Int → Int → Int → Int → Int → Int → Option ((List (List Int)))
 | 0, _, _, _, _, _, _, _ => none
 | k + 1, x3, x8, x9, x149000, x149001, x149002, x149003 => if x9 < x8 then (if 0 ≤ x9 then (if x9 < (x3.length : Int) then (if (rd_L3 x3 x9).length < 17592186044416 then (outer_rules.l0 k (x3.set (x9 : Int).toNat ((rd_L3 x3 x9) ++ [wrap64 (x149001 + x9)])) x8 (wrap64 (x9 + 1)) x149000 x149001 x149002 x149003) else (none)) else (none)) else (none)) else (some x3)
def outer_rules.f (k : Nat) (a0_0 : Int) (a0_1 : Int) (a0_2 : Int) (a0_3 : Int) : Option ((List (List Int))) := (outer_members.f k a0_0 a0_1 a0_2 a0_3).bind fun t149 => (outer_rules.l0 k t149 (t149.length : Int) 0 a0_0 a0_1 a0_2 a0_3)
theorem outer_rules.mono_l : ∀ k, (∀ y0 y1 y2 y3 y4 y5 y6, LeO (outer_rules.l0 k y0 y1 y2 y3 y4 y5 y6) (outer_rules.l0 (k + 1) y0 y1 y2 y3 y4 y5 y6))
 | 0 => fun _ _ _ _ _ _ _ r h => by simp [outer_rules.l0] at h
 | k + 1 => by
  have ih0 := outer_rules.mono_l k
  ·
   intro y0 y1 y2 y3 y4 y5 y6
   unfold outer_rules.l0
   repeat' first | (with_reducible first | apply ih0 | apply outer_members.mono | exact LeO.refl _ | exact LeO.none _ | refine LeO.ite ?_ ?_ | refine LeO.bind ?_ (fun _ => ?_)) | apply ih0 | apply outer_members.mono | exact LeO.none _ | refine LeO.ite ?_ ?_ | refine LeO.bind ?_ (fun _ => ?_)
theorem outer_rules.mono : ∀ a0 a1 a2 a3 k, LeO (outer_rules.f k a0 a1 a2 a3) (outer_rules.f (k + 1) a0 a1 a2 a3) := by
 intro a0 a1 a2 a3 k
 have ih0 := outer_rules.mono_l k
 unfold outer_rules.f
 repeat' first | (with_reducible first | apply ih0 | apply outer_members.mono | exact LeO.refl _ | exact LeO.none _ | refine LeO.ite ?_ ?_ | refine LeO.bind ?_ (fun _ => ?_)) | apply ih0 | apply outer_members.mono | exact LeO.none _ | refine LeO.ite ?_ ?_ | refine LeO.bind ?_ (fun _ => ?_)
def outer_rules.T5 : Bool × List (List Nat × List Nat) := (true, [([], []), ([], []), ([], []), ([], []), ([2, 3], [2, 3]), ([4], [4]), ([], []), ([6], [6]), ([], []), ([7, 8], [7, 8]), ([9], [9]), ([5, 10], [5, 10]), ([0, 1, 0, 1, 2, 3, 4, 5, 6, 7, 8, 9, 10, 11], [0, 1]), ([12, 11, 11, 0, 1, 2, 3, 4, 5, 6, 7, 8, 9, 10, 11], [11, 12])])
def outer_rules.B5 : List Nat := [0, 0, 0, 0, 12, 28, 0, 64, 0, 448, 960, 2044, 4095, 8191]
theorem outer_rules.tab5 : rtab .any (opsOf Try.f16 5) = outer_rules.T5 := by kernel_rfl
theorem outer_rules.bits5 : waitsOk outer_rules.T5.2 outer_rules.B5 = true := by kernel_rfl
set_option maxHeartbeats 8000000 in
set_option maxRecDepth 100000 in
theorem outer_rules.calls (k : Nat) (a0_0 : Int) (a0_1 : Int) (a0_2 : Int) (a0_3 : Int) (r : List (List Int)) (w : World) (h : outer_rules.f k a0_0 a0_1 a0_2 a0_3 = some r) :
  Calls Try.prog 16 #[.agg #[.int .i64 a0_0, .int .i64 a0_1, .int .i64 a0_2, .int .i64 a0_3]] w fun e w' => ∃ v0_ : Value, e = .returned (v0_) ∧ Kd.S (Kd.slice 3 (Kd.int .i64)) 30 w' w.heap.size (fun _ => True) v0_ r ∧ Below w.heap.size w w' := by
 have hu23 := Try.underlying23; have HB := Aside0.mk (Below.refl w.heap.size w)
 have H : ((outer_members.f k a0_0 a0_1 a0_2 a0_3).bind fun t149 => (outer_rules.l0 k t149 (t149.length : Int) 0 a0_0 a0_1 a0_2 a0_3)) = some r := h
 clear h; replace H := Option.bind_eq_some_iff.mp H
 obtain ⟨t149, A20, H⟩ := H
 replace H : (outer_rules.l0 k t149 (t149.length : Int) 0 a0_0 a0_1 a0_2 a0_3) = some r := H
 have A2 := Aside0.mk A20
 clear A20; have H' := Aside0.mk H
 clear H; go_enter Try.func16, Try.ntmps16
 go_wp2_with (first | ((with_reducible refine gate_dst (N := 1) rfl ?_); refine box_event ?hg (N := 1) ?hd (cs := #[.int .i64 a0_0, .int .i64 a0_1, .int .i64 a0_2, .int .i64 a0_3]) (t := 23) ?hr ?_; (case hd => rfl); (case hg => rfl); (case hr => first | (go_simp; done) | (go_simp; rfl)); intro gb148 hg w3 hbox hb; have BK148 := Aside0.mk (hbox); have GW148 := Aside0.mk ((zg : w.heap.size ≤ gb148)); have GE148 := Aside0.mk ((zg : w.heap.size ≤ gb148)); replace HB := Aside0.mk (below_step zB hb); clear hb hbox hg; obtain ⟨hcz4_0, hcz4_1, hcz4_2, hcz4_3⟩ := cZ4 BK148; obtain ⟨hfz4_0, hfz4_1, hfz4_2, hfz4_3⟩ := dZ4 BK148) | ((with_reducible refine gate_callee (f := 23) rfl ?_); refine goesL_ (some 6) rfl rfl Try.func23 (by kernel_rfl) rfl #[.agg #[.int .i64 a0_0, .int .i64 a0_1, .int .i64 a0_2, .int .i64 a0_3]] rfl zM ?_; (with_reducible refine (outer_members.calls k a0_0 a0_1 a0_2 a0_3 t149 _ A2.out).mono ?_); rintro e w5 ⟨v150, rfl, ho0, hb⟩; refine ⟨_, rfl, ?_⟩; have HO151 := Aside0.mk (Kd.S_lower ho0 (below_size zB)); replace BK148 := Aside0.mk (blk_below (zk BK148) hb); replace HB := Aside0.mk (below_step zB hb); (try clear hb); (try clear hb2); (try clear hk); (try clear hi); (try clear ho0); obtain ⟨Ao6, co6, eo6⟩ := Kd.S_slice HO151.out; subst eo6))
 go_loopg [9] k (fun kq v9 w' => ∃ (x3_1 : List (List Int)) (x9_1 : Int), v9 = .int .i64 x9_1 ∧ Aside0 (outer_rules.l0 kq x3_1 (t149.length : Int) x9_1 a0_0 a0_1 a0_2 a0_3 = some r) ∧ Aside0 (kq ≤ k) ∧ Aside0 (Kd.S (Kd.slice 3 (Kd.int .i64)) 30 w' w.heap.size (fun _ => True) (.slice Ao6 t149.length co6) x3_1) ∧ Aside0 (w'.heap[gb148]? = some (.cells #[.int .i64 a0_0, .int .i64 a0_1, .int .i64 a0_2, .int .i64 a0_3] 23 (0, 0))) ∧ Aside0 (Below w.heap.size w w'))
 case atStart => exact ⟨(t149), (0), zF, H', ⟨Nat.le_refl _⟩, ⟨zS HO151⟩, ⟨zk BK148⟩, ⟨zB⟩⟩
 case round =>
  clear H'
  obtain ⟨x3_1, x9_1, rfl, HA, HK1, HO_3, BK148, HB⟩ := hrel
  have hl3_1 := (Kd.S_reads' HO_3.out).1
  rw [hl3_1] at HO_3
  (try simp only [hl3_1])
  (try simp only [hl3_1] at BK148)
  cases gk with
  | zero => exact absurd HA.out (by simp [outer_rules.l0])
  | succ k1 =>
   have H := HA.out; clear HA; simp only [outer_rules.l0] at H
   by_cases c7 : x9_1 < (t149.length : Int)
   ·
    rw [if_pos c7] at H
    have c7b0 : decide (x9_1 < (t149.length : Int)) = true := decide_eq_true c7
    (try rw [hl3_1] at c7b0)
    clear c7; by_cases c8 : 0 ≤ x9_1
    ·
     rw [if_pos c8] at H
     have c8b0 : decide (0 ≤ x9_1) = true := decide_eq_true c8
     clear c8; by_cases c9 : x9_1 < (x3_1.length : Int)
     ·
      rw [if_pos c9] at H
      have c9b0 : decide (x9_1 < (x3_1.length : Int)) = true := decide_eq_true c9
      clear c9; by_cases c10 : (rd_L3 x3_1 x9_1).length < 17592186044416
      ·
       rw [if_pos c10] at H
       have LMc10 := Aside0.mk c10
       clear c10; obtain ⟨y153, hy153⟩ : ∃ y_ : List Int, y_ = ((rd_L3 x3_1 x9_1) ++ [wrap64 (a0_1 + x9_1)]) := ⟨_, rfl⟩
       replace H : (outer_rules.l0 k1 (x3_1.set (x9_1 : Int).toNat y153) (t149.length : Int) (wrap64 (x9_1 + 1)) a0_0 a0_1 a0_2 a0_3) = some r := by first | (rw [hy153]; with_reducible exact H) | (have H2_ := (Option.bind_some _ _).symm.trans H; rw [hy153]; with_reducible exact H2_) | (have H2_ := (Option.bind_some _ _).symm.trans H; with_reducible exact H2_) | with_reducible exact H | (rw [hy153]; exact H) | exact H
       have Ny153 := Aside0.mk hy153
       clear hy153; obtain ⟨y156, hy156⟩ : ∃ y_ : List (List Int), y_ = (x3_1.set (x9_1 : Int).toNat y153) := ⟨_, rfl⟩
       replace H : (outer_rules.l0 k1 y156 (t149.length : Int) (wrap64 (x9_1 + 1)) a0_0 a0_1 a0_2 a0_3) = some r := by first | (rw [hy156]; with_reducible exact H) | (have H2_ := (Option.bind_some _ _).symm.trans H; rw [hy156]; with_reducible exact H2_) | (have H2_ := (Option.bind_some _ _).symm.trans H; with_reducible exact H2_) | with_reducible exact H | (rw [hy156]; exact H) | exact H
       have Ny156 := Aside0.mk hy156
       clear hy156; have H' := Aside0.mk H
       clear H; try go_wp2
       replace HO_3 := Aside0.mk (Kd.S_drew HO_3.out)
       replace BK148 := Aside0.mk (blk_drew BK148.out)
       replace HB := Aside0.mk (below_drew1 HB.out); have p152 : 0 ≤ (x9_1 : Int) := of_decide_eq_true zA
       have q152 : x9_1 < (x3_1.length : Int) := of_decide_eq_true zA
       obtain ⟨ad152, A152_0, c152_0, e152, hx152_0, hl152_0, hi152_0⟩ := at_L3 (Kd.S_reads' HO_3.out).2.2 x9_1 p152 q152
       cases e152
       obtain ⟨ce152, hce152, hMe152, hcc152⟩ := Kd.S_get HO_3.out [] x9_1 p152 (by first | exact q152 | exact of_decide_eq_true zA | (have e_ := (Kd.S_reads' HO_3.out).1; omega))
       obtain ⟨ve152_0, rfl, ge152_0⟩ := hMe152
       have hv152_0 := hcc152 0 _ rfl
       rw [Nat.add_zero, show ((Kd.slice 3 (Kd.int .i64))).sz = 1 from rfl, Nat.mul_one] at hv152_0
       replace hv152_0 := Option.some.inj (hv152_0.symm.trans hx152_0)
       rw [hv152_0] at ge152_0
       have HL152_0 := Aside0.mk (show Kd.R (Kd.int .i64) 3 _ _ _ _ (rd_L3 x3_1 x9_1) from ge152_0)
       clear hv152_0 ge152_0; have HX152_0 := Aside0.mk hx152_0
       clear hcc152 hce152; have HR152_0 := Aside0.mk hi152_0
       have HC152_0 := Aside0.mk hl152_0
       clear hi152_0 hl152_0; replace p152 := eq_true p152
       replace q152 := eq_true q152
       obtain ⟨go13, co13, eo13, gb13, gl13, cl13, HG13⟩ := Kd.S_form HO_3.out (by have h_ : (x9_1 : Int) < ((x3_1.length : Int) : Int) := of_decide_eq_true zA; have h2_ : 0 ≤ (x9_1 : Int) := (of_decide_eq_true zA); omega)
       (first | cases eo13 | (injection eo13 with ea_ en_ ec_; (first | subst ea_ | (injection ea_ with ea_; subst ea_)); subst ec_; clear en_))
       have GB13 := Aside0.mk gb13
       have GG13 := Aside0.mk HG13
       clear gb13 gl13 HG13; (first | simp only [add_plain] at hx152_0 | skip)
       obtain ⟨oki13, ce13, hcl13, hM13, hcc13, _, _, hH13⟩ := Kd.S_elem HO_3.out [] (x9_1 : Int) (of_decide_eq_true zA) (by have h_ : (x9_1 : Int) < ((x3_1.length : Int) : Int) := of_decide_eq_true zA; first | exact h_ | (have e_ := (Kd.S_reads' HO_3.out).1; omega) | simpa using h_)
       obtain ⟨ve13_0, rfl, ge13_0⟩ := hM13
       have hv13 := hcc13 0 _ rfl
       have hX13 := HX152_0.out; (try simp only [add_plain] at hX13)
       (try simp only [Nat.add_zero] at hv13)
       (try rw [show ((Kd.slice 3 (Kd.int .i64))).sz = 1 from rfl, Nat.mul_one] at hv13)
       replace hv13 := Option.some.inj (hv13.symm.trans hX13)
       subst hv13
       clear hX13 hcc13 hcl13; have UU13 := Aside0.mk (show Kd.R (Kd.int .i64) 3 _ w.heap.size oki13 (.slice A152_0 (rd_L3 x3_1 x9_1).length c152_0) (rd_L3 x3_1 x9_1) from ge13_0)
       have HH13 := Aside0.mk hH13
       have HN13 := Aside0.mk (Kd.S_reads' HO_3.out).1
       clear hH13 ge13_0; refine start_ (n := 14) (S := fun w' => w'.cell? ⟨gb148, 0, none⟩ = some (.int .i64 a0_0) ∧ w'.cell? ⟨gb148, 1, none⟩ = some (.int .i64 a0_1) ∧ w'.cell? ⟨gb148, 2, none⟩ = some (.int .i64 a0_2) ∧ w'.cell? ⟨gb148, 3, none⟩ = some (.int .i64 a0_3) ∧ w'.cell? ⟨go13, (x9_1).toNat, none⟩ = some (.slice A152_0 (rd_L3 x3_1 x9_1).length c152_0)) (ds := [13]) (mkB16 14 0) (by kernel_rfl) rfl rfl ⟨(blk_cell BK148.out 0).trans rfl, (blk_cell BK148.out 1).trans rfl, (blk_cell BK148.out 2).trans rfl, (blk_cell BK148.out 3).trans rfl, hx152_0⟩ (fun hHeld => ?_); refine with_tabW outer_rules.tab5 outer_rules.bits5 (fun HT_ HW_ => ?_)
       generalize wr.drew = w12 at HO_3 BK148 HB GG13 HH13 HL152_0 HR152_0 HX152_0 UU13 hx152_0 hHeld ⊢
       refine pX 0 (some 12) (mkB16 14 1) ?_
       refine pX 1 (some 13) (mkB16 14 3) ?_
       refine pX 2 (some 14) (mkB16 14 7) ?_
       refine pX 3 (some 15) (mkB16 14 15) ?_
       refine pX 4 (some 16) (mkB16 14 31) ?_
       refine pX 6 (some 18) (mkB16 14 95) ?_
       refine pX 8 (some 20) (mkB16 14 351) ?_
       refine tT (v := ?_) (a' := ?_) HT_ HW_ hHeld 5 (some 17) (mkB16 14 383) ?_ ?_ ?_; rotate_left 2; (rintro w' ⟨s0, s1, s2, s3, s4⟩; go_simp; with_reducible rfl); (simp only [Act.put, qA, qB, qC, i64_w, i32_w]; rfl)
       refine tT (v := ?_) (a' := ?_) HT_ HW_ hHeld 7 (some 19) (mkB16 14 511) ?_ ?_ ?_; rotate_left 2; (rintro w' ⟨s0, s1, s2, s3, s4⟩; go_simp; with_reducible rfl); (simp only [Act.put, qA, qB, qC, i64_w, i32_w]; rfl)
       refine pX 9 (some 21) (mkB16 14 1023) ?_
       refine one_ (i := 10) (N := some 22) (mkB16 14 2047) rfl rfl (one_of HT_.out (by kernel_rfl)) (by decide) (fun K hK => ?_)
       refine value_ (w1 := ?_) (v := ?_) (by rfl) rfl ?_ ?_
       rotate_left 2
       ·
        go_simp; constructor
        ·
         rfl
        ·
         rfl
       refine hK.out _ _ ⟨(blk_cell (blk_alloc BK148.out _) 0).trans rfl, (blk_cell (blk_alloc BK148.out _) 1).trans rfl, (blk_cell (blk_alloc BK148.out _) 2).trans rfl, (blk_cell (blk_alloc BK148.out _) 3).trans rfl, (World.cell?_alloc_lt _ _ _ (World.block_lt_of_cell? _ _ (hHeld.2.2.2.2))).trans (hHeld.2.2.2.2)⟩ (fun hHeld => ?_)
       clear hK K; refine norm_ (a' := ?_) ?_ ?_
       rotate_left
       ·
        show Act.put _ (some 22) _ = _
        simp only [Act.put, List.setIfInBounds_toArray, List.set_cons_zero, List.set_cons_succ, i64_w, i32_w]; rfl
       refine one_ (i := 11) (N := some 23) (mkB16 14 4095) rfl rfl (one_of HT_.out (by kernel_rfl)) (by decide) (fun K hK => ?_)
       refine Kd.R_append_step (Kd.int .i64) (w0 := w) w.heap.size (by rfl) (.tmp 17) (.tmp 22) 30 3 (.int .i64 0) 8 rfl Try.underlying30 info3 rfl (by decide) (by omega) (.slice A152_0 (rd_L3 x3_1 x9_1).length c152_0) (rd_L3 x3_1 x9_1) (wrap64 (a0_1 + x9_1)) [.int .i64 (wrap64 (a0_1 + x9_1))] (fun k_ => oki13 k_ ∨ ((fun _ => True)) k_ ∧ w12.heap.size ≤ k_) (fun _ => False) rfl rfl ?aP (fun _ hk => hk.elim) ?aF ?aO ?aB ?aS ?aL ?_
       (case aP => exact rfl)
       (case aB => exact zB)
       (case aF => exact (fun k_ hk => .inr ⟨trivial, hk⟩))
       (case aO => exact (by (with_reducible repeat (first | apply Kd.R_alloc | apply Kd.R_drewN | apply Kd.R_drew)); exact Kd.R_mono UU13.out (fun _ hk => .inl hk)))
       (case aS => exact (below_size zB))
       (case aL => have := LMc10.out; omega)
       intro v154 w14 ho hb hg hat
       (first | have HS4_ := cell_grown hg (hHeld.2.2.2.2) (by first | (rw [add_block]; exact (fun e_ => ((HL152_0.out.1 _ e_.symm).2) rfl)) | (show some (Addr.add _ _).block ≠ _; rw [add_block]; exact (fun e_ => ((HL152_0.out.1 _ e_.symm).2) rfl)) | exact (fun e_ => ((HL152_0.out.1 _ e_.symm).2) rfl)) | have HS4_ := cell_grown hg (cell_unalloc (hHeld.2.2.2.2) (by first | (rw [add_block]; exact Kd.S_lt HO_3.out _ rfl) | (show (Addr.add _ _).block < _; rw [add_block]; exact Kd.S_lt HO_3.out _ rfl) | exact Kd.S_lt HO_3.out _ rfl)) (by first | (rw [add_block]; exact (fun e_ => ((HL152_0.out.1 _ e_.symm).2) rfl)) | (show some (Addr.add _ _).block ≠ _; rw [add_block]; exact (fun e_ => ((HL152_0.out.1 _ e_.symm).2) rfl)) | exact (fun e_ => ((HL152_0.out.1 _ e_.symm).2) rfl)))
       rw [← Ny153.out] at ho
       replace BK148 := Aside0.mk (blk_grown (zk BK148) hg (Kd.R_ne HL152_0.out BK148.out (by decide)))
       replace HH13 := Aside0.mk (Kd.H_grown (Kd.H_widen (by repeat (first | exact HH13.out | refine Kd.H_alloc ?_ _ | refine Kd.H_drewN ?_ _ | refine Kd.H_drew ?_))) hg (fun k_ e_ => .inl (UU13.out.1 k_ e_)))
       have HO155 := Aside0.mk (ho)
       replace HB := Aside0.mk (hb)
       clear HO_3 UU13 HL152_0 ho hb hg hat; have p11 : 0 ≤ (x9_1 : Int) := of_decide_eq_true zA
       have q11 : (x9_1 : Int) < ((x3_1.length : Int) : Int) := of_decide_eq_true zA
       replace p11 := eq_true p11
       replace q11 := eq_true q11
       obtain ⟨Ao17, co17, eo17⟩ := Kd.R_slice HO155.out
       (first | subst eo17 | (injection eo17 with f1_ f2_ f3_; have f4_ := f1_.symm; have f5_ := f3_.symm; clear f1_ f2_ f3_; subst f4_; subst f5_))
       obtain ⟨_, _, hraw15, _, _, hcc15, _⟩ := Kd.H_raw HH13.out (of_decide_eq_true zA) (by have h_ : (x9_1 : Int) < ((x3_1.length : Int) : Int) := of_decide_eq_true zA; first | exact h_ | (have e_ := (HN13.out); omega) | simpa using h_)
       obtain ⟨_, hfr15⟩ := Kd.H_at HH13.out (of_decide_eq_true zA) (by have h_ : (x9_1 : Int) < ((x3_1.length : Int) : Int) := of_decide_eq_true zA; first | exact h_ | (have e_ := (HN13.out); omega) | simpa using h_)
       have hx15_0 := hcc15 0 _ rfl
       have hf15_0 := hfr15 0
       (try simp only [Nat.add_zero] at hx15_0 hf15_0)
       (try rw [show ((Kd.slice 3 (Kd.int .i64))).sz = 1 from rfl, Nat.mul_one] at hx15_0)
       (try rw [show ((Kd.slice 3 (Kd.int .i64))).sz = 1 from rfl, Nat.mul_one] at hf15_0)
       have HP15 := Kd.S_seg0 HH13.out (of_decide_eq_true zA) (by have h_ : (x9_1 : Int) < ((x3_1.length : Int) : Int) := of_decide_eq_true zA; first | exact h_ | (have e_ := (HN13.out); omega) | simpa using h_) (seg := [.slice Ao17 y153.length co17]) (j := 0) (show 1 ≤ 1 from by decide) (x' := y153) (Kd.M_row HO155.out) (fun _ hk => hk)
       (try simp only [show ((Kd.slice 3 (Kd.int .i64))).sz = 1 from rfl, Nat.mul_one, Nat.add_zero] at HP15)
       clear hcc15 hfr15; have HNB148_go13 := Aside0.mk (show gb148 ≠ go13 from by have h_ := Kd.R_ne hraw15 BK148.out (by decide); intro e_; exact h_ (by rw [e_]; rfl))
       have HS15 := HP15.1; rw [← Ny156.out] at HS15
       have HQ15 := Aside0.mk HS15
       obtain ⟨_, hgg15⟩ := Kd.R_typed hraw15 go13 rfl
       have GG15_ := Aside0.mk hgg15
       clear HP15 HS15 hgg15; refine hK.out _ _ ⟨(blk_cell BK148.out 0).trans rfl, (blk_cell BK148.out 1).trans rfl, (blk_cell BK148.out 2).trans rfl, (blk_cell BK148.out 3).trans rfl, HS4_⟩ (fun hHeld => ?_)
       clear hK K; refine norm_ (a' := ?_) ?_ ?_
       rotate_left
       ·
        show Act.put _ (some 23) _ = _
        simp only [Act.put, List.setIfInBounds_toArray, List.set_cons_zero, List.set_cons_succ, i64_w, i32_w]; rfl
       refine pX 12 (some 24) (mkB16 14 8191) ?_
       refine last_ (i := 13) (N := none) (mkB16 14 16383) rfl rfl (one_of HT_.out (by kernel_rfl)) (by decide) (fun K hK => ?_)
       refine skip_ (w1 := ?_) (by rfl) rfl ?_ ?_
       rotate_left
       ·
        go_simp; rfl
       refine hK.out _ _ ?_
       clear hK K; refine done_ (done_of HT_.out (by kernel_rfl)) ?_
       try go_wp2
       (try simp only [← hl3_1])
       go_roundg k1
       case measure => have := HK1.out; omega
       case rel => exact ⟨(y156), (wrap64 (x9_1 + 1)), zF, H', ⟨by have := HK1.out; omega⟩, ⟨by (try simp only [hl3_1]); (with_reducible repeat (first | apply Kd.S_alloc | apply Kd.S_drewN | apply Kd.S_drew)); exact HQ15.out⟩, ⟨by (try simp only [hl3_1]); (with_reducible repeat (first | refine blk_drewN ?_ _ | refine blk_drew ?_ | refine blk_alloc ?_ _)); refine blk_far ?_ HNB148_go13.out _; (with_reducible repeat (first | refine blk_drewN ?_ _ | refine blk_drew ?_ | refine blk_alloc ?_ _)); exact BK148.out⟩, ⟨by repeat (first | (with_reducible first | exact HB.out | apply below_alloc | apply pw_below_drewN | apply below_drew1 | refine below_set ?_ GB13.out | refine below_set ?_ GE148.out) | exact HB.out)⟩⟩
      ·
       rw [if_neg c10] at H
       exact absurd H (by simp)
     ·
      rw [if_neg c9] at H
      exact absurd H (by simp)
    ·
     rw [if_neg c8] at H
     exact absurd H (by simp)
   ·
    rw [if_neg c7] at H
    have c7b0 : decide (x9_1 < (t149.length : Int)) = false := decide_eq_false c7
    (try rw [hl3_1] at c7b0)
    clear c7; obtain rfl := Option.some.inj H
    go_wp2
    go_ret
    exact ⟨_, zE, by (with_reducible repeat (first | apply Kd.S_alloc | apply Kd.S_drewN | apply Kd.S_drew)); exact HO_3.out, zB⟩
/-! ### outer_Rules: function 6 -/
def outer_Rules.f (k : Nat) (a0_0 : Int) (a0_1 : Int) (a0_2 : Int) (a0_3 : Int) : Option ((List (List Int)) × Int) := (outer_Check.f a0_0 a0_1 a0_2 a0_3).bind fun t158 => (if t158 = true then ((outer_rules.f k a0_0 a0_1 a0_2 a0_3).bind fun t159 => (some (t159, 0))) else (some (([] : List (List Int)), 1)))
theorem outer_Rules.mono : ∀ a0 a1 a2 a3 k, LeO (outer_Rules.f k a0 a1 a2 a3) (outer_Rules.f (k + 1) a0 a1 a2 a3) := by
 intro a0 a1 a2 a3 k
 unfold outer_Rules.f
 repeat' first | (with_reducible first | apply outer_rules.mono | exact LeO.refl _ | exact LeO.none _ | refine LeO.ite ?_ ?_ | refine LeO.bind ?_ (fun _ => ?_)) | apply outer_rules.mono | exact LeO.none _ | refine LeO.ite ?_ ?_ | refine LeO.bind ?_ (fun _ => ?_)
set_option maxHeartbeats 8000000 in
set_option maxRecDepth 100000 in
theorem outer_Rules.calls (k : Nat) (a0_0 : Int) (a0_1 : Int) (a0_2 : Int) (a0_3 : Int) (r1 : List (List Int)) (r2 : Int) (w : World) (h : outer_Rules.f k a0_0 a0_1 a0_2 a0_3 = some (r1, r2)) :
  Calls Try.prog 6 #[.agg #[.int .i64 a0_0, .int .i64 a0_1, .int .i64 a0_2, .int .i64 a0_3]] w fun e w' => ∃ v0_ : Value, e = .returned (.tuple #[v0_, .int .i64 r2]) ∧ Kd.S (Kd.slice 3 (Kd.int .i64)) 30 w' w.heap.size (fun _ => True) v0_ r1 ∧ Below w.heap.size w w' := by
 have hu23 := Try.underlying23; have HB := Aside0.mk (Below.refl w.heap.size w)
 have H : ((outer_Check.f a0_0 a0_1 a0_2 a0_3).bind fun t158 => (if t158 = true then ((outer_rules.f k a0_0 a0_1 a0_2 a0_3).bind fun t159 => (some (t159, 0))) else (some (([] : List (List Int)), 1)))) = some (r1, r2) := h
 clear h; replace H := Option.bind_eq_some_iff.mp H
 obtain ⟨t158, A20, H⟩ := H
 replace H : (if t158 = true then ((outer_rules.f k a0_0 a0_1 a0_2 a0_3).bind fun t159 => (some (t159, 0))) else (some (([] : List (List Int)), 1))) = some (r1, r2) := H
 have A2 := Aside0.mk A20
 clear A20; by_cases c3 : t158 = true
 ·
  subst c3
  have H1 : ((outer_rules.f k a0_0 a0_1 a0_2 a0_3).bind fun t159 => (some (t159, 0))) = some (r1, r2) := by rw [if_pos rfl] at H; exact H
  clear H; have H := H1; clear H1; replace H := Option.bind_eq_some_iff.mp H
  obtain ⟨t159, A40, H⟩ := H
  replace H : (some (t159, 0)) = some (r1, r2) := H
  have A4 := Aside0.mk A40
  clear A40; simp only [Option.some.injEq, Prod.mk.injEq] at H
  obtain ⟨rfl, rfl⟩ := H
  go_enter Try.func6, Try.ntmps6
  go_wp2_with (first | ((with_reducible refine gate_dst (N := 1) rfl ?_); refine box_event ?hg (N := 1) ?hd (cs := #[.int .i64 a0_0, .int .i64 a0_1, .int .i64 a0_2, .int .i64 a0_3]) (t := 23) ?hr ?_; (case hd => rfl); (case hg => rfl); (case hr => first | (go_simp; done) | (go_simp; rfl)); intro gb157 hg w5 hbox hb; have BK157 := Aside0.mk (hbox); have GW157 := Aside0.mk ((zg : w.heap.size ≤ gb157)); have GE157 := Aside0.mk ((zg : w.heap.size ≤ gb157)); replace HB := Aside0.mk (below_step zB hb); clear hb hbox hg; obtain ⟨hcz6_0, hcz6_1, hcz6_2, hcz6_3⟩ := cZ4 BK157; obtain ⟨hfz6_0, hfz6_1, hfz6_2, hfz6_3⟩ := dZ4 BK157) | ((with_reducible refine gate_callee (f := 8) rfl ?_); refine goesL_ (some 5) rfl rfl Try.func8 (by kernel_rfl) rfl #[.agg #[.int .i64 a0_0, .int .i64 a0_1, .int .i64 a0_2, .int .i64 a0_3]] rfl zM ?_; (with_reducible refine (outer_Check.calls a0_0 a0_1 a0_2 a0_3 true _ A2.out).mono ?_); rintro e w7 ⟨rfl, hb⟩; refine ⟨_, rfl, ?_⟩; replace BK157 := Aside0.mk (blk_below (zk BK157) hb); replace HB := Aside0.mk (below_step zB hb); (try clear hb); (try clear hb2); (try clear hk); (try clear hi); obtain ⟨hcz8_0, hcz8_1, hcz8_2, hcz8_3⟩ := cZ4 BK157; obtain ⟨hfz8_0, hfz8_1, hfz8_2, hfz8_3⟩ := dZ4 BK157) | ((with_reducible refine gate_callee (f := 16) rfl ?_); refine goesL_ (some 8) rfl rfl Try.func16 (by kernel_rfl) rfl #[.agg #[.int .i64 a0_0, .int .i64 a0_1, .int .i64 a0_2, .int .i64 a0_3]] rfl zM ?_; (with_reducible refine (outer_rules.calls k a0_0 a0_1 a0_2 a0_3 t159 _ A4.out).mono ?_); rintro e w9 ⟨v160, rfl, ho0, hb⟩; refine ⟨_, rfl, ?_⟩; have HO161 := Aside0.mk (Kd.S_lower ho0 (below_size zB)); replace BK157 := Aside0.mk (blk_below (zk BK157) hb); replace HB := Aside0.mk (below_step zB hb); (try clear hb); (try clear hb2); (try clear hk); (try clear hi); (try clear ho0)))
  go_ret2
  exact ⟨_, zE, by (with_reducible repeat (first | apply Kd.S_alloc | apply Kd.S_drewN | apply Kd.S_drew)); exact HO161.out, zB⟩
 ·
  replace c3 := Bool.eq_false_iff.mpr c3
  subst c3
  have H1 : (some (([] : List (List Int)), 1)) = some (r1, r2) := by rw [if_neg (show ¬ (false = true) by decide)] at H; exact H
  clear H; have H := H1; clear H1; simp only [Option.some.injEq, Prod.mk.injEq] at H
  obtain ⟨rfl, rfl⟩ := H
  go_enter Try.func6, Try.ntmps6
  go_wp2_with (first | ((with_reducible refine gate_dst (N := 1) rfl ?_); refine box_event ?hg (N := 1) ?hd (cs := #[.int .i64 a0_0, .int .i64 a0_1, .int .i64 a0_2, .int .i64 a0_3]) (t := 23) ?hr ?_; (case hd => rfl); (case hg => rfl); (case hr => first | (go_simp; done) | (go_simp; rfl)); intro gb157 hg w10 hbox hb; have BK157 := Aside0.mk (hbox); have GW157 := Aside0.mk ((zg : w.heap.size ≤ gb157)); have GE157 := Aside0.mk ((zg : w.heap.size ≤ gb157)); replace HB := Aside0.mk (below_step zB hb); clear hb hbox hg; obtain ⟨hcz11_0, hcz11_1, hcz11_2, hcz11_3⟩ := cZ4 BK157; obtain ⟨hfz11_0, hfz11_1, hfz11_2, hfz11_3⟩ := dZ4 BK157) | ((with_reducible refine gate_callee (f := 8) rfl ?_); refine goesL_ (some 5) rfl rfl Try.func8 (by kernel_rfl) rfl #[.agg #[.int .i64 a0_0, .int .i64 a0_1, .int .i64 a0_2, .int .i64 a0_3]] rfl zM ?_; (with_reducible refine (outer_Check.calls a0_0 a0_1 a0_2 a0_3 false _ A2.out).mono ?_); rintro e w12 ⟨rfl, hb⟩; refine ⟨_, rfl, ?_⟩; replace BK157 := Aside0.mk (blk_below (zk BK157) hb); replace HB := Aside0.mk (below_step zB hb); (try clear hb); (try clear hb2); (try clear hk); (try clear hi)))
  go_ret2
  exact ⟨_, zE, by first | exact Kd.S_nil _ _ _ _ _ | exact Kd.N_nil _ _ _ _ _ | exact Kd.V_nil _ _ _ _ _ | exact Kd.Q_nil _ _ _ _ _ | exact Kd.R_nil _ _ _ _ _, zB⟩
/-! ### slices_ContainsFunc_string_string: function 38 -/
theorem slices_ContainsFunc_string_string.index (p : ByteArray → Bool) (g : Nat) (lb : Array Value) (eg : ∀ args w, (callFunc g args).run Try.prog w = .ok (.enter g args) w) (A0 : Option Addr) (c0 : Nat) (l0 : List ByteArray) (w : World)
    (hp : ∀ (W : World) (x : ByteArray), Below w.heap.size w W → Calls Try.prog g (#[.string x] ++ lb) W fun e w' => e = .returned (.bool (p x)) ∧ Drawn0 W w') (hr0 : Kd.C Kd.string w A0 l0.length l0) :
    Calls Try.prog 54 #[.slice A0 l0.length c0, .func (.func g) #[] lb] w fun e w' => (∃ i : Int, e = .returned (.int .i64 i) ∧ IdxOf p l0 i) ∧ Drawn0 w w' := by
  have HR0 := Aside0.mk hr0
  have hlen := hr0.2.1
  have HP : ∀ (x : ByteArray) (q : Nat), Calls Try.prog g (#[.string x] ++ lb) (w.drewN q) fun e w' => e = .returned (.bool (p x)) ∧ Drawn0 (w.drewN q) w' := fun x q => hp _ x (pw_below_drewN (Below.refl _ w) q)
  clear hr0 hp
  go_enter Try.func54, Try.ntmps54
  go_wp2
  go_loopg [5, 8] l0.length (fun gg _ s8 wr => ∃ kk q : Nat, kk ≤ l0.length ∧ l0.length - kk ≤ gg ∧ s8 = .int .i64 kk ∧ wr = w.drewN q ∧ Aside0 (∀ j, j < kk → p (l0.getD j ByteArray.empty) = false))
  case atStart => exact ⟨0, 0, Nat.zero_le _, by omega, rfl, rfl, ⟨fun j hj => absurd hj (Nat.not_lt_zero _)⟩⟩
  case round =>
    obtain ⟨kk, q, hkk, hg, rfl, rfl, A⟩ := hrel
    by_cases hlt : kk < l0.length
    · have hltz : (kk : Int) < (l0.length : Int) := by omega
      obtain ⟨ad, e1, hx⟩ := Kd.at_string HR0.out kk (by omega) hltz
      cases e1
      have hy : rdOf ByteArray.empty l0 (kk : Int) = l0.getD kk ByteArray.empty := by simp [rdOf]
      rw [Int.toNat_natCast, hy] at hx
      generalize hyy : l0.getD kk ByteArray.empty = y at hx
      have B := Aside0.mk hyy
      clear hyy hy
      have hcall := HP y
      clear HP
      cases hq : p y with
      | true =>
        rw [hq] at hcall
        have hcall2 : Aside0 (p y = true) := ⟨hq⟩
        clear hq
        go_wp2_with (go_at_fn g; refine (hcall _).mono ?_; rintro e w' ⟨rfl, ⟨q', rfl⟩⟩)
        go_ret
        refine ⟨⟨_, rfl, ?_⟩, ⟨_, rfl⟩⟩
        have hm : l0.any p = true := by
          rw [List.any_eq_true]
          refine ⟨y, ?_, hcall2.out⟩
          rw [← B.out, List.getD_eq_getElem?_getD, List.getElem?_eq_getElem hlt]
          exact List.getElem_mem hlt
        exact ⟨fun _ => hm, fun _ => by omega⟩
      | false =>
        rw [hq] at hcall
        have hcall2 : Aside0 (p y = false) := ⟨hq⟩
        clear hq
        go_wp2_with (go_at_fn g; refine (hcall _).mono ?_; rintro e w' ⟨rfl, ⟨q', rfl⟩⟩)
        go_roundg (l0.length - (kk + 1))
        case measure => omega
        case rel =>
          refine ⟨kk + 1, _, by omega, by omega, by go_num, rfl, ⟨fun j hj => ?_⟩⟩
          by_cases e : j = kk
          · subst e
            rw [B.out]; exact hcall2.out
          · exact A.out j (by omega)
    · have hltz : ¬ (kk : Int) < (l0.length : Int) := by omega
      have : kk = l0.length := by omega
      subst this
      clear HP
      go_wp2
      go_ret
      refine ⟨⟨_, rfl, ?_⟩, ⟨_, rfl⟩⟩
      have hm : l0.any p = false := by
        rw [List.any_eq_false]
        intro x hx
        obtain ⟨j, hj, rfl⟩ := List.getElem_of_mem hx
        have := A.out j hj
        rw [List.getD_eq_getElem?_getD, List.getElem?_eq_getElem hj] at this
        simpa using this
      exact ⟨fun h => absurd h (by decide), fun h => by rw [hm] at h; cases h⟩
theorem slices_ContainsFunc_string_string.gives (p : ByteArray → Bool) (g : Nat) (lb : Array Value) (eg : ∀ args w, (callFunc g args).run Try.prog w = .ok (.enter g args) w) (A0 : Option Addr) (c0 : Nat) (l0 : List ByteArray) (w : World)
    (hp : ∀ (W : World) (x : ByteArray), Below w.heap.size w W → Calls Try.prog g (#[.string x] ++ lb) W fun e w' => e = .returned (.bool (p x)) ∧ Drawn0 W w') (hr0 : Kd.C Kd.string w A0 l0.length l0) :
    Calls Try.prog 38 #[.slice A0 l0.length c0, .func (.func g) #[] lb] w fun e w' => e = .returned (.bool (l0.any p)) ∧ Drawn0 w w' := by
  have hc := slices_ContainsFunc_string_string.index p g lb eg A0 c0 l0 w hp hr0
  clear hp hr0
  unfold IdxOf at hc
  generalize l0.any p = b at *
  go_enter Try.func38, Try.ntmps38
  go_wp2_with (go_at_call 54; refine hc.mono ?_; rintro e w' ⟨⟨i, rfl, hi⟩, ⟨q, rfl⟩⟩)
  cases b with
  | true =>
    have h0 : 0 ≤ i := hi.2 rfl
    clear hi
    go_wp2
    go_ret
    exact ⟨by first | rfl | (simp [h0]; done) | (simp; omega), ⟨q, rfl⟩⟩
  | false =>
    have h0 : ¬ 0 ≤ i := fun h => by have := hi.1 h; cases this
    clear hi
    go_wp2
    go_ret
    exact ⟨by first | rfl | (simp [h0]; done) | (simp; omega), ⟨q, rfl⟩⟩
/-! ### block_may: function 43 -/
def block_may.f (a0 : Int) : Option (Bool) := if a0 ≥ 1 then (some (decide (a0 ≤ 64))) else (some false)
set_option maxHeartbeats 8000000 in
set_option maxRecDepth 100000 in
theorem block_may.calls (a0 : Int) (r : Bool) (w : World) (h : block_may.f a0 = some r) :
  Calls Try.prog 43 #[.int .i64 a0] w fun e w' => e = .returned (.bool r) ∧ Drawn0 w w' := by
 have H : (if a0 ≥ 1 then (some (decide (a0 ≤ 64))) else (some false)) = some r := h
 clear h; by_cases c2 : a0 ≥ 1
 ·
  rw [if_pos c2] at H
  have c2b0 : decide (1 ≤ a0) = true := decide_eq_true c2
  clear c2; obtain rfl := Option.some.inj H
  go_enter Try.func43, Try.ntmps43
  go_wp2
  go_ret
  exact ⟨by first | rfl | (simp; done) | (simp [*]; done), by repeat (first | exact Drawn0.refl _ | apply Drawn0.step)⟩
 ·
  rw [if_neg c2] at H
  have c2b0 : decide (1 ≤ a0) = false := decide_eq_false c2
  clear c2; obtain rfl := Option.some.inj H
  go_enter Try.func43, Try.ntmps43
  go_wp2
  go_ret
  exact ⟨by first | rfl | (simp; done) | (simp [*]; done), by repeat (first | exact Drawn0.refl _ | apply Drawn0.step)⟩
/-! ### block_Is: function 40 -/
def block_Is.f (a0 : ByteArray) (a1 : Int) : Option (Bool) := (block_may.f a1).bind fun t162 => (if t162 = true then (some ((a0.size : Int) == a1)) else (some false))
set_option maxHeartbeats 8000000 in
set_option maxRecDepth 100000 in
theorem block_Is.calls (a0 : ByteArray) (a1 : Int) (r : Bool) (w : World) (h : block_Is.f a0 a1 = some r) :
  Calls Try.prog 40 #[.string a0, .int .i64 a1] w fun e w' => e = .returned (.bool r) ∧ Drawn0 w w' := by
 have H : ((block_may.f a1).bind fun t162 => (if t162 = true then (some ((a0.size : Int) == a1)) else (some false))) = some r := h
 clear h; replace H := Option.bind_eq_some_iff.mp H
 obtain ⟨t162, A30, H⟩ := H
 replace H : (if t162 = true then (some ((a0.size : Int) == a1)) else (some false)) = some r := H
 have A3 := Aside0.mk A30
 clear A30; by_cases c4 : t162 = true
 ·
  subst c4
  have H1 : (some ((a0.size : Int) == a1)) = some r := by rw [if_pos rfl] at H; exact H
  clear H; have H := H1; clear H1; obtain rfl := Option.some.inj H
  go_enter Try.func40, Try.ntmps40
  go_wp2_with (first | ((with_reducible refine gate_callee (f := 43) rfl ?_); refine goesL_ (some 6) rfl rfl Try.func43 (by kernel_rfl) rfl #[.int .i64 a1] rfl zM ?_; (with_reducible refine (block_may.calls a1 true _ A3.out).mono ?_); rintro e w' ⟨rfl, ⟨nd, rfl⟩⟩; refine ⟨_, rfl, ?_⟩))
  go_ret
  exact ⟨by first | rfl | (simp; done) | (simp [*]; done), by repeat (first | exact Drawn0.refl _ | apply Drawn0.step)⟩
 ·
  replace c4 := Bool.eq_false_iff.mpr c4
  subst c4
  have H1 : (some false) = some r := by rw [if_neg (show ¬ (false = true) by decide)] at H; exact H
  clear H; have H := H1; clear H1; obtain rfl := Option.some.inj H
  go_enter Try.func40, Try.ntmps40
  go_wp2_with (first | ((with_reducible refine gate_callee (f := 43) rfl ?_); refine goesL_ (some 6) rfl rfl Try.func43 (by kernel_rfl) rfl #[.int .i64 a1] rfl zM ?_; (with_reducible refine (block_may.calls a1 false _ A3.out).mono ?_); rintro e w' ⟨rfl, ⟨nd, rfl⟩⟩; refine ⟨_, rfl, ?_⟩))
  go_ret
  exact ⟨by first | rfl | (simp; done) | (simp [*]; done), by repeat (first | exact Drawn0.refl _ | apply Drawn0.step)⟩
/-! ### outer_sized: function 21 -/
def outer_sized.okB (x : ByteArray) (n : Int) : Bool := (decide (1 ≤ n) && decide (n ≤ 64)) && ((x.size : Int) == n)
theorem outer_sized.is_ok (x : ByteArray) (n : Int) : block_Is.f x n = some (outer_sized.okB x n) := by
  unfold block_Is.f block_may.f outer_sized.okB
  by_cases h1 : n ≥ 1
  · have h1' : 1 ≤ n := h1
    rw [if_pos h1, Option.bind_some]
    by_cases h2 : n ≤ 64
    · simp [h1', h2]
    · simp [h1', h2]
  · have h1' : ¬ 1 ≤ n := h1
    rw [if_neg h1, Option.bind_some]
    simp [h1']
def outer_sized.f (l0 : List ByteArray) : Option Bool := if l0.length = 0 then some false else some (!(l0.any fun x => !(outer_sized.okB x ((l0.getD 0 ByteArray.empty).size : Int))))
theorem outer_sized.pred (s0 : ByteArray) (B : Nat) (ad : Addr) (n c : Nat) (hn : 0 < n) (w : World) (hB : B < w.heap.size) (hcell : w.cell? ⟨B, 0, none⟩ = some (.slice (some ad) n c)) (h0 : w.cell? ad = some (.string s0)) (W : World) (x : ByteArray) (hb : Below w.heap.size w W) :
    Calls Try.prog 39 (#[.string x] ++ #[.pointer (some ⟨B, 0, none⟩)]) W fun e w' => e = .returned (.bool (!(outer_sized.okB x (s0.size : Int)))) ∧ Drawn0 W w' := by
  have hc : W.cell? ⟨B, 0, none⟩ = some (.slice (some ad) n c) := (hb.cell (p := ⟨B, 0, none⟩) hB).trans hcell
  have hc0 : W.cell? ad = some (.string s0) := pw_cell_below hb h0
  clear hcell hB hb h0
  show Calls Try.prog 39 #[.string x, .pointer (some ⟨B, 0, none⟩)] W _
  have HI := Aside0.mk (outer_sized.is_ok x (s0.size : Int))
  have hnz : (0 : Int) < (n : Int) := by omega
  have had : ad.add 0 = ad := by simp [Addr.add]
  generalize outer_sized.okB x (s0.size : Int) = b at *
  go_enter Try.func39, Try.ntmps39
  go_wp2_with (go_at_call 40; refine (block_Is.calls _ _ _ _ HI.out).mono ?_; rintro e w' ⟨rfl, ⟨q, rfl⟩⟩)
  all_goals (go_ret; exact ⟨by first | rfl | (simp; done), ⟨q, rfl⟩⟩)
set_option maxHeartbeats 1000000 in
theorem outer_sized.calls (A0 : Option Addr) (c0 : Nat) (l0 : List ByteArray) (r : Bool) (w : World) (hr0 : Kd.C Kd.string w A0 l0.length l0) (hc0 : l0.length ≤ c0) (h : outer_sized.f l0 = some r) :
    Calls Try.prog 21 #[.slice A0 l0.length c0] w fun e w' => e = .returned (.bool r) ∧ Below w.heap.size w w' := by
  unfold outer_sized.f at h
  have HB : Aside0 (Below w.heap.size w (w.alloc (.cells #[.slice A0 l0.length c0] 34))) := ⟨below_alloc (Below.refl _ _) _⟩
  by_cases hl : l0.length = 0
  · rw [if_pos hl] at h
    have h := Option.some.inj h
    subst h
    have hz : ¬ (0 : Int) < (l0.length : Int) := by omega
    clear hr0 hc0 hl
    go_enter Try.func21, Try.ntmps21
    go_wp2_with fail
    go_ret
    exact ⟨by first | rfl | (simp; done), HB.out⟩
  rw [if_neg hl] at h
  have h := Option.some.inj h
  have HRES := Aside0.mk h
  obtain ⟨ad, e1, hcell⟩ := Kd.at_string hr0 0 (by omega) (by omega)
  subst e1
  have h0 : w.cell? ad = some (.string (l0.getD 0 ByteArray.empty)) := by
    have h9 := hcell
    simpa [rdOf, Addr.add] using h9
  have hbx : (w.alloc (.cells #[.slice (some ad) l0.length c0] 34)).cell? ⟨w.heap.size, 0, none⟩ = some (.slice (some ad) l0.length c0) := by simp
  have hin : w.heap.size < (w.alloc (.cells #[.slice (some ad) l0.length c0] 34)).heap.size := by simp
  have h0' := pw_cell_below HB.out h0
  have eg : ∀ args w, (callFunc 39 args).run Try.prog w = .ok (.enter 39 args) w := enters_of Try.func39 (by kernel_rfl) rfl
  have HC := Aside0.mk (slices_ContainsFunc_string_string.gives (fun x => !(outer_sized.okB x ((l0.getD 0 ByteArray.empty).size : Int))) 39 #[.pointer (some ⟨w.heap.size, 0, none⟩)] eg (some ad) c0 l0 (w.alloc (.cells #[.slice (some ad) l0.length c0] 34))
    (outer_sized.pred (l0.getD 0 ByteArray.empty) w.heap.size ad l0.length c0 (by omega) _ hin hbx h0') (Kd.C_below hr0 HB.out))
  have hz : (0 : Int) < (l0.length : Int) := by omega
  clear hr0 hc0 hl hcell h0 h0' eg hin h
  generalize l0.any (fun x => !(outer_sized.okB x ((l0.getD 0 ByteArray.empty).size : Int))) = ba at *
  go_enter Try.func21, Try.ntmps21
  go_wp2_with fail
  refine HC.out.mono ?_
  rintro e w' ⟨rfl, ⟨q2, rfl⟩⟩
  go_wp2_with fail
  go_ret
  have hr := HRES.out
  subst hr
  exact ⟨rfl, pw_below_drewN HB.out _⟩
/-! ### slices_Clone_string_string: function 22 -/
def slices_Clone_string_string.f (l0 : List ByteArray) : Option (List ByteArray) := if l0.length ≤ 1000000000 then some l0 else none
theorem slices_Clone_string_string.eqnilIn {P : Program} (w : World) (d : Nat) (t e : TypeId) (a : Option Addr) (n c n' c' : Nat) (h : P.underlying t = some (.slice e)) :
    (Op.equalIn (d + 1) t (.slice a n c) (.slice none n' c')).run P w = .ok a.isNone w := by
  cases a <;> simp [Op.equalIn, run_underlying h]
theorem slices_Clone_string_string.eqnil {P : Program} (w : World) (t e : TypeId) (a : Option Addr) (n c n' c' : Nat) (h : P.underlying t = some (.slice e)) :
    (binOp .eql t (.slice a n c) (.slice none n' c')).run P w = .ok (.bool a.isNone) w := by
  simp only [binOp]
  simp [Op.equal, Op.maxDepth, slices_Clone_string_string.eqnilIn w 9999 t e a n c n' c' h]
set_option maxHeartbeats 1000000 in
theorem slices_Clone_string_string.calls (A0 : Option Addr) (c0 : Nat) (l0 : List ByteArray) (r : List ByteArray) (w : World) (hr0 : Kd.C Kd.string w A0 l0.length l0) (hc0 : l0.length ≤ c0) (h : slices_Clone_string_string.f l0 = some r) :
    Calls Try.prog 22 #[.slice A0 l0.length c0] w fun e w' => ∃ v0_ : Value, e = .returned v0_ ∧ Kd.R Kd.string 9 w' w.heap.size (fun _ => True) v0_ r ∧ Below w.heap.size w w' := by
  unfold slices_Clone_string_string.f at h
  split at h
  rotate_left
  · cases h
  rename_i hl
  have h := Option.some.inj h
  subst h
  have q24 : ∀ (w : World) (a : Option Addr) (n c n' c' : Nat), (binOp .eql 34 (.slice a n c) (.slice none n' c')).run Try.prog w = .ok (.bool a.isNone) w := fun w a n c n' c' => slices_Clone_string_string.eqnil w _ _ a n c n' c' Try.underlying34
  cases A0 with
  | none =>
    have hnil : l0 = [] := by
      cases l0 with
      | nil => rfl
      | cons x l => obtain ⟨ad, he, _⟩ := hr0.2.2 (by simp); cases he
    subst hnil
    clear hr0 hc0 hl
    go_enter Try.func22, Try.ntmps22
    go_wp2_with fail
    go_ret
    exact ⟨_, rfl, Kd.R_nil _ _ _ _ _, Below.refl _ _⟩
  | some ad =>
    have HL := Aside0.mk hl
    have HR : Aside0 (Kd.C Kd.string (w.alloc (.cells #[] 9)) (some ad) l0.length l0) := ⟨Kd.C_below hr0 (below_alloc (Below.refl _ _) _)⟩
    have HB : Aside0 (Below w.heap.size w (w.alloc (.cells #[] 9))) := ⟨below_alloc (Below.refl _ _) _⟩
    have HO : Aside0 (Kd.R Kd.string 9 (w.alloc (.cells #[] 9)) w.heap.size (fun _ => True) (.slice (some ⟨w.heap.size, 0, none⟩) 0 0) ([] : List ByteArray)) :=
      ⟨Kd.R_of_own (enc := Value.string) (h1 := fun _ => rfl) (xs := []) ⟨rfl, Or.inr ⟨w.heap.size, 0, #[], rfl, Nat.le_refl _, heap_alloc_new _ _, Nat.le_refl _, by decide, rfl, rfl⟩⟩ (fun _ _ => trivial)⟩
    clear hr0 hc0 hl
    go_enter Try.func22, Try.ntmps22
    go_wp2_with ((with_reducible refine gate_builtin (b := .append) (xs := #[.tmp 5, .tmp 6]) rfl ?_); at_builtin; refine Kd.R_append_rows Kd.string (w0 := w) w.heap.size rfl (.tmp 5) (.tmp 6) 34 9 (.string ⟨#[]⟩) 16 rfl Try.underlying34 info9 rfl (by decide) (by decide) (.slice (some ⟨w.heap.size, 0, none⟩) 0 0) [] l0 (some ad) l0.length c0 (fun _ => True) (fun _ => False) rfl rfl HO.out HR.out (fun _ _ h => h) (fun _ h => h.elim) (fun _ _ => trivial) HB.out ?a1 ?a2 ?_; (case a1 => exact HB.out.size); (case a2 => have := HL.out; simp only [List.length_nil]; omega); intro v1 w1 ho1 hb1 hg1 hat1; have HO1 := Aside0.mk ho1; have HB1 := Aside0.mk hb1; clear ho1 hb1 hg1 hat1)
    try go_wp2_with fail
    go_ret
    exact ⟨_, rfl, by have h := HO1.out; rw [List.nil_append] at h; exact h, HB1.out⟩
/-! ### block_add: function 28 -/
set_option maxHeartbeats 1000000 in
theorem block_add.row (B g c n : Nat) (xs : List Int) (b : ByteArray) (w : World) (h : ByteRow 5 w g xs) (hn : xs.length = n) (hb : n ≤ b.size) (hB : B ≤ g) (hz : n ≤ 140737488351232) :
    Calls Try.prog 28 #[.slice (some ⟨g, 0, none⟩) n c, .string b] w fun e w' => e = .returned (.tuple #[]) ∧ ByteRow 5 w' g (bothB .xor xs (bytesI b) n) ∧ Below B w w' := by
  have HROW := Aside0.mk h
  have HN := Aside0.mk hn
  have HS := Aside0.mk hb
  have HBG := Aside0.mk hB
  clear h hn hb hB
  go_enter Try.func28, Try.ntmps28
  go_wp2_with fail
  go_loopw [4, 7] (fun _ v7 wr => ∃ k : Nat, k ≤ n ∧ v7 = .int .i64 k ∧ Aside0 (ByteRow 5 wr g (bothB .xor xs (bytesI b) k)) ∧ Aside0 (Below B w wr)) (fun _ v7 _ => n - (intOf v7).toNat)
  case atStart => exact ⟨0, Nat.zero_le _, rfl, HROW, ⟨Below.refl _ _⟩⟩
  case round =>
    obtain ⟨k, hk, rfl, HROW2, HB2⟩ := hrel
    clear HROW
    by_cases hlt : k < n
    · have hltz : (k : Int) < (n : Int) := by omega
      have hlt1 : k < b.size := by have := HS.out; omega
      have hlt1z : (k : Int) < (b.size : Int) := by omega
      have hlen : (bothB .xor xs (bytesI b) k).length = n := by rw [bothB_length, HN.out]
      have hcell := HROW2.out.cell k (by omega)
      have hfr := HROW2.out.frozen k (by omega)
      have hset := HROW2.out.set k (by omega) (Go.bits .xor .u8 ((bothB .xor xs (bytesI b) k).getD k 0) ((bytesI b).getD k 0))
      have hst : bothB .xor xs (bytesI b) (k + 1) = (bothB .xor xs (bytesI b) k).set k (Go.bits .xor .u8 ((bothB .xor xs (bytesI b) k).getD k 0) ((bytesI b).getD k 0)) := rfl
      rw [← hst, bytesI_getD b k hlt1] at hset
      have HSET := Aside0.mk hset
      clear hset hst hlen
      generalize (bothB .xor xs (bytesI b) k).getD k 0 = x at *
      go_wp2_with fail
      go_region
      all_goals
        go_wp2
        go_roundw
        case rel => exact ⟨k + 1, by omega, by go_num, ⟨HSET.out.drew⟩, ⟨(HB2.out.setCell HBG.out _).drew⟩⟩
        case measure => simp [intOf]; omega
    · have hltz : ¬ (k : Int) < (n : Int) := by omega
      have hkk : k = n := by omega
      subst hkk
      go_wp2
      first | go_end0 | ((try simp only [Exit.inBlock, Exit.then]); refine bodyPost_ret (results_none rfl _ _ _) rfl ?_)
      exact ⟨rfl, HROW2.out, HB2.out⟩
/-! ### block_Sum: function 41 -/
def block_Sum.go (n : Nat) : List Int → List ByteArray → List Int
  | x, [] => x
  | x, s :: l => block_Sum.go n (bothB .xor x (bytesI s) n) l
def block_Sum.f (l0 : List ByteArray) (a1 : Int) : Option (ByteArray × Int) :=
  (block_may.f a1).bind fun b => if b = true then (if a1 < 0 ∨ 1000000 < a1 then none else if l0.any (fun s => !((s.size : Int) == a1)) = true then some (⟨#[]⟩, 1) else some (strOfNums (block_Sum.go a1.toNat (List.replicate a1.toNat 0) l0), 0)) else some (⟨#[]⟩, 1)
theorem block_Sum.pred (n : Int) (B : Nat) (w : World) (hB : B < w.heap.size) (hcell : w.cell? ⟨B, 0, none⟩ = some (.int .i64 n)) (W : World) (x : ByteArray) (hb : Below w.heap.size w W) :
    Calls Try.prog 55 (#[.string x] ++ #[.pointer (some ⟨B, 0, none⟩)]) W fun e w' => e = .returned (.bool (!((x.size : Int) == n))) ∧ Drawn0 W w' := by
  have hc : W.cell? ⟨B, 0, none⟩ = some (.int .i64 n) := (hb.cell (p := ⟨B, 0, none⟩) hB).trans hcell
  clear hcell hB hb
  show Calls Try.prog 55 #[.string x, .pointer (some ⟨B, 0, none⟩)] W _
  go_enter Try.func55, Try.ntmps55
  go_wp2
  all_goals (go_ret; exact ⟨by first | rfl | (simp; done), ⟨0, rfl⟩⟩)
set_option maxHeartbeats 1000000 in
theorem block_Sum.calls (A0 : Option Addr) (c0 : Nat) (l0 : List ByteArray) (a1 : Int) (r1 : ByteArray) (r2 : Int) (w : World) (hr0 : Kd.C Kd.string w A0 l0.length l0) (hc0 : l0.length ≤ c0) (h : block_Sum.f l0 a1 = some (r1, r2)) :
    Calls Try.prog 41 #[.slice A0 l0.length c0, .int .i64 a1] w fun e w' => e = .returned (.tuple #[.string r1, .int .i64 r2]) ∧ Below w.heap.size w w' := by
  have HB : Aside0 (Below w.heap.size w (w.alloc (.cells #[.int .i64 a1] 3))) := ⟨below_alloc (Below.refl _ _) _⟩
  have HR := Aside0.mk (Kd.C_below hr0 HB.out)
  have hbx : (w.alloc (.cells #[.int .i64 a1] 3)).cell? ⟨w.heap.size, 0, none⟩ = some (.int .i64 a1) := by simp
  have HX := Aside0.mk hbx
  have hin : w.heap.size < (w.alloc (.cells #[.int .i64 a1] 3)).heap.size := by simp
  have HIN := Aside0.mk hin
  have eg : ∀ args w, (callFunc 55 args).run Try.prog w = .ok (.enter 55 args) w := enters_of Try.func55 (by kernel_rfl) rfl
  unfold block_Sum.f at h
  obtain ⟨bm, hm, h⟩ := Option.bind_eq_some_iff.mp h
  have HM := Aside0.mk hm
  have hlen := hr0.2.1
  have HR00 := Aside0.mk hr0
  clear hr0 hm hbx hin
  have HH := Aside0.mk h
  clear h
  go_enter Try.func41, Try.ntmps41
  go_wp2_with fail
  refine (block_may.calls _ _ _ HM.out).mono ?_
  rintro e w' ⟨rfl, ⟨q1, rfl⟩⟩
  have hin1 : w.heap.size < ((w.alloc (.cells #[.int .i64 a1] 3)).drewN q1).heap.size := HIN.out
  have hbx1 : ((w.alloc (.cells #[.int .i64 a1] 3)).drewN q1).cell? ⟨w.heap.size, 0, none⟩ = some (.int .i64 a1) := HX.out
  have HC := slices_ContainsFunc_string_string.gives (fun s => !((s.size : Int) == a1)) 55 #[.pointer (some ⟨w.heap.size, 0, none⟩)] eg A0 c0 l0 ((w.alloc (.cells #[.int .i64 a1] 3)).drewN q1)
    (block_Sum.pred a1 w.heap.size _ hin1 hbx1) (Kd.C_below HR.out (pw_below_drewN (Below.refl _ _) _))
  clear hin1 hbx1 eg
  generalize hw1 : (w.alloc (.cells #[.int .i64 a1] 3)).drewN q1 = w1 at *
  have HB1 : Aside0 (Below w.heap.size w w1) := ⟨by rw [← hw1]; exact pw_below_drewN HB.out _⟩
  have HX1 : w1.cell? ⟨w.heap.size, 0, none⟩ = some (.int .i64 a1) := by rw [← hw1]; exact HX.out
  have HRR : Aside0 (Kd.C Kd.string w1 A0 l0.length l0) := ⟨by rw [← hw1]; exact Kd.C_below HR.out (pw_below_drewN (Below.refl _ _) _)⟩
  have hsz : w.heap.size < w1.heap.size := by rw [← hw1]; exact HIN.out
  clear hw1 HB HR HX HIN HM
  cases bm with
  | false =>
    have H := HH.out
    simp only [if_neg (show ¬ (false = true) by decide), Option.some.injEq, Prod.mk.injEq] at H
    obtain ⟨rfl, rfl⟩ := H
    clear HC HH
    go_wp2
    go_ret2
    exact ⟨rfl, HB1.out⟩
  | true =>
    have H := HH.out
    rw [if_pos rfl] at H
    clear HH
    split at H
    · cases H
    rename_i hbnd
    generalize hba : l0.any (fun s => !((s.size : Int) == a1)) = ba at *
    have HANY := Aside0.mk hba
    clear hba
    have HH := Aside0.mk H
    clear H
    go_wp2_with fail
    refine HC.mono ?_
    rintro e w' ⟨rfl, ⟨q2, rfl⟩⟩
    have hsz2 : w.heap.size < (w1.drewN q2).heap.size := hsz
    have HB2 : Aside0 (Below w.heap.size w (w1.drewN q2)) := ⟨pw_below_drewN HB1.out _⟩
    have HX2 : (w1.drewN q2).cell? ⟨w.heap.size, 0, none⟩ = some (.int .i64 a1) := HX1
    have HRR2 : Aside0 (Kd.C Kd.string (w1.drewN q2) A0 l0.length l0) := ⟨Kd.C_below HRR.out (pw_below_drewN (Below.refl _ _) _)⟩
    clear HX1 HB1 HRR hsz
    generalize w1.drewN q2 = w2 at *
    cases ba with
    | true =>
      have H := HH.out
      rw [if_pos rfl] at H
      simp only [Option.some.injEq, Prod.mk.injEq] at H
      obtain ⟨rfl, rfl⟩ := H
      clear HH
      go_wp2
      go_ret2
      exact ⟨rfl, HB2.out⟩
    | false =>
      have H := HH.out
      rw [if_neg (show ¬ (false = true) by decide)] at H
      simp only [Option.some.injEq, Prod.mk.injEq] at H
      obtain ⟨H, rfl⟩ := H
      clear HH
      have HR1 := Aside0.mk H
      clear H
      obtain ⟨n, rfl⟩ : ∃ n : Nat, a1 = n := ⟨a1.toNat, by omega⟩
      rw [Int.toNat_natCast] at HR1
      have hmk := print_make_int (P := Try.prog) 39 5 (.int .u8 0) 1 Try.underlying39 info5 rfl (by decide) (n : Int) (by omega) (by rw [Int.toNat_natCast]; omega) w2
      rw [Int.toNat_natCast] at hmk
      go_wp2_with fail
      have hrow := ByteRow.made 5 w2 n
      have HROW := Aside0.mk hrow
      have HG : Aside0 (w.heap.size ≤ w2.heap.size) := ⟨HB2.out.size⟩
      have HB3 : Aside0 (Below w.heap.size w (w2.alloc (.cells (madeCells #[.int .u8 0] n) 5))) := ⟨HB2.out.alloc HG.out _⟩
      have HRR3 : Aside0 (Kd.C Kd.string (w2.alloc (.cells (madeCells #[.int .u8 0] n) 5)) A0 l0.length l0) := ⟨Kd.C_below HRR2.out (below_alloc (Below.refl _ _) _)⟩
      clear hrow HB2 HRR2 hmk HX2
      have HN : Aside0 (n ≤ 1000000) := ⟨by omega⟩
      clear hbnd HRR3
      go_loopw [8, 21] (fun _ v21 wr => ∃ (k : Nat) (x : List Int), k ≤ l0.length ∧ v21 = .int .i64 k ∧ Aside0 (ByteRow 5 wr w2.heap.size x ∧ x.length = n ∧ strOfNums (block_Sum.go n x (l0.drop k)) = r1) ∧ Aside0 (Below w.heap.size w wr)) (fun _ v21 _ => l0.length - (intOf v21).toNat)
      case atStart => exact ⟨0, _, Nat.zero_le _, rfl, ⟨HROW.out, by simp, by simpa using HR1.out⟩, HB3⟩
      case round =>
        obtain ⟨k, x, hk, rfl, HX3, HB4⟩ := hrel
        clear HROW HB3
        by_cases hlt : k < l0.length
        · have hltz : (k : Int) < (l0.length : Int) := by omega
          obtain ⟨ad, e1, hx⟩ := Kd.at_string (Kd.C_below HR00.out HB4.out) (k : Int) (by omega) hltz
          cases e1
          have hy : rdOf ByteArray.empty l0 (k : Int) = l0[k] := by simp [rdOf, hlt]
          rw [Int.toNat_natCast, hy] at hx
          have hsz3 : l0[k].size = n := by
            have h1 := List.any_eq_false.1 HANY.out l0[k] (List.getElem_mem hlt)
            simp at h1
            omega
          have hd : l0.drop k = l0[k] :: l0.drop (k + 1) := List.drop_eq_getElem_cons hlt
          have HX4 : Aside0 (ByteRow 5 wr w2.heap.size x ∧ x.length = n ∧ strOfNums (block_Sum.go n (bothB .xor x (bytesI l0[k]) n) (l0.drop (k + 1))) = r1) := ⟨HX3.out.1, HX3.out.2.1, by have h5 := HX3.out.2.2; rw [hd] at h5; exact h5⟩
          clear HX3 hy hd
          generalize l0[k] = s at *
          have HADD := Aside0.mk (block_add.row w.heap.size w2.heap.size n n x s wr HX4.out.1 HX4.out.2.1 (by omega) HG.out (by have := HN.out; omega))
          go_wp2_with fail
          refine HADD.out.mono ?_
          rintro e w5 ⟨rfl, hrow5, hb5⟩
          have HX5 : Aside0 (ByteRow 5 w5 w2.heap.size (bothB .xor x (bytesI s) n)) := ⟨hrow5⟩
          have HB5 : Aside0 (Below w.heap.size w w5) := ⟨HB4.out.trans hb5⟩
          clear hrow5 hb5 HADD
          go_wp2
          go_roundw
          case rel => exact ⟨k + 1, _, by omega, by go_num, ⟨HX5.out, by rw [bothB_length]; exact HX4.out.2.1, HX4.out.2.2⟩, HB5⟩
          case measure => simp [intOf]; omega
        · have hltz : ¬ (k : Int) < (l0.length : Int) := by omega
          have hkk : k = l0.length := by omega
          subst hkk
          have hback := HX3.out.1.back (P := Try.prog) 39 9 Try.underlying39 Try.underlying5 Try.underlying9 n n HX3.out.2.1
          have h6 := HX3.out.2.2
          rw [List.drop_length] at h6
          rw [show strOfNums x = r1 from h6] at hback
          clear h6
          go_wp2
          go_ret2
          exact ⟨rfl, HB4.out⟩
/-! ### outer_sum: function 24 -/
def outer_sum.l0 : Nat → List ByteArray → Int → List ByteArray → List Int → Int → Int → Option (ByteArray)
 | 0, _, _, _, _, _, _ => none
 | k + 1, x0, x2, x7, x12, x13, x14 => if x14 < x13 then (if 0 ≤ x14 then (if x14 < (x12.length : Int) then (if 0 ≤ (rd x12 x14) then (if (rd x12 x14) < (x0.length : Int) then (if x7.length < 8796093022208 then (outer_sum.l0 k x0 x2 (x7 ++ [rdOf ByteArray.empty x0 (rd x12 x14)]) x12 x13 (wrap64 (x14 + 1))) else (none)) else (none)) else (none)) else (none)) else (none)) else ((block_Sum.f x7 x2).bind fun bt168 => (some bt168.1))
def outer_sum.f (k : Nat) (l0 : List ByteArray) (l1 : List Int) (a2 : Int) : Option (ByteArray) := outer_sum.l0 k l0 a2 ([] : List ByteArray) l1 (l1.length : Int) 0
theorem outer_sum.mono_l : ∀ k, (∀ y0 y1 y2 y3 y4 y5, LeO (outer_sum.l0 k y0 y1 y2 y3 y4 y5) (outer_sum.l0 (k + 1) y0 y1 y2 y3 y4 y5))
 | 0 => fun _ _ _ _ _ _ r h => by simp [outer_sum.l0] at h
 | k + 1 => by
  have ih0 := outer_sum.mono_l k
  ·
   intro y0 y1 y2 y3 y4 y5
   unfold outer_sum.l0
   repeat' first | (with_reducible first | apply ih0 | exact LeO.refl _ | exact LeO.none _ | refine LeO.ite ?_ ?_ | refine LeO.bind ?_ (fun _ => ?_)) | apply ih0 | exact LeO.none _ | refine LeO.ite ?_ ?_ | refine LeO.bind ?_ (fun _ => ?_)
theorem outer_sum.mono : ∀ a0 a1 a2 k, LeO (outer_sum.f k a0 a1 a2) (outer_sum.f (k + 1) a0 a1 a2) := by
 intro a0 a1 a2 k
 have ih0 := outer_sum.mono_l k
 unfold outer_sum.f
 repeat' first | (with_reducible first | apply ih0 | exact LeO.refl _ | exact LeO.none _ | refine LeO.ite ?_ ?_ | refine LeO.bind ?_ (fun _ => ?_)) | apply ih0 | exact LeO.none _ | refine LeO.ite ?_ ?_ | refine LeO.bind ?_ (fun _ => ?_)
set_option maxHeartbeats 8000000 in
set_option maxRecDepth 100000 in
theorem outer_sum.calls (k : Nat) (A0 : Option Addr) (c0 : Nat) (l0 : List ByteArray) (A1 : Option Addr) (c1 : Nat) (l1 : List Int) (a2 : Int) (r : ByteArray) (w : World) (hr0 : Kd.C Kd.string w A0 l0.length l0) (hc0 : l0.length ≤ c0) (hr1 : Kd.C (Kd.int .i64) w A1 l1.length l1) (hc1 : l1.length ≤ c1) (h : outer_sum.f k l0 l1 a2 = some r) :
  Calls Try.prog 24 #[.slice A0 l0.length c0, .slice A1 l1.length c1, .int .i64 a2] w fun e w' => e = .returned (.string r) ∧ Below w.heap.size w w' := by
 have HR0 := Aside0.mk hr0
 have HC0 := Aside0.mk hc0
 clear hr0 hc0; have HR1 := Aside0.mk hr1
 have HC1 := Aside0.mk hc1
 clear hr1 hc1; have HB := Aside0.mk (Below.refl w.heap.size w)
 have H : (outer_sum.l0 k l0 a2 ([] : List ByteArray) l1 (l1.length : Int) 0) = some r := h
 clear h; have H' := Aside0.mk H
 clear H; go_enter Try.func24, Try.ntmps24
 go_wp2
 go_loopg [7, 14] k (fun kq v7 v14 w' => ∃ (x7_1 : List ByteArray) (x14_1 : Int), v14 = .int .i64 x14_1 ∧ Aside0 (outer_sum.l0 kq l0 a2 x7_1 l1 (l1.length : Int) x14_1 = some r) ∧ Aside0 (kq ≤ k) ∧ Aside0 (Kd.R Kd.string 9 w' w.heap.size (fun _ => True) v7 x7_1) ∧ Aside0 (Below w.heap.size w w'))
 case atStart => exact ⟨(([] : List ByteArray)), (0), zF, H', ⟨Nat.le_refl _⟩, ⟨by first | exact Kd.R_nil _ _ _ _ _ | exact Kd.N_nil _ _ _ _ _ | exact Kd.V_nil _ _ _ _ _ | exact Kd.Q_nil _ _ _ _ _ | exact Kd.S_nil _ _ _ _ _⟩, ⟨zB⟩⟩
 case round =>
  clear H'
  obtain ⟨x7_1, x14_1, rfl, HA, HK1, HO_7, HB⟩ := hrel
  cases gk with
  | zero => exact absurd HA.out (by simp [outer_sum.l0])
  | succ k1 =>
   have H := HA.out; clear HA; simp only [outer_sum.l0] at H
   by_cases c4 : x14_1 < (l1.length : Int)
   ·
    rw [if_pos c4] at H
    have c4b0 : decide (x14_1 < (l1.length : Int)) = true := decide_eq_true c4
    clear c4; by_cases c5 : 0 ≤ x14_1
    ·
     rw [if_pos c5] at H
     have c5b0 : decide (0 ≤ x14_1) = true := decide_eq_true c5
     clear c5; by_cases c6 : x14_1 < (l1.length : Int)
     ·
      rw [if_pos c6] at H
      have c6b0 : decide (x14_1 < (l1.length : Int)) = true := decide_eq_true c6
      clear c6; by_cases c7 : 0 ≤ (rd l1 x14_1)
      ·
       rw [if_pos c7] at H
       have c7b0 : decide (0 ≤ (rd l1 x14_1)) = true := decide_eq_true c7
       clear c7; by_cases c8 : (rd l1 x14_1) < (l0.length : Int)
       ·
        rw [if_pos c8] at H
        have c8b0 : decide ((rd l1 x14_1) < (l0.length : Int)) = true := decide_eq_true c8
        clear c8; by_cases c9 : x7_1.length < 8796093022208
        ·
         rw [if_pos c9] at H
         have LMc9 := Aside0.mk c9
         clear c9; obtain ⟨y165, hy165⟩ : ∃ y_ : List ByteArray, y_ = (x7_1 ++ [rdOf ByteArray.empty l0 (rd l1 x14_1)]) := ⟨_, rfl⟩
         replace H : (outer_sum.l0 k1 l0 a2 y165 l1 (l1.length : Int) (wrap64 (x14_1 + 1))) = some r := by first | (rw [hy165]; with_reducible exact H) | (have H2_ := (Option.bind_some _ _).symm.trans H; rw [hy165]; with_reducible exact H2_) | (have H2_ := (Option.bind_some _ _).symm.trans H; with_reducible exact H2_) | with_reducible exact H | (rw [hy165]; exact H) | exact H
         have Ny165 := Aside0.mk hy165
         clear hy165; have H' := Aside0.mk H
         clear H; have p163 : 0 ≤ (x14_1 : Int) := of_decide_eq_true zA
         have q163 : x14_1 < (l1.length : Int) := of_decide_eq_true zA
         obtain ⟨ad163, e163, hx163_0⟩ := Kd.at_int HR1.out x14_1 p163 q163
         cases e163
         (try replace hx163_0 := (HB.out.cell (World.block_lt_of_cell? w _ hx163_0)).trans hx163_0)
         replace p163 := eq_true p163
         replace q163 := eq_true q163
         have p164 : 0 ≤ ((rd l1 x14_1) : Int) := of_decide_eq_true zA
         have q164 : (rd l1 x14_1) < (l0.length : Int) := of_decide_eq_true zA
         obtain ⟨ad164, e164, hx164_0⟩ := Kd.at_string HR0.out (rd l1 x14_1) p164 q164
         cases e164
         (try replace hx164_0 := (HB.out.cell (World.block_lt_of_cell? w _ hx164_0)).trans hx164_0)
         replace p164 := eq_true p164
         replace q164 := eq_true q164
         go_wp2_with (first | ((with_reducible refine gate_builtin (b := .append) (xs := #[.tmp 18, .tmp 23]) rfl ?_); at_builtin; refine Kd.R_append Kd.string (w0 := w) w.heap.size rfl (.tmp 18) (.tmp 23) 34 9 (.string ⟨#[]⟩) 16 rfl Try.underlying34 info9 rfl (by decide) (by omega) u7 x7_1 (rdOf ByteArray.empty l0 (rd l1 x14_1)) [.string (rdOf ByteArray.empty l0 (rd l1 x14_1))] (fun _ => True) (fun _ => False) rfl rfl ?aP (fun _ hk => hk.elim) ?aF ?aO ?aB ?aS ?aL ?_; (case aP => exact rfl); (case aB => exact zB); (case aF => exact (fun _ _ => trivial)); (case aO => exact (by (with_reducible repeat (first | apply Kd.R_alloc | apply Kd.R_drewN | apply Kd.R_drew)); exact HO_7.out)); (case aS => exact (below_size zB)); (case aL => have := LMc9.out; omega); intro v166 w10 ho hb hg hat; rw [← Ny165.out] at ho; have HO167 := Aside0.mk (ho); replace HB := Aside0.mk (hb); clear HO_7; clear ho hb hg hat))
         go_roundg k1
         case measure => have := HK1.out; omega
         case rel => exact ⟨(y165), (wrap64 (x14_1 + 1)), zF, H', ⟨by have := HK1.out; omega⟩, ⟨zR HO167⟩, ⟨zB⟩⟩
        ·
         rw [if_neg c9] at H
         exact absurd H (by simp)
       ·
        rw [if_neg c8] at H
        exact absurd H (by simp)
      ·
       rw [if_neg c7] at H
       exact absurd H (by simp)
     ·
      rw [if_neg c6] at H
      exact absurd H (by simp)
    ·
     rw [if_neg c5] at H
     exact absurd H (by simp)
   ·
    rw [if_neg c4] at H
    have c4b0 : decide (x14_1 < (l1.length : Int)) = false := decide_eq_false c4
    clear c4; replace H := Option.bind_eq_some_iff.mp H
    obtain ⟨⟨t168, t169⟩, A110, H⟩ := H
    replace H : (some t168) = some r := H
    have A11 := Aside0.mk A110
    clear A110; obtain rfl := Option.some.inj H
    obtain ⟨Ao12, co12, eo12⟩ := Kd.R_slice HO_7.out
    subst eo12
    go_wp2_with (first | ((with_reducible refine gate_callee (f := 41) rfl ?_); refine goesL_ (some 29) rfl rfl Try.func41 (by kernel_rfl) rfl #[.slice Ao12 x7_1.length co12, .int .i64 a2] rfl zM ?_; (with_reducible refine (block_Sum.calls _ _ x7_1 a2 t168 t169 _ ?side1 ?side2 A11.out).mono ?_); (case side1 => exact zRC HO_7); (case side2 => exact (Kd.R_reads' HO_7.out).2.1); rintro e w13 ⟨rfl, hb⟩; refine ⟨_, rfl, ?_⟩; replace HO_7 := Aside0.mk (Kd.R_below (zR HO_7) hb); replace HB := Aside0.mk (below_step zB hb); (try clear hb); (try clear hb2); (try clear hk); (try clear hi)))
    go_ret
    exact ⟨zE, zB⟩
end Go.Proofs.Ytghhmnjkgnoogaa.POuterHolds
