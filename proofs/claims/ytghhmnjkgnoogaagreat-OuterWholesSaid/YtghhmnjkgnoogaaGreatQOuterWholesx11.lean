-- Written by this session's own program (wip/tools/mkprint.py) over the kit's printer, with overrides.
import Derived.Test.YtghhmnjkgnoogaaGreatTOuterWholesa
import Derived.Test.YtghhmnjkgnoogaaGreatQOuterWholesx0
import Derived.Test.YtghhmnjkgnoogaaGreatQOuterWholesx10
namespace Go.Proofs.YtghhmnjkgnoogaaGreat.POuterWholes
open Go.RowKit Go.Mine Go.Proofs.YtghhmnjkgnoogaaGreatW.PrintWords Go.Proofs.YtghhmnjkgnoogaaGreatW.PrintLast Go.Proofs.YtghhmnjkgnoogaaGreatW.PrintMore
attribute [local go_sem] max2_int min2_int max_two min_two max_three min_three max_four min_four   -- for this text's walks alone
set_option linter.unusedVariables false
set_option linter.unusedSimpArgs false
/-! ### outer_members: function 28 -/
mutual
def outer_members.l0 : Nat → List (List Int) → Int → Int → Int → Int → Int → Int → Option ((List (List Int)))
 | 0, _, _, _, _, _, _, _ => none
 | k + 1, x3, x11, x12, x138000, x138001, x138002, x138003 => if x12 < x11 then ((outer_joins.f k x138000 x138001 x138002 x138003 x12).bind fun t141 => (outer_members.l1 k x3 x12 x11 x12 t141 (t141.length : Int) 0 x138000 x138001 x138002 x138003)) else (some x3)
def outer_members.l1 : Nat → List (List Int) → Int → Int → Int → List Int → Int → Int → Int → Int → Int → Int → Option ((List (List Int)))
 | 0, _, _, _, _, _, _, _, _, _, _, _ => none
 | k + 1, x3, x4, x11, x12, x17, x18, x19, x138000, x138001, x138002, x138003 => if x19 < x18 then (if 0 ≤ x19 then (if x19 < (x17.length : Int) then (if 0 ≤ (rd x17 x19) then (if (rd x17 x19) < (x3.length : Int) then (if (rd_L3 x3 (rd x17 x19)).length < 17592186044416 then (outer_members.l1 k (x3.set ((rd x17 x19) : Int).toNat ((rd_L3 x3 (rd x17 x19)) ++ [x4])) x4 x11 x12 x17 x18 (wrap64 (x19 + 1)) x138000 x138001 x138002 x138003) else (none)) else (none)) else (none)) else (none)) else (none)) else (outer_members.l0 k x3 x11 (wrap64 (x12 + 1)) x138000 x138001 x138002 x138003)
end
def outer_members.f (k : Nat) (a0_0 : Int) (a0_1 : Int) (a0_2 : Int) (a0_3 : Int) : Option ((List (List Int))) := if 0 ≤ a0_2 then (if (a0_2 : Int).toNat ≤ 11728124029610 then (outer_members.l0 k (List.replicate (a0_2 : Int).toNat []) a0_1 0 a0_0 a0_1 a0_2 a0_3) else (none)) else (none)
theorem outer_members.mono_l : ∀ k, (∀ y0 y1 y2 y3 y4 y5 y6, LeO (outer_members.l0 k y0 y1 y2 y3 y4 y5 y6) (outer_members.l0 (k + 1) y0 y1 y2 y3 y4 y5 y6)) ∧ (∀ y0 y1 y2 y3 y4 y5 y6 y7 y8 y9 y10, LeO (outer_members.l1 k y0 y1 y2 y3 y4 y5 y6 y7 y8 y9 y10) (outer_members.l1 (k + 1) y0 y1 y2 y3 y4 y5 y6 y7 y8 y9 y10))
 | 0 => ⟨fun _ _ _ _ _ _ _ r h => by simp [outer_members.l0] at h, fun _ _ _ _ _ _ _ _ _ _ _ r h => by simp [outer_members.l1] at h⟩
 | k + 1 => by
  obtain ⟨ih0, ih1⟩ := outer_members.mono_l k
  refine ⟨?_, ?_⟩
  ·
   intro y0 y1 y2 y3 y4 y5 y6
   unfold outer_members.l0
   repeat' first
   | (with_reducible exact ih0 _ _ _ _ _ _ _)
   | (with_reducible exact ih1 _ _ _ _ _ _ _ _ _ _ _)
   | (with_reducible exact outer_joins.mono _ _ _ _ _ _)
   | (with_reducible exact LeO.refl _)
   | (with_reducible exact LeO.none _)
   | (with_reducible refine LeO.ite ?_ ?_)
   | (with_reducible refine LeO.bind ?_ (fun _ => ?_))
   | exact ih0 _ _ _ _ _ _ _
   | exact ih1 _ _ _ _ _ _ _ _ _ _ _
   | exact outer_joins.mono _ _ _ _ _ _
   | exact LeO.none _
   | refine LeO.ite ?_ ?_
   | refine LeO.bind ?_ (fun _ => ?_)
  ·
   intro y0 y1 y2 y3 y4 y5 y6 y7 y8 y9 y10
   unfold outer_members.l1
   repeat' first
   | (with_reducible exact ih0 _ _ _ _ _ _ _)
   | (with_reducible exact ih1 _ _ _ _ _ _ _ _ _ _ _)
   | (with_reducible exact outer_joins.mono _ _ _ _ _ _)
   | (with_reducible exact LeO.refl _)
   | (with_reducible exact LeO.none _)
   | (with_reducible refine LeO.ite ?_ ?_)
   | (with_reducible refine LeO.bind ?_ (fun _ => ?_))
   | exact ih0 _ _ _ _ _ _ _
   | exact ih1 _ _ _ _ _ _ _ _ _ _ _
   | exact outer_joins.mono _ _ _ _ _ _
   | exact LeO.none _
   | refine LeO.ite ?_ ?_
   | refine LeO.bind ?_ (fun _ => ?_)
theorem outer_members.mono : ∀ a0 a1 a2 a3 k, LeO (outer_members.f k a0 a1 a2 a3) (outer_members.f (k + 1) a0 a1 a2 a3) := by
 intro a0 a1 a2 a3 k
 obtain ⟨ih0, ih1⟩ := outer_members.mono_l k
 unfold outer_members.f
 repeat' first
   | (with_reducible exact ih0 _ _ _ _ _ _ _)
   | (with_reducible exact ih1 _ _ _ _ _ _ _ _ _ _ _)
   | (with_reducible exact outer_joins.mono _ _ _ _ _ _)
   | (with_reducible exact LeO.refl _)
   | (with_reducible exact LeO.none _)
   | (with_reducible refine LeO.ite ?_ ?_)
   | (with_reducible refine LeO.bind ?_ (fun _ => ?_))
   | exact ih0 _ _ _ _ _ _ _
   | exact ih1 _ _ _ _ _ _ _ _ _ _ _
   | exact outer_joins.mono _ _ _ _ _ _
   | exact LeO.none _
   | refine LeO.ite ?_ ?_
   | refine LeO.bind ?_ (fun _ => ?_)
set_option maxHeartbeats 8000000 in
set_option maxRecDepth 100000 in
theorem outer_members.calls (k : Nat) (a0_0 : Int) (a0_1 : Int) (a0_2 : Int) (a0_3 : Int) (r : List (List Int)) (w : World) (h : outer_members.f k a0_0 a0_1 a0_2 a0_3 = some r) :
  Calls Tryz.prog 28 #[.agg #[.int .i64 a0_0, .int .i64 a0_1, .int .i64 a0_2, .int .i64 a0_3]] w fun e w' => ∃ v0_ : Value, e = .returned (v0_) ∧ Kd.S (Kd.slice 3 (Kd.int .i64)) 26 w' w.heap.size (fun _ => True) v0_ r ∧ Below w.heap.size w w' := by
 have hu23 := Tryz.underlying23; have HB := Aside0.mk (Below.refl w.heap.size w)
 have H : (if 0 ≤ a0_2 then (if (a0_2 : Int).toNat ≤ 11728124029610 then (outer_members.l0 k (List.replicate (a0_2 : Int).toNat []) a0_1 0 a0_0 a0_1 a0_2 a0_3) else (none)) else (none)) = some r := h
 clear h; by_cases c2 : 0 ≤ a0_2
 ·
  rw [if_pos c2] at H
  have c2b0 := eq_true c2
  have c2b1 : decide (0 ≤ a0_2) = true := decide_eq_true c2
  clear c2; by_cases c3 : (a0_2 : Int).toNat ≤ 11728124029610
  ·
   rw [if_pos c3] at H
   have c3b0 := eq_true c3
   have c3b1 : decide ((a0_2 : Int).toNat ≤ 11728124029610) = true := decide_eq_true c3
   clear c3; obtain ⟨y138, hy138⟩ : ∃ y_ : List (List Int), y_ = (List.replicate (a0_2 : Int).toNat []) := ⟨_, rfl⟩
   replace H : (outer_members.l0 k y138 a0_1 0 a0_0 a0_1 a0_2 a0_3) = some r := by first | (rw [hy138]; with_reducible exact H) | (have H2_ := (Option.bind_some _ _).symm.trans H; rw [hy138]; with_reducible exact H2_) | (have H2_ := (Option.bind_some _ _).symm.trans H; with_reducible exact H2_) | with_reducible exact H | (rw [hy138]; exact H) | exact H
   have Ny138 := Aside0.mk hy138
   clear hy138; have H' := Aside0.mk H
   clear H; go_enter Tryz.func28, Tryz.ntmps28
   go_wp2_with (first | ((with_reducible refine gate_dst (N := 1) rfl ?_); refine box_event ?hg (N := 1) ?hd (cs := #[.int .i64 a0_0, .int .i64 a0_1, .int .i64 a0_2, .int .i64 a0_3]) (t := 23) ?hr ?_; (case hd => rfl); (case hg => rfl); (case hr => first | (go_simp; done) | (go_simp; rfl)); intro gb137 hg w4 hbox hb; have BK137 := Aside0.mk (hbox); have GW137 := Aside0.mk ((zg : w.heap.size ≤ gb137)); have GE137 := Aside0.mk ((zg : w.heap.size ≤ gb137)); replace HB := Aside0.mk (below_step zB hb); clear hb hbox hg; obtain ⟨hcz5_0, hcz5_1, hcz5_2, hcz5_3⟩ := cZ4 BK137; obtain ⟨hfz5_0, hfz5_1, hfz5_2, hfz5_3⟩ := dZ4 BK137) | ((with_reducible refine gate_dst (N := 9) rfl ?_); refine Kd.S_make (Kd.slice 3 (Kd.int .i64)) _ 26 rfl (N := 9) rfl 30 _ _ rfl a0_2 rfl rfl Tryz.underlying30 (.slice none 0 0) 24 info26 rfl (by decide) (by omega) [] (ok := fun _ => True) (okp := fun _ => True) ⟨_, rfl, Kd.R_nil _ _ _ _ _⟩ (fun _ hk => hk) trivial (of_decide_eq_true zA) (Nat.le_trans (Nat.mul_le_mul_right _ (of_decide_eq_true zA : a0_2.toNat ≤ 11728124029610)) (by omega)) (Below.refl _ _) (Nat.le_refl _) ?_; intro v139 w6 ho7 hb hg_ hnew_; clear hg_ hnew_; (first | rw [← Ny138.out] at ho7 | (simp only [Int.reduceToNat] at ho7; rw [← Ny138.out] at ho7)); have HO140 := Aside0.mk (Kd.S_lower ho7 (below_size zB)); replace BK137 := Aside0.mk (blk_below (zk BK137) hb); replace HB := Aside0.mk (below_step zB hb); clear hb ho7; obtain ⟨hcz8_0, hcz8_1, hcz8_2, hcz8_3⟩ := cZ4 BK137; obtain ⟨hfz8_0, hfz8_1, hfz8_2, hfz8_3⟩ := dZ4 BK137))
   go_loopg [12] k (fun kq v12 w' => ∃ (x3_1 : List (List Int)) (x12_1 : Int), v12 = .int .i64 x12_1 ∧ Aside0 (outer_members.l0 kq x3_1 a0_1 x12_1 a0_0 a0_1 a0_2 a0_3 = some r) ∧ Aside0 (kq ≤ k) ∧ Aside0 (Kd.S (Kd.slice 3 (Kd.int .i64)) 26 w' w.heap.size (fun _ => True) v139 x3_1) ∧ Aside0 (w'.heap[gb137]? = some (.cells #[.int .i64 a0_0, .int .i64 a0_1, .int .i64 a0_2, .int .i64 a0_3] 23 (0, 0))) ∧ Aside0 (Below w.heap.size w w'))
   case atStart => exact ⟨(y138), (0), zF, H', ⟨Nat.le_refl _⟩, ⟨zS HO140⟩, ⟨zk BK137⟩, ⟨zB⟩⟩
   case round =>
    clear H'
    (try clear c2); (try clear c2b0); (try clear c2b1); (try clear p2); (try clear c3); (try clear c3b0); (try clear c3b1); (try clear hcz5_0); (try clear hcz5_1); (try clear hcz5_2); (try clear hcz5_3); (try clear hcz8_0); (try clear hcz8_1); (try clear hcz8_2); (try clear hcz8_3); (try clear hfz5_0); (try clear hfz5_1); (try clear hfz5_2); (try clear hfz5_3); (try clear hfz8_0); (try clear hfz8_1); (try clear hfz8_2); (try clear hfz8_3); obtain ⟨x3_1, x12_1, rfl, HA, HK1, HO_3, BK137, HB⟩ := hrel
    cases gk with
    | zero => exact absurd HA.out (by simp [outer_members.l0])
    | succ k1 =>
     have H := HA.out; clear HA; simp only [outer_members.l0] at H
     by_cases c9 : x12_1 < a0_1
     ·
      rw [if_pos c9] at H
      have c9b0 : decide (x12_1 < a0_1) = true := decide_eq_true c9
      clear c9; replace H := Option.bind_eq_some_iff.mp H
      obtain ⟨t141, A100, H⟩ := H
      replace H : (outer_members.l1 k1 x3_1 x12_1 a0_1 x12_1 t141 (t141.length : Int) 0 a0_0 a0_1 a0_2 a0_3) = some r := H
      have A10 := Aside0.mk A100
      clear A100; have H' := Aside0.mk H
      clear H; obtain ⟨hcz11_0, hcz11_1, hcz11_2, hcz11_3⟩ := cZ4 BK137
      obtain ⟨hfz11_0, hfz11_1, hfz11_2, hfz11_3⟩ := dZ4 BK137; go_wp2_with (first | ((with_reducible refine gate_callee (f := 27) rfl ?_); refine goesL_ (some 17) rfl rfl Tryz.func27 (by kernel_rfl) rfl #[.agg #[.int .i64 a0_0, .int .i64 a0_1, .int .i64 a0_2, .int .i64 a0_3], .int .i64 x12_1] rfl zM ?_; (with_reducible refine (outer_joins.calls k1 a0_0 a0_1 a0_2 a0_3 x12_1 t141 _ A10.out).mono ?_); rintro e w12 ⟨v142, rfl, ho0, hb⟩; refine ⟨_, rfl, ?_⟩; replace HO_3 := Aside0.mk (Kd.S_elder' (by (with_reducible repeat (first | apply Kd.S_alloc | apply Kd.S_drewN | apply Kd.S_drew)); exact HO_3.out) (Kd.QC_base ho0) hb); have HO143 := Aside0.mk (Kd.QC_lower ho0 (below_size zB)); replace BK137 := Aside0.mk (blk_below (zk BK137) hb); replace HB := Aside0.mk (below_step zB hb); (try clear hb); (try clear hb2); (try clear hk); (try clear hi); (try clear ho0); obtain ⟨Ao13, co13, eo13, _⟩ := Kd.QC_slice HO143.out; subst eo13))
      go_loopg [19] k1 (fun kq v19 w' => ∃ (x3_2 : List (List Int)) (x19_2 : Int), v19 = .int .i64 x19_2 ∧ Aside0 (outer_members.l1 kq x3_2 x12_1 a0_1 x12_1 t141 (t141.length : Int) x19_2 a0_0 a0_1 a0_2 a0_3 = some r) ∧ Aside0 (kq ≤ k1) ∧ Aside0 (Kd.S (Kd.slice 3 (Kd.int .i64)) 26 w' w.heap.size (fun k_ => some k_ ≠ ((.slice Ao13 t141.length co13) : Value).ownBlock) v139 x3_2) ∧ Aside0 (Kd.QC (Kd.int .i64) 3 w' w.heap.size (fun _ => True) (.slice Ao13 t141.length co13) t141) ∧ Aside0 (w'.heap[gb137]? = some (.cells #[.int .i64 a0_0, .int .i64 a0_1, .int .i64 a0_2, .int .i64 a0_3] 23 (0, 0))) ∧ Aside0 (Below w.heap.size w w'))
      case atStart => exact ⟨(x3_1), (0), zF, H', ⟨Nat.le_refl _⟩, ⟨by (with_reducible repeat (first | apply Kd.S_alloc | apply Kd.S_drewN | apply Kd.S_drew)); exact Kd.S_mono HO_3.out (fun _ hk => hk.2)⟩, ⟨zQC HO143⟩, ⟨zk BK137⟩, ⟨zB⟩⟩
      case round =>
       clear H'
       (try clear c2); (try clear c2b0); (try clear c2b1); (try clear p2); (try clear c3); (try clear c3b0); (try clear c3b1); (try clear c9); (try clear c9b0); (try clear hcz11_0); (try clear hcz11_1); (try clear hcz11_2); (try clear hcz11_3); (try clear hcz5_0); (try clear hcz5_1); (try clear hcz5_2); (try clear hcz5_3); (try clear hcz8_0); (try clear hcz8_1); (try clear hcz8_2); (try clear hcz8_3); (try clear hfz11_0); (try clear hfz11_1); (try clear hfz11_2); (try clear hfz11_3); (try clear hfz5_0); (try clear hfz5_1); (try clear hfz5_2); (try clear hfz5_3); (try clear hfz8_0); (try clear hfz8_1); (try clear hfz8_2); (try clear hfz8_3); (try clear p2); obtain ⟨x3_2, x19_2, rfl, HA, HK2, HO_3, HO_17, BK137, HB⟩ := hrel
       cases gk with
       | zero => exact absurd HA.out (by simp [outer_members.l1])
       | succ k2 =>
        have H := HA.out; clear HA; simp only [outer_members.l1] at H
        by_cases c14 : x19_2 < (t141.length : Int)
        ·
         rw [if_pos c14] at H
         have c14b0 : decide (x19_2 < (t141.length : Int)) = true := decide_eq_true c14
         clear c14; by_cases c15 : 0 ≤ x19_2
         ·
          rw [if_pos c15] at H
          have c15b0 : decide (0 ≤ x19_2) = true := decide_eq_true c15
          clear c15; by_cases c16 : x19_2 < (t141.length : Int)
          ·
           rw [if_pos c16] at H
           have c16b0 : decide (x19_2 < (t141.length : Int)) = true := decide_eq_true c16
           clear c16; by_cases c17 : 0 ≤ (rd t141 x19_2)
           ·
            rw [if_pos c17] at H
            have c17b0 : decide (0 ≤ (rd t141 x19_2)) = true := decide_eq_true c17
            clear c17; by_cases c18 : (rd t141 x19_2) < (x3_2.length : Int)
            ·
             rw [if_pos c18] at H
             have c18b0 : decide ((rd t141 x19_2) < (x3_2.length : Int)) = true := decide_eq_true c18
             clear c18; by_cases c19 : (rd_L3 x3_2 (rd t141 x19_2)).length < 17592186044416
             ·
              rw [if_pos c19] at H
              have LMc19 := Aside0.mk c19
              clear c19; obtain ⟨y146, hy146⟩ : ∃ y_ : List Int, y_ = ((rd_L3 x3_2 (rd t141 x19_2)) ++ [x12_1]) := ⟨_, rfl⟩
              replace H : (outer_members.l1 k2 (x3_2.set ((rd t141 x19_2) : Int).toNat y146) x12_1 a0_1 x12_1 t141 (t141.length : Int) (wrap64 (x19_2 + 1)) a0_0 a0_1 a0_2 a0_3) = some r := by first | (rw [hy146]; with_reducible exact H) | (have H2_ := (Option.bind_some _ _).symm.trans H; rw [hy146]; with_reducible exact H2_) | (have H2_ := (Option.bind_some _ _).symm.trans H; with_reducible exact H2_) | with_reducible exact H | (rw [hy146]; exact H) | exact H
              have Ny146 := Aside0.mk hy146
              clear hy146; obtain ⟨y149, hy149⟩ : ∃ y_ : List (List Int), y_ = (x3_2.set ((rd t141 x19_2) : Int).toNat y146) := ⟨_, rfl⟩
              replace H : (outer_members.l1 k2 y149 x12_1 a0_1 x12_1 t141 (t141.length : Int) (wrap64 (x19_2 + 1)) a0_0 a0_1 a0_2 a0_3) = some r := by first | (rw [hy149]; with_reducible exact H) | (have H2_ := (Option.bind_some _ _).symm.trans H; rw [hy149]; with_reducible exact H2_) | (have H2_ := (Option.bind_some _ _).symm.trans H; with_reducible exact H2_) | with_reducible exact H | (rw [hy149]; exact H) | exact H
              have Ny149 := Aside0.mk hy149
              clear hy149; have H' := Aside0.mk H
              clear H; have p144 : 0 ≤ (x19_2 : Int) := of_decide_eq_true zA
              have q144 : x19_2 < (t141.length : Int) := of_decide_eq_true zA
              obtain ⟨ad144, e144, hx144_0⟩ := Kd.at_int (Kd.QC_reads' HO_17.out).2.2 x19_2 p144 q144
              cases e144
              replace p144 := eq_true p144
              replace q144 := eq_true q144
              obtain ⟨Ao21, co21, eo21⟩ := Kd.S_slice HO_3.out
              subst eo21
              have p145 : 0 ≤ ((rd t141 x19_2) : Int) := of_decide_eq_true zA
              have q145 : (rd t141 x19_2) < (x3_2.length : Int) := of_decide_eq_true zA
              obtain ⟨ad145, A145_0, c145_0, e145, hx145_0, hl145_0, hi145_0⟩ := at_L3 (Kd.S_reads' HO_3.out).2.2 (rd t141 x19_2) p145 q145
              cases e145
              obtain ⟨ce145, hce145, hMe145, hcc145⟩ := Kd.S_get HO_3.out [] (rd t141 x19_2) p145 (by first | exact q145 | exact of_decide_eq_true zA | (have e_ := (Kd.S_reads' HO_3.out).1; omega))
              obtain ⟨ve145_0, rfl, ge145_0⟩ := hMe145
              have hv145_0 := hcc145 0 _ rfl
              rw [Nat.add_zero, show ((Kd.slice 3 (Kd.int .i64))).sz = 1 from rfl, Nat.mul_one] at hv145_0
              replace hv145_0 := Option.some.inj (hv145_0.symm.trans hx145_0)
              rw [hv145_0] at ge145_0
              have HL145_0 := Aside0.mk (show Kd.R (Kd.int .i64) 3 _ _ _ _ (rd_L3 x3_2 (rd t141 x19_2)) from ge145_0)
              clear hv145_0 ge145_0; have HX145_0 := Aside0.mk hx145_0
              clear hcc145 hce145; have HR145_0 := Aside0.mk hi145_0
              have HC145_0 := Aside0.mk hl145_0
              clear hi145_0 hl145_0; replace p145 := eq_true p145
              replace q145 := eq_true q145
              obtain ⟨go22, co22, eo22, gb22, gl22, cl22, HG22⟩ := Kd.S_form HO_3.out (by have h_ : ((rd t141 x19_2) : Int) < ((x3_2.length : Int) : Int) := of_decide_eq_true zA; have h2_ : 0 ≤ ((rd t141 x19_2) : Int) := (of_decide_eq_true zA); omega)
              (first | cases eo22 | (injection eo22 with ea_ en_ ec_; (first | subst ea_ | (injection ea_ with ea_; subst ea_)); subst ec_; clear en_))
              have GB22 := Aside0.mk gb22
              have GG22 := Aside0.mk HG22
              clear gb22 gl22 HG22; (first | simp only [add_plain] at hx145_0 | skip)
              obtain ⟨oki22, ce22, hcl22, hM22, hcc22, _, _, hH22⟩ := Kd.S_elem HO_3.out [] ((rd t141 x19_2) : Int) (of_decide_eq_true zA) (by have h_ : ((rd t141 x19_2) : Int) < ((x3_2.length : Int) : Int) := of_decide_eq_true zA; first | exact h_ | (have e_ := (Kd.S_reads' HO_3.out).1; omega) | simpa using h_)
              obtain ⟨ve22_0, rfl, ge22_0⟩ := hM22
              have hv22 := hcc22 0 _ rfl
              have hX22 := HX145_0.out; (try simp only [add_plain] at hX22)
              (try simp only [Nat.add_zero] at hv22)
              (try rw [show ((Kd.slice 3 (Kd.int .i64))).sz = 1 from rfl, Nat.mul_one] at hv22)
              replace hv22 := Option.some.inj (hv22.symm.trans hX22)
              subst hv22
              clear hX22 hcc22 hcl22; have UU22 := Aside0.mk (show Kd.R (Kd.int .i64) 3 _ w.heap.size oki22 (.slice A145_0 (rd_L3 x3_2 (rd t141 x19_2)).length c145_0) (rd_L3 x3_2 (rd t141 x19_2)) from ge22_0)
              have HH22 := Aside0.mk hH22
              have HN22 := Aside0.mk (Kd.S_reads' HO_3.out).1
              clear hH22 ge22_0; go_wp2_with (first | ((with_reducible refine gate_builtin (b := .append) (xs := #[.tmp 28, .tmp 30]) rfl ?_); at_builtin; refine Kd.R_append (Kd.int .i64) (w0 := w) w.heap.size rfl (.tmp 28) (.tmp 30) 26 3 (.int .i64 0) 8 rfl Tryz.underlying26 info3 rfl (by decide) (by omega) (.slice A145_0 (rd_L3 x3_2 (rd t141 x19_2)).length c145_0) (rd_L3 x3_2 (rd t141 x19_2)) x12_1 [.int .i64 x12_1] (fun k_ => oki22 k_ ∨ ((fun k_ => some k_ ≠ (.slice (some ad144) t141.length co13 : Value).ownBlock)) k_ ∧ wr.heap.size ≤ k_) (fun _ => False) rfl rfl ?aP (fun _ hk => hk.elim) ?aF ?aO ?aB ?aS ?aL ?_; (case aP => exact rfl); (case aB => exact zB); (case aF => exact (fun k_ hk => .inr ⟨Kd.fresh' (Kd.QC_lt (by (with_reducible repeat (first | apply Kd.QC_alloc | apply Kd.QC_drewN | apply Kd.QC_drew)); exact HO_17.out)) k_ hk, hk⟩)); (case aO => exact (by (with_reducible repeat (first | apply Kd.R_alloc | apply Kd.R_drewN | apply Kd.R_drew)); exact Kd.R_mono UU22.out (fun _ hk => .inl hk))); (case aS => exact (below_size zB)); (case aL => have := LMc19.out; omega); intro v147 w23 ho hb hg hat; rw [← Ny146.out] at ho; replace HO_17 := Aside0.mk (Kd.QC_grown2 (by (with_reducible repeat (first | apply Kd.QC_alloc | apply Kd.QC_drewN | apply Kd.QC_drew)); exact HO_17.out) rfl hg (fun k_ e_ => (HL145_0.out.1 k_ e_).1)); replace BK137 := Aside0.mk (blk_grown (zk BK137) hg (Kd.R_ne HL145_0.out BK137.out (by decide))); replace HH22 := Aside0.mk (Kd.H_grown (Kd.H_widen (by repeat (first | exact HH22.out | refine Kd.H_alloc ?_ _ | refine Kd.H_drewN ?_ _ | refine Kd.H_drew ?_))) hg (fun k_ e_ => .inl (UU22.out.1 k_ e_))); have HO148 := Aside0.mk (ho); replace HB := Aside0.mk (hb); clear HO_3 UU22 HL145_0; clear ho hb hg hat; have p20 : 0 ≤ ((rd t141 x19_2) : Int) := of_decide_eq_true zA; have q20 : ((rd t141 x19_2) : Int) < ((x3_2.length : Int) : Int) := of_decide_eq_true zA; replace p20 := eq_true p20; replace q20 := eq_true q20; obtain ⟨Ao26, co26, eo26⟩ := Kd.R_slice HO148.out; subst eo26; obtain ⟨_, _, hraw24, _, _, hcc24, _⟩ := Kd.H_raw HH22.out (of_decide_eq_true zA) (by have h_ : ((rd t141 x19_2) : Int) < ((x3_2.length : Int) : Int) := of_decide_eq_true zA; first | exact h_ | (have e_ := (HN22.out); omega) | simpa using h_); obtain ⟨_, hfr24⟩ := Kd.H_at HH22.out (of_decide_eq_true zA) (by have h_ : ((rd t141 x19_2) : Int) < ((x3_2.length : Int) : Int) := of_decide_eq_true zA; first | exact h_ | (have e_ := (HN22.out); omega) | simpa using h_); have hx24_0 := hcc24 0 _ rfl; have hf24_0 := hfr24 0; (try simp only [Nat.add_zero] at hx24_0 hf24_0); (try rw [show ((Kd.slice 3 (Kd.int .i64))).sz = 1 from rfl, Nat.mul_one] at hx24_0); (try rw [show ((Kd.slice 3 (Kd.int .i64))).sz = 1 from rfl, Nat.mul_one] at hf24_0); have HP24 := Kd.S_seg0 HH22.out (of_decide_eq_true zA) (by have h_ : ((rd t141 x19_2) : Int) < ((x3_2.length : Int) : Int) := of_decide_eq_true zA; first | exact h_ | (have e_ := (HN22.out); omega) | simpa using h_) (seg := [.slice Ao26 y146.length co26]) (j := 0) (show 1 ≤ 1 from by decide) (x' := y146) (Kd.M_row HO148.out) (fun _ hk => hk); (try simp only [show ((Kd.slice 3 (Kd.int .i64))).sz = 1 from rfl, Nat.mul_one, Nat.add_zero] at HP24); clear hcc24 hfr24) | ((with_reducible refine gate_store (t := 26) (p := 32) rfl ?_); refine store_event (t := 26) (p := 32) (v := ?vo_w25) (w1 := (w23.setCell ⟨go22, ((rd t141 x19_2) : Int).toNat, none⟩ (.slice Ao26 y146.length co26))) ?hg ?ho ?hn ?hr ?_; (case ho => rfl); (case hg => rfl); (case hn => rfl); (case hr => first | (go_simp; done) | (go_simp; rfl)); intro w25 hw; have hg : w23.grownBy w25 (some go22) := (by rw [hw]; exact HP24.2); have hp_ : Kd.S (Kd.slice 3 (Kd.int .i64)) 26 w25 w.heap.size (fun k_ => some k_ ≠ (.slice (some ad144) t141.length co13 : Value).ownBlock) (.slice (some ⟨go22, 0, none⟩) x3_2.length co21) y149 := (by rw [hw, Ny149.out]; exact HP24.1); clear HP24; replace HO_17 := Aside0.mk (Kd.QC_over' (v := (.slice (some ⟨go22, 0, none⟩) x3_2.length co21)) (by (with_reducible repeat (first | apply Kd.QC_alloc | apply Kd.QC_drewN | apply Kd.QC_drew)); exact HO_17.out) (Kd.R_typed hraw24) (by decide) hg); replace BK137 := Aside0.mk (blk_grown (zk BK137) hg (Kd.R_ne hraw24 BK137.out (by decide))); have HO_3 := Aside0.mk (hp_); replace HB := Aside0.mk ((by rw [hw]; exact below_set HB.out GB22.out : Below w.heap.size w w25)); clear HO148 HH22; clear hg hw hp_ hraw24))
              go_roundg k2
              case measure => have := HK1.out; have := HK2.out; omega
              case rel => exact ⟨(y149), (wrap64 (x19_2 + 1)), zF, H', ⟨by have := HK1.out; have := HK2.out; omega⟩, ⟨zS HO_3⟩, ⟨zQC HO_17⟩, ⟨zk BK137⟩, ⟨zB⟩⟩
             ·
              rw [if_neg c19] at H
              exact absurd H (by simp)
            ·
             rw [if_neg c18] at H
             exact absurd H (by simp)
           ·
            rw [if_neg c17] at H
            exact absurd H (by simp)
          ·
           rw [if_neg c16] at H
           exact absurd H (by simp)
         ·
          rw [if_neg c15] at H
          exact absurd H (by simp)
        ·
         rw [if_neg c14] at H
         have c14b0 : decide (x19_2 < (t141.length : Int)) = false := decide_eq_false c14
         clear c14; have H' := Aside0.mk H
         clear H; go_wp2
         go_roundg k2
         case measure => have := HK1.out; have := HK2.out; omega
         case rel => exact ⟨(x3_2), (wrap64 (x12_1 + 1)), zF, H', ⟨by have := HK1.out; have := HK2.out; omega⟩, ⟨by (with_reducible repeat (first | apply Kd.S_alloc | apply Kd.S_drewN | apply Kd.S_drew)); exact Kd.S_mono HO_3.out (fun _ hk => trivial)⟩, ⟨zk BK137⟩, ⟨zB⟩⟩
     ·
      rw [if_neg c9] at H
      have c9b0 : decide (x12_1 < a0_1) = false := decide_eq_false c9
      clear c9; obtain rfl := Option.some.inj H
      go_wp2
      go_ret
      exact ⟨_, zE, by (with_reducible repeat (first | apply Kd.S_alloc | apply Kd.S_drewN | apply Kd.S_drew)); exact HO_3.out, zB⟩
  ·
   rw [if_neg c3] at H
   exact absurd H (by simp)
 ·
  rw [if_neg c2] at H
  exact absurd H (by simp)
end Go.Proofs.YtghhmnjkgnoogaaGreat.POuterWholes
