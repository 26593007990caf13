-- Written by this session's own program (wip/tools/mkprint.py) over the kit's printer, with overrides.
import Derived.Test.YtghhmnjkgnoogaaGreatTOuterWholesa
import Derived.Test.YtghhmnjkgnoogaaGreatQOuterWholesx0
namespace Go.Proofs.YtghhmnjkgnoogaaGreat.POuterWholes
open Go.RowKit Go.Mine Go.Proofs.YtghhmnjkgnoogaaGreatW.PrintWords Go.Proofs.YtghhmnjkgnoogaaGreatW.PrintLast Go.Proofs.YtghhmnjkgnoogaaGreatW.PrintMore
attribute [local go_sem] max2_int min2_int max_two min_two max_three min_three max_four min_four   -- for this text's walks alone
set_option linter.unusedVariables false
set_option linter.unusedSimpArgs false
/-! ### mosaicref04_Choose: function 76 -/
mutual
def mosaicref04_Choose.j0 : Nat → List Int → Int → Bool → Option (Int × Int)
 | 0, _, _, _ => none
 | k + 1, x0, x1, x19 => if x19 = true then (some (0, 0)) else (if x1 = 0 then (none) else (mosaicref04_Choose.l0 k x0 x1 (wrap64 (4294967296 - ((4294967296 : Int) % x1))) 0 0 0))
def mosaicref04_Choose.l0 : Nat → List Int → Int → Int → Int → Int → Int → Option (Int × Int)
 | 0, _, _, _, _, _, _ => none
 | k + 1, x0, x1, x5, x6, x7, x8 => if x8 < (x0.length : Int) then (mosaicref04_Choose.j2 k x0 x1 x5 x6 x7 x8 (decide (x8 < 8))) else (mosaicref04_Choose.j2 k x0 x1 x5 x6 x7 x8 false)
def mosaicref04_Choose.j2 : Nat → List Int → Int → Int → Int → Int → Int → Bool → Option (Int × Int)
 | 0, _, _, _, _, _, _, _ => none
 | k + 1, x0, x1, x5, x6, x7, x8, x31 => if x31 = true then (if 0 ≤ x8 then (if x8 < (x0.length : Int) then (if (wrap64 (rd x0 x8)) < x5 then (if x1 = 0 then (none) else (some (Int.tmod (wrap64 (rd x0 x8)) x1, wrap64 (x8 + 1)))) else (mosaicref04_Choose.l0 k x0 x1 x5 (wrap64 (rd x0 x8)) (wrap64 (x8 + 1)) (wrap64 (x8 + 1)))) else (none)) else (none)) else (if x1 = 0 then (none) else (some (Int.tmod x6 x1, x7)))
end
def mosaicref04_Choose.f (k : Nat) (l0 : List Int) (a1 : Int) : Option (Int × Int) := if a1 < 1 then (mosaicref04_Choose.j0 k l0 a1 true) else (if a1 > 2147483647 then (mosaicref04_Choose.j0 k l0 a1 true) else (mosaicref04_Choose.j0 k l0 a1 ((l0.length : Int) == 0)))
theorem mosaicref04_Choose.mono_l : ∀ k, (∀ y0 y1 y2, LeO (mosaicref04_Choose.j0 k y0 y1 y2) (mosaicref04_Choose.j0 (k + 1) y0 y1 y2)) ∧ (∀ y0 y1 y2 y3 y4 y5, LeO (mosaicref04_Choose.l0 k y0 y1 y2 y3 y4 y5) (mosaicref04_Choose.l0 (k + 1) y0 y1 y2 y3 y4 y5)) ∧ (∀ y0 y1 y2 y3 y4 y5 y6, LeO (mosaicref04_Choose.j2 k y0 y1 y2 y3 y4 y5 y6) (mosaicref04_Choose.j2 (k + 1) y0 y1 y2 y3 y4 y5 y6))
 | 0 => ⟨fun _ _ _ r h => by simp [mosaicref04_Choose.j0] at h, fun _ _ _ _ _ _ r h => by simp [mosaicref04_Choose.l0] at h, fun _ _ _ _ _ _ _ r h => by simp [mosaicref04_Choose.j2] at h⟩
 | k + 1 => by
  obtain ⟨ih0, ih1, ih2⟩ := mosaicref04_Choose.mono_l k
  refine ⟨?_, ?_, ?_⟩
  ·
   intro y0 y1 y2
   unfold mosaicref04_Choose.j0
   repeat' first
   | (with_reducible exact ih0 _ _ _)
   | (with_reducible exact ih1 _ _ _ _ _ _)
   | (with_reducible exact ih2 _ _ _ _ _ _ _)
   | (with_reducible exact LeO.refl _)
   | (with_reducible exact LeO.none _)
   | (with_reducible refine LeO.ite ?_ ?_)
   | (with_reducible refine LeO.bind ?_ (fun _ => ?_))
   | exact ih0 _ _ _
   | exact ih1 _ _ _ _ _ _
   | exact ih2 _ _ _ _ _ _ _
   | exact LeO.none _
   | refine LeO.ite ?_ ?_
   | refine LeO.bind ?_ (fun _ => ?_)
  ·
   intro y0 y1 y2 y3 y4 y5
   unfold mosaicref04_Choose.l0
   repeat' first
   | (with_reducible exact ih0 _ _ _)
   | (with_reducible exact ih1 _ _ _ _ _ _)
   | (with_reducible exact ih2 _ _ _ _ _ _ _)
   | (with_reducible exact LeO.refl _)
   | (with_reducible exact LeO.none _)
   | (with_reducible refine LeO.ite ?_ ?_)
   | (with_reducible refine LeO.bind ?_ (fun _ => ?_))
   | exact ih0 _ _ _
   | exact ih1 _ _ _ _ _ _
   | exact ih2 _ _ _ _ _ _ _
   | exact LeO.none _
   | refine LeO.ite ?_ ?_
   | refine LeO.bind ?_ (fun _ => ?_)
  ·
   intro y0 y1 y2 y3 y4 y5 y6
   unfold mosaicref04_Choose.j2
   repeat' first
   | (with_reducible exact ih0 _ _ _)
   | (with_reducible exact ih1 _ _ _ _ _ _)
   | (with_reducible exact ih2 _ _ _ _ _ _ _)
   | (with_reducible exact LeO.refl _)
   | (with_reducible exact LeO.none _)
   | (with_reducible refine LeO.ite ?_ ?_)
   | (with_reducible refine LeO.bind ?_ (fun _ => ?_))
   | exact ih0 _ _ _
   | exact ih1 _ _ _ _ _ _
   | exact ih2 _ _ _ _ _ _ _
   | exact LeO.none _
   | refine LeO.ite ?_ ?_
   | refine LeO.bind ?_ (fun _ => ?_)
theorem mosaicref04_Choose.mono : ∀ a0 a1 k, LeO (mosaicref04_Choose.f k a0 a1) (mosaicref04_Choose.f (k + 1) a0 a1) := by
 intro a0 a1 k
 obtain ⟨ih0, ih1, ih2⟩ := mosaicref04_Choose.mono_l k
 unfold mosaicref04_Choose.f
 repeat' first
   | (with_reducible exact ih0 _ _ _)
   | (with_reducible exact ih1 _ _ _ _ _ _)
   | (with_reducible exact ih2 _ _ _ _ _ _ _)
   | (with_reducible exact LeO.refl _)
   | (with_reducible exact LeO.none _)
   | (with_reducible refine LeO.ite ?_ ?_)
   | (with_reducible refine LeO.bind ?_ (fun _ => ?_))
   | exact ih0 _ _ _
   | exact ih1 _ _ _ _ _ _
   | exact ih2 _ _ _ _ _ _ _
   | exact LeO.none _
   | refine LeO.ite ?_ ?_
   | refine LeO.bind ?_ (fun _ => ?_)
set_option maxHeartbeats 8000000 in
set_option maxRecDepth 100000 in
theorem mosaicref04_Choose.calls (k : Nat) (A0 : Option Addr) (c0 : Nat) (l0 : List Int) (a1 : Int) (r1 : Int) (r2 : Int) (w : World) (hr0 : Kd.C (Kd.int .u32) w A0 l0.length l0) (hc0 : l0.length ≤ c0) (h : mosaicref04_Choose.f k l0 a1 = some (r1, r2)) :
  Calls Tryz.prog 76 #[.slice A0 l0.length c0, .int .i64 a1] w fun e w' => e = .returned (.agg #[.int .i64 r1, .int .i64 r2]) ∧ Below w.heap.size w w' := by
 have hu106 := Tryz.underlying106; have HR0 := Aside0.mk hr0
 have HC0 := Aside0.mk hc0
 clear hr0 hc0; have HB := Aside0.mk (Below.refl w.heap.size w)
 have H : (if a1 < 1 then (mosaicref04_Choose.j0 k l0 a1 true) else (if a1 > 2147483647 then (mosaicref04_Choose.j0 k l0 a1 true) else (mosaicref04_Choose.j0 k l0 a1 ((l0.length : Int) == 0)))) = some (r1, r2) := h
 clear h; have HC3 := Aside0.mk H
 clear H; go_enter Tryz.func76, Tryz.ntmps76
 go_upto_region 1 with (first | ((with_reducible refine gate_dst (N := 4) rfl ?_); (try (refine gate_guard (by rfl) ?_; dsimp only)); refine box_event ?hg (N := 4) ?hd (cs := #[.int .i64 0, .int .i64 0]) (t := 106) ?hr ?_; (case hd => rfl); (case hg => rfl); (case hr => first | (go_simp; done) | (go_simp; rfl)); intro gb313 hg w4 hbox hb; have BK313 := Aside0.mk (hbox); have GW313 := Aside0.mk ((zg : w.heap.size ≤ gb313)); have GE313 := Aside0.mk ((zg : w.heap.size ≤ gb313)); replace HB := Aside0.mk (below_step zB hb); clear hb hbox hg))
 (try simp only [Act.put, List.setIfInBounds_toArray, List.set_cons_zero, List.set_cons_succ])
 go_cut [19] (fun v19 wc => ∃ (kq : Nat) (x19_2 : Bool), v19 = .bool x19_2 ∧ Aside0 (mosaicref04_Choose.j0 kq l0 a1 x19_2 = some (r1, r2)) ∧ Aside0 (kq ≤ k) ∧ Aside0 (wc.heap[gb313]? = some (.cells #[.int .i64 0, .int .i64 0] 106 (0, 0))) ∧ Aside0 (Below w.heap.size w wc))
 case first =>
  have H := HC3.out; clear HC3; by_cases c5 : a1 < 1
  ·
   rw [if_pos c5] at H
   have c5b0 : decide (a1 < 1) = true := decide_eq_true c5
   clear c5; (first | rw [c5b0] | (simp only [i64_w, i32_w]; rw [c5b0]) | skip)
   have H' := Aside0.mk H
   clear H; go_wp2
   go_meet
   case rel => exact ⟨_, (true), zF, H', ⟨by first | omega | exact Nat.le_refl _⟩, ⟨zk BK313⟩, ⟨zB⟩⟩
  ·
   rw [if_neg c5] at H
   have c5b0 : decide (a1 < 1) = false := decide_eq_false c5
   clear c5; (first | rw [c5b0] | (simp only [i64_w, i32_w]; rw [c5b0]) | skip)
   by_cases c6 : a1 > 2147483647
   ·
    rw [if_pos c6] at H
    have c6b0 : decide (2147483647 < a1) = true := decide_eq_true c6
    clear c6; have H' := Aside0.mk H
    clear H; go_wp2
    go_meet
    case rel => exact ⟨_, (true), zF, H', ⟨by first | omega | exact Nat.le_refl _⟩, ⟨zk BK313⟩, ⟨zB⟩⟩
   ·
    rw [if_neg c6] at H
    have c6b0 : decide (2147483647 < a1) = false := decide_eq_false c6
    clear c6; have H' := Aside0.mk H
    clear H; go_wp2
    go_meet
    case rel => exact ⟨_, (((l0.length : Int) == 0)), zF, H', ⟨by first | omega | exact Nat.le_refl _⟩, ⟨zk BK313⟩, ⟨zB⟩⟩
 case rest =>
  clear HC3; (try clear p2); (try clear c5); (try clear c5b0); (try clear c6); (try clear c6b0); obtain ⟨kq, x19_2, rfl, HA, HJ2, BK313, HB⟩ := hcut
  cases kq with
  | zero => exact absurd HA.out (by simp [mosaicref04_Choose.j0])
  | succ kj2 =>
   have H := HA.out; clear HA; simp only [mosaicref04_Choose.j0] at H
   by_cases c7 : x19_2 = true
   ·
    subst c7
    have H1 : (some (0, 0)) = some (r1, r2) := by rw [if_pos rfl] at H; exact H
    clear H; have H := H1; clear H1; simp only [Option.some.injEq, Prod.mk.injEq] at H
    obtain ⟨rfl, rfl⟩ := H
    obtain ⟨hcz8_0, hcz8_1⟩ := cZ2 BK313
    obtain ⟨hfz8_0, hfz8_1⟩ := dZ2 BK313; go_wp2
    refine bodyPost_ret (results_cell_row rfl _ _ gb313 106 #[.int .i64 0, .int .i64 0] (0, 0) _ rfl (by (with_reducible repeat (first | refine blk_drewN ?_ _ | refine blk_drew ?_ | refine blk_alloc ?_ _)); refine blk_put (cs := #[.int .i64 0, .int .i64 0]) ?_ 1 _ rfl; (with_reducible repeat (first | refine blk_drewN ?_ _ | refine blk_drew ?_ | refine blk_alloc ?_ _)); refine blk_put (cs := #[.int .i64 0, .int .i64 0]) ?_ 0 _ rfl; (with_reducible repeat (first | refine blk_drewN ?_ _ | refine blk_drew ?_ | refine blk_alloc ?_ _)); exact BK313.out) Tryz.underlying106 rfl (by kernel_rfl)) rfl ?_
    exact ⟨zE, zB⟩
   ·
    replace c7 := Bool.eq_false_iff.mpr c7
    subst c7
    have H1 : (if a1 = 0 then (none) else (mosaicref04_Choose.l0 kj2 l0 a1 (wrap64 (4294967296 - ((4294967296 : Int) % a1))) 0 0 0)) = some (r1, r2) := by rw [if_neg (show ¬ (false = true) by decide)] at H; exact H
    clear H; have H := H1; clear H1; by_cases c9 : a1 = 0
    ·
     rw [if_pos c9] at H
     exact absurd H (by simp)
    ·
     rw [if_neg c9] at H
     have c9b0 : (a1 == 0) = false := beq_eq_false_iff_ne.mpr c9
     have c9b1 : (a1 != 0) = true := bne_iff_ne.mpr c9
     have H' := Aside0.mk H
     clear H; go_wp2
     go_loopg [6, 7, 8] kj2 (fun kq v6 v7 v8 w' => ∃ (x6_2 : Int) (x7_2 : Int) (x8_2 : Int) (x314000_2 : Int) (x314001_2 : Int), v6 = .int .i64 x6_2 ∧ v7 = .int .i64 x7_2 ∧ v8 = .int .i64 x8_2 ∧ Aside0 (mosaicref04_Choose.l0 kq l0 a1 (wrap64 (4294967296 - ((4294967296 : Int) % a1))) x6_2 x7_2 x8_2 = some (r1, r2)) ∧ Aside0 (kq ≤ kj2) ∧ Aside0 (w'.heap[gb313]? = some (.cells #[.int .i64 x314000_2, .int .i64 x314001_2] 106 (0, 0))) ∧ Aside0 (Below w.heap.size w w'))
     case atStart => exact ⟨(0), (0), (0), (0), (0), zF, zF, zF, H', ⟨Nat.le_refl _⟩, ⟨zk BK313⟩, ⟨zB⟩⟩
     case round =>
      clear H'
      (try clear p2); (try clear c5); (try clear c5b0); (try clear c6); (try clear c6b0); (try clear p6); (try clear c7); (try clear c9); (try clear c9b0); (try clear c9b1); (try clear hcz8_0); (try clear hcz8_1); (try clear hfz8_0); (try clear hfz8_1); (try clear p2); obtain ⟨x6_2, x7_2, x8_2, x314000_2, x314001_2, rfl, rfl, rfl, HA, HK2, BK313, HB⟩ := hrel
      cases gk with
      | zero => exact absurd HA.out (by simp [mosaicref04_Choose.l0])
      | succ k2 =>
       have H := HA.out; clear HA; simp only [mosaicref04_Choose.l0] at H
       have HC10 := Aside0.mk H
       clear H; go_upto_region 7 with (fail)
       go_cut [31] (fun v31 wc => ∃ (kq : Nat) (x31_9 : Bool), v31 = .bool x31_9 ∧ Aside0 (mosaicref04_Choose.j2 kq l0 a1 (wrap64 (4294967296 - ((4294967296 : Int) % a1))) x6_2 x7_2 x8_2 x31_9 = some (r1, r2)) ∧ Aside0 (kq ≤ k2) ∧ Aside0 (wc.heap[gb313]? = some (.cells #[.int .i64 x314000_2, .int .i64 x314001_2] 106 (0, 0))) ∧ Aside0 (Below w.heap.size w wc))
       case first =>
        have H := HC10.out; clear HC10; by_cases c11 : x8_2 < (l0.length : Int)
        ·
         rw [if_pos c11] at H
         have c11b0 : decide (x8_2 < (l0.length : Int)) = true := decide_eq_true c11
         clear c11; (first | rw [c11b0] | (simp only [i64_w, i32_w]; rw [c11b0]) | skip)
         have H' := Aside0.mk H
         clear H; go_wp2
         go_meet
         case rel => exact ⟨_, (decide (x8_2 < 8)), zF, H', ⟨by have := HJ2.out; have := HK2.out; first | omega | exact Nat.le_refl _⟩, ⟨zk BK313⟩, ⟨zB⟩⟩
        ·
         rw [if_neg c11] at H
         have c11b0 : decide (x8_2 < (l0.length : Int)) = false := decide_eq_false c11
         clear c11; (first | rw [c11b0] | (simp only [i64_w, i32_w]; rw [c11b0]) | skip)
         have H' := Aside0.mk H
         clear H; go_wp2
         go_meet
         case rel => exact ⟨_, (false), zF, H', ⟨by have := HJ2.out; have := HK2.out; first | omega | exact Nat.le_refl _⟩, ⟨zk BK313⟩, ⟨zB⟩⟩
       case rest =>
        clear HC10; (try clear c1); (try clear p2); (try clear c5); (try clear c5b0); (try clear c6); (try clear c6b0); (try clear p6); (try clear c7); (try clear c9); (try clear c9b0); (try clear c9b1); (try clear c11); (try clear c11b0); (try clear hcz8_0); (try clear hcz8_1); (try clear hfz8_0); (try clear hfz8_1); (try clear p2); (try clear p6); obtain ⟨kq, x31_9, rfl, HA, HJ9, BK313, HB⟩ := hcut
        cases kq with
        | zero => exact absurd HA.out (by simp [mosaicref04_Choose.j2])
        | succ kj9 =>
         have H := HA.out; clear HA; simp only [mosaicref04_Choose.j2] at H
         by_cases c12 : x31_9 = true
         ·
          subst c12
          have H1 : (if 0 ≤ x8_2 then (if x8_2 < (l0.length : Int) then (if (wrap64 (rd l0 x8_2)) < (wrap64 (4294967296 - ((4294967296 : Int) % a1))) then (if a1 = 0 then (none) else (some (Int.tmod (wrap64 (rd l0 x8_2)) a1, wrap64 (x8_2 + 1)))) else (mosaicref04_Choose.l0 kj9 l0 a1 (wrap64 (4294967296 - ((4294967296 : Int) % a1))) (wrap64 (rd l0 x8_2)) (wrap64 (x8_2 + 1)) (wrap64 (x8_2 + 1)))) else (none)) else (none)) = some (r1, r2) := by rw [if_pos rfl] at H; exact H
          clear H; have H := H1; clear H1; by_cases c13 : 0 ≤ x8_2
          ·
           rw [if_pos c13] at H
           have c13b0 : decide (0 ≤ x8_2) = true := decide_eq_true c13
           clear c13; by_cases c14 : x8_2 < (l0.length : Int)
           ·
            rw [if_pos c14] at H
            have c14b0 : decide (x8_2 < (l0.length : Int)) = true := decide_eq_true c14
            clear c14; by_cases c15 : (wrap64 (rd l0 x8_2)) < (wrap64 (4294967296 - ((4294967296 : Int) % a1)))
            ·
             rw [if_pos c15] at H
             have c15b0 : decide ((wrap64 (rd l0 x8_2)) < (wrap64 (4294967296 - ((4294967296 : Int) % a1)))) = true := decide_eq_true c15
             clear c15; by_cases c16 : a1 = 0
             ·
              rw [if_pos c16] at H
              exact absurd H (by simp)
             ·
              rw [if_neg c16] at H
              have c16b0 : (a1 == 0) = false := beq_eq_false_iff_ne.mpr c16
              have c16b1 : (a1 != 0) = true := bne_iff_ne.mpr c16
              simp only [Option.some.injEq, Prod.mk.injEq] at H
              obtain ⟨rfl, rfl⟩ := H
              have p314 : 0 ≤ (x8_2 : Int) := of_decide_eq_true zA
              have q314 : x8_2 < (l0.length : Int) := of_decide_eq_true zA
              obtain ⟨ad314, e314, hx314_0⟩ := Kd.at_int HR0.out x8_2 p314 q314
              cases e314
              (try replace hx314_0 := (HB.out.cell (World.block_lt_of_cell? w _ hx314_0)).trans hx314_0)
              replace p314 := eq_true p314
              replace q314 := eq_true q314
              obtain ⟨hcz17_0, hcz17_1⟩ := cZ2 BK313
              obtain ⟨hfz17_0, hfz17_1⟩ := dZ2 BK313; go_wp2
              refine bodyPost_ret (results_cell_row rfl _ _ gb313 106 #[.int .i64 (Int.tmod (wrap64 (rd l0 x8_2)) a1), .int .i64 (wrap64 (x8_2 + 1))] (0, 0) _ rfl (by (with_reducible repeat (first | refine blk_drewN ?_ _ | refine blk_drew ?_ | refine blk_alloc ?_ _)); refine blk_put (cs := #[.int .i64 (Int.tmod (wrap64 (rd l0 x8_2)) a1), .int .i64 x314001_2]) ?_ 1 _ rfl; (with_reducible repeat (first | refine blk_drewN ?_ _ | refine blk_drew ?_ | refine blk_alloc ?_ _)); refine blk_put (cs := #[.int .i64 x314000_2, .int .i64 x314001_2]) ?_ 0 _ rfl; (with_reducible repeat (first | refine blk_drewN ?_ _ | refine blk_drew ?_ | refine blk_alloc ?_ _)); exact BK313.out) Tryz.underlying106 rfl (by kernel_rfl)) rfl ?_
              exact ⟨zE, zB⟩
            ·
             rw [if_neg c15] at H
             have c15b0 : decide ((wrap64 (rd l0 x8_2)) < (wrap64 (4294967296 - ((4294967296 : Int) % a1)))) = false := decide_eq_false c15
             clear c15; have H' := Aside0.mk H
             clear H; have p314 : 0 ≤ (x8_2 : Int) := of_decide_eq_true zA
             have q314 : x8_2 < (l0.length : Int) := of_decide_eq_true zA
             obtain ⟨ad314, e314, hx314_0⟩ := Kd.at_int HR0.out x8_2 p314 q314
             cases e314
             (try replace hx314_0 := (HB.out.cell (World.block_lt_of_cell? w _ hx314_0)).trans hx314_0)
             replace p314 := eq_true p314
             replace q314 := eq_true q314
             go_wp2
             go_roundg kj9
             case measure => have := HJ2.out; have := HK2.out; have := HJ9.out; omega
             case rel => exact ⟨(wrap64 (rd l0 x8_2)), (wrap64 (x8_2 + 1)), (wrap64 (x8_2 + 1)), (x314000_2), (x314001_2), zF, zF, zF, H', ⟨by have := HJ2.out; have := HK2.out; have := HJ9.out; omega⟩, ⟨zk BK313⟩, ⟨zB⟩⟩
           ·
            rw [if_neg c14] at H
            exact absurd H (by simp)
          ·
           rw [if_neg c13] at H
           exact absurd H (by simp)
         ·
          replace c12 := Bool.eq_false_iff.mpr c12
          subst c12
          have H1 : (if a1 = 0 then (none) else (some (Int.tmod x6_2 a1, x7_2))) = some (r1, r2) := by rw [if_neg (show ¬ (false = true) by decide)] at H; exact H
          clear H; have H := H1; clear H1; by_cases c18 : a1 = 0
          ·
           rw [if_pos c18] at H
           exact absurd H (by simp)
          ·
           rw [if_neg c18] at H
           have c18b0 : (a1 == 0) = false := beq_eq_false_iff_ne.mpr c18
           have c18b1 : (a1 != 0) = true := bne_iff_ne.mpr c18
           simp only [Option.some.injEq, Prod.mk.injEq] at H
           obtain ⟨rfl, rfl⟩ := H
           obtain ⟨hcz19_0, hcz19_1⟩ := cZ2 BK313
           obtain ⟨hfz19_0, hfz19_1⟩ := dZ2 BK313; go_wp2
           refine bodyPost_ret (results_cell_row rfl _ _ gb313 106 #[.int .i64 (Int.tmod x6_2 a1), .int .i64 x7_2] (0, 0) _ rfl (by (with_reducible repeat (first | refine blk_drewN ?_ _ | refine blk_drew ?_ | refine blk_alloc ?_ _)); refine blk_put (cs := #[.int .i64 (Int.tmod x6_2 a1), .int .i64 x314001_2]) ?_ 1 _ rfl; (with_reducible repeat (first | refine blk_drewN ?_ _ | refine blk_drew ?_ | refine blk_alloc ?_ _)); refine blk_put (cs := #[.int .i64 x314000_2, .int .i64 x314001_2]) ?_ 0 _ rfl; (with_reducible repeat (first | refine blk_drewN ?_ _ | refine blk_drew ?_ | refine blk_alloc ?_ _)); exact BK313.out) Tryz.underlying106 rfl (by kernel_rfl)) rfl ?_
           exact ⟨zE, zB⟩
end Go.Proofs.YtghhmnjkgnoogaaGreat.POuterWholes
