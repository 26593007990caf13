-- Written by this session's own program (wip/tools/mkprint.py) over the kit's printer, with overrides.
import Derived.Test.YtghhmnjkgnoogaaGreatTOuterWholesa
import Derived.Test.YtghhmnjkgnoogaaGreatQOuterWholesx0
import Derived.Test.YtghhmnjkgnoogaaGreatQOuterWholesx17
import Derived.Test.YtghhmnjkgnoogaaGreatQOuterWholesx18
import Derived.Test.YtghhmnjkgnoogaaGreatQOuterWholesx27
namespace Go.Proofs.YtghhmnjkgnoogaaGreat.POuterWholes
open Go.RowKit Go.Mine Go.Proofs.YtghhmnjkgnoogaaGreatW.PrintWords Go.Proofs.YtghhmnjkgnoogaaGreatW.PrintLast Go.Proofs.YtghhmnjkgnoogaaGreatW.PrintMore
attribute [local go_sem] max2_int min2_int max_two min_two max_three min_three max_four min_four   -- for this text's walks alone
set_option linter.unusedVariables false
set_option linter.unusedSimpArgs false
/-! ### mosaicref09_Joins: function 14 -/
mutual
def mosaicref09_Joins.j0 : Nat → Int → Int → Int → Int → Int → Int → Option (List Int)
 | 0, _, _, _, _, _, _ => none
 | k + 1, x1, x5, x343000, x343001, x343002, x343003 => (mosaicref02_Num.f k x343000 7).bind fun t343 => (if 5 + t343.size ≤ 9223372036854775807 then ((mosaicref02_Num.f k x1 2).bind fun t344 => (if ((⟨#[111, 117, 116, 101, 114]⟩ : ByteArray) ++ t343).size + t344.size ≤ 9223372036854775807 then ((mosaicref04_Gen_Pick.f k (((⟨#[111, 117, 116, 101, 114]⟩ : ByteArray) ++ t343) ++ t344) 0 x343002 x5).bind fun bt346 => (mosaicref09_Joins.l0 k bt346.2.2 ([] : List Int) 0 x343000 x343001 x343002 x343003)) else (none))) else (none))
def mosaicref09_Joins.l0 : Nat → List Int → List Int → Int → Int → Int → Int → Int → Option (List Int)
 | 0, _, _, _, _, _, _, _ => none
 | k + 1, x7, x8, x9, x343000, x343001, x343002, x343003 => if x9 < x343002 then ((mosaicref09_Has.f k x7 x9).bind fun t351 => (if t351 = true then (if x8.length < 17592186044416 then (mosaicref09_Joins.l0 k x7 (x8 ++ [x9]) (wrap64 (x9 + 1)) x343000 x343001 x343002 x343003) else (none)) else (mosaicref09_Joins.l0 k x7 x8 (wrap64 (x9 + 1)) x343000 x343001 x343002 x343003))) else (some x8)
end
def mosaicref09_Joins.f (k : Nat) (a0_0 : Int) (a0_1 : Int) (a0_2 : Int) (a0_3 : Int) (a1 : Int) : Option (List Int) := if a0_3 > a0_2 then (mosaicref09_Joins.j0 k a1 a0_2 a0_0 a0_1 a0_2 a0_3) else (mosaicref09_Joins.j0 k a1 a0_3 a0_0 a0_1 a0_2 a0_3)
theorem mosaicref09_Joins.mono_l : ∀ k, (∀ y0 y1 y2 y3 y4 y5, LeO (mosaicref09_Joins.j0 k y0 y1 y2 y3 y4 y5) (mosaicref09_Joins.j0 (k + 1) y0 y1 y2 y3 y4 y5)) ∧ (∀ y0 y1 y2 y3 y4 y5 y6, LeO (mosaicref09_Joins.l0 k y0 y1 y2 y3 y4 y5 y6) (mosaicref09_Joins.l0 (k + 1) y0 y1 y2 y3 y4 y5 y6))
 | 0 => ⟨fun _ _ _ _ _ _ r h => by simp [mosaicref09_Joins.j0] at h, fun _ _ _ _ _ _ _ r h => by simp [mosaicref09_Joins.l0] at h⟩
 | k + 1 => by
  obtain ⟨ih0, ih1⟩ := mosaicref09_Joins.mono_l k
  refine ⟨?_, ?_⟩
  ·
   intro y0 y1 y2 y3 y4 y5
   unfold mosaicref09_Joins.j0
   repeat' first
   | (with_reducible exact ih0 _ _ _ _ _ _)
   | (with_reducible exact ih1 _ _ _ _ _ _ _)
   | (with_reducible exact mosaicref02_Num.mono _ _ _)
   | (with_reducible exact mosaicref04_Gen_Pick.mono _ _ _ _ _)
   | (with_reducible exact mosaicref09_Has.mono _ _ _)
   | (with_reducible exact LeO.refl _)
   | (with_reducible exact LeO.none _)
   | (with_reducible refine LeO.ite ?_ ?_)
   | (with_reducible refine LeO.bind ?_ (fun _ => ?_))
   | exact ih0 _ _ _ _ _ _
   | exact ih1 _ _ _ _ _ _ _
   | exact mosaicref02_Num.mono _ _ _
   | exact mosaicref04_Gen_Pick.mono _ _ _ _ _
   | exact mosaicref09_Has.mono _ _ _
   | exact LeO.none _
   | refine LeO.ite ?_ ?_
   | refine LeO.bind ?_ (fun _ => ?_)
  ·
   intro y0 y1 y2 y3 y4 y5 y6
   unfold mosaicref09_Joins.l0
   repeat' first
   | (with_reducible exact ih0 _ _ _ _ _ _)
   | (with_reducible exact ih1 _ _ _ _ _ _ _)
   | (with_reducible exact mosaicref02_Num.mono _ _ _)
   | (with_reducible exact mosaicref04_Gen_Pick.mono _ _ _ _ _)
   | (with_reducible exact mosaicref09_Has.mono _ _ _)
   | (with_reducible exact LeO.refl _)
   | (with_reducible exact LeO.none _)
   | (with_reducible refine LeO.ite ?_ ?_)
   | (with_reducible refine LeO.bind ?_ (fun _ => ?_))
   | exact ih0 _ _ _ _ _ _
   | exact ih1 _ _ _ _ _ _ _
   | exact mosaicref02_Num.mono _ _ _
   | exact mosaicref04_Gen_Pick.mono _ _ _ _ _
   | exact mosaicref09_Has.mono _ _ _
   | exact LeO.none _
   | refine LeO.ite ?_ ?_
   | refine LeO.bind ?_ (fun _ => ?_)
theorem mosaicref09_Joins.mono : ∀ a0 a1 a2 a3 a4 k, LeO (mosaicref09_Joins.f k a0 a1 a2 a3 a4) (mosaicref09_Joins.f (k + 1) a0 a1 a2 a3 a4) := by
 intro a0 a1 a2 a3 a4 k
 obtain ⟨ih0, ih1⟩ := mosaicref09_Joins.mono_l k
 unfold mosaicref09_Joins.f
 repeat' first
   | (with_reducible exact ih0 _ _ _ _ _ _)
   | (with_reducible exact ih1 _ _ _ _ _ _ _)
   | (with_reducible exact mosaicref02_Num.mono _ _ _)
   | (with_reducible exact mosaicref04_Gen_Pick.mono _ _ _ _ _)
   | (with_reducible exact mosaicref09_Has.mono _ _ _)
   | (with_reducible exact LeO.refl _)
   | (with_reducible exact LeO.none _)
   | (with_reducible refine LeO.ite ?_ ?_)
   | (with_reducible refine LeO.bind ?_ (fun _ => ?_))
   | exact ih0 _ _ _ _ _ _
   | exact ih1 _ _ _ _ _ _ _
   | exact mosaicref02_Num.mono _ _ _
   | exact mosaicref04_Gen_Pick.mono _ _ _ _ _
   | exact mosaicref09_Has.mono _ _ _
   | exact LeO.none _
   | refine LeO.ite ?_ ?_
   | refine LeO.bind ?_ (fun _ => ?_)
set_option maxHeartbeats 8000000 in
set_option maxRecDepth 100000 in
theorem mosaicref09_Joins.calls (k : Nat) (a0_0 : Int) (a0_1 : Int) (a0_2 : Int) (a0_3 : Int) (a1 : Int) (r : List Int) (w : World) (h : mosaicref09_Joins.f k a0_0 a0_1 a0_2 a0_3 a1 = some r) :
  Calls Tryz.prog 14 #[.agg #[.int .i64 a0_0, .int .i64 a0_1, .int .i64 a0_2, .int .i64 a0_3], .int .i64 a1] w fun e w' => ∃ v0_ : Value, e = .returned (v0_) ∧ Kd.R (Kd.int .i64) 3 w' w.heap.size (fun _ => True) v0_ r ∧ Below w.heap.size w w' := by
 have hf_ : ∀ (a b c : Value) (W : World), Sem.run Tryz.prog (Instr.field 58 (.agg #[a, b, c]) 1) W = .ok c W := (by intro a b c W; kernel_rfl)
 have hu24 := Tryz.underlying24; have hu56 := Tryz.underlying56; have HB := Aside0.mk (Below.refl w.heap.size w)
 have H : (if a0_3 > a0_2 then (mosaicref09_Joins.j0 k a1 a0_2 a0_0 a0_1 a0_2 a0_3) else (mosaicref09_Joins.j0 k a1 a0_3 a0_0 a0_1 a0_2 a0_3)) = some r := h
 clear h; have HC3 := Aside0.mk H
 clear H; go_enter Tryz.func14, Tryz.ntmps14
 go_upto_if 15 with (first | ((with_reducible refine gate_dst (N := 2) rfl ?_); refine box_event ?hg (N := 2) ?hd (cs := #[.int .i64 a0_0, .int .i64 a0_1, .int .i64 a0_2, .int .i64 a0_3]) (t := 24) ?hr ?_; (case hd => rfl); (case hg => rfl); (case hr => first | (go_simp; done) | (go_simp; rfl)); intro gb342 hg w4 hbox hb; have BK342 := Aside0.mk (hbox); have GW342 := Aside0.mk ((zg : w.heap.size ≤ gb342)); have GE342 := Aside0.mk ((zg : w.heap.size ≤ gb342)); replace HB := Aside0.mk (below_step zB hb); clear hb hbox hg; obtain ⟨hcz5_0, hcz5_1, hcz5_2, hcz5_3⟩ := cZ4 BK342; obtain ⟨hfz5_0, hfz5_1, hfz5_2, hfz5_3⟩ := dZ4 BK342))
 (try simp only [Act.put, List.setIfInBounds_toArray, List.set_cons_zero, List.set_cons_succ])
 go_cut [5] (fun v5 wc => ∃ (kq : Nat) (x5_2 : Int), v5 = .int .i64 x5_2 ∧ Aside0 (mosaicref09_Joins.j0 kq a1 x5_2 a0_0 a0_1 a0_2 a0_3 = some r) ∧ Aside0 (kq ≤ k) ∧ Aside0 (wc.heap[gb342]? = some (.cells #[.int .i64 a0_0, .int .i64 a0_1, .int .i64 a0_2, .int .i64 a0_3] 24 (0, 0))) ∧ Aside0 (Below w.heap.size w wc))
 case first =>
  have H := HC3.out; clear HC3; by_cases c6 : a0_3 > a0_2
  ·
   rw [if_pos c6] at H
   have c6b0 : decide (a0_2 < a0_3) = true := decide_eq_true c6
   clear c6; (first | rw [c6b0] | (simp only [i64_w, i32_w]; rw [c6b0]) | skip)
   have H' := Aside0.mk H
   clear H; obtain ⟨hcz7_0, hcz7_1, hcz7_2, hcz7_3⟩ := cZ4 BK342
   obtain ⟨hfz7_0, hfz7_1, hfz7_2, hfz7_3⟩ := dZ4 BK342; go_wp2
   go_meet
   case rel => exact ⟨_, (a0_2), zF, H', ⟨by first | omega | exact Nat.le_refl _⟩, ⟨zk BK342⟩, ⟨zB⟩⟩
  ·
   rw [if_neg c6] at H
   have c6b0 : decide (a0_2 < a0_3) = false := decide_eq_false c6
   clear c6; (first | rw [c6b0] | (simp only [i64_w, i32_w]; rw [c6b0]) | skip)
   have H' := Aside0.mk H
   clear H; go_wp2
   go_meet
   case rel => exact ⟨_, (a0_3), zF, H', ⟨by first | omega | exact Nat.le_refl _⟩, ⟨zk BK342⟩, ⟨zB⟩⟩
 case rest =>
  clear HC3; (try clear c1); (try clear p2); (try clear c6); (try clear c6b0); (try clear hcz5_0); (try clear hcz5_1); (try clear hcz5_2); (try clear hcz5_3); (try clear hcz7_0); (try clear hcz7_1); (try clear hcz7_2); (try clear hcz7_3); (try clear hfz5_0); (try clear hfz5_1); (try clear hfz5_2); (try clear hfz5_3); (try clear hfz7_0); (try clear hfz7_1); (try clear hfz7_2); (try clear hfz7_3); obtain ⟨kq, x5_2, rfl, HA, HJ2, BK342, HB⟩ := hcut
  cases kq with
  | zero => exact absurd HA.out (by simp [mosaicref09_Joins.j0])
  | succ kj2 =>
   have H := HA.out; clear HA; simp only [mosaicref09_Joins.j0] at H
   replace H := Option.bind_eq_some_iff.mp H
   obtain ⟨t343, A80, H⟩ := H
   replace H : (if 5 + t343.size ≤ 9223372036854775807 then ((mosaicref02_Num.f kj2 a1 2).bind fun t344 => (if ((⟨#[111, 117, 116, 101, 114]⟩ : ByteArray) ++ t343).size + t344.size ≤ 9223372036854775807 then ((mosaicref04_Gen_Pick.f kj2 (((⟨#[111, 117, 116, 101, 114]⟩ : ByteArray) ++ t343) ++ t344) 0 a0_2 x5_2).bind fun bt346 => (mosaicref09_Joins.l0 kj2 bt346.2.2 ([] : List Int) 0 a0_0 a0_1 a0_2 a0_3)) else (none))) else (none)) = some r := H
   have A8 := Aside0.mk A80
   clear A80; by_cases c9 : 5 + t343.size ≤ 9223372036854775807
   ·
    rw [if_pos c9] at H
    have c9b0 := eq_true c9
    (try (have c9b0s := eq_true c9; simp only [ByteArray.size_append, Int.natCast_add] at c9b0s))
    have c9b1 : decide (5 + t343.size ≤ 9223372036854775807) = true := decide_eq_true c9
    try have c9b2 : (9223372036854775807 < 5 + t343.size) = False := eq_false (Nat.not_lt.2 c9)
    replace H := Option.bind_eq_some_iff.mp H
    obtain ⟨t344, A100, H⟩ := H
    replace H : (if ((⟨#[111, 117, 116, 101, 114]⟩ : ByteArray) ++ t343).size + t344.size ≤ 9223372036854775807 then ((mosaicref04_Gen_Pick.f kj2 (((⟨#[111, 117, 116, 101, 114]⟩ : ByteArray) ++ t343) ++ t344) 0 a0_2 x5_2).bind fun bt346 => (mosaicref09_Joins.l0 kj2 bt346.2.2 ([] : List Int) 0 a0_0 a0_1 a0_2 a0_3)) else (none)) = some r := H
    have A10 := Aside0.mk A100
    clear A100; by_cases c11 : ((⟨#[111, 117, 116, 101, 114]⟩ : ByteArray) ++ t343).size + t344.size ≤ 9223372036854775807
    ·
     rw [if_pos c11] at H
     have c11b0 := eq_true c11
     (try (have c11b0s := eq_true c11; simp only [ByteArray.size_append, Int.natCast_add] at c11b0s))
     have c11b1 : decide (((⟨#[111, 117, 116, 101, 114]⟩ : ByteArray) ++ t343).size + t344.size ≤ 9223372036854775807) = true := decide_eq_true c11
     (try (have zl0_ : (⟨#[111, 117, 116, 101, 114]⟩ : ByteArray).size = 5 := rfl; have c11b1s := c11b1; simp only [ByteArray.size_append, Int.natCast_add, zl0_] at c11b1s; clear zl0_))
     (try (have zl0_ : (⟨#[111, 117, 116, 101, 114]⟩ : ByteArray).size = 5 := rfl; have c11b1r := c11b1; simp only [ByteArray.size_append, zl0_] at c11b1r; clear zl0_))
     try have c11b2 : (9223372036854775807 < ((⟨#[111, 117, 116, 101, 114]⟩ : ByteArray) ++ t343).size + t344.size) = False := eq_false (Nat.not_lt.2 c11)
     (try (have zl0_ : (⟨#[111, 117, 116, 101, 114]⟩ : ByteArray).size = 5 := rfl; have c11b2s := c11b2; simp only [ByteArray.size_append, Int.natCast_add, zl0_] at c11b2s; clear zl0_))
     (try (have zl0_ : (⟨#[111, 117, 116, 101, 114]⟩ : ByteArray).size = 5 := rfl; have c11b2r := c11b2; simp only [ByteArray.size_append, zl0_] at c11b2r; clear zl0_))
     replace H := Option.bind_eq_some_iff.mp H
     obtain ⟨⟨t346, t347, t348⟩, A120, H⟩ := H
     replace H : (mosaicref09_Joins.l0 kj2 t348 ([] : List Int) 0 a0_0 a0_1 a0_2 a0_3) = some r := H
     have A12 := Aside0.mk A120
     clear A120; have H' := Aside0.mk H
     clear H; obtain ⟨hcz13_0, hcz13_1, hcz13_2, hcz13_3⟩ := cZ4 BK342
     obtain ⟨hfz13_0, hfz13_1, hfz13_2, hfz13_3⟩ := dZ4 BK342; go_wp2_with (first | ((with_reducible refine gate_callee (f := 30) rfl ?_); refine goesL_ (some 20) rfl rfl Tryz.func30 (by kernel_rfl) rfl #[.int .i64 a0_0, .int .i64 7] rfl zM ?_; (with_reducible refine (mosaicref02_Num.calls kj2 a0_0 7 t343 _ A8.out).mono ?_); rintro e w14 ⟨rfl, hb⟩; refine ⟨_, rfl, ?_⟩; replace BK342 := Aside0.mk (blk_below (zk BK342) hb); replace HB := Aside0.mk (below_step zB hb); (try clear hb); (try clear hb2); (try clear hk); (try clear hi)) | ((with_reducible refine gate_callee (f := 30) rfl ?_); refine goesL_ (some 23) rfl rfl Tryz.func30 (by kernel_rfl) rfl #[.int .i64 a1, .int .i64 2] rfl zM ?_; (with_reducible refine (mosaicref02_Num.calls kj2 a1 2 t344 _ A10.out).mono ?_); rintro e w15 ⟨rfl, hb⟩; refine ⟨_, rfl, ?_⟩; replace BK342 := Aside0.mk (blk_below (zk BK342) hb); replace HB := Aside0.mk (below_step zB hb); (try clear hb); (try clear hb2); (try clear hk); (try clear hi)) | ((with_reducible refine gate_dst (N := 6) rfl ?_); refine box_event ?hg (N := 6) ?hd (cs := #[.string (⟨#[]⟩ : ByteArray), .int .i64 0]) (t := 56) ?hr ?_; (case hd => rfl); (case hg => rfl); (case hr => first | (go_simp; done) | (go_simp; rfl)); intro gb345 hg w16 hbox hb; have n0_ := Aside0.mk (blk_below (zk BK342) hb); have n1_ := Aside0.mk (below_step zB hb); have n2_ := Aside0.mk (hbox); have n3_ := Aside0.mk ((zg : w.heap.size ≤ gb345)); have n4_ := Aside0.mk ((zg : w.heap.size ≤ gb345)); have n5_ := Aside0.mk ((by rw [hg]; exact Nat.ne_of_lt (blk_lt (zk BK342)) : gb342 ≠ gb345)); have n6_ := Aside0.mk ((by rw [hg]; exact Nat.ne_of_gt (blk_lt (zk BK342)) : gb345 ≠ gb342)); clear BK342; clear HB; have BK342 := n0_; have HB := n1_; have BK345 := n2_; have GW345 := n3_; have GE345 := n4_; have NB342_345 := n5_; have NB345_342 := n6_; clear n0_ n1_ n2_ n3_ n4_ n5_ n6_; clear hb hbox hg; have hnb17 := NB345_342.out; have hnc17 := NB342_345.out; obtain ⟨hcz18_0, hcz18_1⟩ := cZ2 BK345; obtain ⟨hfz18_0, hfz18_1⟩ := dZ2 BK345; obtain ⟨hcz19_0, hcz19_1, hcz19_2, hcz19_3⟩ := cZ4 BK342; obtain ⟨hfz19_0, hfz19_1, hfz19_2, hfz19_3⟩ := dZ4 BK342) | ((with_reducible refine gate_callee (f := 31) rfl ?_); refine goesL_ (some 30) rfl rfl Tryz.func31 (by kernel_rfl) rfl #[.agg #[.string (((⟨#[111, 117, 116, 101, 114]⟩ : ByteArray) ++ t343) ++ t344), .int .i64 0], .int .i64 a0_2, .int .i64 x5_2] rfl zM ?_; (with_reducible refine (mosaicref04_Gen_Pick.calls kj2 (((⟨#[111, 117, 116, 101, 114]⟩ : ByteArray) ++ t343) ++ t344) 0 a0_2 x5_2 t346 t347 t348 _ A12.out).mono ?_); rintro e w20 ⟨v349, rfl, ho0, hb⟩; refine ⟨_, rfl, ?_⟩; have HO350 := Aside0.mk (Kd.R_lower ho0 (below_size zB)); replace BK342 := Aside0.mk (blk_below (g := gb342) (o := .cells #[.int .i64 a0_0, .int .i64 a0_1, .int .i64 a0_2, .int .i64 a0_3] 24 (0, 0)) (by (with_reducible repeat (first | refine blk_drewN ?_ _ | refine blk_drew ?_ | refine blk_alloc ?_ _)); refine blk_far ?_ NB342_345.out _; (with_reducible repeat (first | refine blk_drewN ?_ _ | refine blk_drew ?_ | refine blk_alloc ?_ _)); refine blk_far ?_ NB342_345.out _; (with_reducible repeat (first | refine blk_drewN ?_ _ | refine blk_drew ?_ | refine blk_alloc ?_ _)); exact BK342.out) hb); replace BK345 := Aside0.mk (blk_below (g := gb345) (o := .cells #[.string (((⟨#[111, 117, 116, 101, 114]⟩ : ByteArray) ++ t343) ++ t344), .int .i64 0] 56 (0, 0)) (by (with_reducible repeat (first | refine blk_drewN ?_ _ | refine blk_drew ?_ | refine blk_alloc ?_ _)); refine blk_put (cs := #[.string (((⟨#[111, 117, 116, 101, 114]⟩ : ByteArray) ++ t343) ++ t344), .int .i64 0]) ?_ 1 _ rfl; (with_reducible repeat (first | refine blk_drewN ?_ _ | refine blk_drew ?_ | refine blk_alloc ?_ _)); refine blk_put (cs := #[.string (⟨#[]⟩ : ByteArray), .int .i64 0]) ?_ 0 _ rfl; (with_reducible repeat (first | refine blk_drewN ?_ _ | refine blk_drew ?_ | refine blk_alloc ?_ _)); exact BK345.out) hb); replace HB := Aside0.mk (below_step zB hb); (try clear hb); (try clear hb2); (try clear hk); (try clear hi); (try clear ho0)))
     go_loopg [8, 9] kj2 (fun kq v8 v9 w' => ∃ (x8_2 : List Int) (x9_2 : Int), v9 = .int .i64 x9_2 ∧ Aside0 (mosaicref09_Joins.l0 kq t348 x8_2 x9_2 a0_0 a0_1 a0_2 a0_3 = some r) ∧ Aside0 (kq ≤ kj2) ∧ Aside0 (Kd.R (Kd.int .i64) 3 w' w.heap.size (fun k_ => some k_ ≠ (v8 : Value).ownBlock) v349 t348) ∧ Aside0 (Kd.R (Kd.int .i64) 3 w' w.heap.size (fun k_ => some k_ ≠ (v349 : Value).ownBlock) v8 x8_2) ∧ Aside0 (w'.heap[gb342]? = some (.cells #[.int .i64 a0_0, .int .i64 a0_1, .int .i64 a0_2, .int .i64 a0_3] 24 (0, 0))) ∧ Aside0 (w'.heap[gb345]? = some (.cells #[.string (((⟨#[111, 117, 116, 101, 114]⟩ : ByteArray) ++ t343) ++ t344), .int .i64 0] 56 (0, 0))) ∧ Aside0 (Below w.heap.size w w'))
     case atStart => exact ⟨(([] : List Int)), (0), zF, H', ⟨Nat.le_refl _⟩, ⟨by (with_reducible repeat (first | apply Kd.R_alloc | apply Kd.R_drewN | apply Kd.R_drew)); exact Kd.R_mono HO350.out (fun _ hk => (by simp [Value.ownBlock]))⟩, ⟨by first | exact Kd.R_nil _ _ _ _ _ | exact Kd.N_nil _ _ _ _ _ | exact Kd.V_nil _ _ _ _ _ | exact Kd.Q_nil _ _ _ _ _ | exact Kd.S_nil _ _ _ _ _⟩, ⟨zk BK342⟩, ⟨zk BK345⟩, ⟨zB⟩⟩
     case round =>
      clear H'
      (try clear c1); (try clear p2); (try clear c3); (try clear c6); (try clear c6b0); (try clear c9); (try clear c9b0); (try clear c9b1); (try clear c9b2); (try clear c11); (try clear c11b0); (try clear c11b1); (try clear c11b2); (try clear c14); (try clear c17); (try clear hcz13_0); (try clear hcz13_1); (try clear hcz13_2); (try clear hcz13_3); (try clear hcz18_0); (try clear hcz18_1); (try clear hcz19_0); (try clear hcz19_1); (try clear hcz19_2); (try clear hcz19_3); (try clear hcz5_0); (try clear hcz5_1); (try clear hcz5_2); (try clear hcz5_3); (try clear hcz7_0); (try clear hcz7_1); (try clear hcz7_2); (try clear hcz7_3); (try clear hfz13_0); (try clear hfz13_1); (try clear hfz13_2); (try clear hfz13_3); (try clear hfz18_0); (try clear hfz18_1); (try clear hfz19_0); (try clear hfz19_1); (try clear hfz19_2); (try clear hfz19_3); (try clear hfz5_0); (try clear hfz5_1); (try clear hfz5_2); (try clear hfz5_3); (try clear hfz7_0); (try clear hfz7_1); (try clear hfz7_2); (try clear hfz7_3); (try clear p2); obtain ⟨x8_2, x9_2, rfl, HA, HK2, HO_7, HO_8, BK342, BK345, HB⟩ := hrel
      cases gk with
      | zero => exact absurd HA.out (by simp [mosaicref09_Joins.l0])
      | succ k2 =>
       have H := HA.out; clear HA; simp only [mosaicref09_Joins.l0] at H
       by_cases c21 : x9_2 < a0_2
       ·
        rw [if_pos c21] at H
        have c21b0 : decide (x9_2 < a0_2) = true := decide_eq_true c21
        clear c21; replace H := Option.bind_eq_some_iff.mp H
        obtain ⟨t351, A220, H⟩ := H
        replace H : (if t351 = true then (if x8_2.length < 17592186044416 then (mosaicref09_Joins.l0 k2 t348 (x8_2 ++ [x9_2]) (wrap64 (x9_2 + 1)) a0_0 a0_1 a0_2 a0_3) else (none)) else (mosaicref09_Joins.l0 k2 t348 x8_2 (wrap64 (x9_2 + 1)) a0_0 a0_1 a0_2 a0_3)) = some r := H
        have A22 := Aside0.mk A220
        clear A220; by_cases c23 : t351 = true
        ·
         subst c23
         have H1 : (if x8_2.length < 17592186044416 then (mosaicref09_Joins.l0 k2 t348 (x8_2 ++ [x9_2]) (wrap64 (x9_2 + 1)) a0_0 a0_1 a0_2 a0_3) else (none)) = some r := by rw [if_pos rfl] at H; exact H
         clear H; have H := H1; clear H1; by_cases c24 : x8_2.length < 17592186044416
         ·
          rw [if_pos c24] at H
          have LMc24 := Aside0.mk c24
          clear c24; obtain ⟨y352, hy352⟩ : ∃ y_ : List Int, y_ = (x8_2 ++ [x9_2]) := ⟨_, rfl⟩
          replace H : (mosaicref09_Joins.l0 k2 t348 y352 (wrap64 (x9_2 + 1)) a0_0 a0_1 a0_2 a0_3) = some r := by first | (rw [hy352]; with_reducible exact H) | (have H2_ := (Option.bind_some _ _).symm.trans H; rw [hy352]; with_reducible exact H2_) | (have H2_ := (Option.bind_some _ _).symm.trans H; with_reducible exact H2_) | with_reducible exact H | (rw [hy352]; exact H) | exact H
          have Ny352 := Aside0.mk hy352
          clear hy352; have H' := Aside0.mk H
          clear H; have hnb25 := NB342_345.out; have hnc25 := NB345_342.out; obtain ⟨hcz26_0, hcz26_1, hcz26_2, hcz26_3⟩ := cZ4 BK342
          obtain ⟨hfz26_0, hfz26_1, hfz26_2, hfz26_3⟩ := dZ4 BK342; obtain ⟨Ao27, co27, eo27⟩ := Kd.R_slice HO_7.out
          subst eo27
          go_wp2_with (first | ((with_reducible refine gate_callee (f := 32) rfl ?_); refine goesL_ (some 40) rfl rfl Tryz.func32 (by kernel_rfl) rfl #[.slice Ao27 t348.length co27, .int .i64 x9_2] rfl zM ?_; (with_reducible refine (mosaicref09_Has.calls k2 _ _ t348 x9_2 true _ ?side1 ?side2 A22.out).mono ?_); (case side1 => repeat (first | exact (Kd.R_reads' HO_7.out).2.2 | (with_reducible refine Kd.C_alloc ?_ _) | (with_reducible refine Kd.C_drewN ?_ _) | (with_reducible refine Kd.C_drew ?_))); (case side2 => exact (Kd.R_reads' HO_7.out).2.1); rintro e w' ⟨rfl, ⟨nd, rfl⟩⟩; refine ⟨_, rfl, ?_⟩) | ((with_reducible refine gate_builtin (b := .append) (xs := #[.tmp 41, .tmp 43]) rfl ?_); at_builtin; refine Kd.R_append (Kd.int .i64) (w0 := w) w.heap.size rfl (.tmp 41) (.tmp 43) 26 3 (.int .i64 0) 8 rfl Tryz.underlying26 info3 rfl (by decide) (by omega) u8 x8_2 x9_2 [.int .i64 x9_2] (fun k_ => some k_ ≠ (.slice Ao27 t348.length co27 : Value).ownBlock) (fun _ => False) rfl rfl ?aP (fun _ hk => hk.elim) ?aF ?aO ?aB ?aS ?aL ?_; (case aP => exact rfl); (case aB => exact zB); (case aF => exact (fun k_ hk => Kd.fresh' (Kd.R_lt (by (with_reducible repeat (first | apply Kd.R_alloc | apply Kd.R_drewN | apply Kd.R_drew)); exact HO_7.out)) k_ hk)); (case aO => exact (by (with_reducible repeat (first | apply Kd.R_alloc | apply Kd.R_drewN | apply Kd.R_drew)); exact HO_8.out)); (case aS => exact (below_size zB)); (case aL => have := LMc24.out; omega); intro v353 w28 ho hb hg hat; rw [← Ny352.out] at ho; replace HO_7 := Aside0.mk (Kd.R_after (ok := (fun _ => True)) (by (with_reducible repeat (first | apply Kd.R_alloc | apply Kd.R_drewN | apply Kd.R_drew)); exact Kd.R_mono HO_7.out (fun _ hk => ⟨trivial, hk⟩)) hg hat); replace BK342 := Aside0.mk (blk_grown (zk BK342) hg (Kd.R_ne HO_8.out BK342.out (by decide))); replace BK345 := Aside0.mk (blk_grown (zk BK345) hg (Kd.R_ne HO_8.out BK345.out (by decide))); have HO354 := Aside0.mk (ho); replace HB := Aside0.mk (hb); clear HO_8; clear ho hb hg hat))
          go_roundg k2
          case measure => have := HJ2.out; have := HK2.out; omega
          case rel => exact ⟨(y352), (wrap64 (x9_2 + 1)), zF, H', ⟨by have := HJ2.out; have := HK2.out; omega⟩, ⟨by (with_reducible repeat (first | apply Kd.R_alloc | apply Kd.R_drewN | apply Kd.R_drew)); exact Kd.R_mono HO_7.out (fun _ hk => hk.2)⟩, ⟨zR HO354⟩, ⟨zk BK342⟩, ⟨zk BK345⟩, ⟨zB⟩⟩
         ·
          rw [if_neg c24] at H
          exact absurd H (by simp)
        ·
         replace c23 := Bool.eq_false_iff.mpr c23
         subst c23
         have H1 : (mosaicref09_Joins.l0 k2 t348 x8_2 (wrap64 (x9_2 + 1)) a0_0 a0_1 a0_2 a0_3) = some r := by rw [if_neg (show ¬ (false = true) by decide)] at H; exact H
         clear H; have H := H1; clear H1; have H' := Aside0.mk H
         clear H; have hnb29 := NB342_345.out; have hnc29 := NB345_342.out; obtain ⟨hcz30_0, hcz30_1, hcz30_2, hcz30_3⟩ := cZ4 BK342
         obtain ⟨hfz30_0, hfz30_1, hfz30_2, hfz30_3⟩ := dZ4 BK342; obtain ⟨Ao31, co31, eo31⟩ := Kd.R_slice HO_7.out
         subst eo31
         go_wp2_with (first | ((with_reducible refine gate_callee (f := 32) rfl ?_); refine goesL_ (some 40) rfl rfl Tryz.func32 (by kernel_rfl) rfl #[.slice Ao31 t348.length co31, .int .i64 x9_2] rfl zM ?_; (with_reducible refine (mosaicref09_Has.calls k2 _ _ t348 x9_2 false _ ?side1 ?side2 A22.out).mono ?_); (case side1 => repeat (first | exact (Kd.R_reads' HO_7.out).2.2 | (with_reducible refine Kd.C_alloc ?_ _) | (with_reducible refine Kd.C_drewN ?_ _) | (with_reducible refine Kd.C_drew ?_))); (case side2 => exact (Kd.R_reads' HO_7.out).2.1); rintro e w' ⟨rfl, ⟨nd, rfl⟩⟩; refine ⟨_, rfl, ?_⟩))
         go_roundg k2
         case measure => have := HJ2.out; have := HK2.out; omega
         case rel => exact ⟨(x8_2), (wrap64 (x9_2 + 1)), zF, H', ⟨by have := HJ2.out; have := HK2.out; omega⟩, ⟨zR HO_7⟩, ⟨zR HO_8⟩, ⟨zk BK342⟩, ⟨zk BK345⟩, ⟨zB⟩⟩
       ·
        rw [if_neg c21] at H
        have c21b0 : decide (x9_2 < a0_2) = false := decide_eq_false c21
        clear c21; obtain rfl := Option.some.inj H
        have hnb32 := NB342_345.out; have hnc32 := NB345_342.out; obtain ⟨hcz33_0, hcz33_1, hcz33_2, hcz33_3⟩ := cZ4 BK342
        obtain ⟨hfz33_0, hfz33_1, hfz33_2, hfz33_3⟩ := dZ4 BK342; go_wp2
        go_ret
        exact ⟨_, zE, by (with_reducible repeat (first | apply Kd.R_alloc | apply Kd.R_drewN | apply Kd.R_drew)); exact Kd.R_mono HO_8.out (fun _ hk => trivial), zB⟩
    ·
     rw [if_neg c11] at H
     exact absurd H (by simp)
   ·
    rw [if_neg c9] at H
    exact absurd H (by simp)
/-! ### mosaicref09_Table: function 34 -/
def mosaicref09_Table.l0 : Nat → List (List Int) → Int → Int → Int → Int → Int → Option ((List (List Int)))
 | 0, _, _, _, _, _, _ => none
 | k + 1, x3, x4, x356000, x356001, x356002, x356003 => if x4 < x356001 then ((mosaicref09_Joins.f k x356000 x356001 x356002 x356003 x4).bind fun t356 => (if x3.length < 5864062014805 then (mosaicref09_Table.l0 k (x3 ++ [t356]) (wrap64 (x4 + 1)) x356000 x356001 x356002 x356003) else (none))) else (some x3)
def mosaicref09_Table.f (k : Nat) (a0_0 : Int) (a0_1 : Int) (a0_2 : Int) (a0_3 : Int) : Option ((List (List Int))) := mosaicref09_Table.l0 k ([] : List (List Int)) 0 a0_0 a0_1 a0_2 a0_3
theorem mosaicref09_Table.mono_l : ∀ k, (∀ y0 y1 y2 y3 y4 y5, LeO (mosaicref09_Table.l0 k y0 y1 y2 y3 y4 y5) (mosaicref09_Table.l0 (k + 1) y0 y1 y2 y3 y4 y5))
 | 0 => fun _ _ _ _ _ _ r h => by simp [mosaicref09_Table.l0] at h
 | k + 1 => by
  have ih0 := mosaicref09_Table.mono_l k
  ·
   intro y0 y1 y2 y3 y4 y5
   unfold mosaicref09_Table.l0
   repeat' first
   | (with_reducible exact ih0 _ _ _ _ _ _)
   | (with_reducible exact mosaicref09_Joins.mono _ _ _ _ _ _)
   | (with_reducible exact LeO.refl _)
   | (with_reducible exact LeO.none _)
   | (with_reducible refine LeO.ite ?_ ?_)
   | (with_reducible refine LeO.bind ?_ (fun _ => ?_))
   | exact ih0 _ _ _ _ _ _
   | exact mosaicref09_Joins.mono _ _ _ _ _ _
   | exact LeO.none _
   | refine LeO.ite ?_ ?_
   | refine LeO.bind ?_ (fun _ => ?_)
theorem mosaicref09_Table.mono : ∀ a0 a1 a2 a3 k, LeO (mosaicref09_Table.f k a0 a1 a2 a3) (mosaicref09_Table.f (k + 1) a0 a1 a2 a3) := by
 intro a0 a1 a2 a3 k
 have ih0 := mosaicref09_Table.mono_l k
 unfold mosaicref09_Table.f
 repeat' first
   | (with_reducible exact ih0 _ _ _ _ _ _)
   | (with_reducible exact mosaicref09_Joins.mono _ _ _ _ _ _)
   | (with_reducible exact LeO.refl _)
   | (with_reducible exact LeO.none _)
   | (with_reducible refine LeO.ite ?_ ?_)
   | (with_reducible refine LeO.bind ?_ (fun _ => ?_))
   | exact ih0 _ _ _ _ _ _
   | exact mosaicref09_Joins.mono _ _ _ _ _ _
   | exact LeO.none _
   | refine LeO.ite ?_ ?_
   | refine LeO.bind ?_ (fun _ => ?_)
set_option maxHeartbeats 8000000 in
set_option maxRecDepth 100000 in
theorem mosaicref09_Table.calls (k : Nat) (a0_0 : Int) (a0_1 : Int) (a0_2 : Int) (a0_3 : Int) (r : List (List Int)) (w : World) (h : mosaicref09_Table.f k a0_0 a0_1 a0_2 a0_3 = some r) :
  Calls Tryz.prog 34 #[.agg #[.int .i64 a0_0, .int .i64 a0_1, .int .i64 a0_2, .int .i64 a0_3]] w fun e w' => ∃ v0_ : Value, e = .returned (v0_) ∧ Kd.S (Kd.slice 3 (Kd.int .i64)) 26 w' w.heap.size (fun _ => True) v0_ r ∧ Below w.heap.size w w' := by
 have hu24 := Tryz.underlying24; have HB := Aside0.mk (Below.refl w.heap.size w)
 have H : (mosaicref09_Table.l0 k ([] : List (List Int)) 0 a0_0 a0_1 a0_2 a0_3) = some r := h
 clear h; have H' := Aside0.mk H
 clear H; go_enter Tryz.func34, Tryz.ntmps34
 go_wp2_with (first | ((with_reducible refine gate_dst (N := 1) rfl ?_); refine box_event ?hg (N := 1) ?hd (cs := #[.int .i64 a0_0, .int .i64 a0_1, .int .i64 a0_2, .int .i64 a0_3]) (t := 24) ?hr ?_; (case hd => rfl); (case hg => rfl); (case hr => first | (go_simp; done) | (go_simp; rfl)); intro gb355 hg w2 hbox hb; have BK355 := Aside0.mk (hbox); have GW355 := Aside0.mk ((zg : w.heap.size ≤ gb355)); have GE355 := Aside0.mk ((zg : w.heap.size ≤ gb355)); replace HB := Aside0.mk (below_step zB hb); clear hb hbox hg))
 go_loopg [3, 4] k (fun kq v3 v4 w' => ∃ (x3_1 : List (List Int)) (x4_1 : Int), v4 = .int .i64 x4_1 ∧ Aside0 (mosaicref09_Table.l0 kq x3_1 x4_1 a0_0 a0_1 a0_2 a0_3 = some r) ∧ Aside0 (kq ≤ k) ∧ Aside0 (Kd.S (Kd.slice 3 (Kd.int .i64)) 26 w' w.heap.size (fun _ => True) v3 x3_1) ∧ Aside0 (w'.heap[gb355]? = some (.cells #[.int .i64 a0_0, .int .i64 a0_1, .int .i64 a0_2, .int .i64 a0_3] 24 (0, 0))) ∧ Aside0 (Below w.heap.size w w'))
 case atStart => exact ⟨(([] : List (List Int))), (0), zF, H', ⟨Nat.le_refl _⟩, ⟨by first | exact Kd.S_nil _ _ _ _ _ | exact Kd.N_nil _ _ _ _ _ | exact Kd.V_nil _ _ _ _ _ | exact Kd.Q_nil _ _ _ _ _ | exact Kd.R_nil _ _ _ _ _⟩, ⟨zk BK355⟩, ⟨zB⟩⟩
 case round =>
  clear H'
  (try clear p2); obtain ⟨x3_1, x4_1, rfl, HA, HK1, HO_3, BK355, HB⟩ := hrel
  cases gk with
  | zero => exact absurd HA.out (by simp [mosaicref09_Table.l0])
  | succ k1 =>
   have H := HA.out; clear HA; simp only [mosaicref09_Table.l0] at H
   by_cases c3 : x4_1 < a0_1
   ·
    rw [if_pos c3] at H
    have c3b0 : decide (x4_1 < a0_1) = true := decide_eq_true c3
    clear c3; replace H := Option.bind_eq_some_iff.mp H
    obtain ⟨t356, A40, H⟩ := H
    replace H : (if x3_1.length < 5864062014805 then (mosaicref09_Table.l0 k1 (x3_1 ++ [t356]) (wrap64 (x4_1 + 1)) a0_0 a0_1 a0_2 a0_3) else (none)) = some r := H
    have A4 := Aside0.mk A40
    clear A40; by_cases c5 : x3_1.length < 5864062014805
    ·
     rw [if_pos c5] at H
     have LMc5 := Aside0.mk c5
     clear c5; obtain ⟨y359, hy359⟩ : ∃ y_ : List (List Int), y_ = (x3_1 ++ [t356]) := ⟨_, rfl⟩
     replace H : (mosaicref09_Table.l0 k1 y359 (wrap64 (x4_1 + 1)) a0_0 a0_1 a0_2 a0_3) = some r := by first | (rw [hy359]; with_reducible exact H) | (have H2_ := (Option.bind_some _ _).symm.trans H; rw [hy359]; with_reducible exact H2_) | (have H2_ := (Option.bind_some _ _).symm.trans H; with_reducible exact H2_) | with_reducible exact H | (rw [hy359]; exact H) | exact H
     have Ny359 := Aside0.mk hy359
     clear hy359; have H' := Aside0.mk H
     clear H; obtain ⟨hcz6_0, hcz6_1, hcz6_2, hcz6_3⟩ := cZ4 BK355
     obtain ⟨hfz6_0, hfz6_1, hfz6_2, hfz6_3⟩ := dZ4 BK355; go_wp2_with (first | ((with_reducible refine gate_callee (f := 14) rfl ?_); refine goesL_ (some 14) rfl rfl Tryz.func14 (by kernel_rfl) rfl #[.agg #[.int .i64 a0_0, .int .i64 a0_1, .int .i64 a0_2, .int .i64 a0_3], .int .i64 x4_1] rfl zM ?_; (with_reducible refine (mosaicref09_Joins.calls k1 a0_0 a0_1 a0_2 a0_3 x4_1 t356 _ A4.out).mono ?_); rintro e w7 ⟨v357, rfl, ho0, hb⟩; refine ⟨_, rfl, ?_⟩; replace HO_3 := Aside0.mk (Kd.S_elder' (by (with_reducible repeat (first | apply Kd.S_alloc | apply Kd.S_drewN | apply Kd.S_drew)); exact HO_3.out) (Kd.R_base ho0) hb); have HO358 := Aside0.mk (Kd.R_lower ho0 (below_size zB)); replace BK355 := Aside0.mk (blk_below (zk BK355) hb); replace HB := Aside0.mk (below_step zB hb); (try clear hb); (try clear hb2); (try clear hk); (try clear hi); (try clear ho0); obtain ⟨Ao9, co9, eo9⟩ := Kd.R_slice HO358.out; subst eo9) | ((with_reducible refine gate_builtin (b := .append) (xs := #[.tmp 11, .tmp 15]) rfl ?_); at_builtin; refine Kd.S_append (Kd.slice 3 (Kd.int .i64)) (w0 := w) w.heap.size rfl (.tmp 11) (.tmp 15) 30 26 (.slice none 0 0) 24 rfl Tryz.underlying30 info26 rfl (by decide) (by omega) u3 x3_1 t356 [.slice Ao9 t356.length co9] (fun _ => True) (fun k_ => some k_ = (.slice Ao9 t356.length co9 : Value).ownBlock) rfl rfl ?aP (fun k_ hk_ => ((Kd.R_mono (ok' := fun k_ => ((fun _ => True)) k_ ∧ some k_ ≠ (u3 : Value).ownBlock) (Kd.R_apart' (HO358.out) (Kd.S_typed HO_3.out) (by decide)) (fun k_ hk => ⟨trivial, hk.2⟩))).1 k_ hk_.symm) ?aF ?aO ?aB ?aS ?aL ?_; (case aP => exact Kd.M_row (Kd.R_mono (Kd.R_tight rfl (Kd.R_mono (ok' := fun k_ => ((fun _ => True)) k_ ∧ some k_ ≠ (u3 : Value).ownBlock) (Kd.R_apart' (HO358.out) (Kd.S_typed HO_3.out) (by decide)) (fun k_ hk => ⟨trivial, hk.2⟩))) (fun _ h_ => h_))); (case aB => exact zB); (case aF => exact (fun _ _ => trivial)); (case aO => exact (by (with_reducible repeat (first | apply Kd.S_alloc | apply Kd.S_drewN | apply Kd.S_drew)); exact Kd.S_mono HO_3.out (fun k_ hk => ⟨trivial, fun e_ => hk.2 e_⟩))); (case aS => exact (below_size zB)); (case aL => have := LMc5.out; omega); intro v360 w8 ho hb hg hat; rw [← Ny359.out] at ho; replace BK355 := Aside0.mk (blk_grown (zk BK355) hg (Kd.S_ne HO_3.out BK355.out (by decide))); have HO361 := Aside0.mk (ho); replace HB := Aside0.mk (hb); clear HO_3 HO358; clear ho hb hg hat))
     go_roundg k1
     case measure => have := HK1.out; omega
     case rel => exact ⟨(y359), (wrap64 (x4_1 + 1)), zF, H', ⟨by have := HK1.out; omega⟩, ⟨zS HO361⟩, ⟨zk BK355⟩, ⟨zB⟩⟩
    ·
     rw [if_neg c5] at H
     exact absurd H (by simp)
   ·
    rw [if_neg c3] at H
    have c3b0 : decide (x4_1 < a0_1) = false := decide_eq_false c3
    clear c3; obtain rfl := Option.some.inj H
    obtain ⟨hcz10_0, hcz10_1, hcz10_2, hcz10_3⟩ := cZ4 BK355
    obtain ⟨hfz10_0, hfz10_1, hfz10_2, hfz10_3⟩ := dZ4 BK355; go_wp2
    go_ret
    exact ⟨_, zE, by (with_reducible repeat (first | apply Kd.S_alloc | apply Kd.S_drewN | apply Kd.S_drew)); exact HO_3.out, zB⟩
/-! ### mosaicref07_May: function 60 -/
def mosaicref07_May.f (a0 : Int) : Option (Bool) := if a0 ≥ 1 then (some (decide (a0 ≤ 64))) else (some false)
set_option maxHeartbeats 8000000 in
set_option maxRecDepth 100000 in
theorem mosaicref07_May.calls (a0 : Int) (r : Bool) (w : World) (h : mosaicref07_May.f a0 = some r) :
  Calls Tryz.prog 60 #[.int .i64 a0] w fun e w' => e = .returned (.bool r) ∧ Drawn0 w w' := by
 have H : (if a0 ≥ 1 then (some (decide (a0 ≤ 64))) else (some false)) = some r := h
 clear h; by_cases c2 : a0 ≥ 1
 ·
  rw [if_pos c2] at H
  have c2b0 : decide (1 ≤ a0) = true := decide_eq_true c2
  clear c2; obtain rfl := Option.some.inj H
  go_enter Tryz.func60, Tryz.ntmps60
  go_wp2
  go_ret
  exact ⟨by first | rfl | (simp; done) | (simp [*]; done), by repeat (first | exact Drawn0.refl _ | apply Drawn0.step)⟩
 ·
  rw [if_neg c2] at H
  have c2b0 : decide (1 ≤ a0) = false := decide_eq_false c2
  clear c2; obtain rfl := Option.some.inj H
  go_enter Tryz.func60, Tryz.ntmps60
  go_wp2
  go_ret
  exact ⟨by first | rfl | (simp; done) | (simp [*]; done), by repeat (first | exact Drawn0.refl _ | apply Drawn0.step)⟩
end Go.Proofs.YtghhmnjkgnoogaaGreat.POuterWholes
