-- Written by this session's own program (wip/tools/mkprint.py) over the kit's printer, with overrides.
import Derived.Test.YtehnebddmbdnhaaTWireAparta
import Derived.Test.YtehnebddmbdnhaaQWireApartx0
namespace Go.Proofs.Ytehnebddmbdnhaa.PWireApart
open Go.RowKit Go.Mine Go.Proofs.YtehnebddmbdnhaaW.PrintWords Go.Proofs.YtehnebddmbdnhaaW.PrintLast Go.Proofs.YtehnebddmbdnhaaW.PrintMore
attribute [local go_sem] max2_int min2_int max_two min_two max_three min_three max_four min_four   -- for this text's walks alone
set_option linter.unusedVariables false
set_option linter.unusedSimpArgs false
/-! ### mosaiclaw16_Few: function 7 -/
mutual
def mosaiclaw16_Few.j0 : Nat → Bool → Int → Int → Int → ByteArray → ByteArray → Bool → Int → Int → ByteArray → ByteArray → Int → ByteArray → List ByteArray → Int → Int → Int → Int → Int → Int → Int → ByteArray → Option (Bool)
 | 0, _, _, _, _, _, _, _, _, _, _, _, _, _, _, _, _, _, _, _, _, _, _ => none
 | k + 1, x45, x102000, x102001, x102002, x102003, x102004, x102005, x102006, x102007, x102008, x102009, x102010, x102011, x102012, x102013, x102014, x102015, x102016, x102017, x102018, x102019, x102020 => if x45 = true then (some false) else (mosaiclaw16_Few.l0 k 0 x102000 x102001 x102002 x102003 x102004 x102005 x102006 x102007 x102008 x102009 x102010 x102011 x102012 x102013 x102014 x102015 x102016 x102017 x102018 x102019 x102020)
def mosaiclaw16_Few.l0 : Nat → Int → Int → Int → Int → ByteArray → ByteArray → Bool → Int → Int → ByteArray → ByteArray → Int → ByteArray → List ByteArray → Int → Int → Int → Int → Int → Int → Int → ByteArray → Option (Bool)
 | 0, _, _, _, _, _, _, _, _, _, _, _, _, _, _, _, _, _, _, _, _, _, _ => none
 | k + 1, x3, x102000, x102001, x102002, x102003, x102004, x102005, x102006, x102007, x102008, x102009, x102010, x102011, x102012, x102013, x102014, x102015, x102016, x102017, x102018, x102019, x102020 => if x3 < (x102012.length : Int) then (if 0 ≤ x3 then (if ((rdOf ByteArray.empty x102012 x3).size : Int) > 100 then (some false) else (mosaiclaw16_Few.l0 k (wrap64 (x3 + 1)) x102000 x102001 x102002 x102003 x102004 x102005 x102006 x102007 x102008 x102009 x102010 x102011 x102012 x102013 x102014 x102015 x102016 x102017 x102018 x102019 x102020)) else (none)) else (some true)
end
def mosaiclaw16_Few.f (k : Nat) (a0_0 : Int) (a0_1 : Int) (a0_2 : Int) (a0_3 : ByteArray) (a0_4 : ByteArray) (a0_5 : Bool) (a0_6 : Int) (a0_7 : Int) (a0_8 : ByteArray) (a0_9 : ByteArray) (a0_10 : Int) (a0_11 : ByteArray) (l0_12 : List ByteArray) (a0_13 : Int) (a0_14 : Int) (a0_15 : Int) (a0_16 : Int) (a0_17 : Int) (a0_18 : Int) (a0_19 : Int) (a0_20 : ByteArray) : Option (Bool) := if (a0_3.size : Int) > 100 then (mosaiclaw16_Few.j0 k true a0_0 a0_1 a0_2 a0_3 a0_4 a0_5 a0_6 a0_7 a0_8 a0_9 a0_10 a0_11 l0_12 a0_13 a0_14 a0_15 a0_16 a0_17 a0_18 a0_19 a0_20) else (if (a0_4.size : Int) > 100 then (mosaiclaw16_Few.j0 k true a0_0 a0_1 a0_2 a0_3 a0_4 a0_5 a0_6 a0_7 a0_8 a0_9 a0_10 a0_11 l0_12 a0_13 a0_14 a0_15 a0_16 a0_17 a0_18 a0_19 a0_20) else (if (a0_8.size : Int) > 100 then (mosaiclaw16_Few.j0 k true a0_0 a0_1 a0_2 a0_3 a0_4 a0_5 a0_6 a0_7 a0_8 a0_9 a0_10 a0_11 l0_12 a0_13 a0_14 a0_15 a0_16 a0_17 a0_18 a0_19 a0_20) else (if (a0_9.size : Int) > 100 then (mosaiclaw16_Few.j0 k true a0_0 a0_1 a0_2 a0_3 a0_4 a0_5 a0_6 a0_7 a0_8 a0_9 a0_10 a0_11 l0_12 a0_13 a0_14 a0_15 a0_16 a0_17 a0_18 a0_19 a0_20) else (if (a0_11.size : Int) > 100 then (mosaiclaw16_Few.j0 k true a0_0 a0_1 a0_2 a0_3 a0_4 a0_5 a0_6 a0_7 a0_8 a0_9 a0_10 a0_11 l0_12 a0_13 a0_14 a0_15 a0_16 a0_17 a0_18 a0_19 a0_20) else (if (l0_12.length : Int) > 12 then (mosaiclaw16_Few.j0 k true a0_0 a0_1 a0_2 a0_3 a0_4 a0_5 a0_6 a0_7 a0_8 a0_9 a0_10 a0_11 l0_12 a0_13 a0_14 a0_15 a0_16 a0_17 a0_18 a0_19 a0_20) else (mosaiclaw16_Few.j0 k (decide ((a0_20.size : Int) > 100)) a0_0 a0_1 a0_2 a0_3 a0_4 a0_5 a0_6 a0_7 a0_8 a0_9 a0_10 a0_11 l0_12 a0_13 a0_14 a0_15 a0_16 a0_17 a0_18 a0_19 a0_20))))))
theorem mosaiclaw16_Few.mono_l : ∀ k, (∀ y0 y1 y2 y3 y4 y5 y6 y7 y8 y9 y10 y11 y12 y13 y14 y15 y16 y17 y18 y19 y20 y21, LeO (mosaiclaw16_Few.j0 k y0 y1 y2 y3 y4 y5 y6 y7 y8 y9 y10 y11 y12 y13 y14 y15 y16 y17 y18 y19 y20 y21) (mosaiclaw16_Few.j0 (k + 1) y0 y1 y2 y3 y4 y5 y6 y7 y8 y9 y10 y11 y12 y13 y14 y15 y16 y17 y18 y19 y20 y21)) ∧ (∀ y0 y1 y2 y3 y4 y5 y6 y7 y8 y9 y10 y11 y12 y13 y14 y15 y16 y17 y18 y19 y20 y21, LeO (mosaiclaw16_Few.l0 k y0 y1 y2 y3 y4 y5 y6 y7 y8 y9 y10 y11 y12 y13 y14 y15 y16 y17 y18 y19 y20 y21) (mosaiclaw16_Few.l0 (k + 1) y0 y1 y2 y3 y4 y5 y6 y7 y8 y9 y10 y11 y12 y13 y14 y15 y16 y17 y18 y19 y20 y21))
 | 0 => ⟨fun _ _ _ _ _ _ _ _ _ _ _ _ _ _ _ _ _ _ _ _ _ _ r h => by simp [mosaiclaw16_Few.j0] at h, fun _ _ _ _ _ _ _ _ _ _ _ _ _ _ _ _ _ _ _ _ _ _ r h => by simp [mosaiclaw16_Few.l0] at h⟩
 | k + 1 => by
  obtain ⟨ih0, ih1⟩ := mosaiclaw16_Few.mono_l k
  refine ⟨?_, ?_⟩ <;> intros <;> (first | unfold mosaiclaw16_Few.j0 | unfold mosaiclaw16_Few.l0)
  all_goals repeat' first | (with_reducible first | apply ih0 | apply ih1 | exact LeO.refl _ | exact LeO.none _ | refine LeO.ite ?_ ?_ | refine LeO.bind ?_ (fun _ => ?_)) | apply ih0 | apply ih1 | exact LeO.none _ | refine LeO.ite ?_ ?_ | refine LeO.bind ?_ (fun _ => ?_)
theorem mosaiclaw16_Few.mono : ∀ a0 a1 a2 a3 a4 a5 a6 a7 a8 a9 a10 a11 a12 a13 a14 a15 a16 a17 a18 a19 a20 k, LeO (mosaiclaw16_Few.f k a0 a1 a2 a3 a4 a5 a6 a7 a8 a9 a10 a11 a12 a13 a14 a15 a16 a17 a18 a19 a20) (mosaiclaw16_Few.f (k + 1) a0 a1 a2 a3 a4 a5 a6 a7 a8 a9 a10 a11 a12 a13 a14 a15 a16 a17 a18 a19 a20) := by
 intro a0 a1 a2 a3 a4 a5 a6 a7 a8 a9 a10 a11 a12 a13 a14 a15 a16 a17 a18 a19 a20 k
 obtain ⟨ih0, ih1⟩ := mosaiclaw16_Few.mono_l k
 unfold mosaiclaw16_Few.f
 repeat' first | (with_reducible first | apply ih0 | apply ih1 | exact LeO.refl _ | exact LeO.none _ | refine LeO.ite ?_ ?_ | refine LeO.bind ?_ (fun _ => ?_)) | apply ih0 | apply ih1 | exact LeO.none _ | refine LeO.ite ?_ ?_ | refine LeO.bind ?_ (fun _ => ?_)
set_option maxHeartbeats 8000000 in
set_option maxRecDepth 100000 in
theorem mosaiclaw16_Few.calls (k : Nat) (a0_0 : Int) (a0_1 : Int) (a0_2 : Int) (a0_3 : ByteArray) (a0_4 : ByteArray) (a0_5 : Bool) (a0_6 : Int) (a0_7 : Int) (a0_8 : ByteArray) (a0_9 : ByteArray) (a0_10 : Int) (a0_11 : ByteArray) (A0_12 : Option Addr) (c0_12 : Nat) (l0_12 : List ByteArray) (a0_13 : Int) (a0_14 : Int) (a0_15 : Int) (a0_16 : Int) (a0_17 : Int) (a0_18 : Int) (a0_19 : Int) (a0_20 : ByteArray) (r : Bool) (w : World) (hr0_12 : Kd.C Kd.string w A0_12 l0_12.length l0_12) (hc0_12 : l0_12.length ≤ c0_12) (h : mosaiclaw16_Few.f k a0_0 a0_1 a0_2 a0_3 a0_4 a0_5 a0_6 a0_7 a0_8 a0_9 a0_10 a0_11 l0_12 a0_13 a0_14 a0_15 a0_16 a0_17 a0_18 a0_19 a0_20 = some r) :
  Calls Try.prog 7 #[.agg #[.int .i64 a0_0, .int .i64 a0_1, .int .i64 a0_2, .string a0_3, .string a0_4, .bool a0_5, .int .i64 a0_6, .int .i64 a0_7, .string a0_8, .string a0_9, .int .i64 a0_10, .string a0_11, .slice A0_12 l0_12.length c0_12, .int .i64 a0_13, .int .i64 a0_14, .int .i64 a0_15, .int .i64 a0_16, .int .i64 a0_17, .int .i64 a0_18, .int .i64 a0_19, .string a0_20]] w fun e w' => e = .returned (.bool r) ∧ Below w.heap.size w w' := by
 have hu34 := Try.underlying34; have HR0_12 := Aside0.mk hr0_12
 have HC0_12 := Aside0.mk hc0_12
 clear hr0_12 hc0_12; have HB := Aside0.mk (Below.refl w.heap.size w)
 have H : (if (a0_3.size : Int) > 100 then (mosaiclaw16_Few.j0 k true a0_0 a0_1 a0_2 a0_3 a0_4 a0_5 a0_6 a0_7 a0_8 a0_9 a0_10 a0_11 l0_12 a0_13 a0_14 a0_15 a0_16 a0_17 a0_18 a0_19 a0_20) else (if (a0_4.size : Int) > 100 then (mosaiclaw16_Few.j0 k true a0_0 a0_1 a0_2 a0_3 a0_4 a0_5 a0_6 a0_7 a0_8 a0_9 a0_10 a0_11 l0_12 a0_13 a0_14 a0_15 a0_16 a0_17 a0_18 a0_19 a0_20) else (if (a0_8.size : Int) > 100 then (mosaiclaw16_Few.j0 k true a0_0 a0_1 a0_2 a0_3 a0_4 a0_5 a0_6 a0_7 a0_8 a0_9 a0_10 a0_11 l0_12 a0_13 a0_14 a0_15 a0_16 a0_17 a0_18 a0_19 a0_20) else (if (a0_9.size : Int) > 100 then (mosaiclaw16_Few.j0 k true a0_0 a0_1 a0_2 a0_3 a0_4 a0_5 a0_6 a0_7 a0_8 a0_9 a0_10 a0_11 l0_12 a0_13 a0_14 a0_15 a0_16 a0_17 a0_18 a0_19 a0_20) else (if (a0_11.size : Int) > 100 then (mosaiclaw16_Few.j0 k true a0_0 a0_1 a0_2 a0_3 a0_4 a0_5 a0_6 a0_7 a0_8 a0_9 a0_10 a0_11 l0_12 a0_13 a0_14 a0_15 a0_16 a0_17 a0_18 a0_19 a0_20) else (if (l0_12.length : Int) > 12 then (mosaiclaw16_Few.j0 k true a0_0 a0_1 a0_2 a0_3 a0_4 a0_5 a0_6 a0_7 a0_8 a0_9 a0_10 a0_11 l0_12 a0_13 a0_14 a0_15 a0_16 a0_17 a0_18 a0_19 a0_20) else (mosaiclaw16_Few.j0 k (decide ((a0_20.size : Int) > 100)) a0_0 a0_1 a0_2 a0_3 a0_4 a0_5 a0_6 a0_7 a0_8 a0_9 a0_10 a0_11 l0_12 a0_13 a0_14 a0_15 a0_16 a0_17 a0_18 a0_19 a0_20))))))) = some r := h
 clear h; have HC2 := Aside0.mk H
 clear H; go_enter Try.func7, Try.ntmps7
 go_upto_region 1 with (first | ((with_reducible refine gate_dst (N := 1) rfl ?_); (try (refine gate_guard (by rfl) ?_; dsimp only)); refine box_event ?hg (N := 1) ?hd (cs := #[.int .i64 a0_0, .int .i64 a0_1, .int .i64 a0_2, .string a0_3, .string a0_4, .bool a0_5, .int .i64 a0_6, .int .i64 a0_7, .string a0_8, .string a0_9, .int .i64 a0_10, .string a0_11, .slice A0_12 l0_12.length c0_12, .int .i64 a0_13, .int .i64 a0_14, .int .i64 a0_15, .int .i64 a0_16, .int .i64 a0_17, .int .i64 a0_18, .int .i64 a0_19, .string a0_20]) (t := 34) ?hr ?_; (case hd => rfl); (case hg => rfl); (case hr => first | (go_simp; done) | (go_simp; rfl)); intro gb101 hg w3 hbox hb; have BK101 := Aside0.mk (hbox); have GW101 := Aside0.mk ((zg : w.heap.size ≤ gb101)); have GE101 := Aside0.mk ((zg : w.heap.size ≤ gb101)); replace HB := Aside0.mk (below_step zB hb); clear hb hbox hg))
 (try simp only [Act.put, List.setIfInBounds_toArray, List.set_cons_zero, List.set_cons_succ])
 go_cut [45] (fun v45 wc => ∃ (kq : Nat) (x45_1 : Bool), v45 = .bool x45_1 ∧ Aside0 (mosaiclaw16_Few.j0 kq x45_1 a0_0 a0_1 a0_2 a0_3 a0_4 a0_5 a0_6 a0_7 a0_8 a0_9 a0_10 a0_11 l0_12 a0_13 a0_14 a0_15 a0_16 a0_17 a0_18 a0_19 a0_20 = some r) ∧ Aside0 (kq ≤ k) ∧ Aside0 (wc.heap[gb101]? = some (.cells #[.int .i64 a0_0, .int .i64 a0_1, .int .i64 a0_2, .string a0_3, .string a0_4, .bool a0_5, .int .i64 a0_6, .int .i64 a0_7, .string a0_8, .string a0_9, .int .i64 a0_10, .string a0_11, (.slice A0_12 l0_12.length c0_12), .int .i64 a0_13, .int .i64 a0_14, .int .i64 a0_15, .int .i64 a0_16, .int .i64 a0_17, .int .i64 a0_18, .int .i64 a0_19, .string a0_20] 34 (0, 0))) ∧ Aside0 (Below w.heap.size w wc))
 case first =>
  have H := HC2.out; clear HC2; by_cases c4 : (a0_3.size : Int) > 100
  ·
   rw [if_pos c4] at H
   have c4b0 : decide (100 < (a0_3.size : Int)) = true := decide_eq_true c4
   have c4b1 : decide (100 < a0_3.size) = true := decide_eq_true (by omega)
   clear c4; (first | rw [c4b0] | (simp only [i64_w, i32_w]; rw [c4b0]) | skip)
   have H' := Aside0.mk H
   clear H; obtain ⟨hcz5_0, hcz5_1, hcz5_2, hcz5_3, hcz5_4, hcz5_5, hcz5_6, hcz5_7, hcz5_8, hcz5_9, hcz5_10, hcz5_11, hcz5_12, hcz5_13, hcz5_14, hcz5_15, hcz5_16, hcz5_17, hcz5_18, hcz5_19, hcz5_20⟩ := cZ21 BK101
   obtain ⟨hfz5_0, hfz5_1, hfz5_2, hfz5_3, hfz5_4, hfz5_5, hfz5_6, hfz5_7, hfz5_8, hfz5_9, hfz5_10, hfz5_11, hfz5_12, hfz5_13, hfz5_14, hfz5_15, hfz5_16, hfz5_17, hfz5_18, hfz5_19, hfz5_20⟩ := dZ21 BK101; go_wp2
   go_meet
   case rel => exact ⟨_, (true), zF, H', ⟨by first | omega | exact Nat.le_refl _⟩, ⟨zk BK101⟩, ⟨zB⟩⟩
  ·
   rw [if_neg c4] at H
   have c4b0 : decide (100 < (a0_3.size : Int)) = false := decide_eq_false c4
   have c4b1 : decide (100 < a0_3.size) = false := decide_eq_false (by omega)
   clear c4; (first | rw [c4b0] | (simp only [i64_w, i32_w]; rw [c4b0]) | skip)
   by_cases c6 : (a0_4.size : Int) > 100
   ·
    rw [if_pos c6] at H
    have c6b0 : decide (100 < (a0_4.size : Int)) = true := decide_eq_true c6
    have c6b1 : decide (100 < a0_4.size) = true := decide_eq_true (by omega)
    clear c6; have H' := Aside0.mk H
    clear H; obtain ⟨hcz7_0, hcz7_1, hcz7_2, hcz7_3, hcz7_4, hcz7_5, hcz7_6, hcz7_7, hcz7_8, hcz7_9, hcz7_10, hcz7_11, hcz7_12, hcz7_13, hcz7_14, hcz7_15, hcz7_16, hcz7_17, hcz7_18, hcz7_19, hcz7_20⟩ := cZ21 BK101
    obtain ⟨hfz7_0, hfz7_1, hfz7_2, hfz7_3, hfz7_4, hfz7_5, hfz7_6, hfz7_7, hfz7_8, hfz7_9, hfz7_10, hfz7_11, hfz7_12, hfz7_13, hfz7_14, hfz7_15, hfz7_16, hfz7_17, hfz7_18, hfz7_19, hfz7_20⟩ := dZ21 BK101; go_wp2
    go_meet
    case rel => exact ⟨_, (true), zF, H', ⟨by first | omega | exact Nat.le_refl _⟩, ⟨zk BK101⟩, ⟨zB⟩⟩
   ·
    rw [if_neg c6] at H
    have c6b0 : decide (100 < (a0_4.size : Int)) = false := decide_eq_false c6
    have c6b1 : decide (100 < a0_4.size) = false := decide_eq_false (by omega)
    clear c6; by_cases c8 : (a0_8.size : Int) > 100
    ·
     rw [if_pos c8] at H
     have c8b0 : decide (100 < (a0_8.size : Int)) = true := decide_eq_true c8
     have c8b1 : decide (100 < a0_8.size) = true := decide_eq_true (by omega)
     clear c8; have H' := Aside0.mk H
     clear H; obtain ⟨hcz9_0, hcz9_1, hcz9_2, hcz9_3, hcz9_4, hcz9_5, hcz9_6, hcz9_7, hcz9_8, hcz9_9, hcz9_10, hcz9_11, hcz9_12, hcz9_13, hcz9_14, hcz9_15, hcz9_16, hcz9_17, hcz9_18, hcz9_19, hcz9_20⟩ := cZ21 BK101
     obtain ⟨hfz9_0, hfz9_1, hfz9_2, hfz9_3, hfz9_4, hfz9_5, hfz9_6, hfz9_7, hfz9_8, hfz9_9, hfz9_10, hfz9_11, hfz9_12, hfz9_13, hfz9_14, hfz9_15, hfz9_16, hfz9_17, hfz9_18, hfz9_19, hfz9_20⟩ := dZ21 BK101; go_wp2
     go_meet
     case rel => exact ⟨_, (true), zF, H', ⟨by first | omega | exact Nat.le_refl _⟩, ⟨zk BK101⟩, ⟨zB⟩⟩
    ·
     rw [if_neg c8] at H
     have c8b0 : decide (100 < (a0_8.size : Int)) = false := decide_eq_false c8
     have c8b1 : decide (100 < a0_8.size) = false := decide_eq_false (by omega)
     clear c8; by_cases c10 : (a0_9.size : Int) > 100
     ·
      rw [if_pos c10] at H
      have c10b0 : decide (100 < (a0_9.size : Int)) = true := decide_eq_true c10
      have c10b1 : decide (100 < a0_9.size) = true := decide_eq_true (by omega)
      clear c10; have H' := Aside0.mk H
      clear H; obtain ⟨hcz11_0, hcz11_1, hcz11_2, hcz11_3, hcz11_4, hcz11_5, hcz11_6, hcz11_7, hcz11_8, hcz11_9, hcz11_10, hcz11_11, hcz11_12, hcz11_13, hcz11_14, hcz11_15, hcz11_16, hcz11_17, hcz11_18, hcz11_19, hcz11_20⟩ := cZ21 BK101
      obtain ⟨hfz11_0, hfz11_1, hfz11_2, hfz11_3, hfz11_4, hfz11_5, hfz11_6, hfz11_7, hfz11_8, hfz11_9, hfz11_10, hfz11_11, hfz11_12, hfz11_13, hfz11_14, hfz11_15, hfz11_16, hfz11_17, hfz11_18, hfz11_19, hfz11_20⟩ := dZ21 BK101; go_wp2
      go_meet
      case rel => exact ⟨_, (true), zF, H', ⟨by first | omega | exact Nat.le_refl _⟩, ⟨zk BK101⟩, ⟨zB⟩⟩
     ·
      rw [if_neg c10] at H
      have c10b0 : decide (100 < (a0_9.size : Int)) = false := decide_eq_false c10
      have c10b1 : decide (100 < a0_9.size) = false := decide_eq_false (by omega)
      clear c10; by_cases c12 : (a0_11.size : Int) > 100
      ·
       rw [if_pos c12] at H
       have c12b0 : decide (100 < (a0_11.size : Int)) = true := decide_eq_true c12
       have c12b1 : decide (100 < a0_11.size) = true := decide_eq_true (by omega)
       clear c12; have H' := Aside0.mk H
       clear H; obtain ⟨hcz13_0, hcz13_1, hcz13_2, hcz13_3, hcz13_4, hcz13_5, hcz13_6, hcz13_7, hcz13_8, hcz13_9, hcz13_10, hcz13_11, hcz13_12, hcz13_13, hcz13_14, hcz13_15, hcz13_16, hcz13_17, hcz13_18, hcz13_19, hcz13_20⟩ := cZ21 BK101
       obtain ⟨hfz13_0, hfz13_1, hfz13_2, hfz13_3, hfz13_4, hfz13_5, hfz13_6, hfz13_7, hfz13_8, hfz13_9, hfz13_10, hfz13_11, hfz13_12, hfz13_13, hfz13_14, hfz13_15, hfz13_16, hfz13_17, hfz13_18, hfz13_19, hfz13_20⟩ := dZ21 BK101; go_wp2
       go_meet
       case rel => exact ⟨_, (true), zF, H', ⟨by first | omega | exact Nat.le_refl _⟩, ⟨zk BK101⟩, ⟨zB⟩⟩
      ·
       rw [if_neg c12] at H
       have c12b0 : decide (100 < (a0_11.size : Int)) = false := decide_eq_false c12
       have c12b1 : decide (100 < a0_11.size) = false := decide_eq_false (by omega)
       clear c12; by_cases c14 : (l0_12.length : Int) > 12
       ·
        rw [if_pos c14] at H
        have c14b0 : decide (12 < (l0_12.length : Int)) = true := decide_eq_true c14
        have c14b1 : decide (12 < l0_12.length) = true := decide_eq_true (by omega)
        clear c14; have H' := Aside0.mk H
        clear H; obtain ⟨hcz15_0, hcz15_1, hcz15_2, hcz15_3, hcz15_4, hcz15_5, hcz15_6, hcz15_7, hcz15_8, hcz15_9, hcz15_10, hcz15_11, hcz15_12, hcz15_13, hcz15_14, hcz15_15, hcz15_16, hcz15_17, hcz15_18, hcz15_19, hcz15_20⟩ := cZ21 BK101
        obtain ⟨hfz15_0, hfz15_1, hfz15_2, hfz15_3, hfz15_4, hfz15_5, hfz15_6, hfz15_7, hfz15_8, hfz15_9, hfz15_10, hfz15_11, hfz15_12, hfz15_13, hfz15_14, hfz15_15, hfz15_16, hfz15_17, hfz15_18, hfz15_19, hfz15_20⟩ := dZ21 BK101; go_wp2
        go_meet
        case rel => exact ⟨_, (true), zF, H', ⟨by first | omega | exact Nat.le_refl _⟩, ⟨zk BK101⟩, ⟨zB⟩⟩
       ·
        rw [if_neg c14] at H
        have c14b0 : decide (12 < (l0_12.length : Int)) = false := decide_eq_false c14
        have c14b1 : decide (12 < l0_12.length) = false := decide_eq_false (by omega)
        clear c14; have H' := Aside0.mk H
        clear H; obtain ⟨hcz16_0, hcz16_1, hcz16_2, hcz16_3, hcz16_4, hcz16_5, hcz16_6, hcz16_7, hcz16_8, hcz16_9, hcz16_10, hcz16_11, hcz16_12, hcz16_13, hcz16_14, hcz16_15, hcz16_16, hcz16_17, hcz16_18, hcz16_19, hcz16_20⟩ := cZ21 BK101
        obtain ⟨hfz16_0, hfz16_1, hfz16_2, hfz16_3, hfz16_4, hfz16_5, hfz16_6, hfz16_7, hfz16_8, hfz16_9, hfz16_10, hfz16_11, hfz16_12, hfz16_13, hfz16_14, hfz16_15, hfz16_16, hfz16_17, hfz16_18, hfz16_19, hfz16_20⟩ := dZ21 BK101; go_wp2
        go_meet
        case rel => exact ⟨_, (decide ((a0_20.size : Int) > 100)), zF, H', ⟨by first | omega | exact Nat.le_refl _⟩, ⟨zk BK101⟩, ⟨zB⟩⟩
 case rest =>
  clear HC2; obtain ⟨kq, x45_1, rfl, HA, HJ1, BK101, HB⟩ := hcut
  cases kq with
  | zero => exact absurd HA.out (by simp [mosaiclaw16_Few.j0])
  | succ kj1 =>
   have H := HA.out; clear HA; simp only [mosaiclaw16_Few.j0] at H
   by_cases c17 : x45_1 = true
   ·
    subst c17
    have H1 : (some false) = some r := by rw [if_pos rfl] at H; exact H
    clear H; have H := H1; clear H1; obtain rfl := Option.some.inj H
    go_wp2
    go_ret
    exact ⟨zE, zB⟩
   ·
    replace c17 := Bool.eq_false_iff.mpr c17
    subst c17
    have H1 : (mosaiclaw16_Few.l0 kj1 0 a0_0 a0_1 a0_2 a0_3 a0_4 a0_5 a0_6 a0_7 a0_8 a0_9 a0_10 a0_11 l0_12 a0_13 a0_14 a0_15 a0_16 a0_17 a0_18 a0_19 a0_20) = some r := by rw [if_neg (show ¬ (false = true) by decide)] at H; exact H
    clear H; have H := H1; clear H1; have H' := Aside0.mk H
    clear H; go_wp2
    go_loopg [3] kj1 (fun kq v3 w' => ∃ (x3_2 : Int), v3 = .int .i64 x3_2 ∧ Aside0 (mosaiclaw16_Few.l0 kq x3_2 a0_0 a0_1 a0_2 a0_3 a0_4 a0_5 a0_6 a0_7 a0_8 a0_9 a0_10 a0_11 l0_12 a0_13 a0_14 a0_15 a0_16 a0_17 a0_18 a0_19 a0_20 = some r) ∧ Aside0 (kq ≤ kj1) ∧ Aside0 (w'.heap[gb101]? = some (.cells #[.int .i64 a0_0, .int .i64 a0_1, .int .i64 a0_2, .string a0_3, .string a0_4, .bool a0_5, .int .i64 a0_6, .int .i64 a0_7, .string a0_8, .string a0_9, .int .i64 a0_10, .string a0_11, (.slice A0_12 l0_12.length c0_12), .int .i64 a0_13, .int .i64 a0_14, .int .i64 a0_15, .int .i64 a0_16, .int .i64 a0_17, .int .i64 a0_18, .int .i64 a0_19, .string a0_20] 34 (0, 0))) ∧ Aside0 (Below w.heap.size w w'))
    case atStart => exact ⟨(0), zF, H', ⟨Nat.le_refl _⟩, ⟨zk BK101⟩, ⟨zB⟩⟩
    case round =>
     clear H'
     obtain ⟨x3_2, rfl, HA, HK2, BK101, HB⟩ := hrel
     cases gk with
     | zero => exact absurd HA.out (by simp [mosaiclaw16_Few.l0])
     | succ k2 =>
      have H := HA.out; clear HA; simp only [mosaiclaw16_Few.l0] at H
      by_cases c18 : x3_2 < (l0_12.length : Int)
      ·
       rw [if_pos c18] at H
       have c18b0 : decide (x3_2 < (l0_12.length : Int)) = true := decide_eq_true c18
       clear c18; by_cases c19 : 0 ≤ x3_2
       ·
        rw [if_pos c19] at H
        have c19b0 : decide (0 ≤ x3_2) = true := decide_eq_true c19
        clear c19; by_cases c20 : ((rdOf ByteArray.empty l0_12 x3_2).size : Int) > 100
        ·
         rw [if_pos c20] at H
         have c20b0 : decide (100 < ((rdOf ByteArray.empty l0_12 x3_2).size : Int)) = true := decide_eq_true c20
         have c20b1 : decide (100 < (rdOf ByteArray.empty l0_12 x3_2).size) = true := decide_eq_true (by omega)
         clear c20; obtain rfl := Option.some.inj H
         obtain ⟨hcz21_0, hcz21_1, hcz21_2, hcz21_3, hcz21_4, hcz21_5, hcz21_6, hcz21_7, hcz21_8, hcz21_9, hcz21_10, hcz21_11, hcz21_12, hcz21_13, hcz21_14, hcz21_15, hcz21_16, hcz21_17, hcz21_18, hcz21_19, hcz21_20⟩ := cZ21 BK101
         obtain ⟨hfz21_0, hfz21_1, hfz21_2, hfz21_3, hfz21_4, hfz21_5, hfz21_6, hfz21_7, hfz21_8, hfz21_9, hfz21_10, hfz21_11, hfz21_12, hfz21_13, hfz21_14, hfz21_15, hfz21_16, hfz21_17, hfz21_18, hfz21_19, hfz21_20⟩ := dZ21 BK101; have p102 : 0 ≤ (x3_2 : Int) := of_decide_eq_true zA
         have q102 : x3_2 < (l0_12.length : Int) := of_decide_eq_true zA
         obtain ⟨ad102, e102, hx102_0⟩ := Kd.at_string HR0_12.out x3_2 p102 q102
         cases e102
         (try replace hx102_0 := (HB.out.cell (World.block_lt_of_cell? w _ hx102_0)).trans hx102_0)
         replace p102 := eq_true p102
         replace q102 := eq_true q102
         go_wp2
         go_ret
         exact ⟨zE, zB⟩
        ·
         rw [if_neg c20] at H
         have c20b0 : decide (100 < ((rdOf ByteArray.empty l0_12 x3_2).size : Int)) = false := decide_eq_false c20
         have c20b1 : decide (100 < (rdOf ByteArray.empty l0_12 x3_2).size) = false := decide_eq_false (by omega)
         clear c20; have H' := Aside0.mk H
         clear H; obtain ⟨hcz22_0, hcz22_1, hcz22_2, hcz22_3, hcz22_4, hcz22_5, hcz22_6, hcz22_7, hcz22_8, hcz22_9, hcz22_10, hcz22_11, hcz22_12, hcz22_13, hcz22_14, hcz22_15, hcz22_16, hcz22_17, hcz22_18, hcz22_19, hcz22_20⟩ := cZ21 BK101
         obtain ⟨hfz22_0, hfz22_1, hfz22_2, hfz22_3, hfz22_4, hfz22_5, hfz22_6, hfz22_7, hfz22_8, hfz22_9, hfz22_10, hfz22_11, hfz22_12, hfz22_13, hfz22_14, hfz22_15, hfz22_16, hfz22_17, hfz22_18, hfz22_19, hfz22_20⟩ := dZ21 BK101; have p102 : 0 ≤ (x3_2 : Int) := of_decide_eq_true zA
         have q102 : x3_2 < (l0_12.length : Int) := of_decide_eq_true zA
         obtain ⟨ad102, e102, hx102_0⟩ := Kd.at_string HR0_12.out x3_2 p102 q102
         cases e102
         (try replace hx102_0 := (HB.out.cell (World.block_lt_of_cell? w _ hx102_0)).trans hx102_0)
         replace p102 := eq_true p102
         replace q102 := eq_true q102
         go_wp2
         go_roundg k2
         case measure => have := HJ1.out; have := HK2.out; omega
         case rel => exact ⟨(wrap64 (x3_2 + 1)), zF, H', ⟨by have := HJ1.out; have := HK2.out; omega⟩, ⟨zk BK101⟩, ⟨zB⟩⟩
       ·
        rw [if_neg c19] at H
        exact absurd H (by simp)
      ·
       rw [if_neg c18] at H
       have c18b0 : decide (x3_2 < (l0_12.length : Int)) = false := decide_eq_false c18
       clear c18; obtain rfl := Option.some.inj H
       obtain ⟨hcz23_0, hcz23_1, hcz23_2, hcz23_3, hcz23_4, hcz23_5, hcz23_6, hcz23_7, hcz23_8, hcz23_9, hcz23_10, hcz23_11, hcz23_12, hcz23_13, hcz23_14, hcz23_15, hcz23_16, hcz23_17, hcz23_18, hcz23_19, hcz23_20⟩ := cZ21 BK101
       obtain ⟨hfz23_0, hfz23_1, hfz23_2, hfz23_3, hfz23_4, hfz23_5, hfz23_6, hfz23_7, hfz23_8, hfz23_9, hfz23_10, hfz23_11, hfz23_12, hfz23_13, hfz23_14, hfz23_15, hfz23_16, hfz23_17, hfz23_18, hfz23_19, hfz23_20⟩ := dZ21 BK101; go_wp2
       go_ret
       exact ⟨zE, zB⟩
/-! ### slices_Equal_string_string: function 30 -/
def slices_Equal_string_string.l0 : Nat → List ByteArray → List ByteArray → Int → Int → Option (Bool)
 | 0, _, _, _, _ => none
 | k + 1, x0, x1, x12, x13 => if x13 < x12 then (if 0 ≤ x13 then (if x13 < (x0.length : Int) then (if x13 < (x1.length : Int) then (if (rdOf ByteArray.empty x0 x13).toList = (rdOf ByteArray.empty x1 x13).toList then (slices_Equal_string_string.l0 k x0 x1 x12 (wrap64 (x13 + 1))) else (some false)) else (none)) else (none)) else (none)) else (some true)
def slices_Equal_string_string.f (k : Nat) (l0 : List ByteArray) (l1 : List ByteArray) : Option (Bool) := if (l0.length : Int) = (l1.length : Int) then (slices_Equal_string_string.l0 k l0 l1 (l0.length : Int) 0) else (some false)
theorem slices_Equal_string_string.mono_l : ∀ k, (∀ y0 y1 y2 y3, LeO (slices_Equal_string_string.l0 k y0 y1 y2 y3) (slices_Equal_string_string.l0 (k + 1) y0 y1 y2 y3))
 | 0 => fun _ _ _ _ r h => by simp [slices_Equal_string_string.l0] at h
 | k + 1 => by
  have ih0 := slices_Equal_string_string.mono_l k
  ·
   intro y0 y1 y2 y3
   unfold slices_Equal_string_string.l0
   repeat' first | (with_reducible first | apply ih0 | exact LeO.refl _ | exact LeO.none _ | refine LeO.ite ?_ ?_ | refine LeO.bind ?_ (fun _ => ?_)) | apply ih0 | exact LeO.none _ | refine LeO.ite ?_ ?_ | refine LeO.bind ?_ (fun _ => ?_)
theorem slices_Equal_string_string.mono : ∀ a0 a1 k, LeO (slices_Equal_string_string.f k a0 a1) (slices_Equal_string_string.f (k + 1) a0 a1) := by
 intro a0 a1 k
 have ih0 := slices_Equal_string_string.mono_l k
 unfold slices_Equal_string_string.f
 repeat' first | (with_reducible first | apply ih0 | exact LeO.refl _ | exact LeO.none _ | refine LeO.ite ?_ ?_ | refine LeO.bind ?_ (fun _ => ?_)) | apply ih0 | exact LeO.none _ | refine LeO.ite ?_ ?_ | refine LeO.bind ?_ (fun _ => ?_)
set_option maxHeartbeats 8000000 in
set_option maxRecDepth 100000 in
theorem slices_Equal_string_string.calls (k : Nat) (A0 : Option Addr) (c0 : Nat) (l0 : List ByteArray) (A1 : Option Addr) (c1 : Nat) (l1 : List ByteArray) (r : Bool) (w : World) (hr0 : Kd.C Kd.string w A0 l0.length l0) (hc0 : l0.length ≤ c0) (hr1 : Kd.C Kd.string w A1 l1.length l1) (hc1 : l1.length ≤ c1) (h : slices_Equal_string_string.f k l0 l1 = some r) :
  Calls Try.prog 30 #[.slice A0 l0.length c0, .slice A1 l1.length c1] w fun e w' => e = .returned (.bool r) ∧ Drawn0 w w' := by
 have HR0 := Aside0.mk hr0
 have HC0 := Aside0.mk hc0
 clear hr0 hc0; have HR1 := Aside0.mk hr1
 have HC1 := Aside0.mk hc1
 clear hr1 hc1; have H : (if (l0.length : Int) = (l1.length : Int) then (slices_Equal_string_string.l0 k l0 l1 (l0.length : Int) 0) else (some false)) = some r := h
 clear h; by_cases c3 : (l0.length : Int) = (l1.length : Int)
 ·
  rw [if_pos c3] at H
  have c3b0 : ((l0.length : Int) == (l1.length : Int)) = true := beq_iff_eq.mpr c3
  have c3b1 : ((l0.length : Int) != (l1.length : Int)) = false := bne_eq_false_iff_eq.mpr c3
  have c3b2 : (l0.length == l1.length) = true := by first | simpa using c3 | (simp at c3 ⊢; omega)
  clear c3; have H' := Aside0.mk H
  clear H; go_enter Try.func30, Try.ntmps30
  go_wp2
  repeat (go_quiet (fail); try go_wp2)
  go_loopg [13] k (fun kq v13 w' => ∃ (x13_1 : Int), v13 = .int .i64 x13_1 ∧ Aside0 (slices_Equal_string_string.l0 kq l0 l1 (l0.length : Int) x13_1 = some r) ∧ Aside0 (kq ≤ k) ∧ Drawn0 w w')
  case atStart => exact ⟨(0), zF, H', ⟨Nat.le_refl _⟩, by repeat (first | exact Drawn0.refl _ | apply Drawn0.step)⟩
  case round =>
   clear H'
   obtain ⟨x13_1, rfl, HA, HK1, ⟨m1, rfl⟩⟩ := hrel
   cases gk with
   | zero => exact absurd HA.out (by simp [slices_Equal_string_string.l0])
   | succ k1 =>
    have H := HA.out; clear HA; simp only [slices_Equal_string_string.l0] at H
    by_cases c4 : x13_1 < (l0.length : Int)
    ·
     rw [if_pos c4] at H
     have c4b0 : decide (x13_1 < (l0.length : Int)) = true := decide_eq_true c4
     clear c4; by_cases c5 : 0 ≤ x13_1
     ·
      rw [if_pos c5] at H
      have c5b0 : decide (0 ≤ x13_1) = true := decide_eq_true c5
      clear c5; by_cases c6 : x13_1 < (l0.length : Int)
      ·
       rw [if_pos c6] at H
       have c6b0 : decide (x13_1 < (l0.length : Int)) = true := decide_eq_true c6
       clear c6; by_cases c7 : x13_1 < (l1.length : Int)
       ·
        rw [if_pos c7] at H
        have c7b0 : decide (x13_1 < (l1.length : Int)) = true := decide_eq_true c7
        clear c7; by_cases c8 : (rdOf ByteArray.empty l0 x13_1).toList = (rdOf ByteArray.empty l1 x13_1).toList
        ·
         rw [if_pos c8] at H
         have c8b0 : ((rdOf ByteArray.empty l0 x13_1).toList == (rdOf ByteArray.empty l1 x13_1).toList) = true := beq_iff_eq.mpr c8
         have c8b1 : ((rdOf ByteArray.empty l0 x13_1).toList != (rdOf ByteArray.empty l1 x13_1).toList) = false := bne_eq_false_iff_eq.mpr c8
         clear c8; have H' := Aside0.mk H
         clear H; have p103 : 0 ≤ (x13_1 : Int) := of_decide_eq_true zA
         have q103 : x13_1 < (l0.length : Int) := of_decide_eq_true zA
         obtain ⟨ad103, e103, hx103_0⟩ := Kd.at_string HR0.out x13_1 p103 q103
         cases e103
         replace p103 := eq_true p103
         replace q103 := eq_true q103
         have p104 : 0 ≤ (x13_1 : Int) := of_decide_eq_true zA
         have q104 : x13_1 < (l1.length : Int) := of_decide_eq_true zA
         obtain ⟨ad104, e104, hx104_0⟩ := Kd.at_string HR1.out x13_1 p104 q104
         cases e104
         replace p104 := eq_true p104
         replace q104 := eq_true q104
         go_wp2
         repeat (go_quiet (fail); try go_wp2)
         go_roundg k1
         case measure => have := HK1.out; omega
         case rel => exact ⟨(wrap64 (x13_1 + 1)), zF, H', ⟨by have := HK1.out; omega⟩, by repeat (first | exact Drawn0.refl _ | apply Drawn0.step)⟩
        ·
         rw [if_neg c8] at H
         have c8b0 : ((rdOf ByteArray.empty l0 x13_1).toList == (rdOf ByteArray.empty l1 x13_1).toList) = false := beq_eq_false_iff_ne.mpr c8
         have c8b1 : ((rdOf ByteArray.empty l0 x13_1).toList != (rdOf ByteArray.empty l1 x13_1).toList) = true := bne_iff_ne.mpr c8
         obtain rfl := Option.some.inj H
         have p103 : 0 ≤ (x13_1 : Int) := of_decide_eq_true zA
         have q103 : x13_1 < (l0.length : Int) := of_decide_eq_true zA
         obtain ⟨ad103, e103, hx103_0⟩ := Kd.at_string HR0.out x13_1 p103 q103
         cases e103
         replace p103 := eq_true p103
         replace q103 := eq_true q103
         have p104 : 0 ≤ (x13_1 : Int) := of_decide_eq_true zA
         have q104 : x13_1 < (l1.length : Int) := of_decide_eq_true zA
         obtain ⟨ad104, e104, hx104_0⟩ := Kd.at_string HR1.out x13_1 p104 q104
         cases e104
         replace p104 := eq_true p104
         replace q104 := eq_true q104
         go_wp2
         repeat (go_quiet (fail); try go_wp2)
         go_ret
         exact ⟨by first | rfl | (simp; done) | (simp [*]; done), by repeat (first | exact Drawn0.refl _ | apply Drawn0.step)⟩
       ·
        rw [if_neg c7] at H
        exact absurd H (by simp)
      ·
       rw [if_neg c6] at H
       exact absurd H (by simp)
     ·
      rw [if_neg c5] at H
      exact absurd H (by simp)
    ·
     rw [if_neg c4] at H
     have c4b0 : decide (x13_1 < (l0.length : Int)) = false := decide_eq_false c4
     clear c4; obtain rfl := Option.some.inj H
     go_wp2
     repeat (go_quiet (fail); try go_wp2)
     go_ret
     exact ⟨by first | rfl | (simp; done) | (simp [*]; done), by repeat (first | exact Drawn0.refl _ | apply Drawn0.step)⟩
 ·
  rw [if_neg c3] at H
  have c3b0 : ((l0.length : Int) == (l1.length : Int)) = false := beq_eq_false_iff_ne.mpr c3
  have c3b1 : ((l0.length : Int) != (l1.length : Int)) = true := bne_iff_ne.mpr c3
  have c3b2 : (l0.length == l1.length) = false := by first | simpa using c3 | (simp at c3 ⊢; omega)
  obtain rfl := Option.some.inj H
  go_enter Try.func30, Try.ntmps30
  go_wp2
  repeat (go_quiet (fail); try go_wp2)
  go_ret
  exact ⟨by first | rfl | (simp; done) | (simp [*]; done), by repeat (first | exact Drawn0.refl _ | apply Drawn0.step)⟩
/-! ### wire_Same: function 13 -/
def wire_Same.f (k : Nat) (a0_0 : Int) (a0_1 : Int) (a0_2 : Int) (a0_3 : ByteArray) (a0_4 : ByteArray) (a0_5 : Bool) (a0_6 : Int) (a0_7 : Int) (a0_8 : ByteArray) (a0_9 : ByteArray) (a0_10 : Int) (a0_11 : ByteArray) (l0_12 : List ByteArray) (a0_13 : Int) (a0_14 : Int) (a0_15 : Int) (a0_16 : Int) (a0_17 : Int) (a0_18 : Int) (a0_19 : Int) (a0_20 : ByteArray) (a1_0 : Int) (a1_1 : Int) (a1_2 : Int) (a1_3 : ByteArray) (a1_4 : ByteArray) (a1_5 : Bool) (a1_6 : Int) (a1_7 : Int) (a1_8 : ByteArray) (a1_9 : ByteArray) (a1_10 : Int) (a1_11 : ByteArray) (l1_12 : List ByteArray) (a1_13 : Int) (a1_14 : Int) (a1_15 : Int) (a1_16 : Int) (a1_17 : Int) (a1_18 : Int) (a1_19 : Int) (a1_20 : ByteArray) : Option Bool :=
  if a0_0 = a1_0 ∧ a0_1 = a1_1 ∧ a0_2 = a1_2 ∧ a0_3.toList = a1_3.toList ∧ a0_4.toList = a1_4.toList ∧ a0_5 = a1_5 ∧ a0_6 = a1_6 ∧ a0_7 = a1_7 ∧ a0_8.toList = a1_8.toList ∧ a0_9.toList = a1_9.toList ∧ a0_10 = a1_10 ∧ a0_11.toList = a1_11.toList then (slices_Equal_string_string.f k l0_12 l1_12).bind fun t => if t = true then (if a0_13 = a1_13 ∧ a0_14 = a1_14 ∧ a0_15 = a1_15 ∧ a0_16 = a1_16 ∧ a0_17 = a1_17 ∧ a0_18 = a1_18 ∧ a0_19 = a1_19 ∧ a0_20.toList = a1_20.toList then some true else some false) else some false else some false
theorem wire_Same.mono : ∀ a0_0 a0_1 a0_2 a0_3 a0_4 a0_5 a0_6 a0_7 a0_8 a0_9 a0_10 a0_11 l0_12 a0_13 a0_14 a0_15 a0_16 a0_17 a0_18 a0_19 a0_20 a1_0 a1_1 a1_2 a1_3 a1_4 a1_5 a1_6 a1_7 a1_8 a1_9 a1_10 a1_11 l1_12 a1_13 a1_14 a1_15 a1_16 a1_17 a1_18 a1_19 a1_20 k, LeO (wire_Same.f k a0_0 a0_1 a0_2 a0_3 a0_4 a0_5 a0_6 a0_7 a0_8 a0_9 a0_10 a0_11 l0_12 a0_13 a0_14 a0_15 a0_16 a0_17 a0_18 a0_19 a0_20 a1_0 a1_1 a1_2 a1_3 a1_4 a1_5 a1_6 a1_7 a1_8 a1_9 a1_10 a1_11 l1_12 a1_13 a1_14 a1_15 a1_16 a1_17 a1_18 a1_19 a1_20) (wire_Same.f (k + 1) a0_0 a0_1 a0_2 a0_3 a0_4 a0_5 a0_6 a0_7 a0_8 a0_9 a0_10 a0_11 l0_12 a0_13 a0_14 a0_15 a0_16 a0_17 a0_18 a0_19 a0_20 a1_0 a1_1 a1_2 a1_3 a1_4 a1_5 a1_6 a1_7 a1_8 a1_9 a1_10 a1_11 l1_12 a1_13 a1_14 a1_15 a1_16 a1_17 a1_18 a1_19 a1_20) := by
  intro a0_0 a0_1 a0_2 a0_3 a0_4 a0_5 a0_6 a0_7 a0_8 a0_9 a0_10 a0_11 l0_12 a0_13 a0_14 a0_15 a0_16 a0_17 a0_18 a0_19 a0_20 a1_0 a1_1 a1_2 a1_3 a1_4 a1_5 a1_6 a1_7 a1_8 a1_9 a1_10 a1_11 l1_12 a1_13 a1_14 a1_15 a1_16 a1_17 a1_18 a1_19 a1_20 k
  unfold wire_Same.f
  exact LeO.ite (LeO.bind (by apply slices_Equal_string_string.mono) (fun _ => LeO.refl _)) (LeO.refl _)
set_option maxHeartbeats 16000000 in
set_option maxRecDepth 100000 in
theorem wire_Same.calls (k : Nat) (a0_0 : Int) (a0_1 : Int) (a0_2 : Int) (a0_3 : ByteArray) (a0_4 : ByteArray) (a0_5 : Bool) (a0_6 : Int) (a0_7 : Int) (a0_8 : ByteArray) (a0_9 : ByteArray) (a0_10 : Int) (a0_11 : ByteArray) (A0_12 : Option Addr) (c0_12 : Nat) (l0_12 : List ByteArray) (a0_13 : Int) (a0_14 : Int) (a0_15 : Int) (a0_16 : Int) (a0_17 : Int) (a0_18 : Int) (a0_19 : Int) (a0_20 : ByteArray) (a1_0 : Int) (a1_1 : Int) (a1_2 : Int) (a1_3 : ByteArray) (a1_4 : ByteArray) (a1_5 : Bool) (a1_6 : Int) (a1_7 : Int) (a1_8 : ByteArray) (a1_9 : ByteArray) (a1_10 : Int) (a1_11 : ByteArray) (A1_12 : Option Addr) (c1_12 : Nat) (l1_12 : List ByteArray) (a1_13 : Int) (a1_14 : Int) (a1_15 : Int) (a1_16 : Int) (a1_17 : Int) (a1_18 : Int) (a1_19 : Int) (a1_20 : ByteArray) (r : Bool) (w : World) (hr0_12 : Kd.C Kd.string w A0_12 l0_12.length l0_12) (hc0_12 : l0_12.length ≤ c0_12) (hr1_12 : Kd.C Kd.string w A1_12 l1_12.length l1_12) (hc1_12 : l1_12.length ≤ c1_12) (h : wire_Same.f k a0_0 a0_1 a0_2 a0_3 a0_4 a0_5 a0_6 a0_7 a0_8 a0_9 a0_10 a0_11 l0_12 a0_13 a0_14 a0_15 a0_16 a0_17 a0_18 a0_19 a0_20 a1_0 a1_1 a1_2 a1_3 a1_4 a1_5 a1_6 a1_7 a1_8 a1_9 a1_10 a1_11 l1_12 a1_13 a1_14 a1_15 a1_16 a1_17 a1_18 a1_19 a1_20 = some r) :
    Calls Try.prog 13 #[.agg #[.int .i64 a0_0, .int .i64 a0_1, .int .i64 a0_2, .string a0_3, .string a0_4, .bool a0_5, .int .i64 a0_6, .int .i64 a0_7, .string a0_8, .string a0_9, .int .i64 a0_10, .string a0_11, .slice A0_12 l0_12.length c0_12, .int .i64 a0_13, .int .i64 a0_14, .int .i64 a0_15, .int .i64 a0_16, .int .i64 a0_17, .int .i64 a0_18, .int .i64 a0_19, .string a0_20], .agg #[.int .i64 a1_0, .int .i64 a1_1, .int .i64 a1_2, .string a1_3, .string a1_4, .bool a1_5, .int .i64 a1_6, .int .i64 a1_7, .string a1_8, .string a1_9, .int .i64 a1_10, .string a1_11, .slice A1_12 l1_12.length c1_12, .int .i64 a1_13, .int .i64 a1_14, .int .i64 a1_15, .int .i64 a1_16, .int .i64 a1_17, .int .i64 a1_18, .int .i64 a1_19, .string a1_20]] w fun e w' => e = .returned (.bool r) ∧ Below w.heap.size w w' := by
  have hu34 := Try.underlying34
  have hu23 := Try.underlying23
  have hu25 := Try.underlying25
  have hu32 := Try.underlying32
  have HR := Aside0.mk hr0_12
  have HC := Aside0.mk hc0_12
  have HR1 := Aside0.mk hr1_12
  have HC1 := Aside0.mk hc1_12
  have HB := Aside0.mk (Below.refl w.heap.size w)
  clear hr0_12 hc0_12 hr1_12 hc1_12
  unfold wire_Same.f at h
  by_cases n1 : a0_0 = a1_0 ∧ a0_1 = a1_1 ∧ a0_2 = a1_2 ∧ a0_3.toList = a1_3.toList ∧ a0_4.toList = a1_4.toList ∧ a0_5 = a1_5 ∧ a0_6 = a1_6 ∧ a0_7 = a1_7 ∧ a0_8.toList = a1_8.toList ∧ a0_9.toList = a1_9.toList ∧ a0_10 = a1_10 ∧ a0_11.toList = a1_11.toList
  case neg =>
    rw [if_neg n1] at h
    have N1 := Aside0.mk n1
    clear n1
    obtain rfl := Option.some.inj h
    clear h
    go_enter Try.func13, Try.ntmps13
    go_wp2_with (first | ((with_reducible refine gate_dst (N := 2) rfl ?_); refine box_event ?hg (N := 2) ?hd (cs := #[.int .i64 a0_0, .int .i64 a0_1, .int .i64 a0_2, .string a0_3, .string a0_4, .bool a0_5, .int .i64 a0_6, .int .i64 a0_7, .string a0_8, .string a0_9, .int .i64 a0_10, .string a0_11, .slice A0_12 l0_12.length c0_12, .int .i64 a0_13, .int .i64 a0_14, .int .i64 a0_15, .int .i64 a0_16, .int .i64 a0_17, .int .i64 a0_18, .int .i64 a0_19, .string a0_20]) (t := 34) ?hr ?_; (case hd => rfl); (case hg => rfl); (case hr => first | (go_simp; done) | (go_simp; rfl)); intro gb hg w2 hbox hb; have BM := Aside0.mk hbox; replace HB := Aside0.mk (below_step zB hb); clear hb hbox hg) | ((with_reducible refine gate_dst (N := 3) rfl ?_); refine box_event ?hg (N := 3) ?hd (cs := #[.int .i64 a1_0, .int .i64 a1_1, .int .i64 a1_2, .string a1_3, .string a1_4, .bool a1_5, .int .i64 a1_6, .int .i64 a1_7, .string a1_8, .string a1_9, .int .i64 a1_10, .string a1_11, .slice A1_12 l1_12.length c1_12, .int .i64 a1_13, .int .i64 a1_14, .int .i64 a1_15, .int .i64 a1_16, .int .i64 a1_17, .int .i64 a1_18, .int .i64 a1_19, .string a1_20]) (t := 34) ?hr ?_; (case hd => rfl); (case hg => rfl); (case hr => first | (go_simp; done) | (go_simp; rfl)); intro gc hg w3 hbox hb; have BN := Aside0.mk hbox; replace BM := Aside0.mk (blk_below (zk BM) hb); replace HB := Aside0.mk (below_step zB hb); clear hb hbox hg; have p0 : w3.cell? ⟨gb, 0, none⟩ = some (.int .i64 a0_0) := (blk_cell BM.out 0).trans rfl; have p1 : w3.cell? ⟨gb, 1, none⟩ = some (.int .i64 a0_1) := (blk_cell BM.out 1).trans rfl; have p2 : w3.cell? ⟨gb, 2, none⟩ = some (.int .i64 a0_2) := (blk_cell BM.out 2).trans rfl; have p3 : w3.cell? ⟨gb, 3, none⟩ = some (.string a0_3) := (blk_cell BM.out 3).trans rfl; have p4 : w3.cell? ⟨gb, 4, none⟩ = some (.string a0_4) := (blk_cell BM.out 4).trans rfl; have p5 : w3.cell? ⟨gb, 5, none⟩ = some (.bool a0_5) := (blk_cell BM.out 5).trans rfl; have p6 : w3.cell? ⟨gb, 6, none⟩ = some (.int .i64 a0_6) := (blk_cell BM.out 6).trans rfl; have p7 : w3.cell? ⟨gb, 7, none⟩ = some (.int .i64 a0_7) := (blk_cell BM.out 7).trans rfl; have p8 : w3.cell? ⟨gb, 8, none⟩ = some (.string a0_8) := (blk_cell BM.out 8).trans rfl; have p9 : w3.cell? ⟨gb, 9, none⟩ = some (.string a0_9) := (blk_cell BM.out 9).trans rfl; have p10 : w3.cell? ⟨gb, 10, none⟩ = some (.int .i64 a0_10) := (blk_cell BM.out 10).trans rfl; have p11 : w3.cell? ⟨gb, 11, none⟩ = some (.string a0_11) := (blk_cell BM.out 11).trans rfl; have p12 : w3.cell? ⟨gb, 12, none⟩ = some (.slice A0_12 l0_12.length c0_12) := (blk_cell BM.out 12).trans rfl; have q0 : w3.cell? ⟨gc, 0, none⟩ = some (.int .i64 a1_0) := (blk_cell BN.out 0).trans rfl; have q1 : w3.cell? ⟨gc, 1, none⟩ = some (.int .i64 a1_1) := (blk_cell BN.out 1).trans rfl; have q2 : w3.cell? ⟨gc, 2, none⟩ = some (.int .i64 a1_2) := (blk_cell BN.out 2).trans rfl; have q3 : w3.cell? ⟨gc, 3, none⟩ = some (.string a1_3) := (blk_cell BN.out 3).trans rfl; have q4 : w3.cell? ⟨gc, 4, none⟩ = some (.string a1_4) := (blk_cell BN.out 4).trans rfl; have q5 : w3.cell? ⟨gc, 5, none⟩ = some (.bool a1_5) := (blk_cell BN.out 5).trans rfl; have q6 : w3.cell? ⟨gc, 6, none⟩ = some (.int .i64 a1_6) := (blk_cell BN.out 6).trans rfl; have q7 : w3.cell? ⟨gc, 7, none⟩ = some (.int .i64 a1_7) := (blk_cell BN.out 7).trans rfl; have q8 : w3.cell? ⟨gc, 8, none⟩ = some (.string a1_8) := (blk_cell BN.out 8).trans rfl; have q9 : w3.cell? ⟨gc, 9, none⟩ = some (.string a1_9) := (blk_cell BN.out 9).trans rfl; have q10 : w3.cell? ⟨gc, 10, none⟩ = some (.int .i64 a1_10) := (blk_cell BN.out 10).trans rfl; have q11 : w3.cell? ⟨gc, 11, none⟩ = some (.string a1_11) := (blk_cell BN.out 11).trans rfl; have q12 : w3.cell? ⟨gc, 12, none⟩ = some (.slice A1_12 l1_12.length c1_12) := (blk_cell BN.out 12).trans rfl))
    all_goals first | exact absurd ⟨by first | rfl | assumption, by first | rfl | assumption, by first | rfl | assumption, by first | rfl | assumption, by first | rfl | assumption, by first | rfl | assumption, by first | rfl | assumption, by first | rfl | assumption, by first | rfl | assumption, by first | rfl | assumption, by first | rfl | assumption, by first | rfl | assumption⟩ N1.out | (go_ret; exact ⟨rfl, zB⟩)
  rw [if_pos n1] at h
  obtain ⟨rfl, rfl, rfl, n3, n4, rfl, rfl, rfl, n8, n9, rfl, n11⟩ := n1
  replace h := Option.bind_eq_some_iff.mp h
  obtain ⟨t, HE, h⟩ := h
  have HE := Aside0.mk HE
  cases t with
  | false =>
    rw [if_neg (by decide)] at h
    obtain rfl := Option.some.inj h
    clear h
    go_enter Try.func13, Try.ntmps13
    go_wp2_with (first | ((with_reducible refine gate_dst (N := 2) rfl ?_); refine box_event ?hg (N := 2) ?hd (cs := #[.int .i64 a0_0, .int .i64 a0_1, .int .i64 a0_2, .string a0_3, .string a0_4, .bool a0_5, .int .i64 a0_6, .int .i64 a0_7, .string a0_8, .string a0_9, .int .i64 a0_10, .string a0_11, .slice A0_12 l0_12.length c0_12, .int .i64 a0_13, .int .i64 a0_14, .int .i64 a0_15, .int .i64 a0_16, .int .i64 a0_17, .int .i64 a0_18, .int .i64 a0_19, .string a0_20]) (t := 34) ?hr ?_; (case hd => rfl); (case hg => rfl); (case hr => first | (go_simp; done) | (go_simp; rfl)); intro gb hg w2 hbox hb; have BM := Aside0.mk hbox; replace HB := Aside0.mk (below_step zB hb); clear hb hbox hg) | ((with_reducible refine gate_dst (N := 3) rfl ?_); refine box_event ?hg (N := 3) ?hd (cs := #[.int .i64 a0_0, .int .i64 a0_1, .int .i64 a0_2, .string a1_3, .string a1_4, .bool a0_5, .int .i64 a0_6, .int .i64 a0_7, .string a1_8, .string a1_9, .int .i64 a0_10, .string a1_11, .slice A1_12 l1_12.length c1_12, .int .i64 a1_13, .int .i64 a1_14, .int .i64 a1_15, .int .i64 a1_16, .int .i64 a1_17, .int .i64 a1_18, .int .i64 a1_19, .string a1_20]) (t := 34) ?hr ?_; (case hd => rfl); (case hg => rfl); (case hr => first | (go_simp; done) | (go_simp; rfl)); intro gc hg w3 hbox hb; have BN := Aside0.mk hbox; replace BM := Aside0.mk (blk_below (zk BM) hb); replace HB := Aside0.mk (below_step zB hb); clear hb hbox hg; have p0 : w3.cell? ⟨gb, 0, none⟩ = some (.int .i64 a0_0) := (blk_cell BM.out 0).trans rfl; have p1 : w3.cell? ⟨gb, 1, none⟩ = some (.int .i64 a0_1) := (blk_cell BM.out 1).trans rfl; have p2 : w3.cell? ⟨gb, 2, none⟩ = some (.int .i64 a0_2) := (blk_cell BM.out 2).trans rfl; have p3 : w3.cell? ⟨gb, 3, none⟩ = some (.string a0_3) := (blk_cell BM.out 3).trans rfl; have p4 : w3.cell? ⟨gb, 4, none⟩ = some (.string a0_4) := (blk_cell BM.out 4).trans rfl; have p5 : w3.cell? ⟨gb, 5, none⟩ = some (.bool a0_5) := (blk_cell BM.out 5).trans rfl; have p6 : w3.cell? ⟨gb, 6, none⟩ = some (.int .i64 a0_6) := (blk_cell BM.out 6).trans rfl; have p7 : w3.cell? ⟨gb, 7, none⟩ = some (.int .i64 a0_7) := (blk_cell BM.out 7).trans rfl; have p8 : w3.cell? ⟨gb, 8, none⟩ = some (.string a0_8) := (blk_cell BM.out 8).trans rfl; have p9 : w3.cell? ⟨gb, 9, none⟩ = some (.string a0_9) := (blk_cell BM.out 9).trans rfl; have p10 : w3.cell? ⟨gb, 10, none⟩ = some (.int .i64 a0_10) := (blk_cell BM.out 10).trans rfl; have p11 : w3.cell? ⟨gb, 11, none⟩ = some (.string a0_11) := (blk_cell BM.out 11).trans rfl; have p12 : w3.cell? ⟨gb, 12, none⟩ = some (.slice A0_12 l0_12.length c0_12) := (blk_cell BM.out 12).trans rfl; have q0 : w3.cell? ⟨gc, 0, none⟩ = some (.int .i64 a0_0) := (blk_cell BN.out 0).trans rfl; have q1 : w3.cell? ⟨gc, 1, none⟩ = some (.int .i64 a0_1) := (blk_cell BN.out 1).trans rfl; have q2 : w3.cell? ⟨gc, 2, none⟩ = some (.int .i64 a0_2) := (blk_cell BN.out 2).trans rfl; have q3 : w3.cell? ⟨gc, 3, none⟩ = some (.string a1_3) := (blk_cell BN.out 3).trans rfl; have q4 : w3.cell? ⟨gc, 4, none⟩ = some (.string a1_4) := (blk_cell BN.out 4).trans rfl; have q5 : w3.cell? ⟨gc, 5, none⟩ = some (.bool a0_5) := (blk_cell BN.out 5).trans rfl; have q6 : w3.cell? ⟨gc, 6, none⟩ = some (.int .i64 a0_6) := (blk_cell BN.out 6).trans rfl; have q7 : w3.cell? ⟨gc, 7, none⟩ = some (.int .i64 a0_7) := (blk_cell BN.out 7).trans rfl; have q8 : w3.cell? ⟨gc, 8, none⟩ = some (.string a1_8) := (blk_cell BN.out 8).trans rfl; have q9 : w3.cell? ⟨gc, 9, none⟩ = some (.string a1_9) := (blk_cell BN.out 9).trans rfl; have q10 : w3.cell? ⟨gc, 10, none⟩ = some (.int .i64 a0_10) := (blk_cell BN.out 10).trans rfl; have q11 : w3.cell? ⟨gc, 11, none⟩ = some (.string a1_11) := (blk_cell BN.out 11).trans rfl; have q12 : w3.cell? ⟨gc, 12, none⟩ = some (.slice A1_12 l1_12.length c1_12) := (blk_cell BN.out 12).trans rfl) | (go_at_call 30; (with_reducible refine (slices_Equal_string_string.calls k A0_12 c0_12 l0_12 A1_12 c1_12 l1_12 false _ (Kd.C_below HR.out zB) HC.out (Kd.C_below HR1.out zB) HC1.out HE.out).mono ?_); rintro e w4 ⟨rfl, ⟨nd, rfl⟩⟩))
    go_ret
    exact ⟨by first | rfl | (simp; done), zB⟩
  | true =>
    rw [if_pos rfl] at h
    by_cases m1 : a0_13 = a1_13 ∧ a0_14 = a1_14 ∧ a0_15 = a1_15 ∧ a0_16 = a1_16 ∧ a0_17 = a1_17 ∧ a0_18 = a1_18 ∧ a0_19 = a1_19 ∧ a0_20.toList = a1_20.toList
    case neg =>
      rw [if_neg m1] at h
      have M1 := Aside0.mk m1
      clear m1
      obtain rfl := Option.some.inj h
      clear h
      go_enter Try.func13, Try.ntmps13
      go_wp2_with (first | ((with_reducible refine gate_dst (N := 2) rfl ?_); refine box_event ?hg (N := 2) ?hd (cs := #[.int .i64 a0_0, .int .i64 a0_1, .int .i64 a0_2, .string a0_3, .string a0_4, .bool a0_5, .int .i64 a0_6, .int .i64 a0_7, .string a0_8, .string a0_9, .int .i64 a0_10, .string a0_11, .slice A0_12 l0_12.length c0_12, .int .i64 a0_13, .int .i64 a0_14, .int .i64 a0_15, .int .i64 a0_16, .int .i64 a0_17, .int .i64 a0_18, .int .i64 a0_19, .string a0_20]) (t := 34) ?hr ?_; (case hd => rfl); (case hg => rfl); (case hr => first | (go_simp; done) | (go_simp; rfl)); intro gb hg w2 hbox hb; have BM := Aside0.mk hbox; replace HB := Aside0.mk (below_step zB hb); clear hb hbox hg) | ((with_reducible refine gate_dst (N := 3) rfl ?_); refine box_event ?hg (N := 3) ?hd (cs := #[.int .i64 a0_0, .int .i64 a0_1, .int .i64 a0_2, .string a1_3, .string a1_4, .bool a0_5, .int .i64 a0_6, .int .i64 a0_7, .string a1_8, .string a1_9, .int .i64 a0_10, .string a1_11, .slice A1_12 l1_12.length c1_12, .int .i64 a1_13, .int .i64 a1_14, .int .i64 a1_15, .int .i64 a1_16, .int .i64 a1_17, .int .i64 a1_18, .int .i64 a1_19, .string a1_20]) (t := 34) ?hr ?_; (case hd => rfl); (case hg => rfl); (case hr => first | (go_simp; done) | (go_simp; rfl)); intro gc hg w3 hbox hb; have BN := Aside0.mk hbox; replace BM := Aside0.mk (blk_below (zk BM) hb); replace HB := Aside0.mk (below_step zB hb); clear hb hbox hg; have p0 : w3.cell? ⟨gb, 0, none⟩ = some (.int .i64 a0_0) := (blk_cell BM.out 0).trans rfl; have p1 : w3.cell? ⟨gb, 1, none⟩ = some (.int .i64 a0_1) := (blk_cell BM.out 1).trans rfl; have p2 : w3.cell? ⟨gb, 2, none⟩ = some (.int .i64 a0_2) := (blk_cell BM.out 2).trans rfl; have p3 : w3.cell? ⟨gb, 3, none⟩ = some (.string a0_3) := (blk_cell BM.out 3).trans rfl; have p4 : w3.cell? ⟨gb, 4, none⟩ = some (.string a0_4) := (blk_cell BM.out 4).trans rfl; have p5 : w3.cell? ⟨gb, 5, none⟩ = some (.bool a0_5) := (blk_cell BM.out 5).trans rfl; have p6 : w3.cell? ⟨gb, 6, none⟩ = some (.int .i64 a0_6) := (blk_cell BM.out 6).trans rfl; have p7 : w3.cell? ⟨gb, 7, none⟩ = some (.int .i64 a0_7) := (blk_cell BM.out 7).trans rfl; have p8 : w3.cell? ⟨gb, 8, none⟩ = some (.string a0_8) := (blk_cell BM.out 8).trans rfl; have p9 : w3.cell? ⟨gb, 9, none⟩ = some (.string a0_9) := (blk_cell BM.out 9).trans rfl; have p10 : w3.cell? ⟨gb, 10, none⟩ = some (.int .i64 a0_10) := (blk_cell BM.out 10).trans rfl; have p11 : w3.cell? ⟨gb, 11, none⟩ = some (.string a0_11) := (blk_cell BM.out 11).trans rfl; have p12 : w3.cell? ⟨gb, 12, none⟩ = some (.slice A0_12 l0_12.length c0_12) := (blk_cell BM.out 12).trans rfl; have p13 : w3.cell? ⟨gb, 13, none⟩ = some (.int .i64 a0_13) := (blk_cell BM.out 13).trans rfl; have p14 : w3.cell? ⟨gb, 14, none⟩ = some (.int .i64 a0_14) := (blk_cell BM.out 14).trans rfl; have p15 : w3.cell? ⟨gb, 15, none⟩ = some (.int .i64 a0_15) := (blk_cell BM.out 15).trans rfl; have p16 : w3.cell? ⟨gb, 16, none⟩ = some (.int .i64 a0_16) := (blk_cell BM.out 16).trans rfl; have p17 : w3.cell? ⟨gb, 17, none⟩ = some (.int .i64 a0_17) := (blk_cell BM.out 17).trans rfl; have p18 : w3.cell? ⟨gb, 18, none⟩ = some (.int .i64 a0_18) := (blk_cell BM.out 18).trans rfl; have p19 : w3.cell? ⟨gb, 19, none⟩ = some (.int .i64 a0_19) := (blk_cell BM.out 19).trans rfl; have p20 : w3.cell? ⟨gb, 20, none⟩ = some (.string a0_20) := (blk_cell BM.out 20).trans rfl; have q0 : w3.cell? ⟨gc, 0, none⟩ = some (.int .i64 a0_0) := (blk_cell BN.out 0).trans rfl; have q1 : w3.cell? ⟨gc, 1, none⟩ = some (.int .i64 a0_1) := (blk_cell BN.out 1).trans rfl; have q2 : w3.cell? ⟨gc, 2, none⟩ = some (.int .i64 a0_2) := (blk_cell BN.out 2).trans rfl; have q3 : w3.cell? ⟨gc, 3, none⟩ = some (.string a1_3) := (blk_cell BN.out 3).trans rfl; have q4 : w3.cell? ⟨gc, 4, none⟩ = some (.string a1_4) := (blk_cell BN.out 4).trans rfl; have q5 : w3.cell? ⟨gc, 5, none⟩ = some (.bool a0_5) := (blk_cell BN.out 5).trans rfl; have q6 : w3.cell? ⟨gc, 6, none⟩ = some (.int .i64 a0_6) := (blk_cell BN.out 6).trans rfl; have q7 : w3.cell? ⟨gc, 7, none⟩ = some (.int .i64 a0_7) := (blk_cell BN.out 7).trans rfl; have q8 : w3.cell? ⟨gc, 8, none⟩ = some (.string a1_8) := (blk_cell BN.out 8).trans rfl; have q9 : w3.cell? ⟨gc, 9, none⟩ = some (.string a1_9) := (blk_cell BN.out 9).trans rfl; have q10 : w3.cell? ⟨gc, 10, none⟩ = some (.int .i64 a0_10) := (blk_cell BN.out 10).trans rfl; have q11 : w3.cell? ⟨gc, 11, none⟩ = some (.string a1_11) := (blk_cell BN.out 11).trans rfl; have q12 : w3.cell? ⟨gc, 12, none⟩ = some (.slice A1_12 l1_12.length c1_12) := (blk_cell BN.out 12).trans rfl; have q13 : w3.cell? ⟨gc, 13, none⟩ = some (.int .i64 a1_13) := (blk_cell BN.out 13).trans rfl; have q14 : w3.cell? ⟨gc, 14, none⟩ = some (.int .i64 a1_14) := (blk_cell BN.out 14).trans rfl; have q15 : w3.cell? ⟨gc, 15, none⟩ = some (.int .i64 a1_15) := (blk_cell BN.out 15).trans rfl; have q16 : w3.cell? ⟨gc, 16, none⟩ = some (.int .i64 a1_16) := (blk_cell BN.out 16).trans rfl; have q17 : w3.cell? ⟨gc, 17, none⟩ = some (.int .i64 a1_17) := (blk_cell BN.out 17).trans rfl; have q18 : w3.cell? ⟨gc, 18, none⟩ = some (.int .i64 a1_18) := (blk_cell BN.out 18).trans rfl; have q19 : w3.cell? ⟨gc, 19, none⟩ = some (.int .i64 a1_19) := (blk_cell BN.out 19).trans rfl; have q20 : w3.cell? ⟨gc, 20, none⟩ = some (.string a1_20) := (blk_cell BN.out 20).trans rfl) | (go_at_call 30; (with_reducible refine (slices_Equal_string_string.calls k A0_12 c0_12 l0_12 A1_12 c1_12 l1_12 true _ (Kd.C_below HR.out zB) HC.out (Kd.C_below HR1.out zB) HC1.out HE.out).mono ?_); rintro e w4 ⟨rfl, ⟨nd, rfl⟩⟩))
      all_goals first | exact absurd ⟨by first | rfl | assumption, by first | rfl | assumption, by first | rfl | assumption, by first | rfl | assumption, by first | rfl | assumption, by first | rfl | assumption, by first | rfl | assumption, by first | rfl | assumption⟩ M1.out | (go_ret; exact ⟨rfl, zB⟩)
    rw [if_pos m1] at h
    obtain ⟨rfl, rfl, rfl, rfl, rfl, rfl, rfl, n20⟩ := m1
    obtain rfl := Option.some.inj h
    clear h
    go_enter Try.func13, Try.ntmps13
    go_wp2_with (first | ((with_reducible refine gate_dst (N := 2) rfl ?_); refine box_event ?hg (N := 2) ?hd (cs := #[.int .i64 a0_0, .int .i64 a0_1, .int .i64 a0_2, .string a0_3, .string a0_4, .bool a0_5, .int .i64 a0_6, .int .i64 a0_7, .string a0_8, .string a0_9, .int .i64 a0_10, .string a0_11, .slice A0_12 l0_12.length c0_12, .int .i64 a0_13, .int .i64 a0_14, .int .i64 a0_15, .int .i64 a0_16, .int .i64 a0_17, .int .i64 a0_18, .int .i64 a0_19, .string a0_20]) (t := 34) ?hr ?_; (case hd => rfl); (case hg => rfl); (case hr => first | (go_simp; done) | (go_simp; rfl)); intro gb hg w2 hbox hb; have BM := Aside0.mk hbox; replace HB := Aside0.mk (below_step zB hb); clear hb hbox hg) | ((with_reducible refine gate_dst (N := 3) rfl ?_); refine box_event ?hg (N := 3) ?hd (cs := #[.int .i64 a0_0, .int .i64 a0_1, .int .i64 a0_2, .string a1_3, .string a1_4, .bool a0_5, .int .i64 a0_6, .int .i64 a0_7, .string a1_8, .string a1_9, .int .i64 a0_10, .string a1_11, .slice A1_12 l1_12.length c1_12, .int .i64 a0_13, .int .i64 a0_14, .int .i64 a0_15, .int .i64 a0_16, .int .i64 a0_17, .int .i64 a0_18, .int .i64 a0_19, .string a1_20]) (t := 34) ?hr ?_; (case hd => rfl); (case hg => rfl); (case hr => first | (go_simp; done) | (go_simp; rfl)); intro gc hg w3 hbox hb; have BN := Aside0.mk hbox; replace BM := Aside0.mk (blk_below (zk BM) hb); replace HB := Aside0.mk (below_step zB hb); clear hb hbox hg; have p0 : w3.cell? ⟨gb, 0, none⟩ = some (.int .i64 a0_0) := (blk_cell BM.out 0).trans rfl; have p1 : w3.cell? ⟨gb, 1, none⟩ = some (.int .i64 a0_1) := (blk_cell BM.out 1).trans rfl; have p2 : w3.cell? ⟨gb, 2, none⟩ = some (.int .i64 a0_2) := (blk_cell BM.out 2).trans rfl; have p3 : w3.cell? ⟨gb, 3, none⟩ = some (.string a0_3) := (blk_cell BM.out 3).trans rfl; have p4 : w3.cell? ⟨gb, 4, none⟩ = some (.string a0_4) := (blk_cell BM.out 4).trans rfl; have p5 : w3.cell? ⟨gb, 5, none⟩ = some (.bool a0_5) := (blk_cell BM.out 5).trans rfl; have p6 : w3.cell? ⟨gb, 6, none⟩ = some (.int .i64 a0_6) := (blk_cell BM.out 6).trans rfl; have p7 : w3.cell? ⟨gb, 7, none⟩ = some (.int .i64 a0_7) := (blk_cell BM.out 7).trans rfl; have p8 : w3.cell? ⟨gb, 8, none⟩ = some (.string a0_8) := (blk_cell BM.out 8).trans rfl; have p9 : w3.cell? ⟨gb, 9, none⟩ = some (.string a0_9) := (blk_cell BM.out 9).trans rfl; have p10 : w3.cell? ⟨gb, 10, none⟩ = some (.int .i64 a0_10) := (blk_cell BM.out 10).trans rfl; have p11 : w3.cell? ⟨gb, 11, none⟩ = some (.string a0_11) := (blk_cell BM.out 11).trans rfl; have p12 : w3.cell? ⟨gb, 12, none⟩ = some (.slice A0_12 l0_12.length c0_12) := (blk_cell BM.out 12).trans rfl; have p13 : w3.cell? ⟨gb, 13, none⟩ = some (.int .i64 a0_13) := (blk_cell BM.out 13).trans rfl; have p14 : w3.cell? ⟨gb, 14, none⟩ = some (.int .i64 a0_14) := (blk_cell BM.out 14).trans rfl; have p15 : w3.cell? ⟨gb, 15, none⟩ = some (.int .i64 a0_15) := (blk_cell BM.out 15).trans rfl; have p16 : w3.cell? ⟨gb, 16, none⟩ = some (.int .i64 a0_16) := (blk_cell BM.out 16).trans rfl; have p17 : w3.cell? ⟨gb, 17, none⟩ = some (.int .i64 a0_17) := (blk_cell BM.out 17).trans rfl; have p18 : w3.cell? ⟨gb, 18, none⟩ = some (.int .i64 a0_18) := (blk_cell BM.out 18).trans rfl; have p19 : w3.cell? ⟨gb, 19, none⟩ = some (.int .i64 a0_19) := (blk_cell BM.out 19).trans rfl; have p20 : w3.cell? ⟨gb, 20, none⟩ = some (.string a0_20) := (blk_cell BM.out 20).trans rfl; have q0 : w3.cell? ⟨gc, 0, none⟩ = some (.int .i64 a0_0) := (blk_cell BN.out 0).trans rfl; have q1 : w3.cell? ⟨gc, 1, none⟩ = some (.int .i64 a0_1) := (blk_cell BN.out 1).trans rfl; have q2 : w3.cell? ⟨gc, 2, none⟩ = some (.int .i64 a0_2) := (blk_cell BN.out 2).trans rfl; have q3 : w3.cell? ⟨gc, 3, none⟩ = some (.string a1_3) := (blk_cell BN.out 3).trans rfl; have q4 : w3.cell? ⟨gc, 4, none⟩ = some (.string a1_4) := (blk_cell BN.out 4).trans rfl; have q5 : w3.cell? ⟨gc, 5, none⟩ = some (.bool a0_5) := (blk_cell BN.out 5).trans rfl; have q6 : w3.cell? ⟨gc, 6, none⟩ = some (.int .i64 a0_6) := (blk_cell BN.out 6).trans rfl; have q7 : w3.cell? ⟨gc, 7, none⟩ = some (.int .i64 a0_7) := (blk_cell BN.out 7).trans rfl; have q8 : w3.cell? ⟨gc, 8, none⟩ = some (.string a1_8) := (blk_cell BN.out 8).trans rfl; have q9 : w3.cell? ⟨gc, 9, none⟩ = some (.string a1_9) := (blk_cell BN.out 9).trans rfl; have q10 : w3.cell? ⟨gc, 10, none⟩ = some (.int .i64 a0_10) := (blk_cell BN.out 10).trans rfl; have q11 : w3.cell? ⟨gc, 11, none⟩ = some (.string a1_11) := (blk_cell BN.out 11).trans rfl; have q12 : w3.cell? ⟨gc, 12, none⟩ = some (.slice A1_12 l1_12.length c1_12) := (blk_cell BN.out 12).trans rfl; have q13 : w3.cell? ⟨gc, 13, none⟩ = some (.int .i64 a0_13) := (blk_cell BN.out 13).trans rfl; have q14 : w3.cell? ⟨gc, 14, none⟩ = some (.int .i64 a0_14) := (blk_cell BN.out 14).trans rfl; have q15 : w3.cell? ⟨gc, 15, none⟩ = some (.int .i64 a0_15) := (blk_cell BN.out 15).trans rfl; have q16 : w3.cell? ⟨gc, 16, none⟩ = some (.int .i64 a0_16) := (blk_cell BN.out 16).trans rfl; have q17 : w3.cell? ⟨gc, 17, none⟩ = some (.int .i64 a0_17) := (blk_cell BN.out 17).trans rfl; have q18 : w3.cell? ⟨gc, 18, none⟩ = some (.int .i64 a0_18) := (blk_cell BN.out 18).trans rfl; have q19 : w3.cell? ⟨gc, 19, none⟩ = some (.int .i64 a0_19) := (blk_cell BN.out 19).trans rfl; have q20 : w3.cell? ⟨gc, 20, none⟩ = some (.string a1_20) := (blk_cell BN.out 20).trans rfl) | (go_at_call 30; (with_reducible refine (slices_Equal_string_string.calls k A0_12 c0_12 l0_12 A1_12 c1_12 l1_12 true _ (Kd.C_below HR.out zB) HC.out (Kd.C_below HR1.out zB) HC1.out HE.out).mono ?_); rintro e w4 ⟨rfl, ⟨nd, rfl⟩⟩))
    go_ret
    exact ⟨by first | rfl | (simp; done), zB⟩
/-! ### block_may: function 80 -/
def block_may.f (a0 : Int) : Option (Bool) := if a0 ≥ 1 then (some (decide (a0 ≤ 64))) else (some false)
set_option maxHeartbeats 8000000 in
set_option maxRecDepth 100000 in
theorem block_may.calls (a0 : Int) (r : Bool) (w : World) (h : block_may.f a0 = some r) :
  Calls Try.prog 80 #[.int .i64 a0] w fun e w' => e = .returned (.bool r) ∧ Drawn0 w w' := by
 have H : (if a0 ≥ 1 then (some (decide (a0 ≤ 64))) else (some false)) = some r := h
 clear h; by_cases c2 : a0 ≥ 1
 ·
  rw [if_pos c2] at H
  have c2b0 : decide (1 ≤ a0) = true := decide_eq_true c2
  clear c2; obtain rfl := Option.some.inj H
  go_enter Try.func80, Try.ntmps80
  go_wp2
  go_ret
  exact ⟨by first | rfl | (simp; done) | (simp [*]; done), by repeat (first | exact Drawn0.refl _ | apply Drawn0.step)⟩
 ·
  rw [if_neg c2] at H
  have c2b0 : decide (1 ≤ a0) = false := decide_eq_false c2
  clear c2; obtain rfl := Option.some.inj H
  go_enter Try.func80, Try.ntmps80
  go_wp2
  go_ret
  exact ⟨by first | rfl | (simp; done) | (simp [*]; done), by repeat (first | exact Drawn0.refl _ | apply Drawn0.step)⟩
/-! ### block_Count: function 72 -/
def block_Count.j0 : Nat → Int → Int → Bool → Option (Int)
 | 0, _, _, _ => none
 | k + 1, x0, x1, x16 => if x16 = true then (some 0) else (if x1 = 0 then (none) else (if (wrap64 (Int.tdiv (wrap64 ((wrap64 (x0 + x1)) - 1)) x1)) > 96 then (some 0) else (some (wrap64 (Int.tdiv (wrap64 ((wrap64 (x0 + x1)) - 1)) x1)))))
def block_Count.f (k : Nat) (a0 : Int) (a1 : Int) : Option (Int) := if a0 < 1 then (block_Count.j0 k a0 a1 true) else (if a0 > 4096 then (block_Count.j0 k a0 a1 true) else ((block_may.f a1).bind fun t105 => (block_Count.j0 k a0 a1 (!t105))))
theorem block_Count.mono_l : ∀ k, (∀ y0 y1 y2, LeO (block_Count.j0 k y0 y1 y2) (block_Count.j0 (k + 1) y0 y1 y2))
 | 0 => fun _ _ _ r h => by simp [block_Count.j0] at h
 | k + 1 => by
  have ih0 := block_Count.mono_l k
  ·
   intro y0 y1 y2
   unfold block_Count.j0
   repeat' first | (with_reducible first | apply ih0 | exact LeO.refl _ | exact LeO.none _ | refine LeO.ite ?_ ?_ | refine LeO.bind ?_ (fun _ => ?_)) | apply ih0 | exact LeO.none _ | refine LeO.ite ?_ ?_ | refine LeO.bind ?_ (fun _ => ?_)
theorem block_Count.mono : ∀ a0 a1 k, LeO (block_Count.f k a0 a1) (block_Count.f (k + 1) a0 a1) := by
 intro a0 a1 k
 have ih0 := block_Count.mono_l k
 unfold block_Count.f
 repeat' first | (with_reducible first | apply ih0 | exact LeO.refl _ | exact LeO.none _ | refine LeO.ite ?_ ?_ | refine LeO.bind ?_ (fun _ => ?_)) | apply ih0 | exact LeO.none _ | refine LeO.ite ?_ ?_ | refine LeO.bind ?_ (fun _ => ?_)
set_option maxHeartbeats 8000000 in
set_option maxRecDepth 100000 in
theorem block_Count.calls (k : Nat) (a0 : Int) (a1 : Int) (r : Int) (w : World) (h : block_Count.f k a0 a1 = some r) :
  Calls Try.prog 72 #[.int .i64 a0, .int .i64 a1] w fun e w' => e = .returned (.int .i64 r) ∧ Drawn0 w w' := by
 have H : (if a0 < 1 then (block_Count.j0 k a0 a1 true) else (if a0 > 4096 then (block_Count.j0 k a0 a1 true) else ((block_may.f a1).bind fun t105 => (block_Count.j0 k a0 a1 (!t105))))) = some r := h
 clear h; have HC3 := Aside0.mk H
 clear H; go_enter Try.func72, Try.ntmps72
 go_upto_region 1 with (fail)
 go_cut [16] (fun v16 wc => ∃ (kq : Nat) (x16_2 : Bool), v16 = .bool x16_2 ∧ Aside0 (block_Count.j0 kq a0 a1 x16_2 = some r) ∧ Aside0 (kq ≤ k) ∧ Drawn0 w wc)
 case first =>
  have H := HC3.out; clear HC3; by_cases c4 : a0 < 1
  ·
   rw [if_pos c4] at H
   have c4b0 : decide (a0 < 1) = true := decide_eq_true c4
   clear c4; (first | rw [c4b0] | (simp only [i64_w, i32_w]; rw [c4b0]) | skip)
   have H' := Aside0.mk H
   clear H; go_wp2
   go_meet
   case rel => exact ⟨_, (true), zF, H', ⟨by first | omega | exact Nat.le_refl _⟩, by repeat (first | exact Drawn0.refl _ | apply Drawn0.step)⟩
  ·
   rw [if_neg c4] at H
   have c4b0 : decide (a0 < 1) = false := decide_eq_false c4
   clear c4; (first | rw [c4b0] | (simp only [i64_w, i32_w]; rw [c4b0]) | skip)
   by_cases c5 : a0 > 4096
   ·
    rw [if_pos c5] at H
    have c5b0 : decide (4096 < a0) = true := decide_eq_true c5
    clear c5; have H' := Aside0.mk H
    clear H; go_wp2
    go_meet
    case rel => exact ⟨_, (true), zF, H', ⟨by first | omega | exact Nat.le_refl _⟩, by repeat (first | exact Drawn0.refl _ | apply Drawn0.step)⟩
   ·
    rw [if_neg c5] at H
    have c5b0 : decide (4096 < a0) = false := decide_eq_false c5
    clear c5; replace H := Option.bind_eq_some_iff.mp H
    obtain ⟨t105, A60, H⟩ := H
    replace H : (block_Count.j0 k a0 a1 (!t105)) = some r := H
    have A6 := Aside0.mk A60
    clear A60; have H' := Aside0.mk H
    clear H; go_wp2_with (first | (go_at_call 80; (with_reducible refine (block_may.calls a1 t105 _ A6.out).mono ?_); rintro e w' ⟨rfl, ⟨nd, rfl⟩⟩))
    go_meet
    case rel => exact ⟨_, (!t105), zF, H', ⟨by first | omega | exact Nat.le_refl _⟩, by repeat (first | exact Drawn0.refl _ | apply Drawn0.step)⟩
 case rest =>
  clear HC3; obtain ⟨kq, x16_2, rfl, HA, HJ2, ⟨mc2, rfl⟩⟩ := hcut
  cases kq with
  | zero => exact absurd HA.out (by simp [block_Count.j0])
  | succ kj2 =>
   have H := HA.out; clear HA; simp only [block_Count.j0] at H
   by_cases c7 : x16_2 = true
   ·
    subst c7
    have H1 : (some 0) = some r := by rw [if_pos rfl] at H; exact H
    clear H; have H := H1; clear H1; obtain rfl := Option.some.inj H
    go_wp2
    go_ret
    exact ⟨by first | rfl | (simp; done) | (simp [*]; done), by repeat (first | exact Drawn0.refl _ | apply Drawn0.step)⟩
   ·
    replace c7 := Bool.eq_false_iff.mpr c7
    subst c7
    have H1 : (if a1 = 0 then (none) else (if (wrap64 (Int.tdiv (wrap64 ((wrap64 (a0 + a1)) - 1)) a1)) > 96 then (some 0) else (some (wrap64 (Int.tdiv (wrap64 ((wrap64 (a0 + a1)) - 1)) a1))))) = some r := by rw [if_neg (show ¬ (false = true) by decide)] at H; exact H
    clear H; have H := H1; clear H1; by_cases c8 : a1 = 0
    ·
     rw [if_pos c8] at H
     exact absurd H (by simp)
    ·
     rw [if_neg c8] at H
     have c8b0 : (a1 == 0) = false := beq_eq_false_iff_ne.mpr c8
     have c8b1 : (a1 != 0) = true := bne_iff_ne.mpr c8
     by_cases c9 : (wrap64 (Int.tdiv (wrap64 ((wrap64 (a0 + a1)) - 1)) a1)) > 96
     ·
      rw [if_pos c9] at H
      have c9b0 : decide (96 < (wrap64 (Int.tdiv (wrap64 ((wrap64 (a0 + a1)) - 1)) a1))) = true := decide_eq_true c9
      clear c9; obtain rfl := Option.some.inj H
      go_wp2
      go_ret
      exact ⟨by first | rfl | (simp; done) | (simp [*]; done), by repeat (first | exact Drawn0.refl _ | apply Drawn0.step)⟩
     ·
      rw [if_neg c9] at H
      have c9b0 : decide (96 < (wrap64 (Int.tdiv (wrap64 ((wrap64 (a0 + a1)) - 1)) a1))) = false := decide_eq_false c9
      clear c9; obtain rfl := Option.some.inj H
      go_wp2
      go_ret
      exact ⟨by first | rfl | (simp; done) | (simp [*]; done), by repeat (first | exact Drawn0.refl _ | apply Drawn0.step)⟩
/-! ### manifest_seeded: function 73 -/
def manifest_seeded.f (a0 : Int) : Option (Bool) := if a0 ≥ 0 then (some (decide (a0 ≤ 72057594037927935))) else (some false)
set_option maxHeartbeats 8000000 in
set_option maxRecDepth 100000 in
theorem manifest_seeded.calls (a0 : Int) (r : Bool) (w : World) (h : manifest_seeded.f a0 = some r) :
  Calls Try.prog 73 #[.int .i64 a0] w fun e w' => e = .returned (.bool r) ∧ Drawn0 w w' := by
 have H : (if a0 ≥ 0 then (some (decide (a0 ≤ 72057594037927935))) else (some false)) = some r := h
 clear h; by_cases c2 : a0 ≥ 0
 ·
  rw [if_pos c2] at H
  have c2b0 : decide (0 ≤ a0) = true := decide_eq_true c2
  clear c2; obtain rfl := Option.some.inj H
  go_enter Try.func73, Try.ntmps73
  go_wp2
  go_ret
  exact ⟨by first | rfl | (simp; done) | (simp [*]; done), by repeat (first | exact Drawn0.refl _ | apply Drawn0.step)⟩
 ·
  rw [if_neg c2] at H
  have c2b0 : decide (0 ≤ a0) = false := decide_eq_false c2
  clear c2; obtain rfl := Option.some.inj H
  go_enter Try.func73, Try.ntmps73
  go_wp2
  go_ret
  exact ⟨by first | rfl | (simp; done) | (simp [*]; done), by repeat (first | exact Drawn0.refl _ | apply Drawn0.step)⟩
/-! ### ratio_Gcd: function 85 -/
def ratio_Gcd.f (a0 a1 : Int) : Option Int := if a0 < 0 then some 0 else if a1 < 0 then some 0 else if a0 ≤ 9223372036854775807 ∧ a1 ≤ 9223372036854775807 then some ((Nat.gcd a0.toNat a1.toNat : Nat) : Int) else none
def ratio_Gcd.fr (x y : Int) (u : Nat → Value) : Act := { tmps := #[.int .i64 x, .int .i64 y, u 2, u 3, u 4, u 5, u 6, u 7, u 8, u 9, u 10, u 11, u 12, u 13, u 14, u 15, u 16, u 17], defers := [] }
theorem ratio_Gcd.fr_eq (x y : Int) (u2 u3 u4 u5 u6 u7 u8 u9 u10 u11 u12 u13 u14 u15 u16 u17 : Value) : ({ tmps := #[.int .i64 x, .int .i64 y, u2, u3, u4, u5, u6, u7, u8, u9, u10, u11, u12, u13, u14, u15, u16, u17], defers := [] } : Act) = ratio_Gcd.fr x y (fun i => [undef, undef, u2, u3, u4, u5, u6, u7, u8, u9, u10, u11, u12, u13, u14, u15, u16, u17].getD i undef) := rfl
def ratio_Gcd.Inv (r : Int) (w0 : World) (n : Nat) (a : Act) (w : World) : Prop :=
  ∃ (x y : Int) (u : Nat → Value), a = ratio_Gcd.fr x y u ∧ (0 ≤ x ∧ x ≤ 9223372036854775807) ∧ (0 ≤ y ∧ y ≤ 9223372036854775807) ∧ y.toNat = n ∧ Aside0 (((Nat.gcd x.toNat y.toNat : Nat) : Int) = r) ∧ Aside0 (Drawn0 w0 w)
set_option maxHeartbeats 1000000 in
theorem ratio_Gcd.calls (a0 a1 r : Int) (w : World) (h : ratio_Gcd.f a0 a1 = some r) :
    Calls Try.prog 85 #[.int .i64 a0, .int .i64 a1] w fun e w' => e = .returned (.int .i64 r) ∧ Drawn0 w w' := by
  unfold ratio_Gcd.f at h
  by_cases h0 : a0 < 0
  · rw [if_pos h0] at h
    obtain rfl := Option.some.inj h
    clear h
    go_enter Try.func85, Try.ntmps85
    go_wp2_with fail
    refine wp_scope_ghost 0 (fun _ _ _ => False) rfl (fun _ _ _ hF => hF.elim) ?_
    intro _
    go_wp2_with fail
    simp only [Exit.jump]
    go_ret
    exact ⟨rfl, Drawn0.refl _⟩
  rw [if_neg h0] at h
  by_cases h1 : a1 < 0
  · rw [if_pos h1] at h
    obtain rfl := Option.some.inj h
    clear h
    go_enter Try.func85, Try.ntmps85
    go_wp2_with fail
    refine wp_scope_ghost 0 (fun _ _ _ => False) rfl (fun _ _ _ hF => hF.elim) ?_
    intro _
    go_wp2_with fail
    simp only [Exit.jump]
    go_ret
    exact ⟨rfl, Drawn0.refl _⟩
  rw [if_neg h1] at h
  split at h
  rotate_left
  · cases h
  rename_i hb
  obtain rfl := Option.some.inj h
  clear h
  have HH := Aside0.mk hb
  have H0 := Aside0.mk h0
  have H1 := Aside0.mk h1
  clear hb
  go_enter Try.func85, Try.ntmps85
  go_wp2_with fail
  refine wp_scope_ghost 0 (ratio_Gcd.Inv ((Nat.gcd a0.toNat a1.toNat : Nat) : Int) w) rfl ?pass ?first
  case first =>
    intro hp
    have HP := Aside0.mk hp
    clear hp
    go_wp2_with fail
    go_step3
    go_step
    go_step
    refine HP.out a1.toNat _ _ ?_
    exact ⟨a0, a1, _, ratio_Gcd.fr_eq _ _ _ _ _ _ _ _ _ _ _ _ _ _ _ _ _ _, ⟨by have := H0.out; omega, HH.out.1⟩, ⟨by have := H1.out; omega, HH.out.2⟩, rfl, ⟨rfl⟩, ⟨Drawn0.refl _⟩⟩
  case pass =>
    intro n a wp hI
    obtain ⟨x, y, u, rfl, hx, hy, hn, HG, HD⟩ := hI
    clear HH H0 H1 h0 h1
    unfold ratio_Gcd.fr
    by_cases hy0 : y = 0
    · subst hy0
      have hr := HG.out
      rw [show (0 : Int).toNat = 0 from rfl, Nat.gcd_zero_right, Int.toNat_of_nonneg hx.1] at hr
      clear HG hn hy
      go_wp2_with fail
      simp only [Exit.jump]
      go_ret
      exact ⟨by rw [← hr]; rfl, HD.out⟩
    · have e1 : (y == 0) = false := beq_eq_false_iff_ne.mpr hy0
      have e2 : (y = 0) = False := eq_false hy0
      have HX := Aside0.mk hx
      have HY := Aside0.mk hy
      have HY0 := Aside0.mk hy0
      have HN := Aside0.mk hn
      clear hx hy hy0 hn
      go_wp2_with fail
      go_region
      all_goals
        go_wp2_with fail
        go_step3
        have hx := HX.out
        have hy := HY.out
        have hy0 := HY0.out
        have hm : x.tmod y = x % y := Int.tmod_eq_emod_of_nonneg hx.1
        have hm1 := Int.emod_nonneg x hy0
        have hm2 := Int.emod_lt_of_pos x (show 0 < y by omega)
        have hm3 : (x % y).toNat = x.toNat % y.toNat := by
          obtain ⟨m, rfl⟩ := Int.eq_ofNat_of_zero_le hx.1
          obtain ⟨n, rfl⟩ := Int.eq_ofNat_of_zero_le hy.1
          rfl
        refine ⟨rfl, (x.tmod y).toNat, by have := HN.out; rw [hm]; omega, ?_⟩
        exact ⟨y, x.tmod y, _, ratio_Gcd.fr_eq _ _ _ _ _ _ _ _ _ _ _ _ _ _ _ _ _ _, HY.out, ⟨by rw [hm]; exact hm1, by rw [hm]; omega⟩, rfl, ⟨by rw [← HG.out, hm, hm3, Nat.gcd_comm y.toNat, ← Nat.gcd_rec, Nat.gcd_comm]⟩, by obtain ⟨⟨q, rfl⟩⟩ := HD.out; exact ⟨⟨q + 1, rfl⟩⟩⟩
/-! ### ratio_abs: function 86 -/
def ratio_abs.f (a0 : Int) : Option (Int) := if a0 < 0 then (some (wrap64 (-a0))) else (some a0)
set_option maxHeartbeats 8000000 in
set_option maxRecDepth 100000 in
theorem ratio_abs.calls (a0 : Int) (r : Int) (w : World) (h : ratio_abs.f a0 = some r) :
  Calls Try.prog 86 #[.int .i64 a0] w fun e w' => e = .returned (.int .i64 r) ∧ Drawn0 w w' := by
 have H : (if a0 < 0 then (some (wrap64 (-a0))) else (some a0)) = some r := h
 clear h; by_cases c2 : a0 < 0
 ·
  rw [if_pos c2] at H
  have c2b0 : decide (a0 < 0) = true := decide_eq_true c2
  clear c2; obtain rfl := Option.some.inj H
  go_enter Try.func86, Try.ntmps86
  go_wp2
  go_ret
  exact ⟨by first | rfl | (simp; done) | (simp [*]; done), by repeat (first | exact Drawn0.refl _ | apply Drawn0.step)⟩
 ·
  rw [if_neg c2] at H
  have c2b0 : decide (a0 < 0) = false := decide_eq_false c2
  clear c2; obtain rfl := Option.some.inj H
  go_enter Try.func86, Try.ntmps86
  go_wp2
  go_ret
  exact ⟨by first | rfl | (simp; done) | (simp [*]; done), by repeat (first | exact Drawn0.refl _ | apply Drawn0.step)⟩
/-! ### ratio_Check: function 81 -/
def ratio_Check.f (a0_0 : Int) (a0_1 : Int) : Option (Bool) := if a0_1 > 0 then (if a0_1 ≤ 2147483647 then (if a0_0 ≥ (-2147483647) then (if a0_0 ≤ 2147483647 then ((ratio_abs.f a0_0).bind fun t107 => ((ratio_Gcd.f t107 a0_1).bind fun t108 => (some (t108 == 1)))) else (some false)) else (some false)) else (some false)) else (some false)
set_option maxHeartbeats 8000000 in
set_option maxRecDepth 100000 in
theorem ratio_Check.calls (a0_0 : Int) (a0_1 : Int) (r : Bool) (w : World) (h : ratio_Check.f a0_0 a0_1 = some r) :
  Calls Try.prog 81 #[.agg #[.int .i64 a0_0, .int .i64 a0_1]] w fun e w' => e = .returned (.bool r) ∧ Below w.heap.size w w' := by
 have hu28 := Try.underlying28; have HB := Aside0.mk (Below.refl w.heap.size w)
 have H : (if a0_1 > 0 then (if a0_1 ≤ 2147483647 then (if a0_0 ≥ (-2147483647) then (if a0_0 ≤ 2147483647 then ((ratio_abs.f a0_0).bind fun t107 => ((ratio_Gcd.f t107 a0_1).bind fun t108 => (some (t108 == 1)))) else (some false)) else (some false)) else (some false)) else (some false)) = some r := h
 clear h; by_cases c2 : a0_1 > 0
 ·
  rw [if_pos c2] at H
  have c2b0 : decide (0 < a0_1) = true := decide_eq_true c2
  clear c2; by_cases c3 : a0_1 ≤ 2147483647
  ·
   rw [if_pos c3] at H
   have c3b0 : decide (a0_1 ≤ 2147483647) = true := decide_eq_true c3
   clear c3; by_cases c4 : a0_0 ≥ (-2147483647)
   ·
    rw [if_pos c4] at H
    have c4b0 : decide ((-2147483647) ≤ a0_0) = true := decide_eq_true c4
    clear c4; by_cases c5 : a0_0 ≤ 2147483647
    ·
     rw [if_pos c5] at H
     have c5b0 : decide (a0_0 ≤ 2147483647) = true := decide_eq_true c5
     clear c5; replace H := Option.bind_eq_some_iff.mp H
     obtain ⟨t107, A60, H⟩ := H
     replace H : ((ratio_Gcd.f t107 a0_1).bind fun t108 => (some (t108 == 1))) = some r := H
     have A6 := Aside0.mk A60
     clear A60; replace H := Option.bind_eq_some_iff.mp H
     obtain ⟨t108, A70, H⟩ := H
     replace H : (some (t108 == 1)) = some r := H
     have A7 := Aside0.mk A70
     clear A70; obtain rfl := Option.some.inj H
     go_enter Try.func81, Try.ntmps81
     go_wp2_with (first | ((with_reducible refine gate_dst (N := 1) rfl ?_); refine box_event ?hg (N := 1) ?hd (cs := #[.int .i64 a0_0, .int .i64 a0_1]) (t := 28) ?hr ?_; (case hd => rfl); (case hg => rfl); (case hr => first | (go_simp; done) | (go_simp; rfl)); intro gb106 hg w8 hbox hb; have BK106 := Aside0.mk (hbox); have GW106 := Aside0.mk ((zg : w.heap.size ≤ gb106)); have GE106 := Aside0.mk ((zg : w.heap.size ≤ gb106)); replace HB := Aside0.mk (below_step zB hb); clear hb hbox hg; obtain ⟨hcz9_0, hcz9_1⟩ := cZ2 BK106; obtain ⟨hfz9_0, hfz9_1⟩ := dZ2 BK106) | (go_at_call 86; (with_reducible refine (ratio_abs.calls a0_0 t107 _ A6.out).mono ?_); rintro e w' ⟨rfl, ⟨nd, rfl⟩⟩; (try first | exact ⟨rfl, _, World.drewN_drewN _ _ _⟩ | exact ⟨rfl, _, Eq.trans (World.drewN_drewN _ _ _) (congrArg (World.drewN _) (Nat.add_assoc _ _ _))⟩)) | (go_at_call 85; (with_reducible refine (ratio_Gcd.calls t107 a0_1 t108 _ A7.out).mono ?_); rintro e w' ⟨rfl, ⟨nd, rfl⟩⟩; (try first | exact ⟨rfl, _, World.drewN_drewN _ _ _⟩ | exact ⟨rfl, _, Eq.trans (World.drewN_drewN _ _ _) (congrArg (World.drewN _) (Nat.add_assoc _ _ _))⟩)))
     repeat (go_quiet (first | ((with_reducible refine gate_dst (N := 1) rfl ?_); refine box_event ?hg (N := 1) ?hd (cs := #[.int .i64 a0_0, .int .i64 a0_1]) (t := 28) ?hr ?_; (case hd => rfl); (case hg => rfl); (case hr => first | (go_simp; done) | (go_simp; rfl)); intro gb106 hg w8 hbox hb; have BK106 := Aside0.mk (hbox); have GW106 := Aside0.mk ((zg : w.heap.size ≤ gb106)); have GE106 := Aside0.mk ((zg : w.heap.size ≤ gb106)); replace HB := Aside0.mk (below_step zB hb); clear hb hbox hg; obtain ⟨hcz9_0, hcz9_1⟩ := cZ2 BK106; obtain ⟨hfz9_0, hfz9_1⟩ := dZ2 BK106) | (go_at_call 86; (with_reducible refine (ratio_abs.calls a0_0 t107 _ A6.out).mono ?_); rintro e w' ⟨rfl, ⟨nd, rfl⟩⟩; (try first | exact ⟨rfl, _, World.drewN_drewN _ _ _⟩ | exact ⟨rfl, _, Eq.trans (World.drewN_drewN _ _ _) (congrArg (World.drewN _) (Nat.add_assoc _ _ _))⟩)) | (go_at_call 85; (with_reducible refine (ratio_Gcd.calls t107 a0_1 t108 _ A7.out).mono ?_); rintro e w' ⟨rfl, ⟨nd, rfl⟩⟩; (try first | exact ⟨rfl, _, World.drewN_drewN _ _ _⟩ | exact ⟨rfl, _, Eq.trans (World.drewN_drewN _ _ _) (congrArg (World.drewN _) (Nat.add_assoc _ _ _))⟩))); try go_wp2_with (first | ((with_reducible refine gate_dst (N := 1) rfl ?_); refine box_event ?hg (N := 1) ?hd (cs := #[.int .i64 a0_0, .int .i64 a0_1]) (t := 28) ?hr ?_; (case hd => rfl); (case hg => rfl); (case hr => first | (go_simp; done) | (go_simp; rfl)); intro gb106 hg w8 hbox hb; have BK106 := Aside0.mk (hbox); have GW106 := Aside0.mk ((zg : w.heap.size ≤ gb106)); have GE106 := Aside0.mk ((zg : w.heap.size ≤ gb106)); replace HB := Aside0.mk (below_step zB hb); clear hb hbox hg; obtain ⟨hcz9_0, hcz9_1⟩ := cZ2 BK106; obtain ⟨hfz9_0, hfz9_1⟩ := dZ2 BK106) | (go_at_call 86; (with_reducible refine (ratio_abs.calls a0_0 t107 _ A6.out).mono ?_); rintro e w' ⟨rfl, ⟨nd, rfl⟩⟩; (try first | exact ⟨rfl, _, World.drewN_drewN _ _ _⟩ | exact ⟨rfl, _, Eq.trans (World.drewN_drewN _ _ _) (congrArg (World.drewN _) (Nat.add_assoc _ _ _))⟩)) | (go_at_call 85; (with_reducible refine (ratio_Gcd.calls t107 a0_1 t108 _ A7.out).mono ?_); rintro e w' ⟨rfl, ⟨nd, rfl⟩⟩; (try first | exact ⟨rfl, _, World.drewN_drewN _ _ _⟩ | exact ⟨rfl, _, Eq.trans (World.drewN_drewN _ _ _) (congrArg (World.drewN _) (Nat.add_assoc _ _ _))⟩))))
     go_ret
     exact ⟨zE, zB⟩
    ·
     rw [if_neg c5] at H
     have c5b0 : decide (a0_0 ≤ 2147483647) = false := decide_eq_false c5
     clear c5; obtain rfl := Option.some.inj H
     go_enter Try.func81, Try.ntmps81
     go_wp2_with (first | ((with_reducible refine gate_dst (N := 1) rfl ?_); refine box_event ?hg (N := 1) ?hd (cs := #[.int .i64 a0_0, .int .i64 a0_1]) (t := 28) ?hr ?_; (case hd => rfl); (case hg => rfl); (case hr => first | (go_simp; done) | (go_simp; rfl)); intro gb106 hg w10 hbox hb; have BK106 := Aside0.mk (hbox); have GW106 := Aside0.mk ((zg : w.heap.size ≤ gb106)); have GE106 := Aside0.mk ((zg : w.heap.size ≤ gb106)); replace HB := Aside0.mk (below_step zB hb); clear hb hbox hg; obtain ⟨hcz11_0, hcz11_1⟩ := cZ2 BK106; obtain ⟨hfz11_0, hfz11_1⟩ := dZ2 BK106))
     repeat (go_quiet (first | ((with_reducible refine gate_dst (N := 1) rfl ?_); refine box_event ?hg (N := 1) ?hd (cs := #[.int .i64 a0_0, .int .i64 a0_1]) (t := 28) ?hr ?_; (case hd => rfl); (case hg => rfl); (case hr => first | (go_simp; done) | (go_simp; rfl)); intro gb106 hg w10 hbox hb; have BK106 := Aside0.mk (hbox); have GW106 := Aside0.mk ((zg : w.heap.size ≤ gb106)); have GE106 := Aside0.mk ((zg : w.heap.size ≤ gb106)); replace HB := Aside0.mk (below_step zB hb); clear hb hbox hg; obtain ⟨hcz11_0, hcz11_1⟩ := cZ2 BK106; obtain ⟨hfz11_0, hfz11_1⟩ := dZ2 BK106)); try go_wp2_with (first | ((with_reducible refine gate_dst (N := 1) rfl ?_); refine box_event ?hg (N := 1) ?hd (cs := #[.int .i64 a0_0, .int .i64 a0_1]) (t := 28) ?hr ?_; (case hd => rfl); (case hg => rfl); (case hr => first | (go_simp; done) | (go_simp; rfl)); intro gb106 hg w10 hbox hb; have BK106 := Aside0.mk (hbox); have GW106 := Aside0.mk ((zg : w.heap.size ≤ gb106)); have GE106 := Aside0.mk ((zg : w.heap.size ≤ gb106)); replace HB := Aside0.mk (below_step zB hb); clear hb hbox hg; obtain ⟨hcz11_0, hcz11_1⟩ := cZ2 BK106; obtain ⟨hfz11_0, hfz11_1⟩ := dZ2 BK106)))
     go_ret
     exact ⟨zE, zB⟩
   ·
    rw [if_neg c4] at H
    have c4b0 : decide ((-2147483647) ≤ a0_0) = false := decide_eq_false c4
    clear c4; obtain rfl := Option.some.inj H
    go_enter Try.func81, Try.ntmps81
    go_wp2_with (first | ((with_reducible refine gate_dst (N := 1) rfl ?_); refine box_event ?hg (N := 1) ?hd (cs := #[.int .i64 a0_0, .int .i64 a0_1]) (t := 28) ?hr ?_; (case hd => rfl); (case hg => rfl); (case hr => first | (go_simp; done) | (go_simp; rfl)); intro gb106 hg w12 hbox hb; have BK106 := Aside0.mk (hbox); have GW106 := Aside0.mk ((zg : w.heap.size ≤ gb106)); have GE106 := Aside0.mk ((zg : w.heap.size ≤ gb106)); replace HB := Aside0.mk (below_step zB hb); clear hb hbox hg; obtain ⟨hcz13_0, hcz13_1⟩ := cZ2 BK106; obtain ⟨hfz13_0, hfz13_1⟩ := dZ2 BK106))
    repeat (go_quiet (first | ((with_reducible refine gate_dst (N := 1) rfl ?_); refine box_event ?hg (N := 1) ?hd (cs := #[.int .i64 a0_0, .int .i64 a0_1]) (t := 28) ?hr ?_; (case hd => rfl); (case hg => rfl); (case hr => first | (go_simp; done) | (go_simp; rfl)); intro gb106 hg w12 hbox hb; have BK106 := Aside0.mk (hbox); have GW106 := Aside0.mk ((zg : w.heap.size ≤ gb106)); have GE106 := Aside0.mk ((zg : w.heap.size ≤ gb106)); replace HB := Aside0.mk (below_step zB hb); clear hb hbox hg; obtain ⟨hcz13_0, hcz13_1⟩ := cZ2 BK106; obtain ⟨hfz13_0, hfz13_1⟩ := dZ2 BK106)); try go_wp2_with (first | ((with_reducible refine gate_dst (N := 1) rfl ?_); refine box_event ?hg (N := 1) ?hd (cs := #[.int .i64 a0_0, .int .i64 a0_1]) (t := 28) ?hr ?_; (case hd => rfl); (case hg => rfl); (case hr => first | (go_simp; done) | (go_simp; rfl)); intro gb106 hg w12 hbox hb; have BK106 := Aside0.mk (hbox); have GW106 := Aside0.mk ((zg : w.heap.size ≤ gb106)); have GE106 := Aside0.mk ((zg : w.heap.size ≤ gb106)); replace HB := Aside0.mk (below_step zB hb); clear hb hbox hg; obtain ⟨hcz13_0, hcz13_1⟩ := cZ2 BK106; obtain ⟨hfz13_0, hfz13_1⟩ := dZ2 BK106)))
    go_ret
    exact ⟨zE, zB⟩
  ·
   rw [if_neg c3] at H
   have c3b0 : decide (a0_1 ≤ 2147483647) = false := decide_eq_false c3
   clear c3; obtain rfl := Option.some.inj H
   go_enter Try.func81, Try.ntmps81
   go_wp2_with (first | ((with_reducible refine gate_dst (N := 1) rfl ?_); refine box_event ?hg (N := 1) ?hd (cs := #[.int .i64 a0_0, .int .i64 a0_1]) (t := 28) ?hr ?_; (case hd => rfl); (case hg => rfl); (case hr => first | (go_simp; done) | (go_simp; rfl)); intro gb106 hg w14 hbox hb; have BK106 := Aside0.mk (hbox); have GW106 := Aside0.mk ((zg : w.heap.size ≤ gb106)); have GE106 := Aside0.mk ((zg : w.heap.size ≤ gb106)); replace HB := Aside0.mk (below_step zB hb); clear hb hbox hg; obtain ⟨hcz15_0, hcz15_1⟩ := cZ2 BK106; obtain ⟨hfz15_0, hfz15_1⟩ := dZ2 BK106))
   repeat (go_quiet (first | ((with_reducible refine gate_dst (N := 1) rfl ?_); refine box_event ?hg (N := 1) ?hd (cs := #[.int .i64 a0_0, .int .i64 a0_1]) (t := 28) ?hr ?_; (case hd => rfl); (case hg => rfl); (case hr => first | (go_simp; done) | (go_simp; rfl)); intro gb106 hg w14 hbox hb; have BK106 := Aside0.mk (hbox); have GW106 := Aside0.mk ((zg : w.heap.size ≤ gb106)); have GE106 := Aside0.mk ((zg : w.heap.size ≤ gb106)); replace HB := Aside0.mk (below_step zB hb); clear hb hbox hg; obtain ⟨hcz15_0, hcz15_1⟩ := cZ2 BK106; obtain ⟨hfz15_0, hfz15_1⟩ := dZ2 BK106)); try go_wp2_with (first | ((with_reducible refine gate_dst (N := 1) rfl ?_); refine box_event ?hg (N := 1) ?hd (cs := #[.int .i64 a0_0, .int .i64 a0_1]) (t := 28) ?hr ?_; (case hd => rfl); (case hg => rfl); (case hr => first | (go_simp; done) | (go_simp; rfl)); intro gb106 hg w14 hbox hb; have BK106 := Aside0.mk (hbox); have GW106 := Aside0.mk ((zg : w.heap.size ≤ gb106)); have GE106 := Aside0.mk ((zg : w.heap.size ≤ gb106)); replace HB := Aside0.mk (below_step zB hb); clear hb hbox hg; obtain ⟨hcz15_0, hcz15_1⟩ := cZ2 BK106; obtain ⟨hfz15_0, hfz15_1⟩ := dZ2 BK106)))
   go_ret
   exact ⟨zE, zB⟩
 ·
  rw [if_neg c2] at H
  have c2b0 : decide (0 < a0_1) = false := decide_eq_false c2
  clear c2; obtain rfl := Option.some.inj H
  go_enter Try.func81, Try.ntmps81
  go_wp2_with (first | ((with_reducible refine gate_dst (N := 1) rfl ?_); refine box_event ?hg (N := 1) ?hd (cs := #[.int .i64 a0_0, .int .i64 a0_1]) (t := 28) ?hr ?_; (case hd => rfl); (case hg => rfl); (case hr => first | (go_simp; done) | (go_simp; rfl)); intro gb106 hg w16 hbox hb; have BK106 := Aside0.mk (hbox); have GW106 := Aside0.mk ((zg : w.heap.size ≤ gb106)); have GE106 := Aside0.mk ((zg : w.heap.size ≤ gb106)); replace HB := Aside0.mk (below_step zB hb); clear hb hbox hg; obtain ⟨hcz17_0, hcz17_1⟩ := cZ2 BK106; obtain ⟨hfz17_0, hfz17_1⟩ := dZ2 BK106))
  repeat (go_quiet (first | ((with_reducible refine gate_dst (N := 1) rfl ?_); refine box_event ?hg (N := 1) ?hd (cs := #[.int .i64 a0_0, .int .i64 a0_1]) (t := 28) ?hr ?_; (case hd => rfl); (case hg => rfl); (case hr => first | (go_simp; done) | (go_simp; rfl)); intro gb106 hg w16 hbox hb; have BK106 := Aside0.mk (hbox); have GW106 := Aside0.mk ((zg : w.heap.size ≤ gb106)); have GE106 := Aside0.mk ((zg : w.heap.size ≤ gb106)); replace HB := Aside0.mk (below_step zB hb); clear hb hbox hg; obtain ⟨hcz17_0, hcz17_1⟩ := cZ2 BK106; obtain ⟨hfz17_0, hfz17_1⟩ := dZ2 BK106)); try go_wp2_with (first | ((with_reducible refine gate_dst (N := 1) rfl ?_); refine box_event ?hg (N := 1) ?hd (cs := #[.int .i64 a0_0, .int .i64 a0_1]) (t := 28) ?hr ?_; (case hd => rfl); (case hg => rfl); (case hr => first | (go_simp; done) | (go_simp; rfl)); intro gb106 hg w16 hbox hb; have BK106 := Aside0.mk (hbox); have GW106 := Aside0.mk ((zg : w.heap.size ≤ gb106)); have GE106 := Aside0.mk ((zg : w.heap.size ≤ gb106)); replace HB := Aside0.mk (below_step zB hb); clear hb hbox hg; obtain ⟨hcz17_0, hcz17_1⟩ := cZ2 BK106; obtain ⟨hfz17_0, hfz17_1⟩ := dZ2 BK106)))
  go_ret
  exact ⟨zE, zB⟩
/-! ### degree_Check: function 74 -/
def degree_Check.f (a0_0 : Int) (a0_1 : Int) (a0_2 : Int) (a0_3 : Int) : Option (Bool) := (ratio_Check.f a0_0 a0_1).bind fun t111 => (if t111 = true then (if a0_0 > 0 then (if a0_0 ≤ a0_1 then (if a0_1 ≤ 1000 then (if a0_2 ≥ 1 then (if a0_2 ≤ 8 then (if a0_3 ≥ 2 then (if a0_3 ≤ 64 then (some (decide ((wrap64 (a0_3 * a0_0)) ≥ a0_1))) else (some false)) else (some false)) else (some false)) else (some false)) else (some false)) else (some false)) else (some false)) else (some false))
set_option maxHeartbeats 8000000 in
set_option maxRecDepth 100000 in
theorem degree_Check.calls (a0_0 : Int) (a0_1 : Int) (a0_2 : Int) (a0_3 : Int) (r : Bool) (w : World) (h : degree_Check.f a0_0 a0_1 a0_2 a0_3 = some r) :
  Calls Try.prog 74 #[.agg #[.int .i64 a0_0, .int .i64 a0_1, .int .i64 a0_2, .int .i64 a0_3]] w fun e w' => e = .returned (.bool r) ∧ Below w.heap.size w w' := by
 have hu30 := Try.underlying30; have hu28 := Try.underlying28; have HB := Aside0.mk (Below.refl w.heap.size w)
 have H : ((ratio_Check.f a0_0 a0_1).bind fun t111 => (if t111 = true then (if a0_0 > 0 then (if a0_0 ≤ a0_1 then (if a0_1 ≤ 1000 then (if a0_2 ≥ 1 then (if a0_2 ≤ 8 then (if a0_3 ≥ 2 then (if a0_3 ≤ 64 then (some (decide ((wrap64 (a0_3 * a0_0)) ≥ a0_1))) else (some false)) else (some false)) else (some false)) else (some false)) else (some false)) else (some false)) else (some false)) else (some false))) = some r := h
 clear h; replace H := Option.bind_eq_some_iff.mp H
 obtain ⟨t111, A20, H⟩ := H
 replace H : (if t111 = true then (if a0_0 > 0 then (if a0_0 ≤ a0_1 then (if a0_1 ≤ 1000 then (if a0_2 ≥ 1 then (if a0_2 ≤ 8 then (if a0_3 ≥ 2 then (if a0_3 ≤ 64 then (some (decide ((wrap64 (a0_3 * a0_0)) ≥ a0_1))) else (some false)) else (some false)) else (some false)) else (some false)) else (some false)) else (some false)) else (some false)) else (some false)) = some r := H
 have A2 := Aside0.mk A20
 clear A20; by_cases c3 : t111 = true
 ·
  subst c3
  have H1 : (if a0_0 > 0 then (if a0_0 ≤ a0_1 then (if a0_1 ≤ 1000 then (if a0_2 ≥ 1 then (if a0_2 ≤ 8 then (if a0_3 ≥ 2 then (if a0_3 ≤ 64 then (some (decide ((wrap64 (a0_3 * a0_0)) ≥ a0_1))) else (some false)) else (some false)) else (some false)) else (some false)) else (some false)) else (some false)) else (some false)) = some r := by rw [if_pos rfl] at H; exact H
  clear H; have H := H1; clear H1; by_cases c4 : a0_0 > 0
  ·
   rw [if_pos c4] at H
   have c4b0 : decide (0 < a0_0) = true := decide_eq_true c4
   clear c4; by_cases c5 : a0_0 ≤ a0_1
   ·
    rw [if_pos c5] at H
    have c5b0 : decide (a0_0 ≤ a0_1) = true := decide_eq_true c5
    clear c5; by_cases c6 : a0_1 ≤ 1000
    ·
     rw [if_pos c6] at H
     have c6b0 : decide (a0_1 ≤ 1000) = true := decide_eq_true c6
     clear c6; by_cases c7 : a0_2 ≥ 1
     ·
      rw [if_pos c7] at H
      have c7b0 : decide (1 ≤ a0_2) = true := decide_eq_true c7
      clear c7; by_cases c8 : a0_2 ≤ 8
      ·
       rw [if_pos c8] at H
       have c8b0 : decide (a0_2 ≤ 8) = true := decide_eq_true c8
       clear c8; by_cases c9 : a0_3 ≥ 2
       ·
        rw [if_pos c9] at H
        have c9b0 : decide (2 ≤ a0_3) = true := decide_eq_true c9
        clear c9; by_cases c10 : a0_3 ≤ 64
        ·
         rw [if_pos c10] at H
         have c10b0 : decide (a0_3 ≤ 64) = true := decide_eq_true c10
         clear c10; obtain rfl := Option.some.inj H
         go_enter Try.func74, Try.ntmps74
         go_wp2_with (first | ((with_reducible refine gate_dst (N := 1) rfl ?_); refine box_event ?hg (N := 1) ?hd (cs := #[.int .i64 a0_0, .int .i64 a0_1, .int .i64 a0_2, .int .i64 a0_3]) (t := 30) ?hr ?_; (case hd => rfl); (case hg => rfl); (case hr => first | (go_simp; done) | (go_simp; rfl)); intro gb109 hg w11 hbox hb; have BK109 := Aside0.mk (hbox); have GW109 := Aside0.mk ((zg : w.heap.size ≤ gb109)); have GE109 := Aside0.mk ((zg : w.heap.size ≤ gb109)); replace HB := Aside0.mk (below_step zB hb); clear hb hbox hg; obtain ⟨hcz12_0, hcz12_1, hcz12_2, hcz12_3⟩ := cZ4 BK109; obtain ⟨hfz12_0, hfz12_1, hfz12_2, hfz12_3⟩ := dZ4 BK109) | ((with_reducible refine gate_dst (N := 3) rfl ?_); refine box_event ?hg (N := 3) ?hd (cs := #[.int .i64 0, .int .i64 0]) (t := 28) ?hr ?_; (case hd => rfl); (case hg => rfl); (case hr => first | (go_simp; done) | (go_simp; rfl)); intro gb110 hg w13 hbox hb; have n0_ := Aside0.mk (blk_below (zk BK109) hb); have n1_ := Aside0.mk (below_step zB hb); have n2_ := Aside0.mk (hbox); have n3_ := Aside0.mk ((zg : w.heap.size ≤ gb110)); have n4_ := Aside0.mk ((zg : w.heap.size ≤ gb110)); have n5_ := Aside0.mk ((by rw [hg]; exact Nat.ne_of_lt (blk_lt (zk BK109)) : gb109 ≠ gb110)); have n6_ := Aside0.mk ((by rw [hg]; exact Nat.ne_of_gt (blk_lt (zk BK109)) : gb110 ≠ gb109)); clear BK109; clear HB; have BK109 := n0_; have HB := n1_; have BK110 := n2_; have GW110 := n3_; have GE110 := n4_; have NB109_110 := n5_; have NB110_109 := n6_; clear n0_ n1_ n2_ n3_ n4_ n5_ n6_; clear hb hbox hg; have hnb14 := NB110_109.out; have hnc14 := NB109_110.out; obtain ⟨hcz15_0, hcz15_1⟩ := cZ2 BK110; obtain ⟨hfz15_0, hfz15_1⟩ := dZ2 BK110) | ((with_reducible refine gate_callee (f := 81) rfl ?_); refine goesL_ (some 7) rfl rfl Try.func81 (by kernel_rfl) rfl #[.agg #[.int .i64 a0_0, .int .i64 a0_1]] rfl zM ?_; (with_reducible refine (ratio_Check.calls a0_0 a0_1 true _ A2.out).mono ?_); rintro e w16 ⟨rfl, hb⟩; refine ⟨_, rfl, ?_⟩; replace BK109 := Aside0.mk (blk_below (g := gb109) (o := .cells #[.int .i64 a0_0, .int .i64 a0_1, .int .i64 a0_2, .int .i64 a0_3] 30 (0, 0)) (by (with_reducible repeat (first | refine blk_drewN ?_ _ | refine blk_drew ?_ | refine blk_alloc ?_ _)); refine blk_far ?_ NB109_110.out _; (with_reducible repeat (first | refine blk_drewN ?_ _ | refine blk_drew ?_ | refine blk_alloc ?_ _)); refine blk_far ?_ NB109_110.out _; (with_reducible repeat (first | refine blk_drewN ?_ _ | refine blk_drew ?_ | refine blk_alloc ?_ _)); exact BK109.out) hb); replace BK110 := Aside0.mk (blk_below (g := gb110) (o := .cells #[.int .i64 a0_0, .int .i64 a0_1] 28 (0, 0)) (by (with_reducible repeat (first | refine blk_drewN ?_ _ | refine blk_drew ?_ | refine blk_alloc ?_ _)); refine blk_put (cs := #[.int .i64 a0_0, .int .i64 0]) ?_ 1 _ rfl; (with_reducible repeat (first | refine blk_drewN ?_ _ | refine blk_drew ?_ | refine blk_alloc ?_ _)); refine blk_put (cs := #[.int .i64 0, .int .i64 0]) ?_ 0 _ rfl; (with_reducible repeat (first | refine blk_drewN ?_ _ | refine blk_drew ?_ | refine blk_alloc ?_ _)); exact BK110.out) hb); replace HB := Aside0.mk (below_step zB hb); (try clear hb); (try clear hb2); (try clear hk); (try clear hi); obtain ⟨hcz17_0, hcz17_1⟩ := cZ2 BK110; obtain ⟨hfz17_0, hfz17_1⟩ := dZ2 BK110; obtain ⟨hcz18_0, hcz18_1, hcz18_2, hcz18_3⟩ := cZ4 BK109; obtain ⟨hfz18_0, hfz18_1, hfz18_2, hfz18_3⟩ := dZ4 BK109))
         go_ret
         exact ⟨zE, zB⟩
        ·
         rw [if_neg c10] at H
         have c10b0 : decide (a0_3 ≤ 64) = false := decide_eq_false c10
         clear c10; obtain rfl := Option.some.inj H
         go_enter Try.func74, Try.ntmps74
         go_wp2_with (first | ((with_reducible refine gate_dst (N := 1) rfl ?_); refine box_event ?hg (N := 1) ?hd (cs := #[.int .i64 a0_0, .int .i64 a0_1, .int .i64 a0_2, .int .i64 a0_3]) (t := 30) ?hr ?_; (case hd => rfl); (case hg => rfl); (case hr => first | (go_simp; done) | (go_simp; rfl)); intro gb109 hg w19 hbox hb; have BK109 := Aside0.mk (hbox); have GW109 := Aside0.mk ((zg : w.heap.size ≤ gb109)); have GE109 := Aside0.mk ((zg : w.heap.size ≤ gb109)); replace HB := Aside0.mk (below_step zB hb); clear hb hbox hg; obtain ⟨hcz20_0, hcz20_1, hcz20_2, hcz20_3⟩ := cZ4 BK109; obtain ⟨hfz20_0, hfz20_1, hfz20_2, hfz20_3⟩ := dZ4 BK109) | ((with_reducible refine gate_dst (N := 3) rfl ?_); refine box_event ?hg (N := 3) ?hd (cs := #[.int .i64 0, .int .i64 0]) (t := 28) ?hr ?_; (case hd => rfl); (case hg => rfl); (case hr => first | (go_simp; done) | (go_simp; rfl)); intro gb110 hg w21 hbox hb; have n0_ := Aside0.mk (blk_below (zk BK109) hb); have n1_ := Aside0.mk (below_step zB hb); have n2_ := Aside0.mk (hbox); have n3_ := Aside0.mk ((zg : w.heap.size ≤ gb110)); have n4_ := Aside0.mk ((zg : w.heap.size ≤ gb110)); have n5_ := Aside0.mk ((by rw [hg]; exact Nat.ne_of_lt (blk_lt (zk BK109)) : gb109 ≠ gb110)); have n6_ := Aside0.mk ((by rw [hg]; exact Nat.ne_of_gt (blk_lt (zk BK109)) : gb110 ≠ gb109)); clear BK109; clear HB; have BK109 := n0_; have HB := n1_; have BK110 := n2_; have GW110 := n3_; have GE110 := n4_; have NB109_110 := n5_; have NB110_109 := n6_; clear n0_ n1_ n2_ n3_ n4_ n5_ n6_; clear hb hbox hg; have hnb22 := NB110_109.out; have hnc22 := NB109_110.out; obtain ⟨hcz23_0, hcz23_1⟩ := cZ2 BK110; obtain ⟨hfz23_0, hfz23_1⟩ := dZ2 BK110) | ((with_reducible refine gate_callee (f := 81) rfl ?_); refine goesL_ (some 7) rfl rfl Try.func81 (by kernel_rfl) rfl #[.agg #[.int .i64 a0_0, .int .i64 a0_1]] rfl zM ?_; (with_reducible refine (ratio_Check.calls a0_0 a0_1 true _ A2.out).mono ?_); rintro e w24 ⟨rfl, hb⟩; refine ⟨_, rfl, ?_⟩; replace BK109 := Aside0.mk (blk_below (g := gb109) (o := .cells #[.int .i64 a0_0, .int .i64 a0_1, .int .i64 a0_2, .int .i64 a0_3] 30 (0, 0)) (by (with_reducible repeat (first | refine blk_drewN ?_ _ | refine blk_drew ?_ | refine blk_alloc ?_ _)); refine blk_far ?_ NB109_110.out _; (with_reducible repeat (first | refine blk_drewN ?_ _ | refine blk_drew ?_ | refine blk_alloc ?_ _)); refine blk_far ?_ NB109_110.out _; (with_reducible repeat (first | refine blk_drewN ?_ _ | refine blk_drew ?_ | refine blk_alloc ?_ _)); exact BK109.out) hb); replace BK110 := Aside0.mk (blk_below (g := gb110) (o := .cells #[.int .i64 a0_0, .int .i64 a0_1] 28 (0, 0)) (by (with_reducible repeat (first | refine blk_drewN ?_ _ | refine blk_drew ?_ | refine blk_alloc ?_ _)); refine blk_put (cs := #[.int .i64 a0_0, .int .i64 0]) ?_ 1 _ rfl; (with_reducible repeat (first | refine blk_drewN ?_ _ | refine blk_drew ?_ | refine blk_alloc ?_ _)); refine blk_put (cs := #[.int .i64 0, .int .i64 0]) ?_ 0 _ rfl; (with_reducible repeat (first | refine blk_drewN ?_ _ | refine blk_drew ?_ | refine blk_alloc ?_ _)); exact BK110.out) hb); replace HB := Aside0.mk (below_step zB hb); (try clear hb); (try clear hb2); (try clear hk); (try clear hi); obtain ⟨hcz25_0, hcz25_1⟩ := cZ2 BK110; obtain ⟨hfz25_0, hfz25_1⟩ := dZ2 BK110; obtain ⟨hcz26_0, hcz26_1, hcz26_2, hcz26_3⟩ := cZ4 BK109; obtain ⟨hfz26_0, hfz26_1, hfz26_2, hfz26_3⟩ := dZ4 BK109))
         go_ret
         exact ⟨zE, zB⟩
       ·
        rw [if_neg c9] at H
        have c9b0 : decide (2 ≤ a0_3) = false := decide_eq_false c9
        clear c9; obtain rfl := Option.some.inj H
        go_enter Try.func74, Try.ntmps74
        go_wp2_with (first | ((with_reducible refine gate_dst (N := 1) rfl ?_); refine box_event ?hg (N := 1) ?hd (cs := #[.int .i64 a0_0, .int .i64 a0_1, .int .i64 a0_2, .int .i64 a0_3]) (t := 30) ?hr ?_; (case hd => rfl); (case hg => rfl); (case hr => first | (go_simp; done) | (go_simp; rfl)); intro gb109 hg w27 hbox hb; have BK109 := Aside0.mk (hbox); have GW109 := Aside0.mk ((zg : w.heap.size ≤ gb109)); have GE109 := Aside0.mk ((zg : w.heap.size ≤ gb109)); replace HB := Aside0.mk (below_step zB hb); clear hb hbox hg; obtain ⟨hcz28_0, hcz28_1, hcz28_2, hcz28_3⟩ := cZ4 BK109; obtain ⟨hfz28_0, hfz28_1, hfz28_2, hfz28_3⟩ := dZ4 BK109) | ((with_reducible refine gate_dst (N := 3) rfl ?_); refine box_event ?hg (N := 3) ?hd (cs := #[.int .i64 0, .int .i64 0]) (t := 28) ?hr ?_; (case hd => rfl); (case hg => rfl); (case hr => first | (go_simp; done) | (go_simp; rfl)); intro gb110 hg w29 hbox hb; have n0_ := Aside0.mk (blk_below (zk BK109) hb); have n1_ := Aside0.mk (below_step zB hb); have n2_ := Aside0.mk (hbox); have n3_ := Aside0.mk ((zg : w.heap.size ≤ gb110)); have n4_ := Aside0.mk ((zg : w.heap.size ≤ gb110)); have n5_ := Aside0.mk ((by rw [hg]; exact Nat.ne_of_lt (blk_lt (zk BK109)) : gb109 ≠ gb110)); have n6_ := Aside0.mk ((by rw [hg]; exact Nat.ne_of_gt (blk_lt (zk BK109)) : gb110 ≠ gb109)); clear BK109; clear HB; have BK109 := n0_; have HB := n1_; have BK110 := n2_; have GW110 := n3_; have GE110 := n4_; have NB109_110 := n5_; have NB110_109 := n6_; clear n0_ n1_ n2_ n3_ n4_ n5_ n6_; clear hb hbox hg; have hnb30 := NB110_109.out; have hnc30 := NB109_110.out; obtain ⟨hcz31_0, hcz31_1⟩ := cZ2 BK110; obtain ⟨hfz31_0, hfz31_1⟩ := dZ2 BK110) | ((with_reducible refine gate_callee (f := 81) rfl ?_); refine goesL_ (some 7) rfl rfl Try.func81 (by kernel_rfl) rfl #[.agg #[.int .i64 a0_0, .int .i64 a0_1]] rfl zM ?_; (with_reducible refine (ratio_Check.calls a0_0 a0_1 true _ A2.out).mono ?_); rintro e w32 ⟨rfl, hb⟩; refine ⟨_, rfl, ?_⟩; replace BK109 := Aside0.mk (blk_below (g := gb109) (o := .cells #[.int .i64 a0_0, .int .i64 a0_1, .int .i64 a0_2, .int .i64 a0_3] 30 (0, 0)) (by (with_reducible repeat (first | refine blk_drewN ?_ _ | refine blk_drew ?_ | refine blk_alloc ?_ _)); refine blk_far ?_ NB109_110.out _; (with_reducible repeat (first | refine blk_drewN ?_ _ | refine blk_drew ?_ | refine blk_alloc ?_ _)); refine blk_far ?_ NB109_110.out _; (with_reducible repeat (first | refine blk_drewN ?_ _ | refine blk_drew ?_ | refine blk_alloc ?_ _)); exact BK109.out) hb); replace BK110 := Aside0.mk (blk_below (g := gb110) (o := .cells #[.int .i64 a0_0, .int .i64 a0_1] 28 (0, 0)) (by (with_reducible repeat (first | refine blk_drewN ?_ _ | refine blk_drew ?_ | refine blk_alloc ?_ _)); refine blk_put (cs := #[.int .i64 a0_0, .int .i64 0]) ?_ 1 _ rfl; (with_reducible repeat (first | refine blk_drewN ?_ _ | refine blk_drew ?_ | refine blk_alloc ?_ _)); refine blk_put (cs := #[.int .i64 0, .int .i64 0]) ?_ 0 _ rfl; (with_reducible repeat (first | refine blk_drewN ?_ _ | refine blk_drew ?_ | refine blk_alloc ?_ _)); exact BK110.out) hb); replace HB := Aside0.mk (below_step zB hb); (try clear hb); (try clear hb2); (try clear hk); (try clear hi); obtain ⟨hcz33_0, hcz33_1⟩ := cZ2 BK110; obtain ⟨hfz33_0, hfz33_1⟩ := dZ2 BK110; obtain ⟨hcz34_0, hcz34_1, hcz34_2, hcz34_3⟩ := cZ4 BK109; obtain ⟨hfz34_0, hfz34_1, hfz34_2, hfz34_3⟩ := dZ4 BK109))
        go_ret
        exact ⟨zE, zB⟩
      ·
       rw [if_neg c8] at H
       have c8b0 : decide (a0_2 ≤ 8) = false := decide_eq_false c8
       clear c8; obtain rfl := Option.some.inj H
       go_enter Try.func74, Try.ntmps74
       go_wp2_with (first | ((with_reducible refine gate_dst (N := 1) rfl ?_); refine box_event ?hg (N := 1) ?hd (cs := #[.int .i64 a0_0, .int .i64 a0_1, .int .i64 a0_2, .int .i64 a0_3]) (t := 30) ?hr ?_; (case hd => rfl); (case hg => rfl); (case hr => first | (go_simp; done) | (go_simp; rfl)); intro gb109 hg w35 hbox hb; have BK109 := Aside0.mk (hbox); have GW109 := Aside0.mk ((zg : w.heap.size ≤ gb109)); have GE109 := Aside0.mk ((zg : w.heap.size ≤ gb109)); replace HB := Aside0.mk (below_step zB hb); clear hb hbox hg; obtain ⟨hcz36_0, hcz36_1, hcz36_2, hcz36_3⟩ := cZ4 BK109; obtain ⟨hfz36_0, hfz36_1, hfz36_2, hfz36_3⟩ := dZ4 BK109) | ((with_reducible refine gate_dst (N := 3) rfl ?_); refine box_event ?hg (N := 3) ?hd (cs := #[.int .i64 0, .int .i64 0]) (t := 28) ?hr ?_; (case hd => rfl); (case hg => rfl); (case hr => first | (go_simp; done) | (go_simp; rfl)); intro gb110 hg w37 hbox hb; have n0_ := Aside0.mk (blk_below (zk BK109) hb); have n1_ := Aside0.mk (below_step zB hb); have n2_ := Aside0.mk (hbox); have n3_ := Aside0.mk ((zg : w.heap.size ≤ gb110)); have n4_ := Aside0.mk ((zg : w.heap.size ≤ gb110)); have n5_ := Aside0.mk ((by rw [hg]; exact Nat.ne_of_lt (blk_lt (zk BK109)) : gb109 ≠ gb110)); have n6_ := Aside0.mk ((by rw [hg]; exact Nat.ne_of_gt (blk_lt (zk BK109)) : gb110 ≠ gb109)); clear BK109; clear HB; have BK109 := n0_; have HB := n1_; have BK110 := n2_; have GW110 := n3_; have GE110 := n4_; have NB109_110 := n5_; have NB110_109 := n6_; clear n0_ n1_ n2_ n3_ n4_ n5_ n6_; clear hb hbox hg; have hnb38 := NB110_109.out; have hnc38 := NB109_110.out; obtain ⟨hcz39_0, hcz39_1⟩ := cZ2 BK110; obtain ⟨hfz39_0, hfz39_1⟩ := dZ2 BK110) | ((with_reducible refine gate_callee (f := 81) rfl ?_); refine goesL_ (some 7) rfl rfl Try.func81 (by kernel_rfl) rfl #[.agg #[.int .i64 a0_0, .int .i64 a0_1]] rfl zM ?_; (with_reducible refine (ratio_Check.calls a0_0 a0_1 true _ A2.out).mono ?_); rintro e w40 ⟨rfl, hb⟩; refine ⟨_, rfl, ?_⟩; replace BK109 := Aside0.mk (blk_below (g := gb109) (o := .cells #[.int .i64 a0_0, .int .i64 a0_1, .int .i64 a0_2, .int .i64 a0_3] 30 (0, 0)) (by (with_reducible repeat (first | refine blk_drewN ?_ _ | refine blk_drew ?_ | refine blk_alloc ?_ _)); refine blk_far ?_ NB109_110.out _; (with_reducible repeat (first | refine blk_drewN ?_ _ | refine blk_drew ?_ | refine blk_alloc ?_ _)); refine blk_far ?_ NB109_110.out _; (with_reducible repeat (first | refine blk_drewN ?_ _ | refine blk_drew ?_ | refine blk_alloc ?_ _)); exact BK109.out) hb); replace BK110 := Aside0.mk (blk_below (g := gb110) (o := .cells #[.int .i64 a0_0, .int .i64 a0_1] 28 (0, 0)) (by (with_reducible repeat (first | refine blk_drewN ?_ _ | refine blk_drew ?_ | refine blk_alloc ?_ _)); refine blk_put (cs := #[.int .i64 a0_0, .int .i64 0]) ?_ 1 _ rfl; (with_reducible repeat (first | refine blk_drewN ?_ _ | refine blk_drew ?_ | refine blk_alloc ?_ _)); refine blk_put (cs := #[.int .i64 0, .int .i64 0]) ?_ 0 _ rfl; (with_reducible repeat (first | refine blk_drewN ?_ _ | refine blk_drew ?_ | refine blk_alloc ?_ _)); exact BK110.out) hb); replace HB := Aside0.mk (below_step zB hb); (try clear hb); (try clear hb2); (try clear hk); (try clear hi); obtain ⟨hcz41_0, hcz41_1⟩ := cZ2 BK110; obtain ⟨hfz41_0, hfz41_1⟩ := dZ2 BK110; obtain ⟨hcz42_0, hcz42_1, hcz42_2, hcz42_3⟩ := cZ4 BK109; obtain ⟨hfz42_0, hfz42_1, hfz42_2, hfz42_3⟩ := dZ4 BK109))
       go_ret
       exact ⟨zE, zB⟩
     ·
      rw [if_neg c7] at H
      have c7b0 : decide (1 ≤ a0_2) = false := decide_eq_false c7
      clear c7; obtain rfl := Option.some.inj H
      go_enter Try.func74, Try.ntmps74
      go_wp2_with (first | ((with_reducible refine gate_dst (N := 1) rfl ?_); refine box_event ?hg (N := 1) ?hd (cs := #[.int .i64 a0_0, .int .i64 a0_1, .int .i64 a0_2, .int .i64 a0_3]) (t := 30) ?hr ?_; (case hd => rfl); (case hg => rfl); (case hr => first | (go_simp; done) | (go_simp; rfl)); intro gb109 hg w43 hbox hb; have BK109 := Aside0.mk (hbox); have GW109 := Aside0.mk ((zg : w.heap.size ≤ gb109)); have GE109 := Aside0.mk ((zg : w.heap.size ≤ gb109)); replace HB := Aside0.mk (below_step zB hb); clear hb hbox hg; obtain ⟨hcz44_0, hcz44_1, hcz44_2, hcz44_3⟩ := cZ4 BK109; obtain ⟨hfz44_0, hfz44_1, hfz44_2, hfz44_3⟩ := dZ4 BK109) | ((with_reducible refine gate_dst (N := 3) rfl ?_); refine box_event ?hg (N := 3) ?hd (cs := #[.int .i64 0, .int .i64 0]) (t := 28) ?hr ?_; (case hd => rfl); (case hg => rfl); (case hr => first | (go_simp; done) | (go_simp; rfl)); intro gb110 hg w45 hbox hb; have n0_ := Aside0.mk (blk_below (zk BK109) hb); have n1_ := Aside0.mk (below_step zB hb); have n2_ := Aside0.mk (hbox); have n3_ := Aside0.mk ((zg : w.heap.size ≤ gb110)); have n4_ := Aside0.mk ((zg : w.heap.size ≤ gb110)); have n5_ := Aside0.mk ((by rw [hg]; exact Nat.ne_of_lt (blk_lt (zk BK109)) : gb109 ≠ gb110)); have n6_ := Aside0.mk ((by rw [hg]; exact Nat.ne_of_gt (blk_lt (zk BK109)) : gb110 ≠ gb109)); clear BK109; clear HB; have BK109 := n0_; have HB := n1_; have BK110 := n2_; have GW110 := n3_; have GE110 := n4_; have NB109_110 := n5_; have NB110_109 := n6_; clear n0_ n1_ n2_ n3_ n4_ n5_ n6_; clear hb hbox hg; have hnb46 := NB110_109.out; have hnc46 := NB109_110.out; obtain ⟨hcz47_0, hcz47_1⟩ := cZ2 BK110; obtain ⟨hfz47_0, hfz47_1⟩ := dZ2 BK110) | ((with_reducible refine gate_callee (f := 81) rfl ?_); refine goesL_ (some 7) rfl rfl Try.func81 (by kernel_rfl) rfl #[.agg #[.int .i64 a0_0, .int .i64 a0_1]] rfl zM ?_; (with_reducible refine (ratio_Check.calls a0_0 a0_1 true _ A2.out).mono ?_); rintro e w48 ⟨rfl, hb⟩; refine ⟨_, rfl, ?_⟩; replace BK109 := Aside0.mk (blk_below (g := gb109) (o := .cells #[.int .i64 a0_0, .int .i64 a0_1, .int .i64 a0_2, .int .i64 a0_3] 30 (0, 0)) (by (with_reducible repeat (first | refine blk_drewN ?_ _ | refine blk_drew ?_ | refine blk_alloc ?_ _)); refine blk_far ?_ NB109_110.out _; (with_reducible repeat (first | refine blk_drewN ?_ _ | refine blk_drew ?_ | refine blk_alloc ?_ _)); refine blk_far ?_ NB109_110.out _; (with_reducible repeat (first | refine blk_drewN ?_ _ | refine blk_drew ?_ | refine blk_alloc ?_ _)); exact BK109.out) hb); replace BK110 := Aside0.mk (blk_below (g := gb110) (o := .cells #[.int .i64 a0_0, .int .i64 a0_1] 28 (0, 0)) (by (with_reducible repeat (first | refine blk_drewN ?_ _ | refine blk_drew ?_ | refine blk_alloc ?_ _)); refine blk_put (cs := #[.int .i64 a0_0, .int .i64 0]) ?_ 1 _ rfl; (with_reducible repeat (first | refine blk_drewN ?_ _ | refine blk_drew ?_ | refine blk_alloc ?_ _)); refine blk_put (cs := #[.int .i64 0, .int .i64 0]) ?_ 0 _ rfl; (with_reducible repeat (first | refine blk_drewN ?_ _ | refine blk_drew ?_ | refine blk_alloc ?_ _)); exact BK110.out) hb); replace HB := Aside0.mk (below_step zB hb); (try clear hb); (try clear hb2); (try clear hk); (try clear hi); obtain ⟨hcz49_0, hcz49_1⟩ := cZ2 BK110; obtain ⟨hfz49_0, hfz49_1⟩ := dZ2 BK110; obtain ⟨hcz50_0, hcz50_1, hcz50_2, hcz50_3⟩ := cZ4 BK109; obtain ⟨hfz50_0, hfz50_1, hfz50_2, hfz50_3⟩ := dZ4 BK109))
      go_ret
      exact ⟨zE, zB⟩
    ·
     rw [if_neg c6] at H
     have c6b0 : decide (a0_1 ≤ 1000) = false := decide_eq_false c6
     clear c6; obtain rfl := Option.some.inj H
     go_enter Try.func74, Try.ntmps74
     go_wp2_with (first | ((with_reducible refine gate_dst (N := 1) rfl ?_); refine box_event ?hg (N := 1) ?hd (cs := #[.int .i64 a0_0, .int .i64 a0_1, .int .i64 a0_2, .int .i64 a0_3]) (t := 30) ?hr ?_; (case hd => rfl); (case hg => rfl); (case hr => first | (go_simp; done) | (go_simp; rfl)); intro gb109 hg w51 hbox hb; have BK109 := Aside0.mk (hbox); have GW109 := Aside0.mk ((zg : w.heap.size ≤ gb109)); have GE109 := Aside0.mk ((zg : w.heap.size ≤ gb109)); replace HB := Aside0.mk (below_step zB hb); clear hb hbox hg; obtain ⟨hcz52_0, hcz52_1, hcz52_2, hcz52_3⟩ := cZ4 BK109; obtain ⟨hfz52_0, hfz52_1, hfz52_2, hfz52_3⟩ := dZ4 BK109) | ((with_reducible refine gate_dst (N := 3) rfl ?_); refine box_event ?hg (N := 3) ?hd (cs := #[.int .i64 0, .int .i64 0]) (t := 28) ?hr ?_; (case hd => rfl); (case hg => rfl); (case hr => first | (go_simp; done) | (go_simp; rfl)); intro gb110 hg w53 hbox hb; have n0_ := Aside0.mk (blk_below (zk BK109) hb); have n1_ := Aside0.mk (below_step zB hb); have n2_ := Aside0.mk (hbox); have n3_ := Aside0.mk ((zg : w.heap.size ≤ gb110)); have n4_ := Aside0.mk ((zg : w.heap.size ≤ gb110)); have n5_ := Aside0.mk ((by rw [hg]; exact Nat.ne_of_lt (blk_lt (zk BK109)) : gb109 ≠ gb110)); have n6_ := Aside0.mk ((by rw [hg]; exact Nat.ne_of_gt (blk_lt (zk BK109)) : gb110 ≠ gb109)); clear BK109; clear HB; have BK109 := n0_; have HB := n1_; have BK110 := n2_; have GW110 := n3_; have GE110 := n4_; have NB109_110 := n5_; have NB110_109 := n6_; clear n0_ n1_ n2_ n3_ n4_ n5_ n6_; clear hb hbox hg; have hnb54 := NB110_109.out; have hnc54 := NB109_110.out; obtain ⟨hcz55_0, hcz55_1⟩ := cZ2 BK110; obtain ⟨hfz55_0, hfz55_1⟩ := dZ2 BK110) | ((with_reducible refine gate_callee (f := 81) rfl ?_); refine goesL_ (some 7) rfl rfl Try.func81 (by kernel_rfl) rfl #[.agg #[.int .i64 a0_0, .int .i64 a0_1]] rfl zM ?_; (with_reducible refine (ratio_Check.calls a0_0 a0_1 true _ A2.out).mono ?_); rintro e w56 ⟨rfl, hb⟩; refine ⟨_, rfl, ?_⟩; replace BK109 := Aside0.mk (blk_below (g := gb109) (o := .cells #[.int .i64 a0_0, .int .i64 a0_1, .int .i64 a0_2, .int .i64 a0_3] 30 (0, 0)) (by (with_reducible repeat (first | refine blk_drewN ?_ _ | refine blk_drew ?_ | refine blk_alloc ?_ _)); refine blk_far ?_ NB109_110.out _; (with_reducible repeat (first | refine blk_drewN ?_ _ | refine blk_drew ?_ | refine blk_alloc ?_ _)); refine blk_far ?_ NB109_110.out _; (with_reducible repeat (first | refine blk_drewN ?_ _ | refine blk_drew ?_ | refine blk_alloc ?_ _)); exact BK109.out) hb); replace BK110 := Aside0.mk (blk_below (g := gb110) (o := .cells #[.int .i64 a0_0, .int .i64 a0_1] 28 (0, 0)) (by (with_reducible repeat (first | refine blk_drewN ?_ _ | refine blk_drew ?_ | refine blk_alloc ?_ _)); refine blk_put (cs := #[.int .i64 a0_0, .int .i64 0]) ?_ 1 _ rfl; (with_reducible repeat (first | refine blk_drewN ?_ _ | refine blk_drew ?_ | refine blk_alloc ?_ _)); refine blk_put (cs := #[.int .i64 0, .int .i64 0]) ?_ 0 _ rfl; (with_reducible repeat (first | refine blk_drewN ?_ _ | refine blk_drew ?_ | refine blk_alloc ?_ _)); exact BK110.out) hb); replace HB := Aside0.mk (below_step zB hb); (try clear hb); (try clear hb2); (try clear hk); (try clear hi); obtain ⟨hcz57_0, hcz57_1⟩ := cZ2 BK110; obtain ⟨hfz57_0, hfz57_1⟩ := dZ2 BK110))
     go_ret
     exact ⟨zE, zB⟩
   ·
    rw [if_neg c5] at H
    have c5b0 : decide (a0_0 ≤ a0_1) = false := decide_eq_false c5
    clear c5; obtain rfl := Option.some.inj H
    go_enter Try.func74, Try.ntmps74
    go_wp2_with (first | ((with_reducible refine gate_dst (N := 1) rfl ?_); refine box_event ?hg (N := 1) ?hd (cs := #[.int .i64 a0_0, .int .i64 a0_1, .int .i64 a0_2, .int .i64 a0_3]) (t := 30) ?hr ?_; (case hd => rfl); (case hg => rfl); (case hr => first | (go_simp; done) | (go_simp; rfl)); intro gb109 hg w58 hbox hb; have BK109 := Aside0.mk (hbox); have GW109 := Aside0.mk ((zg : w.heap.size ≤ gb109)); have GE109 := Aside0.mk ((zg : w.heap.size ≤ gb109)); replace HB := Aside0.mk (below_step zB hb); clear hb hbox hg; obtain ⟨hcz59_0, hcz59_1, hcz59_2, hcz59_3⟩ := cZ4 BK109; obtain ⟨hfz59_0, hfz59_1, hfz59_2, hfz59_3⟩ := dZ4 BK109) | ((with_reducible refine gate_dst (N := 3) rfl ?_); refine box_event ?hg (N := 3) ?hd (cs := #[.int .i64 0, .int .i64 0]) (t := 28) ?hr ?_; (case hd => rfl); (case hg => rfl); (case hr => first | (go_simp; done) | (go_simp; rfl)); intro gb110 hg w60 hbox hb; have n0_ := Aside0.mk (blk_below (zk BK109) hb); have n1_ := Aside0.mk (below_step zB hb); have n2_ := Aside0.mk (hbox); have n3_ := Aside0.mk ((zg : w.heap.size ≤ gb110)); have n4_ := Aside0.mk ((zg : w.heap.size ≤ gb110)); have n5_ := Aside0.mk ((by rw [hg]; exact Nat.ne_of_lt (blk_lt (zk BK109)) : gb109 ≠ gb110)); have n6_ := Aside0.mk ((by rw [hg]; exact Nat.ne_of_gt (blk_lt (zk BK109)) : gb110 ≠ gb109)); clear BK109; clear HB; have BK109 := n0_; have HB := n1_; have BK110 := n2_; have GW110 := n3_; have GE110 := n4_; have NB109_110 := n5_; have NB110_109 := n6_; clear n0_ n1_ n2_ n3_ n4_ n5_ n6_; clear hb hbox hg; have hnb61 := NB110_109.out; have hnc61 := NB109_110.out; obtain ⟨hcz62_0, hcz62_1⟩ := cZ2 BK110; obtain ⟨hfz62_0, hfz62_1⟩ := dZ2 BK110) | ((with_reducible refine gate_callee (f := 81) rfl ?_); refine goesL_ (some 7) rfl rfl Try.func81 (by kernel_rfl) rfl #[.agg #[.int .i64 a0_0, .int .i64 a0_1]] rfl zM ?_; (with_reducible refine (ratio_Check.calls a0_0 a0_1 true _ A2.out).mono ?_); rintro e w63 ⟨rfl, hb⟩; refine ⟨_, rfl, ?_⟩; replace BK109 := Aside0.mk (blk_below (g := gb109) (o := .cells #[.int .i64 a0_0, .int .i64 a0_1, .int .i64 a0_2, .int .i64 a0_3] 30 (0, 0)) (by (with_reducible repeat (first | refine blk_drewN ?_ _ | refine blk_drew ?_ | refine blk_alloc ?_ _)); refine blk_far ?_ NB109_110.out _; (with_reducible repeat (first | refine blk_drewN ?_ _ | refine blk_drew ?_ | refine blk_alloc ?_ _)); refine blk_far ?_ NB109_110.out _; (with_reducible repeat (first | refine blk_drewN ?_ _ | refine blk_drew ?_ | refine blk_alloc ?_ _)); exact BK109.out) hb); replace BK110 := Aside0.mk (blk_below (g := gb110) (o := .cells #[.int .i64 a0_0, .int .i64 a0_1] 28 (0, 0)) (by (with_reducible repeat (first | refine blk_drewN ?_ _ | refine blk_drew ?_ | refine blk_alloc ?_ _)); refine blk_put (cs := #[.int .i64 a0_0, .int .i64 0]) ?_ 1 _ rfl; (with_reducible repeat (first | refine blk_drewN ?_ _ | refine blk_drew ?_ | refine blk_alloc ?_ _)); refine blk_put (cs := #[.int .i64 0, .int .i64 0]) ?_ 0 _ rfl; (with_reducible repeat (first | refine blk_drewN ?_ _ | refine blk_drew ?_ | refine blk_alloc ?_ _)); exact BK110.out) hb); replace HB := Aside0.mk (below_step zB hb); (try clear hb); (try clear hb2); (try clear hk); (try clear hi); obtain ⟨hcz64_0, hcz64_1⟩ := cZ2 BK110; obtain ⟨hfz64_0, hfz64_1⟩ := dZ2 BK110))
    go_ret
    exact ⟨zE, zB⟩
  ·
   rw [if_neg c4] at H
   have c4b0 : decide (0 < a0_0) = false := decide_eq_false c4
   clear c4; obtain rfl := Option.some.inj H
   go_enter Try.func74, Try.ntmps74
   go_wp2_with (first | ((with_reducible refine gate_dst (N := 1) rfl ?_); refine box_event ?hg (N := 1) ?hd (cs := #[.int .i64 a0_0, .int .i64 a0_1, .int .i64 a0_2, .int .i64 a0_3]) (t := 30) ?hr ?_; (case hd => rfl); (case hg => rfl); (case hr => first | (go_simp; done) | (go_simp; rfl)); intro gb109 hg w65 hbox hb; have BK109 := Aside0.mk (hbox); have GW109 := Aside0.mk ((zg : w.heap.size ≤ gb109)); have GE109 := Aside0.mk ((zg : w.heap.size ≤ gb109)); replace HB := Aside0.mk (below_step zB hb); clear hb hbox hg; obtain ⟨hcz66_0, hcz66_1, hcz66_2, hcz66_3⟩ := cZ4 BK109; obtain ⟨hfz66_0, hfz66_1, hfz66_2, hfz66_3⟩ := dZ4 BK109) | ((with_reducible refine gate_dst (N := 3) rfl ?_); refine box_event ?hg (N := 3) ?hd (cs := #[.int .i64 0, .int .i64 0]) (t := 28) ?hr ?_; (case hd => rfl); (case hg => rfl); (case hr => first | (go_simp; done) | (go_simp; rfl)); intro gb110 hg w67 hbox hb; have n0_ := Aside0.mk (blk_below (zk BK109) hb); have n1_ := Aside0.mk (below_step zB hb); have n2_ := Aside0.mk (hbox); have n3_ := Aside0.mk ((zg : w.heap.size ≤ gb110)); have n4_ := Aside0.mk ((zg : w.heap.size ≤ gb110)); have n5_ := Aside0.mk ((by rw [hg]; exact Nat.ne_of_lt (blk_lt (zk BK109)) : gb109 ≠ gb110)); have n6_ := Aside0.mk ((by rw [hg]; exact Nat.ne_of_gt (blk_lt (zk BK109)) : gb110 ≠ gb109)); clear BK109; clear HB; have BK109 := n0_; have HB := n1_; have BK110 := n2_; have GW110 := n3_; have GE110 := n4_; have NB109_110 := n5_; have NB110_109 := n6_; clear n0_ n1_ n2_ n3_ n4_ n5_ n6_; clear hb hbox hg; have hnb68 := NB110_109.out; have hnc68 := NB109_110.out; obtain ⟨hcz69_0, hcz69_1⟩ := cZ2 BK110; obtain ⟨hfz69_0, hfz69_1⟩ := dZ2 BK110) | ((with_reducible refine gate_callee (f := 81) rfl ?_); refine goesL_ (some 7) rfl rfl Try.func81 (by kernel_rfl) rfl #[.agg #[.int .i64 a0_0, .int .i64 a0_1]] rfl zM ?_; (with_reducible refine (ratio_Check.calls a0_0 a0_1 true _ A2.out).mono ?_); rintro e w70 ⟨rfl, hb⟩; refine ⟨_, rfl, ?_⟩; replace BK109 := Aside0.mk (blk_below (g := gb109) (o := .cells #[.int .i64 a0_0, .int .i64 a0_1, .int .i64 a0_2, .int .i64 a0_3] 30 (0, 0)) (by (with_reducible repeat (first | refine blk_drewN ?_ _ | refine blk_drew ?_ | refine blk_alloc ?_ _)); refine blk_far ?_ NB109_110.out _; (with_reducible repeat (first | refine blk_drewN ?_ _ | refine blk_drew ?_ | refine blk_alloc ?_ _)); refine blk_far ?_ NB109_110.out _; (with_reducible repeat (first | refine blk_drewN ?_ _ | refine blk_drew ?_ | refine blk_alloc ?_ _)); exact BK109.out) hb); replace BK110 := Aside0.mk (blk_below (g := gb110) (o := .cells #[.int .i64 a0_0, .int .i64 a0_1] 28 (0, 0)) (by (with_reducible repeat (first | refine blk_drewN ?_ _ | refine blk_drew ?_ | refine blk_alloc ?_ _)); refine blk_put (cs := #[.int .i64 a0_0, .int .i64 0]) ?_ 1 _ rfl; (with_reducible repeat (first | refine blk_drewN ?_ _ | refine blk_drew ?_ | refine blk_alloc ?_ _)); refine blk_put (cs := #[.int .i64 0, .int .i64 0]) ?_ 0 _ rfl; (with_reducible repeat (first | refine blk_drewN ?_ _ | refine blk_drew ?_ | refine blk_alloc ?_ _)); exact BK110.out) hb); replace HB := Aside0.mk (below_step zB hb); (try clear hb); (try clear hb2); (try clear hk); (try clear hi); obtain ⟨hcz71_0, hcz71_1⟩ := cZ2 BK110; obtain ⟨hfz71_0, hfz71_1⟩ := dZ2 BK110))
   go_ret
   exact ⟨zE, zB⟩
 ·
  replace c3 := Bool.eq_false_iff.mpr c3
  subst c3
  have H1 : (some false) = some r := by rw [if_neg (show ¬ (false = true) by decide)] at H; exact H
  clear H; have H := H1; clear H1; obtain rfl := Option.some.inj H
  go_enter Try.func74, Try.ntmps74
  go_wp2_with (first | ((with_reducible refine gate_dst (N := 1) rfl ?_); refine box_event ?hg (N := 1) ?hd (cs := #[.int .i64 a0_0, .int .i64 a0_1, .int .i64 a0_2, .int .i64 a0_3]) (t := 30) ?hr ?_; (case hd => rfl); (case hg => rfl); (case hr => first | (go_simp; done) | (go_simp; rfl)); intro gb109 hg w72 hbox hb; have BK109 := Aside0.mk (hbox); have GW109 := Aside0.mk ((zg : w.heap.size ≤ gb109)); have GE109 := Aside0.mk ((zg : w.heap.size ≤ gb109)); replace HB := Aside0.mk (below_step zB hb); clear hb hbox hg; obtain ⟨hcz73_0, hcz73_1, hcz73_2, hcz73_3⟩ := cZ4 BK109; obtain ⟨hfz73_0, hfz73_1, hfz73_2, hfz73_3⟩ := dZ4 BK109) | ((with_reducible refine gate_dst (N := 3) rfl ?_); refine box_event ?hg (N := 3) ?hd (cs := #[.int .i64 0, .int .i64 0]) (t := 28) ?hr ?_; (case hd => rfl); (case hg => rfl); (case hr => first | (go_simp; done) | (go_simp; rfl)); intro gb110 hg w74 hbox hb; have n0_ := Aside0.mk (blk_below (zk BK109) hb); have n1_ := Aside0.mk (below_step zB hb); have n2_ := Aside0.mk (hbox); have n3_ := Aside0.mk ((zg : w.heap.size ≤ gb110)); have n4_ := Aside0.mk ((zg : w.heap.size ≤ gb110)); have n5_ := Aside0.mk ((by rw [hg]; exact Nat.ne_of_lt (blk_lt (zk BK109)) : gb109 ≠ gb110)); have n6_ := Aside0.mk ((by rw [hg]; exact Nat.ne_of_gt (blk_lt (zk BK109)) : gb110 ≠ gb109)); clear BK109; clear HB; have BK109 := n0_; have HB := n1_; have BK110 := n2_; have GW110 := n3_; have GE110 := n4_; have NB109_110 := n5_; have NB110_109 := n6_; clear n0_ n1_ n2_ n3_ n4_ n5_ n6_; clear hb hbox hg; have hnb75 := NB110_109.out; have hnc75 := NB109_110.out; obtain ⟨hcz76_0, hcz76_1⟩ := cZ2 BK110; obtain ⟨hfz76_0, hfz76_1⟩ := dZ2 BK110) | ((with_reducible refine gate_callee (f := 81) rfl ?_); refine goesL_ (some 7) rfl rfl Try.func81 (by kernel_rfl) rfl #[.agg #[.int .i64 a0_0, .int .i64 a0_1]] rfl zM ?_; (with_reducible refine (ratio_Check.calls a0_0 a0_1 false _ A2.out).mono ?_); rintro e w77 ⟨rfl, hb⟩; refine ⟨_, rfl, ?_⟩; replace BK109 := Aside0.mk (blk_below (g := gb109) (o := .cells #[.int .i64 a0_0, .int .i64 a0_1, .int .i64 a0_2, .int .i64 a0_3] 30 (0, 0)) (by (with_reducible repeat (first | refine blk_drewN ?_ _ | refine blk_drew ?_ | refine blk_alloc ?_ _)); refine blk_far ?_ NB109_110.out _; (with_reducible repeat (first | refine blk_drewN ?_ _ | refine blk_drew ?_ | refine blk_alloc ?_ _)); refine blk_far ?_ NB109_110.out _; (with_reducible repeat (first | refine blk_drewN ?_ _ | refine blk_drew ?_ | refine blk_alloc ?_ _)); exact BK109.out) hb); replace BK110 := Aside0.mk (blk_below (g := gb110) (o := .cells #[.int .i64 a0_0, .int .i64 a0_1] 28 (0, 0)) (by (with_reducible repeat (first | refine blk_drewN ?_ _ | refine blk_drew ?_ | refine blk_alloc ?_ _)); refine blk_put (cs := #[.int .i64 a0_0, .int .i64 0]) ?_ 1 _ rfl; (with_reducible repeat (first | refine blk_drewN ?_ _ | refine blk_drew ?_ | refine blk_alloc ?_ _)); refine blk_put (cs := #[.int .i64 0, .int .i64 0]) ?_ 0 _ rfl; (with_reducible repeat (first | refine blk_drewN ?_ _ | refine blk_drew ?_ | refine blk_alloc ?_ _)); exact BK110.out) hb); replace HB := Aside0.mk (below_step zB hb); (try clear hb); (try clear hb2); (try clear hk); (try clear hi)))
  go_ret
  exact ⟨zE, zB⟩
end Go.Proofs.Ytehnebddmbdnhaa.PWireApart
