-- Written by this session's own program (wip/tools/mkprint.py) over the kit's printer, with overrides.
import Derived.Test.YtghhmnjkgnoogaaTOuterBacka
import Derived.Test.YtghhmnjkgnoogaaQOuterBackx0
import Derived.Test.YtghhmnjkgnoogaaQOuterBackx6
import Derived.Test.YtghhmnjkgnoogaaQOuterBackx7
namespace Go.Proofs.Ytghhmnjkgnoogaa.POuterBack
open Go.RowKit Go.Mine Go.Proofs.YtghhmnjkgnoogaaW.PrintWords Go.Proofs.YtghhmnjkgnoogaaW.PrintLast Go.Proofs.YtghhmnjkgnoogaaW.PrintMore
attribute [local go_sem] max2_int min2_int max_two min_two max_three min_three max_four min_four   -- for this text's walks alone
set_option linter.unusedVariables false
set_option linter.unusedSimpArgs false
/-! ### mosaiclaw09_OuterBack: function 5 -/
mutual
def mosaiclaw09_OuterBack.l0 : Nat → List Bool → List ByteArray → List ByteArray → Int → Int → Int → Int → Int → Int → Option (Bool)
 | 0, _, _, _, _, _, _, _, _, _ => none
 | k + 1, x2, x7, x9, x10, x11, x216000, x216001, x216002, x216003 => if x11 < (x9.length : Int) then (mosaiclaw09_OuterBack.j1 k x2 x7 x9 x10 x11 (decide (x11 < (x2.length : Int))) x216000 x216001 x216002 x216003) else (mosaiclaw09_OuterBack.j1 k x2 x7 x9 x10 x11 false x216000 x216001 x216002 x216003)
def mosaiclaw09_OuterBack.j1 : Nat → List Bool → List ByteArray → List ByteArray → Int → Int → Bool → Int → Int → Int → Int → Option (Bool)
 | 0, _, _, _, _, _, _, _, _, _, _ => none
 | k + 1, x2, x7, x9, x10, x11, x47, x216000, x216001, x216002, x216003 => if x47 = true then (if 0 ≤ x11 then (if x11 < (x2.length : Int) then (if rdOf false x2 x11 = true then (if x10 > 1 then (if x11 < (x9.length : Int) then (mosaiclaw09_OuterBack.l0 k x2 x7 (x9.set (x11 : Int).toNat (⟨#[]⟩ : ByteArray)) (wrap64 (x10 - 1)) (wrap64 (x11 + 1)) x216000 x216001 x216002 x216003) else (none)) else (mosaiclaw09_OuterBack.l0 k x2 x7 x9 x10 (wrap64 (x11 + 1)) x216000 x216001 x216002 x216003)) else (mosaiclaw09_OuterBack.l0 k x2 x7 x9 x10 (wrap64 (x11 + 1)) x216000 x216001 x216002 x216003)) else (none)) else (none)) else ((outer_Fill.f k x216000 x216001 x216002 x216003 x9).bind fun bt231 => (if bt231.2 = 0 then (mosaiclaw09_OuterBack.j2 k x7 x9 bt231.1 ((bt231.1.length : Int) != (x7.length : Int))) else (mosaiclaw09_OuterBack.j2 k x7 x9 bt231.1 true)))
def mosaiclaw09_OuterBack.j2 : Nat → List ByteArray → List ByteArray → List ByteArray → Bool → Option (Bool)
 | 0, _, _, _, _ => none
 | k + 1, x7, x9, x12, x77 => if x77 = true then (some false) else (mosaiclaw09_OuterBack.l1 k x7 x9 x12 0)
def mosaiclaw09_OuterBack.l1 : Nat → List ByteArray → List ByteArray → List ByteArray → Int → Option (Bool)
 | 0, _, _, _, _ => none
 | k + 1, x7, x9, x12, x14 => if x14 < (x12.length : Int) then (if 0 ≤ x14 then (if (rdOf ByteArray.empty x12 x14).toList = ([] : List UInt8) then (if x14 < (x9.length : Int) then (if (rdOf ByteArray.empty x9 x14).toList = ([] : List UInt8) then (mosaiclaw09_OuterBack.l1 k x7 x9 x12 (wrap64 (x14 + 1))) else (some false)) else (none)) else (if x14 < (x7.length : Int) then (if (rdOf ByteArray.empty x12 x14).toList = (rdOf ByteArray.empty x7 x14).toList then (mosaiclaw09_OuterBack.l1 k x7 x9 x12 (wrap64 (x14 + 1))) else (some false)) else (none))) else (none)) else ((mosaiclaw09_awake.f k).bind fun t241 => (some t241))
end
def mosaiclaw09_OuterBack.f (k : Nat) (a0_0 : Int) (a0_1 : Int) (a0_2 : Int) (a0_3 : Int) (l1 : List ByteArray) (l2 : List Bool) : Option (Bool) := (mosaiclaw09_few.f k l1).bind fun t216 => (if t216 = true then ((outer_Whole.f k a0_0 a0_1 a0_2 a0_3 l1).bind fun bt218 => (if bt218.2 = 0 then ((some (([] : List ByteArray) : List ByteArray)).bind fun y223 => (if y223.length + bt218.1.length < 8796093022208 then ((some (y223 ++ bt218.1 : List ByteArray)).bind fun y226 => (mosaiclaw09_OuterBack.l0 k l2 bt218.1 y226 (y226.length : Int) 0 a0_0 a0_1 a0_2 a0_3)) else (none))) else ((mosaiclaw09_awake.f k).bind fun t222 => (if t222 = true then (some ((bt218.1.length : Int) == 0)) else (some false))))) else ((mosaiclaw09_awake.f k).bind fun t217 => (some t217)))
theorem mosaiclaw09_OuterBack.mono_l : ∀ k, (∀ y0 y1 y2 y3 y4 y5 y6 y7 y8, LeO (mosaiclaw09_OuterBack.l0 k y0 y1 y2 y3 y4 y5 y6 y7 y8) (mosaiclaw09_OuterBack.l0 (k + 1) y0 y1 y2 y3 y4 y5 y6 y7 y8)) ∧ (∀ y0 y1 y2 y3 y4 y5 y6 y7 y8 y9, LeO (mosaiclaw09_OuterBack.j1 k y0 y1 y2 y3 y4 y5 y6 y7 y8 y9) (mosaiclaw09_OuterBack.j1 (k + 1) y0 y1 y2 y3 y4 y5 y6 y7 y8 y9)) ∧ (∀ y0 y1 y2 y3, LeO (mosaiclaw09_OuterBack.j2 k y0 y1 y2 y3) (mosaiclaw09_OuterBack.j2 (k + 1) y0 y1 y2 y3)) ∧ (∀ y0 y1 y2 y3, LeO (mosaiclaw09_OuterBack.l1 k y0 y1 y2 y3) (mosaiclaw09_OuterBack.l1 (k + 1) y0 y1 y2 y3))
 | 0 => ⟨fun _ _ _ _ _ _ _ _ _ r h => by simp [mosaiclaw09_OuterBack.l0] at h, fun _ _ _ _ _ _ _ _ _ _ r h => by simp [mosaiclaw09_OuterBack.j1] at h, fun _ _ _ _ r h => by simp [mosaiclaw09_OuterBack.j2] at h, fun _ _ _ _ r h => by simp [mosaiclaw09_OuterBack.l1] at h⟩
 | k + 1 => by
  obtain ⟨ih0, ih1, ih2, ih3⟩ := mosaiclaw09_OuterBack.mono_l k
  refine ⟨?_, ?_, ?_, ?_⟩ <;> intros <;> (first | unfold mosaiclaw09_OuterBack.l0 | unfold mosaiclaw09_OuterBack.j1 | unfold mosaiclaw09_OuterBack.j2 | unfold mosaiclaw09_OuterBack.l1)
  all_goals repeat' first | (with_reducible first | apply ih0 | apply ih1 | apply ih2 | apply ih3 | apply mosaiclaw09_awake.mono | apply mosaiclaw09_few.mono | apply outer_Fill.mono | apply outer_Whole.mono | exact LeO.refl _ | exact LeO.none _ | refine LeO.ite ?_ ?_ | refine LeO.bind ?_ (fun _ => ?_)) | apply ih0 | apply ih1 | apply ih2 | apply ih3 | apply mosaiclaw09_awake.mono | apply mosaiclaw09_few.mono | apply outer_Fill.mono | apply outer_Whole.mono | exact LeO.none _ | refine LeO.ite ?_ ?_ | refine LeO.bind ?_ (fun _ => ?_)
theorem mosaiclaw09_OuterBack.mono : ∀ a0 a1 a2 a3 a4 a5 k, LeO (mosaiclaw09_OuterBack.f k a0 a1 a2 a3 a4 a5) (mosaiclaw09_OuterBack.f (k + 1) a0 a1 a2 a3 a4 a5) := by
 intro a0 a1 a2 a3 a4 a5 k
 obtain ⟨ih0, ih1, ih2, ih3⟩ := mosaiclaw09_OuterBack.mono_l k
 unfold mosaiclaw09_OuterBack.f
 repeat' first | (with_reducible first | apply ih0 | apply ih1 | apply ih2 | apply ih3 | apply mosaiclaw09_awake.mono | apply mosaiclaw09_few.mono | apply outer_Fill.mono | apply outer_Whole.mono | exact LeO.refl _ | exact LeO.none _ | refine LeO.ite ?_ ?_ | refine LeO.bind ?_ (fun _ => ?_)) | apply ih0 | apply ih1 | apply ih2 | apply ih3 | apply mosaiclaw09_awake.mono | apply mosaiclaw09_few.mono | apply outer_Fill.mono | apply outer_Whole.mono | exact LeO.none _ | refine LeO.ite ?_ ?_ | refine LeO.bind ?_ (fun _ => ?_)
set_option maxHeartbeats 8000000 in
set_option maxRecDepth 100000 in
theorem mosaiclaw09_OuterBack.calls (k : Nat) (a0_0 : Int) (a0_1 : Int) (a0_2 : Int) (a0_3 : Int) (A1 : Option Addr) (c1 : Nat) (l1 : List ByteArray) (A2 : Option Addr) (c2 : Nat) (l2 : List Bool) (r : Bool) (w : World) (hr1 : Kd.C Kd.string w A1 l1.length l1) (hc1 : l1.length ≤ c1) (hr2 : Kd.C Kd.bool w A2 l2.length l2) (hc2 : l2.length ≤ c2) (h : mosaiclaw09_OuterBack.f k a0_0 a0_1 a0_2 a0_3 l1 l2 = some r) :
  Calls Try.prog 5 #[.agg #[.int .i64 a0_0, .int .i64 a0_1, .int .i64 a0_2, .int .i64 a0_3], .slice A1 l1.length c1, .slice A2 l2.length c2] w fun e w' => e = .returned (.bool r) ∧ Below w.heap.size w w' := by
 have hu23 := Try.underlying23; have HR1 := Aside0.mk hr1
 have HC1 := Aside0.mk hc1
 clear hr1 hc1; have HR2 := Aside0.mk hr2
 have HC2 := Aside0.mk hc2
 clear hr2 hc2; have HB := Aside0.mk (Below.refl w.heap.size w)
 have H : ((mosaiclaw09_few.f k l1).bind fun t216 => (if t216 = true then ((outer_Whole.f k a0_0 a0_1 a0_2 a0_3 l1).bind fun bt218 => (if bt218.2 = 0 then ((some (([] : List ByteArray) : List ByteArray)).bind fun y223 => (if y223.length + bt218.1.length < 8796093022208 then ((some (y223 ++ bt218.1 : List ByteArray)).bind fun y226 => (mosaiclaw09_OuterBack.l0 k l2 bt218.1 y226 (y226.length : Int) 0 a0_0 a0_1 a0_2 a0_3)) else (none))) else ((mosaiclaw09_awake.f k).bind fun t222 => (if t222 = true then (some ((bt218.1.length : Int) == 0)) else (some false))))) else ((mosaiclaw09_awake.f k).bind fun t217 => (some t217)))) = some r := h
 clear h; replace H := Option.bind_eq_some_iff.mp H
 obtain ⟨t216, A40, H⟩ := H
 replace H : (if t216 = true then ((outer_Whole.f k a0_0 a0_1 a0_2 a0_3 l1).bind fun bt218 => (if bt218.2 = 0 then ((some (([] : List ByteArray) : List ByteArray)).bind fun y223 => (if y223.length + bt218.1.length < 8796093022208 then ((some (y223 ++ bt218.1 : List ByteArray)).bind fun y226 => (mosaiclaw09_OuterBack.l0 k l2 bt218.1 y226 (y226.length : Int) 0 a0_0 a0_1 a0_2 a0_3)) else (none))) else ((mosaiclaw09_awake.f k).bind fun t222 => (if t222 = true then (some ((bt218.1.length : Int) == 0)) else (some false))))) else ((mosaiclaw09_awake.f k).bind fun t217 => (some t217))) = some r := H
 have A4 := Aside0.mk A40
 clear A40; by_cases c5 : t216 = true
 ·
  subst c5
  have H1 : ((outer_Whole.f k a0_0 a0_1 a0_2 a0_3 l1).bind fun bt218 => (if bt218.2 = 0 then ((some (([] : List ByteArray) : List ByteArray)).bind fun y223 => (if y223.length + bt218.1.length < 8796093022208 then ((some (y223 ++ bt218.1 : List ByteArray)).bind fun y226 => (mosaiclaw09_OuterBack.l0 k l2 bt218.1 y226 (y226.length : Int) 0 a0_0 a0_1 a0_2 a0_3)) else (none))) else ((mosaiclaw09_awake.f k).bind fun t222 => (if t222 = true then (some ((bt218.1.length : Int) == 0)) else (some false))))) = some r := by rw [if_pos rfl] at H; exact H
  clear H; have H := H1; clear H1; replace H := Option.bind_eq_some_iff.mp H
  obtain ⟨⟨t218, t221⟩, A60, H⟩ := H
  replace H : (if t221 = 0 then ((some (([] : List ByteArray) : List ByteArray)).bind fun y223 => (if y223.length + t218.length < 8796093022208 then ((some (y223 ++ t218 : List ByteArray)).bind fun y226 => (mosaiclaw09_OuterBack.l0 k l2 t218 y226 (y226.length : Int) 0 a0_0 a0_1 a0_2 a0_3)) else (none))) else ((mosaiclaw09_awake.f k).bind fun t222 => (if t222 = true then (some ((t218.length : Int) == 0)) else (some false)))) = some r := H
  have A6 := Aside0.mk A60
  clear A60; by_cases c7 : t221 = 0
  ·
   rw [if_pos c7] at H
   have c7b0 : (t221 == 0) = true := beq_iff_eq.mpr c7
   have c7b1 : (t221 != 0) = false := bne_eq_false_iff_eq.mpr c7
   clear c7; obtain ⟨y223, hy223⟩ : ∃ y_ : List ByteArray, y_ = (([] : List ByteArray)) := ⟨_, rfl⟩
   replace H : (if y223.length + t218.length < 8796093022208 then ((some (y223 ++ t218 : List ByteArray)).bind fun y226 => (mosaiclaw09_OuterBack.l0 k l2 t218 y226 (y226.length : Int) 0 a0_0 a0_1 a0_2 a0_3)) else (none)) = some r := by first | (rw [hy223]; with_reducible exact H) | (have H2_ := (Option.bind_some _ _).symm.trans H; rw [hy223]; with_reducible exact H2_) | (have H2_ := (Option.bind_some _ _).symm.trans H; with_reducible exact H2_) | with_reducible exact H | (rw [hy223]; exact H) | exact H
   have Ny223 := Aside0.mk hy223
   clear hy223; by_cases c8 : y223.length + t218.length < 8796093022208
   ·
    rw [if_pos c8] at H
    have LMc8 := Aside0.mk c8
    clear c8; obtain ⟨y226, hy226⟩ : ∃ y_ : List ByteArray, y_ = (y223 ++ t218) := ⟨_, rfl⟩
    replace H : (mosaiclaw09_OuterBack.l0 k l2 t218 y226 (y226.length : Int) 0 a0_0 a0_1 a0_2 a0_3) = some r := by first | (rw [hy226]; with_reducible exact H) | (have H2_ := (Option.bind_some _ _).symm.trans H; rw [hy226]; with_reducible exact H2_) | (have H2_ := (Option.bind_some _ _).symm.trans H; with_reducible exact H2_) | with_reducible exact H | (rw [hy226]; exact H) | exact H
    have Ny226 := Aside0.mk hy226
    clear hy226; have H' := Aside0.mk H
    clear H; go_enter Try.func5, Try.ntmps5
    go_wp2_with (first | ((with_reducible refine gate_dst (N := 3) rfl ?_); (try (refine gate_guard (by rfl) ?_; dsimp only)); refine box_event ?hg (N := 3) ?hd (cs := #[.int .i64 a0_0, .int .i64 a0_1, .int .i64 a0_2, .int .i64 a0_3]) (t := 23) ?hr ?_; (case hd => rfl); (case hg => rfl); (case hr => first | (go_simp; done) | (go_simp; rfl)); intro gb215 hg w9 hbox hb; have BK215 := Aside0.mk (hbox); have GW215 := Aside0.mk ((zg : w.heap.size ≤ gb215)); have GE215 := Aside0.mk ((zg : w.heap.size ≤ gb215)); replace HB := Aside0.mk (below_step zB hb); clear hb hbox hg) | (go_at_call 11; (with_reducible refine (mosaiclaw09_few.calls k _ _ l1 true _ ?side1 ?side2 A4.out).mono ?_); (case side1 => exact zCB HR1); (case side2 => exact HC1.out); rintro e w' ⟨rfl, ⟨nd, rfl⟩⟩; (try first | exact ⟨rfl, _, World.drewN_drewN _ _ _⟩ | exact ⟨rfl, _, Eq.trans (World.drewN_drewN _ _ _) (congrArg (World.drewN _) (Nat.add_assoc _ _ _))⟩); obtain ⟨hcz10_0, hcz10_1, hcz10_2, hcz10_3⟩ := cZ4 BK215; obtain ⟨hfz10_0, hfz10_1, hfz10_2, hfz10_3⟩ := dZ4 BK215) | (go_at_call 12; (with_reducible refine (outer_Whole.calls k a0_0 a0_1 a0_2 a0_3 _ _ l1 t218 t221 _ ?side1 ?side2 A6.out).mono ?_); (case side1 => repeat (first | exact (Kd.C_below HR1.out zB) | (with_reducible refine Kd.C_alloc ?_ _) | (with_reducible refine Kd.C_drewN ?_ _) | (with_reducible refine Kd.C_drew ?_))); (case side2 => exact HC1.out); rintro e w11 ⟨v219, rfl, ho0, hb⟩; have HO220 := Aside0.mk (Kd.R_lower ho0 (below_size zB)); replace BK215 := Aside0.mk (blk_below (zk BK215) hb); replace HB := Aside0.mk (below_step zB hb); (try clear hb); (try clear hb2); (try clear hk); (try clear hi); (try clear ho0)) | ((with_reducible refine gate_dst (N := 33) rfl ?_); (try (refine gate_guard (by rfl) ?_; dsimp only)); refine Kd.R_lit Kd.string _ 9 ?hg (N := 33) ?hd (xs := ([] : List ByteArray)) (inner := []) (ok := fun _ => True) (okp := fun _ => True) ?hr ?hp (fun _ hk => hk) trivial (Below.refl _ _) (Nat.le_refl _) (by simp) ?_; (case hd => rfl); (case hg => rfl); (case hr => first | (go_simp; done) | (go_simp; rfl)); (case hp => exact (Reps.none _ _)); intro v224 w12 ho13 hb hg_ hnew_; clear hg_ hnew_; (first | rw [← Ny223.out] at ho13 | (simp only [Int.reduceToNat] at ho13; rw [← Ny223.out] at ho13)); have n0_ := Aside0.mk (Kd.R_elder' (by (with_reducible repeat (first | apply Kd.R_alloc | apply Kd.R_drewN | apply Kd.R_drew)); exact HO220.out) (Kd.R_base ho13) hb); have n1_ := Aside0.mk (Kd.R_lower (Kd.R_new' ho13 (Kd.R_lt (by (with_reducible repeat (first | apply Kd.R_alloc | apply Kd.R_drewN | apply Kd.R_drew)); exact HO220.out))) (below_size zB)); have n2_ := Aside0.mk (blk_below (zk BK215) hb); have n3_ := Aside0.mk (below_step zB hb); clear HO220; clear BK215; clear HB; have HO220 := n0_; have HO225 := n1_; have BK215 := n2_; have HB := n3_; clear n0_ n1_ n2_ n3_; clear hb ho13; obtain ⟨Ao15, co15, eo15⟩ := Kd.R_slice HO220.out; subst eo15) | ((with_reducible refine gate_builtin (b := .append) (xs := #[.tmp 33, .tmp 34]) rfl ?_); (try (refine gate_guard (by rfl) ?_; dsimp only)); at_builtin; refine Kd.R_append_rows Kd.string (w0 := w) w.heap.size rfl (.tmp 33) (.tmp 34) 34 9 (.string ⟨#[]⟩) 16 rfl Try.underlying34 info9 rfl (by decide) (by omega) v224 y223 t218 _ _ _ (fun k_ => some k_ ≠ (.slice Ao15 t218.length co15 : Value).ownBlock) (fun _ => False) rfl rfl ?aO ?aR (fun _ _ h => h) (fun _ h => h.elim) ?aF ?aB ?aS ?aL ?_; (case aR => exact zRC HO220); (case aB => exact zB); (case aF => exact (fun k_ hk => Kd.fresh' (Kd.R_lt (by (with_reducible repeat (first | apply Kd.R_alloc | apply Kd.R_drewN | apply Kd.R_drew)); exact HO220.out)) k_ hk)); (case aO => exact (by (with_reducible repeat (first | apply Kd.R_alloc | apply Kd.R_drewN | apply Kd.R_drew)); exact Kd.R_mono HO225.out (fun _ hk => hk.2))); (case aS => exact (below_size zB)); (case aL => have := LMc8.out; omega); intro v227 w14 ho hb hg hat; rw [← Ny226.out] at ho; replace BK215 := Aside0.mk (blk_grown (zk BK215) hg (Kd.R_ne HO225.out BK215.out (by decide))); replace HO220 := Aside0.mk (Kd.R_after (ok := (fun _ => True)) (by (with_reducible repeat (first | apply Kd.R_alloc | apply Kd.R_drewN | apply Kd.R_drew)); exact HO220.out) hg hat); have HO228 := Aside0.mk (ho); replace HB := Aside0.mk (hb); clear HO225; clear ho hb hg hat; obtain ⟨Ao16, co16, eo16⟩ := Kd.R_slice HO228.out; subst eo16))
    repeat (go_quiet (first | ((with_reducible refine gate_dst (N := 3) rfl ?_); (try (refine gate_guard (by rfl) ?_; dsimp only)); refine box_event ?hg (N := 3) ?hd (cs := #[.int .i64 a0_0, .int .i64 a0_1, .int .i64 a0_2, .int .i64 a0_3]) (t := 23) ?hr ?_; (case hd => rfl); (case hg => rfl); (case hr => first | (go_simp; done) | (go_simp; rfl)); intro gb215 hg w9 hbox hb; have BK215 := Aside0.mk (hbox); have GW215 := Aside0.mk ((zg : w.heap.size ≤ gb215)); have GE215 := Aside0.mk ((zg : w.heap.size ≤ gb215)); replace HB := Aside0.mk (below_step zB hb); clear hb hbox hg) | (go_at_call 11; (with_reducible refine (mosaiclaw09_few.calls k _ _ l1 true _ ?side1 ?side2 A4.out).mono ?_); (case side1 => exact zCB HR1); (case side2 => exact HC1.out); rintro e w' ⟨rfl, ⟨nd, rfl⟩⟩; (try first | exact ⟨rfl, _, World.drewN_drewN _ _ _⟩ | exact ⟨rfl, _, Eq.trans (World.drewN_drewN _ _ _) (congrArg (World.drewN _) (Nat.add_assoc _ _ _))⟩); obtain ⟨hcz10_0, hcz10_1, hcz10_2, hcz10_3⟩ := cZ4 BK215; obtain ⟨hfz10_0, hfz10_1, hfz10_2, hfz10_3⟩ := dZ4 BK215) | (go_at_call 12; (with_reducible refine (outer_Whole.calls k a0_0 a0_1 a0_2 a0_3 _ _ l1 t218 t221 _ ?side1 ?side2 A6.out).mono ?_); (case side1 => repeat (first | exact (Kd.C_below HR1.out zB) | (with_reducible refine Kd.C_alloc ?_ _) | (with_reducible refine Kd.C_drewN ?_ _) | (with_reducible refine Kd.C_drew ?_))); (case side2 => exact HC1.out); rintro e w11 ⟨v219, rfl, ho0, hb⟩; have HO220 := Aside0.mk (Kd.R_lower ho0 (below_size zB)); replace BK215 := Aside0.mk (blk_below (zk BK215) hb); replace HB := Aside0.mk (below_step zB hb); (try clear hb); (try clear hb2); (try clear hk); (try clear hi); (try clear ho0)) | ((with_reducible refine gate_dst (N := 33) rfl ?_); (try (refine gate_guard (by rfl) ?_; dsimp only)); refine Kd.R_lit Kd.string _ 9 ?hg (N := 33) ?hd (xs := ([] : List ByteArray)) (inner := []) (ok := fun _ => True) (okp := fun _ => True) ?hr ?hp (fun _ hk => hk) trivial (Below.refl _ _) (Nat.le_refl _) (by simp) ?_; (case hd => rfl); (case hg => rfl); (case hr => first | (go_simp; done) | (go_simp; rfl)); (case hp => exact (Reps.none _ _)); intro v224 w12 ho13 hb hg_ hnew_; clear hg_ hnew_; (first | rw [← Ny223.out] at ho13 | (simp only [Int.reduceToNat] at ho13; rw [← Ny223.out] at ho13)); have n0_ := Aside0.mk (Kd.R_elder' (by (with_reducible repeat (first | apply Kd.R_alloc | apply Kd.R_drewN | apply Kd.R_drew)); exact HO220.out) (Kd.R_base ho13) hb); have n1_ := Aside0.mk (Kd.R_lower (Kd.R_new' ho13 (Kd.R_lt (by (with_reducible repeat (first | apply Kd.R_alloc | apply Kd.R_drewN | apply Kd.R_drew)); exact HO220.out))) (below_size zB)); have n2_ := Aside0.mk (blk_below (zk BK215) hb); have n3_ := Aside0.mk (below_step zB hb); clear HO220; clear BK215; clear HB; have HO220 := n0_; have HO225 := n1_; have BK215 := n2_; have HB := n3_; clear n0_ n1_ n2_ n3_; clear hb ho13; obtain ⟨Ao15, co15, eo15⟩ := Kd.R_slice HO220.out; subst eo15) | ((with_reducible refine gate_builtin (b := .append) (xs := #[.tmp 33, .tmp 34]) rfl ?_); (try (refine gate_guard (by rfl) ?_; dsimp only)); at_builtin; refine Kd.R_append_rows Kd.string (w0 := w) w.heap.size rfl (.tmp 33) (.tmp 34) 34 9 (.string ⟨#[]⟩) 16 rfl Try.underlying34 info9 rfl (by decide) (by omega) v224 y223 t218 _ _ _ (fun k_ => some k_ ≠ (.slice Ao15 t218.length co15 : Value).ownBlock) (fun _ => False) rfl rfl ?aO ?aR (fun _ _ h => h) (fun _ h => h.elim) ?aF ?aB ?aS ?aL ?_; (case aR => exact zRC HO220); (case aB => exact zB); (case aF => exact (fun k_ hk => Kd.fresh' (Kd.R_lt (by (with_reducible repeat (first | apply Kd.R_alloc | apply Kd.R_drewN | apply Kd.R_drew)); exact HO220.out)) k_ hk)); (case aO => exact (by (with_reducible repeat (first | apply Kd.R_alloc | apply Kd.R_drewN | apply Kd.R_drew)); exact Kd.R_mono HO225.out (fun _ hk => hk.2))); (case aS => exact (below_size zB)); (case aL => have := LMc8.out; omega); intro v227 w14 ho hb hg hat; rw [← Ny226.out] at ho; replace BK215 := Aside0.mk (blk_grown (zk BK215) hg (Kd.R_ne HO225.out BK215.out (by decide))); replace HO220 := Aside0.mk (Kd.R_after (ok := (fun _ => True)) (by (with_reducible repeat (first | apply Kd.R_alloc | apply Kd.R_drewN | apply Kd.R_drew)); exact HO220.out) hg hat); have HO228 := Aside0.mk (ho); replace HB := Aside0.mk (hb); clear HO225; clear ho hb hg hat; obtain ⟨Ao16, co16, eo16⟩ := Kd.R_slice HO228.out; subst eo16)); try go_wp2_with (first | ((with_reducible refine gate_dst (N := 3) rfl ?_); (try (refine gate_guard (by rfl) ?_; dsimp only)); refine box_event ?hg (N := 3) ?hd (cs := #[.int .i64 a0_0, .int .i64 a0_1, .int .i64 a0_2, .int .i64 a0_3]) (t := 23) ?hr ?_; (case hd => rfl); (case hg => rfl); (case hr => first | (go_simp; done) | (go_simp; rfl)); intro gb215 hg w9 hbox hb; have BK215 := Aside0.mk (hbox); have GW215 := Aside0.mk ((zg : w.heap.size ≤ gb215)); have GE215 := Aside0.mk ((zg : w.heap.size ≤ gb215)); replace HB := Aside0.mk (below_step zB hb); clear hb hbox hg) | (go_at_call 11; (with_reducible refine (mosaiclaw09_few.calls k _ _ l1 true _ ?side1 ?side2 A4.out).mono ?_); (case side1 => exact zCB HR1); (case side2 => exact HC1.out); rintro e w' ⟨rfl, ⟨nd, rfl⟩⟩; (try first | exact ⟨rfl, _, World.drewN_drewN _ _ _⟩ | exact ⟨rfl, _, Eq.trans (World.drewN_drewN _ _ _) (congrArg (World.drewN _) (Nat.add_assoc _ _ _))⟩); obtain ⟨hcz10_0, hcz10_1, hcz10_2, hcz10_3⟩ := cZ4 BK215; obtain ⟨hfz10_0, hfz10_1, hfz10_2, hfz10_3⟩ := dZ4 BK215) | (go_at_call 12; (with_reducible refine (outer_Whole.calls k a0_0 a0_1 a0_2 a0_3 _ _ l1 t218 t221 _ ?side1 ?side2 A6.out).mono ?_); (case side1 => repeat (first | exact (Kd.C_below HR1.out zB) | (with_reducible refine Kd.C_alloc ?_ _) | (with_reducible refine Kd.C_drewN ?_ _) | (with_reducible refine Kd.C_drew ?_))); (case side2 => exact HC1.out); rintro e w11 ⟨v219, rfl, ho0, hb⟩; have HO220 := Aside0.mk (Kd.R_lower ho0 (below_size zB)); replace BK215 := Aside0.mk (blk_below (zk BK215) hb); replace HB := Aside0.mk (below_step zB hb); (try clear hb); (try clear hb2); (try clear hk); (try clear hi); (try clear ho0)) | ((with_reducible refine gate_dst (N := 33) rfl ?_); (try (refine gate_guard (by rfl) ?_; dsimp only)); refine Kd.R_lit Kd.string _ 9 ?hg (N := 33) ?hd (xs := ([] : List ByteArray)) (inner := []) (ok := fun _ => True) (okp := fun _ => True) ?hr ?hp (fun _ hk => hk) trivial (Below.refl _ _) (Nat.le_refl _) (by simp) ?_; (case hd => rfl); (case hg => rfl); (case hr => first | (go_simp; done) | (go_simp; rfl)); (case hp => exact (Reps.none _ _)); intro v224 w12 ho13 hb hg_ hnew_; clear hg_ hnew_; (first | rw [← Ny223.out] at ho13 | (simp only [Int.reduceToNat] at ho13; rw [← Ny223.out] at ho13)); have n0_ := Aside0.mk (Kd.R_elder' (by (with_reducible repeat (first | apply Kd.R_alloc | apply Kd.R_drewN | apply Kd.R_drew)); exact HO220.out) (Kd.R_base ho13) hb); have n1_ := Aside0.mk (Kd.R_lower (Kd.R_new' ho13 (Kd.R_lt (by (with_reducible repeat (first | apply Kd.R_alloc | apply Kd.R_drewN | apply Kd.R_drew)); exact HO220.out))) (below_size zB)); have n2_ := Aside0.mk (blk_below (zk BK215) hb); have n3_ := Aside0.mk (below_step zB hb); clear HO220; clear BK215; clear HB; have HO220 := n0_; have HO225 := n1_; have BK215 := n2_; have HB := n3_; clear n0_ n1_ n2_ n3_; clear hb ho13; obtain ⟨Ao15, co15, eo15⟩ := Kd.R_slice HO220.out; subst eo15) | ((with_reducible refine gate_builtin (b := .append) (xs := #[.tmp 33, .tmp 34]) rfl ?_); (try (refine gate_guard (by rfl) ?_; dsimp only)); at_builtin; refine Kd.R_append_rows Kd.string (w0 := w) w.heap.size rfl (.tmp 33) (.tmp 34) 34 9 (.string ⟨#[]⟩) 16 rfl Try.underlying34 info9 rfl (by decide) (by omega) v224 y223 t218 _ _ _ (fun k_ => some k_ ≠ (.slice Ao15 t218.length co15 : Value).ownBlock) (fun _ => False) rfl rfl ?aO ?aR (fun _ _ h => h) (fun _ h => h.elim) ?aF ?aB ?aS ?aL ?_; (case aR => exact zRC HO220); (case aB => exact zB); (case aF => exact (fun k_ hk => Kd.fresh' (Kd.R_lt (by (with_reducible repeat (first | apply Kd.R_alloc | apply Kd.R_drewN | apply Kd.R_drew)); exact HO220.out)) k_ hk)); (case aO => exact (by (with_reducible repeat (first | apply Kd.R_alloc | apply Kd.R_drewN | apply Kd.R_drew)); exact Kd.R_mono HO225.out (fun _ hk => hk.2))); (case aS => exact (below_size zB)); (case aL => have := LMc8.out; omega); intro v227 w14 ho hb hg hat; rw [← Ny226.out] at ho; replace BK215 := Aside0.mk (blk_grown (zk BK215) hg (Kd.R_ne HO225.out BK215.out (by decide))); replace HO220 := Aside0.mk (Kd.R_after (ok := (fun _ => True)) (by (with_reducible repeat (first | apply Kd.R_alloc | apply Kd.R_drewN | apply Kd.R_drew)); exact HO220.out) hg hat); have HO228 := Aside0.mk (ho); replace HB := Aside0.mk (hb); clear HO225; clear ho hb hg hat; obtain ⟨Ao16, co16, eo16⟩ := Kd.R_slice HO228.out; subst eo16)))
    go_loopg [10, 11] k (fun kq v10 v11 w' => ∃ (x9_1 : List ByteArray) (x10_1 : Int) (x11_1 : Int), v10 = .int .i64 x10_1 ∧ v11 = .int .i64 x11_1 ∧ Aside0 (mosaiclaw09_OuterBack.l0 kq l2 t218 x9_1 x10_1 x11_1 a0_0 a0_1 a0_2 a0_3 = some r) ∧ Aside0 (kq ≤ k) ∧ Aside0 (Kd.R Kd.string 9 w' w.heap.size (fun k_ => some k_ ≠ ((.slice Ao16 y226.length co16) : Value).ownBlock) (.slice Ao15 t218.length co15) t218) ∧ Aside0 (Kd.R Kd.string 9 w' w.heap.size (fun k_ => some k_ ≠ ((.slice Ao15 t218.length co15) : Value).ownBlock) (.slice Ao16 y226.length co16) x9_1) ∧ Aside0 (w'.heap[gb215]? = some (.cells #[.int .i64 a0_0, .int .i64 a0_1, .int .i64 a0_2, .int .i64 a0_3] 23 (0, 0))) ∧ Aside0 (Below w.heap.size w w'))
    case atStart => exact ⟨(y226), ((y226.length : Int)), (0), zF, zF, H', ⟨Nat.le_refl _⟩, ⟨by (with_reducible repeat (first | apply Kd.R_alloc | apply Kd.R_drewN | apply Kd.R_drew)); exact Kd.R_mono HO220.out (fun _ hk => hk.2)⟩, ⟨zR HO228⟩, ⟨zk BK215⟩, ⟨zB⟩⟩
    case round =>
     clear H'
     (try clear c1); (try clear c2); (try clear p2); (try clear c5); (try clear c7); (try clear c7b0); (try clear c7b1); (try clear c8); (try clear hcz10_0); (try clear hcz10_1); (try clear hcz10_2); (try clear hcz10_3); (try clear hfz10_0); (try clear hfz10_1); (try clear hfz10_2); (try clear hfz10_3); obtain ⟨x9_1, x10_1, x11_1, rfl, rfl, HA, HK1, HO_7, HO_9, BK215, HB⟩ := hrel
     have hl9_1 := (Kd.R_reads' HO_9.out).1
     rw [hl9_1] at HO_9
     (try simp only [hl9_1])
     (try simp only [hl9_1] at BK215)
     (try simp only [hl9_1] at HO_7)
     cases gk with
     | zero => exact absurd HA.out (by simp [mosaiclaw09_OuterBack.l0])
     | succ k1 =>
      have H := HA.out; clear HA; simp only [mosaiclaw09_OuterBack.l0] at H
      have HC17 := Aside0.mk H
      clear H; go_upto_region 9 with (fail)
      repeat (go_quiet (fail); go_upto_region 9 with (fail))
      go_cut [47] (fun v47 wc => ∃ (kq : Nat) (x47_16 : Bool), v47 = .bool x47_16 ∧ Aside0 (mosaiclaw09_OuterBack.j1 kq l2 t218 x9_1 x10_1 x11_1 x47_16 a0_0 a0_1 a0_2 a0_3 = some r) ∧ Aside0 (kq ≤ k1) ∧ Aside0 (Kd.R Kd.string 9 wc w.heap.size (fun k_ => some k_ ≠ ((.slice Ao16 x9_1.length co16) : Value).ownBlock) (.slice Ao15 t218.length co15) t218) ∧ Aside0 (Kd.R Kd.string 9 wc w.heap.size (fun k_ => some k_ ≠ ((.slice Ao15 t218.length co15) : Value).ownBlock) (.slice Ao16 x9_1.length co16) x9_1) ∧ Aside0 (wc.heap[gb215]? = some (.cells #[.int .i64 a0_0, .int .i64 a0_1, .int .i64 a0_2, .int .i64 a0_3] 23 (0, 0))) ∧ Aside0 (Below w.heap.size w wc))
      case first =>
       have H := HC17.out; clear HC17; by_cases c18 : x11_1 < (x9_1.length : Int)
       ·
        rw [if_pos c18] at H
        have c18b0 : decide (x11_1 < (x9_1.length : Int)) = true := decide_eq_true c18
        clear c18; (first | rw [c18b0] | (simp only [i64_w, i32_w]; rw [c18b0]) | skip)
        have H' := Aside0.mk H
        clear H; go_wp2
        repeat (go_quiet (fail); try go_wp2)
        go_meet
        case rel => exact ⟨_, (decide (x11_1 < (l2.length : Int))), zF, H', ⟨by have := HK1.out; first | omega | exact Nat.le_refl _⟩, ⟨by (try simp only [hl9_1]); (with_reducible repeat (first | apply Kd.R_alloc | apply Kd.R_drewN | apply Kd.R_drew)); exact HO_7.out⟩, ⟨by (try simp only [hl9_1]); (with_reducible repeat (first | apply Kd.R_alloc | apply Kd.R_drewN | apply Kd.R_drew)); exact HO_9.out⟩, ⟨by (try simp only [hl9_1]); (with_reducible repeat (first | refine blk_drewN ?_ _ | refine blk_drew ?_ | refine blk_alloc ?_ _)); exact BK215.out⟩, ⟨zB⟩⟩
       ·
        rw [if_neg c18] at H
        have c18b0 : decide (x11_1 < (x9_1.length : Int)) = false := decide_eq_false c18
        clear c18; (first | rw [c18b0] | (simp only [i64_w, i32_w]; rw [c18b0]) | skip)
        have H' := Aside0.mk H
        clear H; go_wp2
        repeat (go_quiet (fail); try go_wp2)
        go_meet
        case rel => exact ⟨_, (false), zF, H', ⟨by have := HK1.out; first | omega | exact Nat.le_refl _⟩, ⟨by (try simp only [hl9_1]); (with_reducible repeat (first | apply Kd.R_alloc | apply Kd.R_drewN | apply Kd.R_drew)); exact HO_7.out⟩, ⟨by (try simp only [hl9_1]); (with_reducible repeat (first | apply Kd.R_alloc | apply Kd.R_drewN | apply Kd.R_drew)); exact HO_9.out⟩, ⟨by (try simp only [hl9_1]); (with_reducible repeat (first | refine blk_drewN ?_ _ | refine blk_drew ?_ | refine blk_alloc ?_ _)); exact BK215.out⟩, ⟨zB⟩⟩
      case rest =>
       clear HC17; (try clear c1); (try clear c2); (try clear p2); (try clear c5); (try clear c7); (try clear c7b0); (try clear c7b1); (try clear c8); (try clear c18); (try clear c18b0); (try clear hcz10_0); (try clear hcz10_1); (try clear hcz10_2); (try clear hcz10_3); (try clear hfz10_0); (try clear hfz10_1); (try clear hfz10_2); (try clear hfz10_3); (try clear p2); obtain ⟨kq, x47_16, rfl, HA, HJ16, HO_7, HO_9, BK215, HB⟩ := hcut
       cases kq with
       | zero => exact absurd HA.out (by simp [mosaiclaw09_OuterBack.j1])
       | succ kj16 =>
        have H := HA.out; clear HA; simp only [mosaiclaw09_OuterBack.j1] at H
        by_cases c19 : x47_16 = true
        ·
         subst c19
         have H1 : (if 0 ≤ x11_1 then (if x11_1 < (l2.length : Int) then (if rdOf false l2 x11_1 = true then (if x10_1 > 1 then (if x11_1 < (x9_1.length : Int) then (mosaiclaw09_OuterBack.l0 kj16 l2 t218 (x9_1.set (x11_1 : Int).toNat (⟨#[]⟩ : ByteArray)) (wrap64 (x10_1 - 1)) (wrap64 (x11_1 + 1)) a0_0 a0_1 a0_2 a0_3) else (none)) else (mosaiclaw09_OuterBack.l0 kj16 l2 t218 x9_1 x10_1 (wrap64 (x11_1 + 1)) a0_0 a0_1 a0_2 a0_3)) else (mosaiclaw09_OuterBack.l0 kj16 l2 t218 x9_1 x10_1 (wrap64 (x11_1 + 1)) a0_0 a0_1 a0_2 a0_3)) else (none)) else (none)) = some r := by rw [if_pos rfl] at H; exact H
         clear H; have H := H1; clear H1; by_cases c20 : 0 ≤ x11_1
         ·
          rw [if_pos c20] at H
          have c20b0 : decide (0 ≤ x11_1) = true := decide_eq_true c20
          clear c20; by_cases c21 : x11_1 < (l2.length : Int)
          ·
           rw [if_pos c21] at H
           have c21b0 : decide (x11_1 < (l2.length : Int)) = true := decide_eq_true c21
           clear c21; obtain ⟨bq22, hbq22⟩ : ∃ b_ : Bool, b_ = (rdOf false l2 x11_1) := ⟨_, rfl⟩
           replace H : (if bq22 = true then (if x10_1 > 1 then (if x11_1 < (x9_1.length : Int) then (mosaiclaw09_OuterBack.l0 kj16 l2 t218 (x9_1.set (x11_1 : Int).toNat (⟨#[]⟩ : ByteArray)) (wrap64 (x10_1 - 1)) (wrap64 (x11_1 + 1)) a0_0 a0_1 a0_2 a0_3) else (none)) else (mosaiclaw09_OuterBack.l0 kj16 l2 t218 x9_1 x10_1 (wrap64 (x11_1 + 1)) a0_0 a0_1 a0_2 a0_3)) else (mosaiclaw09_OuterBack.l0 kj16 l2 t218 x9_1 x10_1 (wrap64 (x11_1 + 1)) a0_0 a0_1 a0_2 a0_3)) = some r := by rw [← hbq22] at H; exact H
           have Nbq22 := Aside0.mk hbq22
           clear hbq22; by_cases c23 : bq22 = true
           ·
            subst c23
            have H1 : (if x10_1 > 1 then (if x11_1 < (x9_1.length : Int) then (mosaiclaw09_OuterBack.l0 kj16 l2 t218 (x9_1.set (x11_1 : Int).toNat (⟨#[]⟩ : ByteArray)) (wrap64 (x10_1 - 1)) (wrap64 (x11_1 + 1)) a0_0 a0_1 a0_2 a0_3) else (none)) else (mosaiclaw09_OuterBack.l0 kj16 l2 t218 x9_1 x10_1 (wrap64 (x11_1 + 1)) a0_0 a0_1 a0_2 a0_3)) = some r := by rw [if_pos rfl] at H; exact H
            clear H; have H := H1; clear H1; by_cases c24 : x10_1 > 1
            ·
             rw [if_pos c24] at H
             have c24b0 : decide (1 < x10_1) = true := decide_eq_true c24
             clear c24; by_cases c25 : x11_1 < (x9_1.length : Int)
             ·
              rw [if_pos c25] at H
              have c25b0 : decide (x11_1 < (x9_1.length : Int)) = true := decide_eq_true c25
              clear c25; obtain ⟨y230, hy230⟩ : ∃ y_ : List ByteArray, y_ = (x9_1.set (x11_1 : Int).toNat (⟨#[]⟩ : ByteArray)) := ⟨_, rfl⟩
              replace H : (mosaiclaw09_OuterBack.l0 kj16 l2 t218 y230 (wrap64 (x10_1 - 1)) (wrap64 (x11_1 + 1)) a0_0 a0_1 a0_2 a0_3) = some r := by first | (rw [hy230]; with_reducible exact H) | (have H2_ := (Option.bind_some _ _).symm.trans H; rw [hy230]; with_reducible exact H2_) | (have H2_ := (Option.bind_some _ _).symm.trans H; with_reducible exact H2_) | with_reducible exact H | (rw [hy230]; exact H) | exact H
              have Ny230 := Aside0.mk hy230
              clear hy230; have H' := Aside0.mk H
              clear H; have p229 : 0 ≤ (x11_1 : Int) := of_decide_eq_true zA
              have q229 : x11_1 < (l2.length : Int) := of_decide_eq_true zA
              obtain ⟨ad229, e229, hx229_0⟩ := Kd.at_bool HR2.out x11_1 p229 q229
              (try rw [← Nbq22.out] at hx229_0)
              cases e229
              (try replace hx229_0 := (HB.out.cell (World.block_lt_of_cell? w _ hx229_0)).trans hx229_0)
              replace p229 := eq_true p229
              replace q229 := eq_true q229
              have p26 : 0 ≤ (x11_1 : Int) := of_decide_eq_true zA
              have q26 : (x11_1 : Int) < ((x9_1.length : Int) : Int) := of_decide_eq_true zA
              obtain ⟨go26, co26, eo26, gb26, gl26, cl26, HG26⟩ := Kd.R_form HO_9.out (by omega)
              (first | cases eo26 | (injection eo26 with ea_ en_ ec_; (first | subst ea_ | (injection ea_ with ea_; subst ea_)); subst ec_; clear en_))
              have GB26 := Aside0.mk gb26
              have GG26 := Aside0.mk HG26
              clear gb26 gl26 HG26; obtain ⟨hx26_0, hf26_0⟩ := Kd.R_celln (⟨#[]⟩ : ByteArray) HO_9.out (x11_1 : Int) p26 q26
              replace p26 := eq_true p26
              replace q26 := eq_true q26
              have HP27 := Kd.R_putg HO_9.out (x11_1 : Int) (⟨#[]⟩ : ByteArray)
              go_wp2_with (first | ((with_reducible refine gate_store (t := 9) (p := 60) rfl ?_); (try (rw [drewN_self wc]; generalize hq_ : World.drewN wc _ = wc; replace HO_7 := Aside0.mk (Kd.R_at hq_ HO_7.out); replace HO_9 := Aside0.mk (Kd.R_at hq_ HO_9.out); replace BK215 := Aside0.mk (blk_at hq_ BK215.out); replace HB := Aside0.mk (below_at hq_ HB.out); clear hq_; (try (have HP27 := Kd.R_putg HO_9.out (x11_1 : Int) (⟨#[]⟩ : ByteArray))))); refine store_event (t := 9) (p := 60) (v := ?vo_w28) (w1 := (wc.setCell ⟨go26, (x11_1 : Int).toNat, none⟩ (.string (⟨#[]⟩ : ByteArray)))) ?hg ?ho ?hn ?hr ?_; (case ho => rfl); (case hg => rfl); (case hn => rfl); (case hr => first | (go_simp; done) | (go_simp; rfl)); intro w28 hw; have hg : wc.grownBy w28 (some go26) := (by rw [hw]; exact HP27.2); have hp_ : Kd.R Kd.string 9 w28 w.heap.size (fun k_ => some k_ ≠ (.slice Ao15 t218.length co15 : Value).ownBlock) (.slice (some ⟨go26, 0, none⟩) x9_1.length co16) y230 := (by rw [hw, Ny230.out]; exact HP27.1); clear HP27; have n0_ := Aside0.mk (Kd.R_after (v := (.slice (some ⟨go26, 0, none⟩) x9_1.length co16)) (v1 := (.slice (some ⟨go26, 0, none⟩) x9_1.length co16)) (ok := (fun _ => True)) (by (with_reducible repeat (first | apply Kd.R_alloc | apply Kd.R_drewN | apply Kd.R_drew)); exact Kd.R_mono HO_7.out (fun _ hk => ⟨trivial, hk⟩)) hg (.inl rfl)); have n1_ := Aside0.mk (hp_); have n2_ := Aside0.mk (blk_grown (zk BK215) hg (Kd.R_ne HO_9.out BK215.out (by decide))); have n3_ := Aside0.mk ((by rw [hw]; exact below_set (HB.out) GB26.out : Below w.heap.size w w28)); clear HO_7; clear HO_9; clear BK215; clear HB; have HO_7 := n0_; have HO_9 := n1_; have BK215 := n2_; have HB := n3_; clear n0_ n1_ n2_ n3_; clear hg hw hp_))
              repeat (go_quiet (first | ((with_reducible refine gate_store (t := 9) (p := 60) rfl ?_); (try (rw [drewN_self wc]; generalize hq_ : World.drewN wc _ = wc; replace HO_7 := Aside0.mk (Kd.R_at hq_ HO_7.out); replace HO_9 := Aside0.mk (Kd.R_at hq_ HO_9.out); replace BK215 := Aside0.mk (blk_at hq_ BK215.out); replace HB := Aside0.mk (below_at hq_ HB.out); clear hq_; (try (have HP27 := Kd.R_putg HO_9.out (x11_1 : Int) (⟨#[]⟩ : ByteArray))))); refine store_event (t := 9) (p := 60) (v := ?vo_w28) (w1 := (wc.setCell ⟨go26, (x11_1 : Int).toNat, none⟩ (.string (⟨#[]⟩ : ByteArray)))) ?hg ?ho ?hn ?hr ?_; (case ho => rfl); (case hg => rfl); (case hn => rfl); (case hr => first | (go_simp; done) | (go_simp; rfl)); intro w28 hw; have hg : wc.grownBy w28 (some go26) := (by rw [hw]; exact HP27.2); have hp_ : Kd.R Kd.string 9 w28 w.heap.size (fun k_ => some k_ ≠ (.slice Ao15 t218.length co15 : Value).ownBlock) (.slice (some ⟨go26, 0, none⟩) x9_1.length co16) y230 := (by rw [hw, Ny230.out]; exact HP27.1); clear HP27; have n0_ := Aside0.mk (Kd.R_after (v := (.slice (some ⟨go26, 0, none⟩) x9_1.length co16)) (v1 := (.slice (some ⟨go26, 0, none⟩) x9_1.length co16)) (ok := (fun _ => True)) (by (with_reducible repeat (first | apply Kd.R_alloc | apply Kd.R_drewN | apply Kd.R_drew)); exact Kd.R_mono HO_7.out (fun _ hk => ⟨trivial, hk⟩)) hg (.inl rfl)); have n1_ := Aside0.mk (hp_); have n2_ := Aside0.mk (blk_grown (zk BK215) hg (Kd.R_ne HO_9.out BK215.out (by decide))); have n3_ := Aside0.mk ((by rw [hw]; exact below_set (HB.out) GB26.out : Below w.heap.size w w28)); clear HO_7; clear HO_9; clear BK215; clear HB; have HO_7 := n0_; have HO_9 := n1_; have BK215 := n2_; have HB := n3_; clear n0_ n1_ n2_ n3_; clear hg hw hp_)); try go_wp2_with (first | ((with_reducible refine gate_store (t := 9) (p := 60) rfl ?_); (try (rw [drewN_self wc]; generalize hq_ : World.drewN wc _ = wc; replace HO_7 := Aside0.mk (Kd.R_at hq_ HO_7.out); replace HO_9 := Aside0.mk (Kd.R_at hq_ HO_9.out); replace BK215 := Aside0.mk (blk_at hq_ BK215.out); replace HB := Aside0.mk (below_at hq_ HB.out); clear hq_; (try (have HP27 := Kd.R_putg HO_9.out (x11_1 : Int) (⟨#[]⟩ : ByteArray))))); refine store_event (t := 9) (p := 60) (v := ?vo_w28) (w1 := (wc.setCell ⟨go26, (x11_1 : Int).toNat, none⟩ (.string (⟨#[]⟩ : ByteArray)))) ?hg ?ho ?hn ?hr ?_; (case ho => rfl); (case hg => rfl); (case hn => rfl); (case hr => first | (go_simp; done) | (go_simp; rfl)); intro w28 hw; have hg : wc.grownBy w28 (some go26) := (by rw [hw]; exact HP27.2); have hp_ : Kd.R Kd.string 9 w28 w.heap.size (fun k_ => some k_ ≠ (.slice Ao15 t218.length co15 : Value).ownBlock) (.slice (some ⟨go26, 0, none⟩) x9_1.length co16) y230 := (by rw [hw, Ny230.out]; exact HP27.1); clear HP27; have n0_ := Aside0.mk (Kd.R_after (v := (.slice (some ⟨go26, 0, none⟩) x9_1.length co16)) (v1 := (.slice (some ⟨go26, 0, none⟩) x9_1.length co16)) (ok := (fun _ => True)) (by (with_reducible repeat (first | apply Kd.R_alloc | apply Kd.R_drewN | apply Kd.R_drew)); exact Kd.R_mono HO_7.out (fun _ hk => ⟨trivial, hk⟩)) hg (.inl rfl)); have n1_ := Aside0.mk (hp_); have n2_ := Aside0.mk (blk_grown (zk BK215) hg (Kd.R_ne HO_9.out BK215.out (by decide))); have n3_ := Aside0.mk ((by rw [hw]; exact below_set (HB.out) GB26.out : Below w.heap.size w w28)); clear HO_7; clear HO_9; clear BK215; clear HB; have HO_7 := n0_; have HO_9 := n1_; have BK215 := n2_; have HB := n3_; clear n0_ n1_ n2_ n3_; clear hg hw hp_)))
              (try simp only [← hl9_1])
              go_roundg kj16
              case measure => have := HK1.out; have := HJ16.out; omega
              case rel => exact ⟨(y230), (wrap64 (x10_1 - 1)), (wrap64 (x11_1 + 1)), zF, zF, H', ⟨by have := HK1.out; have := HJ16.out; omega⟩, ⟨by (try simp only [hl9_1]); (with_reducible repeat (first | apply Kd.R_alloc | apply Kd.R_drewN | apply Kd.R_drew)); exact Kd.R_mono HO_7.out (fun _ hk => hk.2)⟩, ⟨by (try simp only [hl9_1]); (with_reducible repeat (first | apply Kd.R_alloc | apply Kd.R_drewN | apply Kd.R_drew)); exact HO_9.out⟩, ⟨by (try simp only [hl9_1]); (with_reducible repeat (first | refine blk_drewN ?_ _ | refine blk_drew ?_ | refine blk_alloc ?_ _)); exact BK215.out⟩, ⟨zB⟩⟩
             ·
              rw [if_neg c25] at H
              exact absurd H (by simp)
            ·
             rw [if_neg c24] at H
             have c24b0 : decide (1 < x10_1) = false := decide_eq_false c24
             clear c24; have H' := Aside0.mk H
             clear H; have p229 : 0 ≤ (x11_1 : Int) := of_decide_eq_true zA
             have q229 : x11_1 < (l2.length : Int) := of_decide_eq_true zA
             obtain ⟨ad229, e229, hx229_0⟩ := Kd.at_bool HR2.out x11_1 p229 q229
             (try rw [← Nbq22.out] at hx229_0)
             cases e229
             (try replace hx229_0 := (HB.out.cell (World.block_lt_of_cell? w _ hx229_0)).trans hx229_0)
             replace p229 := eq_true p229
             replace q229 := eq_true q229
             go_wp2
             repeat (go_quiet (fail); try go_wp2)
             (try simp only [← hl9_1])
             go_roundg kj16
             case measure => have := HK1.out; have := HJ16.out; omega
             case rel => exact ⟨(x9_1), (x10_1), (wrap64 (x11_1 + 1)), zF, zF, H', ⟨by have := HK1.out; have := HJ16.out; omega⟩, ⟨by (try simp only [hl9_1]); (with_reducible repeat (first | apply Kd.R_alloc | apply Kd.R_drewN | apply Kd.R_drew)); exact HO_7.out⟩, ⟨by (try simp only [hl9_1]); (with_reducible repeat (first | apply Kd.R_alloc | apply Kd.R_drewN | apply Kd.R_drew)); exact HO_9.out⟩, ⟨by (try simp only [hl9_1]); (with_reducible repeat (first | refine blk_drewN ?_ _ | refine blk_drew ?_ | refine blk_alloc ?_ _)); exact BK215.out⟩, ⟨zB⟩⟩
           ·
            replace c23 := Bool.eq_false_iff.mpr c23
            subst c23
            have H1 : (mosaiclaw09_OuterBack.l0 kj16 l2 t218 x9_1 x10_1 (wrap64 (x11_1 + 1)) a0_0 a0_1 a0_2 a0_3) = some r := by rw [if_neg (show ¬ (false = true) by decide)] at H; exact H
            clear H; have H := H1; clear H1; have H' := Aside0.mk H
            clear H; have p229 : 0 ≤ (x11_1 : Int) := of_decide_eq_true zA
            have q229 : x11_1 < (l2.length : Int) := of_decide_eq_true zA
            obtain ⟨ad229, e229, hx229_0⟩ := Kd.at_bool HR2.out x11_1 p229 q229
            (try rw [← Nbq22.out] at hx229_0)
            cases e229
            (try replace hx229_0 := (HB.out.cell (World.block_lt_of_cell? w _ hx229_0)).trans hx229_0)
            replace p229 := eq_true p229
            replace q229 := eq_true q229
            go_wp2
            repeat (go_quiet (fail); try go_wp2)
            (try simp only [← hl9_1])
            go_roundg kj16
            case measure => have := HK1.out; have := HJ16.out; omega
            case rel => exact ⟨(x9_1), (x10_1), (wrap64 (x11_1 + 1)), zF, zF, H', ⟨by have := HK1.out; have := HJ16.out; omega⟩, ⟨by (try simp only [hl9_1]); (with_reducible repeat (first | apply Kd.R_alloc | apply Kd.R_drewN | apply Kd.R_drew)); exact HO_7.out⟩, ⟨by (try simp only [hl9_1]); (with_reducible repeat (first | apply Kd.R_alloc | apply Kd.R_drewN | apply Kd.R_drew)); exact HO_9.out⟩, ⟨by (try simp only [hl9_1]); (with_reducible repeat (first | refine blk_drewN ?_ _ | refine blk_drew ?_ | refine blk_alloc ?_ _)); exact BK215.out⟩, ⟨zB⟩⟩
          ·
           rw [if_neg c21] at H
           exact absurd H (by simp)
         ·
          rw [if_neg c20] at H
          exact absurd H (by simp)
        ·
         replace c19 := Bool.eq_false_iff.mpr c19
         subst c19
         have H1 : ((outer_Fill.f kj16 a0_0 a0_1 a0_2 a0_3 x9_1).bind fun bt231 => (if bt231.2 = 0 then (mosaiclaw09_OuterBack.j2 kj16 t218 x9_1 bt231.1 ((bt231.1.length : Int) != (t218.length : Int))) else (mosaiclaw09_OuterBack.j2 kj16 t218 x9_1 bt231.1 true))) = some r := by rw [if_neg (show ¬ (false = true) by decide)] at H; exact H
         clear H; have H := H1; clear H1; replace H := Option.bind_eq_some_iff.mp H
         obtain ⟨⟨t231, t234⟩, A290, H⟩ := H
         replace H : (if t234 = 0 then (mosaiclaw09_OuterBack.j2 kj16 t218 x9_1 t231 ((t231.length : Int) != (t218.length : Int))) else (mosaiclaw09_OuterBack.j2 kj16 t218 x9_1 t231 true)) = some r := H
         have A29 := Aside0.mk A290
         clear A290; have HC30 := Aside0.mk H
         clear H; obtain ⟨hcz31_0, hcz31_1, hcz31_2, hcz31_3⟩ := cZ4 BK215
         obtain ⟨hfz31_0, hfz31_1, hfz31_2, hfz31_3⟩ := dZ4 BK215; go_upto_region 15 with (first | (go_at_call 15; (with_reducible refine (outer_Fill.calls kj16 a0_0 a0_1 a0_2 a0_3 _ _ x9_1 t231 t234 _ ?side1 ?side2 A29.out).mono ?_); (case side1 => exact zRC HO_9); (case side2 => exact (Kd.R_reads' HO_9.out).2.1); rintro e w32 ⟨v232, rfl, ho0, hb⟩; have n0_ := Aside0.mk (Kd.R_elder' (by (with_reducible repeat (first | apply Kd.R_alloc | apply Kd.R_drewN | apply Kd.R_drew)); exact HO_7.out) (Kd.R_base ho0) hb); have n1_ := Aside0.mk (Kd.R_elder' (by (with_reducible repeat (first | apply Kd.R_alloc | apply Kd.R_drewN | apply Kd.R_drew)); exact HO_9.out) (Kd.R_base ho0) hb); have n2_ := Aside0.mk (Kd.R_lower (Kd.R_new' (Kd.R_new' ho0 (Kd.R_lt (by (with_reducible repeat (first | apply Kd.R_alloc | apply Kd.R_drewN | apply Kd.R_drew)); exact HO_7.out))) (Kd.R_lt (by (with_reducible repeat (first | apply Kd.R_alloc | apply Kd.R_drewN | apply Kd.R_drew)); exact HO_9.out))) (below_size zB)); have n3_ := Aside0.mk (blk_below (zk BK215) hb); have n4_ := Aside0.mk (below_step zB hb); clear HO_7; clear HO_9; clear BK215; clear HB; have HO_7 := n0_; have HO_9 := n1_; have HO233 := n2_; have BK215 := n3_; have HB := n4_; clear n0_ n1_ n2_ n3_ n4_; (try clear hb); (try clear hb2); (try clear hk); (try clear hi); (try clear ho0)))
         repeat (go_quiet (first | (go_at_call 15; (with_reducible refine (outer_Fill.calls kj16 a0_0 a0_1 a0_2 a0_3 _ _ x9_1 t231 t234 _ ?side1 ?side2 A29.out).mono ?_); (case side1 => exact zRC HO_9); (case side2 => exact (Kd.R_reads' HO_9.out).2.1); rintro e w32 ⟨v232, rfl, ho0, hb⟩; have n0_ := Aside0.mk (Kd.R_elder' (by (with_reducible repeat (first | apply Kd.R_alloc | apply Kd.R_drewN | apply Kd.R_drew)); exact HO_7.out) (Kd.R_base ho0) hb); have n1_ := Aside0.mk (Kd.R_elder' (by (with_reducible repeat (first | apply Kd.R_alloc | apply Kd.R_drewN | apply Kd.R_drew)); exact HO_9.out) (Kd.R_base ho0) hb); have n2_ := Aside0.mk (Kd.R_lower (Kd.R_new' (Kd.R_new' ho0 (Kd.R_lt (by (with_reducible repeat (first | apply Kd.R_alloc | apply Kd.R_drewN | apply Kd.R_drew)); exact HO_7.out))) (Kd.R_lt (by (with_reducible repeat (first | apply Kd.R_alloc | apply Kd.R_drewN | apply Kd.R_drew)); exact HO_9.out))) (below_size zB)); have n3_ := Aside0.mk (blk_below (zk BK215) hb); have n4_ := Aside0.mk (below_step zB hb); clear HO_7; clear HO_9; clear BK215; clear HB; have HO_7 := n0_; have HO_9 := n1_; have HO233 := n2_; have BK215 := n3_; have HB := n4_; clear n0_ n1_ n2_ n3_ n4_; (try clear hb); (try clear hb2); (try clear hk); (try clear hi); (try clear ho0))); go_upto_region 15 with (first | (go_at_call 15; (with_reducible refine (outer_Fill.calls kj16 a0_0 a0_1 a0_2 a0_3 _ _ x9_1 t231 t234 _ ?side1 ?side2 A29.out).mono ?_); (case side1 => exact zRC HO_9); (case side2 => exact (Kd.R_reads' HO_9.out).2.1); rintro e w32 ⟨v232, rfl, ho0, hb⟩; have n0_ := Aside0.mk (Kd.R_elder' (by (with_reducible repeat (first | apply Kd.R_alloc | apply Kd.R_drewN | apply Kd.R_drew)); exact HO_7.out) (Kd.R_base ho0) hb); have n1_ := Aside0.mk (Kd.R_elder' (by (with_reducible repeat (first | apply Kd.R_alloc | apply Kd.R_drewN | apply Kd.R_drew)); exact HO_9.out) (Kd.R_base ho0) hb); have n2_ := Aside0.mk (Kd.R_lower (Kd.R_new' (Kd.R_new' ho0 (Kd.R_lt (by (with_reducible repeat (first | apply Kd.R_alloc | apply Kd.R_drewN | apply Kd.R_drew)); exact HO_7.out))) (Kd.R_lt (by (with_reducible repeat (first | apply Kd.R_alloc | apply Kd.R_drewN | apply Kd.R_drew)); exact HO_9.out))) (below_size zB)); have n3_ := Aside0.mk (blk_below (zk BK215) hb); have n4_ := Aside0.mk (below_step zB hb); clear HO_7; clear HO_9; clear BK215; clear HB; have HO_7 := n0_; have HO_9 := n1_; have HO233 := n2_; have BK215 := n3_; have HB := n4_; clear n0_ n1_ n2_ n3_ n4_; (try clear hb); (try clear hb2); (try clear hk); (try clear hi); (try clear ho0))))
         (try simp only [Act.put, List.setIfInBounds_toArray, List.set_cons_zero, List.set_cons_succ])
         go_cut [77] (fun v77 wc => ∃ (kq : Nat) (x77_29 : Bool), v77 = .bool x77_29 ∧ Aside0 (mosaiclaw09_OuterBack.j2 kq t218 x9_1 t231 x77_29 = some r) ∧ Aside0 (kq ≤ kj16) ∧ Aside0 (Kd.R Kd.string 9 wc w.heap.size (fun k_ => some k_ ≠ ((.slice Ao16 x9_1.length co16) : Value).ownBlock ∧ some k_ ≠ (v232 : Value).ownBlock) (.slice Ao15 t218.length co15) t218) ∧ Aside0 (Kd.R Kd.string 9 wc w.heap.size (fun k_ => some k_ ≠ ((.slice Ao15 t218.length co15) : Value).ownBlock ∧ some k_ ≠ (v232 : Value).ownBlock) (.slice Ao16 x9_1.length co16) x9_1) ∧ Aside0 (Kd.R Kd.string 9 wc w.heap.size (fun k_ => some k_ ≠ ((.slice Ao15 t218.length co15) : Value).ownBlock ∧ some k_ ≠ ((.slice Ao16 x9_1.length co16) : Value).ownBlock) v232 t231) ∧ Aside0 (wc.heap[gb215]? = some (.cells #[.int .i64 a0_0, .int .i64 a0_1, .int .i64 a0_2, .int .i64 a0_3] 23 (0, 0))) ∧ Aside0 (Below w.heap.size w wc))
         case first =>
          have H := HC30.out; clear HC30; by_cases c33 : t234 = 0
          ·
           rw [if_pos c33] at H
           have c33b0 : (t234 == 0) = true := beq_iff_eq.mpr c33
           have c33b1 : (t234 != 0) = false := bne_eq_false_iff_eq.mpr c33
           clear c33; (first | rw [c33b0] | (simp only [i64_w, i32_w]; rw [c33b0]) | skip)
           have H' := Aside0.mk H
           clear H; obtain ⟨Ao34, co34, eo34⟩ := Kd.R_slice HO233.out
           subst eo34
           go_wp2
           repeat (go_quiet (fail); try go_wp2)
           go_meet
           case rel => exact ⟨_, (((t231.length : Int) != (t218.length : Int))), zF, H', ⟨by have := HK1.out; have := HJ16.out; first | omega | exact Nat.le_refl _⟩, ⟨by (try simp only [hl9_1]); (with_reducible repeat (first | apply Kd.R_alloc | apply Kd.R_drewN | apply Kd.R_drew)); exact HO_7.out⟩, ⟨by (try simp only [hl9_1]); (with_reducible repeat (first | apply Kd.R_alloc | apply Kd.R_drewN | apply Kd.R_drew)); exact HO_9.out⟩, ⟨by (try simp only [hl9_1]); (with_reducible repeat (first | apply Kd.R_alloc | apply Kd.R_drewN | apply Kd.R_drew)); exact Kd.R_mono HO233.out (fun _ hk => ⟨hk.1.2, hk.2⟩)⟩, ⟨by (try simp only [hl9_1]); (with_reducible repeat (first | refine blk_drewN ?_ _ | refine blk_drew ?_ | refine blk_alloc ?_ _)); exact BK215.out⟩, ⟨zB⟩⟩
          ·
           rw [if_neg c33] at H
           have c33b0 : (t234 == 0) = false := beq_eq_false_iff_ne.mpr c33
           have c33b1 : (t234 != 0) = true := bne_iff_ne.mpr c33
           (first | rw [c33b0] | (simp only [i64_w, i32_w]; rw [c33b0]) | skip)
           have H' := Aside0.mk H
           clear H; go_wp2
           repeat (go_quiet (fail); try go_wp2)
           go_meet
           case rel => exact ⟨_, (true), zF, H', ⟨by have := HK1.out; have := HJ16.out; first | omega | exact Nat.le_refl _⟩, ⟨by (try simp only [hl9_1]); (with_reducible repeat (first | apply Kd.R_alloc | apply Kd.R_drewN | apply Kd.R_drew)); exact HO_7.out⟩, ⟨by (try simp only [hl9_1]); (with_reducible repeat (first | apply Kd.R_alloc | apply Kd.R_drewN | apply Kd.R_drew)); exact HO_9.out⟩, ⟨by (try simp only [hl9_1]); (with_reducible repeat (first | apply Kd.R_alloc | apply Kd.R_drewN | apply Kd.R_drew)); exact Kd.R_mono HO233.out (fun _ hk => ⟨hk.1.2, hk.2⟩)⟩, ⟨by (try simp only [hl9_1]); (with_reducible repeat (first | refine blk_drewN ?_ _ | refine blk_drew ?_ | refine blk_alloc ?_ _)); exact BK215.out⟩, ⟨zB⟩⟩
         case rest =>
          clear HC30; (try clear c1); (try clear c2); (try clear p2); (try clear q2); (try clear hx2); (try clear c3); (try clear c5); (try clear p6); (try clear c7); (try clear c7b0); (try clear c7b1); (try clear c8); (try clear c18); (try clear c18b0); (try clear c19); (try clear c20); (try clear c20b0); (try clear c21); (try clear c21b0); (try clear p22); (try clear q22); (try clear hx22); (try clear c23); (try clear c24); (try clear c24b0); (try clear c25); (try clear c25b0); (try clear p26); (try clear q26); (try clear hx26); (try clear hf26); (try clear c33); (try clear c33b0); (try clear c33b1); (try clear hcz10_0); (try clear hcz10_1); (try clear hcz10_2); (try clear hcz10_3); (try clear hcz31_0); (try clear hcz31_1); (try clear hcz31_2); (try clear hcz31_3); (try clear hfz10_0); (try clear hfz10_1); (try clear hfz10_2); (try clear hfz10_3); (try clear hfz31_0); (try clear hfz31_1); (try clear hfz31_2); (try clear hfz31_3); (try clear hx229_0); (try clear hx26_0); (try clear p2); (try clear p229); (try clear p26); (try clear q229); (try clear q26); obtain ⟨kq, x77_29, rfl, HA, HJ29, HO_7, HO_9, HO_12, BK215, HB⟩ := hcut
          cases kq with
          | zero => exact absurd HA.out (by simp [mosaiclaw09_OuterBack.j2])
          | succ kj29 =>
           have H := HA.out; clear HA; simp only [mosaiclaw09_OuterBack.j2] at H
           by_cases c35 : x77_29 = true
           ·
            subst c35
            have H1 : (some false) = some r := by rw [if_pos rfl] at H; exact H
            clear H; have H := H1; clear H1; obtain rfl := Option.some.inj H
            go_wp2
            repeat (go_quiet (fail); try go_wp2)
            go_ret
            exact ⟨zE, zB⟩
           ·
            replace c35 := Bool.eq_false_iff.mpr c35
            subst c35
            have H1 : (mosaiclaw09_OuterBack.l1 kj29 t218 x9_1 t231 0) = some r := by rw [if_neg (show ¬ (false = true) by decide)] at H; exact H
            clear H; have H := H1; clear H1; have H' := Aside0.mk H
            clear H; go_wp2
            repeat (go_quiet (fail); try go_wp2)
            go_loopg [14] kj29 (fun kq v14 w' => ∃ (x14_4 : Int), v14 = .int .i64 x14_4 ∧ Aside0 (mosaiclaw09_OuterBack.l1 kq t218 x9_1 t231 x14_4 = some r) ∧ Aside0 (kq ≤ kj29) ∧ Aside0 (Kd.R Kd.string 9 w' w.heap.size (fun k_ => some k_ ≠ ((.slice Ao16 x9_1.length co16) : Value).ownBlock ∧ some k_ ≠ (v232 : Value).ownBlock) (.slice Ao15 t218.length co15) t218) ∧ Aside0 (Kd.R Kd.string 9 w' w.heap.size (fun k_ => some k_ ≠ ((.slice Ao15 t218.length co15) : Value).ownBlock ∧ some k_ ≠ (v232 : Value).ownBlock) (.slice Ao16 x9_1.length co16) x9_1) ∧ Aside0 (Kd.R Kd.string 9 w' w.heap.size (fun k_ => some k_ ≠ ((.slice Ao15 t218.length co15) : Value).ownBlock ∧ some k_ ≠ ((.slice Ao16 x9_1.length co16) : Value).ownBlock) v232 t231) ∧ Aside0 (w'.heap[gb215]? = some (.cells #[.int .i64 a0_0, .int .i64 a0_1, .int .i64 a0_2, .int .i64 a0_3] 23 (0, 0))) ∧ Aside0 (Below w.heap.size w w'))
            case atStart => exact ⟨(0), zF, H', ⟨Nat.le_refl _⟩, ⟨by (try simp only [hl9_1]); (with_reducible repeat (first | apply Kd.R_alloc | apply Kd.R_drewN | apply Kd.R_drew)); exact HO_7.out⟩, ⟨by (try simp only [hl9_1]); (with_reducible repeat (first | apply Kd.R_alloc | apply Kd.R_drewN | apply Kd.R_drew)); exact HO_9.out⟩, ⟨by (try simp only [hl9_1]); (with_reducible repeat (first | apply Kd.R_alloc | apply Kd.R_drewN | apply Kd.R_drew)); exact HO_12.out⟩, ⟨by (try simp only [hl9_1]); (with_reducible repeat (first | refine blk_drewN ?_ _ | refine blk_drew ?_ | refine blk_alloc ?_ _)); exact BK215.out⟩, ⟨zB⟩⟩
            case round =>
             clear H'
             (try clear c1); (try clear c2); (try clear p2); (try clear q2); (try clear hx2); (try clear c3); (try clear c5); (try clear p6); (try clear c7); (try clear c7b0); (try clear c7b1); (try clear c8); (try clear c18); (try clear c18b0); (try clear c19); (try clear c20); (try clear c20b0); (try clear c21); (try clear c21b0); (try clear p22); (try clear q22); (try clear hx22); (try clear c23); (try clear c24); (try clear c24b0); (try clear c25); (try clear c25b0); (try clear p26); (try clear q26); (try clear hx26); (try clear hf26); (try clear c33); (try clear c33b0); (try clear c33b1); (try clear c35); (try clear hcz10_0); (try clear hcz10_1); (try clear hcz10_2); (try clear hcz10_3); (try clear hcz31_0); (try clear hcz31_1); (try clear hcz31_2); (try clear hcz31_3); (try clear hfz10_0); (try clear hfz10_1); (try clear hfz10_2); (try clear hfz10_3); (try clear hfz31_0); (try clear hfz31_1); (try clear hfz31_2); (try clear hfz31_3); (try clear hx229_0); (try clear hx26_0); (try clear p2); (try clear p22); (try clear p229); (try clear p26); (try clear p6); (try clear q2); (try clear q22); (try clear q229); (try clear q26); obtain ⟨x14_4, rfl, HA, HK4, HO_7, HO_9, HO_12, BK215, HB⟩ := hrel
             cases gk with
             | zero => exact absurd HA.out (by simp [mosaiclaw09_OuterBack.l1])
             | succ k4 =>
              have H := HA.out; clear HA; simp only [mosaiclaw09_OuterBack.l1] at H
              by_cases c36 : x14_4 < (t231.length : Int)
              ·
               rw [if_pos c36] at H
               have c36b0 : decide (x14_4 < (t231.length : Int)) = true := decide_eq_true c36
               clear c36; by_cases c37 : 0 ≤ x14_4
               ·
                rw [if_pos c37] at H
                have c37b0 : decide (0 ≤ x14_4) = true := decide_eq_true c37
                clear c37; by_cases c38 : (rdOf ByteArray.empty t231 x14_4).toList = ([] : List UInt8)
                ·
                 rw [if_pos c38] at H
                 have c38b0 : ((rdOf ByteArray.empty t231 x14_4).toList == ([] : List UInt8)) = true := beq_iff_eq.mpr c38
                 have c38b1 : ((rdOf ByteArray.empty t231 x14_4).toList != ([] : List UInt8)) = false := bne_eq_false_iff_eq.mpr c38
                 clear c38; by_cases c39 : x14_4 < (x9_1.length : Int)
                 ·
                  rw [if_pos c39] at H
                  have c39b0 : decide (x14_4 < (x9_1.length : Int)) = true := decide_eq_true c39
                  clear c39; by_cases c40 : (rdOf ByteArray.empty x9_1 x14_4).toList = ([] : List UInt8)
                  ·
                   rw [if_pos c40] at H
                   have c40b0 : ((rdOf ByteArray.empty x9_1 x14_4).toList == ([] : List UInt8)) = true := beq_iff_eq.mpr c40
                   have c40b1 : ((rdOf ByteArray.empty x9_1 x14_4).toList != ([] : List UInt8)) = false := bne_eq_false_iff_eq.mpr c40
                   clear c40; have H' := Aside0.mk H
                   clear H; obtain ⟨Ao41, co41, eo41⟩ := Kd.R_slice HO_12.out
                   subst eo41
                   have p235 : 0 ≤ (x14_4 : Int) := of_decide_eq_true zA
                   have q235 : x14_4 < (t231.length : Int) := of_decide_eq_true zA
                   obtain ⟨ad235, e235, hx235_0⟩ := Kd.at_string (Kd.R_reads' HO_12.out).2.2 x14_4 p235 q235
                   cases e235
                   replace p235 := eq_true p235
                   replace q235 := eq_true q235
                   have p236 : 0 ≤ (x14_4 : Int) := of_decide_eq_true zA
                   have q236 : x14_4 < (t231.length : Int) := of_decide_eq_true zA
                   obtain ⟨ad236, e236, hx236_0⟩ := Kd.at_string (Kd.R_reads' HO_12.out).2.2 x14_4 p236 q236
                   obtain rfl : ad235 = ad236 := (by injection e236)
                   replace p236 := eq_true p236
                   replace q236 := eq_true q236
                   have p237 : 0 ≤ (x14_4 : Int) := of_decide_eq_true zA
                   have q237 : x14_4 < (x9_1.length : Int) := of_decide_eq_true zA
                   obtain ⟨ad237, e237, hx237_0⟩ := Kd.at_string (Kd.R_reads' HO_9.out).2.2 x14_4 p237 q237
                   cases e237
                   replace p237 := eq_true p237
                   replace q237 := eq_true q237
                   go_wp2
                   repeat (go_quiet (fail); try go_wp2)
                   go_roundg k4
                   case measure => have := HK1.out; have := HJ16.out; have := HJ29.out; have := HK4.out; omega
                   case rel => exact ⟨(wrap64 (x14_4 + 1)), zF, H', ⟨by have := HK1.out; have := HJ16.out; have := HJ29.out; have := HK4.out; omega⟩, ⟨by (try simp only [hl9_1]); (with_reducible repeat (first | apply Kd.R_alloc | apply Kd.R_drewN | apply Kd.R_drew)); exact HO_7.out⟩, ⟨by (try simp only [hl9_1]); (with_reducible repeat (first | apply Kd.R_alloc | apply Kd.R_drewN | apply Kd.R_drew)); exact HO_9.out⟩, ⟨by (try simp only [hl9_1]); (with_reducible repeat (first | apply Kd.R_alloc | apply Kd.R_drewN | apply Kd.R_drew)); exact HO_12.out⟩, ⟨by (try simp only [hl9_1]); (with_reducible repeat (first | refine blk_drewN ?_ _ | refine blk_drew ?_ | refine blk_alloc ?_ _)); exact BK215.out⟩, ⟨zB⟩⟩
                  ·
                   rw [if_neg c40] at H
                   have c40b0 : ((rdOf ByteArray.empty x9_1 x14_4).toList == ([] : List UInt8)) = false := beq_eq_false_iff_ne.mpr c40
                   have c40b1 : ((rdOf ByteArray.empty x9_1 x14_4).toList != ([] : List UInt8)) = true := bne_iff_ne.mpr c40
                   obtain rfl := Option.some.inj H
                   obtain ⟨Ao42, co42, eo42⟩ := Kd.R_slice HO_12.out
                   subst eo42
                   have p235 : 0 ≤ (x14_4 : Int) := of_decide_eq_true zA
                   have q235 : x14_4 < (t231.length : Int) := of_decide_eq_true zA
                   obtain ⟨ad235, e235, hx235_0⟩ := Kd.at_string (Kd.R_reads' HO_12.out).2.2 x14_4 p235 q235
                   cases e235
                   replace p235 := eq_true p235
                   replace q235 := eq_true q235
                   have p236 : 0 ≤ (x14_4 : Int) := of_decide_eq_true zA
                   have q236 : x14_4 < (t231.length : Int) := of_decide_eq_true zA
                   obtain ⟨ad236, e236, hx236_0⟩ := Kd.at_string (Kd.R_reads' HO_12.out).2.2 x14_4 p236 q236
                   obtain rfl : ad235 = ad236 := (by injection e236)
                   replace p236 := eq_true p236
                   replace q236 := eq_true q236
                   have p237 : 0 ≤ (x14_4 : Int) := of_decide_eq_true zA
                   have q237 : x14_4 < (x9_1.length : Int) := of_decide_eq_true zA
                   obtain ⟨ad237, e237, hx237_0⟩ := Kd.at_string (Kd.R_reads' HO_9.out).2.2 x14_4 p237 q237
                   cases e237
                   replace p237 := eq_true p237
                   replace q237 := eq_true q237
                   go_wp2
                   repeat (go_quiet (fail); try go_wp2)
                   go_ret
                   exact ⟨zE, zB⟩
                 ·
                  rw [if_neg c39] at H
                  exact absurd H (by simp)
                ·
                 rw [if_neg c38] at H
                 have c38b0 : ((rdOf ByteArray.empty t231 x14_4).toList == ([] : List UInt8)) = false := beq_eq_false_iff_ne.mpr c38
                 have c38b1 : ((rdOf ByteArray.empty t231 x14_4).toList != ([] : List UInt8)) = true := bne_iff_ne.mpr c38
                 by_cases c43 : x14_4 < (t218.length : Int)
                 ·
                  rw [if_pos c43] at H
                  have c43b0 : decide (x14_4 < (t218.length : Int)) = true := decide_eq_true c43
                  clear c43; by_cases c44 : (rdOf ByteArray.empty t231 x14_4).toList = (rdOf ByteArray.empty t218 x14_4).toList
                  ·
                   rw [if_pos c44] at H
                   have c44b0 : ((rdOf ByteArray.empty t231 x14_4).toList == (rdOf ByteArray.empty t218 x14_4).toList) = true := beq_iff_eq.mpr c44
                   have c44b1 : ((rdOf ByteArray.empty t231 x14_4).toList != (rdOf ByteArray.empty t218 x14_4).toList) = false := bne_eq_false_iff_eq.mpr c44
                   clear c44; have H' := Aside0.mk H
                   clear H; obtain ⟨Ao45, co45, eo45⟩ := Kd.R_slice HO_12.out
                   subst eo45
                   have p235 : 0 ≤ (x14_4 : Int) := of_decide_eq_true zA
                   have q235 : x14_4 < (t231.length : Int) := of_decide_eq_true zA
                   obtain ⟨ad235, e235, hx235_0⟩ := Kd.at_string (Kd.R_reads' HO_12.out).2.2 x14_4 p235 q235
                   cases e235
                   replace p235 := eq_true p235
                   replace q235 := eq_true q235
                   have p238 : 0 ≤ (x14_4 : Int) := of_decide_eq_true zA
                   have q238 : x14_4 < (t231.length : Int) := of_decide_eq_true zA
                   obtain ⟨ad238, e238, hx238_0⟩ := Kd.at_string (Kd.R_reads' HO_12.out).2.2 x14_4 p238 q238
                   obtain rfl : ad235 = ad238 := (by injection e238)
                   replace p238 := eq_true p238
                   replace q238 := eq_true q238
                   have p239 : 0 ≤ (x14_4 : Int) := of_decide_eq_true zA
                   have q239 : x14_4 < (t218.length : Int) := of_decide_eq_true zA
                   obtain ⟨ad239, e239, hx239_0⟩ := Kd.at_string (Kd.R_reads' HO_7.out).2.2 x14_4 p239 q239
                   cases e239
                   replace p239 := eq_true p239
                   replace q239 := eq_true q239
                   have p240 : 0 ≤ (x14_4 : Int) := of_decide_eq_true zA
                   have q240 : x14_4 < (t231.length : Int) := of_decide_eq_true zA
                   obtain ⟨ad240, e240, hx240_0⟩ := Kd.at_string (Kd.R_reads' HO_12.out).2.2 x14_4 p240 q240
                   obtain rfl : ad235 = ad240 := (by injection e240)
                   replace p240 := eq_true p240
                   replace q240 := eq_true q240
                   go_wp2
                   repeat (go_quiet (fail); try go_wp2)
                   go_roundg k4
                   case measure => have := HK1.out; have := HJ16.out; have := HJ29.out; have := HK4.out; omega
                   case rel => exact ⟨(wrap64 (x14_4 + 1)), zF, H', ⟨by have := HK1.out; have := HJ16.out; have := HJ29.out; have := HK4.out; omega⟩, ⟨by (try simp only [hl9_1]); (with_reducible repeat (first | apply Kd.R_alloc | apply Kd.R_drewN | apply Kd.R_drew)); exact HO_7.out⟩, ⟨by (try simp only [hl9_1]); (with_reducible repeat (first | apply Kd.R_alloc | apply Kd.R_drewN | apply Kd.R_drew)); exact HO_9.out⟩, ⟨by (try simp only [hl9_1]); (with_reducible repeat (first | apply Kd.R_alloc | apply Kd.R_drewN | apply Kd.R_drew)); exact HO_12.out⟩, ⟨by (try simp only [hl9_1]); (with_reducible repeat (first | refine blk_drewN ?_ _ | refine blk_drew ?_ | refine blk_alloc ?_ _)); exact BK215.out⟩, ⟨zB⟩⟩
                  ·
                   rw [if_neg c44] at H
                   have c44b0 : ((rdOf ByteArray.empty t231 x14_4).toList == (rdOf ByteArray.empty t218 x14_4).toList) = false := beq_eq_false_iff_ne.mpr c44
                   have c44b1 : ((rdOf ByteArray.empty t231 x14_4).toList != (rdOf ByteArray.empty t218 x14_4).toList) = true := bne_iff_ne.mpr c44
                   obtain rfl := Option.some.inj H
                   obtain ⟨Ao46, co46, eo46⟩ := Kd.R_slice HO_12.out
                   subst eo46
                   have p235 : 0 ≤ (x14_4 : Int) := of_decide_eq_true zA
                   have q235 : x14_4 < (t231.length : Int) := of_decide_eq_true zA
                   obtain ⟨ad235, e235, hx235_0⟩ := Kd.at_string (Kd.R_reads' HO_12.out).2.2 x14_4 p235 q235
                   cases e235
                   replace p235 := eq_true p235
                   replace q235 := eq_true q235
                   have p238 : 0 ≤ (x14_4 : Int) := of_decide_eq_true zA
                   have q238 : x14_4 < (t231.length : Int) := of_decide_eq_true zA
                   obtain ⟨ad238, e238, hx238_0⟩ := Kd.at_string (Kd.R_reads' HO_12.out).2.2 x14_4 p238 q238
                   obtain rfl : ad235 = ad238 := (by injection e238)
                   replace p238 := eq_true p238
                   replace q238 := eq_true q238
                   have p239 : 0 ≤ (x14_4 : Int) := of_decide_eq_true zA
                   have q239 : x14_4 < (t218.length : Int) := of_decide_eq_true zA
                   obtain ⟨ad239, e239, hx239_0⟩ := Kd.at_string (Kd.R_reads' HO_7.out).2.2 x14_4 p239 q239
                   cases e239
                   replace p239 := eq_true p239
                   replace q239 := eq_true q239
                   go_wp2
                   repeat (go_quiet (fail); try go_wp2)
                   go_ret
                   exact ⟨zE, zB⟩
                 ·
                  rw [if_neg c43] at H
                  exact absurd H (by simp)
               ·
                rw [if_neg c37] at H
                exact absurd H (by simp)
              ·
               rw [if_neg c36] at H
               have c36b0 : decide (x14_4 < (t231.length : Int)) = false := decide_eq_false c36
               clear c36; replace H := Option.bind_eq_some_iff.mp H
               obtain ⟨t241, A470, H⟩ := H
               replace H : (some t241) = some r := H
               have A47 := Aside0.mk A470
               clear A470; obtain rfl := Option.some.inj H
               obtain ⟨Ao48, co48, eo48⟩ := Kd.R_slice HO_12.out
               subst eo48
               go_wp2_with (first | (go_at_call 7; (with_reducible refine (mosaiclaw09_awake.calls k4  t241 _ A47.out).mono ?_); rintro e w49 ⟨rfl, hb⟩; replace HO_7 := Aside0.mk (Kd.R_below (zR HO_7) hb); replace HO_9 := Aside0.mk (Kd.R_below (zR HO_9) hb); replace HO_12 := Aside0.mk (Kd.R_below (zR HO_12) hb); replace BK215 := Aside0.mk (blk_below (zk BK215) hb); replace HB := Aside0.mk (below_step zB hb); (try clear hb); (try clear hb2); (try clear hk); (try clear hi)))
               repeat (go_quiet (first | (go_at_call 7; (with_reducible refine (mosaiclaw09_awake.calls k4  t241 _ A47.out).mono ?_); rintro e w49 ⟨rfl, hb⟩; replace HO_7 := Aside0.mk (Kd.R_below (zR HO_7) hb); replace HO_9 := Aside0.mk (Kd.R_below (zR HO_9) hb); replace HO_12 := Aside0.mk (Kd.R_below (zR HO_12) hb); replace BK215 := Aside0.mk (blk_below (zk BK215) hb); replace HB := Aside0.mk (below_step zB hb); (try clear hb); (try clear hb2); (try clear hk); (try clear hi))); try go_wp2_with (first | (go_at_call 7; (with_reducible refine (mosaiclaw09_awake.calls k4  t241 _ A47.out).mono ?_); rintro e w49 ⟨rfl, hb⟩; replace HO_7 := Aside0.mk (Kd.R_below (zR HO_7) hb); replace HO_9 := Aside0.mk (Kd.R_below (zR HO_9) hb); replace HO_12 := Aside0.mk (Kd.R_below (zR HO_12) hb); replace BK215 := Aside0.mk (blk_below (zk BK215) hb); replace HB := Aside0.mk (below_step zB hb); (try clear hb); (try clear hb2); (try clear hk); (try clear hi))))
               go_ret
               exact ⟨zE, zB⟩
   ·
    rw [if_neg c8] at H
    exact absurd H (by simp)
  ·
   rw [if_neg c7] at H
   have c7b0 : (t221 == 0) = false := beq_eq_false_iff_ne.mpr c7
   have c7b1 : (t221 != 0) = true := bne_iff_ne.mpr c7
   replace H := Option.bind_eq_some_iff.mp H
   obtain ⟨t222, A500, H⟩ := H
   replace H : (if t222 = true then (some ((t218.length : Int) == 0)) else (some false)) = some r := H
   have A50 := Aside0.mk A500
   clear A500; by_cases c51 : t222 = true
   ·
    subst c51
    have H1 : (some ((t218.length : Int) == 0)) = some r := by rw [if_pos rfl] at H; exact H
    clear H; have H := H1; clear H1; obtain rfl := Option.some.inj H
    go_enter Try.func5, Try.ntmps5
    go_wp2_with (first | ((with_reducible refine gate_dst (N := 3) rfl ?_); (try (refine gate_guard (by rfl) ?_; dsimp only)); refine box_event ?hg (N := 3) ?hd (cs := #[.int .i64 a0_0, .int .i64 a0_1, .int .i64 a0_2, .int .i64 a0_3]) (t := 23) ?hr ?_; (case hd => rfl); (case hg => rfl); (case hr => first | (go_simp; done) | (go_simp; rfl)); intro gb215 hg w52 hbox hb; have BK215 := Aside0.mk (hbox); have GW215 := Aside0.mk ((zg : w.heap.size ≤ gb215)); have GE215 := Aside0.mk ((zg : w.heap.size ≤ gb215)); replace HB := Aside0.mk (below_step zB hb); clear hb hbox hg) | (go_at_call 11; (with_reducible refine (mosaiclaw09_few.calls k _ _ l1 true _ ?side1 ?side2 A4.out).mono ?_); (case side1 => exact zCB HR1); (case side2 => exact HC1.out); rintro e w' ⟨rfl, ⟨nd, rfl⟩⟩; (try first | exact ⟨rfl, _, World.drewN_drewN _ _ _⟩ | exact ⟨rfl, _, Eq.trans (World.drewN_drewN _ _ _) (congrArg (World.drewN _) (Nat.add_assoc _ _ _))⟩); obtain ⟨hcz53_0, hcz53_1, hcz53_2, hcz53_3⟩ := cZ4 BK215; obtain ⟨hfz53_0, hfz53_1, hfz53_2, hfz53_3⟩ := dZ4 BK215) | (go_at_call 12; (with_reducible refine (outer_Whole.calls k a0_0 a0_1 a0_2 a0_3 _ _ l1 t218 t221 _ ?side1 ?side2 A6.out).mono ?_); (case side1 => repeat (first | exact (Kd.C_below HR1.out zB) | (with_reducible refine Kd.C_alloc ?_ _) | (with_reducible refine Kd.C_drewN ?_ _) | (with_reducible refine Kd.C_drew ?_))); (case side2 => exact HC1.out); rintro e w54 ⟨v219, rfl, ho0, hb⟩; have HO220 := Aside0.mk (Kd.R_lower ho0 (below_size zB)); replace BK215 := Aside0.mk (blk_below (zk BK215) hb); replace HB := Aside0.mk (below_step zB hb); (try clear hb); (try clear hb2); (try clear hk); (try clear hi); (try clear ho0)) | (go_at_call 7; (with_reducible refine (mosaiclaw09_awake.calls k  true _ A50.out).mono ?_); rintro e w55 ⟨rfl, hb⟩; replace HO220 := Aside0.mk (Kd.R_below (zR HO220) hb); replace BK215 := Aside0.mk (blk_below (zk BK215) hb); replace HB := Aside0.mk (below_step zB hb); (try clear hb); (try clear hb2); (try clear hk); (try clear hi); obtain ⟨Ao56, co56, eo56⟩ := Kd.R_slice HO220.out; subst eo56))
    repeat (go_quiet (first | ((with_reducible refine gate_dst (N := 3) rfl ?_); (try (refine gate_guard (by rfl) ?_; dsimp only)); refine box_event ?hg (N := 3) ?hd (cs := #[.int .i64 a0_0, .int .i64 a0_1, .int .i64 a0_2, .int .i64 a0_3]) (t := 23) ?hr ?_; (case hd => rfl); (case hg => rfl); (case hr => first | (go_simp; done) | (go_simp; rfl)); intro gb215 hg w52 hbox hb; have BK215 := Aside0.mk (hbox); have GW215 := Aside0.mk ((zg : w.heap.size ≤ gb215)); have GE215 := Aside0.mk ((zg : w.heap.size ≤ gb215)); replace HB := Aside0.mk (below_step zB hb); clear hb hbox hg) | (go_at_call 11; (with_reducible refine (mosaiclaw09_few.calls k _ _ l1 true _ ?side1 ?side2 A4.out).mono ?_); (case side1 => exact zCB HR1); (case side2 => exact HC1.out); rintro e w' ⟨rfl, ⟨nd, rfl⟩⟩; (try first | exact ⟨rfl, _, World.drewN_drewN _ _ _⟩ | exact ⟨rfl, _, Eq.trans (World.drewN_drewN _ _ _) (congrArg (World.drewN _) (Nat.add_assoc _ _ _))⟩); obtain ⟨hcz53_0, hcz53_1, hcz53_2, hcz53_3⟩ := cZ4 BK215; obtain ⟨hfz53_0, hfz53_1, hfz53_2, hfz53_3⟩ := dZ4 BK215) | (go_at_call 12; (with_reducible refine (outer_Whole.calls k a0_0 a0_1 a0_2 a0_3 _ _ l1 t218 t221 _ ?side1 ?side2 A6.out).mono ?_); (case side1 => repeat (first | exact (Kd.C_below HR1.out zB) | (with_reducible refine Kd.C_alloc ?_ _) | (with_reducible refine Kd.C_drewN ?_ _) | (with_reducible refine Kd.C_drew ?_))); (case side2 => exact HC1.out); rintro e w54 ⟨v219, rfl, ho0, hb⟩; have HO220 := Aside0.mk (Kd.R_lower ho0 (below_size zB)); replace BK215 := Aside0.mk (blk_below (zk BK215) hb); replace HB := Aside0.mk (below_step zB hb); (try clear hb); (try clear hb2); (try clear hk); (try clear hi); (try clear ho0)) | (go_at_call 7; (with_reducible refine (mosaiclaw09_awake.calls k  true _ A50.out).mono ?_); rintro e w55 ⟨rfl, hb⟩; replace HO220 := Aside0.mk (Kd.R_below (zR HO220) hb); replace BK215 := Aside0.mk (blk_below (zk BK215) hb); replace HB := Aside0.mk (below_step zB hb); (try clear hb); (try clear hb2); (try clear hk); (try clear hi); obtain ⟨Ao56, co56, eo56⟩ := Kd.R_slice HO220.out; subst eo56)); try go_wp2_with (first | ((with_reducible refine gate_dst (N := 3) rfl ?_); (try (refine gate_guard (by rfl) ?_; dsimp only)); refine box_event ?hg (N := 3) ?hd (cs := #[.int .i64 a0_0, .int .i64 a0_1, .int .i64 a0_2, .int .i64 a0_3]) (t := 23) ?hr ?_; (case hd => rfl); (case hg => rfl); (case hr => first | (go_simp; done) | (go_simp; rfl)); intro gb215 hg w52 hbox hb; have BK215 := Aside0.mk (hbox); have GW215 := Aside0.mk ((zg : w.heap.size ≤ gb215)); have GE215 := Aside0.mk ((zg : w.heap.size ≤ gb215)); replace HB := Aside0.mk (below_step zB hb); clear hb hbox hg) | (go_at_call 11; (with_reducible refine (mosaiclaw09_few.calls k _ _ l1 true _ ?side1 ?side2 A4.out).mono ?_); (case side1 => exact zCB HR1); (case side2 => exact HC1.out); rintro e w' ⟨rfl, ⟨nd, rfl⟩⟩; (try first | exact ⟨rfl, _, World.drewN_drewN _ _ _⟩ | exact ⟨rfl, _, Eq.trans (World.drewN_drewN _ _ _) (congrArg (World.drewN _) (Nat.add_assoc _ _ _))⟩); obtain ⟨hcz53_0, hcz53_1, hcz53_2, hcz53_3⟩ := cZ4 BK215; obtain ⟨hfz53_0, hfz53_1, hfz53_2, hfz53_3⟩ := dZ4 BK215) | (go_at_call 12; (with_reducible refine (outer_Whole.calls k a0_0 a0_1 a0_2 a0_3 _ _ l1 t218 t221 _ ?side1 ?side2 A6.out).mono ?_); (case side1 => repeat (first | exact (Kd.C_below HR1.out zB) | (with_reducible refine Kd.C_alloc ?_ _) | (with_reducible refine Kd.C_drewN ?_ _) | (with_reducible refine Kd.C_drew ?_))); (case side2 => exact HC1.out); rintro e w54 ⟨v219, rfl, ho0, hb⟩; have HO220 := Aside0.mk (Kd.R_lower ho0 (below_size zB)); replace BK215 := Aside0.mk (blk_below (zk BK215) hb); replace HB := Aside0.mk (below_step zB hb); (try clear hb); (try clear hb2); (try clear hk); (try clear hi); (try clear ho0)) | (go_at_call 7; (with_reducible refine (mosaiclaw09_awake.calls k  true _ A50.out).mono ?_); rintro e w55 ⟨rfl, hb⟩; replace HO220 := Aside0.mk (Kd.R_below (zR HO220) hb); replace BK215 := Aside0.mk (blk_below (zk BK215) hb); replace HB := Aside0.mk (below_step zB hb); (try clear hb); (try clear hb2); (try clear hk); (try clear hi); obtain ⟨Ao56, co56, eo56⟩ := Kd.R_slice HO220.out; subst eo56)))
    go_ret
    exact ⟨zE, zB⟩
   ·
    replace c51 := Bool.eq_false_iff.mpr c51
    subst c51
    have H1 : (some false) = some r := by rw [if_neg (show ¬ (false = true) by decide)] at H; exact H
    clear H; have H := H1; clear H1; obtain rfl := Option.some.inj H
    go_enter Try.func5, Try.ntmps5
    go_wp2_with (first | ((with_reducible refine gate_dst (N := 3) rfl ?_); (try (refine gate_guard (by rfl) ?_; dsimp only)); refine box_event ?hg (N := 3) ?hd (cs := #[.int .i64 a0_0, .int .i64 a0_1, .int .i64 a0_2, .int .i64 a0_3]) (t := 23) ?hr ?_; (case hd => rfl); (case hg => rfl); (case hr => first | (go_simp; done) | (go_simp; rfl)); intro gb215 hg w57 hbox hb; have BK215 := Aside0.mk (hbox); have GW215 := Aside0.mk ((zg : w.heap.size ≤ gb215)); have GE215 := Aside0.mk ((zg : w.heap.size ≤ gb215)); replace HB := Aside0.mk (below_step zB hb); clear hb hbox hg) | (go_at_call 11; (with_reducible refine (mosaiclaw09_few.calls k _ _ l1 true _ ?side1 ?side2 A4.out).mono ?_); (case side1 => exact zCB HR1); (case side2 => exact HC1.out); rintro e w' ⟨rfl, ⟨nd, rfl⟩⟩; (try first | exact ⟨rfl, _, World.drewN_drewN _ _ _⟩ | exact ⟨rfl, _, Eq.trans (World.drewN_drewN _ _ _) (congrArg (World.drewN _) (Nat.add_assoc _ _ _))⟩); obtain ⟨hcz58_0, hcz58_1, hcz58_2, hcz58_3⟩ := cZ4 BK215; obtain ⟨hfz58_0, hfz58_1, hfz58_2, hfz58_3⟩ := dZ4 BK215) | (go_at_call 12; (with_reducible refine (outer_Whole.calls k a0_0 a0_1 a0_2 a0_3 _ _ l1 t218 t221 _ ?side1 ?side2 A6.out).mono ?_); (case side1 => repeat (first | exact (Kd.C_below HR1.out zB) | (with_reducible refine Kd.C_alloc ?_ _) | (with_reducible refine Kd.C_drewN ?_ _) | (with_reducible refine Kd.C_drew ?_))); (case side2 => exact HC1.out); rintro e w59 ⟨v219, rfl, ho0, hb⟩; have HO220 := Aside0.mk (Kd.R_lower ho0 (below_size zB)); replace BK215 := Aside0.mk (blk_below (zk BK215) hb); replace HB := Aside0.mk (below_step zB hb); (try clear hb); (try clear hb2); (try clear hk); (try clear hi); (try clear ho0)) | (go_at_call 7; (with_reducible refine (mosaiclaw09_awake.calls k  false _ A50.out).mono ?_); rintro e w60 ⟨rfl, hb⟩; replace HO220 := Aside0.mk (Kd.R_below (zR HO220) hb); replace BK215 := Aside0.mk (blk_below (zk BK215) hb); replace HB := Aside0.mk (below_step zB hb); (try clear hb); (try clear hb2); (try clear hk); (try clear hi)))
    repeat (go_quiet (first | ((with_reducible refine gate_dst (N := 3) rfl ?_); (try (refine gate_guard (by rfl) ?_; dsimp only)); refine box_event ?hg (N := 3) ?hd (cs := #[.int .i64 a0_0, .int .i64 a0_1, .int .i64 a0_2, .int .i64 a0_3]) (t := 23) ?hr ?_; (case hd => rfl); (case hg => rfl); (case hr => first | (go_simp; done) | (go_simp; rfl)); intro gb215 hg w57 hbox hb; have BK215 := Aside0.mk (hbox); have GW215 := Aside0.mk ((zg : w.heap.size ≤ gb215)); have GE215 := Aside0.mk ((zg : w.heap.size ≤ gb215)); replace HB := Aside0.mk (below_step zB hb); clear hb hbox hg) | (go_at_call 11; (with_reducible refine (mosaiclaw09_few.calls k _ _ l1 true _ ?side1 ?side2 A4.out).mono ?_); (case side1 => exact zCB HR1); (case side2 => exact HC1.out); rintro e w' ⟨rfl, ⟨nd, rfl⟩⟩; (try first | exact ⟨rfl, _, World.drewN_drewN _ _ _⟩ | exact ⟨rfl, _, Eq.trans (World.drewN_drewN _ _ _) (congrArg (World.drewN _) (Nat.add_assoc _ _ _))⟩); obtain ⟨hcz58_0, hcz58_1, hcz58_2, hcz58_3⟩ := cZ4 BK215; obtain ⟨hfz58_0, hfz58_1, hfz58_2, hfz58_3⟩ := dZ4 BK215) | (go_at_call 12; (with_reducible refine (outer_Whole.calls k a0_0 a0_1 a0_2 a0_3 _ _ l1 t218 t221 _ ?side1 ?side2 A6.out).mono ?_); (case side1 => repeat (first | exact (Kd.C_below HR1.out zB) | (with_reducible refine Kd.C_alloc ?_ _) | (with_reducible refine Kd.C_drewN ?_ _) | (with_reducible refine Kd.C_drew ?_))); (case side2 => exact HC1.out); rintro e w59 ⟨v219, rfl, ho0, hb⟩; have HO220 := Aside0.mk (Kd.R_lower ho0 (below_size zB)); replace BK215 := Aside0.mk (blk_below (zk BK215) hb); replace HB := Aside0.mk (below_step zB hb); (try clear hb); (try clear hb2); (try clear hk); (try clear hi); (try clear ho0)) | (go_at_call 7; (with_reducible refine (mosaiclaw09_awake.calls k  false _ A50.out).mono ?_); rintro e w60 ⟨rfl, hb⟩; replace HO220 := Aside0.mk (Kd.R_below (zR HO220) hb); replace BK215 := Aside0.mk (blk_below (zk BK215) hb); replace HB := Aside0.mk (below_step zB hb); (try clear hb); (try clear hb2); (try clear hk); (try clear hi))); try go_wp2_with (first | ((with_reducible refine gate_dst (N := 3) rfl ?_); (try (refine gate_guard (by rfl) ?_; dsimp only)); refine box_event ?hg (N := 3) ?hd (cs := #[.int .i64 a0_0, .int .i64 a0_1, .int .i64 a0_2, .int .i64 a0_3]) (t := 23) ?hr ?_; (case hd => rfl); (case hg => rfl); (case hr => first | (go_simp; done) | (go_simp; rfl)); intro gb215 hg w57 hbox hb; have BK215 := Aside0.mk (hbox); have GW215 := Aside0.mk ((zg : w.heap.size ≤ gb215)); have GE215 := Aside0.mk ((zg : w.heap.size ≤ gb215)); replace HB := Aside0.mk (below_step zB hb); clear hb hbox hg) | (go_at_call 11; (with_reducible refine (mosaiclaw09_few.calls k _ _ l1 true _ ?side1 ?side2 A4.out).mono ?_); (case side1 => exact zCB HR1); (case side2 => exact HC1.out); rintro e w' ⟨rfl, ⟨nd, rfl⟩⟩; (try first | exact ⟨rfl, _, World.drewN_drewN _ _ _⟩ | exact ⟨rfl, _, Eq.trans (World.drewN_drewN _ _ _) (congrArg (World.drewN _) (Nat.add_assoc _ _ _))⟩); obtain ⟨hcz58_0, hcz58_1, hcz58_2, hcz58_3⟩ := cZ4 BK215; obtain ⟨hfz58_0, hfz58_1, hfz58_2, hfz58_3⟩ := dZ4 BK215) | (go_at_call 12; (with_reducible refine (outer_Whole.calls k a0_0 a0_1 a0_2 a0_3 _ _ l1 t218 t221 _ ?side1 ?side2 A6.out).mono ?_); (case side1 => repeat (first | exact (Kd.C_below HR1.out zB) | (with_reducible refine Kd.C_alloc ?_ _) | (with_reducible refine Kd.C_drewN ?_ _) | (with_reducible refine Kd.C_drew ?_))); (case side2 => exact HC1.out); rintro e w59 ⟨v219, rfl, ho0, hb⟩; have HO220 := Aside0.mk (Kd.R_lower ho0 (below_size zB)); replace BK215 := Aside0.mk (blk_below (zk BK215) hb); replace HB := Aside0.mk (below_step zB hb); (try clear hb); (try clear hb2); (try clear hk); (try clear hi); (try clear ho0)) | (go_at_call 7; (with_reducible refine (mosaiclaw09_awake.calls k  false _ A50.out).mono ?_); rintro e w60 ⟨rfl, hb⟩; replace HO220 := Aside0.mk (Kd.R_below (zR HO220) hb); replace BK215 := Aside0.mk (blk_below (zk BK215) hb); replace HB := Aside0.mk (below_step zB hb); (try clear hb); (try clear hb2); (try clear hk); (try clear hi))))
    go_ret
    exact ⟨zE, zB⟩
 ·
  replace c5 := Bool.eq_false_iff.mpr c5
  subst c5
  have H1 : ((mosaiclaw09_awake.f k).bind fun t217 => (some t217)) = some r := by rw [if_neg (show ¬ (false = true) by decide)] at H; exact H
  clear H; have H := H1; clear H1; replace H := Option.bind_eq_some_iff.mp H
  obtain ⟨t217, A610, H⟩ := H
  replace H : (some t217) = some r := H
  have A61 := Aside0.mk A610
  clear A610; obtain rfl := Option.some.inj H
  go_enter Try.func5, Try.ntmps5
  go_wp2_with (first | ((with_reducible refine gate_dst (N := 3) rfl ?_); (try (refine gate_guard (by rfl) ?_; dsimp only)); refine box_event ?hg (N := 3) ?hd (cs := #[.int .i64 a0_0, .int .i64 a0_1, .int .i64 a0_2, .int .i64 a0_3]) (t := 23) ?hr ?_; (case hd => rfl); (case hg => rfl); (case hr => first | (go_simp; done) | (go_simp; rfl)); intro gb215 hg w62 hbox hb; have BK215 := Aside0.mk (hbox); have GW215 := Aside0.mk ((zg : w.heap.size ≤ gb215)); have GE215 := Aside0.mk ((zg : w.heap.size ≤ gb215)); replace HB := Aside0.mk (below_step zB hb); clear hb hbox hg) | (go_at_call 11; (with_reducible refine (mosaiclaw09_few.calls k _ _ l1 false _ ?side1 ?side2 A4.out).mono ?_); (case side1 => exact zCB HR1); (case side2 => exact HC1.out); rintro e w' ⟨rfl, ⟨nd, rfl⟩⟩; (try first | exact ⟨rfl, _, World.drewN_drewN _ _ _⟩ | exact ⟨rfl, _, Eq.trans (World.drewN_drewN _ _ _) (congrArg (World.drewN _) (Nat.add_assoc _ _ _))⟩)) | (go_at_call 7; (with_reducible refine (mosaiclaw09_awake.calls k  t217 _ A61.out).mono ?_); rintro e w63 ⟨rfl, hb⟩; replace BK215 := Aside0.mk (blk_below (zk BK215) hb); replace HB := Aside0.mk (below_step zB hb); (try clear hb); (try clear hb2); (try clear hk); (try clear hi)))
  repeat (go_quiet (first | ((with_reducible refine gate_dst (N := 3) rfl ?_); (try (refine gate_guard (by rfl) ?_; dsimp only)); refine box_event ?hg (N := 3) ?hd (cs := #[.int .i64 a0_0, .int .i64 a0_1, .int .i64 a0_2, .int .i64 a0_3]) (t := 23) ?hr ?_; (case hd => rfl); (case hg => rfl); (case hr => first | (go_simp; done) | (go_simp; rfl)); intro gb215 hg w62 hbox hb; have BK215 := Aside0.mk (hbox); have GW215 := Aside0.mk ((zg : w.heap.size ≤ gb215)); have GE215 := Aside0.mk ((zg : w.heap.size ≤ gb215)); replace HB := Aside0.mk (below_step zB hb); clear hb hbox hg) | (go_at_call 11; (with_reducible refine (mosaiclaw09_few.calls k _ _ l1 false _ ?side1 ?side2 A4.out).mono ?_); (case side1 => exact zCB HR1); (case side2 => exact HC1.out); rintro e w' ⟨rfl, ⟨nd, rfl⟩⟩; (try first | exact ⟨rfl, _, World.drewN_drewN _ _ _⟩ | exact ⟨rfl, _, Eq.trans (World.drewN_drewN _ _ _) (congrArg (World.drewN _) (Nat.add_assoc _ _ _))⟩)) | (go_at_call 7; (with_reducible refine (mosaiclaw09_awake.calls k  t217 _ A61.out).mono ?_); rintro e w63 ⟨rfl, hb⟩; replace BK215 := Aside0.mk (blk_below (zk BK215) hb); replace HB := Aside0.mk (below_step zB hb); (try clear hb); (try clear hb2); (try clear hk); (try clear hi))); try go_wp2_with (first | ((with_reducible refine gate_dst (N := 3) rfl ?_); (try (refine gate_guard (by rfl) ?_; dsimp only)); refine box_event ?hg (N := 3) ?hd (cs := #[.int .i64 a0_0, .int .i64 a0_1, .int .i64 a0_2, .int .i64 a0_3]) (t := 23) ?hr ?_; (case hd => rfl); (case hg => rfl); (case hr => first | (go_simp; done) | (go_simp; rfl)); intro gb215 hg w62 hbox hb; have BK215 := Aside0.mk (hbox); have GW215 := Aside0.mk ((zg : w.heap.size ≤ gb215)); have GE215 := Aside0.mk ((zg : w.heap.size ≤ gb215)); replace HB := Aside0.mk (below_step zB hb); clear hb hbox hg) | (go_at_call 11; (with_reducible refine (mosaiclaw09_few.calls k _ _ l1 false _ ?side1 ?side2 A4.out).mono ?_); (case side1 => exact zCB HR1); (case side2 => exact HC1.out); rintro e w' ⟨rfl, ⟨nd, rfl⟩⟩; (try first | exact ⟨rfl, _, World.drewN_drewN _ _ _⟩ | exact ⟨rfl, _, Eq.trans (World.drewN_drewN _ _ _) (congrArg (World.drewN _) (Nat.add_assoc _ _ _))⟩)) | (go_at_call 7; (with_reducible refine (mosaiclaw09_awake.calls k  t217 _ A61.out).mono ?_); rintro e w63 ⟨rfl, hb⟩; replace BK215 := Aside0.mk (blk_below (zk BK215) hb); replace HB := Aside0.mk (below_step zB hb); (try clear hb); (try clear hb2); (try clear hk); (try clear hi))))
  go_ret
  exact ⟨zE, zB⟩
def mosaiclaw09_OuterBack.Pure : Prop := ∀ (a0_0 : Int) (a0_1 : Int) (a0_2 : Int) (a0_3 : Int) (l1 : List ByteArray) (l2 : List Bool), ((Lit.int .i64 a0_0).wf = true) → ((Lit.int .i64 a0_1).wf = true) → ((Lit.int .i64 a0_2).wf = true) → ((Lit.int .i64 a0_3).wf = true) → (l1.length ≤ maxLen) → (∀ y ∈ l1, y.size ≤ maxLen) → (l2.length ≤ maxLen) → (∀ y ∈ l2, True) → ∃ k, mosaiclaw09_OuterBack.f k a0_0 a0_1 a0_2 a0_3 l1 l2 = some true
theorem mosaiclaw09_OuterBack.walk (P : mosaiclaw09_OuterBack.Pure) (a0_0 : Int) (a0_1 : Int) (a0_2 : Int) (a0_3 : Int) (A1 : Option Addr) (c1 : Nat) (l1 : List ByteArray) (A2 : Option Addr) (c2 : Nat) (l2 : List Bool) (w : World) (hr1 : Kd.C Kd.string w A1 l1.length l1) (hc1 : l1.length ≤ c1) (hr2 : Kd.C Kd.bool w A2 l2.length l2) (hc2 : l2.length ≤ c2) (hi0_0 : (Lit.int .i64 a0_0).wf = true) (hi0_1 : (Lit.int .i64 a0_1).wf = true) (hi0_2 : (Lit.int .i64 a0_2).wf = true) (hi0_3 : (Lit.int .i64 a0_3).wf = true) (hm1 : l1.length ≤ maxLen) (hw1 : ∀ y ∈ l1, y.size ≤ maxLen) (hm2 : l2.length ≤ maxLen) (hw2 : ∀ y ∈ l2, True) :
  Calls Try.prog 5 #[.agg #[.int .i64 a0_0, .int .i64 a0_1, .int .i64 a0_2, .int .i64 a0_3], .slice A1 l1.length c1, .slice A2 l2.length c2] w fun e w' => e = .returned (.bool true) ∧ Below w.heap.size w w' := by
 obtain ⟨k, h⟩ := P a0_0 a0_1 a0_2 a0_3 l1 l2 hi0_0 hi0_1 hi0_2 hi0_3 hm1 hw1 hm2 hw2
 refine (mosaiclaw09_OuterBack.calls k a0_0 a0_1 a0_2 a0_3 A1 c1 l1 A2 c2 l2 true w hr1 hc1 hr2 hc2 h).mono ?_
 rintro e w' ⟨rfl, hd⟩
 exact ⟨rfl, hd⟩
end Go.Proofs.Ytghhmnjkgnoogaa.POuterBack
