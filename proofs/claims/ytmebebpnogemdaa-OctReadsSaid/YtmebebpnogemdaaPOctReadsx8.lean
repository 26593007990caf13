-- Written by this session's own program (wip/tools/mkprint.py) over the kit's printer, with overrides.
import Derived.Test.YtmebebpnogemdaaPOctReadsx0
import Derived.Test.YtmebebpnogemdaaPOctReadsx2
import Derived.Test.YtmebebpnogemdaaPOctReadsx3
import Derived.Test.YtmebebpnogemdaaPOctReadsx5
import Derived.Test.YtmebebpnogemdaaPOctReadsx6
import Derived.Test.YtmebebpnogemdaaPOctReadsx7
namespace Go.Proofs.Ytmebebpnogemdaa.POctReads
open Go.RowKit Go.Mine Go.Proofs.YtmebebpnogemdaaW.PrintWords Go.Proofs.YtmebebpnogemdaaW.PrintLast Go.Proofs.YtmebebpnogemdaaW.PrintMore
attribute [local go_sem] max2_int min2_int max_two min_two max_three min_three max_four min_four   -- for this text's walks alone
set_option linter.unusedVariables false
set_option linter.unusedSimpArgs false

/-! ### mosaiclaw02_OctReads: function 7 -/
/-- The Bools of a number's bits. -/
def mkB0 (w m : Nat) : Array Bool := ⟨(List.range w).map fun i => m.testBit i⟩
mutual
def mosaiclaw02_OctReads.j0 : Nat → List (S37) → Bool → ByteArray → Int → ByteArray → Int → Option (Bool)
 | 0, _, _, _, _, _, _ => none
 | k + 1, x1, x25, x158000, x158001, x159000, x159001 => if x25 = true then (some false) else (mosaiclaw02_OctReads.l0 k x1 0 x158000 x158001 x159000 x159001)
def mosaiclaw02_OctReads.l0 : Nat → List (S37) → Int → ByteArray → Int → ByteArray → Int → Option (Bool)
 | 0, _, _, _, _, _, _ => none
 | k + 1, x1, x7, x158000, x158001, x159000, x159001 => if x7 < (x1.length : Int) then (mosaiclaw02_OctReads.j2 k x1 x7 (decide (x7 < 40)) x158000 x158001 x159000 x159001) else (mosaiclaw02_OctReads.j2 k x1 x7 false x158000 x158001 x159000 x159001)
def mosaiclaw02_OctReads.j2 : Nat → List (S37) → Int → Bool → ByteArray → Int → ByteArray → Int → Option (Bool)
 | 0, _, _, _, _, _, _, _ => none
 | k + 1, x1, x7, x33, x158000, x158001, x159000, x159001 => if x33 = true then (if 0 ≤ x7 then (if x7 < (x1.length : Int) then (if ((rd_T37 x1 x7).f0) = 0 then ((oct_Reader_Num.f k x158000 x158001 ((rd_T37 x1 x7).f2)).bind fun bt163 => ((mosaicref02_Reader_Num.f k x159000 x159001 ((rd_T37 x1 x7).f2)).bind fun bt166 => (mosaiclaw02_OctReads.j3 k x1 x7 bt163.1 (⟨#[]⟩ : ByteArray) bt163.2.1 bt163.2.2 bt166.1 bt166.2.1 bt166.2.2.1 bt166.2.2.2))) else (if ((rd_T37 x1 x7).f0) = 1 then ((oct_Reader_Text.f x158000 x158001).bind fun bt170 => ((mosaicref02_Reader_Text.f k x159000 x159001).bind fun bt173 => (mosaiclaw02_OctReads.j3 k x1 x7 0 bt170.1 bt170.2.1 bt170.2.2 bt173.1 bt173.2.1 bt173.2.2.1 bt173.2.2.2))) else (if ((rd_T37 x1 x7).f0) = 2 then ((oct_Reader_Raw.f x158000 x158001 ((rd_T37 x1 x7).f1)).bind fun bt177 => ((mosaicref02_Reader_Raw.f x159000 x159001 ((rd_T37 x1 x7).f1)).bind fun bt180 => (mosaiclaw02_OctReads.j3 k x1 x7 0 bt177.1 bt177.2.1 bt177.2.2 bt180.1 bt180.2.1 bt180.2.2.1 bt180.2.2.2))) else (if ((rd_T37 x1 x7).f0) = 3 then ((oct_Reader_Rest.f x158000 x158001).bind fun bt184 => ((mosaicref02_Reader_Raw.f x159000 x159001 (x159000.size : Int)).bind fun bt187 => (mosaiclaw02_OctReads.j3 k x1 x7 0 bt184.1 bt184.2.1 bt184.2.2 bt187.1 bt187.2.1 bt187.2.2.1 bt187.2.2.2))) else (mosaiclaw02_OctReads.j3 k x1 x7 0 (⟨#[]⟩ : ByteArray) x158000 x158001 x159000 x159001 0 (⟨#[]⟩ : ByteArray)))))) else (none)) else (none)) else (some true)
def mosaiclaw02_OctReads.j3 : Nat → List (S37) → Int → Int → ByteArray → ByteArray → Int → ByteArray → Int → Int → ByteArray → Option (Bool)
 | 0, _, _, _, _, _, _, _, _, _, _ => none
 | k + 1, x1, x7, x9, x10, x158000, x158001, x163000, x163001, x163002, x163003 => if x9 = x163002 then (if x10.toList = x163003.toList then ((oct_Reader_Left.f x158000 x158001).bind fun bt191 => ((mosaicref02_Reader_Left.f x163000 x163001).bind fun t194 => (if bt191.1 = t194 then ((oct_Reader_Err.f bt191.2.1 bt191.2.2).bind fun bt195 => (if bt195.1 = x163001 then ((oct_Reader_End.f bt195.2.1 bt195.2.2).bind fun bt198 => ((mosaicref02_Reader_End.f x163000 x163001).bind fun t201 => (if bt198.1 = t201 then (mosaiclaw02_OctReads.l0 k x1 (wrap64 (x7 + 1)) bt198.2.1 bt198.2.2 x163000 x163001) else (some false)))) else (some false))) else (some false)))) else (some false)) else (some false)
end
def mosaiclaw02_OctReads.f (k : Nat) (a0 : ByteArray) (l1 : List (S37)) : Option (Bool) := if (a0.size : Int) > 5000 then ((mosaiclaw02_awake.f).bind fun t154 => (some t154)) else ((oct_From.f a0).bind fun bt155 => ((mosaiclaw02_awake.f).bind fun t159 => (if t159 = true then (mosaiclaw02_OctReads.j0 k l1 false bt155.1 bt155.2 a0 0) else (mosaiclaw02_OctReads.j0 k l1 true bt155.1 bt155.2 a0 0))))
theorem mosaiclaw02_OctReads.mono_l : ∀ k, (∀ y0 y1 y2 y3 y4 y5, LeO (mosaiclaw02_OctReads.j0 k y0 y1 y2 y3 y4 y5) (mosaiclaw02_OctReads.j0 (k + 1) y0 y1 y2 y3 y4 y5)) ∧ (∀ y0 y1 y2 y3 y4 y5, LeO (mosaiclaw02_OctReads.l0 k y0 y1 y2 y3 y4 y5) (mosaiclaw02_OctReads.l0 (k + 1) y0 y1 y2 y3 y4 y5)) ∧ (∀ y0 y1 y2 y3 y4 y5 y6, LeO (mosaiclaw02_OctReads.j2 k y0 y1 y2 y3 y4 y5 y6) (mosaiclaw02_OctReads.j2 (k + 1) y0 y1 y2 y3 y4 y5 y6)) ∧ (∀ y0 y1 y2 y3 y4 y5 y6 y7 y8 y9, LeO (mosaiclaw02_OctReads.j3 k y0 y1 y2 y3 y4 y5 y6 y7 y8 y9) (mosaiclaw02_OctReads.j3 (k + 1) y0 y1 y2 y3 y4 y5 y6 y7 y8 y9))
 | 0 => ⟨fun _ _ _ _ _ _ r h => by simp [mosaiclaw02_OctReads.j0] at h, fun _ _ _ _ _ _ r h => by simp [mosaiclaw02_OctReads.l0] at h, fun _ _ _ _ _ _ _ r h => by simp [mosaiclaw02_OctReads.j2] at h, fun _ _ _ _ _ _ _ _ _ _ r h => by simp [mosaiclaw02_OctReads.j3] at h⟩
 | k + 1 => by
  obtain ⟨ih0, ih1, ih2, ih3⟩ := mosaiclaw02_OctReads.mono_l k
  refine ⟨?_, ?_, ?_, ?_⟩
  ·
   intro y0 y1 y2 y3 y4 y5
   unfold mosaiclaw02_OctReads.j0
   repeat' first
   | (with_reducible exact ih0 _ _ _ _ _ _)
   | (with_reducible exact ih1 _ _ _ _ _ _)
   | (with_reducible exact ih2 _ _ _ _ _ _ _)
   | (with_reducible exact ih3 _ _ _ _ _ _ _ _ _ _)
   | (with_reducible exact mosaicref02_Reader_Num.mono _ _ _ _)
   | (with_reducible exact mosaicref02_Reader_Text.mono _ _ _)
   | (with_reducible exact oct_Reader_Num.mono _ _ _ _)
   | (with_reducible exact LeO.refl _)
   | (with_reducible exact LeO.none _)
   | (with_reducible refine LeO.ite ?_ ?_)
   | (with_reducible refine LeO.bind ?_ (fun _ => ?_))
   | exact ih0 _ _ _ _ _ _
   | exact ih1 _ _ _ _ _ _
   | exact ih2 _ _ _ _ _ _ _
   | exact ih3 _ _ _ _ _ _ _ _ _ _
   | exact mosaicref02_Reader_Num.mono _ _ _ _
   | exact mosaicref02_Reader_Text.mono _ _ _
   | exact oct_Reader_Num.mono _ _ _ _
   | exact LeO.none _
   | refine LeO.ite ?_ ?_
   | refine LeO.bind ?_ (fun _ => ?_)
  ·
   intro y0 y1 y2 y3 y4 y5
   unfold mosaiclaw02_OctReads.l0
   repeat' first
   | (with_reducible exact ih0 _ _ _ _ _ _)
   | (with_reducible exact ih1 _ _ _ _ _ _)
   | (with_reducible exact ih2 _ _ _ _ _ _ _)
   | (with_reducible exact ih3 _ _ _ _ _ _ _ _ _ _)
   | (with_reducible exact mosaicref02_Reader_Num.mono _ _ _ _)
   | (with_reducible exact mosaicref02_Reader_Text.mono _ _ _)
   | (with_reducible exact oct_Reader_Num.mono _ _ _ _)
   | (with_reducible exact LeO.refl _)
   | (with_reducible exact LeO.none _)
   | (with_reducible refine LeO.ite ?_ ?_)
   | (with_reducible refine LeO.bind ?_ (fun _ => ?_))
   | exact ih0 _ _ _ _ _ _
   | exact ih1 _ _ _ _ _ _
   | exact ih2 _ _ _ _ _ _ _
   | exact ih3 _ _ _ _ _ _ _ _ _ _
   | exact mosaicref02_Reader_Num.mono _ _ _ _
   | exact mosaicref02_Reader_Text.mono _ _ _
   | exact oct_Reader_Num.mono _ _ _ _
   | exact LeO.none _
   | refine LeO.ite ?_ ?_
   | refine LeO.bind ?_ (fun _ => ?_)
  ·
   intro y0 y1 y2 y3 y4 y5 y6
   unfold mosaiclaw02_OctReads.j2
   repeat' first
   | (with_reducible exact ih0 _ _ _ _ _ _)
   | (with_reducible exact ih1 _ _ _ _ _ _)
   | (with_reducible exact ih2 _ _ _ _ _ _ _)
   | (with_reducible exact ih3 _ _ _ _ _ _ _ _ _ _)
   | (with_reducible exact mosaicref02_Reader_Num.mono _ _ _ _)
   | (with_reducible exact mosaicref02_Reader_Text.mono _ _ _)
   | (with_reducible exact oct_Reader_Num.mono _ _ _ _)
   | (with_reducible exact LeO.refl _)
   | (with_reducible exact LeO.none _)
   | (with_reducible refine LeO.ite ?_ ?_)
   | (with_reducible refine LeO.bind ?_ (fun _ => ?_))
   | exact ih0 _ _ _ _ _ _
   | exact ih1 _ _ _ _ _ _
   | exact ih2 _ _ _ _ _ _ _
   | exact ih3 _ _ _ _ _ _ _ _ _ _
   | exact mosaicref02_Reader_Num.mono _ _ _ _
   | exact mosaicref02_Reader_Text.mono _ _ _
   | exact oct_Reader_Num.mono _ _ _ _
   | exact LeO.none _
   | refine LeO.ite ?_ ?_
   | refine LeO.bind ?_ (fun _ => ?_)
  ·
   intro y0 y1 y2 y3 y4 y5 y6 y7 y8 y9
   unfold mosaiclaw02_OctReads.j3
   repeat' first
   | (with_reducible exact ih0 _ _ _ _ _ _)
   | (with_reducible exact ih1 _ _ _ _ _ _)
   | (with_reducible exact ih2 _ _ _ _ _ _ _)
   | (with_reducible exact ih3 _ _ _ _ _ _ _ _ _ _)
   | (with_reducible exact mosaicref02_Reader_Num.mono _ _ _ _)
   | (with_reducible exact mosaicref02_Reader_Text.mono _ _ _)
   | (with_reducible exact oct_Reader_Num.mono _ _ _ _)
   | (with_reducible exact LeO.refl _)
   | (with_reducible exact LeO.none _)
   | (with_reducible refine LeO.ite ?_ ?_)
   | (with_reducible refine LeO.bind ?_ (fun _ => ?_))
   | exact ih0 _ _ _ _ _ _
   | exact ih1 _ _ _ _ _ _
   | exact ih2 _ _ _ _ _ _ _
   | exact ih3 _ _ _ _ _ _ _ _ _ _
   | exact mosaicref02_Reader_Num.mono _ _ _ _
   | exact mosaicref02_Reader_Text.mono _ _ _
   | exact oct_Reader_Num.mono _ _ _ _
   | exact LeO.none _
   | refine LeO.ite ?_ ?_
   | refine LeO.bind ?_ (fun _ => ?_)
theorem mosaiclaw02_OctReads.mono : ∀ a0 a1 k, LeO (mosaiclaw02_OctReads.f k a0 a1) (mosaiclaw02_OctReads.f (k + 1) a0 a1) := by
 intro a0 a1 k
 obtain ⟨ih0, ih1, ih2, ih3⟩ := mosaiclaw02_OctReads.mono_l k
 unfold mosaiclaw02_OctReads.f
 repeat' first
   | (with_reducible exact ih0 _ _ _ _ _ _)
   | (with_reducible exact ih1 _ _ _ _ _ _)
   | (with_reducible exact ih2 _ _ _ _ _ _ _)
   | (with_reducible exact ih3 _ _ _ _ _ _ _ _ _ _)
   | (with_reducible exact mosaicref02_Reader_Num.mono _ _ _ _)
   | (with_reducible exact mosaicref02_Reader_Text.mono _ _ _)
   | (with_reducible exact oct_Reader_Num.mono _ _ _ _)
   | (with_reducible exact LeO.refl _)
   | (with_reducible exact LeO.none _)
   | (with_reducible refine LeO.ite ?_ ?_)
   | (with_reducible refine LeO.bind ?_ (fun _ => ?_))
   | exact ih0 _ _ _ _ _ _
   | exact ih1 _ _ _ _ _ _
   | exact ih2 _ _ _ _ _ _ _
   | exact ih3 _ _ _ _ _ _ _ _ _ _
   | exact mosaicref02_Reader_Num.mono _ _ _ _
   | exact mosaicref02_Reader_Text.mono _ _ _
   | exact oct_Reader_Num.mono _ _ _ _
   | exact LeO.none _
   | refine LeO.ite ?_ ?_
   | refine LeO.bind ?_ (fun _ => ?_)
def mosaiclaw02_OctReads.T27 : Bool × List (List Nat × List Nat) := (true, [([], []), ([], []), ([1], [1]), ([0, 2], [0, 2]), ([3], [3]), ([4], [4]), ([4], [4]), ([6, 4], [4, 6]), ([5, 7, 4], [4, 5, 7]), ([4, 8], [4, 8]), ([9, 4], [9]), ([10], [10]), ([11, 10, 10], [10, 11]), ([10], [10]), ([13, 12, 10], [10, 13]), ([12, 14, 10], [10, 12, 14]), ([10, 15], [10, 15]), ([16, 14], [16]), ([17], [17]), ([18, 17, 17], [17, 18]), ([17], [17]), ([20, 17], [17, 20]), ([19, 21, 17], [17, 19, 21]), ([17, 22], [17, 22]), ([23, 19], [23]), ([24], [24]), ([25, 24, 24], [24, 25]), ([24], [24]), ([27, 26, 24], [24, 27]), ([26, 28, 24], [24, 26, 28]), ([24, 29], [24, 29])])
def mosaiclaw02_OctReads.B27 : List Nat := [0, 0, 2, 7, 15, 31, 31, 95, 255, 511, 1023, 2047, 4095, 2047, 16383, 32767, 65535, 131071, 262143, 524287, 262143, 1310719, 4194303, 8388607, 16777215, 33554431, 67108863, 33554431, 268435455, 536870911, 1073741823]
theorem mosaiclaw02_OctReads.tab27 : rtab .any (opsOf Try.f7 27) = mosaiclaw02_OctReads.T27 := by kernel_rfl
theorem mosaiclaw02_OctReads.bits27 : waitsOk mosaiclaw02_OctReads.T27.2 mosaiclaw02_OctReads.B27 = true := by kernel_rfl
set_option maxHeartbeats 8000000 in
set_option maxRecDepth 100000 in
theorem mosaiclaw02_OctReads.calls (k : Nat) (a0 : ByteArray) (A1 : Option Addr) (c1 : Nat) (l1 : List (S37)) (r : Bool) (w : World) (hr1 : Kd.C k37 w A1 l1.length l1) (hc1 : l1.length ≤ c1) (h : mosaiclaw02_OctReads.f k a0 l1 = some r) :
  Calls Try.prog 7 #[.string a0, .slice A1 l1.length c1] w fun e w' => e = .returned (.bool r) ∧ Below w.heap.size w w' := by
 have hu48 := Try.underlying48; have hu37 := Try.underlying37; have hu50 := Try.underlying50; have HR1 := Aside0.mk hr1
 have HC1 := Aside0.mk hc1
 clear hr1 hc1; have HB := Aside0.mk (Below.refl w.heap.size w)
 have H : (if (a0.size : Int) > 5000 then ((mosaiclaw02_awake.f).bind fun t154 => (some t154)) else ((oct_From.f a0).bind fun bt155 => ((mosaiclaw02_awake.f).bind fun t159 => (if t159 = true then (mosaiclaw02_OctReads.j0 k l1 false bt155.1 bt155.2 a0 0) else (mosaiclaw02_OctReads.j0 k l1 true bt155.1 bt155.2 a0 0))))) = some r := h
 clear h; by_cases c3 : (a0.size : Int) > 5000
 ·
  rw [if_pos c3] at H
  have c3b0 : decide (5000 < (a0.size : Int)) = true := decide_eq_true c3
  have c3b1 : decide (5000 < a0.size) = true := decide_eq_true (by omega)
  clear c3; replace H := Option.bind_eq_some_iff.mp H
  obtain ⟨t154, A40, H⟩ := H
  replace H : (some t154) = some r := H
  have A4 := Aside0.mk A40
  clear A40; obtain rfl := Option.some.inj H
  go_enter Try.func7, Try.ntmps7
  go_wp2_with (first | ((with_reducible refine gate_callee (f := 11) rfl ?_); refine goesL_ (some 15) rfl rfl Try.func11 (by kernel_rfl) rfl #[] rfl (by (try simp only [List.map_toArray, List.map_cons, List.map_nil]); first | done | rfl | (simp only [List.length_drop, List.length_take]; rfl)) ?_; (with_reducible refine (mosaiclaw02_awake.calls  t154 _ A4.out).mono ?_); rintro e w5 ⟨rfl, hb⟩; refine ⟨_, rfl, ?_⟩; have n0_ := Aside0.mk (below_step (by repeat (first | (with_reducible first | exact HB.out | apply below_alloc | apply pw_below_drewN | apply below_drew1) | exact HB.out)) hb); clear HB; have HB := n0_; clear n0_; (try clear hb); (try clear hb2); (try clear hk); (try clear hi)))
  go_ret
  exact ⟨by first | rfl | (simp [errW_none, errW_some] <;> rfl) | (simp [*, errW_none, errW_some] <;> rfl), by repeat (first | (with_reducible first | exact HB.out | apply below_alloc | apply pw_below_drewN | apply below_drew1) | exact HB.out)⟩
 ·
  rw [if_neg c3] at H
  have c3b0 : decide (5000 < (a0.size : Int)) = false := decide_eq_false c3
  have c3b1 : decide (5000 < a0.size) = false := decide_eq_false (by omega)
  clear c3; replace H := Option.bind_eq_some_iff.mp H
  obtain ⟨⟨t155, t156⟩, A60, H⟩ := H
  replace H : ((mosaiclaw02_awake.f).bind fun t159 => (if t159 = true then (mosaiclaw02_OctReads.j0 k l1 false t155 t156 a0 0) else (mosaiclaw02_OctReads.j0 k l1 true t155 t156 a0 0))) = some r := H
  have A6 := Aside0.mk A60
  clear A60; have HC7 := Aside0.mk H
  clear H; go_enter Try.func7, Try.ntmps7
  go_upto_region 5 with (first | ((with_reducible refine gate_callee (f := 23) rfl ?_); refine goesL_ (some 17) rfl rfl Try.func23 (by kernel_rfl) rfl #[.string a0] rfl (by (try simp only [List.map_toArray, List.map_cons, List.map_nil]); first | done | rfl | (simp only [List.length_drop, List.length_take]; rfl)) ?_; (with_reducible refine (oct_From.calls a0 t155 t156 w _ ?side1 A6.out).mono ?_); (case side1 => repeat (first | (with_reducible first | exact HB.out | apply below_alloc | apply pw_below_drewN | apply below_drew1) | exact HB.out)); rintro e w8 ⟨g157, rfl, hi, hb, hb2⟩; refine ⟨_, rfl, ?_⟩; have n0_ := Aside0.mk (hb); have n1_ := Aside0.mk (hi); clear HB; have HB := n0_; have HI157 := n1_; clear n0_ n1_; (try clear hb); (try clear hb2); (try clear hk); (try clear hi)) | ((with_reducible refine gate_dst (N := 6) rfl ?_); refine box_event ?hg (N := 6) ?hd (cs := #[.string (⟨#[]⟩ : ByteArray), .int .i64 0]) (t := 48) ?hr ?_; (case hd => rfl); (case hg => rfl); (case hr => first | (go_simp; done) | (go_simp; rfl)); intro gb158 hg w9 hbox hb; have n0_ := Aside0.mk (IsS70.below (by repeat (first | (with_reducible first | exact HI157.out | apply IsS70.alloc | apply IsS70.drewN | apply IsS70.drew | apply IsS70.set_0 | apply IsS70.set_1) | exact HI157.out)) hb); have n1_ := Aside0.mk (below_step (by repeat (first | (with_reducible first | exact HB.out | apply below_alloc | apply pw_below_drewN | apply below_drew1 | refine below_set ?_ (IsS70.ge HI157.out)) | exact HB.out)) hb); have n2_ := Aside0.mk (hbox); have n3_ := Aside0.mk ((by rw [hg]; exact (below_size (by repeat (first | (with_reducible first | exact HB.out | apply below_alloc | apply pw_below_drewN | apply below_drew1 | refine below_set ?_ (IsS70.ge HI157.out)) | exact HB.out))) : w.heap.size ≤ gb158)); have n4_ := Aside0.mk ((by rw [hg]; exact (below_size (by repeat (first | (with_reducible first | exact HB.out | apply below_alloc | apply pw_below_drewN | apply below_drew1 | refine below_set ?_ (IsS70.ge HI157.out)) | exact HB.out))) : w.heap.size ≤ gb158)); have n5_ := Aside0.mk ((by rw [hg]; exact Nat.ne_of_lt (IsS70.lt (show IsS70 w _ g157 t155 t156 from by repeat (first | (with_reducible first | exact HI157.out | apply IsS70.alloc | apply IsS70.drewN | apply IsS70.drew | apply IsS70.set_0 | apply IsS70.set_1) | exact HI157.out))) : g157 ≠ gb158)); have n6_ := Aside0.mk ((by rw [hg]; exact Nat.ne_of_gt (IsS70.lt (show IsS70 w _ g157 t155 t156 from by repeat (first | (with_reducible first | exact HI157.out | apply IsS70.alloc | apply IsS70.drewN | apply IsS70.drew | apply IsS70.set_0 | apply IsS70.set_1) | exact HI157.out))) : gb158 ≠ g157)); clear HI157; clear HB; have HI157 := n0_; have HB := n1_; have BK158 := n2_; have GW158 := n3_; have GE158 := n4_; have NB157_158 := n5_; have NB158_157 := n6_; clear n0_ n1_ n2_ n3_ n4_ n5_ n6_; clear hb hbox hg; have hnb10 := NB158_157.out; have hnc10 := NB157_158.out; have hcz11_0 : w9.cell? ⟨gb158, 0, none⟩ = some (.string (⟨#[]⟩ : ByteArray)) := (blk_cell BK158.out 0).trans rfl; have hcz11_1 : w9.cell? ⟨gb158, 1, none⟩ = some (.int .i64 0) := (blk_cell BK158.out 1).trans rfl; have hfz11_0 := blk_frozen BK158.out 0; have hfz11_1 := blk_frozen BK158.out 1))
  (try simp only [Act.put, List.setIfInBounds_toArray, List.set_cons_zero, List.set_cons_succ])
  go_cut [25] (fun v25 wc => ∃ (kq : Nat) (x25_6 : Bool), v25 = .bool x25_6 ∧ Aside0 (mosaiclaw02_OctReads.j0 kq l1 x25_6 t155 t156 a0 0 = some r) ∧ Aside0 (kq ≤ k) ∧ Aside0 (wc.heap[gb158]? = some (.cells #[.string a0, .int .i64 0] 48 (0, 0))) ∧ Aside0 (IsS70 w wc g157 t155 t156) ∧ Aside0 (Below w.heap.size w wc))
  case first =>
   have H := HC7.out; clear HC7; replace H := Option.bind_eq_some_iff.mp H
   obtain ⟨t159, A120, H⟩ := H
   replace H : (if t159 = true then (mosaiclaw02_OctReads.j0 k l1 false t155 t156 a0 0) else (mosaiclaw02_OctReads.j0 k l1 true t155 t156 a0 0)) = some r := H
   have A12 := Aside0.mk A120
   clear A120; by_cases c13 : t159 = true
   ·
    subst c13
    have H1 : (mosaiclaw02_OctReads.j0 k l1 false t155 t156 a0 0) = some r := by rw [if_pos rfl] at H; exact H
    clear H; have H := H1; clear H1; have H' := Aside0.mk H
    clear H; go_wp2_with (first | ((with_reducible refine gate_callee (f := 11) rfl ?_); refine goesL_ (some 20) rfl rfl Try.func11 (by kernel_rfl) rfl #[] rfl (by (try simp only [List.map_toArray, List.map_cons, List.map_nil]); first | done | rfl | (simp only [List.length_drop, List.length_take]; rfl)) ?_; (with_reducible refine (mosaiclaw02_awake.calls  true _ A12.out).mono ?_); rintro e w14 ⟨rfl, hb⟩; refine ⟨_, rfl, ?_⟩; have n0_ := Aside0.mk (IsS70.below (show IsS70 w ((w9.setCell ⟨gb158, 0, none⟩ (.string a0)).setCell ⟨gb158, 1, none⟩ (.int .i64 0)) g157 t155 t156 from by repeat (first | (with_reducible first | exact HI157.out | apply IsS70.alloc | apply IsS70.drewN | apply IsS70.drew | apply IsS70.set_0 | apply IsS70.set_1 | refine IsS70.far ?_ NB157_158.out _) | exact HI157.out)) hb); have n1_ := Aside0.mk (blk_below (g := gb158) (o := .cells #[.string a0, .int .i64 0] 48 (0, 0)) (by (with_reducible repeat (first | refine blk_drewN ?_ _ | refine blk_drew ?_ | refine blk_alloc ?_ _)); refine blk_put (cs := #[.string a0, .int .i64 0]) ?_ 1 _ rfl; (with_reducible repeat (first | refine blk_drewN ?_ _ | refine blk_drew ?_ | refine blk_alloc ?_ _)); refine blk_put (cs := #[.string (⟨#[]⟩ : ByteArray), .int .i64 0]) ?_ 0 _ rfl; (with_reducible repeat (first | refine blk_drewN ?_ _ | refine blk_drew ?_ | refine blk_alloc ?_ _)); exact BK158.out) hb); have n2_ := Aside0.mk (below_step (by repeat (first | (with_reducible first | exact HB.out | apply below_alloc | apply pw_below_drewN | apply below_drew1 | refine below_set ?_ (IsS70.ge HI157.out) | refine below_set ?_ GE158.out) | exact HB.out)) hb); clear HI157; clear BK158; clear HB; have HI157 := n0_; have BK158 := n1_; have HB := n2_; clear n0_ n1_ n2_; (try clear hb); (try clear hb2); (try clear hk); (try clear hi)))
    go_meet
    case rel => exact ⟨_, (false), (by first | rfl | (simp; done) | (simp [*]; done)), H', ⟨by first | omega | exact Nat.le_refl _⟩, ⟨by (with_reducible repeat (first | refine blk_drewN ?_ _ | refine blk_drew ?_ | refine blk_alloc ?_ _)); exact BK158.out⟩, ⟨by repeat (first | (with_reducible first | exact HI157.out | apply IsS70.alloc | apply IsS70.drewN | apply IsS70.drew | apply IsS70.set_0 | apply IsS70.set_1 | refine IsS70.far ?_ NB157_158.out _) | exact HI157.out)⟩, ⟨by repeat (first | (with_reducible first | exact HB.out | apply below_alloc | apply pw_below_drewN | apply below_drew1 | refine below_set ?_ (IsS70.ge HI157.out) | refine below_set ?_ GE158.out) | exact HB.out)⟩⟩
   ·
    replace c13 := Bool.eq_false_iff.mpr c13
    subst c13
    have H1 : (mosaiclaw02_OctReads.j0 k l1 true t155 t156 a0 0) = some r := by rw [if_neg (show ¬ (false = true) by decide)] at H; exact H
    clear H; have H := H1; clear H1; have H' := Aside0.mk H
    clear H; go_wp2_with (first | ((with_reducible refine gate_callee (f := 11) rfl ?_); refine goesL_ (some 20) rfl rfl Try.func11 (by kernel_rfl) rfl #[] rfl (by (try simp only [List.map_toArray, List.map_cons, List.map_nil]); first | done | rfl | (simp only [List.length_drop, List.length_take]; rfl)) ?_; (with_reducible refine (mosaiclaw02_awake.calls  false _ A12.out).mono ?_); rintro e w15 ⟨rfl, hb⟩; refine ⟨_, rfl, ?_⟩; have n0_ := Aside0.mk (IsS70.below (show IsS70 w ((w9.setCell ⟨gb158, 0, none⟩ (.string a0)).setCell ⟨gb158, 1, none⟩ (.int .i64 0)) g157 t155 t156 from by repeat (first | (with_reducible first | exact HI157.out | apply IsS70.alloc | apply IsS70.drewN | apply IsS70.drew | apply IsS70.set_0 | apply IsS70.set_1 | refine IsS70.far ?_ NB157_158.out _) | exact HI157.out)) hb); have n1_ := Aside0.mk (blk_below (g := gb158) (o := .cells #[.string a0, .int .i64 0] 48 (0, 0)) (by (with_reducible repeat (first | refine blk_drewN ?_ _ | refine blk_drew ?_ | refine blk_alloc ?_ _)); refine blk_put (cs := #[.string a0, .int .i64 0]) ?_ 1 _ rfl; (with_reducible repeat (first | refine blk_drewN ?_ _ | refine blk_drew ?_ | refine blk_alloc ?_ _)); refine blk_put (cs := #[.string (⟨#[]⟩ : ByteArray), .int .i64 0]) ?_ 0 _ rfl; (with_reducible repeat (first | refine blk_drewN ?_ _ | refine blk_drew ?_ | refine blk_alloc ?_ _)); exact BK158.out) hb); have n2_ := Aside0.mk (below_step (by repeat (first | (with_reducible first | exact HB.out | apply below_alloc | apply pw_below_drewN | apply below_drew1 | refine below_set ?_ (IsS70.ge HI157.out) | refine below_set ?_ GE158.out) | exact HB.out)) hb); clear HI157; clear BK158; clear HB; have HI157 := n0_; have BK158 := n1_; have HB := n2_; clear n0_ n1_ n2_; (try clear hb); (try clear hb2); (try clear hk); (try clear hi)))
    go_meet
    case rel => exact ⟨_, (true), (by first | rfl | (simp; done) | (simp [*]; done)), H', ⟨by first | omega | exact Nat.le_refl _⟩, ⟨by (with_reducible repeat (first | refine blk_drewN ?_ _ | refine blk_drew ?_ | refine blk_alloc ?_ _)); exact BK158.out⟩, ⟨by repeat (first | (with_reducible first | exact HI157.out | apply IsS70.alloc | apply IsS70.drewN | apply IsS70.drew | apply IsS70.set_0 | apply IsS70.set_1 | refine IsS70.far ?_ NB157_158.out _) | exact HI157.out)⟩, ⟨by repeat (first | (with_reducible first | exact HB.out | apply below_alloc | apply pw_below_drewN | apply below_drew1 | refine below_set ?_ (IsS70.ge HI157.out) | refine below_set ?_ GE158.out) | exact HB.out)⟩⟩
  case rest =>
   clear HC7; (try clear c1); (try clear c2); (try clear p2); (try clear c3); (try clear c3b0); (try clear c3b1); (try clear c7); (try clear c10); (try clear c11); (try clear c13); (try clear hcz11_0); (try clear hcz11_1); (try clear hfz11_0); (try clear hfz11_1); obtain ⟨kq, x25_6, rfl, HA, HJ6, BK158, HI157, HB⟩ := hcut
   cases kq with
   | zero => exact absurd HA.out (by simp [mosaiclaw02_OctReads.j0])
   | succ kj6 =>
    have H := HA.out; clear HA; simp only [mosaiclaw02_OctReads.j0] at H
    by_cases c16 : x25_6 = true
    ·
     subst c16
     have H1 : (some false) = some r := by rw [if_pos rfl] at H; exact H
     clear H; have H := H1; clear H1; obtain rfl := Option.some.inj H
     go_wp2
     go_ret
     exact ⟨by first | rfl | (simp [errW_none, errW_some] <;> rfl) | (simp [*, errW_none, errW_some] <;> rfl), by repeat (first | (with_reducible first | exact HB.out | apply below_alloc | apply pw_below_drewN | apply below_drew1 | refine below_set ?_ (IsS70.ge HI157.out) | refine below_set ?_ GE158.out) | exact HB.out)⟩
    ·
     replace c16 := Bool.eq_false_iff.mpr c16
     subst c16
     have H1 : (mosaiclaw02_OctReads.l0 kj6 l1 0 t155 t156 a0 0) = some r := by rw [if_neg (show ¬ (false = true) by decide)] at H; exact H
     clear H; have H := H1; clear H1; have H' := Aside0.mk H
     clear H; go_wp2
     go_loopg [7] kj6 (fun kq v7 w' => ∃ (x7_2 : Int) (x158000_2 : ByteArray) (x158001_2 : Int) (x159000_2 : ByteArray) (x159001_2 : Int), v7 = .int .i64 x7_2 ∧ Aside0 (mosaiclaw02_OctReads.l0 kq l1 x7_2 x158000_2 x158001_2 x159000_2 x159001_2 = some r) ∧ Aside0 (kq ≤ kj6) ∧ Aside0 (w'.heap[gb158]? = some (.cells #[.string x159000_2, .int .i64 x159001_2] 48 (0, 0))) ∧ Aside0 (IsS70 w w' g157 x158000_2 x158001_2) ∧ Aside0 (Below w.heap.size w w'))
     case atStart => exact ⟨(0), (t155), (t156), (a0), (0), (by first | rfl | (simp; done) | (simp [*]; done)), H', ⟨Nat.le_refl _⟩, ⟨by (with_reducible repeat (first | refine blk_drewN ?_ _ | refine blk_drew ?_ | refine blk_alloc ?_ _)); exact BK158.out⟩, ⟨by repeat (first | (with_reducible first | exact HI157.out | apply IsS70.alloc | apply IsS70.drewN | apply IsS70.drew | apply IsS70.set_0 | apply IsS70.set_1 | refine IsS70.far ?_ NB157_158.out _) | exact HI157.out)⟩, ⟨by repeat (first | (with_reducible first | exact HB.out | apply below_alloc | apply pw_below_drewN | apply below_drew1 | refine below_set ?_ (IsS70.ge HI157.out) | refine below_set ?_ GE158.out) | exact HB.out)⟩⟩
     case round =>
      clear H'
      (try clear c1); (try clear c2); (try clear p2); (try clear c3); (try clear c3b0); (try clear c3b1); (try clear c7); (try clear c10); (try clear c11); (try clear c13); (try clear c16); (try clear hcz11_0); (try clear hcz11_1); (try clear hfz11_0); (try clear hfz11_1); (try clear p2); obtain ⟨x7_2, x158000_2, x158001_2, x159000_2, x159001_2, rfl, HA, HK2, BK158, HI157, HB⟩ := hrel
      cases gk with
      | zero => exact absurd HA.out (by simp [mosaiclaw02_OctReads.l0])
      | succ k2 =>
       have H := HA.out; clear HA; simp only [mosaiclaw02_OctReads.l0] at H
       have HC17 := Aside0.mk H
       clear H; go_upto_region 8 with (fail)
       go_cut [33] (fun v33 wc => ∃ (kq : Nat) (x33_16 : Bool), v33 = .bool x33_16 ∧ Aside0 (mosaiclaw02_OctReads.j2 kq l1 x7_2 x33_16 x158000_2 x158001_2 x159000_2 x159001_2 = some r) ∧ Aside0 (kq ≤ k2) ∧ Aside0 (wc.heap[gb158]? = some (.cells #[.string x159000_2, .int .i64 x159001_2] 48 (0, 0))) ∧ Aside0 (IsS70 w wc g157 x158000_2 x158001_2) ∧ Aside0 (Below w.heap.size w wc))
       case first =>
        have H := HC17.out; clear HC17; by_cases c18 : x7_2 < (l1.length : Int)
        ·
         rw [if_pos c18] at H
         have c18b0 : decide (x7_2 < (l1.length : Int)) = true := decide_eq_true c18
         clear c18; (first | rw [c18b0] | (simp only [i64_w, i32_w]; rw [c18b0]) | skip)
         have H' := Aside0.mk H
         clear H; go_wp2
         go_meet
         case rel => exact ⟨_, (decide (x7_2 < 40)), (by first | rfl | (simp; done) | (simp [*]; done)), H', ⟨by have := HJ6.out; have := HK2.out; first | omega | exact Nat.le_refl _⟩, ⟨by (with_reducible repeat (first | refine blk_drewN ?_ _ | refine blk_drew ?_ | refine blk_alloc ?_ _)); exact BK158.out⟩, ⟨by repeat (first | (with_reducible first | exact HI157.out | apply IsS70.alloc | apply IsS70.drewN | apply IsS70.drew | apply IsS70.set_0 | apply IsS70.set_1 | refine IsS70.far ?_ NB157_158.out _) | exact HI157.out)⟩, ⟨by repeat (first | (with_reducible first | exact HB.out | apply below_alloc | apply pw_below_drewN | apply below_drew1 | refine below_set ?_ (IsS70.ge HI157.out) | refine below_set ?_ GE158.out) | exact HB.out)⟩⟩
        ·
         rw [if_neg c18] at H
         have c18b0 : decide (x7_2 < (l1.length : Int)) = false := decide_eq_false c18
         clear c18; (first | rw [c18b0] | (simp only [i64_w, i32_w]; rw [c18b0]) | skip)
         have H' := Aside0.mk H
         clear H; go_wp2
         go_meet
         case rel => exact ⟨_, (false), (by first | rfl | (simp; done) | (simp [*]; done)), H', ⟨by have := HJ6.out; have := HK2.out; first | omega | exact Nat.le_refl _⟩, ⟨by (with_reducible repeat (first | refine blk_drewN ?_ _ | refine blk_drew ?_ | refine blk_alloc ?_ _)); exact BK158.out⟩, ⟨by repeat (first | (with_reducible first | exact HI157.out | apply IsS70.alloc | apply IsS70.drewN | apply IsS70.drew | apply IsS70.set_0 | apply IsS70.set_1 | refine IsS70.far ?_ NB157_158.out _) | exact HI157.out)⟩, ⟨by repeat (first | (with_reducible first | exact HB.out | apply below_alloc | apply pw_below_drewN | apply below_drew1 | refine below_set ?_ (IsS70.ge HI157.out) | refine below_set ?_ GE158.out) | exact HB.out)⟩⟩
       case rest =>
        clear HC17; (try clear c1); (try clear c2); (try clear p2); (try clear c3); (try clear c3b0); (try clear c3b1); (try clear c7); (try clear c10); (try clear c11); (try clear c13); (try clear c16); (try clear c18); (try clear c18b0); (try clear hcz11_0); (try clear hcz11_1); (try clear hfz11_0); (try clear hfz11_1); (try clear p2); obtain ⟨kq, x33_16, rfl, HA, HJ16, BK158, HI157, HB⟩ := hcut
        cases kq with
        | zero => exact absurd HA.out (by simp [mosaiclaw02_OctReads.j2])
        | succ kj16 =>
         have H := HA.out; clear HA; simp only [mosaiclaw02_OctReads.j2] at H
         by_cases c19 : x33_16 = true
         ·
          subst c19
          have H1 : (if 0 ≤ x7_2 then (if x7_2 < (l1.length : Int) then (if ((rd_T37 l1 x7_2).f0) = 0 then ((oct_Reader_Num.f kj16 x158000_2 x158001_2 ((rd_T37 l1 x7_2).f2)).bind fun bt163 => ((mosaicref02_Reader_Num.f kj16 x159000_2 x159001_2 ((rd_T37 l1 x7_2).f2)).bind fun bt166 => (mosaiclaw02_OctReads.j3 kj16 l1 x7_2 bt163.1 (⟨#[]⟩ : ByteArray) bt163.2.1 bt163.2.2 bt166.1 bt166.2.1 bt166.2.2.1 bt166.2.2.2))) else (if ((rd_T37 l1 x7_2).f0) = 1 then ((oct_Reader_Text.f x158000_2 x158001_2).bind fun bt170 => ((mosaicref02_Reader_Text.f kj16 x159000_2 x159001_2).bind fun bt173 => (mosaiclaw02_OctReads.j3 kj16 l1 x7_2 0 bt170.1 bt170.2.1 bt170.2.2 bt173.1 bt173.2.1 bt173.2.2.1 bt173.2.2.2))) else (if ((rd_T37 l1 x7_2).f0) = 2 then ((oct_Reader_Raw.f x158000_2 x158001_2 ((rd_T37 l1 x7_2).f1)).bind fun bt177 => ((mosaicref02_Reader_Raw.f x159000_2 x159001_2 ((rd_T37 l1 x7_2).f1)).bind fun bt180 => (mosaiclaw02_OctReads.j3 kj16 l1 x7_2 0 bt177.1 bt177.2.1 bt177.2.2 bt180.1 bt180.2.1 bt180.2.2.1 bt180.2.2.2))) else (if ((rd_T37 l1 x7_2).f0) = 3 then ((oct_Reader_Rest.f x158000_2 x158001_2).bind fun bt184 => ((mosaicref02_Reader_Raw.f x159000_2 x159001_2 (x159000_2.size : Int)).bind fun bt187 => (mosaiclaw02_OctReads.j3 kj16 l1 x7_2 0 bt184.1 bt184.2.1 bt184.2.2 bt187.1 bt187.2.1 bt187.2.2.1 bt187.2.2.2))) else (mosaiclaw02_OctReads.j3 kj16 l1 x7_2 0 (⟨#[]⟩ : ByteArray) x158000_2 x158001_2 x159000_2 x159001_2 0 (⟨#[]⟩ : ByteArray)))))) else (none)) else (none)) = some r := by rw [if_pos rfl] at H; exact H
          clear H; have H := H1; clear H1; by_cases c20 : 0 ≤ x7_2
          ·
           rw [if_pos c20] at H
           have c20b0 : decide (0 ≤ x7_2) = true := decide_eq_true c20
           clear c20; by_cases c21 : x7_2 < (l1.length : Int)
           ·
            rw [if_pos c21] at H
            have c21b0 : decide (x7_2 < (l1.length : Int)) = true := decide_eq_true c21
            clear c21; have HC22 := Aside0.mk H
            clear H; have p160 : 0 ≤ (x7_2 : Int) := of_decide_eq_true (by first | (with_reducible assumption) | assumption)
            have q160 : x7_2 < (l1.length : Int) := of_decide_eq_true (by first | (with_reducible assumption) | assumption)
            obtain ⟨ad160, e160, hx160_0, hx160_1, hx160_2, hx160_3⟩ := at_T37 HR1.out x7_2 p160 q160
            cases e160
            replace hx160_0 := (HB.out.cell (World.block_lt_of_cell? w _ hx160_0)).trans hx160_0
            replace hx160_1 := (HB.out.cell (World.block_lt_of_cell? w _ hx160_1)).trans hx160_1
            replace hx160_2 := (HB.out.cell (World.block_lt_of_cell? w _ hx160_2)).trans hx160_2
            replace hx160_3 := (HB.out.cell (World.block_lt_of_cell? w _ hx160_3)).trans hx160_3
            replace p160 := eq_true p160
            replace q160 := eq_true q160
            go_upto_block 2 with (first | ((with_reducible refine gate_dst (N := 8) rfl ?_); refine box_event ?hg (N := 8) ?hd (cs := #[.int .i64 0, .int .i64 0, .int .i64 0, .string (⟨#[]⟩ : ByteArray)]) (t := 37) ?hr ?_; (case hd => rfl); (case hg => rfl); (case hr => first | (go_simp; done) | (go_simp; rfl)); intro gb161 hg w23 hbox hb; have n0_ := Aside0.mk (blk_below (g := gb158) (o := .cells #[.string x159000_2, .int .i64 x159001_2] 48 (0, 0)) (by (with_reducible repeat (first | refine blk_drewN ?_ _ | refine blk_drew ?_ | refine blk_alloc ?_ _)); exact BK158.out) hb); have n1_ := Aside0.mk (IsS70.below (by repeat (first | (with_reducible first | exact HI157.out | apply IsS70.alloc | apply IsS70.drewN | apply IsS70.drew | apply IsS70.set_0 | apply IsS70.set_1 | refine IsS70.far ?_ NB157_158.out _) | exact HI157.out)) hb); have n2_ := Aside0.mk (below_step (by repeat (first | (with_reducible first | exact HB.out | apply below_alloc | apply pw_below_drewN | apply below_drew1 | refine below_set ?_ (IsS70.ge HI157.out) | refine below_set ?_ GE158.out) | exact HB.out)) hb); have n3_ := Aside0.mk (hbox); have n4_ := Aside0.mk ((by rw [hg]; exact (below_size (by repeat (first | (with_reducible first | exact HB.out | apply below_alloc | apply pw_below_drewN | apply below_drew1 | refine below_set ?_ (IsS70.ge HI157.out) | refine below_set ?_ GE158.out) | exact HB.out))) : w.heap.size ≤ gb161)); have n5_ := Aside0.mk ((by rw [hg]; exact (below_size (by repeat (first | (with_reducible first | exact HB.out | apply below_alloc | apply pw_below_drewN | apply below_drew1 | refine below_set ?_ (IsS70.ge HI157.out) | refine below_set ?_ GE158.out) | exact HB.out))) : w.heap.size ≤ gb161)); have n6_ := Aside0.mk ((by rw [hg]; exact Nat.ne_of_lt (blk_lt (g := gb158) (o := .cells #[.string x159000_2, .int .i64 x159001_2] 48 (0, 0)) (by (with_reducible repeat (first | refine blk_drewN ?_ _ | refine blk_drew ?_ | refine blk_alloc ?_ _)); exact BK158.out)) : gb158 ≠ gb161)); have n7_ := Aside0.mk ((by rw [hg]; exact Nat.ne_of_gt (blk_lt (g := gb158) (o := .cells #[.string x159000_2, .int .i64 x159001_2] 48 (0, 0)) (by (with_reducible repeat (first | refine blk_drewN ?_ _ | refine blk_drew ?_ | refine blk_alloc ?_ _)); exact BK158.out)) : gb161 ≠ gb158)); have n8_ := Aside0.mk ((by rw [hg]; exact Nat.ne_of_lt (IsS70.lt (show IsS70 w _ g157 x158000_2 x158001_2 from by repeat (first | (with_reducible first | exact HI157.out | apply IsS70.alloc | apply IsS70.drewN | apply IsS70.drew | apply IsS70.set_0 | apply IsS70.set_1 | refine IsS70.far ?_ NB157_158.out _) | exact HI157.out))) : g157 ≠ gb161)); have n9_ := Aside0.mk ((by rw [hg]; exact Nat.ne_of_gt (IsS70.lt (show IsS70 w _ g157 x158000_2 x158001_2 from by repeat (first | (with_reducible first | exact HI157.out | apply IsS70.alloc | apply IsS70.drewN | apply IsS70.drew | apply IsS70.set_0 | apply IsS70.set_1 | refine IsS70.far ?_ NB157_158.out _) | exact HI157.out))) : gb161 ≠ g157)); clear BK158; clear HI157; clear HB; have BK158 := n0_; have HI157 := n1_; have HB := n2_; have BK161 := n3_; have GW161 := n4_; have GE161 := n5_; have NB158_161 := n6_; have NB161_158 := n7_; have NB157_161 := n8_; have NB161_157 := n9_; clear n0_ n1_ n2_ n3_ n4_ n5_ n6_ n7_ n8_ n9_; clear hb hbox hg; have hnb24 := NB161_158.out; have hnc24 := NB158_161.out; have hnb25 := NB161_157.out; have hnc25 := NB157_161.out; have hcz26_0 : w23.cell? ⟨gb161, 0, none⟩ = some (.int .i64 0) := (blk_cell BK161.out 0).trans rfl; have hcz26_1 : w23.cell? ⟨gb161, 1, none⟩ = some (.int .i64 0) := (blk_cell BK161.out 1).trans rfl; have hcz26_2 : w23.cell? ⟨gb161, 2, none⟩ = some (.int .i64 0) := (blk_cell BK161.out 2).trans rfl; have hcz26_3 : w23.cell? ⟨gb161, 3, none⟩ = some (.string (⟨#[]⟩ : ByteArray)) := (blk_cell BK161.out 3).trans rfl; have hfz26_0 := blk_frozen BK161.out 0; have hfz26_1 := blk_frozen BK161.out 1; have hfz26_2 := blk_frozen BK161.out 2; have hfz26_3 := blk_frozen BK161.out 3; have hnb27 := NB158_157.out; have hnc27 := NB157_158.out; have hcz28_0 : w23.cell? ⟨gb158, 0, none⟩ = some (.string x159000_2) := (blk_cell BK158.out 0).trans rfl; have hcz28_1 : w23.cell? ⟨gb158, 1, none⟩ = some (.int .i64 x159001_2) := (blk_cell BK158.out 1).trans rfl; have hfz28_0 := blk_frozen BK158.out 0; have hfz28_1 := blk_frozen BK158.out 1) | ((with_reducible refine gate_dst (N := 11) rfl ?_); refine box_event ?hg (N := 11) ?hd (cs := #[.string (⟨#[]⟩ : ByteArray), .int .i64 0, .int .i64 0, .string (⟨#[]⟩ : ByteArray)]) (t := 50) ?hr ?_; (case hd => rfl); (case hg => rfl); (case hr => first | (go_simp; done) | (go_simp; rfl)); intro gb162 hg w29 hbox hb; have n0_ := Aside0.mk (blk_below (g := gb158) (o := .cells #[.string x159000_2, .int .i64 x159001_2] 48 (0, 0)) (by (with_reducible repeat (first | refine blk_drewN ?_ _ | refine blk_drew ?_ | refine blk_alloc ?_ _)); refine blk_far ?_ NB158_161.out _; (with_reducible repeat (first | refine blk_drewN ?_ _ | refine blk_drew ?_ | refine blk_alloc ?_ _)); refine blk_far ?_ NB158_161.out _; (with_reducible repeat (first | refine blk_drewN ?_ _ | refine blk_drew ?_ | refine blk_alloc ?_ _)); refine blk_far ?_ NB158_161.out _; (with_reducible repeat (first | refine blk_drewN ?_ _ | refine blk_drew ?_ | refine blk_alloc ?_ _)); refine blk_far ?_ NB158_161.out _; (with_reducible repeat (first | refine blk_drewN ?_ _ | refine blk_drew ?_ | refine blk_alloc ?_ _)); exact BK158.out) hb); have n1_ := Aside0.mk (IsS70.below (show IsS70 w ((((w23.setCell ⟨gb161, 0, none⟩ (.int .i64 ((rd_T37 l1 x7_2).f0))).setCell ⟨gb161, 1, none⟩ (.int .i64 ((rd_T37 l1 x7_2).f1))).setCell ⟨gb161, 2, none⟩ (.int .i64 ((rd_T37 l1 x7_2).f2))).setCell ⟨gb161, 3, none⟩ (.string ((rd_T37 l1 x7_2).f3))) g157 x158000_2 x158001_2 from by repeat (first | (with_reducible first | exact HI157.out | apply IsS70.alloc | apply IsS70.drewN | apply IsS70.drew | apply IsS70.set_0 | apply IsS70.set_1 | refine IsS70.far ?_ NB157_158.out _ | refine IsS70.far ?_ NB157_161.out _) | exact HI157.out)) hb); have n2_ := Aside0.mk (blk_below (g := gb161) (o := .cells #[.int .i64 ((rd_T37 l1 x7_2).f0), .int .i64 ((rd_T37 l1 x7_2).f1), .int .i64 ((rd_T37 l1 x7_2).f2), .string ((rd_T37 l1 x7_2).f3)] 37 (0, 0)) (by (with_reducible repeat (first | refine blk_drewN ?_ _ | refine blk_drew ?_ | refine blk_alloc ?_ _)); refine blk_put (cs := #[.int .i64 ((rd_T37 l1 x7_2).f0), .int .i64 ((rd_T37 l1 x7_2).f1), .int .i64 ((rd_T37 l1 x7_2).f2), .string (⟨#[]⟩ : ByteArray)]) ?_ 3 _ rfl; (with_reducible repeat (first | refine blk_drewN ?_ _ | refine blk_drew ?_ | refine blk_alloc ?_ _)); refine blk_put (cs := #[.int .i64 ((rd_T37 l1 x7_2).f0), .int .i64 ((rd_T37 l1 x7_2).f1), .int .i64 0, .string (⟨#[]⟩ : ByteArray)]) ?_ 2 _ rfl; (with_reducible repeat (first | refine blk_drewN ?_ _ | refine blk_drew ?_ | refine blk_alloc ?_ _)); refine blk_put (cs := #[.int .i64 ((rd_T37 l1 x7_2).f0), .int .i64 0, .int .i64 0, .string (⟨#[]⟩ : ByteArray)]) ?_ 1 _ rfl; (with_reducible repeat (first | refine blk_drewN ?_ _ | refine blk_drew ?_ | refine blk_alloc ?_ _)); refine blk_put (cs := #[.int .i64 0, .int .i64 0, .int .i64 0, .string (⟨#[]⟩ : ByteArray)]) ?_ 0 _ rfl; (with_reducible repeat (first | refine blk_drewN ?_ _ | refine blk_drew ?_ | refine blk_alloc ?_ _)); exact BK161.out) hb); have n3_ := Aside0.mk (below_step (by repeat (first | (with_reducible first | exact HB.out | apply below_alloc | apply pw_below_drewN | apply below_drew1 | refine below_set ?_ (IsS70.ge HI157.out) | refine below_set ?_ GE158.out | refine below_set ?_ GE161.out) | exact HB.out)) hb); have n4_ := Aside0.mk (hbox); have n5_ := Aside0.mk ((by rw [hg]; exact (below_size (by repeat (first | (with_reducible first | exact HB.out | apply below_alloc | apply pw_below_drewN | apply below_drew1 | refine below_set ?_ (IsS70.ge HI157.out) | refine below_set ?_ GE158.out | refine below_set ?_ GE161.out) | exact HB.out))) : w.heap.size ≤ gb162)); have n6_ := Aside0.mk ((by rw [hg]; exact (below_size (by repeat (first | (with_reducible first | exact HB.out | apply below_alloc | apply pw_below_drewN | apply below_drew1 | refine below_set ?_ (IsS70.ge HI157.out) | refine below_set ?_ GE158.out | refine below_set ?_ GE161.out) | exact HB.out))) : w.heap.size ≤ gb162)); have n7_ := Aside0.mk ((by rw [hg]; exact Nat.ne_of_lt (blk_lt (g := gb158) (o := .cells #[.string x159000_2, .int .i64 x159001_2] 48 (0, 0)) (by (with_reducible repeat (first | refine blk_drewN ?_ _ | refine blk_drew ?_ | refine blk_alloc ?_ _)); refine blk_far ?_ NB158_161.out _; (with_reducible repeat (first | refine blk_drewN ?_ _ | refine blk_drew ?_ | refine blk_alloc ?_ _)); refine blk_far ?_ NB158_161.out _; (with_reducible repeat (first | refine blk_drewN ?_ _ | refine blk_drew ?_ | refine blk_alloc ?_ _)); refine blk_far ?_ NB158_161.out _; (with_reducible repeat (first | refine blk_drewN ?_ _ | refine blk_drew ?_ | refine blk_alloc ?_ _)); refine blk_far ?_ NB158_161.out _; (with_reducible repeat (first | refine blk_drewN ?_ _ | refine blk_drew ?_ | refine blk_alloc ?_ _)); exact BK158.out)) : gb158 ≠ gb162)); have n8_ := Aside0.mk ((by rw [hg]; exact Nat.ne_of_gt (blk_lt (g := gb158) (o := .cells #[.string x159000_2, .int .i64 x159001_2] 48 (0, 0)) (by (with_reducible repeat (first | refine blk_drewN ?_ _ | refine blk_drew ?_ | refine blk_alloc ?_ _)); refine blk_far ?_ NB158_161.out _; (with_reducible repeat (first | refine blk_drewN ?_ _ | refine blk_drew ?_ | refine blk_alloc ?_ _)); refine blk_far ?_ NB158_161.out _; (with_reducible repeat (first | refine blk_drewN ?_ _ | refine blk_drew ?_ | refine blk_alloc ?_ _)); refine blk_far ?_ NB158_161.out _; (with_reducible repeat (first | refine blk_drewN ?_ _ | refine blk_drew ?_ | refine blk_alloc ?_ _)); refine blk_far ?_ NB158_161.out _; (with_reducible repeat (first | refine blk_drewN ?_ _ | refine blk_drew ?_ | refine blk_alloc ?_ _)); exact BK158.out)) : gb162 ≠ gb158)); have n9_ := Aside0.mk ((by rw [hg]; exact Nat.ne_of_lt (blk_lt (g := gb161) (o := .cells #[.int .i64 ((rd_T37 l1 x7_2).f0), .int .i64 ((rd_T37 l1 x7_2).f1), .int .i64 ((rd_T37 l1 x7_2).f2), .string ((rd_T37 l1 x7_2).f3)] 37 (0, 0)) (by (with_reducible repeat (first | refine blk_drewN ?_ _ | refine blk_drew ?_ | refine blk_alloc ?_ _)); refine blk_put (cs := #[.int .i64 ((rd_T37 l1 x7_2).f0), .int .i64 ((rd_T37 l1 x7_2).f1), .int .i64 ((rd_T37 l1 x7_2).f2), .string (⟨#[]⟩ : ByteArray)]) ?_ 3 _ rfl; (with_reducible repeat (first | refine blk_drewN ?_ _ | refine blk_drew ?_ | refine blk_alloc ?_ _)); refine blk_put (cs := #[.int .i64 ((rd_T37 l1 x7_2).f0), .int .i64 ((rd_T37 l1 x7_2).f1), .int .i64 0, .string (⟨#[]⟩ : ByteArray)]) ?_ 2 _ rfl; (with_reducible repeat (first | refine blk_drewN ?_ _ | refine blk_drew ?_ | refine blk_alloc ?_ _)); refine blk_put (cs := #[.int .i64 ((rd_T37 l1 x7_2).f0), .int .i64 0, .int .i64 0, .string (⟨#[]⟩ : ByteArray)]) ?_ 1 _ rfl; (with_reducible repeat (first | refine blk_drewN ?_ _ | refine blk_drew ?_ | refine blk_alloc ?_ _)); refine blk_put (cs := #[.int .i64 0, .int .i64 0, .int .i64 0, .string (⟨#[]⟩ : ByteArray)]) ?_ 0 _ rfl; (with_reducible repeat (first | refine blk_drewN ?_ _ | refine blk_drew ?_ | refine blk_alloc ?_ _)); exact BK161.out)) : gb161 ≠ gb162)); have n10_ := Aside0.mk ((by rw [hg]; exact Nat.ne_of_gt (blk_lt (g := gb161) (o := .cells #[.int .i64 ((rd_T37 l1 x7_2).f0), .int .i64 ((rd_T37 l1 x7_2).f1), .int .i64 ((rd_T37 l1 x7_2).f2), .string ((rd_T37 l1 x7_2).f3)] 37 (0, 0)) (by (with_reducible repeat (first | refine blk_drewN ?_ _ | refine blk_drew ?_ | refine blk_alloc ?_ _)); refine blk_put (cs := #[.int .i64 ((rd_T37 l1 x7_2).f0), .int .i64 ((rd_T37 l1 x7_2).f1), .int .i64 ((rd_T37 l1 x7_2).f2), .string (⟨#[]⟩ : ByteArray)]) ?_ 3 _ rfl; (with_reducible repeat (first | refine blk_drewN ?_ _ | refine blk_drew ?_ | refine blk_alloc ?_ _)); refine blk_put (cs := #[.int .i64 ((rd_T37 l1 x7_2).f0), .int .i64 ((rd_T37 l1 x7_2).f1), .int .i64 0, .string (⟨#[]⟩ : ByteArray)]) ?_ 2 _ rfl; (with_reducible repeat (first | refine blk_drewN ?_ _ | refine blk_drew ?_ | refine blk_alloc ?_ _)); refine blk_put (cs := #[.int .i64 ((rd_T37 l1 x7_2).f0), .int .i64 0, .int .i64 0, .string (⟨#[]⟩ : ByteArray)]) ?_ 1 _ rfl; (with_reducible repeat (first | refine blk_drewN ?_ _ | refine blk_drew ?_ | refine blk_alloc ?_ _)); refine blk_put (cs := #[.int .i64 0, .int .i64 0, .int .i64 0, .string (⟨#[]⟩ : ByteArray)]) ?_ 0 _ rfl; (with_reducible repeat (first | refine blk_drewN ?_ _ | refine blk_drew ?_ | refine blk_alloc ?_ _)); exact BK161.out)) : gb162 ≠ gb161)); have n11_ := Aside0.mk ((by rw [hg]; exact Nat.ne_of_lt (IsS70.lt (show IsS70 w _ g157 x158000_2 x158001_2 from by repeat (first | (with_reducible first | exact HI157.out | apply IsS70.alloc | apply IsS70.drewN | apply IsS70.drew | apply IsS70.set_0 | apply IsS70.set_1 | refine IsS70.far ?_ NB157_158.out _ | refine IsS70.far ?_ NB157_161.out _) | exact HI157.out))) : g157 ≠ gb162)); have n12_ := Aside0.mk ((by rw [hg]; exact Nat.ne_of_gt (IsS70.lt (show IsS70 w _ g157 x158000_2 x158001_2 from by repeat (first | (with_reducible first | exact HI157.out | apply IsS70.alloc | apply IsS70.drewN | apply IsS70.drew | apply IsS70.set_0 | apply IsS70.set_1 | refine IsS70.far ?_ NB157_158.out _ | refine IsS70.far ?_ NB157_161.out _) | exact HI157.out))) : gb162 ≠ g157)); clear BK158; clear HI157; clear BK161; clear HB; have BK158 := n0_; have HI157 := n1_; have BK161 := n2_; have HB := n3_; have BK162 := n4_; have GW162 := n5_; have GE162 := n6_; have NB158_162 := n7_; have NB162_158 := n8_; have NB161_162 := n9_; have NB162_161 := n10_; have NB157_162 := n11_; have NB162_157 := n12_; clear n0_ n1_ n2_ n3_ n4_ n5_ n6_ n7_ n8_ n9_ n10_ n11_ n12_; clear hb hbox hg; have hnb30 := NB162_158.out; have hnc30 := NB158_162.out; have hnb31 := NB162_161.out; have hnc31 := NB161_162.out; have hnb32 := NB162_157.out; have hnc32 := NB157_162.out; have hcz33_0 : w29.cell? ⟨gb162, 0, none⟩ = some (.string (⟨#[]⟩ : ByteArray)) := (blk_cell BK162.out 0).trans rfl; have hcz33_1 : w29.cell? ⟨gb162, 1, none⟩ = some (.int .i64 0) := (blk_cell BK162.out 1).trans rfl; have hcz33_2 : w29.cell? ⟨gb162, 2, none⟩ = some (.int .i64 0) := (blk_cell BK162.out 2).trans rfl; have hcz33_3 : w29.cell? ⟨gb162, 3, none⟩ = some (.string (⟨#[]⟩ : ByteArray)) := (blk_cell BK162.out 3).trans rfl; have hfz33_0 := blk_frozen BK162.out 0; have hfz33_1 := blk_frozen BK162.out 1; have hfz33_2 := blk_frozen BK162.out 2; have hfz33_3 := blk_frozen BK162.out 3; have hcz34_0 : w29.cell? ⟨gb161, 0, none⟩ = some (.int .i64 ((rd_T37 l1 x7_2).f0)) := (blk_cell BK161.out 0).trans rfl; have hcz34_1 : w29.cell? ⟨gb161, 1, none⟩ = some (.int .i64 ((rd_T37 l1 x7_2).f1)) := (blk_cell BK161.out 1).trans rfl; have hcz34_2 : w29.cell? ⟨gb161, 2, none⟩ = some (.int .i64 ((rd_T37 l1 x7_2).f2)) := (blk_cell BK161.out 2).trans rfl; have hcz34_3 : w29.cell? ⟨gb161, 3, none⟩ = some (.string ((rd_T37 l1 x7_2).f3)) := (blk_cell BK161.out 3).trans rfl; have hfz34_0 := blk_frozen BK161.out 0; have hfz34_1 := blk_frozen BK161.out 1; have hfz34_2 := blk_frozen BK161.out 2; have hfz34_3 := blk_frozen BK161.out 3))
            (try simp only [Act.put, List.setIfInBounds_toArray, List.set_cons_zero, List.set_cons_succ])
            go_cut [9, 10] (fun v9 v10 wc => ∃ (kq : Nat) (x9_21 : Int) (x10_21 : ByteArray) (x158000_21 : ByteArray) (x158001_21 : Int) (x163000_21 : ByteArray) (x163001_21 : Int) (x163002_21 : Int) (x163003_21 : ByteArray), v9 = .int .i64 x9_21 ∧ v10 = .string x10_21 ∧ Aside0 (mosaiclaw02_OctReads.j3 kq l1 x7_2 x9_21 x10_21 x158000_21 x158001_21 x163000_21 x163001_21 x163002_21 x163003_21 = some r) ∧ Aside0 (kq ≤ kj16) ∧ Aside0 (wc.heap[gb158]? = some (.cells #[.string x159000_2, .int .i64 x159001_2] 48 (0, 0))) ∧ Aside0 (wc.heap[gb161]? = some (.cells #[.int .i64 ((rd_T37 l1 x7_2).f0), .int .i64 ((rd_T37 l1 x7_2).f1), .int .i64 ((rd_T37 l1 x7_2).f2), .string ((rd_T37 l1 x7_2).f3)] 37 (0, 0))) ∧ Aside0 (wc.heap[gb162]? = some (.cells #[.string x163000_21, .int .i64 x163001_21, .int .i64 x163002_21, .string x163003_21] 50 (0, 0))) ∧ Aside0 (IsS70 w wc g157 x158000_21 x158001_21) ∧ Aside0 (Below w.heap.size w wc))
            case first =>
             have H := HC22.out; clear HC22; by_cases c35 : ((rd_T37 l1 x7_2).f0) = 0
             ·
              rw [if_pos c35] at H
              have c35b0 : (((rd_T37 l1 x7_2).f0) == 0) = true := beq_iff_eq.mpr c35
              have c35b1 : (((rd_T37 l1 x7_2).f0) != 0) = false := bne_eq_false_iff_eq.mpr c35
              clear c35; (first | rw [c35b0] | (simp only [i64_w, i32_w]; rw [c35b0]) | skip)
              replace H := Option.bind_eq_some_iff.mp H
              obtain ⟨⟨t163, t164, t165⟩, A360, H⟩ := H
              replace H : ((mosaicref02_Reader_Num.f kj16 x159000_2 x159001_2 ((rd_T37 l1 x7_2).f2)).bind fun bt166 => (mosaiclaw02_OctReads.j3 kj16 l1 x7_2 t163 (⟨#[]⟩ : ByteArray) t164 t165 bt166.1 bt166.2.1 bt166.2.2.1 bt166.2.2.2)) = some r := H
              have A36 := Aside0.mk A360
              clear A360; replace H := Option.bind_eq_some_iff.mp H
              obtain ⟨⟨t166, t167, t168, t169⟩, A370, H⟩ := H
              replace H : (mosaiclaw02_OctReads.j3 kj16 l1 x7_2 t163 (⟨#[]⟩ : ByteArray) t164 t165 t166 t167 t168 t169) = some r := H
              have A37 := Aside0.mk A370
              clear A370; have H' := Aside0.mk H
              clear H; have hnb38 := NB161_158.out; have hnc38 := NB158_161.out; have hnb39 := NB161_162.out; have hnc39 := NB162_161.out; have hnb40 := NB161_157.out; have hnc40 := NB157_161.out; have hcz41_0 : w29.cell? ⟨gb161, 0, none⟩ = some (.int .i64 ((rd_T37 l1 x7_2).f0)) := (blk_cell BK161.out 0).trans rfl
              have hcz41_1 : w29.cell? ⟨gb161, 1, none⟩ = some (.int .i64 ((rd_T37 l1 x7_2).f1)) := (blk_cell BK161.out 1).trans rfl
              have hcz41_2 : w29.cell? ⟨gb161, 2, none⟩ = some (.int .i64 ((rd_T37 l1 x7_2).f2)) := (blk_cell BK161.out 2).trans rfl
              have hcz41_3 : w29.cell? ⟨gb161, 3, none⟩ = some (.string ((rd_T37 l1 x7_2).f3)) := (blk_cell BK161.out 3).trans rfl
              have hfz41_0 := blk_frozen BK161.out 0; have hfz41_1 := blk_frozen BK161.out 1; have hfz41_2 := blk_frozen BK161.out 2; have hfz41_3 := blk_frozen BK161.out 3; go_wp2_with (first | ((with_reducible refine gate_callee (f := 24) rfl ?_); refine goesL_ (some 49) rfl rfl Try.func24 (by kernel_rfl) rfl #[.pointer (some ⟨g157, 0, none⟩), .int .i64 ((rd_T37 l1 x7_2).f2)] rfl (by (try simp only [List.map_toArray, List.map_cons, List.map_nil]); first | done | rfl | (simp only [List.length_drop, List.length_take]; rfl)) ?_; (with_reducible refine (oct_Reader_Num.calls kj16 g157 x158000_2 x158001_2 ((rd_T37 l1 x7_2).f2) t163 t164 t165 w _ ?side1 ?side2 A36.out).mono ?_); (case side1 => repeat (first | (with_reducible first | exact HI157.out | apply IsS70.alloc | apply IsS70.drewN | apply IsS70.drew | apply IsS70.set_0 | apply IsS70.set_1 | refine IsS70.far ?_ NB157_158.out _ | refine IsS70.far ?_ NB157_161.out _ | refine IsS70.far ?_ NB157_162.out _) | exact HI157.out)); (case side2 => repeat (first | (with_reducible first | exact HB.out | apply below_alloc | apply pw_below_drewN | apply below_drew1 | refine below_set ?_ (IsS70.ge HI157.out) | refine below_set ?_ GE158.out | refine below_set ?_ GE161.out | refine below_set ?_ GE162.out) | exact HB.out)); rintro e w42 ⟨rfl, hi, hb, hk⟩; refine ⟨_, rfl, ?_⟩; have n0_ := Aside0.mk (KeepBut.blk hk (g' := gb158) (o := .cells #[.string x159000_2, .int .i64 x159001_2] 48 (0, 0)) (by (with_reducible repeat (first | refine blk_drewN ?_ _ | refine blk_drew ?_ | refine blk_alloc ?_ _)); refine blk_far ?_ NB158_162.out _; (with_reducible repeat (first | refine blk_drewN ?_ _ | refine blk_drew ?_ | refine blk_alloc ?_ _)); refine blk_far ?_ NB158_162.out _; (with_reducible repeat (first | refine blk_drewN ?_ _ | refine blk_drew ?_ | refine blk_alloc ?_ _)); refine blk_far ?_ NB158_162.out _; (with_reducible repeat (first | refine blk_drewN ?_ _ | refine blk_drew ?_ | refine blk_alloc ?_ _)); refine blk_far ?_ NB158_162.out _; (with_reducible repeat (first | refine blk_drewN ?_ _ | refine blk_drew ?_ | refine blk_alloc ?_ _)); exact BK158.out) NB158_157.out (by simp)); have n1_ := Aside0.mk (KeepBut.blk hk (g' := gb161) (o := .cells #[.int .i64 ((rd_T37 l1 x7_2).f0), .int .i64 ((rd_T37 l1 x7_2).f1), .int .i64 ((rd_T37 l1 x7_2).f2), .string ((rd_T37 l1 x7_2).f3)] 37 (0, 0)) (by (with_reducible repeat (first | refine blk_drewN ?_ _ | refine blk_drew ?_ | refine blk_alloc ?_ _)); refine blk_far ?_ NB161_162.out _; (with_reducible repeat (first | refine blk_drewN ?_ _ | refine blk_drew ?_ | refine blk_alloc ?_ _)); refine blk_far ?_ NB161_162.out _; (with_reducible repeat (first | refine blk_drewN ?_ _ | refine blk_drew ?_ | refine blk_alloc ?_ _)); refine blk_far ?_ NB161_162.out _; (with_reducible repeat (first | refine blk_drewN ?_ _ | refine blk_drew ?_ | refine blk_alloc ?_ _)); refine blk_far ?_ NB161_162.out _; (with_reducible repeat (first | refine blk_drewN ?_ _ | refine blk_drew ?_ | refine blk_alloc ?_ _)); exact BK161.out) NB161_157.out (by simp)); have n2_ := Aside0.mk (KeepBut.blk hk (g' := gb162) (o := .cells #[.string x159000_2, .int .i64 x159001_2, .int .i64 0, .string (⟨#[]⟩ : ByteArray)] 50 (0, 0)) (by (with_reducible repeat (first | refine blk_drewN ?_ _ | refine blk_drew ?_ | refine blk_alloc ?_ _)); refine blk_put (cs := #[.string x159000_2, .int .i64 x159001_2, .int .i64 0, .string (⟨#[]⟩ : ByteArray)]) ?_ 3 _ rfl; (with_reducible repeat (first | refine blk_drewN ?_ _ | refine blk_drew ?_ | refine blk_alloc ?_ _)); refine blk_put (cs := #[.string x159000_2, .int .i64 x159001_2, .int .i64 0, .string (⟨#[]⟩ : ByteArray)]) ?_ 2 _ rfl; (with_reducible repeat (first | refine blk_drewN ?_ _ | refine blk_drew ?_ | refine blk_alloc ?_ _)); refine blk_put (cs := #[.string x159000_2, .int .i64 0, .int .i64 0, .string (⟨#[]⟩ : ByteArray)]) ?_ 1 _ rfl; (with_reducible repeat (first | refine blk_drewN ?_ _ | refine blk_drew ?_ | refine blk_alloc ?_ _)); refine blk_put (cs := #[.string (⟨#[]⟩ : ByteArray), .int .i64 0, .int .i64 0, .string (⟨#[]⟩ : ByteArray)]) ?_ 0 _ rfl; (with_reducible repeat (first | refine blk_drewN ?_ _ | refine blk_drew ?_ | refine blk_alloc ?_ _)); exact BK162.out) NB162_157.out (by simp)); have n3_ := Aside0.mk (hb); have n4_ := Aside0.mk (hi); clear BK158; clear BK161; clear BK162; clear HB; clear HI157; have BK158 := n0_; have BK161 := n1_; have BK162 := n2_; have HB := n3_; have HI157 := n4_; clear n0_ n1_ n2_ n3_ n4_; (try clear hb); (try clear hb2); (try clear hk); (try clear hi); have hnb43 := NB158_162.out; have hnc43 := NB162_158.out; have hnb44 := NB158_157.out; have hnc44 := NB157_158.out; have hcz45_0 : w42.cell? ⟨gb158, 0, none⟩ = some (.string x159000_2) := (blk_cell BK158.out 0).trans rfl; have hcz45_1 : w42.cell? ⟨gb158, 1, none⟩ = some (.int .i64 x159001_2) := (blk_cell BK158.out 1).trans rfl; have hfz45_0 := blk_frozen BK158.out 0; have hfz45_1 := blk_frozen BK158.out 1; have hcz46_0 : w42.cell? ⟨gb161, 0, none⟩ = some (.int .i64 ((rd_T37 l1 x7_2).f0)) := (blk_cell BK161.out 0).trans rfl; have hcz46_1 : w42.cell? ⟨gb161, 1, none⟩ = some (.int .i64 ((rd_T37 l1 x7_2).f1)) := (blk_cell BK161.out 1).trans rfl; have hcz46_2 : w42.cell? ⟨gb161, 2, none⟩ = some (.int .i64 ((rd_T37 l1 x7_2).f2)) := (blk_cell BK161.out 2).trans rfl; have hcz46_3 : w42.cell? ⟨gb161, 3, none⟩ = some (.string ((rd_T37 l1 x7_2).f3)) := (blk_cell BK161.out 3).trans rfl; have hfz46_0 := blk_frozen BK161.out 0; have hfz46_1 := blk_frozen BK161.out 1; have hfz46_2 := blk_frozen BK161.out 2; have hfz46_3 := blk_frozen BK161.out 3) | ((with_reducible refine gate_callee (f := 25) rfl ?_); refine goesL_ (some 53) rfl rfl Try.func25 (by kernel_rfl) rfl #[.agg #[.string x159000_2, .int .i64 x159001_2], .int .i64 ((rd_T37 l1 x7_2).f2)] rfl (by (try simp only [List.map_toArray, List.map_cons, List.map_nil]); first | done | rfl | (simp only [List.length_drop, List.length_take]; rfl)) ?_; (with_reducible refine (mosaicref02_Reader_Num.calls kj16 x159000_2 x159001_2 ((rd_T37 l1 x7_2).f2) t166 t167 t168 t169 _ A37.out).mono ?_); rintro e w47 ⟨rfl, hb⟩; refine ⟨_, rfl, ?_⟩; have n0_ := Aside0.mk (blk_below (g := gb158) (o := .cells #[.string x159000_2, .int .i64 x159001_2] 48 (0, 0)) (by (with_reducible repeat (first | refine blk_drewN ?_ _ | refine blk_drew ?_ | refine blk_alloc ?_ _)); exact BK158.out) hb); have n1_ := Aside0.mk (IsS70.below (by repeat (first | (with_reducible first | exact HI157.out | apply IsS70.alloc | apply IsS70.drewN | apply IsS70.drew | apply IsS70.set_0 | apply IsS70.set_1 | refine IsS70.far ?_ NB157_158.out _ | refine IsS70.far ?_ NB157_161.out _ | refine IsS70.far ?_ NB157_162.out _) | exact HI157.out)) hb); have n2_ := Aside0.mk (blk_below (g := gb161) (o := .cells #[.int .i64 ((rd_T37 l1 x7_2).f0), .int .i64 ((rd_T37 l1 x7_2).f1), .int .i64 ((rd_T37 l1 x7_2).f2), .string ((rd_T37 l1 x7_2).f3)] 37 (0, 0)) (by (with_reducible repeat (first | refine blk_drewN ?_ _ | refine blk_drew ?_ | refine blk_alloc ?_ _)); exact BK161.out) hb); have n3_ := Aside0.mk (blk_below (g := gb162) (o := .cells #[.string x159000_2, .int .i64 x159001_2, .int .i64 0, .string (⟨#[]⟩ : ByteArray)] 50 (0, 0)) (by (with_reducible repeat (first | refine blk_drewN ?_ _ | refine blk_drew ?_ | refine blk_alloc ?_ _)); exact BK162.out) hb); have n4_ := Aside0.mk (below_step (by repeat (first | (with_reducible first | exact HB.out | apply below_alloc | apply pw_below_drewN | apply below_drew1 | refine below_set ?_ (IsS70.ge HI157.out) | refine below_set ?_ GE158.out | refine below_set ?_ GE161.out | refine below_set ?_ GE162.out) | exact HB.out)) hb); clear BK158; clear HI157; clear BK161; clear BK162; clear HB; have BK158 := n0_; have HI157 := n1_; have BK161 := n2_; have BK162 := n3_; have HB := n4_; clear n0_ n1_ n2_ n3_ n4_; (try clear hb); (try clear hb2); (try clear hk); (try clear hi); have hnb48 := NB162_157.out; have hnc48 := NB157_162.out; have hcz49_0 : w47.cell? ⟨gb162, 0, none⟩ = some (.string x159000_2) := (blk_cell BK162.out 0).trans rfl; have hcz49_1 : w47.cell? ⟨gb162, 1, none⟩ = some (.int .i64 x159001_2) := (blk_cell BK162.out 1).trans rfl; have hcz49_2 : w47.cell? ⟨gb162, 2, none⟩ = some (.int .i64 0) := (blk_cell BK162.out 2).trans rfl; have hcz49_3 : w47.cell? ⟨gb162, 3, none⟩ = some (.string (⟨#[]⟩ : ByteArray)) := (blk_cell BK162.out 3).trans rfl; have hfz49_0 := blk_frozen BK162.out 0; have hfz49_1 := blk_frozen BK162.out 1; have hfz49_2 := blk_frozen BK162.out 2; have hfz49_3 := blk_frozen BK162.out 3))
              go_meet
              case rel => exact ⟨_, (t163), ((⟨#[]⟩ : ByteArray)), (t164), (t165), (t166), (t167), (t168), (t169), (by first | rfl | (simp; done) | (simp [*]; done)), (by first | rfl | (simp; done) | (simp [*]; done)), H', ⟨by have := HJ6.out; have := HK2.out; have := HJ16.out; first | omega | exact Nat.le_refl _⟩, ⟨by (with_reducible repeat (first | refine blk_drewN ?_ _ | refine blk_drew ?_ | refine blk_alloc ?_ _)); refine blk_far ?_ NB158_162.out _; (with_reducible repeat (first | refine blk_drewN ?_ _ | refine blk_drew ?_ | refine blk_alloc ?_ _)); refine blk_far ?_ NB158_162.out _; (with_reducible repeat (first | refine blk_drewN ?_ _ | refine blk_drew ?_ | refine blk_alloc ?_ _)); refine blk_far ?_ NB158_162.out _; (with_reducible repeat (first | refine blk_drewN ?_ _ | refine blk_drew ?_ | refine blk_alloc ?_ _)); refine blk_far ?_ NB158_162.out _; (with_reducible repeat (first | refine blk_drewN ?_ _ | refine blk_drew ?_ | refine blk_alloc ?_ _)); exact BK158.out⟩, ⟨by (with_reducible repeat (first | refine blk_drewN ?_ _ | refine blk_drew ?_ | refine blk_alloc ?_ _)); refine blk_far ?_ NB161_162.out _; (with_reducible repeat (first | refine blk_drewN ?_ _ | refine blk_drew ?_ | refine blk_alloc ?_ _)); refine blk_far ?_ NB161_162.out _; (with_reducible repeat (first | refine blk_drewN ?_ _ | refine blk_drew ?_ | refine blk_alloc ?_ _)); refine blk_far ?_ NB161_162.out _; (with_reducible repeat (first | refine blk_drewN ?_ _ | refine blk_drew ?_ | refine blk_alloc ?_ _)); refine blk_far ?_ NB161_162.out _; (with_reducible repeat (first | refine blk_drewN ?_ _ | refine blk_drew ?_ | refine blk_alloc ?_ _)); exact BK161.out⟩, ⟨by (with_reducible repeat (first | refine blk_drewN ?_ _ | refine blk_drew ?_ | refine blk_alloc ?_ _)); refine blk_put (cs := #[.string t166, .int .i64 t167, .int .i64 t168, .string (⟨#[]⟩ : ByteArray)]) ?_ 3 _ rfl; (with_reducible repeat (first | refine blk_drewN ?_ _ | refine blk_drew ?_ | refine blk_alloc ?_ _)); refine blk_put (cs := #[.string t166, .int .i64 t167, .int .i64 0, .string (⟨#[]⟩ : ByteArray)]) ?_ 2 _ rfl; (with_reducible repeat (first | refine blk_drewN ?_ _ | refine blk_drew ?_ | refine blk_alloc ?_ _)); refine blk_put (cs := #[.string t166, .int .i64 x159001_2, .int .i64 0, .string (⟨#[]⟩ : ByteArray)]) ?_ 1 _ rfl; (with_reducible repeat (first | refine blk_drewN ?_ _ | refine blk_drew ?_ | refine blk_alloc ?_ _)); refine blk_put (cs := #[.string x159000_2, .int .i64 x159001_2, .int .i64 0, .string (⟨#[]⟩ : ByteArray)]) ?_ 0 _ rfl; (with_reducible repeat (first | refine blk_drewN ?_ _ | refine blk_drew ?_ | refine blk_alloc ?_ _)); exact BK162.out⟩, ⟨by repeat (first | (with_reducible first | exact HI157.out | apply IsS70.alloc | apply IsS70.drewN | apply IsS70.drew | apply IsS70.set_0 | apply IsS70.set_1 | refine IsS70.far ?_ NB157_158.out _ | refine IsS70.far ?_ NB157_161.out _ | refine IsS70.far ?_ NB157_162.out _) | exact HI157.out)⟩, ⟨by repeat (first | (with_reducible first | exact HB.out | apply below_alloc | apply pw_below_drewN | apply below_drew1 | refine below_set ?_ (IsS70.ge HI157.out) | refine below_set ?_ GE158.out | refine below_set ?_ GE161.out | refine below_set ?_ GE162.out) | exact HB.out)⟩⟩
             ·
              rw [if_neg c35] at H
              have c35b0 : (((rd_T37 l1 x7_2).f0) == 0) = false := beq_eq_false_iff_ne.mpr c35
              have c35b1 : (((rd_T37 l1 x7_2).f0) != 0) = true := bne_iff_ne.mpr c35
              (first | rw [c35b0] | (simp only [i64_w, i32_w]; rw [c35b0]) | skip)
              by_cases c50 : ((rd_T37 l1 x7_2).f0) = 1
              ·
               rw [if_pos c50] at H
               have c50b0 : (((rd_T37 l1 x7_2).f0) == 1) = true := beq_iff_eq.mpr c50
               have c50b1 : (((rd_T37 l1 x7_2).f0) != 1) = false := bne_eq_false_iff_eq.mpr c50
               clear c50; replace H := Option.bind_eq_some_iff.mp H
               obtain ⟨⟨t170, t171, t172⟩, A510, H⟩ := H
               replace H : ((mosaicref02_Reader_Text.f kj16 x159000_2 x159001_2).bind fun bt173 => (mosaiclaw02_OctReads.j3 kj16 l1 x7_2 0 t170 t171 t172 bt173.1 bt173.2.1 bt173.2.2.1 bt173.2.2.2)) = some r := H
               have A51 := Aside0.mk A510
               clear A510; replace H := Option.bind_eq_some_iff.mp H
               obtain ⟨⟨t173, t174, t175, t176⟩, A520, H⟩ := H
               replace H : (mosaiclaw02_OctReads.j3 kj16 l1 x7_2 0 t170 t171 t172 t173 t174 t175 t176) = some r := H
               have A52 := Aside0.mk A520
               clear A520; have H' := Aside0.mk H
               clear H; go_wp2_with (first | ((with_reducible refine gate_callee (f := 26) rfl ?_); refine goesL_ (some 57) rfl rfl Try.func26 (by kernel_rfl) rfl #[.pointer (some ⟨g157, 0, none⟩)] rfl (by (try simp only [List.map_toArray, List.map_cons, List.map_nil]); first | done | rfl | (simp only [List.length_drop, List.length_take]; rfl)) ?_; (with_reducible refine (oct_Reader_Text.calls g157 x158000_2 x158001_2 t170 t171 t172 w _ ?side1 ?side2 A51.out).mono ?_); (case side1 => repeat (first | (with_reducible first | exact HI157.out | apply IsS70.alloc | apply IsS70.drewN | apply IsS70.drew | apply IsS70.set_0 | apply IsS70.set_1 | refine IsS70.far ?_ NB157_158.out _ | refine IsS70.far ?_ NB157_161.out _ | refine IsS70.far ?_ NB157_162.out _) | exact HI157.out)); (case side2 => repeat (first | (with_reducible first | exact HB.out | apply below_alloc | apply pw_below_drewN | apply below_drew1 | refine below_set ?_ (IsS70.ge HI157.out) | refine below_set ?_ GE158.out | refine below_set ?_ GE161.out | refine below_set ?_ GE162.out) | exact HB.out)); rintro e w53 ⟨rfl, hi, hb, hk⟩; refine ⟨_, rfl, ?_⟩; have n0_ := Aside0.mk (KeepBut.blk hk (g' := gb158) (o := .cells #[.string x159000_2, .int .i64 x159001_2] 48 (0, 0)) (by (with_reducible repeat (first | refine blk_drewN ?_ _ | refine blk_drew ?_ | refine blk_alloc ?_ _)); refine blk_far ?_ NB158_162.out _; (with_reducible repeat (first | refine blk_drewN ?_ _ | refine blk_drew ?_ | refine blk_alloc ?_ _)); refine blk_far ?_ NB158_162.out _; (with_reducible repeat (first | refine blk_drewN ?_ _ | refine blk_drew ?_ | refine blk_alloc ?_ _)); refine blk_far ?_ NB158_162.out _; (with_reducible repeat (first | refine blk_drewN ?_ _ | refine blk_drew ?_ | refine blk_alloc ?_ _)); refine blk_far ?_ NB158_162.out _; (with_reducible repeat (first | refine blk_drewN ?_ _ | refine blk_drew ?_ | refine blk_alloc ?_ _)); exact BK158.out) NB158_157.out (by simp)); have n1_ := Aside0.mk (KeepBut.blk hk (g' := gb161) (o := .cells #[.int .i64 ((rd_T37 l1 x7_2).f0), .int .i64 ((rd_T37 l1 x7_2).f1), .int .i64 ((rd_T37 l1 x7_2).f2), .string ((rd_T37 l1 x7_2).f3)] 37 (0, 0)) (by (with_reducible repeat (first | refine blk_drewN ?_ _ | refine blk_drew ?_ | refine blk_alloc ?_ _)); refine blk_far ?_ NB161_162.out _; (with_reducible repeat (first | refine blk_drewN ?_ _ | refine blk_drew ?_ | refine blk_alloc ?_ _)); refine blk_far ?_ NB161_162.out _; (with_reducible repeat (first | refine blk_drewN ?_ _ | refine blk_drew ?_ | refine blk_alloc ?_ _)); refine blk_far ?_ NB161_162.out _; (with_reducible repeat (first | refine blk_drewN ?_ _ | refine blk_drew ?_ | refine blk_alloc ?_ _)); refine blk_far ?_ NB161_162.out _; (with_reducible repeat (first | refine blk_drewN ?_ _ | refine blk_drew ?_ | refine blk_alloc ?_ _)); exact BK161.out) NB161_157.out (by simp)); have n2_ := Aside0.mk (KeepBut.blk hk (g' := gb162) (o := .cells #[.string x159000_2, .int .i64 x159001_2, .int .i64 0, .string (⟨#[]⟩ : ByteArray)] 50 (0, 0)) (by (with_reducible repeat (first | refine blk_drewN ?_ _ | refine blk_drew ?_ | refine blk_alloc ?_ _)); refine blk_put (cs := #[.string x159000_2, .int .i64 x159001_2, .int .i64 0, .string (⟨#[]⟩ : ByteArray)]) ?_ 3 _ rfl; (with_reducible repeat (first | refine blk_drewN ?_ _ | refine blk_drew ?_ | refine blk_alloc ?_ _)); refine blk_put (cs := #[.string x159000_2, .int .i64 x159001_2, .int .i64 0, .string (⟨#[]⟩ : ByteArray)]) ?_ 2 _ rfl; (with_reducible repeat (first | refine blk_drewN ?_ _ | refine blk_drew ?_ | refine blk_alloc ?_ _)); refine blk_put (cs := #[.string x159000_2, .int .i64 0, .int .i64 0, .string (⟨#[]⟩ : ByteArray)]) ?_ 1 _ rfl; (with_reducible repeat (first | refine blk_drewN ?_ _ | refine blk_drew ?_ | refine blk_alloc ?_ _)); refine blk_put (cs := #[.string (⟨#[]⟩ : ByteArray), .int .i64 0, .int .i64 0, .string (⟨#[]⟩ : ByteArray)]) ?_ 0 _ rfl; (with_reducible repeat (first | refine blk_drewN ?_ _ | refine blk_drew ?_ | refine blk_alloc ?_ _)); exact BK162.out) NB162_157.out (by simp)); have n3_ := Aside0.mk (hb); have n4_ := Aside0.mk (hi); clear BK158; clear BK161; clear BK162; clear HB; clear HI157; have BK158 := n0_; have BK161 := n1_; have BK162 := n2_; have HB := n3_; have HI157 := n4_; clear n0_ n1_ n2_ n3_ n4_; (try clear hb); (try clear hb2); (try clear hk); (try clear hi); have hnb54 := NB158_161.out; have hnc54 := NB161_158.out; have hnb55 := NB158_162.out; have hnc55 := NB162_158.out; have hnb56 := NB158_157.out; have hnc56 := NB157_158.out; have hcz57_0 : w53.cell? ⟨gb158, 0, none⟩ = some (.string x159000_2) := (blk_cell BK158.out 0).trans rfl; have hcz57_1 : w53.cell? ⟨gb158, 1, none⟩ = some (.int .i64 x159001_2) := (blk_cell BK158.out 1).trans rfl; have hfz57_0 := blk_frozen BK158.out 0; have hfz57_1 := blk_frozen BK158.out 1) | ((with_reducible refine gate_callee (f := 27) rfl ?_); refine goesL_ (some 59) rfl rfl Try.func27 (by kernel_rfl) rfl #[.agg #[.string x159000_2, .int .i64 x159001_2]] rfl (by (try simp only [List.map_toArray, List.map_cons, List.map_nil]); first | done | rfl | (simp only [List.length_drop, List.length_take]; rfl)) ?_; (with_reducible refine (mosaicref02_Reader_Text.calls kj16 x159000_2 x159001_2 t173 t174 t175 t176 _ A52.out).mono ?_); rintro e w58 ⟨rfl, hb⟩; refine ⟨_, rfl, ?_⟩; have n0_ := Aside0.mk (blk_below (g := gb158) (o := .cells #[.string x159000_2, .int .i64 x159001_2] 48 (0, 0)) (by (with_reducible repeat (first | refine blk_drewN ?_ _ | refine blk_drew ?_ | refine blk_alloc ?_ _)); exact BK158.out) hb); have n1_ := Aside0.mk (IsS70.below (by repeat (first | (with_reducible first | exact HI157.out | apply IsS70.alloc | apply IsS70.drewN | apply IsS70.drew | apply IsS70.set_0 | apply IsS70.set_1 | refine IsS70.far ?_ NB157_158.out _ | refine IsS70.far ?_ NB157_161.out _ | refine IsS70.far ?_ NB157_162.out _) | exact HI157.out)) hb); have n2_ := Aside0.mk (blk_below (g := gb161) (o := .cells #[.int .i64 ((rd_T37 l1 x7_2).f0), .int .i64 ((rd_T37 l1 x7_2).f1), .int .i64 ((rd_T37 l1 x7_2).f2), .string ((rd_T37 l1 x7_2).f3)] 37 (0, 0)) (by (with_reducible repeat (first | refine blk_drewN ?_ _ | refine blk_drew ?_ | refine blk_alloc ?_ _)); exact BK161.out) hb); have n3_ := Aside0.mk (blk_below (g := gb162) (o := .cells #[.string x159000_2, .int .i64 x159001_2, .int .i64 0, .string (⟨#[]⟩ : ByteArray)] 50 (0, 0)) (by (with_reducible repeat (first | refine blk_drewN ?_ _ | refine blk_drew ?_ | refine blk_alloc ?_ _)); exact BK162.out) hb); have n4_ := Aside0.mk (below_step (by repeat (first | (with_reducible first | exact HB.out | apply below_alloc | apply pw_below_drewN | apply below_drew1 | refine below_set ?_ (IsS70.ge HI157.out) | refine below_set ?_ GE158.out | refine below_set ?_ GE161.out | refine below_set ?_ GE162.out) | exact HB.out)) hb); clear BK158; clear HI157; clear BK161; clear BK162; clear HB; have BK158 := n0_; have HI157 := n1_; have BK161 := n2_; have BK162 := n3_; have HB := n4_; clear n0_ n1_ n2_ n3_ n4_; (try clear hb); (try clear hb2); (try clear hk); (try clear hi); have hnb59 := NB162_161.out; have hnc59 := NB161_162.out; have hnb60 := NB162_157.out; have hnc60 := NB157_162.out; have hcz61_0 : w58.cell? ⟨gb162, 0, none⟩ = some (.string x159000_2) := (blk_cell BK162.out 0).trans rfl; have hcz61_1 : w58.cell? ⟨gb162, 1, none⟩ = some (.int .i64 x159001_2) := (blk_cell BK162.out 1).trans rfl; have hcz61_2 : w58.cell? ⟨gb162, 2, none⟩ = some (.int .i64 0) := (blk_cell BK162.out 2).trans rfl; have hcz61_3 : w58.cell? ⟨gb162, 3, none⟩ = some (.string (⟨#[]⟩ : ByteArray)) := (blk_cell BK162.out 3).trans rfl; have hfz61_0 := blk_frozen BK162.out 0; have hfz61_1 := blk_frozen BK162.out 1; have hfz61_2 := blk_frozen BK162.out 2; have hfz61_3 := blk_frozen BK162.out 3))
               go_meet
               case rel => exact ⟨_, (0), (t170), (t171), (t172), (t173), (t174), (t175), (t176), (by first | rfl | (simp; done) | (simp [*]; done)), (by first | rfl | (simp; done) | (simp [*]; done)), H', ⟨by have := HJ6.out; have := HK2.out; have := HJ16.out; first | omega | exact Nat.le_refl _⟩, ⟨by (with_reducible repeat (first | refine blk_drewN ?_ _ | refine blk_drew ?_ | refine blk_alloc ?_ _)); refine blk_far ?_ NB158_162.out _; (with_reducible repeat (first | refine blk_drewN ?_ _ | refine blk_drew ?_ | refine blk_alloc ?_ _)); refine blk_far ?_ NB158_162.out _; (with_reducible repeat (first | refine blk_drewN ?_ _ | refine blk_drew ?_ | refine blk_alloc ?_ _)); refine blk_far ?_ NB158_162.out _; (with_reducible repeat (first | refine blk_drewN ?_ _ | refine blk_drew ?_ | refine blk_alloc ?_ _)); refine blk_far ?_ NB158_162.out _; (with_reducible repeat (first | refine blk_drewN ?_ _ | refine blk_drew ?_ | refine blk_alloc ?_ _)); exact BK158.out⟩, ⟨by (with_reducible repeat (first | refine blk_drewN ?_ _ | refine blk_drew ?_ | refine blk_alloc ?_ _)); refine blk_far ?_ NB161_162.out _; (with_reducible repeat (first | refine blk_drewN ?_ _ | refine blk_drew ?_ | refine blk_alloc ?_ _)); refine blk_far ?_ NB161_162.out _; (with_reducible repeat (first | refine blk_drewN ?_ _ | refine blk_drew ?_ | refine blk_alloc ?_ _)); refine blk_far ?_ NB161_162.out _; (with_reducible repeat (first | refine blk_drewN ?_ _ | refine blk_drew ?_ | refine blk_alloc ?_ _)); refine blk_far ?_ NB161_162.out _; (with_reducible repeat (first | refine blk_drewN ?_ _ | refine blk_drew ?_ | refine blk_alloc ?_ _)); exact BK161.out⟩, ⟨by (with_reducible repeat (first | refine blk_drewN ?_ _ | refine blk_drew ?_ | refine blk_alloc ?_ _)); refine blk_put (cs := #[.string t173, .int .i64 t174, .int .i64 t175, .string (⟨#[]⟩ : ByteArray)]) ?_ 3 _ rfl; (with_reducible repeat (first | refine blk_drewN ?_ _ | refine blk_drew ?_ | refine blk_alloc ?_ _)); refine blk_put (cs := #[.string t173, .int .i64 t174, .int .i64 0, .string (⟨#[]⟩ : ByteArray)]) ?_ 2 _ rfl; (with_reducible repeat (first | refine blk_drewN ?_ _ | refine blk_drew ?_ | refine blk_alloc ?_ _)); refine blk_put (cs := #[.string t173, .int .i64 x159001_2, .int .i64 0, .string (⟨#[]⟩ : ByteArray)]) ?_ 1 _ rfl; (with_reducible repeat (first | refine blk_drewN ?_ _ | refine blk_drew ?_ | refine blk_alloc ?_ _)); refine blk_put (cs := #[.string x159000_2, .int .i64 x159001_2, .int .i64 0, .string (⟨#[]⟩ : ByteArray)]) ?_ 0 _ rfl; (with_reducible repeat (first | refine blk_drewN ?_ _ | refine blk_drew ?_ | refine blk_alloc ?_ _)); exact BK162.out⟩, ⟨by repeat (first | (with_reducible first | exact HI157.out | apply IsS70.alloc | apply IsS70.drewN | apply IsS70.drew | apply IsS70.set_0 | apply IsS70.set_1 | refine IsS70.far ?_ NB157_158.out _ | refine IsS70.far ?_ NB157_161.out _ | refine IsS70.far ?_ NB157_162.out _) | exact HI157.out)⟩, ⟨by repeat (first | (with_reducible first | exact HB.out | apply below_alloc | apply pw_below_drewN | apply below_drew1 | refine below_set ?_ (IsS70.ge HI157.out) | refine below_set ?_ GE158.out | refine below_set ?_ GE161.out | refine below_set ?_ GE162.out) | exact HB.out)⟩⟩
              ·
               rw [if_neg c50] at H
               have c50b0 : (((rd_T37 l1 x7_2).f0) == 1) = false := beq_eq_false_iff_ne.mpr c50
               have c50b1 : (((rd_T37 l1 x7_2).f0) != 1) = true := bne_iff_ne.mpr c50
               by_cases c62 : ((rd_T37 l1 x7_2).f0) = 2
               ·
                rw [if_pos c62] at H
                have c62b0 : (((rd_T37 l1 x7_2).f0) == 2) = true := beq_iff_eq.mpr c62
                have c62b1 : (((rd_T37 l1 x7_2).f0) != 2) = false := bne_eq_false_iff_eq.mpr c62
                clear c62; replace H := Option.bind_eq_some_iff.mp H
                obtain ⟨⟨t177, t178, t179⟩, A630, H⟩ := H
                replace H : ((mosaicref02_Reader_Raw.f x159000_2 x159001_2 ((rd_T37 l1 x7_2).f1)).bind fun bt180 => (mosaiclaw02_OctReads.j3 kj16 l1 x7_2 0 t177 t178 t179 bt180.1 bt180.2.1 bt180.2.2.1 bt180.2.2.2)) = some r := H
                have A63 := Aside0.mk A630
                clear A630; replace H := Option.bind_eq_some_iff.mp H
                obtain ⟨⟨t180, t181, t182, t183⟩, A640, H⟩ := H
                replace H : (mosaiclaw02_OctReads.j3 kj16 l1 x7_2 0 t177 t178 t179 t180 t181 t182 t183) = some r := H
                have A64 := Aside0.mk A640
                clear A640; have H' := Aside0.mk H
                clear H; have hnb65 := NB161_158.out; have hnc65 := NB158_161.out; have hnb66 := NB161_162.out; have hnc66 := NB162_161.out; have hnb67 := NB161_157.out; have hnc67 := NB157_161.out; have hcz68_0 : w29.cell? ⟨gb161, 0, none⟩ = some (.int .i64 ((rd_T37 l1 x7_2).f0)) := (blk_cell BK161.out 0).trans rfl
                have hcz68_1 : w29.cell? ⟨gb161, 1, none⟩ = some (.int .i64 ((rd_T37 l1 x7_2).f1)) := (blk_cell BK161.out 1).trans rfl
                have hcz68_2 : w29.cell? ⟨gb161, 2, none⟩ = some (.int .i64 ((rd_T37 l1 x7_2).f2)) := (blk_cell BK161.out 2).trans rfl
                have hcz68_3 : w29.cell? ⟨gb161, 3, none⟩ = some (.string ((rd_T37 l1 x7_2).f3)) := (blk_cell BK161.out 3).trans rfl
                have hfz68_0 := blk_frozen BK161.out 0; have hfz68_1 := blk_frozen BK161.out 1; have hfz68_2 := blk_frozen BK161.out 2; have hfz68_3 := blk_frozen BK161.out 3; go_wp2_with (first | ((with_reducible refine gate_callee (f := 28) rfl ?_); refine goesL_ (some 65) rfl rfl Try.func28 (by kernel_rfl) rfl #[.pointer (some ⟨g157, 0, none⟩), .int .i64 ((rd_T37 l1 x7_2).f1)] rfl (by (try simp only [List.map_toArray, List.map_cons, List.map_nil]); first | done | rfl | (simp only [List.length_drop, List.length_take]; rfl)) ?_; (with_reducible refine (oct_Reader_Raw.calls g157 x158000_2 x158001_2 ((rd_T37 l1 x7_2).f1) t177 t178 t179 w _ ?side1 ?side2 A63.out).mono ?_); (case side1 => repeat (first | (with_reducible first | exact HI157.out | apply IsS70.alloc | apply IsS70.drewN | apply IsS70.drew | apply IsS70.set_0 | apply IsS70.set_1 | refine IsS70.far ?_ NB157_158.out _ | refine IsS70.far ?_ NB157_161.out _ | refine IsS70.far ?_ NB157_162.out _) | exact HI157.out)); (case side2 => repeat (first | (with_reducible first | exact HB.out | apply below_alloc | apply pw_below_drewN | apply below_drew1 | refine below_set ?_ (IsS70.ge HI157.out) | refine below_set ?_ GE158.out | refine below_set ?_ GE161.out | refine below_set ?_ GE162.out) | exact HB.out)); rintro e w69 ⟨rfl, hi, hb, hk⟩; refine ⟨_, rfl, ?_⟩; have n0_ := Aside0.mk (KeepBut.blk hk (g' := gb158) (o := .cells #[.string x159000_2, .int .i64 x159001_2] 48 (0, 0)) (by (with_reducible repeat (first | refine blk_drewN ?_ _ | refine blk_drew ?_ | refine blk_alloc ?_ _)); refine blk_far ?_ NB158_162.out _; (with_reducible repeat (first | refine blk_drewN ?_ _ | refine blk_drew ?_ | refine blk_alloc ?_ _)); refine blk_far ?_ NB158_162.out _; (with_reducible repeat (first | refine blk_drewN ?_ _ | refine blk_drew ?_ | refine blk_alloc ?_ _)); refine blk_far ?_ NB158_162.out _; (with_reducible repeat (first | refine blk_drewN ?_ _ | refine blk_drew ?_ | refine blk_alloc ?_ _)); refine blk_far ?_ NB158_162.out _; (with_reducible repeat (first | refine blk_drewN ?_ _ | refine blk_drew ?_ | refine blk_alloc ?_ _)); exact BK158.out) NB158_157.out (by simp)); have n1_ := Aside0.mk (KeepBut.blk hk (g' := gb161) (o := .cells #[.int .i64 ((rd_T37 l1 x7_2).f0), .int .i64 ((rd_T37 l1 x7_2).f1), .int .i64 ((rd_T37 l1 x7_2).f2), .string ((rd_T37 l1 x7_2).f3)] 37 (0, 0)) (by (with_reducible repeat (first | refine blk_drewN ?_ _ | refine blk_drew ?_ | refine blk_alloc ?_ _)); refine blk_far ?_ NB161_162.out _; (with_reducible repeat (first | refine blk_drewN ?_ _ | refine blk_drew ?_ | refine blk_alloc ?_ _)); refine blk_far ?_ NB161_162.out _; (with_reducible repeat (first | refine blk_drewN ?_ _ | refine blk_drew ?_ | refine blk_alloc ?_ _)); refine blk_far ?_ NB161_162.out _; (with_reducible repeat (first | refine blk_drewN ?_ _ | refine blk_drew ?_ | refine blk_alloc ?_ _)); refine blk_far ?_ NB161_162.out _; (with_reducible repeat (first | refine blk_drewN ?_ _ | refine blk_drew ?_ | refine blk_alloc ?_ _)); exact BK161.out) NB161_157.out (by simp)); have n2_ := Aside0.mk (KeepBut.blk hk (g' := gb162) (o := .cells #[.string x159000_2, .int .i64 x159001_2, .int .i64 0, .string (⟨#[]⟩ : ByteArray)] 50 (0, 0)) (by (with_reducible repeat (first | refine blk_drewN ?_ _ | refine blk_drew ?_ | refine blk_alloc ?_ _)); refine blk_put (cs := #[.string x159000_2, .int .i64 x159001_2, .int .i64 0, .string (⟨#[]⟩ : ByteArray)]) ?_ 3 _ rfl; (with_reducible repeat (first | refine blk_drewN ?_ _ | refine blk_drew ?_ | refine blk_alloc ?_ _)); refine blk_put (cs := #[.string x159000_2, .int .i64 x159001_2, .int .i64 0, .string (⟨#[]⟩ : ByteArray)]) ?_ 2 _ rfl; (with_reducible repeat (first | refine blk_drewN ?_ _ | refine blk_drew ?_ | refine blk_alloc ?_ _)); refine blk_put (cs := #[.string x159000_2, .int .i64 0, .int .i64 0, .string (⟨#[]⟩ : ByteArray)]) ?_ 1 _ rfl; (with_reducible repeat (first | refine blk_drewN ?_ _ | refine blk_drew ?_ | refine blk_alloc ?_ _)); refine blk_put (cs := #[.string (⟨#[]⟩ : ByteArray), .int .i64 0, .int .i64 0, .string (⟨#[]⟩ : ByteArray)]) ?_ 0 _ rfl; (with_reducible repeat (first | refine blk_drewN ?_ _ | refine blk_drew ?_ | refine blk_alloc ?_ _)); exact BK162.out) NB162_157.out (by simp)); have n3_ := Aside0.mk (hb); have n4_ := Aside0.mk (hi); clear BK158; clear BK161; clear BK162; clear HB; clear HI157; have BK158 := n0_; have BK161 := n1_; have BK162 := n2_; have HB := n3_; have HI157 := n4_; clear n0_ n1_ n2_ n3_ n4_; (try clear hb); (try clear hb2); (try clear hk); (try clear hi); have hnb70 := NB158_162.out; have hnc70 := NB162_158.out; have hnb71 := NB158_157.out; have hnc71 := NB157_158.out; have hcz72_0 : w69.cell? ⟨gb158, 0, none⟩ = some (.string x159000_2) := (blk_cell BK158.out 0).trans rfl; have hcz72_1 : w69.cell? ⟨gb158, 1, none⟩ = some (.int .i64 x159001_2) := (blk_cell BK158.out 1).trans rfl; have hfz72_0 := blk_frozen BK158.out 0; have hfz72_1 := blk_frozen BK158.out 1; have hcz73_0 : w69.cell? ⟨gb161, 0, none⟩ = some (.int .i64 ((rd_T37 l1 x7_2).f0)) := (blk_cell BK161.out 0).trans rfl; have hcz73_1 : w69.cell? ⟨gb161, 1, none⟩ = some (.int .i64 ((rd_T37 l1 x7_2).f1)) := (blk_cell BK161.out 1).trans rfl; have hcz73_2 : w69.cell? ⟨gb161, 2, none⟩ = some (.int .i64 ((rd_T37 l1 x7_2).f2)) := (blk_cell BK161.out 2).trans rfl; have hcz73_3 : w69.cell? ⟨gb161, 3, none⟩ = some (.string ((rd_T37 l1 x7_2).f3)) := (blk_cell BK161.out 3).trans rfl; have hfz73_0 := blk_frozen BK161.out 0; have hfz73_1 := blk_frozen BK161.out 1; have hfz73_2 := blk_frozen BK161.out 2; have hfz73_3 := blk_frozen BK161.out 3) | ((with_reducible refine gate_callee (f := 29) rfl ?_); refine goesL_ (some 69) rfl rfl Try.func29 (by kernel_rfl) rfl #[.agg #[.string x159000_2, .int .i64 x159001_2], .int .i64 ((rd_T37 l1 x7_2).f1)] rfl (by (try simp only [List.map_toArray, List.map_cons, List.map_nil]); first | done | rfl | (simp only [List.length_drop, List.length_take]; rfl)) ?_; (with_reducible refine (mosaicref02_Reader_Raw.calls x159000_2 x159001_2 ((rd_T37 l1 x7_2).f1) t180 t181 t182 t183 _ A64.out).mono ?_); rintro e w74 ⟨rfl, hb⟩; refine ⟨_, rfl, ?_⟩; have n0_ := Aside0.mk (blk_below (g := gb158) (o := .cells #[.string x159000_2, .int .i64 x159001_2] 48 (0, 0)) (by (with_reducible repeat (first | refine blk_drewN ?_ _ | refine blk_drew ?_ | refine blk_alloc ?_ _)); exact BK158.out) hb); have n1_ := Aside0.mk (IsS70.below (by repeat (first | (with_reducible first | exact HI157.out | apply IsS70.alloc | apply IsS70.drewN | apply IsS70.drew | apply IsS70.set_0 | apply IsS70.set_1 | refine IsS70.far ?_ NB157_158.out _ | refine IsS70.far ?_ NB157_161.out _ | refine IsS70.far ?_ NB157_162.out _) | exact HI157.out)) hb); have n2_ := Aside0.mk (blk_below (g := gb161) (o := .cells #[.int .i64 ((rd_T37 l1 x7_2).f0), .int .i64 ((rd_T37 l1 x7_2).f1), .int .i64 ((rd_T37 l1 x7_2).f2), .string ((rd_T37 l1 x7_2).f3)] 37 (0, 0)) (by (with_reducible repeat (first | refine blk_drewN ?_ _ | refine blk_drew ?_ | refine blk_alloc ?_ _)); exact BK161.out) hb); have n3_ := Aside0.mk (blk_below (g := gb162) (o := .cells #[.string x159000_2, .int .i64 x159001_2, .int .i64 0, .string (⟨#[]⟩ : ByteArray)] 50 (0, 0)) (by (with_reducible repeat (first | refine blk_drewN ?_ _ | refine blk_drew ?_ | refine blk_alloc ?_ _)); exact BK162.out) hb); have n4_ := Aside0.mk (below_step (by repeat (first | (with_reducible first | exact HB.out | apply below_alloc | apply pw_below_drewN | apply below_drew1 | refine below_set ?_ (IsS70.ge HI157.out) | refine below_set ?_ GE158.out | refine below_set ?_ GE161.out | refine below_set ?_ GE162.out) | exact HB.out)) hb); clear BK158; clear HI157; clear BK161; clear BK162; clear HB; have BK158 := n0_; have HI157 := n1_; have BK161 := n2_; have BK162 := n3_; have HB := n4_; clear n0_ n1_ n2_ n3_ n4_; (try clear hb); (try clear hb2); (try clear hk); (try clear hi); have hnb75 := NB162_157.out; have hnc75 := NB157_162.out; have hcz76_0 : w74.cell? ⟨gb162, 0, none⟩ = some (.string x159000_2) := (blk_cell BK162.out 0).trans rfl; have hcz76_1 : w74.cell? ⟨gb162, 1, none⟩ = some (.int .i64 x159001_2) := (blk_cell BK162.out 1).trans rfl; have hcz76_2 : w74.cell? ⟨gb162, 2, none⟩ = some (.int .i64 0) := (blk_cell BK162.out 2).trans rfl; have hcz76_3 : w74.cell? ⟨gb162, 3, none⟩ = some (.string (⟨#[]⟩ : ByteArray)) := (blk_cell BK162.out 3).trans rfl; have hfz76_0 := blk_frozen BK162.out 0; have hfz76_1 := blk_frozen BK162.out 1; have hfz76_2 := blk_frozen BK162.out 2; have hfz76_3 := blk_frozen BK162.out 3))
                go_meet
                case rel => exact ⟨_, (0), (t177), (t178), (t179), (t180), (t181), (t182), (t183), (by first | rfl | (simp; done) | (simp [*]; done)), (by first | rfl | (simp; done) | (simp [*]; done)), H', ⟨by have := HJ6.out; have := HK2.out; have := HJ16.out; first | omega | exact Nat.le_refl _⟩, ⟨by (with_reducible repeat (first | refine blk_drewN ?_ _ | refine blk_drew ?_ | refine blk_alloc ?_ _)); refine blk_far ?_ NB158_162.out _; (with_reducible repeat (first | refine blk_drewN ?_ _ | refine blk_drew ?_ | refine blk_alloc ?_ _)); refine blk_far ?_ NB158_162.out _; (with_reducible repeat (first | refine blk_drewN ?_ _ | refine blk_drew ?_ | refine blk_alloc ?_ _)); refine blk_far ?_ NB158_162.out _; (with_reducible repeat (first | refine blk_drewN ?_ _ | refine blk_drew ?_ | refine blk_alloc ?_ _)); refine blk_far ?_ NB158_162.out _; (with_reducible repeat (first | refine blk_drewN ?_ _ | refine blk_drew ?_ | refine blk_alloc ?_ _)); exact BK158.out⟩, ⟨by (with_reducible repeat (first | refine blk_drewN ?_ _ | refine blk_drew ?_ | refine blk_alloc ?_ _)); refine blk_far ?_ NB161_162.out _; (with_reducible repeat (first | refine blk_drewN ?_ _ | refine blk_drew ?_ | refine blk_alloc ?_ _)); refine blk_far ?_ NB161_162.out _; (with_reducible repeat (first | refine blk_drewN ?_ _ | refine blk_drew ?_ | refine blk_alloc ?_ _)); refine blk_far ?_ NB161_162.out _; (with_reducible repeat (first | refine blk_drewN ?_ _ | refine blk_drew ?_ | refine blk_alloc ?_ _)); refine blk_far ?_ NB161_162.out _; (with_reducible repeat (first | refine blk_drewN ?_ _ | refine blk_drew ?_ | refine blk_alloc ?_ _)); exact BK161.out⟩, ⟨by (with_reducible repeat (first | refine blk_drewN ?_ _ | refine blk_drew ?_ | refine blk_alloc ?_ _)); refine blk_put (cs := #[.string t180, .int .i64 t181, .int .i64 t182, .string (⟨#[]⟩ : ByteArray)]) ?_ 3 _ rfl; (with_reducible repeat (first | refine blk_drewN ?_ _ | refine blk_drew ?_ | refine blk_alloc ?_ _)); refine blk_put (cs := #[.string t180, .int .i64 t181, .int .i64 0, .string (⟨#[]⟩ : ByteArray)]) ?_ 2 _ rfl; (with_reducible repeat (first | refine blk_drewN ?_ _ | refine blk_drew ?_ | refine blk_alloc ?_ _)); refine blk_put (cs := #[.string t180, .int .i64 x159001_2, .int .i64 0, .string (⟨#[]⟩ : ByteArray)]) ?_ 1 _ rfl; (with_reducible repeat (first | refine blk_drewN ?_ _ | refine blk_drew ?_ | refine blk_alloc ?_ _)); refine blk_put (cs := #[.string x159000_2, .int .i64 x159001_2, .int .i64 0, .string (⟨#[]⟩ : ByteArray)]) ?_ 0 _ rfl; (with_reducible repeat (first | refine blk_drewN ?_ _ | refine blk_drew ?_ | refine blk_alloc ?_ _)); exact BK162.out⟩, ⟨by repeat (first | (with_reducible first | exact HI157.out | apply IsS70.alloc | apply IsS70.drewN | apply IsS70.drew | apply IsS70.set_0 | apply IsS70.set_1 | refine IsS70.far ?_ NB157_158.out _ | refine IsS70.far ?_ NB157_161.out _ | refine IsS70.far ?_ NB157_162.out _) | exact HI157.out)⟩, ⟨by repeat (first | (with_reducible first | exact HB.out | apply below_alloc | apply pw_below_drewN | apply below_drew1 | refine below_set ?_ (IsS70.ge HI157.out) | refine below_set ?_ GE158.out | refine below_set ?_ GE161.out | refine below_set ?_ GE162.out) | exact HB.out)⟩⟩
               ·
                rw [if_neg c62] at H
                have c62b0 : (((rd_T37 l1 x7_2).f0) == 2) = false := beq_eq_false_iff_ne.mpr c62
                have c62b1 : (((rd_T37 l1 x7_2).f0) != 2) = true := bne_iff_ne.mpr c62
                by_cases c77 : ((rd_T37 l1 x7_2).f0) = 3
                ·
                 rw [if_pos c77] at H
                 have c77b0 : (((rd_T37 l1 x7_2).f0) == 3) = true := beq_iff_eq.mpr c77
                 have c77b1 : (((rd_T37 l1 x7_2).f0) != 3) = false := bne_eq_false_iff_eq.mpr c77
                 clear c77; replace H := Option.bind_eq_some_iff.mp H
                 obtain ⟨⟨t184, t185, t186⟩, A780, H⟩ := H
                 replace H : ((mosaicref02_Reader_Raw.f x159000_2 x159001_2 (x159000_2.size : Int)).bind fun bt187 => (mosaiclaw02_OctReads.j3 kj16 l1 x7_2 0 t184 t185 t186 bt187.1 bt187.2.1 bt187.2.2.1 bt187.2.2.2)) = some r := H
                 have A78 := Aside0.mk A780
                 clear A780; replace H := Option.bind_eq_some_iff.mp H
                 obtain ⟨⟨t187, t188, t189, t190⟩, A790, H⟩ := H
                 replace H : (mosaiclaw02_OctReads.j3 kj16 l1 x7_2 0 t184 t185 t186 t187 t188 t189 t190) = some r := H
                 have A79 := Aside0.mk A790
                 clear A790; have H' := Aside0.mk H
                 clear H; go_wp2_with (first | ((with_reducible refine gate_callee (f := 30) rfl ?_); refine goesL_ (some 73) rfl rfl Try.func30 (by kernel_rfl) rfl #[.pointer (some ⟨g157, 0, none⟩)] rfl (by (try simp only [List.map_toArray, List.map_cons, List.map_nil]); first | done | rfl | (simp only [List.length_drop, List.length_take]; rfl)) ?_; (with_reducible refine (oct_Reader_Rest.calls g157 x158000_2 x158001_2 t184 t185 t186 w _ ?side1 ?side2 A78.out).mono ?_); (case side1 => repeat (first | (with_reducible first | exact HI157.out | apply IsS70.alloc | apply IsS70.drewN | apply IsS70.drew | apply IsS70.set_0 | apply IsS70.set_1 | refine IsS70.far ?_ NB157_158.out _ | refine IsS70.far ?_ NB157_161.out _ | refine IsS70.far ?_ NB157_162.out _) | exact HI157.out)); (case side2 => repeat (first | (with_reducible first | exact HB.out | apply below_alloc | apply pw_below_drewN | apply below_drew1 | refine below_set ?_ (IsS70.ge HI157.out) | refine below_set ?_ GE158.out | refine below_set ?_ GE161.out | refine below_set ?_ GE162.out) | exact HB.out)); rintro e w80 ⟨rfl, hi, hb, hk⟩; refine ⟨_, rfl, ?_⟩; have n0_ := Aside0.mk (KeepBut.blk hk (g' := gb158) (o := .cells #[.string x159000_2, .int .i64 x159001_2] 48 (0, 0)) (by (with_reducible repeat (first | refine blk_drewN ?_ _ | refine blk_drew ?_ | refine blk_alloc ?_ _)); refine blk_far ?_ NB158_162.out _; (with_reducible repeat (first | refine blk_drewN ?_ _ | refine blk_drew ?_ | refine blk_alloc ?_ _)); refine blk_far ?_ NB158_162.out _; (with_reducible repeat (first | refine blk_drewN ?_ _ | refine blk_drew ?_ | refine blk_alloc ?_ _)); refine blk_far ?_ NB158_162.out _; (with_reducible repeat (first | refine blk_drewN ?_ _ | refine blk_drew ?_ | refine blk_alloc ?_ _)); refine blk_far ?_ NB158_162.out _; (with_reducible repeat (first | refine blk_drewN ?_ _ | refine blk_drew ?_ | refine blk_alloc ?_ _)); exact BK158.out) NB158_157.out (by simp)); have n1_ := Aside0.mk (KeepBut.blk hk (g' := gb161) (o := .cells #[.int .i64 ((rd_T37 l1 x7_2).f0), .int .i64 ((rd_T37 l1 x7_2).f1), .int .i64 ((rd_T37 l1 x7_2).f2), .string ((rd_T37 l1 x7_2).f3)] 37 (0, 0)) (by (with_reducible repeat (first | refine blk_drewN ?_ _ | refine blk_drew ?_ | refine blk_alloc ?_ _)); refine blk_far ?_ NB161_162.out _; (with_reducible repeat (first | refine blk_drewN ?_ _ | refine blk_drew ?_ | refine blk_alloc ?_ _)); refine blk_far ?_ NB161_162.out _; (with_reducible repeat (first | refine blk_drewN ?_ _ | refine blk_drew ?_ | refine blk_alloc ?_ _)); refine blk_far ?_ NB161_162.out _; (with_reducible repeat (first | refine blk_drewN ?_ _ | refine blk_drew ?_ | refine blk_alloc ?_ _)); refine blk_far ?_ NB161_162.out _; (with_reducible repeat (first | refine blk_drewN ?_ _ | refine blk_drew ?_ | refine blk_alloc ?_ _)); exact BK161.out) NB161_157.out (by simp)); have n2_ := Aside0.mk (KeepBut.blk hk (g' := gb162) (o := .cells #[.string x159000_2, .int .i64 x159001_2, .int .i64 0, .string (⟨#[]⟩ : ByteArray)] 50 (0, 0)) (by (with_reducible repeat (first | refine blk_drewN ?_ _ | refine blk_drew ?_ | refine blk_alloc ?_ _)); refine blk_put (cs := #[.string x159000_2, .int .i64 x159001_2, .int .i64 0, .string (⟨#[]⟩ : ByteArray)]) ?_ 3 _ rfl; (with_reducible repeat (first | refine blk_drewN ?_ _ | refine blk_drew ?_ | refine blk_alloc ?_ _)); refine blk_put (cs := #[.string x159000_2, .int .i64 x159001_2, .int .i64 0, .string (⟨#[]⟩ : ByteArray)]) ?_ 2 _ rfl; (with_reducible repeat (first | refine blk_drewN ?_ _ | refine blk_drew ?_ | refine blk_alloc ?_ _)); refine blk_put (cs := #[.string x159000_2, .int .i64 0, .int .i64 0, .string (⟨#[]⟩ : ByteArray)]) ?_ 1 _ rfl; (with_reducible repeat (first | refine blk_drewN ?_ _ | refine blk_drew ?_ | refine blk_alloc ?_ _)); refine blk_put (cs := #[.string (⟨#[]⟩ : ByteArray), .int .i64 0, .int .i64 0, .string (⟨#[]⟩ : ByteArray)]) ?_ 0 _ rfl; (with_reducible repeat (first | refine blk_drewN ?_ _ | refine blk_drew ?_ | refine blk_alloc ?_ _)); exact BK162.out) NB162_157.out (by simp)); have n3_ := Aside0.mk (hb); have n4_ := Aside0.mk (hi); clear BK158; clear BK161; clear BK162; clear HB; clear HI157; have BK158 := n0_; have BK161 := n1_; have BK162 := n2_; have HB := n3_; have HI157 := n4_; clear n0_ n1_ n2_ n3_ n4_; (try clear hb); (try clear hb2); (try clear hk); (try clear hi); have hnb81 := NB158_161.out; have hnc81 := NB161_158.out; have hnb82 := NB158_162.out; have hnc82 := NB162_158.out; have hnb83 := NB158_157.out; have hnc83 := NB157_158.out; have hcz84_0 : w80.cell? ⟨gb158, 0, none⟩ = some (.string x159000_2) := (blk_cell BK158.out 0).trans rfl; have hcz84_1 : w80.cell? ⟨gb158, 1, none⟩ = some (.int .i64 x159001_2) := (blk_cell BK158.out 1).trans rfl; have hfz84_0 := blk_frozen BK158.out 0; have hfz84_1 := blk_frozen BK158.out 1) | ((with_reducible refine gate_callee (f := 29) rfl ?_); refine goesL_ (some 78) rfl rfl Try.func29 (by kernel_rfl) rfl #[.agg #[.string x159000_2, .int .i64 x159001_2], .int .i64 (x159000_2.size : Int)] rfl (by (try simp only [List.map_toArray, List.map_cons, List.map_nil]); first | done | rfl | (simp only [List.length_drop, List.length_take]; rfl)) ?_; (with_reducible refine (mosaicref02_Reader_Raw.calls x159000_2 x159001_2 (x159000_2.size : Int) t187 t188 t189 t190 _ A79.out).mono ?_); rintro e w85 ⟨rfl, hb⟩; refine ⟨_, rfl, ?_⟩; have n0_ := Aside0.mk (blk_below (g := gb158) (o := .cells #[.string x159000_2, .int .i64 x159001_2] 48 (0, 0)) (by (with_reducible repeat (first | refine blk_drewN ?_ _ | refine blk_drew ?_ | refine blk_alloc ?_ _)); exact BK158.out) hb); have n1_ := Aside0.mk (IsS70.below (by repeat (first | (with_reducible first | exact HI157.out | apply IsS70.alloc | apply IsS70.drewN | apply IsS70.drew | apply IsS70.set_0 | apply IsS70.set_1 | refine IsS70.far ?_ NB157_158.out _ | refine IsS70.far ?_ NB157_161.out _ | refine IsS70.far ?_ NB157_162.out _) | exact HI157.out)) hb); have n2_ := Aside0.mk (blk_below (g := gb161) (o := .cells #[.int .i64 ((rd_T37 l1 x7_2).f0), .int .i64 ((rd_T37 l1 x7_2).f1), .int .i64 ((rd_T37 l1 x7_2).f2), .string ((rd_T37 l1 x7_2).f3)] 37 (0, 0)) (by (with_reducible repeat (first | refine blk_drewN ?_ _ | refine blk_drew ?_ | refine blk_alloc ?_ _)); exact BK161.out) hb); have n3_ := Aside0.mk (blk_below (g := gb162) (o := .cells #[.string x159000_2, .int .i64 x159001_2, .int .i64 0, .string (⟨#[]⟩ : ByteArray)] 50 (0, 0)) (by (with_reducible repeat (first | refine blk_drewN ?_ _ | refine blk_drew ?_ | refine blk_alloc ?_ _)); exact BK162.out) hb); have n4_ := Aside0.mk (below_step (by repeat (first | (with_reducible first | exact HB.out | apply below_alloc | apply pw_below_drewN | apply below_drew1 | refine below_set ?_ (IsS70.ge HI157.out) | refine below_set ?_ GE158.out | refine below_set ?_ GE161.out | refine below_set ?_ GE162.out) | exact HB.out)) hb); clear BK158; clear HI157; clear BK161; clear BK162; clear HB; have BK158 := n0_; have HI157 := n1_; have BK161 := n2_; have BK162 := n3_; have HB := n4_; clear n0_ n1_ n2_ n3_ n4_; (try clear hb); (try clear hb2); (try clear hk); (try clear hi); have hnb86 := NB162_161.out; have hnc86 := NB161_162.out; have hnb87 := NB162_157.out; have hnc87 := NB157_162.out; have hcz88_0 : w85.cell? ⟨gb162, 0, none⟩ = some (.string x159000_2) := (blk_cell BK162.out 0).trans rfl; have hcz88_1 : w85.cell? ⟨gb162, 1, none⟩ = some (.int .i64 x159001_2) := (blk_cell BK162.out 1).trans rfl; have hcz88_2 : w85.cell? ⟨gb162, 2, none⟩ = some (.int .i64 0) := (blk_cell BK162.out 2).trans rfl; have hcz88_3 : w85.cell? ⟨gb162, 3, none⟩ = some (.string (⟨#[]⟩ : ByteArray)) := (blk_cell BK162.out 3).trans rfl; have hfz88_0 := blk_frozen BK162.out 0; have hfz88_1 := blk_frozen BK162.out 1; have hfz88_2 := blk_frozen BK162.out 2; have hfz88_3 := blk_frozen BK162.out 3))
                 go_meet
                 case rel => exact ⟨_, (0), (t184), (t185), (t186), (t187), (t188), (t189), (t190), (by first | rfl | (simp; done) | (simp [*]; done)), (by first | rfl | (simp; done) | (simp [*]; done)), H', ⟨by have := HJ6.out; have := HK2.out; have := HJ16.out; first | omega | exact Nat.le_refl _⟩, ⟨by (with_reducible repeat (first | refine blk_drewN ?_ _ | refine blk_drew ?_ | refine blk_alloc ?_ _)); refine blk_far ?_ NB158_162.out _; (with_reducible repeat (first | refine blk_drewN ?_ _ | refine blk_drew ?_ | refine blk_alloc ?_ _)); refine blk_far ?_ NB158_162.out _; (with_reducible repeat (first | refine blk_drewN ?_ _ | refine blk_drew ?_ | refine blk_alloc ?_ _)); refine blk_far ?_ NB158_162.out _; (with_reducible repeat (first | refine blk_drewN ?_ _ | refine blk_drew ?_ | refine blk_alloc ?_ _)); refine blk_far ?_ NB158_162.out _; (with_reducible repeat (first | refine blk_drewN ?_ _ | refine blk_drew ?_ | refine blk_alloc ?_ _)); exact BK158.out⟩, ⟨by (with_reducible repeat (first | refine blk_drewN ?_ _ | refine blk_drew ?_ | refine blk_alloc ?_ _)); refine blk_far ?_ NB161_162.out _; (with_reducible repeat (first | refine blk_drewN ?_ _ | refine blk_drew ?_ | refine blk_alloc ?_ _)); refine blk_far ?_ NB161_162.out _; (with_reducible repeat (first | refine blk_drewN ?_ _ | refine blk_drew ?_ | refine blk_alloc ?_ _)); refine blk_far ?_ NB161_162.out _; (with_reducible repeat (first | refine blk_drewN ?_ _ | refine blk_drew ?_ | refine blk_alloc ?_ _)); refine blk_far ?_ NB161_162.out _; (with_reducible repeat (first | refine blk_drewN ?_ _ | refine blk_drew ?_ | refine blk_alloc ?_ _)); exact BK161.out⟩, ⟨by (with_reducible repeat (first | refine blk_drewN ?_ _ | refine blk_drew ?_ | refine blk_alloc ?_ _)); refine blk_put (cs := #[.string t187, .int .i64 t188, .int .i64 t189, .string (⟨#[]⟩ : ByteArray)]) ?_ 3 _ rfl; (with_reducible repeat (first | refine blk_drewN ?_ _ | refine blk_drew ?_ | refine blk_alloc ?_ _)); refine blk_put (cs := #[.string t187, .int .i64 t188, .int .i64 0, .string (⟨#[]⟩ : ByteArray)]) ?_ 2 _ rfl; (with_reducible repeat (first | refine blk_drewN ?_ _ | refine blk_drew ?_ | refine blk_alloc ?_ _)); refine blk_put (cs := #[.string t187, .int .i64 x159001_2, .int .i64 0, .string (⟨#[]⟩ : ByteArray)]) ?_ 1 _ rfl; (with_reducible repeat (first | refine blk_drewN ?_ _ | refine blk_drew ?_ | refine blk_alloc ?_ _)); refine blk_put (cs := #[.string x159000_2, .int .i64 x159001_2, .int .i64 0, .string (⟨#[]⟩ : ByteArray)]) ?_ 0 _ rfl; (with_reducible repeat (first | refine blk_drewN ?_ _ | refine blk_drew ?_ | refine blk_alloc ?_ _)); exact BK162.out⟩, ⟨by repeat (first | (with_reducible first | exact HI157.out | apply IsS70.alloc | apply IsS70.drewN | apply IsS70.drew | apply IsS70.set_0 | apply IsS70.set_1 | refine IsS70.far ?_ NB157_158.out _ | refine IsS70.far ?_ NB157_161.out _ | refine IsS70.far ?_ NB157_162.out _) | exact HI157.out)⟩, ⟨by repeat (first | (with_reducible first | exact HB.out | apply below_alloc | apply pw_below_drewN | apply below_drew1 | refine below_set ?_ (IsS70.ge HI157.out) | refine below_set ?_ GE158.out | refine below_set ?_ GE161.out | refine below_set ?_ GE162.out) | exact HB.out)⟩⟩
                ·
                 rw [if_neg c77] at H
                 have c77b0 : (((rd_T37 l1 x7_2).f0) == 3) = false := beq_eq_false_iff_ne.mpr c77
                 have c77b1 : (((rd_T37 l1 x7_2).f0) != 3) = true := bne_iff_ne.mpr c77
                 have H' := Aside0.mk H
                 clear H; go_wp2
                 go_meet
                 case rel => exact ⟨_, (0), ((⟨#[]⟩ : ByteArray)), (x158000_2), (x158001_2), (x159000_2), (x159001_2), (0), ((⟨#[]⟩ : ByteArray)), (by first | rfl | (simp; done) | (simp [*]; done)), (by first | rfl | (simp; done) | (simp [*]; done)), H', ⟨by have := HJ6.out; have := HK2.out; have := HJ16.out; first | omega | exact Nat.le_refl _⟩, ⟨by (with_reducible repeat (first | refine blk_drewN ?_ _ | refine blk_drew ?_ | refine blk_alloc ?_ _)); refine blk_far ?_ NB158_162.out _; (with_reducible repeat (first | refine blk_drewN ?_ _ | refine blk_drew ?_ | refine blk_alloc ?_ _)); refine blk_far ?_ NB158_162.out _; (with_reducible repeat (first | refine blk_drewN ?_ _ | refine blk_drew ?_ | refine blk_alloc ?_ _)); refine blk_far ?_ NB158_162.out _; (with_reducible repeat (first | refine blk_drewN ?_ _ | refine blk_drew ?_ | refine blk_alloc ?_ _)); refine blk_far ?_ NB158_162.out _; (with_reducible repeat (first | refine blk_drewN ?_ _ | refine blk_drew ?_ | refine blk_alloc ?_ _)); exact BK158.out⟩, ⟨by (with_reducible repeat (first | refine blk_drewN ?_ _ | refine blk_drew ?_ | refine blk_alloc ?_ _)); refine blk_far ?_ NB161_162.out _; (with_reducible repeat (first | refine blk_drewN ?_ _ | refine blk_drew ?_ | refine blk_alloc ?_ _)); refine blk_far ?_ NB161_162.out _; (with_reducible repeat (first | refine blk_drewN ?_ _ | refine blk_drew ?_ | refine blk_alloc ?_ _)); refine blk_far ?_ NB161_162.out _; (with_reducible repeat (first | refine blk_drewN ?_ _ | refine blk_drew ?_ | refine blk_alloc ?_ _)); refine blk_far ?_ NB161_162.out _; (with_reducible repeat (first | refine blk_drewN ?_ _ | refine blk_drew ?_ | refine blk_alloc ?_ _)); exact BK161.out⟩, ⟨by (with_reducible repeat (first | refine blk_drewN ?_ _ | refine blk_drew ?_ | refine blk_alloc ?_ _)); refine blk_put (cs := #[.string x159000_2, .int .i64 x159001_2, .int .i64 0, .string (⟨#[]⟩ : ByteArray)]) ?_ 3 _ rfl; (with_reducible repeat (first | refine blk_drewN ?_ _ | refine blk_drew ?_ | refine blk_alloc ?_ _)); refine blk_put (cs := #[.string x159000_2, .int .i64 x159001_2, .int .i64 0, .string (⟨#[]⟩ : ByteArray)]) ?_ 2 _ rfl; (with_reducible repeat (first | refine blk_drewN ?_ _ | refine blk_drew ?_ | refine blk_alloc ?_ _)); refine blk_put (cs := #[.string x159000_2, .int .i64 0, .int .i64 0, .string (⟨#[]⟩ : ByteArray)]) ?_ 1 _ rfl; (with_reducible repeat (first | refine blk_drewN ?_ _ | refine blk_drew ?_ | refine blk_alloc ?_ _)); refine blk_put (cs := #[.string (⟨#[]⟩ : ByteArray), .int .i64 0, .int .i64 0, .string (⟨#[]⟩ : ByteArray)]) ?_ 0 _ rfl; (with_reducible repeat (first | refine blk_drewN ?_ _ | refine blk_drew ?_ | refine blk_alloc ?_ _)); exact BK162.out⟩, ⟨by repeat (first | (with_reducible first | exact HI157.out | apply IsS70.alloc | apply IsS70.drewN | apply IsS70.drew | apply IsS70.set_0 | apply IsS70.set_1 | refine IsS70.far ?_ NB157_158.out _ | refine IsS70.far ?_ NB157_161.out _ | refine IsS70.far ?_ NB157_162.out _) | exact HI157.out)⟩, ⟨by repeat (first | (with_reducible first | exact HB.out | apply below_alloc | apply pw_below_drewN | apply below_drew1 | refine below_set ?_ (IsS70.ge HI157.out) | refine below_set ?_ GE158.out | refine below_set ?_ GE161.out | refine below_set ?_ GE162.out) | exact HB.out)⟩⟩
            case rest =>
             clear HC22; (try clear c1); (try clear p1); (try clear q1); (try clear hx1); (try clear c2); (try clear p2); (try clear c3); (try clear c3b0); (try clear c3b1); (try clear c4); (try clear c5); (try clear c6); (try clear c7); (try clear c8); (try clear c10); (try clear c11); (try clear c13); (try clear c16); (try clear p16); (try clear q16); (try clear hx16); (try clear c18); (try clear c18b0); (try clear c19); (try clear c20); (try clear c20b0); (try clear c21); (try clear c21b0); (try clear c23); (try clear c24); (try clear c25); (try clear c26); (try clear c27); (try clear c28); (try clear c29); (try clear c30); (try clear c31); (try clear c32); (try clear c35); (try clear c35b0); (try clear c35b1); (try clear c38); (try clear c39); (try clear c40); (try clear c43); (try clear c44); (try clear c48); (try clear c50); (try clear c50b0); (try clear c50b1); (try clear c54); (try clear c55); (try clear c56); (try clear c59); (try clear c60); (try clear c62); (try clear c62b0); (try clear c62b1); (try clear c65); (try clear c66); (try clear c67); (try clear c70); (try clear c71); (try clear c75); (try clear c77); (try clear c77b0); (try clear c77b1); (try clear c81); (try clear c82); (try clear c83); (try clear c86); (try clear c87); (try clear hcz11_0); (try clear hcz11_1); (try clear hcz26_0); (try clear hcz26_1); (try clear hcz26_2); (try clear hcz26_3); (try clear hcz28_0); (try clear hcz28_1); (try clear hcz33_0); (try clear hcz33_1); (try clear hcz33_2); (try clear hcz33_3); (try clear hcz34_0); (try clear hcz34_1); (try clear hcz34_2); (try clear hcz34_3); (try clear hcz41_0); (try clear hcz41_1); (try clear hcz41_2); (try clear hcz41_3); (try clear hcz45_0); (try clear hcz45_1); (try clear hcz46_0); (try clear hcz46_1); (try clear hcz46_2); (try clear hcz46_3); (try clear hcz49_0); (try clear hcz49_1); (try clear hcz49_2); (try clear hcz49_3); (try clear hcz57_0); (try clear hcz57_1); (try clear hcz61_0); (try clear hcz61_1); (try clear hcz61_2); (try clear hcz61_3); (try clear hcz68_0); (try clear hcz68_1); (try clear hcz68_2); (try clear hcz68_3); (try clear hcz72_0); (try clear hcz72_1); (try clear hcz73_0); (try clear hcz73_1); (try clear hcz73_2); (try clear hcz73_3); (try clear hcz76_0); (try clear hcz76_1); (try clear hcz76_2); (try clear hcz76_3); (try clear hcz84_0); (try clear hcz84_1); (try clear hcz88_0); (try clear hcz88_1); (try clear hcz88_2); (try clear hcz88_3); (try clear hfz11_0); (try clear hfz11_1); (try clear hfz26_0); (try clear hfz26_1); (try clear hfz26_2); (try clear hfz26_3); (try clear hfz28_0); (try clear hfz28_1); (try clear hfz33_0); (try clear hfz33_1); (try clear hfz33_2); (try clear hfz33_3); (try clear hfz34_0); (try clear hfz34_1); (try clear hfz34_2); (try clear hfz34_3); (try clear hfz41_0); (try clear hfz41_1); (try clear hfz41_2); (try clear hfz41_3); (try clear hfz45_0); (try clear hfz45_1); (try clear hfz46_0); (try clear hfz46_1); (try clear hfz46_2); (try clear hfz46_3); (try clear hfz49_0); (try clear hfz49_1); (try clear hfz49_2); (try clear hfz49_3); (try clear hfz57_0); (try clear hfz57_1); (try clear hfz61_0); (try clear hfz61_1); (try clear hfz61_2); (try clear hfz61_3); (try clear hfz68_0); (try clear hfz68_1); (try clear hfz68_2); (try clear hfz68_3); (try clear hfz72_0); (try clear hfz72_1); (try clear hfz73_0); (try clear hfz73_1); (try clear hfz73_2); (try clear hfz73_3); (try clear hfz76_0); (try clear hfz76_1); (try clear hfz76_2); (try clear hfz76_3); (try clear hfz84_0); (try clear hfz84_1); (try clear hfz88_0); (try clear hfz88_1); (try clear hfz88_2); (try clear hfz88_3); (try clear hx160_0); (try clear hx160_1); (try clear hx160_2); (try clear hx160_3); (try clear p160); (try clear p2); (try clear q160); obtain ⟨kq, x9_21, x10_21, x158000_21, x158001_21, x163000_21, x163001_21, x163002_21, x163003_21, rfl, rfl, HA, HJ21, BK158, BK161, BK162, HI157, HB⟩ := hcut
             cases kq with
             | zero => exact absurd HA.out (by simp [mosaiclaw02_OctReads.j3])
             | succ kj21 =>
              have H := HA.out; clear HA; simp only [mosaiclaw02_OctReads.j3] at H
              by_cases c89 : x9_21 = x163002_21
              ·
               rw [if_pos c89] at H
               have c89b0 : (x9_21 == x163002_21) = true := beq_iff_eq.mpr c89
               have c89b1 : (x9_21 != x163002_21) = false := bne_eq_false_iff_eq.mpr c89
               clear c89; by_cases c90 : x10_21.toList = x163003_21.toList
               ·
                rw [if_pos c90] at H
                have c90b0 : (x10_21.toList == x163003_21.toList) = true := beq_iff_eq.mpr c90
                have c90b1 : (x10_21.toList != x163003_21.toList) = false := bne_eq_false_iff_eq.mpr c90
                clear c90; replace H := Option.bind_eq_some_iff.mp H
                obtain ⟨⟨t191, t192, t193⟩, A910, H⟩ := H
                replace H : ((mosaicref02_Reader_Left.f x163000_21 x163001_21).bind fun t194 => (if t191 = t194 then ((oct_Reader_Err.f t192 t193).bind fun bt195 => (if bt195.1 = x163001_21 then ((oct_Reader_End.f bt195.2.1 bt195.2.2).bind fun bt198 => ((mosaicref02_Reader_End.f x163000_21 x163001_21).bind fun t201 => (if bt198.1 = t201 then (mosaiclaw02_OctReads.l0 kj21 l1 (wrap64 (x7_2 + 1)) bt198.2.1 bt198.2.2 x163000_21 x163001_21) else (some false)))) else (some false))) else (some false))) = some r := H
                have A91 := Aside0.mk A910
                clear A910; replace H := Option.bind_eq_some_iff.mp H
                obtain ⟨t194, A920, H⟩ := H
                replace H : (if t191 = t194 then ((oct_Reader_Err.f t192 t193).bind fun bt195 => (if bt195.1 = x163001_21 then ((oct_Reader_End.f bt195.2.1 bt195.2.2).bind fun bt198 => ((mosaicref02_Reader_End.f x163000_21 x163001_21).bind fun t201 => (if bt198.1 = t201 then (mosaiclaw02_OctReads.l0 kj21 l1 (wrap64 (x7_2 + 1)) bt198.2.1 bt198.2.2 x163000_21 x163001_21) else (some false)))) else (some false))) else (some false)) = some r := H
                have A92 := Aside0.mk A920
                clear A920; by_cases c93 : t191 = t194
                ·
                 rw [if_pos c93] at H
                 have c93b0 : (t191 == t194) = true := beq_iff_eq.mpr c93
                 have c93b1 : (t191 != t194) = false := bne_eq_false_iff_eq.mpr c93
                 clear c93; replace H := Option.bind_eq_some_iff.mp H
                 obtain ⟨⟨t195, t196, t197⟩, A940, H⟩ := H
                 replace H : (if t195 = x163001_21 then ((oct_Reader_End.f t196 t197).bind fun bt198 => ((mosaicref02_Reader_End.f x163000_21 x163001_21).bind fun t201 => (if bt198.1 = t201 then (mosaiclaw02_OctReads.l0 kj21 l1 (wrap64 (x7_2 + 1)) bt198.2.1 bt198.2.2 x163000_21 x163001_21) else (some false)))) else (some false)) = some r := H
                 have A94 := Aside0.mk A940
                 clear A940; by_cases c95 : t195 = x163001_21
                 ·
                  rw [if_pos c95] at H
                  have c95b0 : (t195 == x163001_21) = true := beq_iff_eq.mpr c95
                  have c95b1 : (t195 != x163001_21) = false := bne_eq_false_iff_eq.mpr c95
                  clear c95; replace H := Option.bind_eq_some_iff.mp H
                  obtain ⟨⟨t198, t199, t200⟩, A960, H⟩ := H
                  replace H : ((mosaicref02_Reader_End.f x163000_21 x163001_21).bind fun t201 => (if t198 = t201 then (mosaiclaw02_OctReads.l0 kj21 l1 (wrap64 (x7_2 + 1)) t199 t200 x163000_21 x163001_21) else (some false))) = some r := H
                  have A96 := Aside0.mk A960
                  clear A960; replace H := Option.bind_eq_some_iff.mp H
                  obtain ⟨t201, A970, H⟩ := H
                  replace H : (if t198 = t201 then (mosaiclaw02_OctReads.l0 kj21 l1 (wrap64 (x7_2 + 1)) t199 t200 x163000_21 x163001_21) else (some false)) = some r := H
                  have A97 := Aside0.mk A970
                  clear A970; by_cases c98 : t198 = t201
                  ·
                   rw [if_pos c98] at H
                   have c98b0 : (t198 == t201) = true := beq_iff_eq.mpr c98
                   have c98b1 : (t198 != t201) = false := bne_eq_false_iff_eq.mpr c98
                   clear c98; have H' := Aside0.mk H
                   clear H; have hnb99 := NB162_158.out; have hnc99 := NB158_162.out; have hnb100 := NB162_161.out; have hnc100 := NB161_162.out; have hnb101 := NB162_157.out; have hnc101 := NB157_162.out; have hcz102_0 : wc.cell? ⟨gb162, 0, none⟩ = some (.string x163000_21) := (blk_cell BK162.out 0).trans rfl
                   have hcz102_1 : wc.cell? ⟨gb162, 1, none⟩ = some (.int .i64 x163001_21) := (blk_cell BK162.out 1).trans rfl
                   have hcz102_2 : wc.cell? ⟨gb162, 2, none⟩ = some (.int .i64 x163002_21) := (blk_cell BK162.out 2).trans rfl
                   have hcz102_3 : wc.cell? ⟨gb162, 3, none⟩ = some (.string x163003_21) := (blk_cell BK162.out 3).trans rfl
                   have hfz102_0 := blk_frozen BK162.out 0; have hfz102_1 := blk_frozen BK162.out 1; have hfz102_2 := blk_frozen BK162.out 2; have hfz102_3 := blk_frozen BK162.out 3; have hnb103 := NB158_161.out; have hnc103 := NB161_158.out; have hnb104 := NB158_157.out; have hnc104 := NB157_158.out; have hcz105_0 : wc.cell? ⟨gb158, 0, none⟩ = some (.string x159000_2) := (blk_cell BK158.out 0).trans rfl
                   have hcz105_1 : wc.cell? ⟨gb158, 1, none⟩ = some (.int .i64 x159001_2) := (blk_cell BK158.out 1).trans rfl
                   have hfz105_0 := blk_frozen BK158.out 0; have hfz105_1 := blk_frozen BK158.out 1; try go_wp2
                   have n0_ : Aside0 (((wc.setCell ⟨gb158, 0, none⟩ (.string x163000_21)).setCell ⟨gb158, 1, none⟩ (.int .i64 x163001_21)).heap[gb158]? = some (.cells #[.string x163000_21, .int .i64 x163001_21] 48 (0, 0))) := ⟨by (with_reducible repeat (first | refine blk_drewN ?_ _ | refine blk_drew ?_ | refine blk_alloc ?_ _)); refine blk_put (cs := #[.string x163000_21, .int .i64 x159001_2]) ?_ 1 _ rfl; (with_reducible repeat (first | refine blk_drewN ?_ _ | refine blk_drew ?_ | refine blk_alloc ?_ _)); refine blk_put (cs := #[.string x159000_2, .int .i64 x159001_2]) ?_ 0 _ rfl; (with_reducible repeat (first | refine blk_drewN ?_ _ | refine blk_drew ?_ | refine blk_alloc ?_ _)); exact BK158.out⟩
                   have n1_ : Aside0 (((wc.setCell ⟨gb158, 0, none⟩ (.string x163000_21)).setCell ⟨gb158, 1, none⟩ (.int .i64 x163001_21)).heap[gb161]? = some (.cells #[.int .i64 ((rd_T37 l1 x7_2).f0), .int .i64 ((rd_T37 l1 x7_2).f1), .int .i64 ((rd_T37 l1 x7_2).f2), .string ((rd_T37 l1 x7_2).f3)] 37 (0, 0))) := ⟨by (with_reducible repeat (first | refine blk_drewN ?_ _ | refine blk_drew ?_ | refine blk_alloc ?_ _)); refine blk_far ?_ NB161_158.out _; (with_reducible repeat (first | refine blk_drewN ?_ _ | refine blk_drew ?_ | refine blk_alloc ?_ _)); refine blk_far ?_ NB161_158.out _; (with_reducible repeat (first | refine blk_drewN ?_ _ | refine blk_drew ?_ | refine blk_alloc ?_ _)); exact BK161.out⟩
                   have n2_ : Aside0 (((wc.setCell ⟨gb158, 0, none⟩ (.string x163000_21)).setCell ⟨gb158, 1, none⟩ (.int .i64 x163001_21)).heap[gb162]? = some (.cells #[.string x163000_21, .int .i64 x163001_21, .int .i64 x163002_21, .string x163003_21] 50 (0, 0))) := ⟨by (with_reducible repeat (first | refine blk_drewN ?_ _ | refine blk_drew ?_ | refine blk_alloc ?_ _)); refine blk_far ?_ NB162_158.out _; (with_reducible repeat (first | refine blk_drewN ?_ _ | refine blk_drew ?_ | refine blk_alloc ?_ _)); refine blk_far ?_ NB162_158.out _; (with_reducible repeat (first | refine blk_drewN ?_ _ | refine blk_drew ?_ | refine blk_alloc ?_ _)); exact BK162.out⟩
                   have n3_ : Aside0 (IsS70 w ((wc.setCell ⟨gb158, 0, none⟩ (.string x163000_21)).setCell ⟨gb158, 1, none⟩ (.int .i64 x163001_21)) g157 x158000_21 x158001_21) := ⟨by repeat (first | (with_reducible first | exact HI157.out | apply IsS70.alloc | apply IsS70.drewN | apply IsS70.drew | apply IsS70.set_0 | apply IsS70.set_1 | refine IsS70.far ?_ NB157_158.out _ | refine IsS70.far ?_ NB157_161.out _ | refine IsS70.far ?_ NB157_162.out _) | exact HI157.out)⟩
                   have n4_ : Aside0 (Below w.heap.size w ((wc.setCell ⟨gb158, 0, none⟩ (.string x163000_21)).setCell ⟨gb158, 1, none⟩ (.int .i64 x163001_21))) := ⟨by repeat (first | (with_reducible first | exact HB.out | apply below_alloc | apply pw_below_drewN | apply below_drew1 | refine below_set ?_ (IsS70.ge HI157.out) | refine below_set ?_ GE158.out | refine below_set ?_ GE161.out | refine below_set ?_ GE162.out) | exact HB.out)⟩
                   (try clear BK158); (try clear BK161); (try clear BK162); (try clear HI157); (try clear HB); generalize ((wc.setCell ⟨gb158, 0, none⟩ (.string x163000_21)).setCell ⟨gb158, 1, none⟩ (.int .i64 x163001_21)) = w106 at n0_ n1_ n2_ n3_ n4_ ⊢
                   have BK158 := n0_; have BK161 := n1_; have BK162 := n2_; have HI157 := n3_; have HB := n4_; clear n0_ n1_ n2_ n3_ n4_; have n0_ := Aside0.mk (blk_drew BK158.out)
                   have n1_ := Aside0.mk (blk_drew BK161.out)
                   have n2_ := Aside0.mk (blk_drew BK162.out)
                   have n3_ := Aside0.mk (IsS70.drew HI157.out)
                   have n4_ := Aside0.mk (below_drew1 HB.out)
                   clear BK158 BK161 BK162 HI157 HB; have BK158 := n0_; have BK161 := n1_; have BK162 := n2_; have HI157 := n3_; have HB := n4_; clear n0_ n1_ n2_ n3_ n4_; refine start_ (n := 31) (S := fun w' => w'.cell? ⟨gb162, 0, none⟩ = some (.string x163000_21) ∧ w'.cell? ⟨gb162, 1, none⟩ = some (.int .i64 x163001_21) ∧ w'.cell? ⟨gb162, 2, none⟩ = some (.int .i64 x163002_21) ∧ w'.cell? ⟨gb162, 3, none⟩ = some (.string x163003_21) ∧ w'.cell? ⟨gb158, 0, none⟩ = some (.string x163000_21) ∧ w'.cell? ⟨gb158, 1, none⟩ = some (.int .i64 x163001_21)) (ds := []) (mkB0 31 0) (by kernel_rfl) rfl rfl ⟨(blk_cell BK162.out 0).trans rfl, (blk_cell BK162.out 1).trans rfl, (blk_cell BK162.out 2).trans rfl, (blk_cell BK162.out 3).trans rfl, (blk_cell BK158.out 0).trans rfl, (blk_cell BK158.out 1).trans rfl⟩ (fun hHeld => ?_); refine with_tabW mosaiclaw02_OctReads.tab27 mosaiclaw02_OctReads.bits27 (fun HT_ HW_ => ?_)
                   generalize w106.drew = w107 at BK158 BK161 BK162 HI157 HB hHeld ⊢
                   refine pure_ (i := 0) (N := some 81) (v := ?_) (a' := ?_) (mkB0 31 1) rfl rfl (any_of HT_.out (by kernel_rfl)) (fun _ _ _ h => h) (Or.inl ⟨by rfl, ?_⟩) ?_ ?_
                   rotate_left
                   ·
                    intro w'; go_simp; with_reducible rfl
                   rotate_left
                   ·
                    simp only [Act.put, List.setIfInBounds_toArray, List.set_cons_zero, List.set_cons_succ, i64_w, i32_w]; rfl
                   refine pure_ (i := 1) (N := some 82) (v := ?_) (a' := ?_) (mkB0 31 3) rfl rfl (any_of HT_.out (by kernel_rfl)) (fun _ _ _ h => h) (Or.inl ⟨by rfl, ?_⟩) ?_ ?_
                   rotate_left
                   ·
                    intro w'; go_simp; with_reducible rfl
                   rotate_left
                   ·
                    simp only [Act.put, List.setIfInBounds_toArray, List.set_cons_zero, List.set_cons_succ, i64_w, i32_w]; rfl
                   refine take_ (i := 2) (N := some 83) (v := ?_) (a' := ?_) (mkB0 31 7) rfl rfl (take_ofW HT_.out HW_.out (by kernel_rfl)) (fun _ _ _ h => h) (Or.inl ⟨by rfl, ?_⟩) hHeld ?_ ?_
                   rotate_left
                   ·
                    rintro w' ⟨s0, s1, s2, s3, s4, s5⟩
                    go_simp; with_reducible rfl
                   rotate_left
                   ·
                    simp only [Act.put, List.setIfInBounds_toArray, List.set_cons_zero, List.set_cons_succ, i64_w, i32_w]; rfl
                   refine pure_ (i := 3) (N := some 84) (v := ?_) (a' := ?_) (mkB0 31 15) rfl rfl (any_of HT_.out (by kernel_rfl)) (fun _ _ _ h => h) (Or.inl ⟨by rfl, ?_⟩) ?_ ?_
                   rotate_left
                   ·
                    intro w'; go_simp; with_reducible rfl
                   rotate_left
                   ·
                    simp only [Act.put, List.setIfInBounds_toArray, List.set_cons_zero, List.set_cons_succ, i64_w, i32_w]; rfl
                   refine pure_ (i := 4) (N := some 85) (v := ?_) (a' := ?_) (mkB0 31 31) rfl rfl (any_of HT_.out (by kernel_rfl)) (fun _ _ _ h => h) (Or.inl ⟨by rfl, ?_⟩) ?_ ?_
                   rotate_left
                   ·
                    intro w'; go_simp; with_reducible rfl
                   rotate_left
                   ·
                    simp only [Act.put, List.setIfInBounds_toArray, List.set_cons_zero, List.set_cons_succ, i64_w, i32_w]; rfl
                   refine pure_ (i := 5) (N := some 86) (v := ?_) (a' := ?_) (mkB0 31 63) rfl rfl (any_of HT_.out (by kernel_rfl)) (fun _ _ _ h => h) (Or.inl ⟨by rfl, ?_⟩) ?_ ?_
                   rotate_left
                   ·
                    intro w'; go_simp; with_reducible rfl
                   rotate_left
                   ·
                    simp only [Act.put, List.setIfInBounds_toArray, List.set_cons_zero, List.set_cons_succ, i64_w, i32_w]; rfl
                   refine pure_ (i := 6) (N := some 87) (v := ?_) (a' := ?_) (mkB0 31 127) rfl rfl (any_of HT_.out (by kernel_rfl)) (fun _ _ _ h => h) (Or.inl ⟨by rfl, ?_⟩) ?_ ?_
                   rotate_left
                   ·
                    intro w'; go_simp; with_reducible rfl
                   rotate_left
                   ·
                    simp only [Act.put, List.setIfInBounds_toArray, List.set_cons_zero, List.set_cons_succ, i64_w, i32_w]; rfl
                   refine take_ (i := 7) (N := some 88) (v := ?_) (a' := ?_) (mkB0 31 255) rfl rfl (take_ofW HT_.out HW_.out (by kernel_rfl)) (fun _ _ _ h => h) (Or.inl ⟨by rfl, ?_⟩) hHeld ?_ ?_
                   rotate_left
                   ·
                    rintro w' ⟨s0, s1, s2, s3, s4, s5⟩
                    go_simp; with_reducible rfl
                   rotate_left
                   ·
                    simp only [Act.put, List.setIfInBounds_toArray, List.set_cons_zero, List.set_cons_succ, i64_w, i32_w]; rfl
                   refine pure_ (i := 8) (N := some 89) (v := ?_) (a' := ?_) (mkB0 31 511) rfl rfl (any_of HT_.out (by kernel_rfl)) (fun _ _ _ h => h) (Or.inl ⟨by rfl, ?_⟩) ?_ ?_
                   rotate_left
                   ·
                    intro w'; go_simp; with_reducible rfl
                   rotate_left
                   ·
                    simp only [Act.put, List.setIfInBounds_toArray, List.set_cons_zero, List.set_cons_succ, i64_w, i32_w]; rfl
                   refine pure_ (i := 9) (N := some 90) (v := ?_) (a' := ?_) (mkB0 31 1023) rfl rfl (any_of HT_.out (by kernel_rfl)) (fun _ _ _ h => h) (Or.inl ⟨by rfl, ?_⟩) ?_ ?_
                   rotate_left
                   ·
                    intro w'; go_simp; with_reducible rfl
                   rotate_left
                   ·
                    simp only [Act.put, List.setIfInBounds_toArray, List.set_cons_zero, List.set_cons_succ, i64_w, i32_w]; rfl
                   refine pure_ (i := 10) (N := some 91) (v := ?_) (a' := ?_) (mkB0 31 2047) rfl rfl (any_of HT_.out (by kernel_rfl)) (fun _ _ _ h => h) (Or.inl ⟨by rfl, ?_⟩) ?_ ?_
                   rotate_left
                   ·
                    intro w'; go_simp; with_reducible rfl
                   rotate_left
                   ·
                    simp only [Act.put, List.setIfInBounds_toArray, List.set_cons_zero, List.set_cons_succ, i64_w, i32_w]; rfl
                   refine pure_ (i := 11) (N := some 92) (v := ?_) (a' := ?_) (mkB0 31 4095) rfl rfl (any_of HT_.out (by kernel_rfl)) (fun _ _ _ h => h) (Or.inl ⟨by rfl, ?_⟩) ?_ ?_
                   rotate_left
                   ·
                    intro w'; go_simp; with_reducible rfl
                   rotate_left
                   ·
                    simp only [Act.put, List.setIfInBounds_toArray, List.set_cons_zero, List.set_cons_succ, i64_w, i32_w]; rfl
                   refine take_ (i := 13) (N := some 94) (v := ?_) (a' := ?_) (mkB0 31 12287) rfl rfl (take_ofW HT_.out HW_.out (by kernel_rfl)) (fun _ _ _ h => h) (Or.inl ⟨by rfl, ?_⟩) hHeld ?_ ?_
                   rotate_left
                   ·
                    rintro w' ⟨s0, s1, s2, s3, s4, s5⟩
                    go_simp; with_reducible rfl
                   rotate_left
                   ·
                    simp only [Act.put, List.setIfInBounds_toArray, List.set_cons_zero, List.set_cons_succ, i64_w, i32_w]; rfl
                   refine one_ (i := 12) (N := some 93) (mkB0 31 16383) rfl rfl (one_of HT_.out (by kernel_rfl)) (by decide) (fun K hK => ?_)
                   refine goes_ Try.func31 (by kernel_rfl) rfl #[.pointer (some ⟨g157, 0, none⟩)] (by rfl) rfl rfl (by (try simp only [List.map_toArray, List.map_cons, List.map_nil]); first | done | rfl | (simp only [List.length_drop, List.length_take]; rfl)) ?_
                   with_reducible refine (oct_Reader_Left.calls g157 x158000_21 x158001_21 t191 t192 t193 w _ ?side1 ?side2 A91.out).mono ?_
                   (case side1 => repeat (first | (with_reducible first | exact HI157.out | apply IsS70.alloc | apply IsS70.drewN | apply IsS70.drew | apply IsS70.set_0 | apply IsS70.set_1 | refine IsS70.far ?_ NB157_158.out _ | refine IsS70.far ?_ NB157_161.out _ | refine IsS70.far ?_ NB157_162.out _) | exact HI157.out))
                   (case side2 => repeat (first | (with_reducible first | exact HB.out | apply below_alloc | apply pw_below_drewN | apply below_drew1 | refine below_set ?_ (IsS70.ge HI157.out) | refine below_set ?_ GE158.out | refine below_set ?_ GE161.out | refine below_set ?_ GE162.out) | exact HB.out))
                   rintro e w108 ⟨rfl, hi, hb, hk⟩; refine ⟨_, rfl, ?_⟩; have n0_ := Aside0.mk (KeepBut.blk hk (g' := gb158) (o := .cells #[.string x163000_21, .int .i64 x163001_21] 48 (0, 0)) (by (with_reducible repeat (first | refine blk_drewN ?_ _ | refine blk_drew ?_ | refine blk_alloc ?_ _)); exact BK158.out) NB158_157.out (by simp))
                   have n1_ := Aside0.mk (KeepBut.blk hk (g' := gb161) (o := .cells #[.int .i64 ((rd_T37 l1 x7_2).f0), .int .i64 ((rd_T37 l1 x7_2).f1), .int .i64 ((rd_T37 l1 x7_2).f2), .string ((rd_T37 l1 x7_2).f3)] 37 (0, 0)) (by (with_reducible repeat (first | refine blk_drewN ?_ _ | refine blk_drew ?_ | refine blk_alloc ?_ _)); exact BK161.out) NB161_157.out (by simp))
                   have n2_ := Aside0.mk (KeepBut.blk hk (g' := gb162) (o := .cells #[.string x163000_21, .int .i64 x163001_21, .int .i64 x163002_21, .string x163003_21] 50 (0, 0)) (by (with_reducible repeat (first | refine blk_drewN ?_ _ | refine blk_drew ?_ | refine blk_alloc ?_ _)); exact BK162.out) NB162_157.out (by simp))
                   have n3_ := Aside0.mk (hb)
                   have n4_ := Aside0.mk (hi)
                   clear BK158 BK161 BK162 HB HI157; have BK158 := n0_; have BK161 := n1_; have BK162 := n2_; have HB := n3_; have HI157 := n4_; clear n0_ n1_ n2_ n3_ n4_; (try clear hb); (try clear hb2); (try clear hk); (try clear hi); refine hK.out _ _ ⟨(blk_cell BK162.out 0).trans rfl, (blk_cell BK162.out 1).trans rfl, (blk_cell BK162.out 2).trans rfl, (blk_cell BK162.out 3).trans rfl, (blk_cell BK158.out 0).trans rfl, (blk_cell BK158.out 1).trans rfl⟩ (fun hHeld => ?_)
                   clear hK K; refine norm_ (a' := ?_) ?_ ?_
                   rotate_left
                   ·
                    show Act.put _ (some 93) _ = _
                    simp only [Act.put, List.setIfInBounds_toArray, List.set_cons_zero, List.set_cons_succ, i64_w, i32_w]; rfl
                   refine one_ (i := 14) (N := some 95) (mkB0 31 32767) rfl rfl (one_of HT_.out (by kernel_rfl)) (by decide) (fun K hK => ?_)
                   refine goes_ Try.func32 (by kernel_rfl) rfl #[.agg #[.string x163000_21, .int .i64 x163001_21]] (by rfl) rfl rfl (by (try simp only [List.map_toArray, List.map_cons, List.map_nil]); first | done | rfl | (simp only [List.length_drop, List.length_take]; rfl)) ?_
                   with_reducible refine (mosaicref02_Reader_Left.calls x163000_21 x163001_21 t194 _ A92.out).mono ?_
                   rintro e w109 ⟨rfl, hb⟩; refine ⟨_, rfl, ?_⟩; have n0_ := Aside0.mk (blk_below (g := gb158) (o := .cells #[.string x163000_21, .int .i64 x163001_21] 48 (0, 0)) (by (with_reducible repeat (first | refine blk_drewN ?_ _ | refine blk_drew ?_ | refine blk_alloc ?_ _)); exact BK158.out) hb)
                   have n1_ := Aside0.mk (blk_below (g := gb161) (o := .cells #[.int .i64 ((rd_T37 l1 x7_2).f0), .int .i64 ((rd_T37 l1 x7_2).f1), .int .i64 ((rd_T37 l1 x7_2).f2), .string ((rd_T37 l1 x7_2).f3)] 37 (0, 0)) (by (with_reducible repeat (first | refine blk_drewN ?_ _ | refine blk_drew ?_ | refine blk_alloc ?_ _)); exact BK161.out) hb)
                   have n2_ := Aside0.mk (blk_below (g := gb162) (o := .cells #[.string x163000_21, .int .i64 x163001_21, .int .i64 x163002_21, .string x163003_21] 50 (0, 0)) (by (with_reducible repeat (first | refine blk_drewN ?_ _ | refine blk_drew ?_ | refine blk_alloc ?_ _)); exact BK162.out) hb)
                   have n3_ := Aside0.mk (IsS70.below (by repeat (first | (with_reducible first | exact HI157.out | apply IsS70.alloc | apply IsS70.drewN | apply IsS70.drew | apply IsS70.set_0 | apply IsS70.set_1 | refine IsS70.far ?_ NB157_158.out _ | refine IsS70.far ?_ NB157_161.out _ | refine IsS70.far ?_ NB157_162.out _) | exact HI157.out)) hb)
                   have n4_ := Aside0.mk (below_step (by repeat (first | (with_reducible first | exact HB.out | apply below_alloc | apply pw_below_drewN | apply below_drew1 | refine below_set ?_ (IsS70.ge HI157.out) | refine below_set ?_ GE158.out | refine below_set ?_ GE161.out | refine below_set ?_ GE162.out) | exact HB.out)) hb)
                   clear BK158 BK161 BK162 HI157 HB; have BK158 := n0_; have BK161 := n1_; have BK162 := n2_; have HI157 := n3_; have HB := n4_; clear n0_ n1_ n2_ n3_ n4_; (try clear hb); (try clear hb2); (try clear hk); (try clear hi); refine hK.out _ _ ⟨(blk_cell BK162.out 0).trans rfl, (blk_cell BK162.out 1).trans rfl, (blk_cell BK162.out 2).trans rfl, (blk_cell BK162.out 3).trans rfl, (blk_cell BK158.out 0).trans rfl, (blk_cell BK158.out 1).trans rfl⟩ (fun hHeld => ?_)
                   clear hK K; refine norm_ (a' := ?_) ?_ ?_
                   rotate_left
                   ·
                    show Act.put _ (some 95) _ = _
                    simp only [Act.put, List.setIfInBounds_toArray, List.set_cons_zero, List.set_cons_succ, i64_w, i32_w]; rfl
                   refine pure_ (i := 15) (N := some 96) (v := ?_) (a' := ?_) (mkB0 31 65535) rfl rfl (any_of HT_.out (by kernel_rfl)) (fun _ _ _ h => h) (Or.inl ⟨by rfl, ?_⟩) ?_ ?_
                   rotate_left
                   ·
                    intro w'; go_simp; with_reducible rfl
                   rotate_left
                   ·
                    simp only [Act.put, List.setIfInBounds_toArray, List.set_cons_zero, List.set_cons_succ, i64_w, i32_w]; rfl
                   refine pure_ (i := 16) (N := some 97) (v := ?_) (a' := ?_) (mkB0 31 131071) rfl rfl (any_of HT_.out (by kernel_rfl)) (fun _ _ _ h => h) (Or.inl ⟨by rfl, ?_⟩) ?_ ?_
                   rotate_left
                   ·
                    intro w'; go_simp; with_reducible rfl
                   rotate_left
                   ·
                    simp only [Act.put, List.setIfInBounds_toArray, List.set_cons_zero, List.set_cons_succ, i64_w, i32_w]; rfl
                   refine pure_ (i := 17) (N := some 98) (v := ?_) (a' := ?_) (mkB0 31 262143) rfl rfl (any_of HT_.out (by kernel_rfl)) (fun _ _ _ h => h) (Or.inl ⟨by rfl, ?_⟩) ?_ ?_
                   rotate_left
                   ·
                    intro w'; go_simp; with_reducible rfl
                   rotate_left
                   ·
                    simp only [Act.put, List.setIfInBounds_toArray, List.set_cons_zero, List.set_cons_succ, i64_w, i32_w]; rfl
                   refine pure_ (i := 18) (N := some 99) (v := ?_) (a' := ?_) (mkB0 31 524287) rfl rfl (any_of HT_.out (by kernel_rfl)) (fun _ _ _ h => h) (Or.inl ⟨by rfl, ?_⟩) ?_ ?_
                   rotate_left
                   ·
                    intro w'; go_simp; with_reducible rfl
                   rotate_left
                   ·
                    simp only [Act.put, List.setIfInBounds_toArray, List.set_cons_zero, List.set_cons_succ, i64_w, i32_w]; rfl
                   refine pure_ (i := 20) (N := some 101) (v := ?_) (a' := ?_) (mkB0 31 1572863) rfl rfl (any_of HT_.out (by kernel_rfl)) (fun _ _ _ h => h) (Or.inl ⟨by rfl, ?_⟩) ?_ ?_
                   rotate_left
                   ·
                    intro w'; go_simp; with_reducible rfl
                   rotate_left
                   ·
                    simp only [Act.put, List.setIfInBounds_toArray, List.set_cons_zero, List.set_cons_succ, i64_w, i32_w]; rfl
                   refine take_ (i := 21) (N := some 102) (v := ?_) (a' := ?_) (mkB0 31 3670015) rfl rfl (take_ofW HT_.out HW_.out (by kernel_rfl)) (fun _ _ _ h => h) (Or.inl ⟨by rfl, ?_⟩) hHeld ?_ ?_
                   rotate_left
                   ·
                    rintro w' ⟨s0, s1, s2, s3, s4, s5⟩
                    go_simp; with_reducible rfl
                   rotate_left
                   ·
                    simp only [Act.put, List.setIfInBounds_toArray, List.set_cons_zero, List.set_cons_succ, i64_w, i32_w]; rfl
                   refine one_ (i := 19) (N := some 100) (mkB0 31 4194303) rfl rfl (one_of HT_.out (by kernel_rfl)) (by decide) (fun K hK => ?_)
                   refine goes_ Try.func33 (by kernel_rfl) rfl #[.pointer (some ⟨g157, 0, none⟩)] (by rfl) rfl rfl (by (try simp only [List.map_toArray, List.map_cons, List.map_nil]); first | done | rfl | (simp only [List.length_drop, List.length_take]; rfl)) ?_
                   with_reducible refine (oct_Reader_Err.calls g157 t192 t193 t195 t196 t197 w _ ?side1 ?side2 A94.out).mono ?_
                   (case side1 => repeat (first | (with_reducible first | exact HI157.out | apply IsS70.alloc | apply IsS70.drewN | apply IsS70.drew | apply IsS70.set_0 | apply IsS70.set_1 | refine IsS70.far ?_ NB157_158.out _ | refine IsS70.far ?_ NB157_161.out _ | refine IsS70.far ?_ NB157_162.out _) | exact HI157.out))
                   (case side2 => repeat (first | (with_reducible first | exact HB.out | apply below_alloc | apply pw_below_drewN | apply below_drew1 | refine below_set ?_ (IsS70.ge HI157.out) | refine below_set ?_ GE158.out | refine below_set ?_ GE161.out | refine below_set ?_ GE162.out) | exact HB.out))
                   rintro e w110 ⟨rfl, hi, hb, hk⟩; refine ⟨_, rfl, ?_⟩; have n0_ := Aside0.mk (KeepBut.blk hk (g' := gb158) (o := .cells #[.string x163000_21, .int .i64 x163001_21] 48 (0, 0)) (by (with_reducible repeat (first | refine blk_drewN ?_ _ | refine blk_drew ?_ | refine blk_alloc ?_ _)); exact BK158.out) NB158_157.out (by simp))
                   have n1_ := Aside0.mk (KeepBut.blk hk (g' := gb161) (o := .cells #[.int .i64 ((rd_T37 l1 x7_2).f0), .int .i64 ((rd_T37 l1 x7_2).f1), .int .i64 ((rd_T37 l1 x7_2).f2), .string ((rd_T37 l1 x7_2).f3)] 37 (0, 0)) (by (with_reducible repeat (first | refine blk_drewN ?_ _ | refine blk_drew ?_ | refine blk_alloc ?_ _)); exact BK161.out) NB161_157.out (by simp))
                   have n2_ := Aside0.mk (KeepBut.blk hk (g' := gb162) (o := .cells #[.string x163000_21, .int .i64 x163001_21, .int .i64 x163002_21, .string x163003_21] 50 (0, 0)) (by (with_reducible repeat (first | refine blk_drewN ?_ _ | refine blk_drew ?_ | refine blk_alloc ?_ _)); exact BK162.out) NB162_157.out (by simp))
                   have n3_ := Aside0.mk (hb)
                   have n4_ := Aside0.mk (hi)
                   clear BK158 BK161 BK162 HB HI157; have BK158 := n0_; have BK161 := n1_; have BK162 := n2_; have HB := n3_; have HI157 := n4_; clear n0_ n1_ n2_ n3_ n4_; (try clear hb); (try clear hb2); (try clear hk); (try clear hi); refine hK.out _ _ ⟨(blk_cell BK162.out 0).trans rfl, (blk_cell BK162.out 1).trans rfl, (blk_cell BK162.out 2).trans rfl, (blk_cell BK162.out 3).trans rfl, (blk_cell BK158.out 0).trans rfl, (blk_cell BK158.out 1).trans rfl⟩ (fun hHeld => ?_)
                   clear hK K; refine norm_ (a' := ?_) ?_ ?_
                   rotate_left
                   ·
                    show Act.put _ (some 100) _ = _
                    simp only [Act.put, List.setIfInBounds_toArray, List.set_cons_zero, List.set_cons_succ, i64_w, i32_w]; rfl
                   refine pure_ (i := 22) (N := some 103) (v := ?_) (a' := ?_) (mkB0 31 8388607) rfl rfl (any_of HT_.out (by kernel_rfl)) (fun _ _ _ h => h) (Or.inl ⟨by rfl, ?_⟩) ?_ ?_
                   rotate_left
                   ·
                    intro w'; go_simp; with_reducible rfl
                   rotate_left
                   ·
                    simp only [Act.put, List.setIfInBounds_toArray, List.set_cons_zero, List.set_cons_succ, i64_w, i32_w]; rfl
                   refine pure_ (i := 23) (N := some 104) (v := ?_) (a' := ?_) (mkB0 31 16777215) rfl rfl (any_of HT_.out (by kernel_rfl)) (fun _ _ _ h => h) (Or.inl ⟨by rfl, ?_⟩) ?_ ?_
                   rotate_left
                   ·
                    intro w'; go_simp; with_reducible rfl
                   rotate_left
                   ·
                    simp only [Act.put, List.setIfInBounds_toArray, List.set_cons_zero, List.set_cons_succ, i64_w, i32_w]; rfl
                   refine pure_ (i := 24) (N := some 105) (v := ?_) (a' := ?_) (mkB0 31 33554431) rfl rfl (any_of HT_.out (by kernel_rfl)) (fun _ _ _ h => h) (Or.inl ⟨by rfl, ?_⟩) ?_ ?_
                   rotate_left
                   ·
                    intro w'; go_simp; with_reducible rfl
                   rotate_left
                   ·
                    simp only [Act.put, List.setIfInBounds_toArray, List.set_cons_zero, List.set_cons_succ, i64_w, i32_w]; rfl
                   refine pure_ (i := 25) (N := some 106) (v := ?_) (a' := ?_) (mkB0 31 67108863) rfl rfl (any_of HT_.out (by kernel_rfl)) (fun _ _ _ h => h) (Or.inl ⟨by rfl, ?_⟩) ?_ ?_
                   rotate_left
                   ·
                    intro w'; go_simp; with_reducible rfl
                   rotate_left
                   ·
                    simp only [Act.put, List.setIfInBounds_toArray, List.set_cons_zero, List.set_cons_succ, i64_w, i32_w]; rfl
                   refine take_ (i := 27) (N := some 108) (v := ?_) (a' := ?_) (mkB0 31 201326591) rfl rfl (take_ofW HT_.out HW_.out (by kernel_rfl)) (fun _ _ _ h => h) (Or.inl ⟨by rfl, ?_⟩) hHeld ?_ ?_
                   rotate_left
                   ·
                    rintro w' ⟨s0, s1, s2, s3, s4, s5⟩
                    go_simp; with_reducible rfl
                   rotate_left
                   ·
                    simp only [Act.put, List.setIfInBounds_toArray, List.set_cons_zero, List.set_cons_succ, i64_w, i32_w]; rfl
                   refine one_ (i := 26) (N := some 107) (mkB0 31 268435455) rfl rfl (one_of HT_.out (by kernel_rfl)) (by decide) (fun K hK => ?_)
                   refine goes_ Try.func34 (by kernel_rfl) rfl #[.pointer (some ⟨g157, 0, none⟩)] (by rfl) rfl rfl (by (try simp only [List.map_toArray, List.map_cons, List.map_nil]); first | done | rfl | (simp only [List.length_drop, List.length_take]; rfl)) ?_
                   with_reducible refine (oct_Reader_End.calls g157 t196 t197 t198 t199 t200 w _ ?side1 ?side2 A96.out).mono ?_
                   (case side1 => repeat (first | (with_reducible first | exact HI157.out | apply IsS70.alloc | apply IsS70.drewN | apply IsS70.drew | apply IsS70.set_0 | apply IsS70.set_1 | refine IsS70.far ?_ NB157_158.out _ | refine IsS70.far ?_ NB157_161.out _ | refine IsS70.far ?_ NB157_162.out _) | exact HI157.out))
                   (case side2 => repeat (first | (with_reducible first | exact HB.out | apply below_alloc | apply pw_below_drewN | apply below_drew1 | refine below_set ?_ (IsS70.ge HI157.out) | refine below_set ?_ GE158.out | refine below_set ?_ GE161.out | refine below_set ?_ GE162.out) | exact HB.out))
                   rintro e w111 ⟨rfl, hi, hb, hk⟩; refine ⟨_, rfl, ?_⟩; have n0_ := Aside0.mk (KeepBut.blk hk (g' := gb158) (o := .cells #[.string x163000_21, .int .i64 x163001_21] 48 (0, 0)) (by (with_reducible repeat (first | refine blk_drewN ?_ _ | refine blk_drew ?_ | refine blk_alloc ?_ _)); exact BK158.out) NB158_157.out (by simp))
                   have n1_ := Aside0.mk (KeepBut.blk hk (g' := gb161) (o := .cells #[.int .i64 ((rd_T37 l1 x7_2).f0), .int .i64 ((rd_T37 l1 x7_2).f1), .int .i64 ((rd_T37 l1 x7_2).f2), .string ((rd_T37 l1 x7_2).f3)] 37 (0, 0)) (by (with_reducible repeat (first | refine blk_drewN ?_ _ | refine blk_drew ?_ | refine blk_alloc ?_ _)); exact BK161.out) NB161_157.out (by simp))
                   have n2_ := Aside0.mk (KeepBut.blk hk (g' := gb162) (o := .cells #[.string x163000_21, .int .i64 x163001_21, .int .i64 x163002_21, .string x163003_21] 50 (0, 0)) (by (with_reducible repeat (first | refine blk_drewN ?_ _ | refine blk_drew ?_ | refine blk_alloc ?_ _)); exact BK162.out) NB162_157.out (by simp))
                   have n3_ := Aside0.mk (hb)
                   have n4_ := Aside0.mk (hi)
                   clear BK158 BK161 BK162 HB HI157; have BK158 := n0_; have BK161 := n1_; have BK162 := n2_; have HB := n3_; have HI157 := n4_; clear n0_ n1_ n2_ n3_ n4_; (try clear hb); (try clear hb2); (try clear hk); (try clear hi); refine hK.out _ _ ⟨(blk_cell BK162.out 0).trans rfl, (blk_cell BK162.out 1).trans rfl, (blk_cell BK162.out 2).trans rfl, (blk_cell BK162.out 3).trans rfl, (blk_cell BK158.out 0).trans rfl, (blk_cell BK158.out 1).trans rfl⟩ (fun hHeld => ?_)
                   clear hK K; refine norm_ (a' := ?_) ?_ ?_
                   rotate_left
                   ·
                    show Act.put _ (some 107) _ = _
                    simp only [Act.put, List.setIfInBounds_toArray, List.set_cons_zero, List.set_cons_succ, i64_w, i32_w]; rfl
                   refine one_ (i := 28) (N := some 109) (mkB0 31 536870911) rfl rfl (one_of HT_.out (by kernel_rfl)) (by decide) (fun K hK => ?_)
                   refine goes_ Try.func35 (by kernel_rfl) rfl #[.agg #[.string x163000_21, .int .i64 x163001_21]] (by rfl) rfl rfl (by (try simp only [List.map_toArray, List.map_cons, List.map_nil]); first | done | rfl | (simp only [List.length_drop, List.length_take]; rfl)) ?_
                   with_reducible refine (mosaicref02_Reader_End.calls x163000_21 x163001_21 t201 _ A97.out).mono ?_
                   rintro e w112 ⟨rfl, hb⟩; refine ⟨_, rfl, ?_⟩; have n0_ := Aside0.mk (blk_below (g := gb158) (o := .cells #[.string x163000_21, .int .i64 x163001_21] 48 (0, 0)) (by (with_reducible repeat (first | refine blk_drewN ?_ _ | refine blk_drew ?_ | refine blk_alloc ?_ _)); exact BK158.out) hb)
                   have n1_ := Aside0.mk (blk_below (g := gb161) (o := .cells #[.int .i64 ((rd_T37 l1 x7_2).f0), .int .i64 ((rd_T37 l1 x7_2).f1), .int .i64 ((rd_T37 l1 x7_2).f2), .string ((rd_T37 l1 x7_2).f3)] 37 (0, 0)) (by (with_reducible repeat (first | refine blk_drewN ?_ _ | refine blk_drew ?_ | refine blk_alloc ?_ _)); exact BK161.out) hb)
                   have n2_ := Aside0.mk (blk_below (g := gb162) (o := .cells #[.string x163000_21, .int .i64 x163001_21, .int .i64 x163002_21, .string x163003_21] 50 (0, 0)) (by (with_reducible repeat (first | refine blk_drewN ?_ _ | refine blk_drew ?_ | refine blk_alloc ?_ _)); exact BK162.out) hb)
                   have n3_ := Aside0.mk (IsS70.below (by repeat (first | (with_reducible first | exact HI157.out | apply IsS70.alloc | apply IsS70.drewN | apply IsS70.drew | apply IsS70.set_0 | apply IsS70.set_1 | refine IsS70.far ?_ NB157_158.out _ | refine IsS70.far ?_ NB157_161.out _ | refine IsS70.far ?_ NB157_162.out _) | exact HI157.out)) hb)
                   have n4_ := Aside0.mk (below_step (by repeat (first | (with_reducible first | exact HB.out | apply below_alloc | apply pw_below_drewN | apply below_drew1 | refine below_set ?_ (IsS70.ge HI157.out) | refine below_set ?_ GE158.out | refine below_set ?_ GE161.out | refine below_set ?_ GE162.out) | exact HB.out)) hb)
                   clear BK158 BK161 BK162 HI157 HB; have BK158 := n0_; have BK161 := n1_; have BK162 := n2_; have HI157 := n3_; have HB := n4_; clear n0_ n1_ n2_ n3_ n4_; (try clear hb); (try clear hb2); (try clear hk); (try clear hi); refine hK.out _ _ ⟨(blk_cell BK162.out 0).trans rfl, (blk_cell BK162.out 1).trans rfl, (blk_cell BK162.out 2).trans rfl, (blk_cell BK162.out 3).trans rfl, (blk_cell BK158.out 0).trans rfl, (blk_cell BK158.out 1).trans rfl⟩ (fun hHeld => ?_)
                   clear hK K; refine norm_ (a' := ?_) ?_ ?_
                   rotate_left
                   ·
                    show Act.put _ (some 109) _ = _
                    simp only [Act.put, List.setIfInBounds_toArray, List.set_cons_zero, List.set_cons_succ, i64_w, i32_w]; rfl
                   refine pure_ (i := 29) (N := some 110) (v := ?_) (a' := ?_) (mkB0 31 1073741823) rfl rfl (any_of HT_.out (by kernel_rfl)) (fun _ _ _ h => h) (Or.inl ⟨by rfl, ?_⟩) ?_ ?_
                   rotate_left
                   ·
                    intro w'; go_simp; with_reducible rfl
                   rotate_left
                   ·
                    simp only [Act.put, List.setIfInBounds_toArray, List.set_cons_zero, List.set_cons_succ, i64_w, i32_w]; rfl
                   refine pure_ (i := 30) (N := some 111) (v := ?_) (a' := ?_) (mkB0 31 2147483647) rfl rfl (any_of HT_.out (by kernel_rfl)) (fun _ _ _ h => h) (Or.inl ⟨by rfl, ?_⟩) ?_ ?_
                   rotate_left
                   ·
                    intro w'; go_simp; with_reducible rfl
                   rotate_left
                   ·
                    simp only [Act.put, List.setIfInBounds_toArray, List.set_cons_zero, List.set_cons_succ, i64_w, i32_w]; rfl
                   refine done_ (done_of HT_.out (by kernel_rfl)) ?_
                   try go_wp2
                   go_roundg kj21
                   case measure => have := HJ6.out; have := HK2.out; have := HJ16.out; have := HJ21.out; omega
                   case rel => exact ⟨(wrap64 (x7_2 + 1)), (t199), (t200), (x163000_21), (x163001_21), (by first | rfl | (simp; done) | (simp [*]; done)), H', ⟨by have := HJ6.out; have := HK2.out; have := HJ16.out; have := HJ21.out; omega⟩, ⟨by (with_reducible repeat (first | refine blk_drewN ?_ _ | refine blk_drew ?_ | refine blk_alloc ?_ _)); exact BK158.out⟩, ⟨by repeat (first | (with_reducible first | exact HI157.out | apply IsS70.alloc | apply IsS70.drewN | apply IsS70.drew | apply IsS70.set_0 | apply IsS70.set_1 | refine IsS70.far ?_ NB157_158.out _ | refine IsS70.far ?_ NB157_161.out _ | refine IsS70.far ?_ NB157_162.out _) | exact HI157.out)⟩, ⟨by repeat (first | (with_reducible first | exact HB.out | apply below_alloc | apply pw_below_drewN | apply below_drew1 | refine below_set ?_ (IsS70.ge HI157.out) | refine below_set ?_ GE158.out | refine below_set ?_ GE161.out | refine below_set ?_ GE162.out) | exact HB.out)⟩⟩
                  ·
                   rw [if_neg c98] at H
                   have c98b0 : (t198 == t201) = false := beq_eq_false_iff_ne.mpr c98
                   have c98b1 : (t198 != t201) = true := bne_iff_ne.mpr c98
                   obtain rfl := Option.some.inj H
                   have hnb113 := NB162_158.out; have hnc113 := NB158_162.out; have hnb114 := NB162_161.out; have hnc114 := NB161_162.out; have hnb115 := NB162_157.out; have hnc115 := NB157_162.out; have hcz116_0 : wc.cell? ⟨gb162, 0, none⟩ = some (.string x163000_21) := (blk_cell BK162.out 0).trans rfl
                   have hcz116_1 : wc.cell? ⟨gb162, 1, none⟩ = some (.int .i64 x163001_21) := (blk_cell BK162.out 1).trans rfl
                   have hcz116_2 : wc.cell? ⟨gb162, 2, none⟩ = some (.int .i64 x163002_21) := (blk_cell BK162.out 2).trans rfl
                   have hcz116_3 : wc.cell? ⟨gb162, 3, none⟩ = some (.string x163003_21) := (blk_cell BK162.out 3).trans rfl
                   have hfz116_0 := blk_frozen BK162.out 0; have hfz116_1 := blk_frozen BK162.out 1; have hfz116_2 := blk_frozen BK162.out 2; have hfz116_3 := blk_frozen BK162.out 3; have hnb117 := NB158_161.out; have hnc117 := NB161_158.out; have hnb118 := NB158_157.out; have hnc118 := NB157_158.out; have hcz119_0 : wc.cell? ⟨gb158, 0, none⟩ = some (.string x159000_2) := (blk_cell BK158.out 0).trans rfl
                   have hcz119_1 : wc.cell? ⟨gb158, 1, none⟩ = some (.int .i64 x159001_2) := (blk_cell BK158.out 1).trans rfl
                   have hfz119_0 := blk_frozen BK158.out 0; have hfz119_1 := blk_frozen BK158.out 1; try go_wp2
                   have n0_ : Aside0 (((wc.setCell ⟨gb158, 0, none⟩ (.string x163000_21)).setCell ⟨gb158, 1, none⟩ (.int .i64 x163001_21)).heap[gb158]? = some (.cells #[.string x163000_21, .int .i64 x163001_21] 48 (0, 0))) := ⟨by (with_reducible repeat (first | refine blk_drewN ?_ _ | refine blk_drew ?_ | refine blk_alloc ?_ _)); refine blk_put (cs := #[.string x163000_21, .int .i64 x159001_2]) ?_ 1 _ rfl; (with_reducible repeat (first | refine blk_drewN ?_ _ | refine blk_drew ?_ | refine blk_alloc ?_ _)); refine blk_put (cs := #[.string x159000_2, .int .i64 x159001_2]) ?_ 0 _ rfl; (with_reducible repeat (first | refine blk_drewN ?_ _ | refine blk_drew ?_ | refine blk_alloc ?_ _)); exact BK158.out⟩
                   have n1_ : Aside0 (((wc.setCell ⟨gb158, 0, none⟩ (.string x163000_21)).setCell ⟨gb158, 1, none⟩ (.int .i64 x163001_21)).heap[gb161]? = some (.cells #[.int .i64 ((rd_T37 l1 x7_2).f0), .int .i64 ((rd_T37 l1 x7_2).f1), .int .i64 ((rd_T37 l1 x7_2).f2), .string ((rd_T37 l1 x7_2).f3)] 37 (0, 0))) := ⟨by (with_reducible repeat (first | refine blk_drewN ?_ _ | refine blk_drew ?_ | refine blk_alloc ?_ _)); refine blk_far ?_ NB161_158.out _; (with_reducible repeat (first | refine blk_drewN ?_ _ | refine blk_drew ?_ | refine blk_alloc ?_ _)); refine blk_far ?_ NB161_158.out _; (with_reducible repeat (first | refine blk_drewN ?_ _ | refine blk_drew ?_ | refine blk_alloc ?_ _)); exact BK161.out⟩
                   have n2_ : Aside0 (((wc.setCell ⟨gb158, 0, none⟩ (.string x163000_21)).setCell ⟨gb158, 1, none⟩ (.int .i64 x163001_21)).heap[gb162]? = some (.cells #[.string x163000_21, .int .i64 x163001_21, .int .i64 x163002_21, .string x163003_21] 50 (0, 0))) := ⟨by (with_reducible repeat (first | refine blk_drewN ?_ _ | refine blk_drew ?_ | refine blk_alloc ?_ _)); refine blk_far ?_ NB162_158.out _; (with_reducible repeat (first | refine blk_drewN ?_ _ | refine blk_drew ?_ | refine blk_alloc ?_ _)); refine blk_far ?_ NB162_158.out _; (with_reducible repeat (first | refine blk_drewN ?_ _ | refine blk_drew ?_ | refine blk_alloc ?_ _)); exact BK162.out⟩
                   have n3_ : Aside0 (IsS70 w ((wc.setCell ⟨gb158, 0, none⟩ (.string x163000_21)).setCell ⟨gb158, 1, none⟩ (.int .i64 x163001_21)) g157 x158000_21 x158001_21) := ⟨by repeat (first | (with_reducible first | exact HI157.out | apply IsS70.alloc | apply IsS70.drewN | apply IsS70.drew | apply IsS70.set_0 | apply IsS70.set_1 | refine IsS70.far ?_ NB157_158.out _ | refine IsS70.far ?_ NB157_161.out _ | refine IsS70.far ?_ NB157_162.out _) | exact HI157.out)⟩
                   have n4_ : Aside0 (Below w.heap.size w ((wc.setCell ⟨gb158, 0, none⟩ (.string x163000_21)).setCell ⟨gb158, 1, none⟩ (.int .i64 x163001_21))) := ⟨by repeat (first | (with_reducible first | exact HB.out | apply below_alloc | apply pw_below_drewN | apply below_drew1 | refine below_set ?_ (IsS70.ge HI157.out) | refine below_set ?_ GE158.out | refine below_set ?_ GE161.out | refine below_set ?_ GE162.out) | exact HB.out)⟩
                   (try clear BK158); (try clear BK161); (try clear BK162); (try clear HI157); (try clear HB); generalize ((wc.setCell ⟨gb158, 0, none⟩ (.string x163000_21)).setCell ⟨gb158, 1, none⟩ (.int .i64 x163001_21)) = w120 at n0_ n1_ n2_ n3_ n4_ ⊢
                   have BK158 := n0_; have BK161 := n1_; have BK162 := n2_; have HI157 := n3_; have HB := n4_; clear n0_ n1_ n2_ n3_ n4_; have n0_ := Aside0.mk (blk_drew BK158.out)
                   have n1_ := Aside0.mk (blk_drew BK161.out)
                   have n2_ := Aside0.mk (blk_drew BK162.out)
                   have n3_ := Aside0.mk (IsS70.drew HI157.out)
                   have n4_ := Aside0.mk (below_drew1 HB.out)
                   clear BK158 BK161 BK162 HI157 HB; have BK158 := n0_; have BK161 := n1_; have BK162 := n2_; have HI157 := n3_; have HB := n4_; clear n0_ n1_ n2_ n3_ n4_; refine start_ (n := 31) (S := fun w' => w'.cell? ⟨gb162, 0, none⟩ = some (.string x163000_21) ∧ w'.cell? ⟨gb162, 1, none⟩ = some (.int .i64 x163001_21) ∧ w'.cell? ⟨gb162, 2, none⟩ = some (.int .i64 x163002_21) ∧ w'.cell? ⟨gb162, 3, none⟩ = some (.string x163003_21) ∧ w'.cell? ⟨gb158, 0, none⟩ = some (.string x163000_21) ∧ w'.cell? ⟨gb158, 1, none⟩ = some (.int .i64 x163001_21)) (ds := []) (mkB0 31 0) (by kernel_rfl) rfl rfl ⟨(blk_cell BK162.out 0).trans rfl, (blk_cell BK162.out 1).trans rfl, (blk_cell BK162.out 2).trans rfl, (blk_cell BK162.out 3).trans rfl, (blk_cell BK158.out 0).trans rfl, (blk_cell BK158.out 1).trans rfl⟩ (fun hHeld => ?_); refine with_tabW mosaiclaw02_OctReads.tab27 mosaiclaw02_OctReads.bits27 (fun HT_ HW_ => ?_)
                   generalize w120.drew = w121 at BK158 BK161 BK162 HI157 HB hHeld ⊢
                   refine pure_ (i := 0) (N := some 81) (v := ?_) (a' := ?_) (mkB0 31 1) rfl rfl (any_of HT_.out (by kernel_rfl)) (fun _ _ _ h => h) (Or.inl ⟨by rfl, ?_⟩) ?_ ?_
                   rotate_left
                   ·
                    intro w'; go_simp; with_reducible rfl
                   rotate_left
                   ·
                    simp only [Act.put, List.setIfInBounds_toArray, List.set_cons_zero, List.set_cons_succ, i64_w, i32_w]; rfl
                   refine pure_ (i := 1) (N := some 82) (v := ?_) (a' := ?_) (mkB0 31 3) rfl rfl (any_of HT_.out (by kernel_rfl)) (fun _ _ _ h => h) (Or.inl ⟨by rfl, ?_⟩) ?_ ?_
                   rotate_left
                   ·
                    intro w'; go_simp; with_reducible rfl
                   rotate_left
                   ·
                    simp only [Act.put, List.setIfInBounds_toArray, List.set_cons_zero, List.set_cons_succ, i64_w, i32_w]; rfl
                   refine take_ (i := 2) (N := some 83) (v := ?_) (a' := ?_) (mkB0 31 7) rfl rfl (take_ofW HT_.out HW_.out (by kernel_rfl)) (fun _ _ _ h => h) (Or.inl ⟨by rfl, ?_⟩) hHeld ?_ ?_
                   rotate_left
                   ·
                    rintro w' ⟨s0, s1, s2, s3, s4, s5⟩
                    go_simp; with_reducible rfl
                   rotate_left
                   ·
                    simp only [Act.put, List.setIfInBounds_toArray, List.set_cons_zero, List.set_cons_succ, i64_w, i32_w]; rfl
                   refine pure_ (i := 3) (N := some 84) (v := ?_) (a' := ?_) (mkB0 31 15) rfl rfl (any_of HT_.out (by kernel_rfl)) (fun _ _ _ h => h) (Or.inl ⟨by rfl, ?_⟩) ?_ ?_
                   rotate_left
                   ·
                    intro w'; go_simp; with_reducible rfl
                   rotate_left
                   ·
                    simp only [Act.put, List.setIfInBounds_toArray, List.set_cons_zero, List.set_cons_succ, i64_w, i32_w]; rfl
                   refine pure_ (i := 4) (N := some 85) (v := ?_) (a' := ?_) (mkB0 31 31) rfl rfl (any_of HT_.out (by kernel_rfl)) (fun _ _ _ h => h) (Or.inl ⟨by rfl, ?_⟩) ?_ ?_
                   rotate_left
                   ·
                    intro w'; go_simp; with_reducible rfl
                   rotate_left
                   ·
                    simp only [Act.put, List.setIfInBounds_toArray, List.set_cons_zero, List.set_cons_succ, i64_w, i32_w]; rfl
                   refine pure_ (i := 5) (N := some 86) (v := ?_) (a' := ?_) (mkB0 31 63) rfl rfl (any_of HT_.out (by kernel_rfl)) (fun _ _ _ h => h) (Or.inl ⟨by rfl, ?_⟩) ?_ ?_
                   rotate_left
                   ·
                    intro w'; go_simp; with_reducible rfl
                   rotate_left
                   ·
                    simp only [Act.put, List.setIfInBounds_toArray, List.set_cons_zero, List.set_cons_succ, i64_w, i32_w]; rfl
                   refine pure_ (i := 6) (N := some 87) (v := ?_) (a' := ?_) (mkB0 31 127) rfl rfl (any_of HT_.out (by kernel_rfl)) (fun _ _ _ h => h) (Or.inl ⟨by rfl, ?_⟩) ?_ ?_
                   rotate_left
                   ·
                    intro w'; go_simp; with_reducible rfl
                   rotate_left
                   ·
                    simp only [Act.put, List.setIfInBounds_toArray, List.set_cons_zero, List.set_cons_succ, i64_w, i32_w]; rfl
                   refine take_ (i := 7) (N := some 88) (v := ?_) (a' := ?_) (mkB0 31 255) rfl rfl (take_ofW HT_.out HW_.out (by kernel_rfl)) (fun _ _ _ h => h) (Or.inl ⟨by rfl, ?_⟩) hHeld ?_ ?_
                   rotate_left
                   ·
                    rintro w' ⟨s0, s1, s2, s3, s4, s5⟩
                    go_simp; with_reducible rfl
                   rotate_left
                   ·
                    simp only [Act.put, List.setIfInBounds_toArray, List.set_cons_zero, List.set_cons_succ, i64_w, i32_w]; rfl
                   refine pure_ (i := 8) (N := some 89) (v := ?_) (a' := ?_) (mkB0 31 511) rfl rfl (any_of HT_.out (by kernel_rfl)) (fun _ _ _ h => h) (Or.inl ⟨by rfl, ?_⟩) ?_ ?_
                   rotate_left
                   ·
                    intro w'; go_simp; with_reducible rfl
                   rotate_left
                   ·
                    simp only [Act.put, List.setIfInBounds_toArray, List.set_cons_zero, List.set_cons_succ, i64_w, i32_w]; rfl
                   refine pure_ (i := 9) (N := some 90) (v := ?_) (a' := ?_) (mkB0 31 1023) rfl rfl (any_of HT_.out (by kernel_rfl)) (fun _ _ _ h => h) (Or.inl ⟨by rfl, ?_⟩) ?_ ?_
                   rotate_left
                   ·
                    intro w'; go_simp; with_reducible rfl
                   rotate_left
                   ·
                    simp only [Act.put, List.setIfInBounds_toArray, List.set_cons_zero, List.set_cons_succ, i64_w, i32_w]; rfl
                   refine pure_ (i := 10) (N := some 91) (v := ?_) (a' := ?_) (mkB0 31 2047) rfl rfl (any_of HT_.out (by kernel_rfl)) (fun _ _ _ h => h) (Or.inl ⟨by rfl, ?_⟩) ?_ ?_
                   rotate_left
                   ·
                    intro w'; go_simp; with_reducible rfl
                   rotate_left
                   ·
                    simp only [Act.put, List.setIfInBounds_toArray, List.set_cons_zero, List.set_cons_succ, i64_w, i32_w]; rfl
                   refine pure_ (i := 11) (N := some 92) (v := ?_) (a' := ?_) (mkB0 31 4095) rfl rfl (any_of HT_.out (by kernel_rfl)) (fun _ _ _ h => h) (Or.inl ⟨by rfl, ?_⟩) ?_ ?_
                   rotate_left
                   ·
                    intro w'; go_simp; with_reducible rfl
                   rotate_left
                   ·
                    simp only [Act.put, List.setIfInBounds_toArray, List.set_cons_zero, List.set_cons_succ, i64_w, i32_w]; rfl
                   refine take_ (i := 13) (N := some 94) (v := ?_) (a' := ?_) (mkB0 31 12287) rfl rfl (take_ofW HT_.out HW_.out (by kernel_rfl)) (fun _ _ _ h => h) (Or.inl ⟨by rfl, ?_⟩) hHeld ?_ ?_
                   rotate_left
                   ·
                    rintro w' ⟨s0, s1, s2, s3, s4, s5⟩
                    go_simp; with_reducible rfl
                   rotate_left
                   ·
                    simp only [Act.put, List.setIfInBounds_toArray, List.set_cons_zero, List.set_cons_succ, i64_w, i32_w]; rfl
                   refine one_ (i := 12) (N := some 93) (mkB0 31 16383) rfl rfl (one_of HT_.out (by kernel_rfl)) (by decide) (fun K hK => ?_)
                   refine goes_ Try.func31 (by kernel_rfl) rfl #[.pointer (some ⟨g157, 0, none⟩)] (by rfl) rfl rfl (by (try simp only [List.map_toArray, List.map_cons, List.map_nil]); first | done | rfl | (simp only [List.length_drop, List.length_take]; rfl)) ?_
                   with_reducible refine (oct_Reader_Left.calls g157 x158000_21 x158001_21 t191 t192 t193 w _ ?side1 ?side2 A91.out).mono ?_
                   (case side1 => repeat (first | (with_reducible first | exact HI157.out | apply IsS70.alloc | apply IsS70.drewN | apply IsS70.drew | apply IsS70.set_0 | apply IsS70.set_1 | refine IsS70.far ?_ NB157_158.out _ | refine IsS70.far ?_ NB157_161.out _ | refine IsS70.far ?_ NB157_162.out _) | exact HI157.out))
                   (case side2 => repeat (first | (with_reducible first | exact HB.out | apply below_alloc | apply pw_below_drewN | apply below_drew1 | refine below_set ?_ (IsS70.ge HI157.out) | refine below_set ?_ GE158.out | refine below_set ?_ GE161.out | refine below_set ?_ GE162.out) | exact HB.out))
                   rintro e w122 ⟨rfl, hi, hb, hk⟩; refine ⟨_, rfl, ?_⟩; have n0_ := Aside0.mk (KeepBut.blk hk (g' := gb158) (o := .cells #[.string x163000_21, .int .i64 x163001_21] 48 (0, 0)) (by (with_reducible repeat (first | refine blk_drewN ?_ _ | refine blk_drew ?_ | refine blk_alloc ?_ _)); exact BK158.out) NB158_157.out (by simp))
                   have n1_ := Aside0.mk (KeepBut.blk hk (g' := gb161) (o := .cells #[.int .i64 ((rd_T37 l1 x7_2).f0), .int .i64 ((rd_T37 l1 x7_2).f1), .int .i64 ((rd_T37 l1 x7_2).f2), .string ((rd_T37 l1 x7_2).f3)] 37 (0, 0)) (by (with_reducible repeat (first | refine blk_drewN ?_ _ | refine blk_drew ?_ | refine blk_alloc ?_ _)); exact BK161.out) NB161_157.out (by simp))
                   have n2_ := Aside0.mk (KeepBut.blk hk (g' := gb162) (o := .cells #[.string x163000_21, .int .i64 x163001_21, .int .i64 x163002_21, .string x163003_21] 50 (0, 0)) (by (with_reducible repeat (first | refine blk_drewN ?_ _ | refine blk_drew ?_ | refine blk_alloc ?_ _)); exact BK162.out) NB162_157.out (by simp))
                   have n3_ := Aside0.mk (hb)
                   have n4_ := Aside0.mk (hi)
                   clear BK158 BK161 BK162 HB HI157; have BK158 := n0_; have BK161 := n1_; have BK162 := n2_; have HB := n3_; have HI157 := n4_; clear n0_ n1_ n2_ n3_ n4_; (try clear hb); (try clear hb2); (try clear hk); (try clear hi); refine hK.out _ _ ⟨(blk_cell BK162.out 0).trans rfl, (blk_cell BK162.out 1).trans rfl, (blk_cell BK162.out 2).trans rfl, (blk_cell BK162.out 3).trans rfl, (blk_cell BK158.out 0).trans rfl, (blk_cell BK158.out 1).trans rfl⟩ (fun hHeld => ?_)
                   clear hK K; refine norm_ (a' := ?_) ?_ ?_
                   rotate_left
                   ·
                    show Act.put _ (some 93) _ = _
                    simp only [Act.put, List.setIfInBounds_toArray, List.set_cons_zero, List.set_cons_succ, i64_w, i32_w]; rfl
                   refine one_ (i := 14) (N := some 95) (mkB0 31 32767) rfl rfl (one_of HT_.out (by kernel_rfl)) (by decide) (fun K hK => ?_)
                   refine goes_ Try.func32 (by kernel_rfl) rfl #[.agg #[.string x163000_21, .int .i64 x163001_21]] (by rfl) rfl rfl (by (try simp only [List.map_toArray, List.map_cons, List.map_nil]); first | done | rfl | (simp only [List.length_drop, List.length_take]; rfl)) ?_
                   with_reducible refine (mosaicref02_Reader_Left.calls x163000_21 x163001_21 t194 _ A92.out).mono ?_
                   rintro e w123 ⟨rfl, hb⟩; refine ⟨_, rfl, ?_⟩; have n0_ := Aside0.mk (blk_below (g := gb158) (o := .cells #[.string x163000_21, .int .i64 x163001_21] 48 (0, 0)) (by (with_reducible repeat (first | refine blk_drewN ?_ _ | refine blk_drew ?_ | refine blk_alloc ?_ _)); exact BK158.out) hb)
                   have n1_ := Aside0.mk (blk_below (g := gb161) (o := .cells #[.int .i64 ((rd_T37 l1 x7_2).f0), .int .i64 ((rd_T37 l1 x7_2).f1), .int .i64 ((rd_T37 l1 x7_2).f2), .string ((rd_T37 l1 x7_2).f3)] 37 (0, 0)) (by (with_reducible repeat (first | refine blk_drewN ?_ _ | refine blk_drew ?_ | refine blk_alloc ?_ _)); exact BK161.out) hb)
                   have n2_ := Aside0.mk (blk_below (g := gb162) (o := .cells #[.string x163000_21, .int .i64 x163001_21, .int .i64 x163002_21, .string x163003_21] 50 (0, 0)) (by (with_reducible repeat (first | refine blk_drewN ?_ _ | refine blk_drew ?_ | refine blk_alloc ?_ _)); exact BK162.out) hb)
                   have n3_ := Aside0.mk (IsS70.below (by repeat (first | (with_reducible first | exact HI157.out | apply IsS70.alloc | apply IsS70.drewN | apply IsS70.drew | apply IsS70.set_0 | apply IsS70.set_1 | refine IsS70.far ?_ NB157_158.out _ | refine IsS70.far ?_ NB157_161.out _ | refine IsS70.far ?_ NB157_162.out _) | exact HI157.out)) hb)
                   have n4_ := Aside0.mk (below_step (by repeat (first | (with_reducible first | exact HB.out | apply below_alloc | apply pw_below_drewN | apply below_drew1 | refine below_set ?_ (IsS70.ge HI157.out) | refine below_set ?_ GE158.out | refine below_set ?_ GE161.out | refine below_set ?_ GE162.out) | exact HB.out)) hb)
                   clear BK158 BK161 BK162 HI157 HB; have BK158 := n0_; have BK161 := n1_; have BK162 := n2_; have HI157 := n3_; have HB := n4_; clear n0_ n1_ n2_ n3_ n4_; (try clear hb); (try clear hb2); (try clear hk); (try clear hi); refine hK.out _ _ ⟨(blk_cell BK162.out 0).trans rfl, (blk_cell BK162.out 1).trans rfl, (blk_cell BK162.out 2).trans rfl, (blk_cell BK162.out 3).trans rfl, (blk_cell BK158.out 0).trans rfl, (blk_cell BK158.out 1).trans rfl⟩ (fun hHeld => ?_)
                   clear hK K; refine norm_ (a' := ?_) ?_ ?_
                   rotate_left
                   ·
                    show Act.put _ (some 95) _ = _
                    simp only [Act.put, List.setIfInBounds_toArray, List.set_cons_zero, List.set_cons_succ, i64_w, i32_w]; rfl
                   refine pure_ (i := 15) (N := some 96) (v := ?_) (a' := ?_) (mkB0 31 65535) rfl rfl (any_of HT_.out (by kernel_rfl)) (fun _ _ _ h => h) (Or.inl ⟨by rfl, ?_⟩) ?_ ?_
                   rotate_left
                   ·
                    intro w'; go_simp; with_reducible rfl
                   rotate_left
                   ·
                    simp only [Act.put, List.setIfInBounds_toArray, List.set_cons_zero, List.set_cons_succ, i64_w, i32_w]; rfl
                   refine pure_ (i := 16) (N := some 97) (v := ?_) (a' := ?_) (mkB0 31 131071) rfl rfl (any_of HT_.out (by kernel_rfl)) (fun _ _ _ h => h) (Or.inl ⟨by rfl, ?_⟩) ?_ ?_
                   rotate_left
                   ·
                    intro w'; go_simp; with_reducible rfl
                   rotate_left
                   ·
                    simp only [Act.put, List.setIfInBounds_toArray, List.set_cons_zero, List.set_cons_succ, i64_w, i32_w]; rfl
                   refine pure_ (i := 17) (N := some 98) (v := ?_) (a' := ?_) (mkB0 31 262143) rfl rfl (any_of HT_.out (by kernel_rfl)) (fun _ _ _ h => h) (Or.inl ⟨by rfl, ?_⟩) ?_ ?_
                   rotate_left
                   ·
                    intro w'; go_simp; with_reducible rfl
                   rotate_left
                   ·
                    simp only [Act.put, List.setIfInBounds_toArray, List.set_cons_zero, List.set_cons_succ, i64_w, i32_w]; rfl
                   refine pure_ (i := 18) (N := some 99) (v := ?_) (a' := ?_) (mkB0 31 524287) rfl rfl (any_of HT_.out (by kernel_rfl)) (fun _ _ _ h => h) (Or.inl ⟨by rfl, ?_⟩) ?_ ?_
                   rotate_left
                   ·
                    intro w'; go_simp; with_reducible rfl
                   rotate_left
                   ·
                    simp only [Act.put, List.setIfInBounds_toArray, List.set_cons_zero, List.set_cons_succ, i64_w, i32_w]; rfl
                   refine pure_ (i := 20) (N := some 101) (v := ?_) (a' := ?_) (mkB0 31 1572863) rfl rfl (any_of HT_.out (by kernel_rfl)) (fun _ _ _ h => h) (Or.inl ⟨by rfl, ?_⟩) ?_ ?_
                   rotate_left
                   ·
                    intro w'; go_simp; with_reducible rfl
                   rotate_left
                   ·
                    simp only [Act.put, List.setIfInBounds_toArray, List.set_cons_zero, List.set_cons_succ, i64_w, i32_w]; rfl
                   refine take_ (i := 21) (N := some 102) (v := ?_) (a' := ?_) (mkB0 31 3670015) rfl rfl (take_ofW HT_.out HW_.out (by kernel_rfl)) (fun _ _ _ h => h) (Or.inl ⟨by rfl, ?_⟩) hHeld ?_ ?_
                   rotate_left
                   ·
                    rintro w' ⟨s0, s1, s2, s3, s4, s5⟩
                    go_simp; with_reducible rfl
                   rotate_left
                   ·
                    simp only [Act.put, List.setIfInBounds_toArray, List.set_cons_zero, List.set_cons_succ, i64_w, i32_w]; rfl
                   refine one_ (i := 19) (N := some 100) (mkB0 31 4194303) rfl rfl (one_of HT_.out (by kernel_rfl)) (by decide) (fun K hK => ?_)
                   refine goes_ Try.func33 (by kernel_rfl) rfl #[.pointer (some ⟨g157, 0, none⟩)] (by rfl) rfl rfl (by (try simp only [List.map_toArray, List.map_cons, List.map_nil]); first | done | rfl | (simp only [List.length_drop, List.length_take]; rfl)) ?_
                   with_reducible refine (oct_Reader_Err.calls g157 t192 t193 t195 t196 t197 w _ ?side1 ?side2 A94.out).mono ?_
                   (case side1 => repeat (first | (with_reducible first | exact HI157.out | apply IsS70.alloc | apply IsS70.drewN | apply IsS70.drew | apply IsS70.set_0 | apply IsS70.set_1 | refine IsS70.far ?_ NB157_158.out _ | refine IsS70.far ?_ NB157_161.out _ | refine IsS70.far ?_ NB157_162.out _) | exact HI157.out))
                   (case side2 => repeat (first | (with_reducible first | exact HB.out | apply below_alloc | apply pw_below_drewN | apply below_drew1 | refine below_set ?_ (IsS70.ge HI157.out) | refine below_set ?_ GE158.out | refine below_set ?_ GE161.out | refine below_set ?_ GE162.out) | exact HB.out))
                   rintro e w124 ⟨rfl, hi, hb, hk⟩; refine ⟨_, rfl, ?_⟩; have n0_ := Aside0.mk (KeepBut.blk hk (g' := gb158) (o := .cells #[.string x163000_21, .int .i64 x163001_21] 48 (0, 0)) (by (with_reducible repeat (first | refine blk_drewN ?_ _ | refine blk_drew ?_ | refine blk_alloc ?_ _)); exact BK158.out) NB158_157.out (by simp))
                   have n1_ := Aside0.mk (KeepBut.blk hk (g' := gb161) (o := .cells #[.int .i64 ((rd_T37 l1 x7_2).f0), .int .i64 ((rd_T37 l1 x7_2).f1), .int .i64 ((rd_T37 l1 x7_2).f2), .string ((rd_T37 l1 x7_2).f3)] 37 (0, 0)) (by (with_reducible repeat (first | refine blk_drewN ?_ _ | refine blk_drew ?_ | refine blk_alloc ?_ _)); exact BK161.out) NB161_157.out (by simp))
                   have n2_ := Aside0.mk (KeepBut.blk hk (g' := gb162) (o := .cells #[.string x163000_21, .int .i64 x163001_21, .int .i64 x163002_21, .string x163003_21] 50 (0, 0)) (by (with_reducible repeat (first | refine blk_drewN ?_ _ | refine blk_drew ?_ | refine blk_alloc ?_ _)); exact BK162.out) NB162_157.out (by simp))
                   have n3_ := Aside0.mk (hb)
                   have n4_ := Aside0.mk (hi)
                   clear BK158 BK161 BK162 HB HI157; have BK158 := n0_; have BK161 := n1_; have BK162 := n2_; have HB := n3_; have HI157 := n4_; clear n0_ n1_ n2_ n3_ n4_; (try clear hb); (try clear hb2); (try clear hk); (try clear hi); refine hK.out _ _ ⟨(blk_cell BK162.out 0).trans rfl, (blk_cell BK162.out 1).trans rfl, (blk_cell BK162.out 2).trans rfl, (blk_cell BK162.out 3).trans rfl, (blk_cell BK158.out 0).trans rfl, (blk_cell BK158.out 1).trans rfl⟩ (fun hHeld => ?_)
                   clear hK K; refine norm_ (a' := ?_) ?_ ?_
                   rotate_left
                   ·
                    show Act.put _ (some 100) _ = _
                    simp only [Act.put, List.setIfInBounds_toArray, List.set_cons_zero, List.set_cons_succ, i64_w, i32_w]; rfl
                   refine pure_ (i := 22) (N := some 103) (v := ?_) (a' := ?_) (mkB0 31 8388607) rfl rfl (any_of HT_.out (by kernel_rfl)) (fun _ _ _ h => h) (Or.inl ⟨by rfl, ?_⟩) ?_ ?_
                   rotate_left
                   ·
                    intro w'; go_simp; with_reducible rfl
                   rotate_left
                   ·
                    simp only [Act.put, List.setIfInBounds_toArray, List.set_cons_zero, List.set_cons_succ, i64_w, i32_w]; rfl
                   refine pure_ (i := 23) (N := some 104) (v := ?_) (a' := ?_) (mkB0 31 16777215) rfl rfl (any_of HT_.out (by kernel_rfl)) (fun _ _ _ h => h) (Or.inl ⟨by rfl, ?_⟩) ?_ ?_
                   rotate_left
                   ·
                    intro w'; go_simp; with_reducible rfl
                   rotate_left
                   ·
                    simp only [Act.put, List.setIfInBounds_toArray, List.set_cons_zero, List.set_cons_succ, i64_w, i32_w]; rfl
                   refine pure_ (i := 24) (N := some 105) (v := ?_) (a' := ?_) (mkB0 31 33554431) rfl rfl (any_of HT_.out (by kernel_rfl)) (fun _ _ _ h => h) (Or.inl ⟨by rfl, ?_⟩) ?_ ?_
                   rotate_left
                   ·
                    intro w'; go_simp; with_reducible rfl
                   rotate_left
                   ·
                    simp only [Act.put, List.setIfInBounds_toArray, List.set_cons_zero, List.set_cons_succ, i64_w, i32_w]; rfl
                   refine pure_ (i := 25) (N := some 106) (v := ?_) (a' := ?_) (mkB0 31 67108863) rfl rfl (any_of HT_.out (by kernel_rfl)) (fun _ _ _ h => h) (Or.inl ⟨by rfl, ?_⟩) ?_ ?_
                   rotate_left
                   ·
                    intro w'; go_simp; with_reducible rfl
                   rotate_left
                   ·
                    simp only [Act.put, List.setIfInBounds_toArray, List.set_cons_zero, List.set_cons_succ, i64_w, i32_w]; rfl
                   refine take_ (i := 27) (N := some 108) (v := ?_) (a' := ?_) (mkB0 31 201326591) rfl rfl (take_ofW HT_.out HW_.out (by kernel_rfl)) (fun _ _ _ h => h) (Or.inl ⟨by rfl, ?_⟩) hHeld ?_ ?_
                   rotate_left
                   ·
                    rintro w' ⟨s0, s1, s2, s3, s4, s5⟩
                    go_simp; with_reducible rfl
                   rotate_left
                   ·
                    simp only [Act.put, List.setIfInBounds_toArray, List.set_cons_zero, List.set_cons_succ, i64_w, i32_w]; rfl
                   refine one_ (i := 26) (N := some 107) (mkB0 31 268435455) rfl rfl (one_of HT_.out (by kernel_rfl)) (by decide) (fun K hK => ?_)
                   refine goes_ Try.func34 (by kernel_rfl) rfl #[.pointer (some ⟨g157, 0, none⟩)] (by rfl) rfl rfl (by (try simp only [List.map_toArray, List.map_cons, List.map_nil]); first | done | rfl | (simp only [List.length_drop, List.length_take]; rfl)) ?_
                   with_reducible refine (oct_Reader_End.calls g157 t196 t197 t198 t199 t200 w _ ?side1 ?side2 A96.out).mono ?_
                   (case side1 => repeat (first | (with_reducible first | exact HI157.out | apply IsS70.alloc | apply IsS70.drewN | apply IsS70.drew | apply IsS70.set_0 | apply IsS70.set_1 | refine IsS70.far ?_ NB157_158.out _ | refine IsS70.far ?_ NB157_161.out _ | refine IsS70.far ?_ NB157_162.out _) | exact HI157.out))
                   (case side2 => repeat (first | (with_reducible first | exact HB.out | apply below_alloc | apply pw_below_drewN | apply below_drew1 | refine below_set ?_ (IsS70.ge HI157.out) | refine below_set ?_ GE158.out | refine below_set ?_ GE161.out | refine below_set ?_ GE162.out) | exact HB.out))
                   rintro e w125 ⟨rfl, hi, hb, hk⟩; refine ⟨_, rfl, ?_⟩; have n0_ := Aside0.mk (KeepBut.blk hk (g' := gb158) (o := .cells #[.string x163000_21, .int .i64 x163001_21] 48 (0, 0)) (by (with_reducible repeat (first | refine blk_drewN ?_ _ | refine blk_drew ?_ | refine blk_alloc ?_ _)); exact BK158.out) NB158_157.out (by simp))
                   have n1_ := Aside0.mk (KeepBut.blk hk (g' := gb161) (o := .cells #[.int .i64 ((rd_T37 l1 x7_2).f0), .int .i64 ((rd_T37 l1 x7_2).f1), .int .i64 ((rd_T37 l1 x7_2).f2), .string ((rd_T37 l1 x7_2).f3)] 37 (0, 0)) (by (with_reducible repeat (first | refine blk_drewN ?_ _ | refine blk_drew ?_ | refine blk_alloc ?_ _)); exact BK161.out) NB161_157.out (by simp))
                   have n2_ := Aside0.mk (KeepBut.blk hk (g' := gb162) (o := .cells #[.string x163000_21, .int .i64 x163001_21, .int .i64 x163002_21, .string x163003_21] 50 (0, 0)) (by (with_reducible repeat (first | refine blk_drewN ?_ _ | refine blk_drew ?_ | refine blk_alloc ?_ _)); exact BK162.out) NB162_157.out (by simp))
                   have n3_ := Aside0.mk (hb)
                   have n4_ := Aside0.mk (hi)
                   clear BK158 BK161 BK162 HB HI157; have BK158 := n0_; have BK161 := n1_; have BK162 := n2_; have HB := n3_; have HI157 := n4_; clear n0_ n1_ n2_ n3_ n4_; (try clear hb); (try clear hb2); (try clear hk); (try clear hi); refine hK.out _ _ ⟨(blk_cell BK162.out 0).trans rfl, (blk_cell BK162.out 1).trans rfl, (blk_cell BK162.out 2).trans rfl, (blk_cell BK162.out 3).trans rfl, (blk_cell BK158.out 0).trans rfl, (blk_cell BK158.out 1).trans rfl⟩ (fun hHeld => ?_)
                   clear hK K; refine norm_ (a' := ?_) ?_ ?_
                   rotate_left
                   ·
                    show Act.put _ (some 107) _ = _
                    simp only [Act.put, List.setIfInBounds_toArray, List.set_cons_zero, List.set_cons_succ, i64_w, i32_w]; rfl
                   refine one_ (i := 28) (N := some 109) (mkB0 31 536870911) rfl rfl (one_of HT_.out (by kernel_rfl)) (by decide) (fun K hK => ?_)
                   refine goes_ Try.func35 (by kernel_rfl) rfl #[.agg #[.string x163000_21, .int .i64 x163001_21]] (by rfl) rfl rfl (by (try simp only [List.map_toArray, List.map_cons, List.map_nil]); first | done | rfl | (simp only [List.length_drop, List.length_take]; rfl)) ?_
                   with_reducible refine (mosaicref02_Reader_End.calls x163000_21 x163001_21 t201 _ A97.out).mono ?_
                   rintro e w126 ⟨rfl, hb⟩; refine ⟨_, rfl, ?_⟩; have n0_ := Aside0.mk (blk_below (g := gb158) (o := .cells #[.string x163000_21, .int .i64 x163001_21] 48 (0, 0)) (by (with_reducible repeat (first | refine blk_drewN ?_ _ | refine blk_drew ?_ | refine blk_alloc ?_ _)); exact BK158.out) hb)
                   have n1_ := Aside0.mk (blk_below (g := gb161) (o := .cells #[.int .i64 ((rd_T37 l1 x7_2).f0), .int .i64 ((rd_T37 l1 x7_2).f1), .int .i64 ((rd_T37 l1 x7_2).f2), .string ((rd_T37 l1 x7_2).f3)] 37 (0, 0)) (by (with_reducible repeat (first | refine blk_drewN ?_ _ | refine blk_drew ?_ | refine blk_alloc ?_ _)); exact BK161.out) hb)
                   have n2_ := Aside0.mk (blk_below (g := gb162) (o := .cells #[.string x163000_21, .int .i64 x163001_21, .int .i64 x163002_21, .string x163003_21] 50 (0, 0)) (by (with_reducible repeat (first | refine blk_drewN ?_ _ | refine blk_drew ?_ | refine blk_alloc ?_ _)); exact BK162.out) hb)
                   have n3_ := Aside0.mk (IsS70.below (by repeat (first | (with_reducible first | exact HI157.out | apply IsS70.alloc | apply IsS70.drewN | apply IsS70.drew | apply IsS70.set_0 | apply IsS70.set_1 | refine IsS70.far ?_ NB157_158.out _ | refine IsS70.far ?_ NB157_161.out _ | refine IsS70.far ?_ NB157_162.out _) | exact HI157.out)) hb)
                   have n4_ := Aside0.mk (below_step (by repeat (first | (with_reducible first | exact HB.out | apply below_alloc | apply pw_below_drewN | apply below_drew1 | refine below_set ?_ (IsS70.ge HI157.out) | refine below_set ?_ GE158.out | refine below_set ?_ GE161.out | refine below_set ?_ GE162.out) | exact HB.out)) hb)
                   clear BK158 BK161 BK162 HI157 HB; have BK158 := n0_; have BK161 := n1_; have BK162 := n2_; have HI157 := n3_; have HB := n4_; clear n0_ n1_ n2_ n3_ n4_; (try clear hb); (try clear hb2); (try clear hk); (try clear hi); refine hK.out _ _ ⟨(blk_cell BK162.out 0).trans rfl, (blk_cell BK162.out 1).trans rfl, (blk_cell BK162.out 2).trans rfl, (blk_cell BK162.out 3).trans rfl, (blk_cell BK158.out 0).trans rfl, (blk_cell BK158.out 1).trans rfl⟩ (fun hHeld => ?_)
                   clear hK K; refine norm_ (a' := ?_) ?_ ?_
                   rotate_left
                   ·
                    show Act.put _ (some 109) _ = _
                    simp only [Act.put, List.setIfInBounds_toArray, List.set_cons_zero, List.set_cons_succ, i64_w, i32_w]; rfl
                   refine pure_ (i := 29) (N := some 110) (v := ?_) (a' := ?_) (mkB0 31 1073741823) rfl rfl (any_of HT_.out (by kernel_rfl)) (fun _ _ _ h => h) (Or.inl ⟨by rfl, ?_⟩) ?_ ?_
                   rotate_left
                   ·
                    intro w'; go_simp; with_reducible rfl
                   rotate_left
                   ·
                    simp only [Act.put, List.setIfInBounds_toArray, List.set_cons_zero, List.set_cons_succ, i64_w, i32_w]; rfl
                   refine pure_ (i := 30) (N := some 111) (v := ?_) (a' := ?_) (mkB0 31 2147483647) rfl rfl (any_of HT_.out (by kernel_rfl)) (fun _ _ _ h => h) (Or.inl ⟨by rfl, ?_⟩) ?_ ?_
                   rotate_left
                   ·
                    intro w'; go_simp; with_reducible rfl
                   rotate_left
                   ·
                    simp only [Act.put, List.setIfInBounds_toArray, List.set_cons_zero, List.set_cons_succ, i64_w, i32_w]; rfl
                   refine done_ (done_of HT_.out (by kernel_rfl)) ?_
                   try go_wp2
                   go_ret
                   exact ⟨by first | rfl | (simp [errW_none, errW_some] <;> rfl) | (simp [*, errW_none, errW_some] <;> rfl), by repeat (first | (with_reducible first | exact HB.out | apply below_alloc | apply pw_below_drewN | apply below_drew1 | refine below_set ?_ (IsS70.ge HI157.out) | refine below_set ?_ GE158.out | refine below_set ?_ GE161.out | refine below_set ?_ GE162.out) | exact HB.out)⟩
                 ·
                  rw [if_neg c95] at H
                  have c95b0 : (t195 == x163001_21) = false := beq_eq_false_iff_ne.mpr c95
                  have c95b1 : (t195 != x163001_21) = true := bne_iff_ne.mpr c95
                  obtain rfl := Option.some.inj H
                  have hnb127 := NB162_158.out; have hnc127 := NB158_162.out; have hnb128 := NB162_161.out; have hnc128 := NB161_162.out; have hnb129 := NB162_157.out; have hnc129 := NB157_162.out; have hcz130_0 : wc.cell? ⟨gb162, 0, none⟩ = some (.string x163000_21) := (blk_cell BK162.out 0).trans rfl
                  have hcz130_1 : wc.cell? ⟨gb162, 1, none⟩ = some (.int .i64 x163001_21) := (blk_cell BK162.out 1).trans rfl
                  have hcz130_2 : wc.cell? ⟨gb162, 2, none⟩ = some (.int .i64 x163002_21) := (blk_cell BK162.out 2).trans rfl
                  have hcz130_3 : wc.cell? ⟨gb162, 3, none⟩ = some (.string x163003_21) := (blk_cell BK162.out 3).trans rfl
                  have hfz130_0 := blk_frozen BK162.out 0; have hfz130_1 := blk_frozen BK162.out 1; have hfz130_2 := blk_frozen BK162.out 2; have hfz130_3 := blk_frozen BK162.out 3; have hnb131 := NB158_161.out; have hnc131 := NB161_158.out; have hnb132 := NB158_157.out; have hnc132 := NB157_158.out; have hcz133_0 : wc.cell? ⟨gb158, 0, none⟩ = some (.string x159000_2) := (blk_cell BK158.out 0).trans rfl
                  have hcz133_1 : wc.cell? ⟨gb158, 1, none⟩ = some (.int .i64 x159001_2) := (blk_cell BK158.out 1).trans rfl
                  have hfz133_0 := blk_frozen BK158.out 0; have hfz133_1 := blk_frozen BK158.out 1; try go_wp2
                  have n0_ : Aside0 (((wc.setCell ⟨gb158, 0, none⟩ (.string x163000_21)).setCell ⟨gb158, 1, none⟩ (.int .i64 x163001_21)).heap[gb158]? = some (.cells #[.string x163000_21, .int .i64 x163001_21] 48 (0, 0))) := ⟨by (with_reducible repeat (first | refine blk_drewN ?_ _ | refine blk_drew ?_ | refine blk_alloc ?_ _)); refine blk_put (cs := #[.string x163000_21, .int .i64 x159001_2]) ?_ 1 _ rfl; (with_reducible repeat (first | refine blk_drewN ?_ _ | refine blk_drew ?_ | refine blk_alloc ?_ _)); refine blk_put (cs := #[.string x159000_2, .int .i64 x159001_2]) ?_ 0 _ rfl; (with_reducible repeat (first | refine blk_drewN ?_ _ | refine blk_drew ?_ | refine blk_alloc ?_ _)); exact BK158.out⟩
                  have n1_ : Aside0 (((wc.setCell ⟨gb158, 0, none⟩ (.string x163000_21)).setCell ⟨gb158, 1, none⟩ (.int .i64 x163001_21)).heap[gb161]? = some (.cells #[.int .i64 ((rd_T37 l1 x7_2).f0), .int .i64 ((rd_T37 l1 x7_2).f1), .int .i64 ((rd_T37 l1 x7_2).f2), .string ((rd_T37 l1 x7_2).f3)] 37 (0, 0))) := ⟨by (with_reducible repeat (first | refine blk_drewN ?_ _ | refine blk_drew ?_ | refine blk_alloc ?_ _)); refine blk_far ?_ NB161_158.out _; (with_reducible repeat (first | refine blk_drewN ?_ _ | refine blk_drew ?_ | refine blk_alloc ?_ _)); refine blk_far ?_ NB161_158.out _; (with_reducible repeat (first | refine blk_drewN ?_ _ | refine blk_drew ?_ | refine blk_alloc ?_ _)); exact BK161.out⟩
                  have n2_ : Aside0 (((wc.setCell ⟨gb158, 0, none⟩ (.string x163000_21)).setCell ⟨gb158, 1, none⟩ (.int .i64 x163001_21)).heap[gb162]? = some (.cells #[.string x163000_21, .int .i64 x163001_21, .int .i64 x163002_21, .string x163003_21] 50 (0, 0))) := ⟨by (with_reducible repeat (first | refine blk_drewN ?_ _ | refine blk_drew ?_ | refine blk_alloc ?_ _)); refine blk_far ?_ NB162_158.out _; (with_reducible repeat (first | refine blk_drewN ?_ _ | refine blk_drew ?_ | refine blk_alloc ?_ _)); refine blk_far ?_ NB162_158.out _; (with_reducible repeat (first | refine blk_drewN ?_ _ | refine blk_drew ?_ | refine blk_alloc ?_ _)); exact BK162.out⟩
                  have n3_ : Aside0 (IsS70 w ((wc.setCell ⟨gb158, 0, none⟩ (.string x163000_21)).setCell ⟨gb158, 1, none⟩ (.int .i64 x163001_21)) g157 x158000_21 x158001_21) := ⟨by repeat (first | (with_reducible first | exact HI157.out | apply IsS70.alloc | apply IsS70.drewN | apply IsS70.drew | apply IsS70.set_0 | apply IsS70.set_1 | refine IsS70.far ?_ NB157_158.out _ | refine IsS70.far ?_ NB157_161.out _ | refine IsS70.far ?_ NB157_162.out _) | exact HI157.out)⟩
                  have n4_ : Aside0 (Below w.heap.size w ((wc.setCell ⟨gb158, 0, none⟩ (.string x163000_21)).setCell ⟨gb158, 1, none⟩ (.int .i64 x163001_21))) := ⟨by repeat (first | (with_reducible first | exact HB.out | apply below_alloc | apply pw_below_drewN | apply below_drew1 | refine below_set ?_ (IsS70.ge HI157.out) | refine below_set ?_ GE158.out | refine below_set ?_ GE161.out | refine below_set ?_ GE162.out) | exact HB.out)⟩
                  (try clear BK158); (try clear BK161); (try clear BK162); (try clear HI157); (try clear HB); generalize ((wc.setCell ⟨gb158, 0, none⟩ (.string x163000_21)).setCell ⟨gb158, 1, none⟩ (.int .i64 x163001_21)) = w134 at n0_ n1_ n2_ n3_ n4_ ⊢
                  have BK158 := n0_; have BK161 := n1_; have BK162 := n2_; have HI157 := n3_; have HB := n4_; clear n0_ n1_ n2_ n3_ n4_; have n0_ := Aside0.mk (blk_drew BK158.out)
                  have n1_ := Aside0.mk (blk_drew BK161.out)
                  have n2_ := Aside0.mk (blk_drew BK162.out)
                  have n3_ := Aside0.mk (IsS70.drew HI157.out)
                  have n4_ := Aside0.mk (below_drew1 HB.out)
                  clear BK158 BK161 BK162 HI157 HB; have BK158 := n0_; have BK161 := n1_; have BK162 := n2_; have HI157 := n3_; have HB := n4_; clear n0_ n1_ n2_ n3_ n4_; refine start_ (n := 31) (S := fun w' => w'.cell? ⟨gb162, 0, none⟩ = some (.string x163000_21) ∧ w'.cell? ⟨gb162, 1, none⟩ = some (.int .i64 x163001_21) ∧ w'.cell? ⟨gb162, 2, none⟩ = some (.int .i64 x163002_21) ∧ w'.cell? ⟨gb162, 3, none⟩ = some (.string x163003_21) ∧ w'.cell? ⟨gb158, 0, none⟩ = some (.string x163000_21) ∧ w'.cell? ⟨gb158, 1, none⟩ = some (.int .i64 x163001_21)) (ds := []) (mkB0 31 0) (by kernel_rfl) rfl rfl ⟨(blk_cell BK162.out 0).trans rfl, (blk_cell BK162.out 1).trans rfl, (blk_cell BK162.out 2).trans rfl, (blk_cell BK162.out 3).trans rfl, (blk_cell BK158.out 0).trans rfl, (blk_cell BK158.out 1).trans rfl⟩ (fun hHeld => ?_); refine with_tabW mosaiclaw02_OctReads.tab27 mosaiclaw02_OctReads.bits27 (fun HT_ HW_ => ?_)
                  generalize w134.drew = w135 at BK158 BK161 BK162 HI157 HB hHeld ⊢
                  refine pure_ (i := 0) (N := some 81) (v := ?_) (a' := ?_) (mkB0 31 1) rfl rfl (any_of HT_.out (by kernel_rfl)) (fun _ _ _ h => h) (Or.inl ⟨by rfl, ?_⟩) ?_ ?_
                  rotate_left
                  ·
                   intro w'; go_simp; with_reducible rfl
                  rotate_left
                  ·
                   simp only [Act.put, List.setIfInBounds_toArray, List.set_cons_zero, List.set_cons_succ, i64_w, i32_w]; rfl
                  refine pure_ (i := 1) (N := some 82) (v := ?_) (a' := ?_) (mkB0 31 3) rfl rfl (any_of HT_.out (by kernel_rfl)) (fun _ _ _ h => h) (Or.inl ⟨by rfl, ?_⟩) ?_ ?_
                  rotate_left
                  ·
                   intro w'; go_simp; with_reducible rfl
                  rotate_left
                  ·
                   simp only [Act.put, List.setIfInBounds_toArray, List.set_cons_zero, List.set_cons_succ, i64_w, i32_w]; rfl
                  refine take_ (i := 2) (N := some 83) (v := ?_) (a' := ?_) (mkB0 31 7) rfl rfl (take_ofW HT_.out HW_.out (by kernel_rfl)) (fun _ _ _ h => h) (Or.inl ⟨by rfl, ?_⟩) hHeld ?_ ?_
                  rotate_left
                  ·
                   rintro w' ⟨s0, s1, s2, s3, s4, s5⟩
                   go_simp; with_reducible rfl
                  rotate_left
                  ·
                   simp only [Act.put, List.setIfInBounds_toArray, List.set_cons_zero, List.set_cons_succ, i64_w, i32_w]; rfl
                  refine pure_ (i := 3) (N := some 84) (v := ?_) (a' := ?_) (mkB0 31 15) rfl rfl (any_of HT_.out (by kernel_rfl)) (fun _ _ _ h => h) (Or.inl ⟨by rfl, ?_⟩) ?_ ?_
                  rotate_left
                  ·
                   intro w'; go_simp; with_reducible rfl
                  rotate_left
                  ·
                   simp only [Act.put, List.setIfInBounds_toArray, List.set_cons_zero, List.set_cons_succ, i64_w, i32_w]; rfl
                  refine pure_ (i := 4) (N := some 85) (v := ?_) (a' := ?_) (mkB0 31 31) rfl rfl (any_of HT_.out (by kernel_rfl)) (fun _ _ _ h => h) (Or.inl ⟨by rfl, ?_⟩) ?_ ?_
                  rotate_left
                  ·
                   intro w'; go_simp; with_reducible rfl
                  rotate_left
                  ·
                   simp only [Act.put, List.setIfInBounds_toArray, List.set_cons_zero, List.set_cons_succ, i64_w, i32_w]; rfl
                  refine pure_ (i := 5) (N := some 86) (v := ?_) (a' := ?_) (mkB0 31 63) rfl rfl (any_of HT_.out (by kernel_rfl)) (fun _ _ _ h => h) (Or.inl ⟨by rfl, ?_⟩) ?_ ?_
                  rotate_left
                  ·
                   intro w'; go_simp; with_reducible rfl
                  rotate_left
                  ·
                   simp only [Act.put, List.setIfInBounds_toArray, List.set_cons_zero, List.set_cons_succ, i64_w, i32_w]; rfl
                  refine pure_ (i := 6) (N := some 87) (v := ?_) (a' := ?_) (mkB0 31 127) rfl rfl (any_of HT_.out (by kernel_rfl)) (fun _ _ _ h => h) (Or.inl ⟨by rfl, ?_⟩) ?_ ?_
                  rotate_left
                  ·
                   intro w'; go_simp; with_reducible rfl
                  rotate_left
                  ·
                   simp only [Act.put, List.setIfInBounds_toArray, List.set_cons_zero, List.set_cons_succ, i64_w, i32_w]; rfl
                  refine take_ (i := 7) (N := some 88) (v := ?_) (a' := ?_) (mkB0 31 255) rfl rfl (take_ofW HT_.out HW_.out (by kernel_rfl)) (fun _ _ _ h => h) (Or.inl ⟨by rfl, ?_⟩) hHeld ?_ ?_
                  rotate_left
                  ·
                   rintro w' ⟨s0, s1, s2, s3, s4, s5⟩
                   go_simp; with_reducible rfl
                  rotate_left
                  ·
                   simp only [Act.put, List.setIfInBounds_toArray, List.set_cons_zero, List.set_cons_succ, i64_w, i32_w]; rfl
                  refine pure_ (i := 8) (N := some 89) (v := ?_) (a' := ?_) (mkB0 31 511) rfl rfl (any_of HT_.out (by kernel_rfl)) (fun _ _ _ h => h) (Or.inl ⟨by rfl, ?_⟩) ?_ ?_
                  rotate_left
                  ·
                   intro w'; go_simp; with_reducible rfl
                  rotate_left
                  ·
                   simp only [Act.put, List.setIfInBounds_toArray, List.set_cons_zero, List.set_cons_succ, i64_w, i32_w]; rfl
                  refine pure_ (i := 9) (N := some 90) (v := ?_) (a' := ?_) (mkB0 31 1023) rfl rfl (any_of HT_.out (by kernel_rfl)) (fun _ _ _ h => h) (Or.inl ⟨by rfl, ?_⟩) ?_ ?_
                  rotate_left
                  ·
                   intro w'; go_simp; with_reducible rfl
                  rotate_left
                  ·
                   simp only [Act.put, List.setIfInBounds_toArray, List.set_cons_zero, List.set_cons_succ, i64_w, i32_w]; rfl
                  refine pure_ (i := 10) (N := some 91) (v := ?_) (a' := ?_) (mkB0 31 2047) rfl rfl (any_of HT_.out (by kernel_rfl)) (fun _ _ _ h => h) (Or.inl ⟨by rfl, ?_⟩) ?_ ?_
                  rotate_left
                  ·
                   intro w'; go_simp; with_reducible rfl
                  rotate_left
                  ·
                   simp only [Act.put, List.setIfInBounds_toArray, List.set_cons_zero, List.set_cons_succ, i64_w, i32_w]; rfl
                  refine pure_ (i := 11) (N := some 92) (v := ?_) (a' := ?_) (mkB0 31 4095) rfl rfl (any_of HT_.out (by kernel_rfl)) (fun _ _ _ h => h) (Or.inl ⟨by rfl, ?_⟩) ?_ ?_
                  rotate_left
                  ·
                   intro w'; go_simp; with_reducible rfl
                  rotate_left
                  ·
                   simp only [Act.put, List.setIfInBounds_toArray, List.set_cons_zero, List.set_cons_succ, i64_w, i32_w]; rfl
                  refine take_ (i := 13) (N := some 94) (v := ?_) (a' := ?_) (mkB0 31 12287) rfl rfl (take_ofW HT_.out HW_.out (by kernel_rfl)) (fun _ _ _ h => h) (Or.inl ⟨by rfl, ?_⟩) hHeld ?_ ?_
                  rotate_left
                  ·
                   rintro w' ⟨s0, s1, s2, s3, s4, s5⟩
                   go_simp; with_reducible rfl
                  rotate_left
                  ·
                   simp only [Act.put, List.setIfInBounds_toArray, List.set_cons_zero, List.set_cons_succ, i64_w, i32_w]; rfl
                  refine one_ (i := 12) (N := some 93) (mkB0 31 16383) rfl rfl (one_of HT_.out (by kernel_rfl)) (by decide) (fun K hK => ?_)
                  refine goes_ Try.func31 (by kernel_rfl) rfl #[.pointer (some ⟨g157, 0, none⟩)] (by rfl) rfl rfl (by (try simp only [List.map_toArray, List.map_cons, List.map_nil]); first | done | rfl | (simp only [List.length_drop, List.length_take]; rfl)) ?_
                  with_reducible refine (oct_Reader_Left.calls g157 x158000_21 x158001_21 t191 t192 t193 w _ ?side1 ?side2 A91.out).mono ?_
                  (case side1 => repeat (first | (with_reducible first | exact HI157.out | apply IsS70.alloc | apply IsS70.drewN | apply IsS70.drew | apply IsS70.set_0 | apply IsS70.set_1 | refine IsS70.far ?_ NB157_158.out _ | refine IsS70.far ?_ NB157_161.out _ | refine IsS70.far ?_ NB157_162.out _) | exact HI157.out))
                  (case side2 => repeat (first | (with_reducible first | exact HB.out | apply below_alloc | apply pw_below_drewN | apply below_drew1 | refine below_set ?_ (IsS70.ge HI157.out) | refine below_set ?_ GE158.out | refine below_set ?_ GE161.out | refine below_set ?_ GE162.out) | exact HB.out))
                  rintro e w136 ⟨rfl, hi, hb, hk⟩; refine ⟨_, rfl, ?_⟩; have n0_ := Aside0.mk (KeepBut.blk hk (g' := gb158) (o := .cells #[.string x163000_21, .int .i64 x163001_21] 48 (0, 0)) (by (with_reducible repeat (first | refine blk_drewN ?_ _ | refine blk_drew ?_ | refine blk_alloc ?_ _)); exact BK158.out) NB158_157.out (by simp))
                  have n1_ := Aside0.mk (KeepBut.blk hk (g' := gb161) (o := .cells #[.int .i64 ((rd_T37 l1 x7_2).f0), .int .i64 ((rd_T37 l1 x7_2).f1), .int .i64 ((rd_T37 l1 x7_2).f2), .string ((rd_T37 l1 x7_2).f3)] 37 (0, 0)) (by (with_reducible repeat (first | refine blk_drewN ?_ _ | refine blk_drew ?_ | refine blk_alloc ?_ _)); exact BK161.out) NB161_157.out (by simp))
                  have n2_ := Aside0.mk (KeepBut.blk hk (g' := gb162) (o := .cells #[.string x163000_21, .int .i64 x163001_21, .int .i64 x163002_21, .string x163003_21] 50 (0, 0)) (by (with_reducible repeat (first | refine blk_drewN ?_ _ | refine blk_drew ?_ | refine blk_alloc ?_ _)); exact BK162.out) NB162_157.out (by simp))
                  have n3_ := Aside0.mk (hb)
                  have n4_ := Aside0.mk (hi)
                  clear BK158 BK161 BK162 HB HI157; have BK158 := n0_; have BK161 := n1_; have BK162 := n2_; have HB := n3_; have HI157 := n4_; clear n0_ n1_ n2_ n3_ n4_; (try clear hb); (try clear hb2); (try clear hk); (try clear hi); refine hK.out _ _ ⟨(blk_cell BK162.out 0).trans rfl, (blk_cell BK162.out 1).trans rfl, (blk_cell BK162.out 2).trans rfl, (blk_cell BK162.out 3).trans rfl, (blk_cell BK158.out 0).trans rfl, (blk_cell BK158.out 1).trans rfl⟩ (fun hHeld => ?_)
                  clear hK K; refine norm_ (a' := ?_) ?_ ?_
                  rotate_left
                  ·
                   show Act.put _ (some 93) _ = _
                   simp only [Act.put, List.setIfInBounds_toArray, List.set_cons_zero, List.set_cons_succ, i64_w, i32_w]; rfl
                  refine one_ (i := 14) (N := some 95) (mkB0 31 32767) rfl rfl (one_of HT_.out (by kernel_rfl)) (by decide) (fun K hK => ?_)
                  refine goes_ Try.func32 (by kernel_rfl) rfl #[.agg #[.string x163000_21, .int .i64 x163001_21]] (by rfl) rfl rfl (by (try simp only [List.map_toArray, List.map_cons, List.map_nil]); first | done | rfl | (simp only [List.length_drop, List.length_take]; rfl)) ?_
                  with_reducible refine (mosaicref02_Reader_Left.calls x163000_21 x163001_21 t194 _ A92.out).mono ?_
                  rintro e w137 ⟨rfl, hb⟩; refine ⟨_, rfl, ?_⟩; have n0_ := Aside0.mk (blk_below (g := gb158) (o := .cells #[.string x163000_21, .int .i64 x163001_21] 48 (0, 0)) (by (with_reducible repeat (first | refine blk_drewN ?_ _ | refine blk_drew ?_ | refine blk_alloc ?_ _)); exact BK158.out) hb)
                  have n1_ := Aside0.mk (blk_below (g := gb161) (o := .cells #[.int .i64 ((rd_T37 l1 x7_2).f0), .int .i64 ((rd_T37 l1 x7_2).f1), .int .i64 ((rd_T37 l1 x7_2).f2), .string ((rd_T37 l1 x7_2).f3)] 37 (0, 0)) (by (with_reducible repeat (first | refine blk_drewN ?_ _ | refine blk_drew ?_ | refine blk_alloc ?_ _)); exact BK161.out) hb)
                  have n2_ := Aside0.mk (blk_below (g := gb162) (o := .cells #[.string x163000_21, .int .i64 x163001_21, .int .i64 x163002_21, .string x163003_21] 50 (0, 0)) (by (with_reducible repeat (first | refine blk_drewN ?_ _ | refine blk_drew ?_ | refine blk_alloc ?_ _)); exact BK162.out) hb)
                  have n3_ := Aside0.mk (IsS70.below (by repeat (first | (with_reducible first | exact HI157.out | apply IsS70.alloc | apply IsS70.drewN | apply IsS70.drew | apply IsS70.set_0 | apply IsS70.set_1 | refine IsS70.far ?_ NB157_158.out _ | refine IsS70.far ?_ NB157_161.out _ | refine IsS70.far ?_ NB157_162.out _) | exact HI157.out)) hb)
                  have n4_ := Aside0.mk (below_step (by repeat (first | (with_reducible first | exact HB.out | apply below_alloc | apply pw_below_drewN | apply below_drew1 | refine below_set ?_ (IsS70.ge HI157.out) | refine below_set ?_ GE158.out | refine below_set ?_ GE161.out | refine below_set ?_ GE162.out) | exact HB.out)) hb)
                  clear BK158 BK161 BK162 HI157 HB; have BK158 := n0_; have BK161 := n1_; have BK162 := n2_; have HI157 := n3_; have HB := n4_; clear n0_ n1_ n2_ n3_ n4_; (try clear hb); (try clear hb2); (try clear hk); (try clear hi); refine hK.out _ _ ⟨(blk_cell BK162.out 0).trans rfl, (blk_cell BK162.out 1).trans rfl, (blk_cell BK162.out 2).trans rfl, (blk_cell BK162.out 3).trans rfl, (blk_cell BK158.out 0).trans rfl, (blk_cell BK158.out 1).trans rfl⟩ (fun hHeld => ?_)
                  clear hK K; refine norm_ (a' := ?_) ?_ ?_
                  rotate_left
                  ·
                   show Act.put _ (some 95) _ = _
                   simp only [Act.put, List.setIfInBounds_toArray, List.set_cons_zero, List.set_cons_succ, i64_w, i32_w]; rfl
                  refine pure_ (i := 15) (N := some 96) (v := ?_) (a' := ?_) (mkB0 31 65535) rfl rfl (any_of HT_.out (by kernel_rfl)) (fun _ _ _ h => h) (Or.inl ⟨by rfl, ?_⟩) ?_ ?_
                  rotate_left
                  ·
                   intro w'; go_simp; with_reducible rfl
                  rotate_left
                  ·
                   simp only [Act.put, List.setIfInBounds_toArray, List.set_cons_zero, List.set_cons_succ, i64_w, i32_w]; rfl
                  refine pure_ (i := 16) (N := some 97) (v := ?_) (a' := ?_) (mkB0 31 131071) rfl rfl (any_of HT_.out (by kernel_rfl)) (fun _ _ _ h => h) (Or.inl ⟨by rfl, ?_⟩) ?_ ?_
                  rotate_left
                  ·
                   intro w'; go_simp; with_reducible rfl
                  rotate_left
                  ·
                   simp only [Act.put, List.setIfInBounds_toArray, List.set_cons_zero, List.set_cons_succ, i64_w, i32_w]; rfl
                  refine pure_ (i := 17) (N := some 98) (v := ?_) (a' := ?_) (mkB0 31 262143) rfl rfl (any_of HT_.out (by kernel_rfl)) (fun _ _ _ h => h) (Or.inl ⟨by rfl, ?_⟩) ?_ ?_
                  rotate_left
                  ·
                   intro w'; go_simp; with_reducible rfl
                  rotate_left
                  ·
                   simp only [Act.put, List.setIfInBounds_toArray, List.set_cons_zero, List.set_cons_succ, i64_w, i32_w]; rfl
                  refine pure_ (i := 18) (N := some 99) (v := ?_) (a' := ?_) (mkB0 31 524287) rfl rfl (any_of HT_.out (by kernel_rfl)) (fun _ _ _ h => h) (Or.inl ⟨by rfl, ?_⟩) ?_ ?_
                  rotate_left
                  ·
                   intro w'; go_simp; with_reducible rfl
                  rotate_left
                  ·
                   simp only [Act.put, List.setIfInBounds_toArray, List.set_cons_zero, List.set_cons_succ, i64_w, i32_w]; rfl
                  refine pure_ (i := 20) (N := some 101) (v := ?_) (a' := ?_) (mkB0 31 1572863) rfl rfl (any_of HT_.out (by kernel_rfl)) (fun _ _ _ h => h) (Or.inl ⟨by rfl, ?_⟩) ?_ ?_
                  rotate_left
                  ·
                   intro w'; go_simp; with_reducible rfl
                  rotate_left
                  ·
                   simp only [Act.put, List.setIfInBounds_toArray, List.set_cons_zero, List.set_cons_succ, i64_w, i32_w]; rfl
                  refine take_ (i := 21) (N := some 102) (v := ?_) (a' := ?_) (mkB0 31 3670015) rfl rfl (take_ofW HT_.out HW_.out (by kernel_rfl)) (fun _ _ _ h => h) (Or.inl ⟨by rfl, ?_⟩) hHeld ?_ ?_
                  rotate_left
                  ·
                   rintro w' ⟨s0, s1, s2, s3, s4, s5⟩
                   go_simp; with_reducible rfl
                  rotate_left
                  ·
                   simp only [Act.put, List.setIfInBounds_toArray, List.set_cons_zero, List.set_cons_succ, i64_w, i32_w]; rfl
                  refine one_ (i := 19) (N := some 100) (mkB0 31 4194303) rfl rfl (one_of HT_.out (by kernel_rfl)) (by decide) (fun K hK => ?_)
                  refine goes_ Try.func33 (by kernel_rfl) rfl #[.pointer (some ⟨g157, 0, none⟩)] (by rfl) rfl rfl (by (try simp only [List.map_toArray, List.map_cons, List.map_nil]); first | done | rfl | (simp only [List.length_drop, List.length_take]; rfl)) ?_
                  with_reducible refine (oct_Reader_Err.calls g157 t192 t193 t195 t196 t197 w _ ?side1 ?side2 A94.out).mono ?_
                  (case side1 => repeat (first | (with_reducible first | exact HI157.out | apply IsS70.alloc | apply IsS70.drewN | apply IsS70.drew | apply IsS70.set_0 | apply IsS70.set_1 | refine IsS70.far ?_ NB157_158.out _ | refine IsS70.far ?_ NB157_161.out _ | refine IsS70.far ?_ NB157_162.out _) | exact HI157.out))
                  (case side2 => repeat (first | (with_reducible first | exact HB.out | apply below_alloc | apply pw_below_drewN | apply below_drew1 | refine below_set ?_ (IsS70.ge HI157.out) | refine below_set ?_ GE158.out | refine below_set ?_ GE161.out | refine below_set ?_ GE162.out) | exact HB.out))
                  rintro e w138 ⟨rfl, hi, hb, hk⟩; refine ⟨_, rfl, ?_⟩; have n0_ := Aside0.mk (KeepBut.blk hk (g' := gb158) (o := .cells #[.string x163000_21, .int .i64 x163001_21] 48 (0, 0)) (by (with_reducible repeat (first | refine blk_drewN ?_ _ | refine blk_drew ?_ | refine blk_alloc ?_ _)); exact BK158.out) NB158_157.out (by simp))
                  have n1_ := Aside0.mk (KeepBut.blk hk (g' := gb161) (o := .cells #[.int .i64 ((rd_T37 l1 x7_2).f0), .int .i64 ((rd_T37 l1 x7_2).f1), .int .i64 ((rd_T37 l1 x7_2).f2), .string ((rd_T37 l1 x7_2).f3)] 37 (0, 0)) (by (with_reducible repeat (first | refine blk_drewN ?_ _ | refine blk_drew ?_ | refine blk_alloc ?_ _)); exact BK161.out) NB161_157.out (by simp))
                  have n2_ := Aside0.mk (KeepBut.blk hk (g' := gb162) (o := .cells #[.string x163000_21, .int .i64 x163001_21, .int .i64 x163002_21, .string x163003_21] 50 (0, 0)) (by (with_reducible repeat (first | refine blk_drewN ?_ _ | refine blk_drew ?_ | refine blk_alloc ?_ _)); exact BK162.out) NB162_157.out (by simp))
                  have n3_ := Aside0.mk (hb)
                  have n4_ := Aside0.mk (hi)
                  clear BK158 BK161 BK162 HB HI157; have BK158 := n0_; have BK161 := n1_; have BK162 := n2_; have HB := n3_; have HI157 := n4_; clear n0_ n1_ n2_ n3_ n4_; (try clear hb); (try clear hb2); (try clear hk); (try clear hi); refine hK.out _ _ ⟨(blk_cell BK162.out 0).trans rfl, (blk_cell BK162.out 1).trans rfl, (blk_cell BK162.out 2).trans rfl, (blk_cell BK162.out 3).trans rfl, (blk_cell BK158.out 0).trans rfl, (blk_cell BK158.out 1).trans rfl⟩ (fun hHeld => ?_)
                  clear hK K; refine norm_ (a' := ?_) ?_ ?_
                  rotate_left
                  ·
                   show Act.put _ (some 100) _ = _
                   simp only [Act.put, List.setIfInBounds_toArray, List.set_cons_zero, List.set_cons_succ, i64_w, i32_w]; rfl
                  refine pure_ (i := 22) (N := some 103) (v := ?_) (a' := ?_) (mkB0 31 8388607) rfl rfl (any_of HT_.out (by kernel_rfl)) (fun _ _ _ h => h) (Or.inl ⟨by rfl, ?_⟩) ?_ ?_
                  rotate_left
                  ·
                   intro w'; go_simp; with_reducible rfl
                  rotate_left
                  ·
                   simp only [Act.put, List.setIfInBounds_toArray, List.set_cons_zero, List.set_cons_succ, i64_w, i32_w]; rfl
                  refine pure_ (i := 23) (N := some 104) (v := ?_) (a' := ?_) (mkB0 31 16777215) rfl rfl (any_of HT_.out (by kernel_rfl)) (fun _ _ _ h => h) (Or.inl ⟨by rfl, ?_⟩) ?_ ?_
                  rotate_left
                  ·
                   intro w'; go_simp; with_reducible rfl
                  rotate_left
                  ·
                   simp only [Act.put, List.setIfInBounds_toArray, List.set_cons_zero, List.set_cons_succ, i64_w, i32_w]; rfl
                  refine pure_ (i := 24) (N := some 105) (v := ?_) (a' := ?_) (mkB0 31 33554431) rfl rfl (any_of HT_.out (by kernel_rfl)) (fun _ _ _ h => h) (Or.inl ⟨by rfl, ?_⟩) ?_ ?_
                  rotate_left
                  ·
                   intro w'; go_simp; with_reducible rfl
                  rotate_left
                  ·
                   simp only [Act.put, List.setIfInBounds_toArray, List.set_cons_zero, List.set_cons_succ, i64_w, i32_w]; rfl
                  refine pure_ (i := 25) (N := some 106) (v := undef) (a' := ?_) (mkB0 31 67108863) rfl rfl (any_of HT_.out (by kernel_rfl)) (fun _ _ _ h => h) (Or.inr ⟨by rfl, rfl⟩) ?_ ?_
                  rotate_left
                  ·
                   simp only [Act.put, List.setIfInBounds_toArray, List.set_cons_zero, List.set_cons_succ, i64_w, i32_w]; rfl
                  refine pure_ (i := 26) (N := some 107) (v := undef) (a' := ?_) (mkB0 31 134217727) rfl rfl (any_of HT_.out (by kernel_rfl)) (fun _ _ _ h => h) (Or.inr ⟨by rfl, rfl⟩) ?_ ?_
                  rotate_left
                  ·
                   simp only [Act.put, List.setIfInBounds_toArray, List.set_cons_zero, List.set_cons_succ, i64_w, i32_w]; rfl
                  refine pure_ (i := 27) (N := some 108) (v := undef) (a' := ?_) (mkB0 31 268435455) rfl rfl (any_of HT_.out (by kernel_rfl)) (fun _ _ _ h => h) (Or.inr ⟨by rfl, rfl⟩) ?_ ?_
                  rotate_left
                  ·
                   simp only [Act.put, List.setIfInBounds_toArray, List.set_cons_zero, List.set_cons_succ, i64_w, i32_w]; rfl
                  refine pure_ (i := 28) (N := some 109) (v := undef) (a' := ?_) (mkB0 31 536870911) rfl rfl (any_of HT_.out (by kernel_rfl)) (fun _ _ _ h => h) (Or.inr ⟨by rfl, rfl⟩) ?_ ?_
                  rotate_left
                  ·
                   simp only [Act.put, List.setIfInBounds_toArray, List.set_cons_zero, List.set_cons_succ, i64_w, i32_w]; rfl
                  refine pure_ (i := 29) (N := some 110) (v := undef) (a' := ?_) (mkB0 31 1073741823) rfl rfl (any_of HT_.out (by kernel_rfl)) (fun _ _ _ h => h) (Or.inr ⟨by rfl, rfl⟩) ?_ ?_
                  rotate_left
                  ·
                   simp only [Act.put, List.setIfInBounds_toArray, List.set_cons_zero, List.set_cons_succ, i64_w, i32_w]; rfl
                  refine pure_ (i := 30) (N := some 111) (v := ?_) (a' := ?_) (mkB0 31 2147483647) rfl rfl (any_of HT_.out (by kernel_rfl)) (fun _ _ _ h => h) (Or.inl ⟨by rfl, ?_⟩) ?_ ?_
                  rotate_left
                  ·
                   intro w'; go_simp; with_reducible rfl
                  rotate_left
                  ·
                   simp only [Act.put, List.setIfInBounds_toArray, List.set_cons_zero, List.set_cons_succ, i64_w, i32_w]; rfl
                  refine done_ (done_of HT_.out (by kernel_rfl)) ?_
                  try go_wp2
                  go_ret
                  exact ⟨by first | rfl | (simp [errW_none, errW_some] <;> rfl) | (simp [*, errW_none, errW_some] <;> rfl), by repeat (first | (with_reducible first | exact HB.out | apply below_alloc | apply pw_below_drewN | apply below_drew1 | refine below_set ?_ (IsS70.ge HI157.out) | refine below_set ?_ GE158.out | refine below_set ?_ GE161.out | refine below_set ?_ GE162.out) | exact HB.out)⟩
                ·
                 rw [if_neg c93] at H
                 have c93b0 : (t191 == t194) = false := beq_eq_false_iff_ne.mpr c93
                 have c93b1 : (t191 != t194) = true := bne_iff_ne.mpr c93
                 obtain rfl := Option.some.inj H
                 have hnb139 := NB162_158.out; have hnc139 := NB158_162.out; have hnb140 := NB162_161.out; have hnc140 := NB161_162.out; have hnb141 := NB162_157.out; have hnc141 := NB157_162.out; have hcz142_0 : wc.cell? ⟨gb162, 0, none⟩ = some (.string x163000_21) := (blk_cell BK162.out 0).trans rfl
                 have hcz142_1 : wc.cell? ⟨gb162, 1, none⟩ = some (.int .i64 x163001_21) := (blk_cell BK162.out 1).trans rfl
                 have hcz142_2 : wc.cell? ⟨gb162, 2, none⟩ = some (.int .i64 x163002_21) := (blk_cell BK162.out 2).trans rfl
                 have hcz142_3 : wc.cell? ⟨gb162, 3, none⟩ = some (.string x163003_21) := (blk_cell BK162.out 3).trans rfl
                 have hfz142_0 := blk_frozen BK162.out 0; have hfz142_1 := blk_frozen BK162.out 1; have hfz142_2 := blk_frozen BK162.out 2; have hfz142_3 := blk_frozen BK162.out 3; have hnb143 := NB158_161.out; have hnc143 := NB161_158.out; have hnb144 := NB158_157.out; have hnc144 := NB157_158.out; have hcz145_0 : wc.cell? ⟨gb158, 0, none⟩ = some (.string x159000_2) := (blk_cell BK158.out 0).trans rfl
                 have hcz145_1 : wc.cell? ⟨gb158, 1, none⟩ = some (.int .i64 x159001_2) := (blk_cell BK158.out 1).trans rfl
                 have hfz145_0 := blk_frozen BK158.out 0; have hfz145_1 := blk_frozen BK158.out 1; try go_wp2
                 have n0_ : Aside0 (((wc.setCell ⟨gb158, 0, none⟩ (.string x163000_21)).setCell ⟨gb158, 1, none⟩ (.int .i64 x163001_21)).heap[gb158]? = some (.cells #[.string x163000_21, .int .i64 x163001_21] 48 (0, 0))) := ⟨by (with_reducible repeat (first | refine blk_drewN ?_ _ | refine blk_drew ?_ | refine blk_alloc ?_ _)); refine blk_put (cs := #[.string x163000_21, .int .i64 x159001_2]) ?_ 1 _ rfl; (with_reducible repeat (first | refine blk_drewN ?_ _ | refine blk_drew ?_ | refine blk_alloc ?_ _)); refine blk_put (cs := #[.string x159000_2, .int .i64 x159001_2]) ?_ 0 _ rfl; (with_reducible repeat (first | refine blk_drewN ?_ _ | refine blk_drew ?_ | refine blk_alloc ?_ _)); exact BK158.out⟩
                 have n1_ : Aside0 (((wc.setCell ⟨gb158, 0, none⟩ (.string x163000_21)).setCell ⟨gb158, 1, none⟩ (.int .i64 x163001_21)).heap[gb161]? = some (.cells #[.int .i64 ((rd_T37 l1 x7_2).f0), .int .i64 ((rd_T37 l1 x7_2).f1), .int .i64 ((rd_T37 l1 x7_2).f2), .string ((rd_T37 l1 x7_2).f3)] 37 (0, 0))) := ⟨by (with_reducible repeat (first | refine blk_drewN ?_ _ | refine blk_drew ?_ | refine blk_alloc ?_ _)); refine blk_far ?_ NB161_158.out _; (with_reducible repeat (first | refine blk_drewN ?_ _ | refine blk_drew ?_ | refine blk_alloc ?_ _)); refine blk_far ?_ NB161_158.out _; (with_reducible repeat (first | refine blk_drewN ?_ _ | refine blk_drew ?_ | refine blk_alloc ?_ _)); exact BK161.out⟩
                 have n2_ : Aside0 (((wc.setCell ⟨gb158, 0, none⟩ (.string x163000_21)).setCell ⟨gb158, 1, none⟩ (.int .i64 x163001_21)).heap[gb162]? = some (.cells #[.string x163000_21, .int .i64 x163001_21, .int .i64 x163002_21, .string x163003_21] 50 (0, 0))) := ⟨by (with_reducible repeat (first | refine blk_drewN ?_ _ | refine blk_drew ?_ | refine blk_alloc ?_ _)); refine blk_far ?_ NB162_158.out _; (with_reducible repeat (first | refine blk_drewN ?_ _ | refine blk_drew ?_ | refine blk_alloc ?_ _)); refine blk_far ?_ NB162_158.out _; (with_reducible repeat (first | refine blk_drewN ?_ _ | refine blk_drew ?_ | refine blk_alloc ?_ _)); exact BK162.out⟩
                 have n3_ : Aside0 (IsS70 w ((wc.setCell ⟨gb158, 0, none⟩ (.string x163000_21)).setCell ⟨gb158, 1, none⟩ (.int .i64 x163001_21)) g157 x158000_21 x158001_21) := ⟨by repeat (first | (with_reducible first | exact HI157.out | apply IsS70.alloc | apply IsS70.drewN | apply IsS70.drew | apply IsS70.set_0 | apply IsS70.set_1 | refine IsS70.far ?_ NB157_158.out _ | refine IsS70.far ?_ NB157_161.out _ | refine IsS70.far ?_ NB157_162.out _) | exact HI157.out)⟩
                 have n4_ : Aside0 (Below w.heap.size w ((wc.setCell ⟨gb158, 0, none⟩ (.string x163000_21)).setCell ⟨gb158, 1, none⟩ (.int .i64 x163001_21))) := ⟨by repeat (first | (with_reducible first | exact HB.out | apply below_alloc | apply pw_below_drewN | apply below_drew1 | refine below_set ?_ (IsS70.ge HI157.out) | refine below_set ?_ GE158.out | refine below_set ?_ GE161.out | refine below_set ?_ GE162.out) | exact HB.out)⟩
                 (try clear BK158); (try clear BK161); (try clear BK162); (try clear HI157); (try clear HB); generalize ((wc.setCell ⟨gb158, 0, none⟩ (.string x163000_21)).setCell ⟨gb158, 1, none⟩ (.int .i64 x163001_21)) = w146 at n0_ n1_ n2_ n3_ n4_ ⊢
                 have BK158 := n0_; have BK161 := n1_; have BK162 := n2_; have HI157 := n3_; have HB := n4_; clear n0_ n1_ n2_ n3_ n4_; have n0_ := Aside0.mk (blk_drew BK158.out)
                 have n1_ := Aside0.mk (blk_drew BK161.out)
                 have n2_ := Aside0.mk (blk_drew BK162.out)
                 have n3_ := Aside0.mk (IsS70.drew HI157.out)
                 have n4_ := Aside0.mk (below_drew1 HB.out)
                 clear BK158 BK161 BK162 HI157 HB; have BK158 := n0_; have BK161 := n1_; have BK162 := n2_; have HI157 := n3_; have HB := n4_; clear n0_ n1_ n2_ n3_ n4_; refine start_ (n := 31) (S := fun w' => w'.cell? ⟨gb162, 0, none⟩ = some (.string x163000_21) ∧ w'.cell? ⟨gb162, 1, none⟩ = some (.int .i64 x163001_21) ∧ w'.cell? ⟨gb162, 2, none⟩ = some (.int .i64 x163002_21) ∧ w'.cell? ⟨gb162, 3, none⟩ = some (.string x163003_21) ∧ w'.cell? ⟨gb158, 0, none⟩ = some (.string x163000_21) ∧ w'.cell? ⟨gb158, 1, none⟩ = some (.int .i64 x163001_21)) (ds := []) (mkB0 31 0) (by kernel_rfl) rfl rfl ⟨(blk_cell BK162.out 0).trans rfl, (blk_cell BK162.out 1).trans rfl, (blk_cell BK162.out 2).trans rfl, (blk_cell BK162.out 3).trans rfl, (blk_cell BK158.out 0).trans rfl, (blk_cell BK158.out 1).trans rfl⟩ (fun hHeld => ?_); refine with_tabW mosaiclaw02_OctReads.tab27 mosaiclaw02_OctReads.bits27 (fun HT_ HW_ => ?_)
                 generalize w146.drew = w147 at BK158 BK161 BK162 HI157 HB hHeld ⊢
                 refine pure_ (i := 0) (N := some 81) (v := ?_) (a' := ?_) (mkB0 31 1) rfl rfl (any_of HT_.out (by kernel_rfl)) (fun _ _ _ h => h) (Or.inl ⟨by rfl, ?_⟩) ?_ ?_
                 rotate_left
                 ·
                  intro w'; go_simp; with_reducible rfl
                 rotate_left
                 ·
                  simp only [Act.put, List.setIfInBounds_toArray, List.set_cons_zero, List.set_cons_succ, i64_w, i32_w]; rfl
                 refine pure_ (i := 1) (N := some 82) (v := ?_) (a' := ?_) (mkB0 31 3) rfl rfl (any_of HT_.out (by kernel_rfl)) (fun _ _ _ h => h) (Or.inl ⟨by rfl, ?_⟩) ?_ ?_
                 rotate_left
                 ·
                  intro w'; go_simp; with_reducible rfl
                 rotate_left
                 ·
                  simp only [Act.put, List.setIfInBounds_toArray, List.set_cons_zero, List.set_cons_succ, i64_w, i32_w]; rfl
                 refine take_ (i := 2) (N := some 83) (v := ?_) (a' := ?_) (mkB0 31 7) rfl rfl (take_ofW HT_.out HW_.out (by kernel_rfl)) (fun _ _ _ h => h) (Or.inl ⟨by rfl, ?_⟩) hHeld ?_ ?_
                 rotate_left
                 ·
                  rintro w' ⟨s0, s1, s2, s3, s4, s5⟩
                  go_simp; with_reducible rfl
                 rotate_left
                 ·
                  simp only [Act.put, List.setIfInBounds_toArray, List.set_cons_zero, List.set_cons_succ, i64_w, i32_w]; rfl
                 refine pure_ (i := 3) (N := some 84) (v := ?_) (a' := ?_) (mkB0 31 15) rfl rfl (any_of HT_.out (by kernel_rfl)) (fun _ _ _ h => h) (Or.inl ⟨by rfl, ?_⟩) ?_ ?_
                 rotate_left
                 ·
                  intro w'; go_simp; with_reducible rfl
                 rotate_left
                 ·
                  simp only [Act.put, List.setIfInBounds_toArray, List.set_cons_zero, List.set_cons_succ, i64_w, i32_w]; rfl
                 refine pure_ (i := 4) (N := some 85) (v := ?_) (a' := ?_) (mkB0 31 31) rfl rfl (any_of HT_.out (by kernel_rfl)) (fun _ _ _ h => h) (Or.inl ⟨by rfl, ?_⟩) ?_ ?_
                 rotate_left
                 ·
                  intro w'; go_simp; with_reducible rfl
                 rotate_left
                 ·
                  simp only [Act.put, List.setIfInBounds_toArray, List.set_cons_zero, List.set_cons_succ, i64_w, i32_w]; rfl
                 refine pure_ (i := 5) (N := some 86) (v := ?_) (a' := ?_) (mkB0 31 63) rfl rfl (any_of HT_.out (by kernel_rfl)) (fun _ _ _ h => h) (Or.inl ⟨by rfl, ?_⟩) ?_ ?_
                 rotate_left
                 ·
                  intro w'; go_simp; with_reducible rfl
                 rotate_left
                 ·
                  simp only [Act.put, List.setIfInBounds_toArray, List.set_cons_zero, List.set_cons_succ, i64_w, i32_w]; rfl
                 refine pure_ (i := 6) (N := some 87) (v := ?_) (a' := ?_) (mkB0 31 127) rfl rfl (any_of HT_.out (by kernel_rfl)) (fun _ _ _ h => h) (Or.inl ⟨by rfl, ?_⟩) ?_ ?_
                 rotate_left
                 ·
                  intro w'; go_simp; with_reducible rfl
                 rotate_left
                 ·
                  simp only [Act.put, List.setIfInBounds_toArray, List.set_cons_zero, List.set_cons_succ, i64_w, i32_w]; rfl
                 refine take_ (i := 7) (N := some 88) (v := ?_) (a' := ?_) (mkB0 31 255) rfl rfl (take_ofW HT_.out HW_.out (by kernel_rfl)) (fun _ _ _ h => h) (Or.inl ⟨by rfl, ?_⟩) hHeld ?_ ?_
                 rotate_left
                 ·
                  rintro w' ⟨s0, s1, s2, s3, s4, s5⟩
                  go_simp; with_reducible rfl
                 rotate_left
                 ·
                  simp only [Act.put, List.setIfInBounds_toArray, List.set_cons_zero, List.set_cons_succ, i64_w, i32_w]; rfl
                 refine pure_ (i := 8) (N := some 89) (v := ?_) (a' := ?_) (mkB0 31 511) rfl rfl (any_of HT_.out (by kernel_rfl)) (fun _ _ _ h => h) (Or.inl ⟨by rfl, ?_⟩) ?_ ?_
                 rotate_left
                 ·
                  intro w'; go_simp; with_reducible rfl
                 rotate_left
                 ·
                  simp only [Act.put, List.setIfInBounds_toArray, List.set_cons_zero, List.set_cons_succ, i64_w, i32_w]; rfl
                 refine pure_ (i := 9) (N := some 90) (v := ?_) (a' := ?_) (mkB0 31 1023) rfl rfl (any_of HT_.out (by kernel_rfl)) (fun _ _ _ h => h) (Or.inl ⟨by rfl, ?_⟩) ?_ ?_
                 rotate_left
                 ·
                  intro w'; go_simp; with_reducible rfl
                 rotate_left
                 ·
                  simp only [Act.put, List.setIfInBounds_toArray, List.set_cons_zero, List.set_cons_succ, i64_w, i32_w]; rfl
                 refine pure_ (i := 10) (N := some 91) (v := ?_) (a' := ?_) (mkB0 31 2047) rfl rfl (any_of HT_.out (by kernel_rfl)) (fun _ _ _ h => h) (Or.inl ⟨by rfl, ?_⟩) ?_ ?_
                 rotate_left
                 ·
                  intro w'; go_simp; with_reducible rfl
                 rotate_left
                 ·
                  simp only [Act.put, List.setIfInBounds_toArray, List.set_cons_zero, List.set_cons_succ, i64_w, i32_w]; rfl
                 refine pure_ (i := 11) (N := some 92) (v := ?_) (a' := ?_) (mkB0 31 4095) rfl rfl (any_of HT_.out (by kernel_rfl)) (fun _ _ _ h => h) (Or.inl ⟨by rfl, ?_⟩) ?_ ?_
                 rotate_left
                 ·
                  intro w'; go_simp; with_reducible rfl
                 rotate_left
                 ·
                  simp only [Act.put, List.setIfInBounds_toArray, List.set_cons_zero, List.set_cons_succ, i64_w, i32_w]; rfl
                 refine take_ (i := 13) (N := some 94) (v := ?_) (a' := ?_) (mkB0 31 12287) rfl rfl (take_ofW HT_.out HW_.out (by kernel_rfl)) (fun _ _ _ h => h) (Or.inl ⟨by rfl, ?_⟩) hHeld ?_ ?_
                 rotate_left
                 ·
                  rintro w' ⟨s0, s1, s2, s3, s4, s5⟩
                  go_simp; with_reducible rfl
                 rotate_left
                 ·
                  simp only [Act.put, List.setIfInBounds_toArray, List.set_cons_zero, List.set_cons_succ, i64_w, i32_w]; rfl
                 refine one_ (i := 12) (N := some 93) (mkB0 31 16383) rfl rfl (one_of HT_.out (by kernel_rfl)) (by decide) (fun K hK => ?_)
                 refine goes_ Try.func31 (by kernel_rfl) rfl #[.pointer (some ⟨g157, 0, none⟩)] (by rfl) rfl rfl (by (try simp only [List.map_toArray, List.map_cons, List.map_nil]); first | done | rfl | (simp only [List.length_drop, List.length_take]; rfl)) ?_
                 with_reducible refine (oct_Reader_Left.calls g157 x158000_21 x158001_21 t191 t192 t193 w _ ?side1 ?side2 A91.out).mono ?_
                 (case side1 => repeat (first | (with_reducible first | exact HI157.out | apply IsS70.alloc | apply IsS70.drewN | apply IsS70.drew | apply IsS70.set_0 | apply IsS70.set_1 | refine IsS70.far ?_ NB157_158.out _ | refine IsS70.far ?_ NB157_161.out _ | refine IsS70.far ?_ NB157_162.out _) | exact HI157.out))
                 (case side2 => repeat (first | (with_reducible first | exact HB.out | apply below_alloc | apply pw_below_drewN | apply below_drew1 | refine below_set ?_ (IsS70.ge HI157.out) | refine below_set ?_ GE158.out | refine below_set ?_ GE161.out | refine below_set ?_ GE162.out) | exact HB.out))
                 rintro e w148 ⟨rfl, hi, hb, hk⟩; refine ⟨_, rfl, ?_⟩; have n0_ := Aside0.mk (KeepBut.blk hk (g' := gb158) (o := .cells #[.string x163000_21, .int .i64 x163001_21] 48 (0, 0)) (by (with_reducible repeat (first | refine blk_drewN ?_ _ | refine blk_drew ?_ | refine blk_alloc ?_ _)); exact BK158.out) NB158_157.out (by simp))
                 have n1_ := Aside0.mk (KeepBut.blk hk (g' := gb161) (o := .cells #[.int .i64 ((rd_T37 l1 x7_2).f0), .int .i64 ((rd_T37 l1 x7_2).f1), .int .i64 ((rd_T37 l1 x7_2).f2), .string ((rd_T37 l1 x7_2).f3)] 37 (0, 0)) (by (with_reducible repeat (first | refine blk_drewN ?_ _ | refine blk_drew ?_ | refine blk_alloc ?_ _)); exact BK161.out) NB161_157.out (by simp))
                 have n2_ := Aside0.mk (KeepBut.blk hk (g' := gb162) (o := .cells #[.string x163000_21, .int .i64 x163001_21, .int .i64 x163002_21, .string x163003_21] 50 (0, 0)) (by (with_reducible repeat (first | refine blk_drewN ?_ _ | refine blk_drew ?_ | refine blk_alloc ?_ _)); exact BK162.out) NB162_157.out (by simp))
                 have n3_ := Aside0.mk (hb)
                 have n4_ := Aside0.mk (hi)
                 clear BK158 BK161 BK162 HB HI157; have BK158 := n0_; have BK161 := n1_; have BK162 := n2_; have HB := n3_; have HI157 := n4_; clear n0_ n1_ n2_ n3_ n4_; (try clear hb); (try clear hb2); (try clear hk); (try clear hi); refine hK.out _ _ ⟨(blk_cell BK162.out 0).trans rfl, (blk_cell BK162.out 1).trans rfl, (blk_cell BK162.out 2).trans rfl, (blk_cell BK162.out 3).trans rfl, (blk_cell BK158.out 0).trans rfl, (blk_cell BK158.out 1).trans rfl⟩ (fun hHeld => ?_)
                 clear hK K; refine norm_ (a' := ?_) ?_ ?_
                 rotate_left
                 ·
                  show Act.put _ (some 93) _ = _
                  simp only [Act.put, List.setIfInBounds_toArray, List.set_cons_zero, List.set_cons_succ, i64_w, i32_w]; rfl
                 refine one_ (i := 14) (N := some 95) (mkB0 31 32767) rfl rfl (one_of HT_.out (by kernel_rfl)) (by decide) (fun K hK => ?_)
                 refine goes_ Try.func32 (by kernel_rfl) rfl #[.agg #[.string x163000_21, .int .i64 x163001_21]] (by rfl) rfl rfl (by (try simp only [List.map_toArray, List.map_cons, List.map_nil]); first | done | rfl | (simp only [List.length_drop, List.length_take]; rfl)) ?_
                 with_reducible refine (mosaicref02_Reader_Left.calls x163000_21 x163001_21 t194 _ A92.out).mono ?_
                 rintro e w149 ⟨rfl, hb⟩; refine ⟨_, rfl, ?_⟩; have n0_ := Aside0.mk (blk_below (g := gb158) (o := .cells #[.string x163000_21, .int .i64 x163001_21] 48 (0, 0)) (by (with_reducible repeat (first | refine blk_drewN ?_ _ | refine blk_drew ?_ | refine blk_alloc ?_ _)); exact BK158.out) hb)
                 have n1_ := Aside0.mk (blk_below (g := gb161) (o := .cells #[.int .i64 ((rd_T37 l1 x7_2).f0), .int .i64 ((rd_T37 l1 x7_2).f1), .int .i64 ((rd_T37 l1 x7_2).f2), .string ((rd_T37 l1 x7_2).f3)] 37 (0, 0)) (by (with_reducible repeat (first | refine blk_drewN ?_ _ | refine blk_drew ?_ | refine blk_alloc ?_ _)); exact BK161.out) hb)
                 have n2_ := Aside0.mk (blk_below (g := gb162) (o := .cells #[.string x163000_21, .int .i64 x163001_21, .int .i64 x163002_21, .string x163003_21] 50 (0, 0)) (by (with_reducible repeat (first | refine blk_drewN ?_ _ | refine blk_drew ?_ | refine blk_alloc ?_ _)); exact BK162.out) hb)
                 have n3_ := Aside0.mk (IsS70.below (by repeat (first | (with_reducible first | exact HI157.out | apply IsS70.alloc | apply IsS70.drewN | apply IsS70.drew | apply IsS70.set_0 | apply IsS70.set_1 | refine IsS70.far ?_ NB157_158.out _ | refine IsS70.far ?_ NB157_161.out _ | refine IsS70.far ?_ NB157_162.out _) | exact HI157.out)) hb)
                 have n4_ := Aside0.mk (below_step (by repeat (first | (with_reducible first | exact HB.out | apply below_alloc | apply pw_below_drewN | apply below_drew1 | refine below_set ?_ (IsS70.ge HI157.out) | refine below_set ?_ GE158.out | refine below_set ?_ GE161.out | refine below_set ?_ GE162.out) | exact HB.out)) hb)
                 clear BK158 BK161 BK162 HI157 HB; have BK158 := n0_; have BK161 := n1_; have BK162 := n2_; have HI157 := n3_; have HB := n4_; clear n0_ n1_ n2_ n3_ n4_; (try clear hb); (try clear hb2); (try clear hk); (try clear hi); refine hK.out _ _ ⟨(blk_cell BK162.out 0).trans rfl, (blk_cell BK162.out 1).trans rfl, (blk_cell BK162.out 2).trans rfl, (blk_cell BK162.out 3).trans rfl, (blk_cell BK158.out 0).trans rfl, (blk_cell BK158.out 1).trans rfl⟩ (fun hHeld => ?_)
                 clear hK K; refine norm_ (a' := ?_) ?_ ?_
                 rotate_left
                 ·
                  show Act.put _ (some 95) _ = _
                  simp only [Act.put, List.setIfInBounds_toArray, List.set_cons_zero, List.set_cons_succ, i64_w, i32_w]; rfl
                 refine pure_ (i := 15) (N := some 96) (v := ?_) (a' := ?_) (mkB0 31 65535) rfl rfl (any_of HT_.out (by kernel_rfl)) (fun _ _ _ h => h) (Or.inl ⟨by rfl, ?_⟩) ?_ ?_
                 rotate_left
                 ·
                  intro w'; go_simp; with_reducible rfl
                 rotate_left
                 ·
                  simp only [Act.put, List.setIfInBounds_toArray, List.set_cons_zero, List.set_cons_succ, i64_w, i32_w]; rfl
                 refine pure_ (i := 16) (N := some 97) (v := ?_) (a' := ?_) (mkB0 31 131071) rfl rfl (any_of HT_.out (by kernel_rfl)) (fun _ _ _ h => h) (Or.inl ⟨by rfl, ?_⟩) ?_ ?_
                 rotate_left
                 ·
                  intro w'; go_simp; with_reducible rfl
                 rotate_left
                 ·
                  simp only [Act.put, List.setIfInBounds_toArray, List.set_cons_zero, List.set_cons_succ, i64_w, i32_w]; rfl
                 refine pure_ (i := 17) (N := some 98) (v := ?_) (a' := ?_) (mkB0 31 262143) rfl rfl (any_of HT_.out (by kernel_rfl)) (fun _ _ _ h => h) (Or.inl ⟨by rfl, ?_⟩) ?_ ?_
                 rotate_left
                 ·
                  intro w'; go_simp; with_reducible rfl
                 rotate_left
                 ·
                  simp only [Act.put, List.setIfInBounds_toArray, List.set_cons_zero, List.set_cons_succ, i64_w, i32_w]; rfl
                 refine pure_ (i := 18) (N := some 99) (v := undef) (a' := ?_) (mkB0 31 524287) rfl rfl (any_of HT_.out (by kernel_rfl)) (fun _ _ _ h => h) (Or.inr ⟨by rfl, rfl⟩) ?_ ?_
                 rotate_left
                 ·
                  simp only [Act.put, List.setIfInBounds_toArray, List.set_cons_zero, List.set_cons_succ, i64_w, i32_w]; rfl
                 refine pure_ (i := 19) (N := some 100) (v := undef) (a' := ?_) (mkB0 31 1048575) rfl rfl (any_of HT_.out (by kernel_rfl)) (fun _ _ _ h => h) (Or.inr ⟨by rfl, rfl⟩) ?_ ?_
                 rotate_left
                 ·
                  simp only [Act.put, List.setIfInBounds_toArray, List.set_cons_zero, List.set_cons_succ, i64_w, i32_w]; rfl
                 refine pure_ (i := 20) (N := some 101) (v := undef) (a' := ?_) (mkB0 31 2097151) rfl rfl (any_of HT_.out (by kernel_rfl)) (fun _ _ _ h => h) (Or.inr ⟨by rfl, rfl⟩) ?_ ?_
                 rotate_left
                 ·
                  simp only [Act.put, List.setIfInBounds_toArray, List.set_cons_zero, List.set_cons_succ, i64_w, i32_w]; rfl
                 refine pure_ (i := 21) (N := some 102) (v := undef) (a' := ?_) (mkB0 31 4194303) rfl rfl (any_of HT_.out (by kernel_rfl)) (fun _ _ _ h => h) (Or.inr ⟨by rfl, rfl⟩) ?_ ?_
                 rotate_left
                 ·
                  simp only [Act.put, List.setIfInBounds_toArray, List.set_cons_zero, List.set_cons_succ, i64_w, i32_w]; rfl
                 refine pure_ (i := 22) (N := some 103) (v := undef) (a' := ?_) (mkB0 31 8388607) rfl rfl (any_of HT_.out (by kernel_rfl)) (fun _ _ _ h => h) (Or.inr ⟨by rfl, rfl⟩) ?_ ?_
                 rotate_left
                 ·
                  simp only [Act.put, List.setIfInBounds_toArray, List.set_cons_zero, List.set_cons_succ, i64_w, i32_w]; rfl
                 refine pure_ (i := 23) (N := some 104) (v := ?_) (a' := ?_) (mkB0 31 16777215) rfl rfl (any_of HT_.out (by kernel_rfl)) (fun _ _ _ h => h) (Or.inl ⟨by rfl, ?_⟩) ?_ ?_
                 rotate_left
                 ·
                  intro w'; go_simp; with_reducible rfl
                 rotate_left
                 ·
                  simp only [Act.put, List.setIfInBounds_toArray, List.set_cons_zero, List.set_cons_succ, i64_w, i32_w]; rfl
                 refine pure_ (i := 24) (N := some 105) (v := ?_) (a' := ?_) (mkB0 31 33554431) rfl rfl (any_of HT_.out (by kernel_rfl)) (fun _ _ _ h => h) (Or.inl ⟨by rfl, ?_⟩) ?_ ?_
                 rotate_left
                 ·
                  intro w'; go_simp; with_reducible rfl
                 rotate_left
                 ·
                  simp only [Act.put, List.setIfInBounds_toArray, List.set_cons_zero, List.set_cons_succ, i64_w, i32_w]; rfl
                 refine pure_ (i := 25) (N := some 106) (v := undef) (a' := ?_) (mkB0 31 67108863) rfl rfl (any_of HT_.out (by kernel_rfl)) (fun _ _ _ h => h) (Or.inr ⟨by rfl, rfl⟩) ?_ ?_
                 rotate_left
                 ·
                  simp only [Act.put, List.setIfInBounds_toArray, List.set_cons_zero, List.set_cons_succ, i64_w, i32_w]; rfl
                 refine pure_ (i := 26) (N := some 107) (v := undef) (a' := ?_) (mkB0 31 134217727) rfl rfl (any_of HT_.out (by kernel_rfl)) (fun _ _ _ h => h) (Or.inr ⟨by rfl, rfl⟩) ?_ ?_
                 rotate_left
                 ·
                  simp only [Act.put, List.setIfInBounds_toArray, List.set_cons_zero, List.set_cons_succ, i64_w, i32_w]; rfl
                 refine pure_ (i := 27) (N := some 108) (v := undef) (a' := ?_) (mkB0 31 268435455) rfl rfl (any_of HT_.out (by kernel_rfl)) (fun _ _ _ h => h) (Or.inr ⟨by rfl, rfl⟩) ?_ ?_
                 rotate_left
                 ·
                  simp only [Act.put, List.setIfInBounds_toArray, List.set_cons_zero, List.set_cons_succ, i64_w, i32_w]; rfl
                 refine pure_ (i := 28) (N := some 109) (v := undef) (a' := ?_) (mkB0 31 536870911) rfl rfl (any_of HT_.out (by kernel_rfl)) (fun _ _ _ h => h) (Or.inr ⟨by rfl, rfl⟩) ?_ ?_
                 rotate_left
                 ·
                  simp only [Act.put, List.setIfInBounds_toArray, List.set_cons_zero, List.set_cons_succ, i64_w, i32_w]; rfl
                 refine pure_ (i := 29) (N := some 110) (v := undef) (a' := ?_) (mkB0 31 1073741823) rfl rfl (any_of HT_.out (by kernel_rfl)) (fun _ _ _ h => h) (Or.inr ⟨by rfl, rfl⟩) ?_ ?_
                 rotate_left
                 ·
                  simp only [Act.put, List.setIfInBounds_toArray, List.set_cons_zero, List.set_cons_succ, i64_w, i32_w]; rfl
                 refine pure_ (i := 30) (N := some 111) (v := ?_) (a' := ?_) (mkB0 31 2147483647) rfl rfl (any_of HT_.out (by kernel_rfl)) (fun _ _ _ h => h) (Or.inl ⟨by rfl, ?_⟩) ?_ ?_
                 rotate_left
                 ·
                  intro w'; go_simp; with_reducible rfl
                 rotate_left
                 ·
                  simp only [Act.put, List.setIfInBounds_toArray, List.set_cons_zero, List.set_cons_succ, i64_w, i32_w]; rfl
                 refine done_ (done_of HT_.out (by kernel_rfl)) ?_
                 try go_wp2
                 go_ret
                 exact ⟨by first | rfl | (simp [errW_none, errW_some] <;> rfl) | (simp [*, errW_none, errW_some] <;> rfl), by repeat (first | (with_reducible first | exact HB.out | apply below_alloc | apply pw_below_drewN | apply below_drew1 | refine below_set ?_ (IsS70.ge HI157.out) | refine below_set ?_ GE158.out | refine below_set ?_ GE161.out | refine below_set ?_ GE162.out) | exact HB.out)⟩
               ·
                rw [if_neg c90] at H
                have c90b0 : (x10_21.toList == x163003_21.toList) = false := beq_eq_false_iff_ne.mpr c90
                have c90b1 : (x10_21.toList != x163003_21.toList) = true := bne_iff_ne.mpr c90
                obtain rfl := Option.some.inj H
                have hnb150 := NB162_158.out; have hnc150 := NB158_162.out; have hnb151 := NB162_161.out; have hnc151 := NB161_162.out; have hnb152 := NB162_157.out; have hnc152 := NB157_162.out; have hcz153_0 : wc.cell? ⟨gb162, 0, none⟩ = some (.string x163000_21) := (blk_cell BK162.out 0).trans rfl
                have hcz153_1 : wc.cell? ⟨gb162, 1, none⟩ = some (.int .i64 x163001_21) := (blk_cell BK162.out 1).trans rfl
                have hcz153_2 : wc.cell? ⟨gb162, 2, none⟩ = some (.int .i64 x163002_21) := (blk_cell BK162.out 2).trans rfl
                have hcz153_3 : wc.cell? ⟨gb162, 3, none⟩ = some (.string x163003_21) := (blk_cell BK162.out 3).trans rfl
                have hfz153_0 := blk_frozen BK162.out 0; have hfz153_1 := blk_frozen BK162.out 1; have hfz153_2 := blk_frozen BK162.out 2; have hfz153_3 := blk_frozen BK162.out 3; have hnb154 := NB158_161.out; have hnc154 := NB161_158.out; have hnb155 := NB158_157.out; have hnc155 := NB157_158.out; have hcz156_0 : wc.cell? ⟨gb158, 0, none⟩ = some (.string x159000_2) := (blk_cell BK158.out 0).trans rfl
                have hcz156_1 : wc.cell? ⟨gb158, 1, none⟩ = some (.int .i64 x159001_2) := (blk_cell BK158.out 1).trans rfl
                have hfz156_0 := blk_frozen BK158.out 0; have hfz156_1 := blk_frozen BK158.out 1; try go_wp2
                have n0_ : Aside0 (((wc.setCell ⟨gb158, 0, none⟩ (.string x163000_21)).setCell ⟨gb158, 1, none⟩ (.int .i64 x163001_21)).heap[gb158]? = some (.cells #[.string x163000_21, .int .i64 x163001_21] 48 (0, 0))) := ⟨by (with_reducible repeat (first | refine blk_drewN ?_ _ | refine blk_drew ?_ | refine blk_alloc ?_ _)); refine blk_put (cs := #[.string x163000_21, .int .i64 x159001_2]) ?_ 1 _ rfl; (with_reducible repeat (first | refine blk_drewN ?_ _ | refine blk_drew ?_ | refine blk_alloc ?_ _)); refine blk_put (cs := #[.string x159000_2, .int .i64 x159001_2]) ?_ 0 _ rfl; (with_reducible repeat (first | refine blk_drewN ?_ _ | refine blk_drew ?_ | refine blk_alloc ?_ _)); exact BK158.out⟩
                have n1_ : Aside0 (((wc.setCell ⟨gb158, 0, none⟩ (.string x163000_21)).setCell ⟨gb158, 1, none⟩ (.int .i64 x163001_21)).heap[gb161]? = some (.cells #[.int .i64 ((rd_T37 l1 x7_2).f0), .int .i64 ((rd_T37 l1 x7_2).f1), .int .i64 ((rd_T37 l1 x7_2).f2), .string ((rd_T37 l1 x7_2).f3)] 37 (0, 0))) := ⟨by (with_reducible repeat (first | refine blk_drewN ?_ _ | refine blk_drew ?_ | refine blk_alloc ?_ _)); refine blk_far ?_ NB161_158.out _; (with_reducible repeat (first | refine blk_drewN ?_ _ | refine blk_drew ?_ | refine blk_alloc ?_ _)); refine blk_far ?_ NB161_158.out _; (with_reducible repeat (first | refine blk_drewN ?_ _ | refine blk_drew ?_ | refine blk_alloc ?_ _)); exact BK161.out⟩
                have n2_ : Aside0 (((wc.setCell ⟨gb158, 0, none⟩ (.string x163000_21)).setCell ⟨gb158, 1, none⟩ (.int .i64 x163001_21)).heap[gb162]? = some (.cells #[.string x163000_21, .int .i64 x163001_21, .int .i64 x163002_21, .string x163003_21] 50 (0, 0))) := ⟨by (with_reducible repeat (first | refine blk_drewN ?_ _ | refine blk_drew ?_ | refine blk_alloc ?_ _)); refine blk_far ?_ NB162_158.out _; (with_reducible repeat (first | refine blk_drewN ?_ _ | refine blk_drew ?_ | refine blk_alloc ?_ _)); refine blk_far ?_ NB162_158.out _; (with_reducible repeat (first | refine blk_drewN ?_ _ | refine blk_drew ?_ | refine blk_alloc ?_ _)); exact BK162.out⟩
                have n3_ : Aside0 (IsS70 w ((wc.setCell ⟨gb158, 0, none⟩ (.string x163000_21)).setCell ⟨gb158, 1, none⟩ (.int .i64 x163001_21)) g157 x158000_21 x158001_21) := ⟨by repeat (first | (with_reducible first | exact HI157.out | apply IsS70.alloc | apply IsS70.drewN | apply IsS70.drew | apply IsS70.set_0 | apply IsS70.set_1 | refine IsS70.far ?_ NB157_158.out _ | refine IsS70.far ?_ NB157_161.out _ | refine IsS70.far ?_ NB157_162.out _) | exact HI157.out)⟩
                have n4_ : Aside0 (Below w.heap.size w ((wc.setCell ⟨gb158, 0, none⟩ (.string x163000_21)).setCell ⟨gb158, 1, none⟩ (.int .i64 x163001_21))) := ⟨by repeat (first | (with_reducible first | exact HB.out | apply below_alloc | apply pw_below_drewN | apply below_drew1 | refine below_set ?_ (IsS70.ge HI157.out) | refine below_set ?_ GE158.out | refine below_set ?_ GE161.out | refine below_set ?_ GE162.out) | exact HB.out)⟩
                (try clear BK158); (try clear BK161); (try clear BK162); (try clear HI157); (try clear HB); generalize ((wc.setCell ⟨gb158, 0, none⟩ (.string x163000_21)).setCell ⟨gb158, 1, none⟩ (.int .i64 x163001_21)) = w157 at n0_ n1_ n2_ n3_ n4_ ⊢
                have BK158 := n0_; have BK161 := n1_; have BK162 := n2_; have HI157 := n3_; have HB := n4_; clear n0_ n1_ n2_ n3_ n4_; have n0_ := Aside0.mk (blk_drew BK158.out)
                have n1_ := Aside0.mk (blk_drew BK161.out)
                have n2_ := Aside0.mk (blk_drew BK162.out)
                have n3_ := Aside0.mk (IsS70.drew HI157.out)
                have n4_ := Aside0.mk (below_drew1 HB.out)
                clear BK158 BK161 BK162 HI157 HB; have BK158 := n0_; have BK161 := n1_; have BK162 := n2_; have HI157 := n3_; have HB := n4_; clear n0_ n1_ n2_ n3_ n4_; refine start_ (n := 31) (S := fun w' => w'.cell? ⟨gb162, 0, none⟩ = some (.string x163000_21) ∧ w'.cell? ⟨gb162, 1, none⟩ = some (.int .i64 x163001_21) ∧ w'.cell? ⟨gb162, 2, none⟩ = some (.int .i64 x163002_21) ∧ w'.cell? ⟨gb162, 3, none⟩ = some (.string x163003_21)) (ds := []) (mkB0 31 0) (by kernel_rfl) rfl rfl ⟨(blk_cell BK162.out 0).trans rfl, (blk_cell BK162.out 1).trans rfl, (blk_cell BK162.out 2).trans rfl, (blk_cell BK162.out 3).trans rfl⟩ (fun hHeld => ?_); refine with_tabW mosaiclaw02_OctReads.tab27 mosaiclaw02_OctReads.bits27 (fun HT_ HW_ => ?_)
                generalize w157.drew = w158 at BK158 BK161 BK162 HI157 HB hHeld ⊢
                refine pure_ (i := 0) (N := some 81) (v := ?_) (a' := ?_) (mkB0 31 1) rfl rfl (any_of HT_.out (by kernel_rfl)) (fun _ _ _ h => h) (Or.inl ⟨by rfl, ?_⟩) ?_ ?_
                rotate_left
                ·
                 intro w'; go_simp; with_reducible rfl
                rotate_left
                ·
                 simp only [Act.put, List.setIfInBounds_toArray, List.set_cons_zero, List.set_cons_succ, i64_w, i32_w]; rfl
                refine pure_ (i := 1) (N := some 82) (v := ?_) (a' := ?_) (mkB0 31 3) rfl rfl (any_of HT_.out (by kernel_rfl)) (fun _ _ _ h => h) (Or.inl ⟨by rfl, ?_⟩) ?_ ?_
                rotate_left
                ·
                 intro w'; go_simp; with_reducible rfl
                rotate_left
                ·
                 simp only [Act.put, List.setIfInBounds_toArray, List.set_cons_zero, List.set_cons_succ, i64_w, i32_w]; rfl
                refine take_ (i := 2) (N := some 83) (v := ?_) (a' := ?_) (mkB0 31 7) rfl rfl (take_ofW HT_.out HW_.out (by kernel_rfl)) (fun _ _ _ h => h) (Or.inl ⟨by rfl, ?_⟩) hHeld ?_ ?_
                rotate_left
                ·
                 rintro w' ⟨s0, s1, s2, s3⟩
                 go_simp; with_reducible rfl
                rotate_left
                ·
                 simp only [Act.put, List.setIfInBounds_toArray, List.set_cons_zero, List.set_cons_succ, i64_w, i32_w]; rfl
                refine pure_ (i := 3) (N := some 84) (v := ?_) (a' := ?_) (mkB0 31 15) rfl rfl (any_of HT_.out (by kernel_rfl)) (fun _ _ _ h => h) (Or.inl ⟨by rfl, ?_⟩) ?_ ?_
                rotate_left
                ·
                 intro w'; go_simp; with_reducible rfl
                rotate_left
                ·
                 simp only [Act.put, List.setIfInBounds_toArray, List.set_cons_zero, List.set_cons_succ, i64_w, i32_w]; rfl
                refine pure_ (i := 4) (N := some 85) (v := ?_) (a' := ?_) (mkB0 31 31) rfl rfl (any_of HT_.out (by kernel_rfl)) (fun _ _ _ h => h) (Or.inl ⟨by rfl, ?_⟩) ?_ ?_
                rotate_left
                ·
                 intro w'; go_simp; with_reducible rfl
                rotate_left
                ·
                 simp only [Act.put, List.setIfInBounds_toArray, List.set_cons_zero, List.set_cons_succ, i64_w, i32_w]; rfl
                refine pure_ (i := 5) (N := some 86) (v := ?_) (a' := ?_) (mkB0 31 63) rfl rfl (any_of HT_.out (by kernel_rfl)) (fun _ _ _ h => h) (Or.inl ⟨by rfl, ?_⟩) ?_ ?_
                rotate_left
                ·
                 intro w'; go_simp; with_reducible rfl
                rotate_left
                ·
                 simp only [Act.put, List.setIfInBounds_toArray, List.set_cons_zero, List.set_cons_succ, i64_w, i32_w]; rfl
                refine pure_ (i := 6) (N := some 87) (v := ?_) (a' := ?_) (mkB0 31 127) rfl rfl (any_of HT_.out (by kernel_rfl)) (fun _ _ _ h => h) (Or.inl ⟨by rfl, ?_⟩) ?_ ?_
                rotate_left
                ·
                 intro w'; go_simp; with_reducible rfl
                rotate_left
                ·
                 simp only [Act.put, List.setIfInBounds_toArray, List.set_cons_zero, List.set_cons_succ, i64_w, i32_w]; rfl
                refine take_ (i := 7) (N := some 88) (v := ?_) (a' := ?_) (mkB0 31 255) rfl rfl (take_ofW HT_.out HW_.out (by kernel_rfl)) (fun _ _ _ h => h) (Or.inl ⟨by rfl, ?_⟩) hHeld ?_ ?_
                rotate_left
                ·
                 rintro w' ⟨s0, s1, s2, s3⟩
                 go_simp; with_reducible rfl
                rotate_left
                ·
                 simp only [Act.put, List.setIfInBounds_toArray, List.set_cons_zero, List.set_cons_succ, i64_w, i32_w]; rfl
                refine pure_ (i := 8) (N := some 89) (v := ?_) (a' := ?_) (mkB0 31 511) rfl rfl (any_of HT_.out (by kernel_rfl)) (fun _ _ _ h => h) (Or.inl ⟨by rfl, ?_⟩) ?_ ?_
                rotate_left
                ·
                 intro w'; go_simp; with_reducible rfl
                rotate_left
                ·
                 simp only [Act.put, List.setIfInBounds_toArray, List.set_cons_zero, List.set_cons_succ, i64_w, i32_w]; rfl
                refine pure_ (i := 9) (N := some 90) (v := ?_) (a' := ?_) (mkB0 31 1023) rfl rfl (any_of HT_.out (by kernel_rfl)) (fun _ _ _ h => h) (Or.inl ⟨by rfl, ?_⟩) ?_ ?_
                rotate_left
                ·
                 intro w'; go_simp; with_reducible rfl
                rotate_left
                ·
                 simp only [Act.put, List.setIfInBounds_toArray, List.set_cons_zero, List.set_cons_succ, i64_w, i32_w]; rfl
                refine pure_ (i := 10) (N := some 91) (v := ?_) (a' := ?_) (mkB0 31 2047) rfl rfl (any_of HT_.out (by kernel_rfl)) (fun _ _ _ h => h) (Or.inl ⟨by rfl, ?_⟩) ?_ ?_
                rotate_left
                ·
                 intro w'; go_simp; with_reducible rfl
                rotate_left
                ·
                 simp only [Act.put, List.setIfInBounds_toArray, List.set_cons_zero, List.set_cons_succ, i64_w, i32_w]; rfl
                refine pure_ (i := 11) (N := some 92) (v := undef) (a' := ?_) (mkB0 31 4095) rfl rfl (any_of HT_.out (by kernel_rfl)) (fun _ _ _ h => h) (Or.inr ⟨by rfl, rfl⟩) ?_ ?_
                rotate_left
                ·
                 simp only [Act.put, List.setIfInBounds_toArray, List.set_cons_zero, List.set_cons_succ, i64_w, i32_w]; rfl
                refine pure_ (i := 12) (N := some 93) (v := undef) (a' := ?_) (mkB0 31 8191) rfl rfl (any_of HT_.out (by kernel_rfl)) (fun _ _ _ h => h) (Or.inr ⟨by rfl, rfl⟩) ?_ ?_
                rotate_left
                ·
                 simp only [Act.put, List.setIfInBounds_toArray, List.set_cons_zero, List.set_cons_succ, i64_w, i32_w]; rfl
                refine pure_ (i := 13) (N := some 94) (v := undef) (a' := ?_) (mkB0 31 16383) rfl rfl (any_of HT_.out (by kernel_rfl)) (fun _ _ _ h => h) (Or.inr ⟨by rfl, rfl⟩) ?_ ?_
                rotate_left
                ·
                 simp only [Act.put, List.setIfInBounds_toArray, List.set_cons_zero, List.set_cons_succ, i64_w, i32_w]; rfl
                refine pure_ (i := 14) (N := some 95) (v := undef) (a' := ?_) (mkB0 31 32767) rfl rfl (any_of HT_.out (by kernel_rfl)) (fun _ _ _ h => h) (Or.inr ⟨by rfl, rfl⟩) ?_ ?_
                rotate_left
                ·
                 simp only [Act.put, List.setIfInBounds_toArray, List.set_cons_zero, List.set_cons_succ, i64_w, i32_w]; rfl
                refine pure_ (i := 15) (N := some 96) (v := undef) (a' := ?_) (mkB0 31 65535) rfl rfl (any_of HT_.out (by kernel_rfl)) (fun _ _ _ h => h) (Or.inr ⟨by rfl, rfl⟩) ?_ ?_
                rotate_left
                ·
                 simp only [Act.put, List.setIfInBounds_toArray, List.set_cons_zero, List.set_cons_succ, i64_w, i32_w]; rfl
                refine pure_ (i := 16) (N := some 97) (v := ?_) (a' := ?_) (mkB0 31 131071) rfl rfl (any_of HT_.out (by kernel_rfl)) (fun _ _ _ h => h) (Or.inl ⟨by rfl, ?_⟩) ?_ ?_
                rotate_left
                ·
                 intro w'; go_simp; with_reducible rfl
                rotate_left
                ·
                 simp only [Act.put, List.setIfInBounds_toArray, List.set_cons_zero, List.set_cons_succ, i64_w, i32_w]; rfl
                refine pure_ (i := 17) (N := some 98) (v := ?_) (a' := ?_) (mkB0 31 262143) rfl rfl (any_of HT_.out (by kernel_rfl)) (fun _ _ _ h => h) (Or.inl ⟨by rfl, ?_⟩) ?_ ?_
                rotate_left
                ·
                 intro w'; go_simp; with_reducible rfl
                rotate_left
                ·
                 simp only [Act.put, List.setIfInBounds_toArray, List.set_cons_zero, List.set_cons_succ, i64_w, i32_w]; rfl
                refine pure_ (i := 18) (N := some 99) (v := undef) (a' := ?_) (mkB0 31 524287) rfl rfl (any_of HT_.out (by kernel_rfl)) (fun _ _ _ h => h) (Or.inr ⟨by rfl, rfl⟩) ?_ ?_
                rotate_left
                ·
                 simp only [Act.put, List.setIfInBounds_toArray, List.set_cons_zero, List.set_cons_succ, i64_w, i32_w]; rfl
                refine pure_ (i := 19) (N := some 100) (v := undef) (a' := ?_) (mkB0 31 1048575) rfl rfl (any_of HT_.out (by kernel_rfl)) (fun _ _ _ h => h) (Or.inr ⟨by rfl, rfl⟩) ?_ ?_
                rotate_left
                ·
                 simp only [Act.put, List.setIfInBounds_toArray, List.set_cons_zero, List.set_cons_succ, i64_w, i32_w]; rfl
                refine pure_ (i := 20) (N := some 101) (v := undef) (a' := ?_) (mkB0 31 2097151) rfl rfl (any_of HT_.out (by kernel_rfl)) (fun _ _ _ h => h) (Or.inr ⟨by rfl, rfl⟩) ?_ ?_
                rotate_left
                ·
                 simp only [Act.put, List.setIfInBounds_toArray, List.set_cons_zero, List.set_cons_succ, i64_w, i32_w]; rfl
                refine pure_ (i := 21) (N := some 102) (v := undef) (a' := ?_) (mkB0 31 4194303) rfl rfl (any_of HT_.out (by kernel_rfl)) (fun _ _ _ h => h) (Or.inr ⟨by rfl, rfl⟩) ?_ ?_
                rotate_left
                ·
                 simp only [Act.put, List.setIfInBounds_toArray, List.set_cons_zero, List.set_cons_succ, i64_w, i32_w]; rfl
                refine pure_ (i := 22) (N := some 103) (v := undef) (a' := ?_) (mkB0 31 8388607) rfl rfl (any_of HT_.out (by kernel_rfl)) (fun _ _ _ h => h) (Or.inr ⟨by rfl, rfl⟩) ?_ ?_
                rotate_left
                ·
                 simp only [Act.put, List.setIfInBounds_toArray, List.set_cons_zero, List.set_cons_succ, i64_w, i32_w]; rfl
                refine pure_ (i := 23) (N := some 104) (v := ?_) (a' := ?_) (mkB0 31 16777215) rfl rfl (any_of HT_.out (by kernel_rfl)) (fun _ _ _ h => h) (Or.inl ⟨by rfl, ?_⟩) ?_ ?_
                rotate_left
                ·
                 intro w'; go_simp; with_reducible rfl
                rotate_left
                ·
                 simp only [Act.put, List.setIfInBounds_toArray, List.set_cons_zero, List.set_cons_succ, i64_w, i32_w]; rfl
                refine pure_ (i := 24) (N := some 105) (v := ?_) (a' := ?_) (mkB0 31 33554431) rfl rfl (any_of HT_.out (by kernel_rfl)) (fun _ _ _ h => h) (Or.inl ⟨by rfl, ?_⟩) ?_ ?_
                rotate_left
                ·
                 intro w'; go_simp; with_reducible rfl
                rotate_left
                ·
                 simp only [Act.put, List.setIfInBounds_toArray, List.set_cons_zero, List.set_cons_succ, i64_w, i32_w]; rfl
                refine pure_ (i := 25) (N := some 106) (v := undef) (a' := ?_) (mkB0 31 67108863) rfl rfl (any_of HT_.out (by kernel_rfl)) (fun _ _ _ h => h) (Or.inr ⟨by rfl, rfl⟩) ?_ ?_
                rotate_left
                ·
                 simp only [Act.put, List.setIfInBounds_toArray, List.set_cons_zero, List.set_cons_succ, i64_w, i32_w]; rfl
                refine pure_ (i := 26) (N := some 107) (v := undef) (a' := ?_) (mkB0 31 134217727) rfl rfl (any_of HT_.out (by kernel_rfl)) (fun _ _ _ h => h) (Or.inr ⟨by rfl, rfl⟩) ?_ ?_
                rotate_left
                ·
                 simp only [Act.put, List.setIfInBounds_toArray, List.set_cons_zero, List.set_cons_succ, i64_w, i32_w]; rfl
                refine pure_ (i := 27) (N := some 108) (v := undef) (a' := ?_) (mkB0 31 268435455) rfl rfl (any_of HT_.out (by kernel_rfl)) (fun _ _ _ h => h) (Or.inr ⟨by rfl, rfl⟩) ?_ ?_
                rotate_left
                ·
                 simp only [Act.put, List.setIfInBounds_toArray, List.set_cons_zero, List.set_cons_succ, i64_w, i32_w]; rfl
                refine pure_ (i := 28) (N := some 109) (v := undef) (a' := ?_) (mkB0 31 536870911) rfl rfl (any_of HT_.out (by kernel_rfl)) (fun _ _ _ h => h) (Or.inr ⟨by rfl, rfl⟩) ?_ ?_
                rotate_left
                ·
                 simp only [Act.put, List.setIfInBounds_toArray, List.set_cons_zero, List.set_cons_succ, i64_w, i32_w]; rfl
                refine pure_ (i := 29) (N := some 110) (v := undef) (a' := ?_) (mkB0 31 1073741823) rfl rfl (any_of HT_.out (by kernel_rfl)) (fun _ _ _ h => h) (Or.inr ⟨by rfl, rfl⟩) ?_ ?_
                rotate_left
                ·
                 simp only [Act.put, List.setIfInBounds_toArray, List.set_cons_zero, List.set_cons_succ, i64_w, i32_w]; rfl
                refine pure_ (i := 30) (N := some 111) (v := ?_) (a' := ?_) (mkB0 31 2147483647) rfl rfl (any_of HT_.out (by kernel_rfl)) (fun _ _ _ h => h) (Or.inl ⟨by rfl, ?_⟩) ?_ ?_
                rotate_left
                ·
                 intro w'; go_simp; with_reducible rfl
                rotate_left
                ·
                 simp only [Act.put, List.setIfInBounds_toArray, List.set_cons_zero, List.set_cons_succ, i64_w, i32_w]; rfl
                refine done_ (done_of HT_.out (by kernel_rfl)) ?_
                try go_wp2
                go_ret
                exact ⟨by first | rfl | (simp [errW_none, errW_some] <;> rfl) | (simp [*, errW_none, errW_some] <;> rfl), by repeat (first | (with_reducible first | exact HB.out | apply below_alloc | apply pw_below_drewN | apply below_drew1 | refine below_set ?_ (IsS70.ge HI157.out) | refine below_set ?_ GE158.out | refine below_set ?_ GE161.out | refine below_set ?_ GE162.out) | exact HB.out)⟩
              ·
               rw [if_neg c89] at H
               have c89b0 : (x9_21 == x163002_21) = false := beq_eq_false_iff_ne.mpr c89
               have c89b1 : (x9_21 != x163002_21) = true := bne_iff_ne.mpr c89
               obtain rfl := Option.some.inj H
               have hnb159 := NB162_158.out; have hnc159 := NB158_162.out; have hnb160 := NB162_161.out; have hnc160 := NB161_162.out; have hnb161 := NB162_157.out; have hnc161 := NB157_162.out; have hcz162_0 : wc.cell? ⟨gb162, 0, none⟩ = some (.string x163000_21) := (blk_cell BK162.out 0).trans rfl
               have hcz162_1 : wc.cell? ⟨gb162, 1, none⟩ = some (.int .i64 x163001_21) := (blk_cell BK162.out 1).trans rfl
               have hcz162_2 : wc.cell? ⟨gb162, 2, none⟩ = some (.int .i64 x163002_21) := (blk_cell BK162.out 2).trans rfl
               have hcz162_3 : wc.cell? ⟨gb162, 3, none⟩ = some (.string x163003_21) := (blk_cell BK162.out 3).trans rfl
               have hfz162_0 := blk_frozen BK162.out 0; have hfz162_1 := blk_frozen BK162.out 1; have hfz162_2 := blk_frozen BK162.out 2; have hfz162_3 := blk_frozen BK162.out 3; have hnb163 := NB158_161.out; have hnc163 := NB161_158.out; have hnb164 := NB158_157.out; have hnc164 := NB157_158.out; have hcz165_0 : wc.cell? ⟨gb158, 0, none⟩ = some (.string x159000_2) := (blk_cell BK158.out 0).trans rfl
               have hcz165_1 : wc.cell? ⟨gb158, 1, none⟩ = some (.int .i64 x159001_2) := (blk_cell BK158.out 1).trans rfl
               have hfz165_0 := blk_frozen BK158.out 0; have hfz165_1 := blk_frozen BK158.out 1; try go_wp2
               have n0_ : Aside0 (((wc.setCell ⟨gb158, 0, none⟩ (.string x163000_21)).setCell ⟨gb158, 1, none⟩ (.int .i64 x163001_21)).heap[gb158]? = some (.cells #[.string x163000_21, .int .i64 x163001_21] 48 (0, 0))) := ⟨by (with_reducible repeat (first | refine blk_drewN ?_ _ | refine blk_drew ?_ | refine blk_alloc ?_ _)); refine blk_put (cs := #[.string x163000_21, .int .i64 x159001_2]) ?_ 1 _ rfl; (with_reducible repeat (first | refine blk_drewN ?_ _ | refine blk_drew ?_ | refine blk_alloc ?_ _)); refine blk_put (cs := #[.string x159000_2, .int .i64 x159001_2]) ?_ 0 _ rfl; (with_reducible repeat (first | refine blk_drewN ?_ _ | refine blk_drew ?_ | refine blk_alloc ?_ _)); exact BK158.out⟩
               have n1_ : Aside0 (((wc.setCell ⟨gb158, 0, none⟩ (.string x163000_21)).setCell ⟨gb158, 1, none⟩ (.int .i64 x163001_21)).heap[gb161]? = some (.cells #[.int .i64 ((rd_T37 l1 x7_2).f0), .int .i64 ((rd_T37 l1 x7_2).f1), .int .i64 ((rd_T37 l1 x7_2).f2), .string ((rd_T37 l1 x7_2).f3)] 37 (0, 0))) := ⟨by (with_reducible repeat (first | refine blk_drewN ?_ _ | refine blk_drew ?_ | refine blk_alloc ?_ _)); refine blk_far ?_ NB161_158.out _; (with_reducible repeat (first | refine blk_drewN ?_ _ | refine blk_drew ?_ | refine blk_alloc ?_ _)); refine blk_far ?_ NB161_158.out _; (with_reducible repeat (first | refine blk_drewN ?_ _ | refine blk_drew ?_ | refine blk_alloc ?_ _)); exact BK161.out⟩
               have n2_ : Aside0 (((wc.setCell ⟨gb158, 0, none⟩ (.string x163000_21)).setCell ⟨gb158, 1, none⟩ (.int .i64 x163001_21)).heap[gb162]? = some (.cells #[.string x163000_21, .int .i64 x163001_21, .int .i64 x163002_21, .string x163003_21] 50 (0, 0))) := ⟨by (with_reducible repeat (first | refine blk_drewN ?_ _ | refine blk_drew ?_ | refine blk_alloc ?_ _)); refine blk_far ?_ NB162_158.out _; (with_reducible repeat (first | refine blk_drewN ?_ _ | refine blk_drew ?_ | refine blk_alloc ?_ _)); refine blk_far ?_ NB162_158.out _; (with_reducible repeat (first | refine blk_drewN ?_ _ | refine blk_drew ?_ | refine blk_alloc ?_ _)); exact BK162.out⟩
               have n3_ : Aside0 (IsS70 w ((wc.setCell ⟨gb158, 0, none⟩ (.string x163000_21)).setCell ⟨gb158, 1, none⟩ (.int .i64 x163001_21)) g157 x158000_21 x158001_21) := ⟨by repeat (first | (with_reducible first | exact HI157.out | apply IsS70.alloc | apply IsS70.drewN | apply IsS70.drew | apply IsS70.set_0 | apply IsS70.set_1 | refine IsS70.far ?_ NB157_158.out _ | refine IsS70.far ?_ NB157_161.out _ | refine IsS70.far ?_ NB157_162.out _) | exact HI157.out)⟩
               have n4_ : Aside0 (Below w.heap.size w ((wc.setCell ⟨gb158, 0, none⟩ (.string x163000_21)).setCell ⟨gb158, 1, none⟩ (.int .i64 x163001_21))) := ⟨by repeat (first | (with_reducible first | exact HB.out | apply below_alloc | apply pw_below_drewN | apply below_drew1 | refine below_set ?_ (IsS70.ge HI157.out) | refine below_set ?_ GE158.out | refine below_set ?_ GE161.out | refine below_set ?_ GE162.out) | exact HB.out)⟩
               (try clear BK158); (try clear BK161); (try clear BK162); (try clear HI157); (try clear HB); generalize ((wc.setCell ⟨gb158, 0, none⟩ (.string x163000_21)).setCell ⟨gb158, 1, none⟩ (.int .i64 x163001_21)) = w166 at n0_ n1_ n2_ n3_ n4_ ⊢
               have BK158 := n0_; have BK161 := n1_; have BK162 := n2_; have HI157 := n3_; have HB := n4_; clear n0_ n1_ n2_ n3_ n4_; have n0_ := Aside0.mk (blk_drew BK158.out)
               have n1_ := Aside0.mk (blk_drew BK161.out)
               have n2_ := Aside0.mk (blk_drew BK162.out)
               have n3_ := Aside0.mk (IsS70.drew HI157.out)
               have n4_ := Aside0.mk (below_drew1 HB.out)
               clear BK158 BK161 BK162 HI157 HB; have BK158 := n0_; have BK161 := n1_; have BK162 := n2_; have HI157 := n3_; have HB := n4_; clear n0_ n1_ n2_ n3_ n4_; refine start_ (n := 31) (S := fun w' => w'.cell? ⟨gb162, 0, none⟩ = some (.string x163000_21) ∧ w'.cell? ⟨gb162, 1, none⟩ = some (.int .i64 x163001_21) ∧ w'.cell? ⟨gb162, 2, none⟩ = some (.int .i64 x163002_21) ∧ w'.cell? ⟨gb162, 3, none⟩ = some (.string x163003_21)) (ds := []) (mkB0 31 0) (by kernel_rfl) rfl rfl ⟨(blk_cell BK162.out 0).trans rfl, (blk_cell BK162.out 1).trans rfl, (blk_cell BK162.out 2).trans rfl, (blk_cell BK162.out 3).trans rfl⟩ (fun hHeld => ?_); refine with_tabW mosaiclaw02_OctReads.tab27 mosaiclaw02_OctReads.bits27 (fun HT_ HW_ => ?_)
               generalize w166.drew = w167 at BK158 BK161 BK162 HI157 HB hHeld ⊢
               refine pure_ (i := 0) (N := some 81) (v := ?_) (a' := ?_) (mkB0 31 1) rfl rfl (any_of HT_.out (by kernel_rfl)) (fun _ _ _ h => h) (Or.inl ⟨by rfl, ?_⟩) ?_ ?_
               rotate_left
               ·
                intro w'; go_simp; with_reducible rfl
               rotate_left
               ·
                simp only [Act.put, List.setIfInBounds_toArray, List.set_cons_zero, List.set_cons_succ, i64_w, i32_w]; rfl
               refine pure_ (i := 1) (N := some 82) (v := ?_) (a' := ?_) (mkB0 31 3) rfl rfl (any_of HT_.out (by kernel_rfl)) (fun _ _ _ h => h) (Or.inl ⟨by rfl, ?_⟩) ?_ ?_
               rotate_left
               ·
                intro w'; go_simp; with_reducible rfl
               rotate_left
               ·
                simp only [Act.put, List.setIfInBounds_toArray, List.set_cons_zero, List.set_cons_succ, i64_w, i32_w]; rfl
               refine take_ (i := 2) (N := some 83) (v := ?_) (a' := ?_) (mkB0 31 7) rfl rfl (take_ofW HT_.out HW_.out (by kernel_rfl)) (fun _ _ _ h => h) (Or.inl ⟨by rfl, ?_⟩) hHeld ?_ ?_
               rotate_left
               ·
                rintro w' ⟨s0, s1, s2, s3⟩
                go_simp; with_reducible rfl
               rotate_left
               ·
                simp only [Act.put, List.setIfInBounds_toArray, List.set_cons_zero, List.set_cons_succ, i64_w, i32_w]; rfl
               refine pure_ (i := 3) (N := some 84) (v := ?_) (a' := ?_) (mkB0 31 15) rfl rfl (any_of HT_.out (by kernel_rfl)) (fun _ _ _ h => h) (Or.inl ⟨by rfl, ?_⟩) ?_ ?_
               rotate_left
               ·
                intro w'; go_simp; with_reducible rfl
               rotate_left
               ·
                simp only [Act.put, List.setIfInBounds_toArray, List.set_cons_zero, List.set_cons_succ, i64_w, i32_w]; rfl
               refine pure_ (i := 4) (N := some 85) (v := ?_) (a' := ?_) (mkB0 31 31) rfl rfl (any_of HT_.out (by kernel_rfl)) (fun _ _ _ h => h) (Or.inl ⟨by rfl, ?_⟩) ?_ ?_
               rotate_left
               ·
                intro w'; go_simp; with_reducible rfl
               rotate_left
               ·
                simp only [Act.put, List.setIfInBounds_toArray, List.set_cons_zero, List.set_cons_succ, i64_w, i32_w]; rfl
               refine pure_ (i := 5) (N := some 86) (v := undef) (a' := ?_) (mkB0 31 63) rfl rfl (any_of HT_.out (by kernel_rfl)) (fun _ _ _ h => h) (Or.inr ⟨by rfl, rfl⟩) ?_ ?_
               rotate_left
               ·
                simp only [Act.put, List.setIfInBounds_toArray, List.set_cons_zero, List.set_cons_succ, i64_w, i32_w]; rfl
               refine pure_ (i := 6) (N := some 87) (v := undef) (a' := ?_) (mkB0 31 127) rfl rfl (any_of HT_.out (by kernel_rfl)) (fun _ _ _ h => h) (Or.inr ⟨by rfl, rfl⟩) ?_ ?_
               rotate_left
               ·
                simp only [Act.put, List.setIfInBounds_toArray, List.set_cons_zero, List.set_cons_succ, i64_w, i32_w]; rfl
               refine pure_ (i := 7) (N := some 88) (v := undef) (a' := ?_) (mkB0 31 255) rfl rfl (any_of HT_.out (by kernel_rfl)) (fun _ _ _ h => h) (Or.inr ⟨by rfl, rfl⟩) ?_ ?_
               rotate_left
               ·
                simp only [Act.put, List.setIfInBounds_toArray, List.set_cons_zero, List.set_cons_succ, i64_w, i32_w]; rfl
               refine pure_ (i := 8) (N := some 89) (v := undef) (a' := ?_) (mkB0 31 511) rfl rfl (any_of HT_.out (by kernel_rfl)) (fun _ _ _ h => h) (Or.inr ⟨by rfl, rfl⟩) ?_ ?_
               rotate_left
               ·
                simp only [Act.put, List.setIfInBounds_toArray, List.set_cons_zero, List.set_cons_succ, i64_w, i32_w]; rfl
               refine pure_ (i := 9) (N := some 90) (v := ?_) (a' := ?_) (mkB0 31 1023) rfl rfl (any_of HT_.out (by kernel_rfl)) (fun _ _ _ h => h) (Or.inl ⟨by rfl, ?_⟩) ?_ ?_
               rotate_left
               ·
                intro w'; go_simp; with_reducible rfl
               rotate_left
               ·
                simp only [Act.put, List.setIfInBounds_toArray, List.set_cons_zero, List.set_cons_succ, i64_w, i32_w]; rfl
               refine pure_ (i := 10) (N := some 91) (v := ?_) (a' := ?_) (mkB0 31 2047) rfl rfl (any_of HT_.out (by kernel_rfl)) (fun _ _ _ h => h) (Or.inl ⟨by rfl, ?_⟩) ?_ ?_
               rotate_left
               ·
                intro w'; go_simp; with_reducible rfl
               rotate_left
               ·
                simp only [Act.put, List.setIfInBounds_toArray, List.set_cons_zero, List.set_cons_succ, i64_w, i32_w]; rfl
               refine pure_ (i := 11) (N := some 92) (v := undef) (a' := ?_) (mkB0 31 4095) rfl rfl (any_of HT_.out (by kernel_rfl)) (fun _ _ _ h => h) (Or.inr ⟨by rfl, rfl⟩) ?_ ?_
               rotate_left
               ·
                simp only [Act.put, List.setIfInBounds_toArray, List.set_cons_zero, List.set_cons_succ, i64_w, i32_w]; rfl
               refine pure_ (i := 12) (N := some 93) (v := undef) (a' := ?_) (mkB0 31 8191) rfl rfl (any_of HT_.out (by kernel_rfl)) (fun _ _ _ h => h) (Or.inr ⟨by rfl, rfl⟩) ?_ ?_
               rotate_left
               ·
                simp only [Act.put, List.setIfInBounds_toArray, List.set_cons_zero, List.set_cons_succ, i64_w, i32_w]; rfl
               refine pure_ (i := 13) (N := some 94) (v := undef) (a' := ?_) (mkB0 31 16383) rfl rfl (any_of HT_.out (by kernel_rfl)) (fun _ _ _ h => h) (Or.inr ⟨by rfl, rfl⟩) ?_ ?_
               rotate_left
               ·
                simp only [Act.put, List.setIfInBounds_toArray, List.set_cons_zero, List.set_cons_succ, i64_w, i32_w]; rfl
               refine pure_ (i := 14) (N := some 95) (v := undef) (a' := ?_) (mkB0 31 32767) rfl rfl (any_of HT_.out (by kernel_rfl)) (fun _ _ _ h => h) (Or.inr ⟨by rfl, rfl⟩) ?_ ?_
               rotate_left
               ·
                simp only [Act.put, List.setIfInBounds_toArray, List.set_cons_zero, List.set_cons_succ, i64_w, i32_w]; rfl
               refine pure_ (i := 15) (N := some 96) (v := undef) (a' := ?_) (mkB0 31 65535) rfl rfl (any_of HT_.out (by kernel_rfl)) (fun _ _ _ h => h) (Or.inr ⟨by rfl, rfl⟩) ?_ ?_
               rotate_left
               ·
                simp only [Act.put, List.setIfInBounds_toArray, List.set_cons_zero, List.set_cons_succ, i64_w, i32_w]; rfl
               refine pure_ (i := 16) (N := some 97) (v := ?_) (a' := ?_) (mkB0 31 131071) rfl rfl (any_of HT_.out (by kernel_rfl)) (fun _ _ _ h => h) (Or.inl ⟨by rfl, ?_⟩) ?_ ?_
               rotate_left
               ·
                intro w'; go_simp; with_reducible rfl
               rotate_left
               ·
                simp only [Act.put, List.setIfInBounds_toArray, List.set_cons_zero, List.set_cons_succ, i64_w, i32_w]; rfl
               refine pure_ (i := 17) (N := some 98) (v := ?_) (a' := ?_) (mkB0 31 262143) rfl rfl (any_of HT_.out (by kernel_rfl)) (fun _ _ _ h => h) (Or.inl ⟨by rfl, ?_⟩) ?_ ?_
               rotate_left
               ·
                intro w'; go_simp; with_reducible rfl
               rotate_left
               ·
                simp only [Act.put, List.setIfInBounds_toArray, List.set_cons_zero, List.set_cons_succ, i64_w, i32_w]; rfl
               refine pure_ (i := 18) (N := some 99) (v := undef) (a' := ?_) (mkB0 31 524287) rfl rfl (any_of HT_.out (by kernel_rfl)) (fun _ _ _ h => h) (Or.inr ⟨by rfl, rfl⟩) ?_ ?_
               rotate_left
               ·
                simp only [Act.put, List.setIfInBounds_toArray, List.set_cons_zero, List.set_cons_succ, i64_w, i32_w]; rfl
               refine pure_ (i := 19) (N := some 100) (v := undef) (a' := ?_) (mkB0 31 1048575) rfl rfl (any_of HT_.out (by kernel_rfl)) (fun _ _ _ h => h) (Or.inr ⟨by rfl, rfl⟩) ?_ ?_
               rotate_left
               ·
                simp only [Act.put, List.setIfInBounds_toArray, List.set_cons_zero, List.set_cons_succ, i64_w, i32_w]; rfl
               refine pure_ (i := 20) (N := some 101) (v := undef) (a' := ?_) (mkB0 31 2097151) rfl rfl (any_of HT_.out (by kernel_rfl)) (fun _ _ _ h => h) (Or.inr ⟨by rfl, rfl⟩) ?_ ?_
               rotate_left
               ·
                simp only [Act.put, List.setIfInBounds_toArray, List.set_cons_zero, List.set_cons_succ, i64_w, i32_w]; rfl
               refine pure_ (i := 21) (N := some 102) (v := undef) (a' := ?_) (mkB0 31 4194303) rfl rfl (any_of HT_.out (by kernel_rfl)) (fun _ _ _ h => h) (Or.inr ⟨by rfl, rfl⟩) ?_ ?_
               rotate_left
               ·
                simp only [Act.put, List.setIfInBounds_toArray, List.set_cons_zero, List.set_cons_succ, i64_w, i32_w]; rfl
               refine pure_ (i := 22) (N := some 103) (v := undef) (a' := ?_) (mkB0 31 8388607) rfl rfl (any_of HT_.out (by kernel_rfl)) (fun _ _ _ h => h) (Or.inr ⟨by rfl, rfl⟩) ?_ ?_
               rotate_left
               ·
                simp only [Act.put, List.setIfInBounds_toArray, List.set_cons_zero, List.set_cons_succ, i64_w, i32_w]; rfl
               refine pure_ (i := 23) (N := some 104) (v := ?_) (a' := ?_) (mkB0 31 16777215) rfl rfl (any_of HT_.out (by kernel_rfl)) (fun _ _ _ h => h) (Or.inl ⟨by rfl, ?_⟩) ?_ ?_
               rotate_left
               ·
                intro w'; go_simp; with_reducible rfl
               rotate_left
               ·
                simp only [Act.put, List.setIfInBounds_toArray, List.set_cons_zero, List.set_cons_succ, i64_w, i32_w]; rfl
               refine pure_ (i := 24) (N := some 105) (v := ?_) (a' := ?_) (mkB0 31 33554431) rfl rfl (any_of HT_.out (by kernel_rfl)) (fun _ _ _ h => h) (Or.inl ⟨by rfl, ?_⟩) ?_ ?_
               rotate_left
               ·
                intro w'; go_simp; with_reducible rfl
               rotate_left
               ·
                simp only [Act.put, List.setIfInBounds_toArray, List.set_cons_zero, List.set_cons_succ, i64_w, i32_w]; rfl
               refine pure_ (i := 25) (N := some 106) (v := undef) (a' := ?_) (mkB0 31 67108863) rfl rfl (any_of HT_.out (by kernel_rfl)) (fun _ _ _ h => h) (Or.inr ⟨by rfl, rfl⟩) ?_ ?_
               rotate_left
               ·
                simp only [Act.put, List.setIfInBounds_toArray, List.set_cons_zero, List.set_cons_succ, i64_w, i32_w]; rfl
               refine pure_ (i := 26) (N := some 107) (v := undef) (a' := ?_) (mkB0 31 134217727) rfl rfl (any_of HT_.out (by kernel_rfl)) (fun _ _ _ h => h) (Or.inr ⟨by rfl, rfl⟩) ?_ ?_
               rotate_left
               ·
                simp only [Act.put, List.setIfInBounds_toArray, List.set_cons_zero, List.set_cons_succ, i64_w, i32_w]; rfl
               refine pure_ (i := 27) (N := some 108) (v := undef) (a' := ?_) (mkB0 31 268435455) rfl rfl (any_of HT_.out (by kernel_rfl)) (fun _ _ _ h => h) (Or.inr ⟨by rfl, rfl⟩) ?_ ?_
               rotate_left
               ·
                simp only [Act.put, List.setIfInBounds_toArray, List.set_cons_zero, List.set_cons_succ, i64_w, i32_w]; rfl
               refine pure_ (i := 28) (N := some 109) (v := undef) (a' := ?_) (mkB0 31 536870911) rfl rfl (any_of HT_.out (by kernel_rfl)) (fun _ _ _ h => h) (Or.inr ⟨by rfl, rfl⟩) ?_ ?_
               rotate_left
               ·
                simp only [Act.put, List.setIfInBounds_toArray, List.set_cons_zero, List.set_cons_succ, i64_w, i32_w]; rfl
               refine pure_ (i := 29) (N := some 110) (v := undef) (a' := ?_) (mkB0 31 1073741823) rfl rfl (any_of HT_.out (by kernel_rfl)) (fun _ _ _ h => h) (Or.inr ⟨by rfl, rfl⟩) ?_ ?_
               rotate_left
               ·
                simp only [Act.put, List.setIfInBounds_toArray, List.set_cons_zero, List.set_cons_succ, i64_w, i32_w]; rfl
               refine pure_ (i := 30) (N := some 111) (v := ?_) (a' := ?_) (mkB0 31 2147483647) rfl rfl (any_of HT_.out (by kernel_rfl)) (fun _ _ _ h => h) (Or.inl ⟨by rfl, ?_⟩) ?_ ?_
               rotate_left
               ·
                intro w'; go_simp; with_reducible rfl
               rotate_left
               ·
                simp only [Act.put, List.setIfInBounds_toArray, List.set_cons_zero, List.set_cons_succ, i64_w, i32_w]; rfl
               refine done_ (done_of HT_.out (by kernel_rfl)) ?_
               try go_wp2
               go_ret
               exact ⟨by first | rfl | (simp [errW_none, errW_some] <;> rfl) | (simp [*, errW_none, errW_some] <;> rfl), by repeat (first | (with_reducible first | exact HB.out | apply below_alloc | apply pw_below_drewN | apply below_drew1 | refine below_set ?_ (IsS70.ge HI157.out) | refine below_set ?_ GE158.out | refine below_set ?_ GE161.out | refine below_set ?_ GE162.out) | exact HB.out)⟩
           ·
            rw [if_neg c21] at H
            exact absurd H (by simp)
          ·
           rw [if_neg c20] at H
           exact absurd H (by simp)
         ·
          replace c19 := Bool.eq_false_iff.mpr c19
          subst c19
          have H1 : (some true) = some r := by rw [if_neg (show ¬ (false = true) by decide)] at H; exact H
          clear H; have H := H1; clear H1; obtain rfl := Option.some.inj H
          go_wp2
          go_ret
          exact ⟨by first | rfl | (simp [errW_none, errW_some] <;> rfl) | (simp [*, errW_none, errW_some] <;> rfl), by repeat (first | (with_reducible first | exact HB.out | apply below_alloc | apply pw_below_drewN | apply below_drew1 | refine below_set ?_ (IsS70.ge HI157.out) | refine below_set ?_ GE158.out) | exact HB.out)⟩

/-- THE ONE PURE STATEMENT of mosaiclaw02_OctReads: yours. -/
def mosaiclaw02_OctReads.Pure : Prop := ∀ (a0 : ByteArray) (l1 : List (S37)), (a0.size ≤ 140737488351232) → (l1.length ≤ maxLen) → (∀ y ∈ l1, ((Lit.int .i64 y.f0).wf = true) ∧ (((Lit.int .i64 y.f1).wf = true) ∧ (((Lit.int .i64 y.f2).wf = true) ∧ (y.f3.size ≤ maxLen)))) → ∃ k, mosaiclaw02_OctReads.f k a0 l1 = some true
theorem mosaiclaw02_OctReads.walk (P : mosaiclaw02_OctReads.Pure) (a0 : ByteArray) (A1 : Option Addr) (c1 : Nat) (l1 : List (S37)) (w : World) (hr1 : Kd.C k37 w A1 l1.length l1) (hc1 : l1.length ≤ c1) (hs0 : a0.size ≤ 140737488351232) (hm1 : l1.length ≤ maxLen) (hw1 : ∀ y ∈ l1, ((Lit.int .i64 y.f0).wf = true) ∧ (((Lit.int .i64 y.f1).wf = true) ∧ (((Lit.int .i64 y.f2).wf = true) ∧ (y.f3.size ≤ maxLen)))) :
  Calls Try.prog 7 #[.string a0, .slice A1 l1.length c1] w fun e w' => e = .returned (.bool true) ∧ Below w.heap.size w w' := by
 obtain ⟨k, h⟩ := P a0 l1 hs0 hm1 hw1
 refine (mosaiclaw02_OctReads.calls k a0 A1 c1 l1 true w hr1 hc1 h).mono ?_
 rintro e w' ⟨rfl, hd⟩
 exact ⟨rfl, hd⟩

end Go.Proofs.Ytmebebpnogemdaa.POctReads
