-- Written by this session's own program (wip/tools/mkprint.py) over the kit's printer, with overrides.
import Derived.Test.YtghhmnjkgnoogaaGreatTOuterFillsa
import Derived.Test.YtghhmnjkgnoogaaGreatQOuterFillsx0
import Derived.Test.YtghhmnjkgnoogaaGreatQOuterFillsx8
namespace Go.Proofs.YtghhmnjkgnoogaaGreat.POuterFills
open Go.RowKit Go.Mine Go.Proofs.YtghhmnjkgnoogaaGreatW.PrintWords Go.Proofs.YtghhmnjkgnoogaaGreatW.PrintLast Go.Proofs.YtghhmnjkgnoogaaGreatW.PrintMore
attribute [local go_sem] max2_int min2_int max_two min_two max_three min_three max_four min_four   -- for this text's walks alone
set_option linter.unusedVariables false
set_option linter.unusedSimpArgs false
/-! ### mosaicref01_Mix: function 124 -/
/-- The Bools of a number's bits. -/
def mkB124 (w m : Nat) : Array Bool := ⟨(List.range w).map fun i => m.testBit i⟩
def mosaicref01_Mix.l0 : Nat → List Int → List Int → List Int → Int → Int → Int → Int → Int → Int → Int → Int → Int → Option (List Int)
 | 0, _, _, _, _, _, _, _, _, _, _, _, _ => none
 | k + 1, x0, x5, x6, x7, x8, x9, x10, x11, x12, x13, x14, x15 => if x15 < 64 then ((mosaicref01_rotr.f x11 6).bind fun t288 => ((mosaicref01_rotr.f x11 11).bind fun t289 => ((mosaicref01_rotr.f x11 25).bind fun t290 => (if 0 ≤ x15 then (if x15 < (x6.length : Int) then (if x15 < (x5.length : Int) then ((mosaicref01_rotr.f x7 2).bind fun t293 => ((mosaicref01_rotr.f x7 13).bind fun t294 => ((mosaicref01_rotr.f x7 22).bind fun t295 => (mosaicref01_Mix.l0 k x0 x5 x6 ((((((((((x14 + (Go.bits .xor .u32 (Go.bits .xor .u32 t288 t289) t290)) % 4294967296) + (Go.bits .xor .u32 (Go.bits .and .u32 x11 x12) (Go.bits .and .u32 (Go.bits .xor .u32 4294967295 x11) x13))) % 4294967296) + (rd x6 x15)) % 4294967296) + (rd x5 x15)) % 4294967296) + (((Go.bits .xor .u32 (Go.bits .xor .u32 t293 t294) t295) + (Go.bits .xor .u32 (Go.bits .xor .u32 (Go.bits .and .u32 x7 x8) (Go.bits .and .u32 x7 x9)) (Go.bits .and .u32 x8 x9))) % 4294967296)) % 4294967296) x7 x8 x9 ((x10 + ((((((((x14 + (Go.bits .xor .u32 (Go.bits .xor .u32 t288 t289) t290)) % 4294967296) + (Go.bits .xor .u32 (Go.bits .and .u32 x11 x12) (Go.bits .and .u32 (Go.bits .xor .u32 4294967295 x11) x13))) % 4294967296) + (rd x6 x15)) % 4294967296) + (rd x5 x15)) % 4294967296)) % 4294967296) x11 x12 x13 (wrap64 (x15 + 1)))))) else (none)) else (none)) else (none))))) else (if 0 < (x0.length : Int) then (if 1 < (x0.length : Int) then (if 2 < (x0.length : Int) then (if 3 < (x0.length : Int) then (if 4 < (x0.length : Int) then (if 5 < (x0.length : Int) then (if 6 < (x0.length : Int) then (if 7 < (x0.length : Int) then (some (([((rd x0 0) + x7) % 4294967296, ((rd x0 1) + x8) % 4294967296, ((rd x0 2) + x9) % 4294967296, ((rd x0 3) + x10) % 4294967296, ((rd x0 4) + x11) % 4294967296, ((rd x0 5) + x12) % 4294967296, ((rd x0 6) + x13) % 4294967296, ((rd x0 7) + x14) % 4294967296] : List Int))) else (none)) else (none)) else (none)) else (none)) else (none)) else (none)) else (none)) else (none))
def mosaicref01_Mix.f (k : Nat) (l0 : List Int) (a1 : ByteArray) : Option (List Int) := (mosaicref01_Words.f k a1).bind fun t263 => ((mosaicref01_K.f).bind fun t266 => (if 0 < (l0.length : Int) then (if 1 < (l0.length : Int) then (if 2 < (l0.length : Int) then (if 3 < (l0.length : Int) then (if 4 < (l0.length : Int) then (if 5 < (l0.length : Int) then (if 6 < (l0.length : Int) then (if 7 < (l0.length : Int) then (mosaicref01_Mix.l0 k l0 t263 t266 (rd l0 0) (rd l0 1) (rd l0 2) (rd l0 3) (rd l0 4) (rd l0 5) (rd l0 6) (rd l0 7) 0) else (none)) else (none)) else (none)) else (none)) else (none)) else (none)) else (none)) else (none)))
theorem mosaicref01_Mix.mono_l : ∀ k, (∀ y0 y1 y2 y3 y4 y5 y6 y7 y8 y9 y10 y11, LeO (mosaicref01_Mix.l0 k y0 y1 y2 y3 y4 y5 y6 y7 y8 y9 y10 y11) (mosaicref01_Mix.l0 (k + 1) y0 y1 y2 y3 y4 y5 y6 y7 y8 y9 y10 y11))
 | 0 => fun _ _ _ _ _ _ _ _ _ _ _ _ r h => by simp [mosaicref01_Mix.l0] at h
 | k + 1 => by
  have ih0 := mosaicref01_Mix.mono_l k
  ·
   intro y0 y1 y2 y3 y4 y5 y6 y7 y8 y9 y10 y11
   unfold mosaicref01_Mix.l0
   repeat' first | (with_reducible first | apply ih0 | apply mosaicref01_Words.mono | exact LeO.refl _ | exact LeO.none _ | refine LeO.ite ?_ ?_ | refine LeO.bind ?_ (fun _ => ?_)) | apply ih0 | apply mosaicref01_Words.mono | exact LeO.none _ | refine LeO.ite ?_ ?_ | refine LeO.bind ?_ (fun _ => ?_)
theorem mosaicref01_Mix.mono : ∀ a0 a1 k, LeO (mosaicref01_Mix.f k a0 a1) (mosaicref01_Mix.f (k + 1) a0 a1) := by
 intro a0 a1 k
 have ih0 := mosaicref01_Mix.mono_l k
 unfold mosaicref01_Mix.f
 repeat' first | (with_reducible first | apply ih0 | apply mosaicref01_Words.mono | exact LeO.refl _ | exact LeO.none _ | refine LeO.ite ?_ ?_ | refine LeO.bind ?_ (fun _ => ?_)) | apply ih0 | apply mosaicref01_Words.mono | exact LeO.none _ | refine LeO.ite ?_ ?_ | refine LeO.bind ?_ (fun _ => ?_)
def mosaicref01_Mix.T3 : Bool × List (List Nat × List Nat) := (true, [([], []), ([0], [0]), ([1], [1]), ([], []), ([3], [3]), ([4], [4]), ([], []), ([6], [6]), ([7], [7]), ([], []), ([9], [9]), ([10], [10]), ([2, 0, 1, 2], [2]), ([5, 12, 0, 1, 2, 3, 4, 5, 12], [5]), ([8, 13, 0, 1, 2, 3, 4, 5, 6, 7, 8, 12, 13], [8]), ([11, 14, 0, 1, 2, 3, 4, 5, 6, 7, 8, 9, 10, 11, 12, 13, 14], [11])])
def mosaicref01_Mix.B3 : List Nat := [0, 1, 3, 0, 8, 24, 0, 64, 192, 0, 512, 1536, 7, 4159, 12799, 32767]
theorem mosaicref01_Mix.tab3 : rtab .any (opsOf Tryz.f124 3) = mosaicref01_Mix.T3 := by kernel_rfl
theorem mosaicref01_Mix.bits3 : waitsOk mosaicref01_Mix.T3.2 mosaicref01_Mix.B3 = true := by kernel_rfl
def mosaicref01_Mix.T4 : Bool × List (List Nat × List Nat) := (true, [([], []), ([0], [0]), ([1], [1]), ([], []), ([3], [3]), ([4], [4]), ([], []), ([6], [6]), ([7], [7]), ([], []), ([9], [9]), ([10], [10]), ([2, 0, 1, 2], [2]), ([5, 12, 0, 1, 2, 3, 4, 5, 12], [5]), ([8, 13, 0, 1, 2, 3, 4, 5, 6, 7, 8, 12, 13], [8]), ([11, 14, 0, 1, 2, 3, 4, 5, 6, 7, 8, 9, 10, 11, 12, 13, 14], [11])])
def mosaicref01_Mix.B4 : List Nat := [0, 1, 3, 0, 8, 24, 0, 64, 192, 0, 512, 1536, 7, 4159, 12799, 32767]
theorem mosaicref01_Mix.tab4 : rtab .any (opsOf Tryz.f124 4) = mosaicref01_Mix.T4 := by kernel_rfl
theorem mosaicref01_Mix.bits4 : waitsOk mosaicref01_Mix.T4.2 mosaicref01_Mix.B4 = true := by kernel_rfl
def mosaicref01_Mix.T8 : Bool × List (List Nat × List Nat) := (true, [([], []), ([], []), ([1], [1]), ([], []), ([3, 2], [3]), ([2, 4], [2, 4]), ([], []), ([6, 4], [6]), ([5, 7], [5, 7]), ([0, 8], [0, 8]), ([], []), ([], []), ([10, 11], [10, 11]), ([], []), ([13], [13]), ([], []), ([14, 15], [14, 15]), ([12, 16], [12, 16]), ([9, 17], [9, 17]), ([], []), ([], []), ([19, 20], [19, 20]), ([21], [21]), ([18, 22], [18, 22]), ([], []), ([], []), ([24, 25], [24, 25]), ([26], [26]), ([23, 27], [23, 27]), ([28, 7, 0, 1, 2, 3, 4, 5, 6, 7, 8, 9, 10, 11, 12, 13, 14, 15, 16, 17, 18, 19, 20, 21, 22, 23, 24, 25, 26, 27, 28], [28])])
def mosaicref01_Mix.B8 : List Nat := [0, 0, 2, 0, 14, 30, 0, 94, 254, 511, 0, 0, 3072, 0, 8192, 0, 57344, 130048, 262143, 0, 0, 1572864, 3670016, 8388607, 0, 0, 50331648, 117440512, 268435455, 536870911]
theorem mosaicref01_Mix.tab8 : rtab .any (opsOf Tryz.f124 8) = mosaicref01_Mix.T8 := by kernel_rfl
theorem mosaicref01_Mix.bits8 : waitsOk mosaicref01_Mix.T8.2 mosaicref01_Mix.B8 = true := by kernel_rfl
def mosaicref01_Mix.T18 : Bool × List (List Nat × List Nat) := (true, [([], []), ([0], [0]), ([1], [1]), ([], []), ([2, 3], [2, 3]), ([], []), ([5], [5]), ([6], [6]), ([], []), ([7, 8], [7, 8]), ([], []), ([10], [10]), ([11], [11]), ([], []), ([12, 13], [12, 13]), ([], []), ([15], [15]), ([16], [16]), ([], []), ([17, 18], [17, 18]), ([], []), ([20], [20]), ([21], [21]), ([], []), ([22, 23], [22, 23]), ([], []), ([25], [25]), ([26], [26]), ([], []), ([27, 28], [27, 28]), ([], []), ([30], [30]), ([31], [31]), ([], []), ([32, 33], [32, 33]), ([], []), ([35], [35]), ([36], [36]), ([], []), ([37, 38], [37, 38]), ([4, 9, 14, 19, 24, 29, 34, 39], [4, 9, 14, 19, 24, 29, 34, 39]), ([40, 0, 1, 2, 3, 4, 5, 6, 7, 8, 9, 10, 11, 12, 13, 14, 15, 16, 17, 18, 19, 20, 21, 22, 23, 24, 25, 26, 27, 28, 29, 30, 31, 32, 33, 34, 35, 36, 37, 38, 39, 40], [40])])
def mosaicref01_Mix.B18 : List Nat := [0, 1, 3, 0, 15, 0, 32, 96, 0, 480, 0, 1024, 3072, 0, 15360, 0, 32768, 98304, 0, 491520, 0, 1048576, 3145728, 0, 15728640, 0, 33554432, 100663296, 0, 503316480, 0, 1073741824, 3221225472, 0, 16106127360, 0, 34359738368, 103079215104, 0, 515396075520, 1099511627775, 2199023255551]
theorem mosaicref01_Mix.tab18 : rtab .any (opsOf Tryz.f124 18) = mosaicref01_Mix.T18 := by kernel_rfl
theorem mosaicref01_Mix.bits18 : waitsOk mosaicref01_Mix.T18.2 mosaicref01_Mix.B18 = true := by kernel_rfl
set_option maxHeartbeats 8000000 in
set_option maxRecDepth 100000 in
theorem mosaicref01_Mix.calls (k : Nat) (A0 : Option Addr) (c0 : Nat) (l0 : List Int) (a1 : ByteArray) (r : List Int) (w : World) (hr0 : Kd.C (Kd.int .u32) w A0 l0.length l0) (hc0 : l0.length ≤ c0) (h : mosaicref01_Mix.f k l0 a1 = some r) :
  Calls Tryz.prog 124 #[.slice A0 l0.length c0, .string a1] w fun e w' => ∃ v0_ : Value, e = .returned (v0_) ∧ Kd.R (Kd.int .u32) 104 w' w.heap.size (fun _ => True) v0_ r ∧ Below w.heap.size w w' := by
 have HR0 := Aside0.mk hr0
 have HC0 := Aside0.mk hc0
 clear hr0 hc0; have HB := Aside0.mk (Below.refl w.heap.size w)
 have H : ((mosaicref01_Words.f k a1).bind fun t263 => ((mosaicref01_K.f).bind fun t266 => (if 0 < (l0.length : Int) then (if 1 < (l0.length : Int) then (if 2 < (l0.length : Int) then (if 3 < (l0.length : Int) then (if 4 < (l0.length : Int) then (if 5 < (l0.length : Int) then (if 6 < (l0.length : Int) then (if 7 < (l0.length : Int) then (mosaicref01_Mix.l0 k l0 t263 t266 (rd l0 0) (rd l0 1) (rd l0 2) (rd l0 3) (rd l0 4) (rd l0 5) (rd l0 6) (rd l0 7) 0) else (none)) else (none)) else (none)) else (none)) else (none)) else (none)) else (none)) else (none)))) = some r := h
 clear h; replace H := Option.bind_eq_some_iff.mp H
 obtain ⟨t263, A30, H⟩ := H
 replace H : ((mosaicref01_K.f).bind fun t266 => (if 0 < (l0.length : Int) then (if 1 < (l0.length : Int) then (if 2 < (l0.length : Int) then (if 3 < (l0.length : Int) then (if 4 < (l0.length : Int) then (if 5 < (l0.length : Int) then (if 6 < (l0.length : Int) then (if 7 < (l0.length : Int) then (mosaicref01_Mix.l0 k l0 t263 t266 (rd l0 0) (rd l0 1) (rd l0 2) (rd l0 3) (rd l0 4) (rd l0 5) (rd l0 6) (rd l0 7) 0) else (none)) else (none)) else (none)) else (none)) else (none)) else (none)) else (none)) else (none))) = some r := H
 have A3 := Aside0.mk A30
 clear A30; replace H := Option.bind_eq_some_iff.mp H
 obtain ⟨t266, A40, H⟩ := H
 replace H : (if 0 < (l0.length : Int) then (if 1 < (l0.length : Int) then (if 2 < (l0.length : Int) then (if 3 < (l0.length : Int) then (if 4 < (l0.length : Int) then (if 5 < (l0.length : Int) then (if 6 < (l0.length : Int) then (if 7 < (l0.length : Int) then (mosaicref01_Mix.l0 k l0 t263 t266 (rd l0 0) (rd l0 1) (rd l0 2) (rd l0 3) (rd l0 4) (rd l0 5) (rd l0 6) (rd l0 7) 0) else (none)) else (none)) else (none)) else (none)) else (none)) else (none)) else (none)) else (none)) = some r := H
 have A4 := Aside0.mk A40
 clear A40; by_cases c5 : 0 < (l0.length : Int)
 ·
  rw [if_pos c5] at H
  have c5b0 : decide (0 < (l0.length : Int)) = true := decide_eq_true c5
  have c5b1 : decide (0 < l0.length) = true := decide_eq_true (by omega)
  have c5b2 : (0 < l0.length) := by omega
  clear c5; by_cases c6 : 1 < (l0.length : Int)
  ·
   rw [if_pos c6] at H
   have c6b0 : decide (1 < (l0.length : Int)) = true := decide_eq_true c6
   have c6b1 : decide (1 < l0.length) = true := decide_eq_true (by omega)
   clear c6; by_cases c7 : 2 < (l0.length : Int)
   ·
    rw [if_pos c7] at H
    have c7b0 : decide (2 < (l0.length : Int)) = true := decide_eq_true c7
    have c7b1 : decide (2 < l0.length) = true := decide_eq_true (by omega)
    clear c7; by_cases c8 : 3 < (l0.length : Int)
    ·
     rw [if_pos c8] at H
     have c8b0 : decide (3 < (l0.length : Int)) = true := decide_eq_true c8
     have c8b1 : decide (3 < l0.length) = true := decide_eq_true (by omega)
     clear c8; by_cases c9 : 4 < (l0.length : Int)
     ·
      rw [if_pos c9] at H
      have c9b0 : decide (4 < (l0.length : Int)) = true := decide_eq_true c9
      have c9b1 : decide (4 < l0.length) = true := decide_eq_true (by omega)
      clear c9; by_cases c10 : 5 < (l0.length : Int)
      ·
       rw [if_pos c10] at H
       have c10b0 : decide (5 < (l0.length : Int)) = true := decide_eq_true c10
       have c10b1 : decide (5 < l0.length) = true := decide_eq_true (by omega)
       clear c10; by_cases c11 : 6 < (l0.length : Int)
       ·
        rw [if_pos c11] at H
        have c11b0 : decide (6 < (l0.length : Int)) = true := decide_eq_true c11
        have c11b1 : decide (6 < l0.length) = true := decide_eq_true (by omega)
        clear c11; by_cases c12 : 7 < (l0.length : Int)
        ·
         rw [if_pos c12] at H
         have c12b0 : decide (7 < (l0.length : Int)) = true := decide_eq_true c12
         have c12b1 : decide (7 < l0.length) = true := decide_eq_true (by omega)
         clear c12; have H' := Aside0.mk H
         clear H; go_enter Tryz.func124, Tryz.ntmps124
         try go_wp2_with (first | ((with_reducible refine gate_callee (f := 128) rfl ?_); refine goesL_ (some 19) rfl rfl Tryz.func128 (by kernel_rfl) rfl #[.string a1] rfl zM ?_; (with_reducible refine (mosaicref01_Words.calls k a1 t263 _ A3.out).mono ?_); rintro e w13 ⟨v264, rfl, ho0, hb⟩; refine ⟨_, rfl, ?_⟩; have HO265 := Aside0.mk (Kd.R_lower ho0 (below_size zB)); replace HB := Aside0.mk (below_step zB hb); (try clear hb); (try clear hb2); (try clear hk); (try clear hi); (try clear ho0)) | ((with_reducible refine gate_callee (f := 129) rfl ?_); refine goesL_ (some 20) rfl rfl Tryz.func129 (by kernel_rfl) rfl #[] rfl zM ?_; (with_reducible refine (mosaicref01_K.calls  t266 _ A4.out).mono ?_); rintro e w14 ⟨v267, rfl, ho0, hb⟩; refine ⟨_, rfl, ?_⟩; have n0_ := Aside0.mk (Kd.R_elder' (by (with_reducible repeat (first | apply Kd.R_alloc | apply Kd.R_drewN | apply Kd.R_drew)); exact HO265.out) (Kd.R_base ho0) hb); have n1_ := Aside0.mk (Kd.R_lower (Kd.R_new' ho0 (Kd.R_lt (by (with_reducible repeat (first | apply Kd.R_alloc | apply Kd.R_drewN | apply Kd.R_drew)); exact HO265.out))) (below_size zB)); have n2_ := Aside0.mk (below_step zB hb); clear HO265; clear HB; have HO265 := n0_; have HO268 := n1_; have HB := n2_; clear n0_ n1_ n2_; (try clear hb); (try clear hb2); (try clear hk); (try clear hi); (try clear ho0)))
         replace HO265 := Aside0.mk (Kd.R_drew HO265.out)
         replace HO268 := Aside0.mk (Kd.R_drew HO268.out)
         replace HB := Aside0.mk (below_drew1 HB.out); have p269 : 0 ≤ (0 : Int) := (by omega)
         have q269 : 0 < (l0.length : Int) := of_decide_eq_true zA
         obtain ⟨ad269, e269, hx269_0⟩ := Kd.at_int HR0.out 0 p269 q269
         have hw269_0 := hx269_0; (try rw [show ((0 : Int)).toNat = 0 from rfl] at hw269_0)
         (try rw [show 0 * 1 = 0 from rfl] at hw269_0)
         (try rw [Addr.add_zero'] at hw269_0)
         cases e269
         have qi269 : (0 < l0.length) = True := eq_true (by omega)
         (try rw [show ((0 : Int)).toNat = 0 from rfl] at hx269_0)
         (try rw [Addr.add_zero'] at hx269_0)
         (try replace hx269_0 := (HB.out.cell (World.block_lt_of_cell? w _ hx269_0)).trans hx269_0)
         replace p269 := eq_true p269
         replace q269 := eq_true q269
         have p270 : 0 ≤ (1 : Int) := (by omega)
         have q270 : 1 < (l0.length : Int) := of_decide_eq_true zA
         obtain ⟨ad270, e270, hx270_0⟩ := Kd.at_int HR0.out 1 p270 q270
         have hw270_0 := hx270_0; (try rw [show ((1 : Int)).toNat = 1 from rfl] at hw270_0)
         (try rw [show 1 * 1 = 1 from rfl] at hw270_0)
         (try simp only [Nat.reduceMul, Nat.reduceEqDiff, Go.Addr.add, ↓reduceIte] at hw270_0)
         obtain rfl : ad269 = ad270 := (by injection e270)
         (try simp only [show (1 : Int).toNat = 1 from rfl, Nat.reduceMul, Nat.reduceEqDiff, Go.Addr.add, ↓reduceIte] at hx270_0)
         have qi270 : (1 < l0.length) = True := eq_true (by omega)
         (try rw [show ((1 : Int)).toNat = 1 from rfl] at hx270_0)
         (try replace hx270_0 := (HB.out.cell (World.block_lt_of_cell? w _ hx270_0)).trans hx270_0)
         replace p270 := eq_true p270
         replace q270 := eq_true q270
         have p271 : 0 ≤ (2 : Int) := (by omega)
         have q271 : 2 < (l0.length : Int) := of_decide_eq_true zA
         obtain ⟨ad271, e271, hx271_0⟩ := Kd.at_int HR0.out 2 p271 q271
         have hw271_0 := hx271_0; (try rw [show ((2 : Int)).toNat = 2 from rfl] at hw271_0)
         (try rw [show 2 * 1 = 2 from rfl] at hw271_0)
         (try simp only [Nat.reduceMul, Nat.reduceEqDiff, Go.Addr.add, ↓reduceIte] at hw271_0)
         obtain rfl : ad269 = ad271 := (by injection e271)
         (try simp only [show (2 : Int).toNat = 2 from rfl, Nat.reduceMul, Nat.reduceEqDiff, Go.Addr.add, ↓reduceIte] at hx271_0)
         have qi271 : (2 < l0.length) = True := eq_true (by omega)
         (try rw [show ((2 : Int)).toNat = 2 from rfl] at hx271_0)
         (try replace hx271_0 := (HB.out.cell (World.block_lt_of_cell? w _ hx271_0)).trans hx271_0)
         replace p271 := eq_true p271
         replace q271 := eq_true q271
         have p272 : 0 ≤ (3 : Int) := (by omega)
         have q272 : 3 < (l0.length : Int) := of_decide_eq_true zA
         obtain ⟨ad272, e272, hx272_0⟩ := Kd.at_int HR0.out 3 p272 q272
         have hw272_0 := hx272_0; (try rw [show ((3 : Int)).toNat = 3 from rfl] at hw272_0)
         (try rw [show 3 * 1 = 3 from rfl] at hw272_0)
         (try simp only [Nat.reduceMul, Nat.reduceEqDiff, Go.Addr.add, ↓reduceIte] at hw272_0)
         obtain rfl : ad269 = ad272 := (by injection e272)
         (try simp only [show (3 : Int).toNat = 3 from rfl, Nat.reduceMul, Nat.reduceEqDiff, Go.Addr.add, ↓reduceIte] at hx272_0)
         have qi272 : (3 < l0.length) = True := eq_true (by omega)
         (try rw [show ((3 : Int)).toNat = 3 from rfl] at hx272_0)
         (try replace hx272_0 := (HB.out.cell (World.block_lt_of_cell? w _ hx272_0)).trans hx272_0)
         replace p272 := eq_true p272
         replace q272 := eq_true q272
         refine start_ (n := 16) (S := fun w' => w'.cell? ad269 = some (.int .u32 (rd l0 0)) ∧ w'.cell? ⟨ad269.block, ad269.off + 1, none⟩ = some (.int .u32 (rd l0 1)) ∧ w'.cell? ⟨ad269.block, ad269.off + 2, none⟩ = some (.int .u32 (rd l0 2)) ∧ w'.cell? ⟨ad269.block, ad269.off + 3, none⟩ = some (.int .u32 (rd l0 3))) (ds := []) (mkB124 16 0) (by kernel_rfl) rfl rfl ⟨(by first | exact (HB.out.cell (World.block_lt_of_cell? w _ hw269_0)).trans hw269_0 | exact hw269_0), (by first | exact (HB.out.cell (World.block_lt_of_cell? w _ hw270_0)).trans hw270_0 | exact hw270_0), (by first | exact (HB.out.cell (World.block_lt_of_cell? w _ hw271_0)).trans hw271_0 | exact hw271_0), (by first | exact (HB.out.cell (World.block_lt_of_cell? w _ hw272_0)).trans hw272_0 | exact hw272_0)⟩ (fun hHeld => ?_); refine with_tabW mosaicref01_Mix.tab3 mosaicref01_Mix.bits3 (fun HT_ HW_ => ?_)
         generalize w14.drew = w15 at HO265 HO268 HB hx269_0 hx270_0 hx271_0 hx272_0 hHeld ⊢
         refine pX 0 (some 21) (mkB124 16 1) ?_
         refine pX 1 (some 22) (mkB124 16 3) ?_
         refine pX 3 (some 24) (mkB124 16 11) ?_
         refine pX 4 (some 25) (mkB124 16 27) ?_
         refine pX 6 (some 27) (mkB124 16 91) ?_
         refine pX 7 (some 28) (mkB124 16 219) ?_
         refine pX 9 (some 30) (mkB124 16 731) ?_
         refine pX 10 (some 31) (mkB124 16 1755) ?_
         refine tT (v := ?_) (a' := ?_) HT_ HW_ hHeld 2 (some 23) (mkB124 16 1759) ?_ ?_ ?_; rotate_left 2; (rintro w' ⟨s0, s1, s2, s3⟩; go_simp; with_reducible rfl); (simp only [Act.put, qA, qB, qC, i64_w, i32_w]; rfl)
         refine pX 12 (some 7) (mkB124 16 5855) ?_
         refine tT (v := ?_) (a' := ?_) HT_ HW_ hHeld 5 (some 26) (mkB124 16 5887) ?_ ?_ ?_; rotate_left 2; (rintro w' ⟨s0, s1, s2, s3⟩; go_simp; with_reducible rfl); (simp only [Act.put, qA, qB, qC, i64_w, i32_w]; rfl)
         refine pX 13 (some 8) (mkB124 16 14079) ?_
         refine tT (v := ?_) (a' := ?_) HT_ HW_ hHeld 8 (some 29) (mkB124 16 14335) ?_ ?_ ?_; rotate_left 2; (rintro w' ⟨s0, s1, s2, s3⟩; go_simp; with_reducible rfl); (simp only [Act.put, qA, qB, qC, i64_w, i32_w]; rfl)
         refine pX 14 (some 9) (mkB124 16 30719) ?_
         refine tT (v := ?_) (a' := ?_) HT_ HW_ hHeld 11 (some 32) (mkB124 16 32767) ?_ ?_ ?_; rotate_left 2; (rintro w' ⟨s0, s1, s2, s3⟩; go_simp; with_reducible rfl); (simp only [Act.put, qA, qB, qC, i64_w, i32_w]; rfl)
         refine pX 15 (some 10) (mkB124 16 65535) ?_
         refine done_ (done_of HT_.out (by kernel_rfl)) ?_
         try go_wp2
         replace HO265 := Aside0.mk (Kd.R_drew HO265.out)
         replace HO268 := Aside0.mk (Kd.R_drew HO268.out)
         replace HB := Aside0.mk (below_drew1 HB.out); have p273 : 0 ≤ (4 : Int) := (by omega)
         have q273 : 4 < (l0.length : Int) := of_decide_eq_true zA
         obtain ⟨ad273, e273, hx273_0⟩ := Kd.at_int HR0.out 4 p273 q273
         have hw273_0 := hx273_0; (try rw [show ((4 : Int)).toNat = 4 from rfl] at hw273_0)
         (try rw [show 4 * 1 = 4 from rfl] at hw273_0)
         (try simp only [Nat.reduceMul, Nat.reduceEqDiff, Go.Addr.add, ↓reduceIte] at hw273_0)
         obtain rfl : ad269 = ad273 := (by injection e273)
         (try simp only [show (4 : Int).toNat = 4 from rfl, Nat.reduceMul, Nat.reduceEqDiff, Go.Addr.add, ↓reduceIte] at hx273_0)
         have qi273 : (4 < l0.length) = True := eq_true (by omega)
         (try rw [show ((4 : Int)).toNat = 4 from rfl] at hx273_0)
         (try replace hx273_0 := (HB.out.cell (World.block_lt_of_cell? w _ hx273_0)).trans hx273_0)
         replace p273 := eq_true p273
         replace q273 := eq_true q273
         have p274 : 0 ≤ (5 : Int) := (by omega)
         have q274 : 5 < (l0.length : Int) := of_decide_eq_true zA
         obtain ⟨ad274, e274, hx274_0⟩ := Kd.at_int HR0.out 5 p274 q274
         have hw274_0 := hx274_0; (try rw [show ((5 : Int)).toNat = 5 from rfl] at hw274_0)
         (try rw [show 5 * 1 = 5 from rfl] at hw274_0)
         (try simp only [Nat.reduceMul, Nat.reduceEqDiff, Go.Addr.add, ↓reduceIte] at hw274_0)
         obtain rfl : ad269 = ad274 := (by injection e274)
         (try simp only [show (5 : Int).toNat = 5 from rfl, Nat.reduceMul, Nat.reduceEqDiff, Go.Addr.add, ↓reduceIte] at hx274_0)
         have qi274 : (5 < l0.length) = True := eq_true (by omega)
         (try rw [show ((5 : Int)).toNat = 5 from rfl] at hx274_0)
         (try replace hx274_0 := (HB.out.cell (World.block_lt_of_cell? w _ hx274_0)).trans hx274_0)
         replace p274 := eq_true p274
         replace q274 := eq_true q274
         have p275 : 0 ≤ (6 : Int) := (by omega)
         have q275 : 6 < (l0.length : Int) := of_decide_eq_true zA
         obtain ⟨ad275, e275, hx275_0⟩ := Kd.at_int HR0.out 6 p275 q275
         have hw275_0 := hx275_0; (try rw [show ((6 : Int)).toNat = 6 from rfl] at hw275_0)
         (try rw [show 6 * 1 = 6 from rfl] at hw275_0)
         (try simp only [Nat.reduceMul, Nat.reduceEqDiff, Go.Addr.add, ↓reduceIte] at hw275_0)
         obtain rfl : ad269 = ad275 := (by injection e275)
         (try simp only [show (6 : Int).toNat = 6 from rfl, Nat.reduceMul, Nat.reduceEqDiff, Go.Addr.add, ↓reduceIte] at hx275_0)
         have qi275 : (6 < l0.length) = True := eq_true (by omega)
         (try rw [show ((6 : Int)).toNat = 6 from rfl] at hx275_0)
         (try replace hx275_0 := (HB.out.cell (World.block_lt_of_cell? w _ hx275_0)).trans hx275_0)
         replace p275 := eq_true p275
         replace q275 := eq_true q275
         have p276 : 0 ≤ (7 : Int) := (by omega)
         have q276 : 7 < (l0.length : Int) := of_decide_eq_true zA
         obtain ⟨ad276, e276, hx276_0⟩ := Kd.at_int HR0.out 7 p276 q276
         have hw276_0 := hx276_0; (try rw [show ((7 : Int)).toNat = 7 from rfl] at hw276_0)
         (try rw [show 7 * 1 = 7 from rfl] at hw276_0)
         (try simp only [Nat.reduceMul, Nat.reduceEqDiff, Go.Addr.add, ↓reduceIte] at hw276_0)
         obtain rfl : ad269 = ad276 := (by injection e276)
         (try simp only [show (7 : Int).toNat = 7 from rfl, Nat.reduceMul, Nat.reduceEqDiff, Go.Addr.add, ↓reduceIte] at hx276_0)
         have qi276 : (7 < l0.length) = True := eq_true (by omega)
         (try rw [show ((7 : Int)).toNat = 7 from rfl] at hx276_0)
         (try replace hx276_0 := (HB.out.cell (World.block_lt_of_cell? w _ hx276_0)).trans hx276_0)
         replace p276 := eq_true p276
         replace q276 := eq_true q276
         refine start_ (n := 16) (S := fun w' => w'.cell? ⟨ad269.block, ad269.off + 4, none⟩ = some (.int .u32 (rd l0 4)) ∧ w'.cell? ⟨ad269.block, ad269.off + 5, none⟩ = some (.int .u32 (rd l0 5)) ∧ w'.cell? ⟨ad269.block, ad269.off + 6, none⟩ = some (.int .u32 (rd l0 6)) ∧ w'.cell? ⟨ad269.block, ad269.off + 7, none⟩ = some (.int .u32 (rd l0 7))) (ds := []) (mkB124 16 0) (by kernel_rfl) rfl rfl ⟨(by first | exact (HB.out.cell (World.block_lt_of_cell? w _ hw273_0)).trans hw273_0 | exact hw273_0), (by first | exact (HB.out.cell (World.block_lt_of_cell? w _ hw274_0)).trans hw274_0 | exact hw274_0), (by first | exact (HB.out.cell (World.block_lt_of_cell? w _ hw275_0)).trans hw275_0 | exact hw275_0), (by first | exact (HB.out.cell (World.block_lt_of_cell? w _ hw276_0)).trans hw276_0 | exact hw276_0)⟩ (fun hHeld => ?_); refine with_tabW mosaicref01_Mix.tab4 mosaicref01_Mix.bits4 (fun HT_ HW_ => ?_)
         generalize w15.drew = w16 at HO265 HO268 HB hx273_0 hx274_0 hx275_0 hx276_0 hHeld ⊢
         refine pX 0 (some 33) (mkB124 16 1) ?_
         refine pX 1 (some 34) (mkB124 16 3) ?_
         refine pX 3 (some 36) (mkB124 16 11) ?_
         refine pX 4 (some 37) (mkB124 16 27) ?_
         refine pX 6 (some 39) (mkB124 16 91) ?_
         refine pX 7 (some 40) (mkB124 16 219) ?_
         refine pX 9 (some 42) (mkB124 16 731) ?_
         refine pX 10 (some 43) (mkB124 16 1755) ?_
         refine tT (v := ?_) (a' := ?_) HT_ HW_ hHeld 2 (some 35) (mkB124 16 1759) ?_ ?_ ?_; rotate_left 2; (rintro w' ⟨s0, s1, s2, s3⟩; go_simp; with_reducible rfl); (simp only [Act.put, qA, qB, qC, i64_w, i32_w]; rfl)
         refine pX 12 (some 11) (mkB124 16 5855) ?_
         refine tT (v := ?_) (a' := ?_) HT_ HW_ hHeld 5 (some 38) (mkB124 16 5887) ?_ ?_ ?_; rotate_left 2; (rintro w' ⟨s0, s1, s2, s3⟩; go_simp; with_reducible rfl); (simp only [Act.put, qA, qB, qC, i64_w, i32_w]; rfl)
         refine pX 13 (some 12) (mkB124 16 14079) ?_
         refine tT (v := ?_) (a' := ?_) HT_ HW_ hHeld 8 (some 41) (mkB124 16 14335) ?_ ?_ ?_; rotate_left 2; (rintro w' ⟨s0, s1, s2, s3⟩; go_simp; with_reducible rfl); (simp only [Act.put, qA, qB, qC, i64_w, i32_w]; rfl)
         refine pX 14 (some 13) (mkB124 16 30719) ?_
         refine tT (v := ?_) (a' := ?_) HT_ HW_ hHeld 11 (some 44) (mkB124 16 32767) ?_ ?_ ?_; rotate_left 2; (rintro w' ⟨s0, s1, s2, s3⟩; go_simp; with_reducible rfl); (simp only [Act.put, qA, qB, qC, i64_w, i32_w]; rfl)
         refine pX 15 (some 14) (mkB124 16 65535) ?_
         refine done_ (done_of HT_.out (by kernel_rfl)) ?_
         try go_wp2
         go_loopg [7, 8, 9, 10, 11, 12, 13, 14, 15] k (fun kq v7 v8 v9 v10 v11 v12 v13 v14 v15 w' => ∃ (x7_1 : Int) (x8_1 : Int) (x9_1 : Int) (x10_1 : Int) (x11_1 : Int) (x12_1 : Int) (x13_1 : Int) (x14_1 : Int) (x15_1 : Int), v7 = .int .u32 x7_1 ∧ v8 = .int .u32 x8_1 ∧ v9 = .int .u32 x9_1 ∧ v10 = .int .u32 x10_1 ∧ v11 = .int .u32 x11_1 ∧ v12 = .int .u32 x12_1 ∧ v13 = .int .u32 x13_1 ∧ v14 = .int .u32 x14_1 ∧ v15 = .int .i64 x15_1 ∧ Aside0 (mosaicref01_Mix.l0 kq l0 t263 t266 x7_1 x8_1 x9_1 x10_1 x11_1 x12_1 x13_1 x14_1 x15_1 = some r) ∧ Aside0 (kq ≤ k) ∧ Aside0 (Kd.R (Kd.int .u32) 104 w' w.heap.size (fun k_ => some k_ ≠ (v267 : Value).ownBlock) v264 t263) ∧ Aside0 (Kd.R (Kd.int .u32) 104 w' w.heap.size (fun k_ => some k_ ≠ (v264 : Value).ownBlock) v267 t266) ∧ Aside0 (Below w.heap.size w w'))
         case atStart => exact ⟨(rd l0 0), (rd l0 1), (rd l0 2), (rd l0 3), (rd l0 4), (rd l0 5), (rd l0 6), (rd l0 7), (0), zF, zF, zF, zF, zF, zF, zF, zF, zF, H', ⟨Nat.le_refl _⟩, ⟨by (with_reducible repeat (first | apply Kd.R_alloc | apply Kd.R_drewN | apply Kd.R_drew)); exact Kd.R_mono HO265.out (fun _ hk => hk.2)⟩, ⟨by (with_reducible repeat (first | apply Kd.R_alloc | apply Kd.R_drewN | apply Kd.R_drew)); exact Kd.R_mono HO268.out (fun _ hk => hk.2)⟩, ⟨zB⟩⟩
         case round =>
          clear H'
          (try clear c1); (try clear p2); (try clear q2); (try clear hx2); (try clear qi2); (try clear c5); (try clear c5b0); (try clear c5b1); (try clear c5b2); (try clear c6); (try clear c6b0); (try clear c6b1); (try clear c7); (try clear c7b0); (try clear c7b1); (try clear c8); (try clear c8b0); (try clear c8b1); (try clear c9); (try clear c9b0); (try clear c9b1); (try clear c10); (try clear c10b0); (try clear c10b1); (try clear c11); (try clear c11b0); (try clear c11b1); (try clear c12); (try clear c12b0); (try clear c12b1); (try clear hx269_0); (try clear hx270_0); (try clear hx271_0); (try clear hx272_0); (try clear hx273_0); (try clear hx274_0); (try clear hx275_0); (try clear hx276_0); (try clear p269); (try clear p270); (try clear p271); (try clear p272); (try clear p273); (try clear p274); (try clear p275); (try clear p276); (try clear q269); (try clear q270); (try clear q271); (try clear q272); (try clear q273); (try clear q274); (try clear q275); (try clear q276); obtain ⟨x7_1, x8_1, x9_1, x10_1, x11_1, x12_1, x13_1, x14_1, x15_1, rfl, rfl, rfl, rfl, rfl, rfl, rfl, rfl, rfl, HA, HK1, HO_5, HO_6, HB⟩ := hrel
          cases gk with
          | zero => exact absurd HA.out (by simp [mosaicref01_Mix.l0])
          | succ k1 =>
           have H := HA.out; clear HA; simp only [mosaicref01_Mix.l0] at H
           by_cases c17 : x15_1 < 64
           ·
            rw [if_pos c17] at H
            have c17b0 : decide (x15_1 < 64) = true := decide_eq_true c17
            clear c17; replace H := Option.bind_eq_some_iff.mp H
            obtain ⟨t288, A180, H⟩ := H
            replace H : ((mosaicref01_rotr.f x11_1 11).bind fun t289 => ((mosaicref01_rotr.f x11_1 25).bind fun t290 => (if 0 ≤ x15_1 then (if x15_1 < (t266.length : Int) then (if x15_1 < (t263.length : Int) then ((mosaicref01_rotr.f x7_1 2).bind fun t293 => ((mosaicref01_rotr.f x7_1 13).bind fun t294 => ((mosaicref01_rotr.f x7_1 22).bind fun t295 => (mosaicref01_Mix.l0 k1 l0 t263 t266 ((((((((((x14_1 + (Go.bits .xor .u32 (Go.bits .xor .u32 t288 t289) t290)) % 4294967296) + (Go.bits .xor .u32 (Go.bits .and .u32 x11_1 x12_1) (Go.bits .and .u32 (Go.bits .xor .u32 4294967295 x11_1) x13_1))) % 4294967296) + (rd t266 x15_1)) % 4294967296) + (rd t263 x15_1)) % 4294967296) + (((Go.bits .xor .u32 (Go.bits .xor .u32 t293 t294) t295) + (Go.bits .xor .u32 (Go.bits .xor .u32 (Go.bits .and .u32 x7_1 x8_1) (Go.bits .and .u32 x7_1 x9_1)) (Go.bits .and .u32 x8_1 x9_1))) % 4294967296)) % 4294967296) x7_1 x8_1 x9_1 ((x10_1 + ((((((((x14_1 + (Go.bits .xor .u32 (Go.bits .xor .u32 t288 t289) t290)) % 4294967296) + (Go.bits .xor .u32 (Go.bits .and .u32 x11_1 x12_1) (Go.bits .and .u32 (Go.bits .xor .u32 4294967295 x11_1) x13_1))) % 4294967296) + (rd t266 x15_1)) % 4294967296) + (rd t263 x15_1)) % 4294967296)) % 4294967296) x11_1 x12_1 x13_1 (wrap64 (x15_1 + 1)))))) else (none)) else (none)) else (none)))) = some r := H
            have A18 := Aside0.mk A180
            clear A180; replace H := Option.bind_eq_some_iff.mp H
            obtain ⟨t289, A190, H⟩ := H
            replace H : ((mosaicref01_rotr.f x11_1 25).bind fun t290 => (if 0 ≤ x15_1 then (if x15_1 < (t266.length : Int) then (if x15_1 < (t263.length : Int) then ((mosaicref01_rotr.f x7_1 2).bind fun t293 => ((mosaicref01_rotr.f x7_1 13).bind fun t294 => ((mosaicref01_rotr.f x7_1 22).bind fun t295 => (mosaicref01_Mix.l0 k1 l0 t263 t266 ((((((((((x14_1 + (Go.bits .xor .u32 (Go.bits .xor .u32 t288 t289) t290)) % 4294967296) + (Go.bits .xor .u32 (Go.bits .and .u32 x11_1 x12_1) (Go.bits .and .u32 (Go.bits .xor .u32 4294967295 x11_1) x13_1))) % 4294967296) + (rd t266 x15_1)) % 4294967296) + (rd t263 x15_1)) % 4294967296) + (((Go.bits .xor .u32 (Go.bits .xor .u32 t293 t294) t295) + (Go.bits .xor .u32 (Go.bits .xor .u32 (Go.bits .and .u32 x7_1 x8_1) (Go.bits .and .u32 x7_1 x9_1)) (Go.bits .and .u32 x8_1 x9_1))) % 4294967296)) % 4294967296) x7_1 x8_1 x9_1 ((x10_1 + ((((((((x14_1 + (Go.bits .xor .u32 (Go.bits .xor .u32 t288 t289) t290)) % 4294967296) + (Go.bits .xor .u32 (Go.bits .and .u32 x11_1 x12_1) (Go.bits .and .u32 (Go.bits .xor .u32 4294967295 x11_1) x13_1))) % 4294967296) + (rd t266 x15_1)) % 4294967296) + (rd t263 x15_1)) % 4294967296)) % 4294967296) x11_1 x12_1 x13_1 (wrap64 (x15_1 + 1)))))) else (none)) else (none)) else (none))) = some r := H
            have A19 := Aside0.mk A190
            clear A190; replace H := Option.bind_eq_some_iff.mp H
            obtain ⟨t290, A200, H⟩ := H
            replace H : (if 0 ≤ x15_1 then (if x15_1 < (t266.length : Int) then (if x15_1 < (t263.length : Int) then ((mosaicref01_rotr.f x7_1 2).bind fun t293 => ((mosaicref01_rotr.f x7_1 13).bind fun t294 => ((mosaicref01_rotr.f x7_1 22).bind fun t295 => (mosaicref01_Mix.l0 k1 l0 t263 t266 ((((((((((x14_1 + (Go.bits .xor .u32 (Go.bits .xor .u32 t288 t289) t290)) % 4294967296) + (Go.bits .xor .u32 (Go.bits .and .u32 x11_1 x12_1) (Go.bits .and .u32 (Go.bits .xor .u32 4294967295 x11_1) x13_1))) % 4294967296) + (rd t266 x15_1)) % 4294967296) + (rd t263 x15_1)) % 4294967296) + (((Go.bits .xor .u32 (Go.bits .xor .u32 t293 t294) t295) + (Go.bits .xor .u32 (Go.bits .xor .u32 (Go.bits .and .u32 x7_1 x8_1) (Go.bits .and .u32 x7_1 x9_1)) (Go.bits .and .u32 x8_1 x9_1))) % 4294967296)) % 4294967296) x7_1 x8_1 x9_1 ((x10_1 + ((((((((x14_1 + (Go.bits .xor .u32 (Go.bits .xor .u32 t288 t289) t290)) % 4294967296) + (Go.bits .xor .u32 (Go.bits .and .u32 x11_1 x12_1) (Go.bits .and .u32 (Go.bits .xor .u32 4294967295 x11_1) x13_1))) % 4294967296) + (rd t266 x15_1)) % 4294967296) + (rd t263 x15_1)) % 4294967296)) % 4294967296) x11_1 x12_1 x13_1 (wrap64 (x15_1 + 1)))))) else (none)) else (none)) else (none)) = some r := H
            have A20 := Aside0.mk A200
            clear A200; by_cases c21 : 0 ≤ x15_1
            ·
             rw [if_pos c21] at H
             have c21b0 : decide (0 ≤ x15_1) = true := decide_eq_true c21
             clear c21; by_cases c22 : x15_1 < (t266.length : Int)
             ·
              rw [if_pos c22] at H
              have c22b0 : decide (x15_1 < (t266.length : Int)) = true := decide_eq_true c22
              clear c22; by_cases c23 : x15_1 < (t263.length : Int)
              ·
               rw [if_pos c23] at H
               have c23b0 : decide (x15_1 < (t263.length : Int)) = true := decide_eq_true c23
               clear c23; replace H := Option.bind_eq_some_iff.mp H
               obtain ⟨t293, A240, H⟩ := H
               replace H : ((mosaicref01_rotr.f x7_1 13).bind fun t294 => ((mosaicref01_rotr.f x7_1 22).bind fun t295 => (mosaicref01_Mix.l0 k1 l0 t263 t266 ((((((((((x14_1 + (Go.bits .xor .u32 (Go.bits .xor .u32 t288 t289) t290)) % 4294967296) + (Go.bits .xor .u32 (Go.bits .and .u32 x11_1 x12_1) (Go.bits .and .u32 (Go.bits .xor .u32 4294967295 x11_1) x13_1))) % 4294967296) + (rd t266 x15_1)) % 4294967296) + (rd t263 x15_1)) % 4294967296) + (((Go.bits .xor .u32 (Go.bits .xor .u32 t293 t294) t295) + (Go.bits .xor .u32 (Go.bits .xor .u32 (Go.bits .and .u32 x7_1 x8_1) (Go.bits .and .u32 x7_1 x9_1)) (Go.bits .and .u32 x8_1 x9_1))) % 4294967296)) % 4294967296) x7_1 x8_1 x9_1 ((x10_1 + ((((((((x14_1 + (Go.bits .xor .u32 (Go.bits .xor .u32 t288 t289) t290)) % 4294967296) + (Go.bits .xor .u32 (Go.bits .and .u32 x11_1 x12_1) (Go.bits .and .u32 (Go.bits .xor .u32 4294967295 x11_1) x13_1))) % 4294967296) + (rd t266 x15_1)) % 4294967296) + (rd t263 x15_1)) % 4294967296)) % 4294967296) x11_1 x12_1 x13_1 (wrap64 (x15_1 + 1))))) = some r := H
               have A24 := Aside0.mk A240
               clear A240; replace H := Option.bind_eq_some_iff.mp H
               obtain ⟨t294, A250, H⟩ := H
               replace H : ((mosaicref01_rotr.f x7_1 22).bind fun t295 => (mosaicref01_Mix.l0 k1 l0 t263 t266 ((((((((((x14_1 + (Go.bits .xor .u32 (Go.bits .xor .u32 t288 t289) t290)) % 4294967296) + (Go.bits .xor .u32 (Go.bits .and .u32 x11_1 x12_1) (Go.bits .and .u32 (Go.bits .xor .u32 4294967295 x11_1) x13_1))) % 4294967296) + (rd t266 x15_1)) % 4294967296) + (rd t263 x15_1)) % 4294967296) + (((Go.bits .xor .u32 (Go.bits .xor .u32 t293 t294) t295) + (Go.bits .xor .u32 (Go.bits .xor .u32 (Go.bits .and .u32 x7_1 x8_1) (Go.bits .and .u32 x7_1 x9_1)) (Go.bits .and .u32 x8_1 x9_1))) % 4294967296)) % 4294967296) x7_1 x8_1 x9_1 ((x10_1 + ((((((((x14_1 + (Go.bits .xor .u32 (Go.bits .xor .u32 t288 t289) t290)) % 4294967296) + (Go.bits .xor .u32 (Go.bits .and .u32 x11_1 x12_1) (Go.bits .and .u32 (Go.bits .xor .u32 4294967295 x11_1) x13_1))) % 4294967296) + (rd t266 x15_1)) % 4294967296) + (rd t263 x15_1)) % 4294967296)) % 4294967296) x11_1 x12_1 x13_1 (wrap64 (x15_1 + 1)))) = some r := H
               have A25 := Aside0.mk A250
               clear A250; replace H := Option.bind_eq_some_iff.mp H
               obtain ⟨t295, A260, H⟩ := H
               replace H : (mosaicref01_Mix.l0 k1 l0 t263 t266 ((((((((((x14_1 + (Go.bits .xor .u32 (Go.bits .xor .u32 t288 t289) t290)) % 4294967296) + (Go.bits .xor .u32 (Go.bits .and .u32 x11_1 x12_1) (Go.bits .and .u32 (Go.bits .xor .u32 4294967295 x11_1) x13_1))) % 4294967296) + (rd t266 x15_1)) % 4294967296) + (rd t263 x15_1)) % 4294967296) + (((Go.bits .xor .u32 (Go.bits .xor .u32 t293 t294) t295) + (Go.bits .xor .u32 (Go.bits .xor .u32 (Go.bits .and .u32 x7_1 x8_1) (Go.bits .and .u32 x7_1 x9_1)) (Go.bits .and .u32 x8_1 x9_1))) % 4294967296)) % 4294967296) x7_1 x8_1 x9_1 ((x10_1 + ((((((((x14_1 + (Go.bits .xor .u32 (Go.bits .xor .u32 t288 t289) t290)) % 4294967296) + (Go.bits .xor .u32 (Go.bits .and .u32 x11_1 x12_1) (Go.bits .and .u32 (Go.bits .xor .u32 4294967295 x11_1) x13_1))) % 4294967296) + (rd t266 x15_1)) % 4294967296) + (rd t263 x15_1)) % 4294967296)) % 4294967296) x11_1 x12_1 x13_1 (wrap64 (x15_1 + 1))) = some r := H
               have A26 := Aside0.mk A260
               clear A260; have H' := Aside0.mk H
               clear H; try go_wp2
               replace HO_5 := Aside0.mk (Kd.R_drew HO_5.out)
               replace HO_6 := Aside0.mk (Kd.R_drew HO_6.out)
               replace HB := Aside0.mk (below_drew1 HB.out); obtain ⟨Ao28, co28, eo28⟩ := Kd.R_slice HO_6.out
               (first | subst eo28 | (injection eo28 with f1_ f2_ f3_; have f4_ := f1_.symm; have f5_ := f3_.symm; clear f1_ f2_ f3_; subst f4_; subst f5_))
               have p291 : 0 ≤ (x15_1 : Int) := of_decide_eq_true zA
               have q291 : x15_1 < (t266.length : Int) := of_decide_eq_true zA
               obtain ⟨ad291, e291, hx291_0⟩ := Kd.at_int (Kd.R_reads' HO_6.out).2.2 x15_1 p291 q291
               cases e291
               replace p291 := eq_true p291
               replace q291 := eq_true q291
               obtain ⟨Ao29, co29, eo29⟩ := Kd.R_slice HO_5.out
               (first | subst eo29 | (injection eo29 with f1_ f2_ f3_; have f4_ := f1_.symm; have f5_ := f3_.symm; clear f1_ f2_ f3_; subst f4_; subst f5_))
               have p292 : 0 ≤ (x15_1 : Int) := of_decide_eq_true zA
               have q292 : x15_1 < (t263.length : Int) := of_decide_eq_true zA
               obtain ⟨ad292, e292, hx292_0⟩ := Kd.at_int (Kd.R_reads' HO_5.out).2.2 x15_1 p292 q292
               cases e292
               replace p292 := eq_true p292
               replace q292 := eq_true q292
               refine start_ (n := 30) (S := fun w' => w'.cell? (ad291.add (x15_1).toNat) = some (.int .u32 (rd t266 x15_1)) ∧ w'.cell? (ad292.add (x15_1).toNat) = some (.int .u32 (rd t263 x15_1))) (ds := []) (mkB124 30 0) (by kernel_rfl) rfl rfl ⟨hx291_0, hx292_0⟩ (fun hHeld => ?_); refine with_tabW mosaicref01_Mix.tab8 mosaicref01_Mix.bits8 (fun HT_ HW_ => ?_)
               generalize wr.drew = w27 at HO_5 HO_6 HB hx291_0 hx292_0 hHeld ⊢
               refine pX 0 (some 49) (mkB124 30 1) ?_
               refine pX 1 (some 50) (mkB124 30 3) ?_
               refine pX 3 (some 52) (mkB124 30 11) ?_
               refine pX 6 (some 55) (mkB124 30 75) ?_
               refine pX 10 (some 59) (mkB124 30 1099) ?_
               refine pX 11 (some 60) (mkB124 30 3147) ?_
               refine pX 12 (some 61) (mkB124 30 7243) ?_
               refine pX 13 (some 62) (mkB124 30 15435) ?_
               refine pX 14 (some 63) (mkB124 30 31819) ?_
               refine pX 15 (some 64) (mkB124 30 64587) ?_
               refine pX 16 (some 65) (mkB124 30 130123) ?_
               refine pX 17 (some 66) (mkB124 30 261195) ?_
               refine pX 19 (some 68) (mkB124 30 785483) ?_
               refine pX 20 (some 69) (mkB124 30 1834059) ?_
               refine pX 21 (some 70) (mkB124 30 3931211) ?_
               refine pX 24 (some 73) (mkB124 30 20708427) ?_
               refine pX 25 (some 74) (mkB124 30 54262859) ?_
               refine pX 26 (some 75) (mkB124 30 121371723) ?_
               refine tT (v := ?_) (a' := ?_) HT_ HW_ hHeld 22 (some 71) (mkB124 30 125566027) ?_ ?_ ?_; rotate_left 2; (rintro w' ⟨s0, s1⟩; go_simp; with_reducible rfl); (simp only [Act.put, qA, qB, qC, i64_w, i32_w]; rfl)
               refine tT (v := ?_) (a' := ?_) HT_ HW_ hHeld 27 (some 76) (mkB124 30 259783755) ?_ ?_ ?_; rotate_left 2; (rintro w' ⟨s0, s1⟩; go_simp; with_reducible rfl); (simp only [Act.put, qA, qB, qC, i64_w, i32_w]; rfl)
               refine one_ (i := 2) (N := some 51) (mkB124 30 259783759) rfl rfl (one_of HT_.out (by kernel_rfl)) (by decide) (fun K hK => ?_)
               refine goes_ Tryz.func130 (by kernel_rfl) rfl #[.int .u32 x11_1, .int .u64 6] (by rfl) rfl rfl zM ?_
               with_reducible refine (mosaicref01_rotr.calls x11_1 6 t288 _ A18.out).mono ?_
               rintro e w' ⟨rfl, ⟨nd, rfl⟩⟩
               refine ⟨_, rfl, ?_⟩; refine hK.out _ _ ⟨hHeld.1, hHeld.2⟩ (fun hHeld => ?_)
               clear hK K; refine norm_ (a' := ?_) ?_ ?_
               rotate_left
               ·
                show Act.put _ (some 51) _ = _
                simp only [Act.put, List.setIfInBounds_toArray, List.set_cons_zero, List.set_cons_succ, i64_w, i32_w]; rfl
               refine one_ (i := 4) (N := some 53) (mkB124 30 259783775) rfl rfl (one_of HT_.out (by kernel_rfl)) (by decide) (fun K hK => ?_)
               refine goes_ Tryz.func130 (by kernel_rfl) rfl #[.int .u32 x11_1, .int .u64 11] (by rfl) rfl rfl zM ?_
               with_reducible refine (mosaicref01_rotr.calls x11_1 11 t289 _ A19.out).mono ?_
               rintro e w' ⟨rfl, ⟨nd, rfl⟩⟩
               refine ⟨_, rfl, ?_⟩; refine hK.out _ _ ⟨hHeld.1, hHeld.2⟩ (fun hHeld => ?_)
               clear hK K; refine norm_ (a' := ?_) ?_ ?_
               rotate_left
               ·
                show Act.put _ (some 53) _ = _
                simp only [Act.put, List.setIfInBounds_toArray, List.set_cons_zero, List.set_cons_succ, i64_w, i32_w]; rfl
               refine pX 5 (some 54) (mkB124 30 259783807) ?_
               refine one_ (i := 7) (N := some 56) (mkB124 30 259783935) rfl rfl (one_of HT_.out (by kernel_rfl)) (by decide) (fun K hK => ?_)
               refine goes_ Tryz.func130 (by kernel_rfl) rfl #[.int .u32 x11_1, .int .u64 25] (by rfl) rfl rfl zM ?_
               with_reducible refine (mosaicref01_rotr.calls x11_1 25 t290 _ A20.out).mono ?_
               rintro e w' ⟨rfl, ⟨nd, rfl⟩⟩
               refine ⟨_, rfl, ?_⟩; refine hK.out _ _ ⟨hHeld.1, hHeld.2⟩ (fun hHeld => ?_)
               clear hK K; refine norm_ (a' := ?_) ?_ ?_
               rotate_left
               ·
                show Act.put _ (some 56) _ = _
                simp only [Act.put, List.setIfInBounds_toArray, List.set_cons_zero, List.set_cons_succ, i64_w, i32_w]; rfl
               refine pX 8 (some 57) (mkB124 30 259784191) ?_
               refine pX 9 (some 58) (mkB124 30 259784703) ?_
               refine pX 18 (some 67) (mkB124 30 260046847) ?_
               refine pX 23 (some 72) (mkB124 30 268435455) ?_
               refine pX 28 (some 77) (mkB124 30 536870911) ?_
               refine pX 29 (some 16) (mkB124 30 1073741823) ?_
               refine done_ (done_of HT_.out (by kernel_rfl)) ?_
               try go_wp2_with (first | ((with_reducible refine gate_callee (f := 130) rfl ?_); refine goesL_ (some 79) rfl rfl Tryz.func130 (by kernel_rfl) rfl #[.int .u32 x7_1, .int .u64 2] rfl zM ?_; (with_reducible refine (mosaicref01_rotr.calls x7_1 2 t293 _ A24.out).mono ?_); rintro e w' ⟨rfl, ⟨nd, rfl⟩⟩; refine ⟨_, rfl, ?_⟩) | ((with_reducible refine gate_callee (f := 130) rfl ?_); refine goesL_ (some 81) rfl rfl Tryz.func130 (by kernel_rfl) rfl #[.int .u32 x7_1, .int .u64 13] rfl zM ?_; (with_reducible refine (mosaicref01_rotr.calls x7_1 13 t294 _ A25.out).mono ?_); rintro e w' ⟨rfl, ⟨nd, rfl⟩⟩; refine ⟨_, rfl, ?_⟩) | ((with_reducible refine gate_callee (f := 130) rfl ?_); refine goesL_ (some 84) rfl rfl Tryz.func130 (by kernel_rfl) rfl #[.int .u32 x7_1, .int .u64 22] rfl zM ?_; (with_reducible refine (mosaicref01_rotr.calls x7_1 22 t295 _ A26.out).mono ?_); rintro e w' ⟨rfl, ⟨nd, rfl⟩⟩; refine ⟨_, rfl, ?_⟩))
               go_roundg k1
               case measure => have := HK1.out; omega
               case rel => exact ⟨((((((((((x14_1 + (Go.bits .xor .u32 (Go.bits .xor .u32 t288 t289) t290)) % 4294967296) + (Go.bits .xor .u32 (Go.bits .and .u32 x11_1 x12_1) (Go.bits .and .u32 (Go.bits .xor .u32 4294967295 x11_1) x13_1))) % 4294967296) + (rd t266 x15_1)) % 4294967296) + (rd t263 x15_1)) % 4294967296) + (((Go.bits .xor .u32 (Go.bits .xor .u32 t293 t294) t295) + (Go.bits .xor .u32 (Go.bits .xor .u32 (Go.bits .and .u32 x7_1 x8_1) (Go.bits .and .u32 x7_1 x9_1)) (Go.bits .and .u32 x8_1 x9_1))) % 4294967296)) % 4294967296), (x7_1), (x8_1), (x9_1), ((x10_1 + ((((((((x14_1 + (Go.bits .xor .u32 (Go.bits .xor .u32 t288 t289) t290)) % 4294967296) + (Go.bits .xor .u32 (Go.bits .and .u32 x11_1 x12_1) (Go.bits .and .u32 (Go.bits .xor .u32 4294967295 x11_1) x13_1))) % 4294967296) + (rd t266 x15_1)) % 4294967296) + (rd t263 x15_1)) % 4294967296)) % 4294967296), (x11_1), (x12_1), (x13_1), (wrap64 (x15_1 + 1)), zF, zF, zF, zF, zF, zF, zF, zF, zF, H', ⟨by have := HK1.out; omega⟩, ⟨zR HO_5⟩, ⟨zR HO_6⟩, ⟨zB⟩⟩
              ·
               rw [if_neg c23] at H
               exact absurd H (by simp)
             ·
              rw [if_neg c22] at H
              exact absurd H (by simp)
            ·
             rw [if_neg c21] at H
             exact absurd H (by simp)
           ·
            rw [if_neg c17] at H
            have c17b0 : decide (x15_1 < 64) = false := decide_eq_false c17
            clear c17; by_cases c30 : 0 < (l0.length : Int)
            ·
             rw [if_pos c30] at H
             have c30b0 : decide (0 < (l0.length : Int)) = true := decide_eq_true c30
             have c30b1 : decide (0 < l0.length) = true := decide_eq_true (by omega)
             have c30b2 : (0 < l0.length) := by omega
             clear c30; by_cases c31 : 1 < (l0.length : Int)
             ·
              rw [if_pos c31] at H
              have c31b0 : decide (1 < (l0.length : Int)) = true := decide_eq_true c31
              have c31b1 : decide (1 < l0.length) = true := decide_eq_true (by omega)
              clear c31; by_cases c32 : 2 < (l0.length : Int)
              ·
               rw [if_pos c32] at H
               have c32b0 : decide (2 < (l0.length : Int)) = true := decide_eq_true c32
               have c32b1 : decide (2 < l0.length) = true := decide_eq_true (by omega)
               clear c32; by_cases c33 : 3 < (l0.length : Int)
               ·
                rw [if_pos c33] at H
                have c33b0 : decide (3 < (l0.length : Int)) = true := decide_eq_true c33
                have c33b1 : decide (3 < l0.length) = true := decide_eq_true (by omega)
                clear c33; by_cases c34 : 4 < (l0.length : Int)
                ·
                 rw [if_pos c34] at H
                 have c34b0 : decide (4 < (l0.length : Int)) = true := decide_eq_true c34
                 have c34b1 : decide (4 < l0.length) = true := decide_eq_true (by omega)
                 clear c34; by_cases c35 : 5 < (l0.length : Int)
                 ·
                  rw [if_pos c35] at H
                  have c35b0 : decide (5 < (l0.length : Int)) = true := decide_eq_true c35
                  have c35b1 : decide (5 < l0.length) = true := decide_eq_true (by omega)
                  clear c35; by_cases c36 : 6 < (l0.length : Int)
                  ·
                   rw [if_pos c36] at H
                   have c36b0 : decide (6 < (l0.length : Int)) = true := decide_eq_true c36
                   have c36b1 : decide (6 < l0.length) = true := decide_eq_true (by omega)
                   clear c36; by_cases c37 : 7 < (l0.length : Int)
                   ·
                    rw [if_pos c37] at H
                    have c37b0 : decide (7 < (l0.length : Int)) = true := decide_eq_true c37
                    have c37b1 : decide (7 < l0.length) = true := decide_eq_true (by omega)
                    clear c37; obtain ⟨y285, hy285⟩ : ∃ y_ : List Int, y_ = (([((rd l0 0) + x7_1) % 4294967296, ((rd l0 1) + x8_1) % 4294967296, ((rd l0 2) + x9_1) % 4294967296, ((rd l0 3) + x10_1) % 4294967296, ((rd l0 4) + x11_1) % 4294967296, ((rd l0 5) + x12_1) % 4294967296, ((rd l0 6) + x13_1) % 4294967296, ((rd l0 7) + x14_1) % 4294967296] : List Int)) := ⟨_, rfl⟩
                    replace H : (some y285) = some r := by first | (rw [hy285]; with_reducible exact H) | (have H2_ := (Option.bind_some _ _).symm.trans H; rw [hy285]; with_reducible exact H2_) | (have H2_ := (Option.bind_some _ _).symm.trans H; with_reducible exact H2_) | with_reducible exact H | (rw [hy285]; exact H) | exact H
                    have Ny285 := Aside0.mk hy285
                    clear hy285; obtain rfl := Option.some.inj H
                    try go_wp2
                    replace HO_5 := Aside0.mk (Kd.R_drew HO_5.out)
                    replace HO_6 := Aside0.mk (Kd.R_drew HO_6.out)
                    replace HB := Aside0.mk (below_drew1 HB.out); have p277 : 0 ≤ (0 : Int) := (by omega)
                    have q277 : 0 < (l0.length : Int) := of_decide_eq_true zA
                    obtain ⟨ad277, e277, hx277_0⟩ := Kd.at_int HR0.out 0 p277 q277
                    have hw277_0 := hx277_0; (try rw [show ((0 : Int)).toNat = 0 from rfl] at hw277_0)
                    (try rw [show 0 * 1 = 0 from rfl] at hw277_0)
                    (try rw [Addr.add_zero'] at hw277_0)
                    obtain rfl : ad269 = ad277 := (by injection e277)
                    have qi277 : (0 < l0.length) = True := eq_true (by omega)
                    (try rw [show ((0 : Int)).toNat = 0 from rfl] at hx277_0)
                    (try rw [Addr.add_zero'] at hx277_0)
                    (try replace hx277_0 := (HB.out.cell (World.block_lt_of_cell? w _ hx277_0)).trans hx277_0)
                    replace p277 := eq_true p277
                    replace q277 := eq_true q277
                    have p278 : 0 ≤ (1 : Int) := (by omega)
                    have q278 : 1 < (l0.length : Int) := of_decide_eq_true zA
                    obtain ⟨ad278, e278, hx278_0⟩ := Kd.at_int HR0.out 1 p278 q278
                    have hw278_0 := hx278_0; (try rw [show ((1 : Int)).toNat = 1 from rfl] at hw278_0)
                    (try rw [show 1 * 1 = 1 from rfl] at hw278_0)
                    (try simp only [Nat.reduceMul, Nat.reduceEqDiff, Go.Addr.add, ↓reduceIte] at hw278_0)
                    obtain rfl : ad269 = ad278 := (by injection e278)
                    (try simp only [show (1 : Int).toNat = 1 from rfl, Nat.reduceMul, Nat.reduceEqDiff, Go.Addr.add, ↓reduceIte] at hx278_0)
                    have qi278 : (1 < l0.length) = True := eq_true (by omega)
                    (try rw [show ((1 : Int)).toNat = 1 from rfl] at hx278_0)
                    (try replace hx278_0 := (HB.out.cell (World.block_lt_of_cell? w _ hx278_0)).trans hx278_0)
                    replace p278 := eq_true p278
                    replace q278 := eq_true q278
                    have p279 : 0 ≤ (2 : Int) := (by omega)
                    have q279 : 2 < (l0.length : Int) := of_decide_eq_true zA
                    obtain ⟨ad279, e279, hx279_0⟩ := Kd.at_int HR0.out 2 p279 q279
                    have hw279_0 := hx279_0; (try rw [show ((2 : Int)).toNat = 2 from rfl] at hw279_0)
                    (try rw [show 2 * 1 = 2 from rfl] at hw279_0)
                    (try simp only [Nat.reduceMul, Nat.reduceEqDiff, Go.Addr.add, ↓reduceIte] at hw279_0)
                    obtain rfl : ad269 = ad279 := (by injection e279)
                    (try simp only [show (2 : Int).toNat = 2 from rfl, Nat.reduceMul, Nat.reduceEqDiff, Go.Addr.add, ↓reduceIte] at hx279_0)
                    have qi279 : (2 < l0.length) = True := eq_true (by omega)
                    (try rw [show ((2 : Int)).toNat = 2 from rfl] at hx279_0)
                    (try replace hx279_0 := (HB.out.cell (World.block_lt_of_cell? w _ hx279_0)).trans hx279_0)
                    replace p279 := eq_true p279
                    replace q279 := eq_true q279
                    have p280 : 0 ≤ (3 : Int) := (by omega)
                    have q280 : 3 < (l0.length : Int) := of_decide_eq_true zA
                    obtain ⟨ad280, e280, hx280_0⟩ := Kd.at_int HR0.out 3 p280 q280
                    have hw280_0 := hx280_0; (try rw [show ((3 : Int)).toNat = 3 from rfl] at hw280_0)
                    (try rw [show 3 * 1 = 3 from rfl] at hw280_0)
                    (try simp only [Nat.reduceMul, Nat.reduceEqDiff, Go.Addr.add, ↓reduceIte] at hw280_0)
                    obtain rfl : ad269 = ad280 := (by injection e280)
                    (try simp only [show (3 : Int).toNat = 3 from rfl, Nat.reduceMul, Nat.reduceEqDiff, Go.Addr.add, ↓reduceIte] at hx280_0)
                    have qi280 : (3 < l0.length) = True := eq_true (by omega)
                    (try rw [show ((3 : Int)).toNat = 3 from rfl] at hx280_0)
                    (try replace hx280_0 := (HB.out.cell (World.block_lt_of_cell? w _ hx280_0)).trans hx280_0)
                    replace p280 := eq_true p280
                    replace q280 := eq_true q280
                    have p281 : 0 ≤ (4 : Int) := (by omega)
                    have q281 : 4 < (l0.length : Int) := of_decide_eq_true zA
                    obtain ⟨ad281, e281, hx281_0⟩ := Kd.at_int HR0.out 4 p281 q281
                    have hw281_0 := hx281_0; (try rw [show ((4 : Int)).toNat = 4 from rfl] at hw281_0)
                    (try rw [show 4 * 1 = 4 from rfl] at hw281_0)
                    (try simp only [Nat.reduceMul, Nat.reduceEqDiff, Go.Addr.add, ↓reduceIte] at hw281_0)
                    obtain rfl : ad269 = ad281 := (by injection e281)
                    (try simp only [show (4 : Int).toNat = 4 from rfl, Nat.reduceMul, Nat.reduceEqDiff, Go.Addr.add, ↓reduceIte] at hx281_0)
                    have qi281 : (4 < l0.length) = True := eq_true (by omega)
                    (try rw [show ((4 : Int)).toNat = 4 from rfl] at hx281_0)
                    (try replace hx281_0 := (HB.out.cell (World.block_lt_of_cell? w _ hx281_0)).trans hx281_0)
                    replace p281 := eq_true p281
                    replace q281 := eq_true q281
                    have p282 : 0 ≤ (5 : Int) := (by omega)
                    have q282 : 5 < (l0.length : Int) := of_decide_eq_true zA
                    obtain ⟨ad282, e282, hx282_0⟩ := Kd.at_int HR0.out 5 p282 q282
                    have hw282_0 := hx282_0; (try rw [show ((5 : Int)).toNat = 5 from rfl] at hw282_0)
                    (try rw [show 5 * 1 = 5 from rfl] at hw282_0)
                    (try simp only [Nat.reduceMul, Nat.reduceEqDiff, Go.Addr.add, ↓reduceIte] at hw282_0)
                    obtain rfl : ad269 = ad282 := (by injection e282)
                    (try simp only [show (5 : Int).toNat = 5 from rfl, Nat.reduceMul, Nat.reduceEqDiff, Go.Addr.add, ↓reduceIte] at hx282_0)
                    have qi282 : (5 < l0.length) = True := eq_true (by omega)
                    (try rw [show ((5 : Int)).toNat = 5 from rfl] at hx282_0)
                    (try replace hx282_0 := (HB.out.cell (World.block_lt_of_cell? w _ hx282_0)).trans hx282_0)
                    replace p282 := eq_true p282
                    replace q282 := eq_true q282
                    have p283 : 0 ≤ (6 : Int) := (by omega)
                    have q283 : 6 < (l0.length : Int) := of_decide_eq_true zA
                    obtain ⟨ad283, e283, hx283_0⟩ := Kd.at_int HR0.out 6 p283 q283
                    have hw283_0 := hx283_0; (try rw [show ((6 : Int)).toNat = 6 from rfl] at hw283_0)
                    (try rw [show 6 * 1 = 6 from rfl] at hw283_0)
                    (try simp only [Nat.reduceMul, Nat.reduceEqDiff, Go.Addr.add, ↓reduceIte] at hw283_0)
                    obtain rfl : ad269 = ad283 := (by injection e283)
                    (try simp only [show (6 : Int).toNat = 6 from rfl, Nat.reduceMul, Nat.reduceEqDiff, Go.Addr.add, ↓reduceIte] at hx283_0)
                    have qi283 : (6 < l0.length) = True := eq_true (by omega)
                    (try rw [show ((6 : Int)).toNat = 6 from rfl] at hx283_0)
                    (try replace hx283_0 := (HB.out.cell (World.block_lt_of_cell? w _ hx283_0)).trans hx283_0)
                    replace p283 := eq_true p283
                    replace q283 := eq_true q283
                    have p284 : 0 ≤ (7 : Int) := (by omega)
                    have q284 : 7 < (l0.length : Int) := of_decide_eq_true zA
                    obtain ⟨ad284, e284, hx284_0⟩ := Kd.at_int HR0.out 7 p284 q284
                    have hw284_0 := hx284_0; (try rw [show ((7 : Int)).toNat = 7 from rfl] at hw284_0)
                    (try rw [show 7 * 1 = 7 from rfl] at hw284_0)
                    (try simp only [Nat.reduceMul, Nat.reduceEqDiff, Go.Addr.add, ↓reduceIte] at hw284_0)
                    obtain rfl : ad269 = ad284 := (by injection e284)
                    (try simp only [show (7 : Int).toNat = 7 from rfl, Nat.reduceMul, Nat.reduceEqDiff, Go.Addr.add, ↓reduceIte] at hx284_0)
                    have qi284 : (7 < l0.length) = True := eq_true (by omega)
                    (try rw [show ((7 : Int)).toNat = 7 from rfl] at hx284_0)
                    (try replace hx284_0 := (HB.out.cell (World.block_lt_of_cell? w _ hx284_0)).trans hx284_0)
                    replace p284 := eq_true p284
                    replace q284 := eq_true q284
                    refine start_ (n := 42) (S := fun w' => w'.cell? ad269 = some (.int .u32 (rd l0 0)) ∧ w'.cell? ⟨ad269.block, ad269.off + 1, none⟩ = some (.int .u32 (rd l0 1)) ∧ w'.cell? ⟨ad269.block, ad269.off + 2, none⟩ = some (.int .u32 (rd l0 2)) ∧ w'.cell? ⟨ad269.block, ad269.off + 3, none⟩ = some (.int .u32 (rd l0 3)) ∧ w'.cell? ⟨ad269.block, ad269.off + 4, none⟩ = some (.int .u32 (rd l0 4)) ∧ w'.cell? ⟨ad269.block, ad269.off + 5, none⟩ = some (.int .u32 (rd l0 5)) ∧ w'.cell? ⟨ad269.block, ad269.off + 6, none⟩ = some (.int .u32 (rd l0 6)) ∧ w'.cell? ⟨ad269.block, ad269.off + 7, none⟩ = some (.int .u32 (rd l0 7))) (ds := []) (mkB124 42 0) (by kernel_rfl) rfl rfl ⟨(by first | exact (HB.out.cell (World.block_lt_of_cell? w _ hw277_0)).trans hw277_0 | exact hw277_0), (by first | exact (HB.out.cell (World.block_lt_of_cell? w _ hw278_0)).trans hw278_0 | exact hw278_0), (by first | exact (HB.out.cell (World.block_lt_of_cell? w _ hw279_0)).trans hw279_0 | exact hw279_0), (by first | exact (HB.out.cell (World.block_lt_of_cell? w _ hw280_0)).trans hw280_0 | exact hw280_0), (by first | exact (HB.out.cell (World.block_lt_of_cell? w _ hw281_0)).trans hw281_0 | exact hw281_0), (by first | exact (HB.out.cell (World.block_lt_of_cell? w _ hw282_0)).trans hw282_0 | exact hw282_0), (by first | exact (HB.out.cell (World.block_lt_of_cell? w _ hw283_0)).trans hw283_0 | exact hw283_0), (by first | exact (HB.out.cell (World.block_lt_of_cell? w _ hw284_0)).trans hw284_0 | exact hw284_0)⟩ (fun hHeld => ?_); refine with_tabW mosaicref01_Mix.tab18 mosaicref01_Mix.bits18 (fun HT_ HW_ => ?_)
                    generalize wr.drew = w38 at HO_5 HO_6 HB hx277_0 hx278_0 hx279_0 hx280_0 hx281_0 hx282_0 hx283_0 hx284_0 hHeld ⊢
                    refine pX 0 (some 110) (mkB124 42 1) ?_
                    refine pX 1 (some 111) (mkB124 42 3) ?_
                    refine pX 3 (some 113) (mkB124 42 11) ?_
                    refine pX 5 (some 115) (mkB124 42 43) ?_
                    refine pX 6 (some 116) (mkB124 42 107) ?_
                    refine pX 8 (some 118) (mkB124 42 363) ?_
                    refine pX 10 (some 120) (mkB124 42 1387) ?_
                    refine pX 11 (some 121) (mkB124 42 3435) ?_
                    refine pX 13 (some 123) (mkB124 42 11627) ?_
                    refine pX 15 (some 125) (mkB124 42 44395) ?_
                    refine pX 16 (some 126) (mkB124 42 109931) ?_
                    refine pX 18 (some 128) (mkB124 42 372075) ?_
                    refine pX 20 (some 130) (mkB124 42 1420651) ?_
                    refine pX 21 (some 131) (mkB124 42 3517803) ?_
                    refine pX 23 (some 133) (mkB124 42 11906411) ?_
                    refine pX 25 (some 135) (mkB124 42 45460843) ?_
                    refine pX 26 (some 136) (mkB124 42 112569707) ?_
                    refine pX 28 (some 138) (mkB124 42 381005163) ?_
                    refine pX 30 (some 140) (mkB124 42 1454746987) ?_
                    refine pX 31 (some 141) (mkB124 42 3602230635) ?_
                    refine pX 33 (some 143) (mkB124 42 12192165227) ?_
                    refine pX 35 (some 145) (mkB124 42 46551903595) ?_
                    refine pX 36 (some 146) (mkB124 42 115271380331) ?_
                    refine pX 38 (some 148) (mkB124 42 390149287275) ?_
                    refine tT (v := ?_) (a' := ?_) HT_ HW_ hHeld 2 (some 112) (mkB124 42 390149287279) ?_ ?_ ?_; rotate_left 2; (rintro w' ⟨s0, s1, s2, s3, s4, s5, s6, s7⟩; go_simp; with_reducible rfl); (simp only [Act.put, qA, qB, qC, i64_w, i32_w]; rfl)
                    refine pX 4 (some 114) (mkB124 42 390149287295) ?_
                    refine tT (v := ?_) (a' := ?_) HT_ HW_ hHeld 7 (some 117) (mkB124 42 390149287423) ?_ ?_ ?_; rotate_left 2; (rintro w' ⟨s0, s1, s2, s3, s4, s5, s6, s7⟩; go_simp; with_reducible rfl); (simp only [Act.put, qA, qB, qC, i64_w, i32_w]; rfl)
                    refine pX 9 (some 119) (mkB124 42 390149287935) ?_
                    refine tT (v := ?_) (a' := ?_) HT_ HW_ hHeld 12 (some 122) (mkB124 42 390149292031) ?_ ?_ ?_; rotate_left 2; (rintro w' ⟨s0, s1, s2, s3, s4, s5, s6, s7⟩; go_simp; with_reducible rfl); (simp only [Act.put, qA, qB, qC, i64_w, i32_w]; rfl)
                    refine pX 14 (some 124) (mkB124 42 390149308415) ?_
                    refine tT (v := ?_) (a' := ?_) HT_ HW_ hHeld 17 (some 127) (mkB124 42 390149439487) ?_ ?_ ?_; rotate_left 2; (rintro w' ⟨s0, s1, s2, s3, s4, s5, s6, s7⟩; go_simp; with_reducible rfl); (simp only [Act.put, qA, qB, qC, i64_w, i32_w]; rfl)
                    refine pX 19 (some 129) (mkB124 42 390149963775) ?_
                    refine tT (v := ?_) (a' := ?_) HT_ HW_ hHeld 22 (some 132) (mkB124 42 390154158079) ?_ ?_ ?_; rotate_left 2; (rintro w' ⟨s0, s1, s2, s3, s4, s5, s6, s7⟩; go_simp; with_reducible rfl); (simp only [Act.put, qA, qB, qC, i64_w, i32_w]; rfl)
                    refine pX 24 (some 134) (mkB124 42 390170935295) ?_
                    refine tT (v := ?_) (a' := ?_) HT_ HW_ hHeld 27 (some 137) (mkB124 42 390305153023) ?_ ?_ ?_; rotate_left 2; (rintro w' ⟨s0, s1, s2, s3, s4, s5, s6, s7⟩; go_simp; with_reducible rfl); (simp only [Act.put, qA, qB, qC, i64_w, i32_w]; rfl)
                    refine pX 29 (some 139) (mkB124 42 390842023935) ?_
                    refine tT (v := ?_) (a' := ?_) HT_ HW_ hHeld 32 (some 142) (mkB124 42 395136991231) ?_ ?_ ?_; rotate_left 2; (rintro w' ⟨s0, s1, s2, s3, s4, s5, s6, s7⟩; go_simp; with_reducible rfl); (simp only [Act.put, qA, qB, qC, i64_w, i32_w]; rfl)
                    refine pX 34 (some 144) (mkB124 42 412316860415) ?_
                    refine tT (v := ?_) (a' := ?_) HT_ HW_ hHeld 37 (some 147) (mkB124 42 549755813887) ?_ ?_ ?_; rotate_left 2; (rintro w' ⟨s0, s1, s2, s3, s4, s5, s6, s7⟩; go_simp; with_reducible rfl); (simp only [Act.put, qA, qB, qC, i64_w, i32_w]; rfl)
                    refine pX 39 (some 149) (mkB124 42 1099511627775) ?_
                    refine one_ (i := 40) (N := some 150) (mkB124 42 2199023255551) rfl rfl (one_of HT_.out (by kernel_rfl)) (by decide) (fun K hK => ?_)
                    refine Kd.R_lit_step (Kd.int .u32) _ 104 ?hg (N := 150) ?hd (xs := ([((rd l0 0) + x7_1) % 4294967296, ((rd l0 1) + x8_1) % 4294967296, ((rd l0 2) + x9_1) % 4294967296, ((rd l0 3) + x10_1) % 4294967296, ((rd l0 4) + x11_1) % 4294967296, ((rd l0 5) + x12_1) % 4294967296, ((rd l0 6) + x13_1) % 4294967296, ((rd l0 7) + x14_1) % 4294967296] : List Int)) (inner := [.int .u32 (((rd l0 0) + x7_1) % 4294967296), .int .u32 (((rd l0 1) + x8_1) % 4294967296), .int .u32 (((rd l0 2) + x9_1) % 4294967296), .int .u32 (((rd l0 3) + x10_1) % 4294967296), .int .u32 (((rd l0 4) + x11_1) % 4294967296), .int .u32 (((rd l0 5) + x12_1) % 4294967296), .int .u32 (((rd l0 6) + x13_1) % 4294967296), .int .u32 (((rd l0 7) + x14_1) % 4294967296)]) (ok := fun _ => True) (okp := fun _ => True) ?hr ?hp (fun _ hk => hk) trivial (Below.refl _ _) (Nat.le_refl _) (by simp) ?_; (case hd => rfl); (case hg => rfl); (case hr => first | (go_simp; done) | (go_simp; rfl)); (case hp => exact (Reps.one (show Kd.M (Kd.int .u32) _ _ _ (((rd l0 0) + x7_1) % 4294967296) [.int .u32 (((rd l0 0) + x7_1) % 4294967296)] from rfl) (Reps.one (show Kd.M (Kd.int .u32) _ _ _ (((rd l0 1) + x8_1) % 4294967296) [.int .u32 (((rd l0 1) + x8_1) % 4294967296)] from rfl) (Reps.one (show Kd.M (Kd.int .u32) _ _ _ (((rd l0 2) + x9_1) % 4294967296) [.int .u32 (((rd l0 2) + x9_1) % 4294967296)] from rfl) (Reps.one (show Kd.M (Kd.int .u32) _ _ _ (((rd l0 3) + x10_1) % 4294967296) [.int .u32 (((rd l0 3) + x10_1) % 4294967296)] from rfl) (Reps.one (show Kd.M (Kd.int .u32) _ _ _ (((rd l0 4) + x11_1) % 4294967296) [.int .u32 (((rd l0 4) + x11_1) % 4294967296)] from rfl) (Reps.one (show Kd.M (Kd.int .u32) _ _ _ (((rd l0 5) + x12_1) % 4294967296) [.int .u32 (((rd l0 5) + x12_1) % 4294967296)] from rfl) (Reps.one (show Kd.M (Kd.int .u32) _ _ _ (((rd l0 6) + x13_1) % 4294967296) [.int .u32 (((rd l0 6) + x13_1) % 4294967296)] from rfl) (Reps.one (show Kd.M (Kd.int .u32) _ _ _ (((rd l0 7) + x14_1) % 4294967296) [.int .u32 (((rd l0 7) + x14_1) % 4294967296)] from rfl) (Reps.none _ _))))))))))
                    intro v286 w39 ho40 hb hg_ hnew_
                    clear hg_ hnew_; (first | rw [← Ny285.out] at ho40 | (simp only [Int.reduceToNat] at ho40; rw [← Ny285.out] at ho40))
                    have n0_ := Aside0.mk (Kd.R_elder' (by (with_reducible repeat (first | apply Kd.R_alloc | apply Kd.R_drewN | apply Kd.R_drew)); exact HO_5.out) (Kd.R_base ho40) hb)
                    have n1_ := Aside0.mk (Kd.R_elder' (by (with_reducible repeat (first | apply Kd.R_alloc | apply Kd.R_drewN | apply Kd.R_drew)); exact HO_6.out) (Kd.R_base ho40) hb)
                    have n2_ := Aside0.mk (Kd.R_lower (Kd.R_new' (Kd.R_new' ho40 (Kd.R_lt (by (with_reducible repeat (first | apply Kd.R_alloc | apply Kd.R_drewN | apply Kd.R_drew)); exact HO_5.out))) (Kd.R_lt (by (with_reducible repeat (first | apply Kd.R_alloc | apply Kd.R_drewN | apply Kd.R_drew)); exact HO_6.out))) (below_size zB))
                    have n3_ := Aside0.mk (below_step zB hb)
                    clear HO_5 HO_6 HB; have HO_5 := n0_; have HO_6 := n1_; have HO287 := n2_; have HB := n3_; clear n0_ n1_ n2_ n3_ hb ho40; refine hK.out _ _ ⟨(by first | exact (HB.out.cell (World.block_lt_of_cell? w _ hw277_0)).trans hw277_0 | exact hw277_0), (by first | exact (HB.out.cell (World.block_lt_of_cell? w _ hw278_0)).trans hw278_0 | exact hw278_0), (by first | exact (HB.out.cell (World.block_lt_of_cell? w _ hw279_0)).trans hw279_0 | exact hw279_0), (by first | exact (HB.out.cell (World.block_lt_of_cell? w _ hw280_0)).trans hw280_0 | exact hw280_0), (by first | exact (HB.out.cell (World.block_lt_of_cell? w _ hw281_0)).trans hw281_0 | exact hw281_0), (by first | exact (HB.out.cell (World.block_lt_of_cell? w _ hw282_0)).trans hw282_0 | exact hw282_0), (by first | exact (HB.out.cell (World.block_lt_of_cell? w _ hw283_0)).trans hw283_0 | exact hw283_0), (by first | exact (HB.out.cell (World.block_lt_of_cell? w _ hw284_0)).trans hw284_0 | exact hw284_0)⟩ (fun hHeld => ?_)
                    clear hK K; refine norm_ (a' := ?_) ?_ ?_
                    rotate_left
                    ·
                     show Act.put _ (some 150) _ = _
                     simp only [Act.put, List.setIfInBounds_toArray, List.set_cons_zero, List.set_cons_succ, i64_w, i32_w]; rfl
                    refine pX 41 (some 4) (mkB124 42 4398046511103) ?_
                    refine done_ (done_of HT_.out (by kernel_rfl)) ?_
                    try go_wp2
                    go_ret
                    exact ⟨_, zE, by (with_reducible repeat (first | apply Kd.R_alloc | apply Kd.R_drewN | apply Kd.R_drew)); exact Kd.R_mono HO287.out (fun _ hk => trivial), zB⟩
                   ·
                    rw [if_neg c37] at H
                    exact absurd H (by simp)
                  ·
                   rw [if_neg c36] at H
                   exact absurd H (by simp)
                 ·
                  rw [if_neg c35] at H
                  exact absurd H (by simp)
                ·
                 rw [if_neg c34] at H
                 exact absurd H (by simp)
               ·
                rw [if_neg c33] at H
                exact absurd H (by simp)
              ·
               rw [if_neg c32] at H
               exact absurd H (by simp)
             ·
              rw [if_neg c31] at H
              exact absurd H (by simp)
            ·
             rw [if_neg c30] at H
             exact absurd H (by simp)
        ·
         rw [if_neg c12] at H
         exact absurd H (by simp)
       ·
        rw [if_neg c11] at H
        exact absurd H (by simp)
      ·
       rw [if_neg c10] at H
       exact absurd H (by simp)
     ·
      rw [if_neg c9] at H
      exact absurd H (by simp)
    ·
     rw [if_neg c8] at H
     exact absurd H (by simp)
   ·
    rw [if_neg c7] at H
    exact absurd H (by simp)
  ·
   rw [if_neg c6] at H
   exact absurd H (by simp)
 ·
  rw [if_neg c5] at H
  exact absurd H (by simp)
/-! ### mosaicref01_Sum: function 117 -/
mutual
def mosaicref01_Sum.l0 : Nat → ByteArray → List Int → Int → Option (ByteArray)
 | 0, _, _, _ => none
 | k + 1, x3, x4, x5 => if x5 < (x3.size : Int) then (if 0 ≤ x5 then (if x5 ≤ (wrap64 (x5 + 64)) then (if (wrap64 (x5 + 64)) ≤ (x3.size : Int) then ((mosaicref01_Mix.f k x4 (x3.extract (x5 : Int).toNat ((wrap64 (x5 + 64)) : Int).toNat)).bind fun t300 => (mosaicref01_Sum.l0 k x3 t300 (wrap64 (x5 + 64)))) else (none)) else (none)) else (none)) else (mosaicref01_Sum.l1 k x4 ([] : List Int) 0)
def mosaicref01_Sum.l1 : Nat → List Int → List Int → Int → Option (ByteArray)
 | 0, _, _, _ => none
 | k + 1, x4, x6, x7 => if x7 < (x4.length : Int) then (if 0 ≤ x7 then ((some (([((rd x4 x7) / 16777216) % 256, ((rd x4 x7) / 65536) % 256, ((rd x4 x7) / 256) % 256, (rd x4 x7) % 256] : List Int) : List Int)).bind fun y304 => (if x6.length + y304.length < 140737488355328 then (mosaicref01_Sum.l1 k x4 (x6 ++ y304) (wrap64 (x7 + 1))) else (none))) else (none)) else (some (strOfNums x6))
end
def mosaicref01_Sum.f (k : Nat) (a0 : ByteArray) : Option (ByteArray) := if (a0.size : Int) > 65536 then (some (⟨#[]⟩ : ByteArray)) else ((mosaicref01_Pad.f k (a0.size : Int)).bind fun t296 => (if a0.size + t296.size ≤ 9223372036854775807 then ((mosaicref01_Start.f).bind fun t297 => (mosaicref01_Sum.l0 k (a0 ++ t296) t297 0)) else (none)))
theorem mosaicref01_Sum.mono_l : ∀ k, (∀ y0 y1 y2, LeO (mosaicref01_Sum.l0 k y0 y1 y2) (mosaicref01_Sum.l0 (k + 1) y0 y1 y2)) ∧ (∀ y0 y1 y2, LeO (mosaicref01_Sum.l1 k y0 y1 y2) (mosaicref01_Sum.l1 (k + 1) y0 y1 y2))
 | 0 => ⟨fun _ _ _ r h => by simp [mosaicref01_Sum.l0] at h, fun _ _ _ r h => by simp [mosaicref01_Sum.l1] at h⟩
 | k + 1 => by
  obtain ⟨ih0, ih1⟩ := mosaicref01_Sum.mono_l k
  refine ⟨?_, ?_⟩ <;> intros <;> (first | unfold mosaicref01_Sum.l0 | unfold mosaicref01_Sum.l1)
  all_goals repeat' first | (with_reducible first | apply ih0 | apply ih1 | apply mosaicref01_Mix.mono | apply mosaicref01_Pad.mono | exact LeO.refl _ | exact LeO.none _ | refine LeO.ite ?_ ?_ | refine LeO.bind ?_ (fun _ => ?_)) | apply ih0 | apply ih1 | apply mosaicref01_Mix.mono | apply mosaicref01_Pad.mono | exact LeO.none _ | refine LeO.ite ?_ ?_ | refine LeO.bind ?_ (fun _ => ?_)
theorem mosaicref01_Sum.mono : ∀ a0 k, LeO (mosaicref01_Sum.f k a0) (mosaicref01_Sum.f (k + 1) a0) := by
 intro a0 k
 obtain ⟨ih0, ih1⟩ := mosaicref01_Sum.mono_l k
 unfold mosaicref01_Sum.f
 repeat' first | (with_reducible first | apply ih0 | apply ih1 | apply mosaicref01_Mix.mono | apply mosaicref01_Pad.mono | exact LeO.refl _ | exact LeO.none _ | refine LeO.ite ?_ ?_ | refine LeO.bind ?_ (fun _ => ?_)) | apply ih0 | apply ih1 | apply mosaicref01_Mix.mono | apply mosaicref01_Pad.mono | exact LeO.none _ | refine LeO.ite ?_ ?_ | refine LeO.bind ?_ (fun _ => ?_)
set_option maxHeartbeats 8000000 in
set_option maxRecDepth 100000 in
theorem mosaicref01_Sum.calls (k : Nat) (a0 : ByteArray) (r : ByteArray) (w : World) (h : mosaicref01_Sum.f k a0 = some r) :
  Calls Tryz.prog 117 #[.string a0] w fun e w' => e = .returned (.string r) ∧ Below w.heap.size w w' := by
 have HB := Aside0.mk (Below.refl w.heap.size w)
 have H : (if (a0.size : Int) > 65536 then (some (⟨#[]⟩ : ByteArray)) else ((mosaicref01_Pad.f k (a0.size : Int)).bind fun t296 => (if a0.size + t296.size ≤ 9223372036854775807 then ((mosaicref01_Start.f).bind fun t297 => (mosaicref01_Sum.l0 k (a0 ++ t296) t297 0)) else (none)))) = some r := h
 clear h; by_cases c2 : (a0.size : Int) > 65536
 ·
  rw [if_pos c2] at H
  have c2b0 : decide (65536 < (a0.size : Int)) = true := decide_eq_true c2
  have c2b1 : decide (65536 < a0.size) = true := decide_eq_true (by omega)
  clear c2; obtain rfl := Option.some.inj H
  go_enter Tryz.func117, Tryz.ntmps117
  go_wp2
  go_ret
  exact ⟨zE, zB⟩
 ·
  rw [if_neg c2] at H
  have c2b0 : decide (65536 < (a0.size : Int)) = false := decide_eq_false c2
  have c2b1 : decide (65536 < a0.size) = false := decide_eq_false (by omega)
  clear c2; replace H := Option.bind_eq_some_iff.mp H
  obtain ⟨t296, A30, H⟩ := H
  replace H : (if a0.size + t296.size ≤ 9223372036854775807 then ((mosaicref01_Start.f).bind fun t297 => (mosaicref01_Sum.l0 k (a0 ++ t296) t297 0)) else (none)) = some r := H
  have A3 := Aside0.mk A30
  clear A30; by_cases c4 : a0.size + t296.size ≤ 9223372036854775807
  ·
   rw [if_pos c4] at H
   have c4b0 := eq_true c4
   (try (have c4b0s := eq_true c4; simp only [ByteArray.size_append, Int.natCast_add] at c4b0s))
   have c4b1 : decide (a0.size + t296.size ≤ 9223372036854775807) = true := decide_eq_true c4
   try have c4b2 : (9223372036854775807 < a0.size + t296.size) = False := eq_false (Nat.not_lt.2 c4)
   replace H := Option.bind_eq_some_iff.mp H
   obtain ⟨t297, A50, H⟩ := H
   replace H : (mosaicref01_Sum.l0 k (a0 ++ t296) t297 0) = some r := H
   have A5 := Aside0.mk A50
   clear A50; have H' := Aside0.mk H
   clear H; go_enter Tryz.func117, Tryz.ntmps117
   go_wp2_with (first | ((with_reducible refine gate_callee (f := 122) rfl ?_); refine goesL_ (some 15) rfl rfl Tryz.func122 (by kernel_rfl) rfl #[.int .i64 (a0.size : Int)] rfl zM ?_; (with_reducible refine (mosaicref01_Pad.calls k (a0.size : Int) t296 _ A3.out).mono ?_); rintro e w6 ⟨rfl, hb⟩; refine ⟨_, rfl, ?_⟩; replace HB := Aside0.mk (below_step zB hb); (try clear hb); (try clear hb2); (try clear hk); (try clear hi)) | ((with_reducible refine gate_callee (f := 123) rfl ?_); refine goesL_ (some 17) rfl rfl Tryz.func123 (by kernel_rfl) rfl #[] rfl zM ?_; (with_reducible refine (mosaicref01_Start.calls  t297 _ A5.out).mono ?_); rintro e w7 ⟨v298, rfl, ho0, hb⟩; refine ⟨_, rfl, ?_⟩; have HO299 := Aside0.mk (Kd.R_lower ho0 (below_size zB)); replace HB := Aside0.mk (below_step zB hb); (try clear hb); (try clear hb2); (try clear hk); (try clear hi); (try clear ho0)))
   go_loopg [4, 5] k (fun kq v4 v5 w' => ∃ (x4_1 : List Int) (x5_1 : Int), v5 = .int .i64 x5_1 ∧ Aside0 (mosaicref01_Sum.l0 kq (a0 ++ t296) x4_1 x5_1 = some r) ∧ Aside0 (kq ≤ k) ∧ Aside0 (Kd.R (Kd.int .u32) 104 w' w.heap.size (fun _ => True) v4 x4_1) ∧ Aside0 (Below w.heap.size w w'))
   case atStart => exact ⟨(t297), (0), zF, H', ⟨Nat.le_refl _⟩, ⟨zR HO299⟩, ⟨zB⟩⟩
   case round =>
    clear H'
    obtain ⟨x4_1, x5_1, rfl, HA, HK1, HO_4, HB⟩ := hrel
    cases gk with
    | zero => exact absurd HA.out (by simp [mosaicref01_Sum.l0])
    | succ k1 =>
     have H := HA.out; clear HA; simp only [mosaicref01_Sum.l0] at H
     by_cases c8 : x5_1 < ((a0 ++ t296).size : Int)
     ·
      rw [if_pos c8] at H
      have c8b0 : decide (x5_1 < ((a0 ++ t296).size : Int)) = true := decide_eq_true c8
      (try (have c8b0s := c8b0; simp only [ByteArray.size_append, Int.natCast_add] at c8b0s))
      (try (have c8b0r := c8b0; simp only [ByteArray.size_append] at c8b0r))
      clear c8; by_cases c9 : 0 ≤ x5_1
      ·
       rw [if_pos c9] at H
       have c9b0 := eq_true c9
       (try (have c9b0s := eq_true c9; simp only [ByteArray.size_append, Int.natCast_add] at c9b0s))
       have c9b1 : decide (0 ≤ x5_1) = true := decide_eq_true c9
       clear c9; by_cases c10 : x5_1 ≤ (wrap64 (x5_1 + 64))
       ·
        rw [if_pos c10] at H
        have c10b0 := eq_true c10
        (try (have c10b0s := eq_true c10; simp only [ByteArray.size_append, Int.natCast_add] at c10b0s))
        have c10b1 : decide (x5_1 ≤ (wrap64 (x5_1 + 64))) = true := decide_eq_true c10
        by_cases c11 : (wrap64 (x5_1 + 64)) ≤ ((a0 ++ t296).size : Int)
        ·
         rw [if_pos c11] at H
         have c11b0 := eq_true c11
         (try (have c11b0s := eq_true c11; simp only [ByteArray.size_append, Int.natCast_add] at c11b0s))
         have c11b1 : decide ((wrap64 (x5_1 + 64)) ≤ ((a0 ++ t296).size : Int)) = true := decide_eq_true c11
         (try (have c11b1s := c11b1; simp only [ByteArray.size_append, Int.natCast_add] at c11b1s))
         (try (have c11b1r := c11b1; simp only [ByteArray.size_append] at c11b1r))
         replace H := Option.bind_eq_some_iff.mp H
         obtain ⟨t300, A120, H⟩ := H
         replace H : (mosaicref01_Sum.l0 k1 (a0 ++ t296) t300 (wrap64 (x5_1 + 64))) = some r := H
         have A12 := Aside0.mk A120
         clear A120; have H' := Aside0.mk H
         clear H; obtain ⟨Ao13, co13, eo13⟩ := Kd.R_slice HO_4.out
         subst eo13
         go_wp2_with (first | ((with_reducible refine gate_callee (f := 124) rfl ?_); refine goesL_ (some 30) rfl rfl Tryz.func124 (by kernel_rfl) rfl #[.slice Ao13 x4_1.length co13, .string ((a0 ++ t296).extract (x5_1 : Int).toNat ((wrap64 (x5_1 + 64)) : Int).toNat)] rfl zM ?_; (with_reducible refine (mosaicref01_Mix.calls k1 _ _ x4_1 ((a0 ++ t296).extract (x5_1 : Int).toNat ((wrap64 (x5_1 + 64)) : Int).toNat) t300 _ ?side1 ?side2 A12.out).mono ?_); (case side1 => exact zRC HO_4); (case side2 => exact (Kd.R_reads' HO_4.out).2.1); rintro e w14 ⟨v301, rfl, ho0, hb⟩; refine ⟨_, rfl, ?_⟩; have n0_ := Aside0.mk (Kd.R_elder' (by (with_reducible repeat (first | apply Kd.R_alloc | apply Kd.R_drewN | apply Kd.R_drew)); exact HO_4.out) (Kd.R_base ho0) hb); have n1_ := Aside0.mk (Kd.R_lower (Kd.R_new' ho0 (Kd.R_lt (by (with_reducible repeat (first | apply Kd.R_alloc | apply Kd.R_drewN | apply Kd.R_drew)); exact HO_4.out))) (below_size zB)); have n2_ := Aside0.mk (below_step zB hb); clear HO_4; clear HB; have HO_4 := n0_; have HO302 := n1_; have HB := n2_; clear n0_ n1_ n2_; (try clear hb); (try clear hb2); (try clear hk); (try clear hi); (try clear ho0)))
         go_roundg k1
         case measure => have := HK1.out; omega
         case rel => exact ⟨(t300), (wrap64 (x5_1 + 64)), zF, H', ⟨by have := HK1.out; omega⟩, ⟨by (with_reducible repeat (first | apply Kd.R_alloc | apply Kd.R_drewN | apply Kd.R_drew)); exact Kd.R_mono HO302.out (fun _ hk => trivial)⟩, ⟨zB⟩⟩
        ·
         rw [if_neg c11] at H
         exact absurd H (by simp)
       ·
        rw [if_neg c10] at H
        exact absurd H (by simp)
      ·
       rw [if_neg c9] at H
       exact absurd H (by simp)
     ·
      rw [if_neg c8] at H
      have c8b0 : decide (x5_1 < ((a0 ++ t296).size : Int)) = false := decide_eq_false c8
      (try (have c8b0s := c8b0; simp only [ByteArray.size_append, Int.natCast_add] at c8b0s))
      (try (have c8b0r := c8b0; simp only [ByteArray.size_append] at c8b0r))
      clear c8; have H' := Aside0.mk H
      clear H; go_wp2
      go_loopg [6, 7] k1 (fun kq v6 v7 w' => ∃ (x6_2 : List Int) (x7_2 : Int), v7 = .int .i64 x7_2 ∧ Aside0 (mosaicref01_Sum.l1 kq x4_1 x6_2 x7_2 = some r) ∧ Aside0 (kq ≤ k1) ∧ Aside0 (Kd.R (Kd.int .u32) 104 w' w.heap.size (fun _ => True) u4 x4_1) ∧ Aside0 (Kd.R (Kd.int .u8) 5 w' w.heap.size (fun _ => True) v6 x6_2) ∧ Aside0 (Below w.heap.size w w'))
      case atStart => exact ⟨(([] : List Int)), (0), zF, H', ⟨Nat.le_refl _⟩, ⟨zR HO_4⟩, ⟨by first | exact Kd.R_nil _ _ _ _ _ | exact Kd.N_nil _ _ _ _ _ | exact Kd.V_nil _ _ _ _ _ | exact Kd.Q_nil _ _ _ _ _ | exact Kd.S_nil _ _ _ _ _⟩, ⟨zB⟩⟩
      case round =>
       clear H'
       obtain ⟨x6_2, x7_2, rfl, HA, HK2, HO_4, HO_6, HB⟩ := hrel
       cases gk with
       | zero => exact absurd HA.out (by simp [mosaicref01_Sum.l1])
       | succ k2 =>
        have H := HA.out; clear HA; simp only [mosaicref01_Sum.l1] at H
        by_cases c15 : x7_2 < (x4_1.length : Int)
        ·
         rw [if_pos c15] at H
         have c15b0 : decide (x7_2 < (x4_1.length : Int)) = true := decide_eq_true c15
         clear c15; by_cases c16 : 0 ≤ x7_2
         ·
          rw [if_pos c16] at H
          have c16b0 : decide (0 ≤ x7_2) = true := decide_eq_true c16
          clear c16; obtain ⟨y304, hy304⟩ : ∃ y_ : List Int, y_ = (([((rd x4_1 x7_2) / 16777216) % 256, ((rd x4_1 x7_2) / 65536) % 256, ((rd x4_1 x7_2) / 256) % 256, (rd x4_1 x7_2) % 256] : List Int)) := ⟨_, rfl⟩
          replace H : (if x6_2.length + y304.length < 140737488355328 then (mosaicref01_Sum.l1 k2 x4_1 (x6_2 ++ y304) (wrap64 (x7_2 + 1))) else (none)) = some r := by first | (rw [hy304]; with_reducible exact H) | (have H2_ := (Option.bind_some _ _).symm.trans H; rw [hy304]; with_reducible exact H2_) | (have H2_ := (Option.bind_some _ _).symm.trans H; with_reducible exact H2_) | with_reducible exact H | (rw [hy304]; exact H) | exact H
          have Ny304 := Aside0.mk hy304
          clear hy304; by_cases c17 : x6_2.length + y304.length < 140737488355328
          ·
           rw [if_pos c17] at H
           have LMc17 := Aside0.mk c17
           clear c17; obtain ⟨y307, hy307⟩ : ∃ y_ : List Int, y_ = (x6_2 ++ y304) := ⟨_, rfl⟩
           replace H : (mosaicref01_Sum.l1 k2 x4_1 y307 (wrap64 (x7_2 + 1))) = some r := by first | (rw [hy307]; with_reducible exact H) | (have H2_ := (Option.bind_some _ _).symm.trans H; rw [hy307]; with_reducible exact H2_) | (have H2_ := (Option.bind_some _ _).symm.trans H; with_reducible exact H2_) | with_reducible exact H | (rw [hy307]; exact H) | exact H
           have Ny307 := Aside0.mk hy307
           clear hy307; have H' := Aside0.mk H
           clear H; obtain ⟨Ao18, co18, eo18⟩ := Kd.R_slice HO_4.out
           subst eo18
           have p303 : 0 ≤ (x7_2 : Int) := of_decide_eq_true zA
           have q303 : x7_2 < (x4_1.length : Int) := of_decide_eq_true zA
           obtain ⟨ad303, e303, hx303_0⟩ := Kd.at_int (Kd.R_reads' HO_4.out).2.2 x7_2 p303 q303
           cases e303
           replace p303 := eq_true p303
           replace q303 := eq_true q303
           go_wp2_with (first | ((with_reducible refine gate_dst (N := 53) rfl ?_); refine Kd.R_lit (Kd.int .u8) _ 5 ?hg (N := 53) ?hd (xs := ([((rd x4_1 x7_2) / 16777216) % 256, ((rd x4_1 x7_2) / 65536) % 256, ((rd x4_1 x7_2) / 256) % 256, (rd x4_1 x7_2) % 256] : List Int)) (inner := [.int .u8 (((rd x4_1 x7_2) / 16777216) % 256), .int .u8 (((rd x4_1 x7_2) / 65536) % 256), .int .u8 (((rd x4_1 x7_2) / 256) % 256), .int .u8 ((rd x4_1 x7_2) % 256)]) (ok := fun _ => True) (okp := fun _ => True) ?hr ?hp (fun _ hk => hk) trivial (Below.refl _ _) (Nat.le_refl _) (by simp) ?_; (case hd => rfl); (case hg => rfl); (case hr => first | (go_simp; done) | (go_simp; rfl)); (case hp => exact (Reps.one (show Kd.M (Kd.int .u8) _ _ _ (((rd x4_1 x7_2) / 16777216) % 256) [.int .u8 (((rd x4_1 x7_2) / 16777216) % 256)] from rfl) (Reps.one (show Kd.M (Kd.int .u8) _ _ _ (((rd x4_1 x7_2) / 65536) % 256) [.int .u8 (((rd x4_1 x7_2) / 65536) % 256)] from rfl) (Reps.one (show Kd.M (Kd.int .u8) _ _ _ (((rd x4_1 x7_2) / 256) % 256) [.int .u8 (((rd x4_1 x7_2) / 256) % 256)] from rfl) (Reps.one (show Kd.M (Kd.int .u8) _ _ _ ((rd x4_1 x7_2) % 256) [.int .u8 ((rd x4_1 x7_2) % 256)] from rfl) (Reps.none _ _)))))); intro v305 w19 ho20 hb hg_ hnew_; clear hg_ hnew_; (first | rw [← Ny304.out] at ho20 | (simp only [Int.reduceToNat] at ho20; rw [← Ny304.out] at ho20)); have n0_ := Aside0.mk (Kd.R_below (zR HO_4) hb); have n1_ := Aside0.mk (Kd.R_elder' (by (with_reducible repeat (first | apply Kd.R_alloc | apply Kd.R_drewN | apply Kd.R_drew)); exact HO_6.out) (Kd.R_base ho20) hb); have n2_ := Aside0.mk (Kd.R_lower (Kd.R_new' ho20 (Kd.R_lt (by (with_reducible repeat (first | apply Kd.R_alloc | apply Kd.R_drewN | apply Kd.R_drew)); exact HO_6.out))) (below_size zB)); have n3_ := Aside0.mk (below_step zB hb); clear HO_4; clear HO_6; clear HB; have HO_4 := n0_; have HO_6 := n1_; have HO306 := n2_; have HB := n3_; clear n0_ n1_ n2_ n3_; clear hb ho20; obtain ⟨Ao22, co22, eo22⟩ := Kd.R_slice HO306.out; subst eo22) | ((with_reducible refine gate_builtin (b := .append) (xs := #[.tmp 41, .tmp 53]) rfl ?_); at_builtin; refine Kd.R_append_rows (Kd.int .u8) (w0 := w) w.heap.size rfl (.tmp 41) (.tmp 53) 90 5 (.int .u8 0) 1 rfl Tryz.underlying90 info5 rfl (by decide) (by omega) u6 x6_2 y304 _ _ _ (fun k_ => some k_ ≠ (.slice Ao22 y304.length co22 : Value).ownBlock) (fun _ => False) rfl rfl ?aO ?aR (fun _ _ h => h) (fun _ h => h.elim) ?aF ?aB ?aS ?aL ?_; (case aR => exact zRC HO306); (case aB => exact zB); (case aF => exact (fun k_ hk => Kd.fresh' (Kd.R_lt (by (with_reducible repeat (first | apply Kd.R_alloc | apply Kd.R_drewN | apply Kd.R_drew)); exact HO306.out)) k_ hk)); (case aO => exact (by (with_reducible repeat (first | apply Kd.R_alloc | apply Kd.R_drewN | apply Kd.R_drew)); exact Kd.R_mono HO_6.out (fun _ hk => hk.2))); (case aS => exact (below_size zB)); (case aL => have := LMc17.out; omega); intro v308 w21 ho hb hg hat; rw [← Ny307.out] at ho; replace HO_4 := Aside0.mk (Kd.R_over' (by (with_reducible repeat (first | apply Kd.R_alloc | apply Kd.R_drewN | apply Kd.R_drew)); exact HO_4.out) (Kd.R_typed (by (with_reducible repeat (first | apply Kd.R_alloc | apply Kd.R_drewN | apply Kd.R_drew)); exact HO_6.out)) (by decide) hg); replace HO306 := Aside0.mk (Kd.R_after (ok := (fun _ => True)) (by (with_reducible repeat (first | apply Kd.R_alloc | apply Kd.R_drewN | apply Kd.R_drew)); exact HO306.out) hg hat); have HO309 := Aside0.mk (ho); replace HB := Aside0.mk (hb); clear HO_6; clear ho hb hg hat))
           go_roundg k2
           case measure => have := HK1.out; have := HK2.out; omega
           case rel => exact ⟨(y307), (wrap64 (x7_2 + 1)), zF, H', ⟨by have := HK1.out; have := HK2.out; omega⟩, ⟨zR HO_4⟩, ⟨by (with_reducible repeat (first | apply Kd.R_alloc | apply Kd.R_drewN | apply Kd.R_drew)); exact Kd.R_mono HO309.out (fun _ hk => trivial)⟩, ⟨zB⟩⟩
          ·
           rw [if_neg c17] at H
           exact absurd H (by simp)
         ·
          rw [if_neg c16] at H
          exact absurd H (by simp)
        ·
         rw [if_neg c15] at H
         have c15b0 : decide (x7_2 < (x4_1.length : Int)) = false := decide_eq_false c15
         clear c15; obtain rfl := Option.some.inj H
         obtain ⟨Ao23, co23, eo23⟩ := Kd.R_slice HO_4.out
         subst eo23
         have hcv24 := own_string (P := Tryz.prog) Tryz.underlying90 Tryz.underlying5 Tryz.underlying9 (Kd.own_of_R HO_6.out)
         have hcvd25 := fun n_ => own_string (P := Tryz.prog) Tryz.underlying90 Tryz.underlying5 Tryz.underlying9 (Kd.own_of_R (Kd.R_drewN HO_6.out n_))
         go_wp2
         go_ret
         exact ⟨zE, zB⟩
  ·
   rw [if_neg c4] at H
   exact absurd H (by simp)
end Go.Proofs.YtghhmnjkgnoogaaGreat.POuterFills
