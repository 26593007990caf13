-- Written by this session's own program (wip/tools/mkprint.py) over the kit's printer, with overrides.
import Derived.Test.YtghhmnjkgnoogaaGreatTOuterWholesa
import Derived.Test.YtghhmnjkgnoogaaGreatQOuterWholesx0
import Derived.Test.YtghhmnjkgnoogaaGreatQOuterWholesx19
import Derived.Test.YtghhmnjkgnoogaaGreatQOuterWholesx20
import Derived.Test.YtghhmnjkgnoogaaGreatQOuterWholesx21
namespace Go.Proofs.YtghhmnjkgnoogaaGreat.POuterWholes
open Go.RowKit Go.Mine Go.Proofs.YtghhmnjkgnoogaaGreatW.PrintWords Go.Proofs.YtghhmnjkgnoogaaGreatW.PrintLast Go.Proofs.YtghhmnjkgnoogaaGreatW.PrintMore
attribute [local go_sem] max2_int min2_int max_two min_two max_three min_three max_four min_four   -- for this text's walks alone
set_option linter.unusedVariables false
set_option linter.unusedSimpArgs false
/-! ### mosaicref01_Mix: function 124 -/
/-- The Bools of a number's bits. -/
def mkB124 (w m : Nat) : Array Bool := ⟨(List.range w).map fun i => m.testBit i⟩
def mosaicref01_Mix.l0 : Nat → List Int → List Int → List Int → Int → Int → Int → Int → Int → Int → Int → Int → Int → Option (List Int)
 | 0, _, _, _, _, _, _, _, _, _, _, _, _ => none
 | k + 1, x0, x5, x6, x7, x8, x9, x10, x11, x12, x13, x14, x15 => if x15 < 64 then ((mosaicref01_rotr.f x11 6).bind fun t284 => ((mosaicref01_rotr.f x11 11).bind fun t285 => ((mosaicref01_rotr.f x11 25).bind fun t286 => (if 0 ≤ x15 then (if x15 < (x6.length : Int) then (if x15 < (x5.length : Int) then ((mosaicref01_rotr.f x7 2).bind fun t289 => ((mosaicref01_rotr.f x7 13).bind fun t290 => ((mosaicref01_rotr.f x7 22).bind fun t291 => (mosaicref01_Mix.l0 k x0 x5 x6 ((((((((((x14 + (Go.bits .xor .u32 (Go.bits .xor .u32 t284 t285) t286)) % 4294967296) + (Go.bits .xor .u32 (Go.bits .and .u32 x11 x12) (Go.bits .and .u32 (Go.bits .xor .u32 4294967295 x11) x13))) % 4294967296) + (rd x6 x15)) % 4294967296) + (rd x5 x15)) % 4294967296) + (((Go.bits .xor .u32 (Go.bits .xor .u32 t289 t290) t291) + (Go.bits .xor .u32 (Go.bits .xor .u32 (Go.bits .and .u32 x7 x8) (Go.bits .and .u32 x7 x9)) (Go.bits .and .u32 x8 x9))) % 4294967296)) % 4294967296) x7 x8 x9 ((x10 + ((((((((x14 + (Go.bits .xor .u32 (Go.bits .xor .u32 t284 t285) t286)) % 4294967296) + (Go.bits .xor .u32 (Go.bits .and .u32 x11 x12) (Go.bits .and .u32 (Go.bits .xor .u32 4294967295 x11) x13))) % 4294967296) + (rd x6 x15)) % 4294967296) + (rd x5 x15)) % 4294967296)) % 4294967296) x11 x12 x13 (wrap64 (x15 + 1)))))) else (none)) else (none)) else (none))))) else (if 0 < (x0.length : Int) then (if 1 < (x0.length : Int) then (if 2 < (x0.length : Int) then (if 3 < (x0.length : Int) then (if 4 < (x0.length : Int) then (if 5 < (x0.length : Int) then (if 6 < (x0.length : Int) then (if 7 < (x0.length : Int) then (some (([((rd x0 0) + x7) % 4294967296, ((rd x0 1) + x8) % 4294967296, ((rd x0 2) + x9) % 4294967296, ((rd x0 3) + x10) % 4294967296, ((rd x0 4) + x11) % 4294967296, ((rd x0 5) + x12) % 4294967296, ((rd x0 6) + x13) % 4294967296, ((rd x0 7) + x14) % 4294967296] : List Int))) else (none)) else (none)) else (none)) else (none)) else (none)) else (none)) else (none)) else (none))
def mosaicref01_Mix.f (k : Nat) (l0 : List Int) (a1 : ByteArray) : Option (List Int) := (mosaicref01_Words.f k a1).bind fun t259 => ((mosaicref01_K.f).bind fun t262 => (if 0 < (l0.length : Int) then (if 1 < (l0.length : Int) then (if 2 < (l0.length : Int) then (if 3 < (l0.length : Int) then (if 4 < (l0.length : Int) then (if 5 < (l0.length : Int) then (if 6 < (l0.length : Int) then (if 7 < (l0.length : Int) then (mosaicref01_Mix.l0 k l0 t259 t262 (rd l0 0) (rd l0 1) (rd l0 2) (rd l0 3) (rd l0 4) (rd l0 5) (rd l0 6) (rd l0 7) 0) else (none)) else (none)) else (none)) else (none)) else (none)) else (none)) else (none)) else (none)))
theorem mosaicref01_Mix.mono_l : ∀ k, (∀ y0 y1 y2 y3 y4 y5 y6 y7 y8 y9 y10 y11, LeO (mosaicref01_Mix.l0 k y0 y1 y2 y3 y4 y5 y6 y7 y8 y9 y10 y11) (mosaicref01_Mix.l0 (k + 1) y0 y1 y2 y3 y4 y5 y6 y7 y8 y9 y10 y11))
 | 0 => fun _ _ _ _ _ _ _ _ _ _ _ _ r h => by simp [mosaicref01_Mix.l0] at h
 | k + 1 => by
  have ih0 := mosaicref01_Mix.mono_l k
  ·
   intro y0 y1 y2 y3 y4 y5 y6 y7 y8 y9 y10 y11
   unfold mosaicref01_Mix.l0
   repeat' first
   | (with_reducible exact ih0 _ _ _ _ _ _ _ _ _ _ _ _)
   | (with_reducible exact mosaicref01_Words.mono _ _)
   | (with_reducible exact LeO.refl _)
   | (with_reducible exact LeO.none _)
   | (with_reducible refine LeO.ite ?_ ?_)
   | (with_reducible refine LeO.bind ?_ (fun _ => ?_))
   | exact ih0 _ _ _ _ _ _ _ _ _ _ _ _
   | exact mosaicref01_Words.mono _ _
   | exact LeO.none _
   | refine LeO.ite ?_ ?_
   | refine LeO.bind ?_ (fun _ => ?_)
theorem mosaicref01_Mix.mono : ∀ a0 a1 k, LeO (mosaicref01_Mix.f k a0 a1) (mosaicref01_Mix.f (k + 1) a0 a1) := by
 intro a0 a1 k
 have ih0 := mosaicref01_Mix.mono_l k
 unfold mosaicref01_Mix.f
 repeat' first
   | (with_reducible exact ih0 _ _ _ _ _ _ _ _ _ _ _ _)
   | (with_reducible exact mosaicref01_Words.mono _ _)
   | (with_reducible exact LeO.refl _)
   | (with_reducible exact LeO.none _)
   | (with_reducible refine LeO.ite ?_ ?_)
   | (with_reducible refine LeO.bind ?_ (fun _ => ?_))
   | exact ih0 _ _ _ _ _ _ _ _ _ _ _ _
   | exact mosaicref01_Words.mono _ _
   | exact LeO.none _
   | refine LeO.ite ?_ ?_
   | refine LeO.bind ?_ (fun _ => ?_)
def mosaicref01_Mix.T3 : Bool × List (List Nat × List Nat) := (true, [([], []), ([0], [0]), ([1], [1]), ([], []), ([3], [3]), ([4], [4]), ([], []), ([6], [6]), ([7], [7]), ([], []), ([9], [9]), ([10], [10]), ([2, 0, 1, 2], [2]), ([5, 12, 0, 1, 2, 3, 4, 5, 12], [5]), ([8, 13, 0, 1, 2, 3, 4, 5, 6, 7, 8, 12, 13], [8]), ([11, 14, 0, 1, 2, 3, 4, 5, 6, 7, 8, 9, 10, 11, 12, 13, 14], [11])])
def mosaicref01_Mix.B3 : List Nat := [0, 1, 3, 0, 8, 24, 0, 64, 192, 0, 512, 1536, 7, 4159, 12799, 32767]
theorem mosaicref01_Mix.tab3 : rtab .any (opsOf Tryz.f124 3) = mosaicref01_Mix.T3 := by kernel_rfl
theorem mosaicref01_Mix.bits3 : waitsOk mosaicref01_Mix.T3.2 mosaicref01_Mix.B3 = true := by kernel_rfl
def mosaicref01_Mix.T4 : Bool × List (List Nat × List Nat) := (true, [([], []), ([0], [0]), ([1], [1]), ([], []), ([3], [3]), ([4], [4]), ([], []), ([6], [6]), ([7], [7]), ([], []), ([9], [9]), ([10], [10]), ([2, 0, 1, 2], [2]), ([5, 12, 0, 1, 2, 3, 4, 5, 12], [5]), ([8, 13, 0, 1, 2, 3, 4, 5, 6, 7, 8, 12, 13], [8]), ([11, 14, 0, 1, 2, 3, 4, 5, 6, 7, 8, 9, 10, 11, 12, 13, 14], [11])])
def mosaicref01_Mix.B4 : List Nat := [0, 1, 3, 0, 8, 24, 0, 64, 192, 0, 512, 1536, 7, 4159, 12799, 32767]
theorem mosaicref01_Mix.tab4 : rtab .any (opsOf Tryz.f124 4) = mosaicref01_Mix.T4 := by kernel_rfl
theorem mosaicref01_Mix.bits4 : waitsOk mosaicref01_Mix.T4.2 mosaicref01_Mix.B4 = true := by kernel_rfl
def mosaicref01_Mix.T8 : Bool × List (List Nat × List Nat) := (true, [([], []), ([], []), ([1], [1]), ([], []), ([3, 2], [3]), ([2, 4], [2, 4]), ([], []), ([6, 4], [6]), ([5, 7], [5, 7]), ([0, 8], [0, 8]), ([], []), ([], []), ([10, 11], [10, 11]), ([], []), ([13], [13]), ([], []), ([14, 15], [14, 15]), ([12, 16], [12, 16]), ([9, 17], [9, 17]), ([], []), ([], []), ([19, 20], [19, 20]), ([21], [21]), ([18, 22], [18, 22]), ([], []), ([], []), ([24, 25], [24, 25]), ([26], [26]), ([23, 27], [23, 27]), ([28, 7, 0, 1, 2, 3, 4, 5, 6, 7, 8, 9, 10, 11, 12, 13, 14, 15, 16, 17, 18, 19, 20, 21, 22, 23, 24, 25, 26, 27, 28], [28])])
def mosaicref01_Mix.B8 : List Nat := [0, 0, 2, 0, 14, 30, 0, 94, 254, 511, 0, 0, 3072, 0, 8192, 0, 57344, 130048, 262143, 0, 0, 1572864, 3670016, 8388607, 0, 0, 50331648, 117440512, 268435455, 536870911]
theorem mosaicref01_Mix.tab8 : rtab .any (opsOf Tryz.f124 8) = mosaicref01_Mix.T8 := by kernel_rfl
theorem mosaicref01_Mix.bits8 : waitsOk mosaicref01_Mix.T8.2 mosaicref01_Mix.B8 = true := by kernel_rfl
def mosaicref01_Mix.T18 : Bool × List (List Nat × List Nat) := (true, [([], []), ([0], [0]), ([1], [1]), ([], []), ([2, 3], [2, 3]), ([], []), ([5], [5]), ([6], [6]), ([], []), ([7, 8], [7, 8]), ([], []), ([10], [10]), ([11], [11]), ([], []), ([12, 13], [12, 13]), ([], []), ([15], [15]), ([16], [16]), ([], []), ([17, 18], [17, 18]), ([], []), ([20], [20]), ([21], [21]), ([], []), ([22, 23], [22, 23]), ([], []), ([25], [25]), ([26], [26]), ([], []), ([27, 28], [27, 28]), ([], []), ([30], [30]), ([31], [31]), ([], []), ([32, 33], [32, 33]), ([], []), ([35], [35]), ([36], [36]), ([], []), ([37, 38], [37, 38]), ([4, 9, 14, 19, 24, 29, 34, 39], [4, 9, 14, 19, 24, 29, 34, 39]), ([40, 0, 1, 2, 3, 4, 5, 6, 7, 8, 9, 10, 11, 12, 13, 14, 15, 16, 17, 18, 19, 20, 21, 22, 23, 24, 25, 26, 27, 28, 29, 30, 31, 32, 33, 34, 35, 36, 37, 38, 39, 40], [40])])
def mosaicref01_Mix.B18 : List Nat := [0, 1, 3, 0, 15, 0, 32, 96, 0, 480, 0, 1024, 3072, 0, 15360, 0, 32768, 98304, 0, 491520, 0, 1048576, 3145728, 0, 15728640, 0, 33554432, 100663296, 0, 503316480, 0, 1073741824, 3221225472, 0, 16106127360, 0, 34359738368, 103079215104, 0, 515396075520, 1099511627775, 2199023255551]
theorem mosaicref01_Mix.tab18 : rtab .any (opsOf Tryz.f124 18) = mosaicref01_Mix.T18 := by kernel_rfl
theorem mosaicref01_Mix.bits18 : waitsOk mosaicref01_Mix.T18.2 mosaicref01_Mix.B18 = true := by kernel_rfl
set_option maxHeartbeats 8000000 in
set_option maxRecDepth 100000 in
theorem mosaicref01_Mix.calls (k : Nat) (A0 : Option Addr) (c0 : Nat) (l0 : List Int) (a1 : ByteArray) (r : List Int) (w : World) (hr0 : Kd.C (Kd.int .u32) w A0 l0.length l0) (hc0 : l0.length ≤ c0) (h : mosaicref01_Mix.f k l0 a1 = some r) :
  Calls Tryz.prog 124 #[.slice A0 l0.length c0, .string a1] w fun e w' => ∃ v0_ : Value, e = .returned (v0_) ∧ Kd.R (Kd.int .u32) 104 w' w.heap.size (fun _ => True) v0_ r ∧ Below w.heap.size w w' := by
 have HR0 := Aside0.mk hr0
 have HC0 := Aside0.mk hc0
 clear hr0 hc0; have HB := Aside0.mk (Below.refl w.heap.size w)
 have H : ((mosaicref01_Words.f k a1).bind fun t259 => ((mosaicref01_K.f).bind fun t262 => (if 0 < (l0.length : Int) then (if 1 < (l0.length : Int) then (if 2 < (l0.length : Int) then (if 3 < (l0.length : Int) then (if 4 < (l0.length : Int) then (if 5 < (l0.length : Int) then (if 6 < (l0.length : Int) then (if 7 < (l0.length : Int) then (mosaicref01_Mix.l0 k l0 t259 t262 (rd l0 0) (rd l0 1) (rd l0 2) (rd l0 3) (rd l0 4) (rd l0 5) (rd l0 6) (rd l0 7) 0) else (none)) else (none)) else (none)) else (none)) else (none)) else (none)) else (none)) else (none)))) = some r := h
 clear h; replace H := Option.bind_eq_some_iff.mp H
 obtain ⟨t259, A30, H⟩ := H
 replace H : ((mosaicref01_K.f).bind fun t262 => (if 0 < (l0.length : Int) then (if 1 < (l0.length : Int) then (if 2 < (l0.length : Int) then (if 3 < (l0.length : Int) then (if 4 < (l0.length : Int) then (if 5 < (l0.length : Int) then (if 6 < (l0.length : Int) then (if 7 < (l0.length : Int) then (mosaicref01_Mix.l0 k l0 t259 t262 (rd l0 0) (rd l0 1) (rd l0 2) (rd l0 3) (rd l0 4) (rd l0 5) (rd l0 6) (rd l0 7) 0) else (none)) else (none)) else (none)) else (none)) else (none)) else (none)) else (none)) else (none))) = some r := H
 have A3 := Aside0.mk A30
 clear A30; replace H := Option.bind_eq_some_iff.mp H
 obtain ⟨t262, A40, H⟩ := H
 replace H : (if 0 < (l0.length : Int) then (if 1 < (l0.length : Int) then (if 2 < (l0.length : Int) then (if 3 < (l0.length : Int) then (if 4 < (l0.length : Int) then (if 5 < (l0.length : Int) then (if 6 < (l0.length : Int) then (if 7 < (l0.length : Int) then (mosaicref01_Mix.l0 k l0 t259 t262 (rd l0 0) (rd l0 1) (rd l0 2) (rd l0 3) (rd l0 4) (rd l0 5) (rd l0 6) (rd l0 7) 0) else (none)) else (none)) else (none)) else (none)) else (none)) else (none)) else (none)) else (none)) = some r := H
 have A4 := Aside0.mk A40
 clear A40; by_cases c5 : 0 < (l0.length : Int)
 ·
  rw [if_pos c5] at H
  have c5b0 : decide (0 < (l0.length : Int)) = true := decide_eq_true c5
  have c5b1 : decide (0 < l0.length) = true := decide_eq_true (by omega)
  have c5b2 : (0 < l0.length) := by omega
  clear c5; by_cases c6 : 1 < (l0.length : Int)
  ·
   rw [if_pos c6] at H
   have c6b0 : decide (1 < (l0.length : Int)) = true := decide_eq_true c6
   have c6b1 : decide (1 < l0.length) = true := decide_eq_true (by omega)
   clear c6; by_cases c7 : 2 < (l0.length : Int)
   ·
    rw [if_pos c7] at H
    have c7b0 : decide (2 < (l0.length : Int)) = true := decide_eq_true c7
    have c7b1 : decide (2 < l0.length) = true := decide_eq_true (by omega)
    clear c7; by_cases c8 : 3 < (l0.length : Int)
    ·
     rw [if_pos c8] at H
     have c8b0 : decide (3 < (l0.length : Int)) = true := decide_eq_true c8
     have c8b1 : decide (3 < l0.length) = true := decide_eq_true (by omega)
     clear c8; by_cases c9 : 4 < (l0.length : Int)
     ·
      rw [if_pos c9] at H
      have c9b0 : decide (4 < (l0.length : Int)) = true := decide_eq_true c9
      have c9b1 : decide (4 < l0.length) = true := decide_eq_true (by omega)
      clear c9; by_cases c10 : 5 < (l0.length : Int)
      ·
       rw [if_pos c10] at H
       have c10b0 : decide (5 < (l0.length : Int)) = true := decide_eq_true c10
       have c10b1 : decide (5 < l0.length) = true := decide_eq_true (by omega)
       clear c10; by_cases c11 : 6 < (l0.length : Int)
       ·
        rw [if_pos c11] at H
        have c11b0 : decide (6 < (l0.length : Int)) = true := decide_eq_true c11
        have c11b1 : decide (6 < l0.length) = true := decide_eq_true (by omega)
        clear c11; by_cases c12 : 7 < (l0.length : Int)
        ·
         rw [if_pos c12] at H
         have c12b0 : decide (7 < (l0.length : Int)) = true := decide_eq_true c12
         have c12b1 : decide (7 < l0.length) = true := decide_eq_true (by omega)
         clear c12; have H' := Aside0.mk H
         clear H; go_enter Tryz.func124, Tryz.ntmps124
         try go_wp2_with (first | ((with_reducible refine gate_callee (f := 128) rfl ?_); refine goesL_ (some 19) rfl rfl Tryz.func128 (by kernel_rfl) rfl #[.string a1] rfl zM ?_; (with_reducible refine (mosaicref01_Words.calls k a1 t259 _ A3.out).mono ?_); rintro e w13 ⟨v260, rfl, ho0, hb⟩; refine ⟨_, rfl, ?_⟩; have HO261 := Aside0.mk (Kd.R_lower ho0 (below_size zB)); replace HB := Aside0.mk (below_step zB hb); (try clear hb); (try clear hb2); (try clear hk); (try clear hi); (try clear ho0)) | ((with_reducible refine gate_callee (f := 129) rfl ?_); refine goesL_ (some 20) rfl rfl Tryz.func129 (by kernel_rfl) rfl #[] rfl zM ?_; (with_reducible refine (mosaicref01_K.calls  t262 _ A4.out).mono ?_); rintro e w14 ⟨v263, rfl, ho0, hb⟩; refine ⟨_, rfl, ?_⟩; have n0_ := Aside0.mk (Kd.R_elder' (by (with_reducible repeat (first | apply Kd.R_alloc | apply Kd.R_drewN | apply Kd.R_drew)); exact HO261.out) (Kd.R_base ho0) hb); have n1_ := Aside0.mk (Kd.R_lower (Kd.R_new' ho0 (Kd.R_lt (by (with_reducible repeat (first | apply Kd.R_alloc | apply Kd.R_drewN | apply Kd.R_drew)); exact HO261.out))) (below_size zB)); have n2_ := Aside0.mk (below_step zB hb); clear HO261; clear HB; have HO261 := n0_; have HO264 := n1_; have HB := n2_; clear n0_ n1_ n2_; (try clear hb); (try clear hb2); (try clear hk); (try clear hi); (try clear ho0)))
         replace HO261 := Aside0.mk (Kd.R_drew HO261.out)
         replace HO264 := Aside0.mk (Kd.R_drew HO264.out)
         replace HB := Aside0.mk (below_drew1 HB.out); have p265 : 0 ≤ (0 : Int) := (by omega)
         have q265 : 0 < (l0.length : Int) := of_decide_eq_true zA
         obtain ⟨ad265, e265, hx265_0⟩ := Kd.at_int HR0.out 0 p265 q265
         have hw265_0 := hx265_0; (try rw [show ((0 : Int)).toNat = 0 from rfl] at hw265_0)
         (try rw [show 0 * 1 = 0 from rfl] at hw265_0)
         (try rw [Addr.add_zero'] at hw265_0)
         cases e265
         have qi265 : (0 < l0.length) = True := eq_true (by omega)
         (try rw [show ((0 : Int)).toNat = 0 from rfl] at hx265_0)
         (try rw [Addr.add_zero'] at hx265_0)
         (try replace hx265_0 := (HB.out.cell (World.block_lt_of_cell? w _ hx265_0)).trans hx265_0)
         replace p265 := eq_true p265
         replace q265 := eq_true q265
         have p266 : 0 ≤ (1 : Int) := (by omega)
         have q266 : 1 < (l0.length : Int) := of_decide_eq_true zA
         obtain ⟨ad266, e266, hx266_0⟩ := Kd.at_int HR0.out 1 p266 q266
         have hw266_0 := hx266_0; (try rw [show ((1 : Int)).toNat = 1 from rfl] at hw266_0)
         (try rw [show 1 * 1 = 1 from rfl] at hw266_0)
         (try simp only [Nat.reduceMul, Nat.reduceEqDiff, Go.Addr.add, ↓reduceIte] at hw266_0)
         obtain rfl : ad265 = ad266 := (by injection e266)
         (try simp only [show (1 : Int).toNat = 1 from rfl, Nat.reduceMul, Nat.reduceEqDiff, Go.Addr.add, ↓reduceIte] at hx266_0)
         have qi266 : (1 < l0.length) = True := eq_true (by omega)
         (try rw [show ((1 : Int)).toNat = 1 from rfl] at hx266_0)
         (try replace hx266_0 := (HB.out.cell (World.block_lt_of_cell? w _ hx266_0)).trans hx266_0)
         replace p266 := eq_true p266
         replace q266 := eq_true q266
         have p267 : 0 ≤ (2 : Int) := (by omega)
         have q267 : 2 < (l0.length : Int) := of_decide_eq_true zA
         obtain ⟨ad267, e267, hx267_0⟩ := Kd.at_int HR0.out 2 p267 q267
         have hw267_0 := hx267_0; (try rw [show ((2 : Int)).toNat = 2 from rfl] at hw267_0)
         (try rw [show 2 * 1 = 2 from rfl] at hw267_0)
         (try simp only [Nat.reduceMul, Nat.reduceEqDiff, Go.Addr.add, ↓reduceIte] at hw267_0)
         obtain rfl : ad265 = ad267 := (by injection e267)
         (try simp only [show (2 : Int).toNat = 2 from rfl, Nat.reduceMul, Nat.reduceEqDiff, Go.Addr.add, ↓reduceIte] at hx267_0)
         have qi267 : (2 < l0.length) = True := eq_true (by omega)
         (try rw [show ((2 : Int)).toNat = 2 from rfl] at hx267_0)
         (try replace hx267_0 := (HB.out.cell (World.block_lt_of_cell? w _ hx267_0)).trans hx267_0)
         replace p267 := eq_true p267
         replace q267 := eq_true q267
         have p268 : 0 ≤ (3 : Int) := (by omega)
         have q268 : 3 < (l0.length : Int) := of_decide_eq_true zA
         obtain ⟨ad268, e268, hx268_0⟩ := Kd.at_int HR0.out 3 p268 q268
         have hw268_0 := hx268_0; (try rw [show ((3 : Int)).toNat = 3 from rfl] at hw268_0)
         (try rw [show 3 * 1 = 3 from rfl] at hw268_0)
         (try simp only [Nat.reduceMul, Nat.reduceEqDiff, Go.Addr.add, ↓reduceIte] at hw268_0)
         obtain rfl : ad265 = ad268 := (by injection e268)
         (try simp only [show (3 : Int).toNat = 3 from rfl, Nat.reduceMul, Nat.reduceEqDiff, Go.Addr.add, ↓reduceIte] at hx268_0)
         have qi268 : (3 < l0.length) = True := eq_true (by omega)
         (try rw [show ((3 : Int)).toNat = 3 from rfl] at hx268_0)
         (try replace hx268_0 := (HB.out.cell (World.block_lt_of_cell? w _ hx268_0)).trans hx268_0)
         replace p268 := eq_true p268
         replace q268 := eq_true q268
         refine start_ (n := 16) (S := fun w' => w'.cell? ad265 = some (.int .u32 (rd l0 0)) ∧ w'.cell? ⟨ad265.block, ad265.off + 1, none⟩ = some (.int .u32 (rd l0 1)) ∧ w'.cell? ⟨ad265.block, ad265.off + 2, none⟩ = some (.int .u32 (rd l0 2)) ∧ w'.cell? ⟨ad265.block, ad265.off + 3, none⟩ = some (.int .u32 (rd l0 3))) (ds := []) (mkB124 16 0) (by kernel_rfl) rfl rfl ⟨(by first | exact (HB.out.cell (World.block_lt_of_cell? w _ hw265_0)).trans hw265_0 | exact hw265_0), (by first | exact (HB.out.cell (World.block_lt_of_cell? w _ hw266_0)).trans hw266_0 | exact hw266_0), (by first | exact (HB.out.cell (World.block_lt_of_cell? w _ hw267_0)).trans hw267_0 | exact hw267_0), (by first | exact (HB.out.cell (World.block_lt_of_cell? w _ hw268_0)).trans hw268_0 | exact hw268_0)⟩ (fun hHeld => ?_); refine with_tabW mosaicref01_Mix.tab3 mosaicref01_Mix.bits3 (fun HT_ HW_ => ?_)
         generalize w14.drew = w15 at HO261 HO264 HB hx265_0 hx266_0 hx267_0 hx268_0 hHeld ⊢
         refine pX 0 (some 21) (mkB124 16 1) ?_
         refine pX 1 (some 22) (mkB124 16 3) ?_
         refine pX 3 (some 24) (mkB124 16 11) ?_
         refine pX 4 (some 25) (mkB124 16 27) ?_
         refine pX 6 (some 27) (mkB124 16 91) ?_
         refine pX 7 (some 28) (mkB124 16 219) ?_
         refine pX 9 (some 30) (mkB124 16 731) ?_
         refine pX 10 (some 31) (mkB124 16 1755) ?_
         refine tT (v := ?_) (a' := ?_) HT_ HW_ hHeld 2 (some 23) (mkB124 16 1759) ?_ ?_ ?_; rotate_left 2; (rintro w' ⟨s0, s1, s2, s3⟩; go_simp; with_reducible rfl); (simp only [Act.put, qA, qB, qC, i64_w, i32_w]; rfl)
         refine pX 12 (some 7) (mkB124 16 5855) ?_
         refine tT (v := ?_) (a' := ?_) HT_ HW_ hHeld 5 (some 26) (mkB124 16 5887) ?_ ?_ ?_; rotate_left 2; (rintro w' ⟨s0, s1, s2, s3⟩; go_simp; with_reducible rfl); (simp only [Act.put, qA, qB, qC, i64_w, i32_w]; rfl)
         refine pX 13 (some 8) (mkB124 16 14079) ?_
         refine tT (v := ?_) (a' := ?_) HT_ HW_ hHeld 8 (some 29) (mkB124 16 14335) ?_ ?_ ?_; rotate_left 2; (rintro w' ⟨s0, s1, s2, s3⟩; go_simp; with_reducible rfl); (simp only [Act.put, qA, qB, qC, i64_w, i32_w]; rfl)
         refine pX 14 (some 9) (mkB124 16 30719) ?_
         refine tT (v := ?_) (a' := ?_) HT_ HW_ hHeld 11 (some 32) (mkB124 16 32767) ?_ ?_ ?_; rotate_left 2; (rintro w' ⟨s0, s1, s2, s3⟩; go_simp; with_reducible rfl); (simp only [Act.put, qA, qB, qC, i64_w, i32_w]; rfl)
         refine pX 15 (some 10) (mkB124 16 65535) ?_
         refine done_ (done_of HT_.out (by kernel_rfl)) ?_
         try go_wp2
         replace HO261 := Aside0.mk (Kd.R_drew HO261.out)
         replace HO264 := Aside0.mk (Kd.R_drew HO264.out)
         replace HB := Aside0.mk (below_drew1 HB.out); have p269 : 0 ≤ (4 : Int) := (by omega)
         have q269 : 4 < (l0.length : Int) := of_decide_eq_true zA
         obtain ⟨ad269, e269, hx269_0⟩ := Kd.at_int HR0.out 4 p269 q269
         have hw269_0 := hx269_0; (try rw [show ((4 : Int)).toNat = 4 from rfl] at hw269_0)
         (try rw [show 4 * 1 = 4 from rfl] at hw269_0)
         (try simp only [Nat.reduceMul, Nat.reduceEqDiff, Go.Addr.add, ↓reduceIte] at hw269_0)
         obtain rfl : ad265 = ad269 := (by injection e269)
         (try simp only [show (4 : Int).toNat = 4 from rfl, Nat.reduceMul, Nat.reduceEqDiff, Go.Addr.add, ↓reduceIte] at hx269_0)
         have qi269 : (4 < l0.length) = True := eq_true (by omega)
         (try rw [show ((4 : Int)).toNat = 4 from rfl] at hx269_0)
         (try replace hx269_0 := (HB.out.cell (World.block_lt_of_cell? w _ hx269_0)).trans hx269_0)
         replace p269 := eq_true p269
         replace q269 := eq_true q269
         have p270 : 0 ≤ (5 : Int) := (by omega)
         have q270 : 5 < (l0.length : Int) := of_decide_eq_true zA
         obtain ⟨ad270, e270, hx270_0⟩ := Kd.at_int HR0.out 5 p270 q270
         have hw270_0 := hx270_0; (try rw [show ((5 : Int)).toNat = 5 from rfl] at hw270_0)
         (try rw [show 5 * 1 = 5 from rfl] at hw270_0)
         (try simp only [Nat.reduceMul, Nat.reduceEqDiff, Go.Addr.add, ↓reduceIte] at hw270_0)
         obtain rfl : ad265 = ad270 := (by injection e270)
         (try simp only [show (5 : Int).toNat = 5 from rfl, Nat.reduceMul, Nat.reduceEqDiff, Go.Addr.add, ↓reduceIte] at hx270_0)
         have qi270 : (5 < l0.length) = True := eq_true (by omega)
         (try rw [show ((5 : Int)).toNat = 5 from rfl] at hx270_0)
         (try replace hx270_0 := (HB.out.cell (World.block_lt_of_cell? w _ hx270_0)).trans hx270_0)
         replace p270 := eq_true p270
         replace q270 := eq_true q270
         have p271 : 0 ≤ (6 : Int) := (by omega)
         have q271 : 6 < (l0.length : Int) := of_decide_eq_true zA
         obtain ⟨ad271, e271, hx271_0⟩ := Kd.at_int HR0.out 6 p271 q271
         have hw271_0 := hx271_0; (try rw [show ((6 : Int)).toNat = 6 from rfl] at hw271_0)
         (try rw [show 6 * 1 = 6 from rfl] at hw271_0)
         (try simp only [Nat.reduceMul, Nat.reduceEqDiff, Go.Addr.add, ↓reduceIte] at hw271_0)
         obtain rfl : ad265 = ad271 := (by injection e271)
         (try simp only [show (6 : Int).toNat = 6 from rfl, Nat.reduceMul, Nat.reduceEqDiff, Go.Addr.add, ↓reduceIte] at hx271_0)
         have qi271 : (6 < l0.length) = True := eq_true (by omega)
         (try rw [show ((6 : Int)).toNat = 6 from rfl] at hx271_0)
         (try replace hx271_0 := (HB.out.cell (World.block_lt_of_cell? w _ hx271_0)).trans hx271_0)
         replace p271 := eq_true p271
         replace q271 := eq_true q271
         have p272 : 0 ≤ (7 : Int) := (by omega)
         have q272 : 7 < (l0.length : Int) := of_decide_eq_true zA
         obtain ⟨ad272, e272, hx272_0⟩ := Kd.at_int HR0.out 7 p272 q272
         have hw272_0 := hx272_0; (try rw [show ((7 : Int)).toNat = 7 from rfl] at hw272_0)
         (try rw [show 7 * 1 = 7 from rfl] at hw272_0)
         (try simp only [Nat.reduceMul, Nat.reduceEqDiff, Go.Addr.add, ↓reduceIte] at hw272_0)
         obtain rfl : ad265 = ad272 := (by injection e272)
         (try simp only [show (7 : Int).toNat = 7 from rfl, Nat.reduceMul, Nat.reduceEqDiff, Go.Addr.add, ↓reduceIte] at hx272_0)
         have qi272 : (7 < l0.length) = True := eq_true (by omega)
         (try rw [show ((7 : Int)).toNat = 7 from rfl] at hx272_0)
         (try replace hx272_0 := (HB.out.cell (World.block_lt_of_cell? w _ hx272_0)).trans hx272_0)
         replace p272 := eq_true p272
         replace q272 := eq_true q272
         refine start_ (n := 16) (S := fun w' => w'.cell? ⟨ad265.block, ad265.off + 4, none⟩ = some (.int .u32 (rd l0 4)) ∧ w'.cell? ⟨ad265.block, ad265.off + 5, none⟩ = some (.int .u32 (rd l0 5)) ∧ w'.cell? ⟨ad265.block, ad265.off + 6, none⟩ = some (.int .u32 (rd l0 6)) ∧ w'.cell? ⟨ad265.block, ad265.off + 7, none⟩ = some (.int .u32 (rd l0 7))) (ds := []) (mkB124 16 0) (by kernel_rfl) rfl rfl ⟨(by first | exact (HB.out.cell (World.block_lt_of_cell? w _ hw269_0)).trans hw269_0 | exact hw269_0), (by first | exact (HB.out.cell (World.block_lt_of_cell? w _ hw270_0)).trans hw270_0 | exact hw270_0), (by first | exact (HB.out.cell (World.block_lt_of_cell? w _ hw271_0)).trans hw271_0 | exact hw271_0), (by first | exact (HB.out.cell (World.block_lt_of_cell? w _ hw272_0)).trans hw272_0 | exact hw272_0)⟩ (fun hHeld => ?_); refine with_tabW mosaicref01_Mix.tab4 mosaicref01_Mix.bits4 (fun HT_ HW_ => ?_)
         generalize w15.drew = w16 at HO261 HO264 HB hx269_0 hx270_0 hx271_0 hx272_0 hHeld ⊢
         refine pX 0 (some 33) (mkB124 16 1) ?_
         refine pX 1 (some 34) (mkB124 16 3) ?_
         refine pX 3 (some 36) (mkB124 16 11) ?_
         refine pX 4 (some 37) (mkB124 16 27) ?_
         refine pX 6 (some 39) (mkB124 16 91) ?_
         refine pX 7 (some 40) (mkB124 16 219) ?_
         refine pX 9 (some 42) (mkB124 16 731) ?_
         refine pX 10 (some 43) (mkB124 16 1755) ?_
         refine tT (v := ?_) (a' := ?_) HT_ HW_ hHeld 2 (some 35) (mkB124 16 1759) ?_ ?_ ?_; rotate_left 2; (rintro w' ⟨s0, s1, s2, s3⟩; go_simp; with_reducible rfl); (simp only [Act.put, qA, qB, qC, i64_w, i32_w]; rfl)
         refine pX 12 (some 11) (mkB124 16 5855) ?_
         refine tT (v := ?_) (a' := ?_) HT_ HW_ hHeld 5 (some 38) (mkB124 16 5887) ?_ ?_ ?_; rotate_left 2; (rintro w' ⟨s0, s1, s2, s3⟩; go_simp; with_reducible rfl); (simp only [Act.put, qA, qB, qC, i64_w, i32_w]; rfl)
         refine pX 13 (some 12) (mkB124 16 14079) ?_
         refine tT (v := ?_) (a' := ?_) HT_ HW_ hHeld 8 (some 41) (mkB124 16 14335) ?_ ?_ ?_; rotate_left 2; (rintro w' ⟨s0, s1, s2, s3⟩; go_simp; with_reducible rfl); (simp only [Act.put, qA, qB, qC, i64_w, i32_w]; rfl)
         refine pX 14 (some 13) (mkB124 16 30719) ?_
         refine tT (v := ?_) (a' := ?_) HT_ HW_ hHeld 11 (some 44) (mkB124 16 32767) ?_ ?_ ?_; rotate_left 2; (rintro w' ⟨s0, s1, s2, s3⟩; go_simp; with_reducible rfl); (simp only [Act.put, qA, qB, qC, i64_w, i32_w]; rfl)
         refine pX 15 (some 14) (mkB124 16 65535) ?_
         refine done_ (done_of HT_.out (by kernel_rfl)) ?_
         try go_wp2
         go_loopg [7, 8, 9, 10, 11, 12, 13, 14, 15] k (fun kq v7 v8 v9 v10 v11 v12 v13 v14 v15 w' => ∃ (x7_1 : Int) (x8_1 : Int) (x9_1 : Int) (x10_1 : Int) (x11_1 : Int) (x12_1 : Int) (x13_1 : Int) (x14_1 : Int) (x15_1 : Int), v7 = .int .u32 x7_1 ∧ v8 = .int .u32 x8_1 ∧ v9 = .int .u32 x9_1 ∧ v10 = .int .u32 x10_1 ∧ v11 = .int .u32 x11_1 ∧ v12 = .int .u32 x12_1 ∧ v13 = .int .u32 x13_1 ∧ v14 = .int .u32 x14_1 ∧ v15 = .int .i64 x15_1 ∧ Aside0 (mosaicref01_Mix.l0 kq l0 t259 t262 x7_1 x8_1 x9_1 x10_1 x11_1 x12_1 x13_1 x14_1 x15_1 = some r) ∧ Aside0 (kq ≤ k) ∧ Aside0 (Kd.R (Kd.int .u32) 104 w' w.heap.size (fun k_ => some k_ ≠ (v263 : Value).ownBlock) v260 t259) ∧ Aside0 (Kd.R (Kd.int .u32) 104 w' w.heap.size (fun k_ => some k_ ≠ (v260 : Value).ownBlock) v263 t262) ∧ Aside0 (Below w.heap.size w w'))
         case atStart => exact ⟨(rd l0 0), (rd l0 1), (rd l0 2), (rd l0 3), (rd l0 4), (rd l0 5), (rd l0 6), (rd l0 7), (0), zF, zF, zF, zF, zF, zF, zF, zF, zF, H', ⟨Nat.le_refl _⟩, ⟨by (with_reducible repeat (first | apply Kd.R_alloc | apply Kd.R_drewN | apply Kd.R_drew)); exact Kd.R_mono HO261.out (fun _ hk => hk.2)⟩, ⟨by (with_reducible repeat (first | apply Kd.R_alloc | apply Kd.R_drewN | apply Kd.R_drew)); exact Kd.R_mono HO264.out (fun _ hk => hk.2)⟩, ⟨zB⟩⟩
         case round =>
          clear H'
          (try clear c1); (try clear p2); (try clear q2); (try clear hx2); (try clear qi2); (try clear c5); (try clear c5b0); (try clear c5b1); (try clear c5b2); (try clear c6); (try clear c6b0); (try clear c6b1); (try clear c7); (try clear c7b0); (try clear c7b1); (try clear c8); (try clear c8b0); (try clear c8b1); (try clear c9); (try clear c9b0); (try clear c9b1); (try clear c10); (try clear c10b0); (try clear c10b1); (try clear c11); (try clear c11b0); (try clear c11b1); (try clear c12); (try clear c12b0); (try clear c12b1); (try clear hx265_0); (try clear hx266_0); (try clear hx267_0); (try clear hx268_0); (try clear hx269_0); (try clear hx270_0); (try clear hx271_0); (try clear hx272_0); (try clear p265); (try clear p266); (try clear p267); (try clear p268); (try clear p269); (try clear p270); (try clear p271); (try clear p272); (try clear q265); (try clear q266); (try clear q267); (try clear q268); (try clear q269); (try clear q270); (try clear q271); (try clear q272); obtain ⟨x7_1, x8_1, x9_1, x10_1, x11_1, x12_1, x13_1, x14_1, x15_1, rfl, rfl, rfl, rfl, rfl, rfl, rfl, rfl, rfl, HA, HK1, HO_5, HO_6, HB⟩ := hrel
          cases gk with
          | zero => exact absurd HA.out (by simp [mosaicref01_Mix.l0])
          | succ k1 =>
           have H := HA.out; clear HA; simp only [mosaicref01_Mix.l0] at H
           by_cases c17 : x15_1 < 64
           ·
            rw [if_pos c17] at H
            have c17b0 : decide (x15_1 < 64) = true := decide_eq_true c17
            clear c17; replace H := Option.bind_eq_some_iff.mp H
            obtain ⟨t284, A180, H⟩ := H
            replace H : ((mosaicref01_rotr.f x11_1 11).bind fun t285 => ((mosaicref01_rotr.f x11_1 25).bind fun t286 => (if 0 ≤ x15_1 then (if x15_1 < (t262.length : Int) then (if x15_1 < (t259.length : Int) then ((mosaicref01_rotr.f x7_1 2).bind fun t289 => ((mosaicref01_rotr.f x7_1 13).bind fun t290 => ((mosaicref01_rotr.f x7_1 22).bind fun t291 => (mosaicref01_Mix.l0 k1 l0 t259 t262 ((((((((((x14_1 + (Go.bits .xor .u32 (Go.bits .xor .u32 t284 t285) t286)) % 4294967296) + (Go.bits .xor .u32 (Go.bits .and .u32 x11_1 x12_1) (Go.bits .and .u32 (Go.bits .xor .u32 4294967295 x11_1) x13_1))) % 4294967296) + (rd t262 x15_1)) % 4294967296) + (rd t259 x15_1)) % 4294967296) + (((Go.bits .xor .u32 (Go.bits .xor .u32 t289 t290) t291) + (Go.bits .xor .u32 (Go.bits .xor .u32 (Go.bits .and .u32 x7_1 x8_1) (Go.bits .and .u32 x7_1 x9_1)) (Go.bits .and .u32 x8_1 x9_1))) % 4294967296)) % 4294967296) x7_1 x8_1 x9_1 ((x10_1 + ((((((((x14_1 + (Go.bits .xor .u32 (Go.bits .xor .u32 t284 t285) t286)) % 4294967296) + (Go.bits .xor .u32 (Go.bits .and .u32 x11_1 x12_1) (Go.bits .and .u32 (Go.bits .xor .u32 4294967295 x11_1) x13_1))) % 4294967296) + (rd t262 x15_1)) % 4294967296) + (rd t259 x15_1)) % 4294967296)) % 4294967296) x11_1 x12_1 x13_1 (wrap64 (x15_1 + 1)))))) else (none)) else (none)) else (none)))) = some r := H
            have A18 := Aside0.mk A180
            clear A180; replace H := Option.bind_eq_some_iff.mp H
            obtain ⟨t285, A190, H⟩ := H
            replace H : ((mosaicref01_rotr.f x11_1 25).bind fun t286 => (if 0 ≤ x15_1 then (if x15_1 < (t262.length : Int) then (if x15_1 < (t259.length : Int) then ((mosaicref01_rotr.f x7_1 2).bind fun t289 => ((mosaicref01_rotr.f x7_1 13).bind fun t290 => ((mosaicref01_rotr.f x7_1 22).bind fun t291 => (mosaicref01_Mix.l0 k1 l0 t259 t262 ((((((((((x14_1 + (Go.bits .xor .u32 (Go.bits .xor .u32 t284 t285) t286)) % 4294967296) + (Go.bits .xor .u32 (Go.bits .and .u32 x11_1 x12_1) (Go.bits .and .u32 (Go.bits .xor .u32 4294967295 x11_1) x13_1))) % 4294967296) + (rd t262 x15_1)) % 4294967296) + (rd t259 x15_1)) % 4294967296) + (((Go.bits .xor .u32 (Go.bits .xor .u32 t289 t290) t291) + (Go.bits .xor .u32 (Go.bits .xor .u32 (Go.bits .and .u32 x7_1 x8_1) (Go.bits .and .u32 x7_1 x9_1)) (Go.bits .and .u32 x8_1 x9_1))) % 4294967296)) % 4294967296) x7_1 x8_1 x9_1 ((x10_1 + ((((((((x14_1 + (Go.bits .xor .u32 (Go.bits .xor .u32 t284 t285) t286)) % 4294967296) + (Go.bits .xor .u32 (Go.bits .and .u32 x11_1 x12_1) (Go.bits .and .u32 (Go.bits .xor .u32 4294967295 x11_1) x13_1))) % 4294967296) + (rd t262 x15_1)) % 4294967296) + (rd t259 x15_1)) % 4294967296)) % 4294967296) x11_1 x12_1 x13_1 (wrap64 (x15_1 + 1)))))) else (none)) else (none)) else (none))) = some r := H
            have A19 := Aside0.mk A190
            clear A190; replace H := Option.bind_eq_some_iff.mp H
            obtain ⟨t286, A200, H⟩ := H
            replace H : (if 0 ≤ x15_1 then (if x15_1 < (t262.length : Int) then (if x15_1 < (t259.length : Int) then ((mosaicref01_rotr.f x7_1 2).bind fun t289 => ((mosaicref01_rotr.f x7_1 13).bind fun t290 => ((mosaicref01_rotr.f x7_1 22).bind fun t291 => (mosaicref01_Mix.l0 k1 l0 t259 t262 ((((((((((x14_1 + (Go.bits .xor .u32 (Go.bits .xor .u32 t284 t285) t286)) % 4294967296) + (Go.bits .xor .u32 (Go.bits .and .u32 x11_1 x12_1) (Go.bits .and .u32 (Go.bits .xor .u32 4294967295 x11_1) x13_1))) % 4294967296) + (rd t262 x15_1)) % 4294967296) + (rd t259 x15_1)) % 4294967296) + (((Go.bits .xor .u32 (Go.bits .xor .u32 t289 t290) t291) + (Go.bits .xor .u32 (Go.bits .xor .u32 (Go.bits .and .u32 x7_1 x8_1) (Go.bits .and .u32 x7_1 x9_1)) (Go.bits .and .u32 x8_1 x9_1))) % 4294967296)) % 4294967296) x7_1 x8_1 x9_1 ((x10_1 + ((((((((x14_1 + (Go.bits .xor .u32 (Go.bits .xor .u32 t284 t285) t286)) % 4294967296) + (Go.bits .xor .u32 (Go.bits .and .u32 x11_1 x12_1) (Go.bits .and .u32 (Go.bits .xor .u32 4294967295 x11_1) x13_1))) % 4294967296) + (rd t262 x15_1)) % 4294967296) + (rd t259 x15_1)) % 4294967296)) % 4294967296) x11_1 x12_1 x13_1 (wrap64 (x15_1 + 1)))))) else (none)) else (none)) else (none)) = some r := H
            have A20 := Aside0.mk A200
            clear A200; by_cases c21 : 0 ≤ x15_1
            ·
             rw [if_pos c21] at H
             have c21b0 : decide (0 ≤ x15_1) = true := decide_eq_true c21
             clear c21; by_cases c22 : x15_1 < (t262.length : Int)
             ·
              rw [if_pos c22] at H
              have c22b0 : decide (x15_1 < (t262.length : Int)) = true := decide_eq_true c22
              clear c22; by_cases c23 : x15_1 < (t259.length : Int)
              ·
               rw [if_pos c23] at H
               have c23b0 : decide (x15_1 < (t259.length : Int)) = true := decide_eq_true c23
               clear c23; replace H := Option.bind_eq_some_iff.mp H
               obtain ⟨t289, A240, H⟩ := H
               replace H : ((mosaicref01_rotr.f x7_1 13).bind fun t290 => ((mosaicref01_rotr.f x7_1 22).bind fun t291 => (mosaicref01_Mix.l0 k1 l0 t259 t262 ((((((((((x14_1 + (Go.bits .xor .u32 (Go.bits .xor .u32 t284 t285) t286)) % 4294967296) + (Go.bits .xor .u32 (Go.bits .and .u32 x11_1 x12_1) (Go.bits .and .u32 (Go.bits .xor .u32 4294967295 x11_1) x13_1))) % 4294967296) + (rd t262 x15_1)) % 4294967296) + (rd t259 x15_1)) % 4294967296) + (((Go.bits .xor .u32 (Go.bits .xor .u32 t289 t290) t291) + (Go.bits .xor .u32 (Go.bits .xor .u32 (Go.bits .and .u32 x7_1 x8_1) (Go.bits .and .u32 x7_1 x9_1)) (Go.bits .and .u32 x8_1 x9_1))) % 4294967296)) % 4294967296) x7_1 x8_1 x9_1 ((x10_1 + ((((((((x14_1 + (Go.bits .xor .u32 (Go.bits .xor .u32 t284 t285) t286)) % 4294967296) + (Go.bits .xor .u32 (Go.bits .and .u32 x11_1 x12_1) (Go.bits .and .u32 (Go.bits .xor .u32 4294967295 x11_1) x13_1))) % 4294967296) + (rd t262 x15_1)) % 4294967296) + (rd t259 x15_1)) % 4294967296)) % 4294967296) x11_1 x12_1 x13_1 (wrap64 (x15_1 + 1))))) = some r := H
               have A24 := Aside0.mk A240
               clear A240; replace H := Option.bind_eq_some_iff.mp H
               obtain ⟨t290, A250, H⟩ := H
               replace H : ((mosaicref01_rotr.f x7_1 22).bind fun t291 => (mosaicref01_Mix.l0 k1 l0 t259 t262 ((((((((((x14_1 + (Go.bits .xor .u32 (Go.bits .xor .u32 t284 t285) t286)) % 4294967296) + (Go.bits .xor .u32 (Go.bits .and .u32 x11_1 x12_1) (Go.bits .and .u32 (Go.bits .xor .u32 4294967295 x11_1) x13_1))) % 4294967296) + (rd t262 x15_1)) % 4294967296) + (rd t259 x15_1)) % 4294967296) + (((Go.bits .xor .u32 (Go.bits .xor .u32 t289 t290) t291) + (Go.bits .xor .u32 (Go.bits .xor .u32 (Go.bits .and .u32 x7_1 x8_1) (Go.bits .and .u32 x7_1 x9_1)) (Go.bits .and .u32 x8_1 x9_1))) % 4294967296)) % 4294967296) x7_1 x8_1 x9_1 ((x10_1 + ((((((((x14_1 + (Go.bits .xor .u32 (Go.bits .xor .u32 t284 t285) t286)) % 4294967296) + (Go.bits .xor .u32 (Go.bits .and .u32 x11_1 x12_1) (Go.bits .and .u32 (Go.bits .xor .u32 4294967295 x11_1) x13_1))) % 4294967296) + (rd t262 x15_1)) % 4294967296) + (rd t259 x15_1)) % 4294967296)) % 4294967296) x11_1 x12_1 x13_1 (wrap64 (x15_1 + 1)))) = some r := H
               have A25 := Aside0.mk A250
               clear A250; replace H := Option.bind_eq_some_iff.mp H
               obtain ⟨t291, A260, H⟩ := H
               replace H : (mosaicref01_Mix.l0 k1 l0 t259 t262 ((((((((((x14_1 + (Go.bits .xor .u32 (Go.bits .xor .u32 t284 t285) t286)) % 4294967296) + (Go.bits .xor .u32 (Go.bits .and .u32 x11_1 x12_1) (Go.bits .and .u32 (Go.bits .xor .u32 4294967295 x11_1) x13_1))) % 4294967296) + (rd t262 x15_1)) % 4294967296) + (rd t259 x15_1)) % 4294967296) + (((Go.bits .xor .u32 (Go.bits .xor .u32 t289 t290) t291) + (Go.bits .xor .u32 (Go.bits .xor .u32 (Go.bits .and .u32 x7_1 x8_1) (Go.bits .and .u32 x7_1 x9_1)) (Go.bits .and .u32 x8_1 x9_1))) % 4294967296)) % 4294967296) x7_1 x8_1 x9_1 ((x10_1 + ((((((((x14_1 + (Go.bits .xor .u32 (Go.bits .xor .u32 t284 t285) t286)) % 4294967296) + (Go.bits .xor .u32 (Go.bits .and .u32 x11_1 x12_1) (Go.bits .and .u32 (Go.bits .xor .u32 4294967295 x11_1) x13_1))) % 4294967296) + (rd t262 x15_1)) % 4294967296) + (rd t259 x15_1)) % 4294967296)) % 4294967296) x11_1 x12_1 x13_1 (wrap64 (x15_1 + 1))) = some r := H
               have A26 := Aside0.mk A260
               clear A260; have H' := Aside0.mk H
               clear H; try go_wp2
               replace HO_5 := Aside0.mk (Kd.R_drew HO_5.out)
               replace HO_6 := Aside0.mk (Kd.R_drew HO_6.out)
               replace HB := Aside0.mk (below_drew1 HB.out); obtain ⟨Ao28, co28, eo28⟩ := Kd.R_slice HO_6.out
               (first | subst eo28 | (injection eo28 with f1_ f2_ f3_; have f4_ := f1_.symm; have f5_ := f3_.symm; clear f1_ f2_ f3_; subst f4_; subst f5_))
               have p287 : 0 ≤ (x15_1 : Int) := of_decide_eq_true zA
               have q287 : x15_1 < (t262.length : Int) := of_decide_eq_true zA
               obtain ⟨ad287, e287, hx287_0⟩ := Kd.at_int (Kd.R_reads' HO_6.out).2.2 x15_1 p287 q287
               cases e287
               replace p287 := eq_true p287
               replace q287 := eq_true q287
               obtain ⟨Ao29, co29, eo29⟩ := Kd.R_slice HO_5.out
               (first | subst eo29 | (injection eo29 with f1_ f2_ f3_; have f4_ := f1_.symm; have f5_ := f3_.symm; clear f1_ f2_ f3_; subst f4_; subst f5_))
               have p288 : 0 ≤ (x15_1 : Int) := of_decide_eq_true zA
               have q288 : x15_1 < (t259.length : Int) := of_decide_eq_true zA
               obtain ⟨ad288, e288, hx288_0⟩ := Kd.at_int (Kd.R_reads' HO_5.out).2.2 x15_1 p288 q288
               cases e288
               replace p288 := eq_true p288
               replace q288 := eq_true q288
               refine start_ (n := 30) (S := fun w' => w'.cell? (ad287.add (x15_1).toNat) = some (.int .u32 (rd t262 x15_1)) ∧ w'.cell? (ad288.add (x15_1).toNat) = some (.int .u32 (rd t259 x15_1))) (ds := []) (mkB124 30 0) (by kernel_rfl) rfl rfl ⟨hx287_0, hx288_0⟩ (fun hHeld => ?_); refine with_tabW mosaicref01_Mix.tab8 mosaicref01_Mix.bits8 (fun HT_ HW_ => ?_)
               generalize wr.drew = w27 at HO_5 HO_6 HB hx287_0 hx288_0 hHeld ⊢
               refine pX 0 (some 49) (mkB124 30 1) ?_
               refine pX 1 (some 50) (mkB124 30 3) ?_
               refine pX 3 (some 52) (mkB124 30 11) ?_
               refine pX 6 (some 55) (mkB124 30 75) ?_
               refine pX 10 (some 59) (mkB124 30 1099) ?_
               refine pX 11 (some 60) (mkB124 30 3147) ?_
               refine pX 12 (some 61) (mkB124 30 7243) ?_
               refine pX 13 (some 62) (mkB124 30 15435) ?_
               refine pX 14 (some 63) (mkB124 30 31819) ?_
               refine pX 15 (some 64) (mkB124 30 64587) ?_
               refine pX 16 (some 65) (mkB124 30 130123) ?_
               refine pX 17 (some 66) (mkB124 30 261195) ?_
               refine pX 19 (some 68) (mkB124 30 785483) ?_
               refine pX 20 (some 69) (mkB124 30 1834059) ?_
               refine pX 21 (some 70) (mkB124 30 3931211) ?_
               refine pX 24 (some 73) (mkB124 30 20708427) ?_
               refine pX 25 (some 74) (mkB124 30 54262859) ?_
               refine pX 26 (some 75) (mkB124 30 121371723) ?_
               refine tT (v := ?_) (a' := ?_) HT_ HW_ hHeld 22 (some 71) (mkB124 30 125566027) ?_ ?_ ?_; rotate_left 2; (rintro w' ⟨s0, s1⟩; go_simp; with_reducible rfl); (simp only [Act.put, qA, qB, qC, i64_w, i32_w]; rfl)
               refine tT (v := ?_) (a' := ?_) HT_ HW_ hHeld 27 (some 76) (mkB124 30 259783755) ?_ ?_ ?_; rotate_left 2; (rintro w' ⟨s0, s1⟩; go_simp; with_reducible rfl); (simp only [Act.put, qA, qB, qC, i64_w, i32_w]; rfl)
               refine one_ (i := 2) (N := some 51) (mkB124 30 259783759) rfl rfl (one_of HT_.out (by kernel_rfl)) (by decide) (fun K hK => ?_)
               refine goes_ Tryz.func130 (by kernel_rfl) rfl #[.int .u32 x11_1, .int .u64 6] (by rfl) rfl rfl zM ?_
               with_reducible refine (mosaicref01_rotr.calls x11_1 6 t284 _ A18.out).mono ?_
               rintro e w' ⟨rfl, ⟨nd, rfl⟩⟩
               refine ⟨_, rfl, ?_⟩; refine hK.out _ _ ⟨hHeld.1, hHeld.2⟩ (fun hHeld => ?_)
               clear hK K; refine norm_ (a' := ?_) ?_ ?_
               rotate_left
               ·
                show Act.put _ (some 51) _ = _
                simp only [Act.put, List.setIfInBounds_toArray, List.set_cons_zero, List.set_cons_succ, i64_w, i32_w]; rfl
               refine one_ (i := 4) (N := some 53) (mkB124 30 259783775) rfl rfl (one_of HT_.out (by kernel_rfl)) (by decide) (fun K hK => ?_)
               refine goes_ Tryz.func130 (by kernel_rfl) rfl #[.int .u32 x11_1, .int .u64 11] (by rfl) rfl rfl zM ?_
               with_reducible refine (mosaicref01_rotr.calls x11_1 11 t285 _ A19.out).mono ?_
               rintro e w' ⟨rfl, ⟨nd, rfl⟩⟩
               refine ⟨_, rfl, ?_⟩; refine hK.out _ _ ⟨hHeld.1, hHeld.2⟩ (fun hHeld => ?_)
               clear hK K; refine norm_ (a' := ?_) ?_ ?_
               rotate_left
               ·
                show Act.put _ (some 53) _ = _
                simp only [Act.put, List.setIfInBounds_toArray, List.set_cons_zero, List.set_cons_succ, i64_w, i32_w]; rfl
               refine pX 5 (some 54) (mkB124 30 259783807) ?_
               refine one_ (i := 7) (N := some 56) (mkB124 30 259783935) rfl rfl (one_of HT_.out (by kernel_rfl)) (by decide) (fun K hK => ?_)
               refine goes_ Tryz.func130 (by kernel_rfl) rfl #[.int .u32 x11_1, .int .u64 25] (by rfl) rfl rfl zM ?_
               with_reducible refine (mosaicref01_rotr.calls x11_1 25 t286 _ A20.out).mono ?_
               rintro e w' ⟨rfl, ⟨nd, rfl⟩⟩
               refine ⟨_, rfl, ?_⟩; refine hK.out _ _ ⟨hHeld.1, hHeld.2⟩ (fun hHeld => ?_)
               clear hK K; refine norm_ (a' := ?_) ?_ ?_
               rotate_left
               ·
                show Act.put _ (some 56) _ = _
                simp only [Act.put, List.setIfInBounds_toArray, List.set_cons_zero, List.set_cons_succ, i64_w, i32_w]; rfl
               refine pX 8 (some 57) (mkB124 30 259784191) ?_
               refine pX 9 (some 58) (mkB124 30 259784703) ?_
               refine pX 18 (some 67) (mkB124 30 260046847) ?_
               refine pX 23 (some 72) (mkB124 30 268435455) ?_
               refine pX 28 (some 77) (mkB124 30 536870911) ?_
               refine pX 29 (some 16) (mkB124 30 1073741823) ?_
               refine done_ (done_of HT_.out (by kernel_rfl)) ?_
               try go_wp2_with (first | ((with_reducible refine gate_callee (f := 130) rfl ?_); refine goesL_ (some 79) rfl rfl Tryz.func130 (by kernel_rfl) rfl #[.int .u32 x7_1, .int .u64 2] rfl zM ?_; (with_reducible refine (mosaicref01_rotr.calls x7_1 2 t289 _ A24.out).mono ?_); rintro e w' ⟨rfl, ⟨nd, rfl⟩⟩; refine ⟨_, rfl, ?_⟩) | ((with_reducible refine gate_callee (f := 130) rfl ?_); refine goesL_ (some 81) rfl rfl Tryz.func130 (by kernel_rfl) rfl #[.int .u32 x7_1, .int .u64 13] rfl zM ?_; (with_reducible refine (mosaicref01_rotr.calls x7_1 13 t290 _ A25.out).mono ?_); rintro e w' ⟨rfl, ⟨nd, rfl⟩⟩; refine ⟨_, rfl, ?_⟩) | ((with_reducible refine gate_callee (f := 130) rfl ?_); refine goesL_ (some 84) rfl rfl Tryz.func130 (by kernel_rfl) rfl #[.int .u32 x7_1, .int .u64 22] rfl zM ?_; (with_reducible refine (mosaicref01_rotr.calls x7_1 22 t291 _ A26.out).mono ?_); rintro e w' ⟨rfl, ⟨nd, rfl⟩⟩; refine ⟨_, rfl, ?_⟩))
               go_roundg k1
               case measure => have := HK1.out; omega
               case rel => exact ⟨((((((((((x14_1 + (Go.bits .xor .u32 (Go.bits .xor .u32 t284 t285) t286)) % 4294967296) + (Go.bits .xor .u32 (Go.bits .and .u32 x11_1 x12_1) (Go.bits .and .u32 (Go.bits .xor .u32 4294967295 x11_1) x13_1))) % 4294967296) + (rd t262 x15_1)) % 4294967296) + (rd t259 x15_1)) % 4294967296) + (((Go.bits .xor .u32 (Go.bits .xor .u32 t289 t290) t291) + (Go.bits .xor .u32 (Go.bits .xor .u32 (Go.bits .and .u32 x7_1 x8_1) (Go.bits .and .u32 x7_1 x9_1)) (Go.bits .and .u32 x8_1 x9_1))) % 4294967296)) % 4294967296), (x7_1), (x8_1), (x9_1), ((x10_1 + ((((((((x14_1 + (Go.bits .xor .u32 (Go.bits .xor .u32 t284 t285) t286)) % 4294967296) + (Go.bits .xor .u32 (Go.bits .and .u32 x11_1 x12_1) (Go.bits .and .u32 (Go.bits .xor .u32 4294967295 x11_1) x13_1))) % 4294967296) + (rd t262 x15_1)) % 4294967296) + (rd t259 x15_1)) % 4294967296)) % 4294967296), (x11_1), (x12_1), (x13_1), (wrap64 (x15_1 + 1)), zF, zF, zF, zF, zF, zF, zF, zF, zF, H', ⟨by have := HK1.out; omega⟩, ⟨zR HO_5⟩, ⟨zR HO_6⟩, ⟨zB⟩⟩
              ·
               rw [if_neg c23] at H
               exact absurd H (by simp)
             ·
              rw [if_neg c22] at H
              exact absurd H (by simp)
            ·
             rw [if_neg c21] at H
             exact absurd H (by simp)
           ·
            rw [if_neg c17] at H
            have c17b0 : decide (x15_1 < 64) = false := decide_eq_false c17
            clear c17; by_cases c30 : 0 < (l0.length : Int)
            ·
             rw [if_pos c30] at H
             have c30b0 : decide (0 < (l0.length : Int)) = true := decide_eq_true c30
             have c30b1 : decide (0 < l0.length) = true := decide_eq_true (by omega)
             have c30b2 : (0 < l0.length) := by omega
             clear c30; by_cases c31 : 1 < (l0.length : Int)
             ·
              rw [if_pos c31] at H
              have c31b0 : decide (1 < (l0.length : Int)) = true := decide_eq_true c31
              have c31b1 : decide (1 < l0.length) = true := decide_eq_true (by omega)
              clear c31; by_cases c32 : 2 < (l0.length : Int)
              ·
               rw [if_pos c32] at H
               have c32b0 : decide (2 < (l0.length : Int)) = true := decide_eq_true c32
               have c32b1 : decide (2 < l0.length) = true := decide_eq_true (by omega)
               clear c32; by_cases c33 : 3 < (l0.length : Int)
               ·
                rw [if_pos c33] at H
                have c33b0 : decide (3 < (l0.length : Int)) = true := decide_eq_true c33
                have c33b1 : decide (3 < l0.length) = true := decide_eq_true (by omega)
                clear c33; by_cases c34 : 4 < (l0.length : Int)
                ·
                 rw [if_pos c34] at H
                 have c34b0 : decide (4 < (l0.length : Int)) = true := decide_eq_true c34
                 have c34b1 : decide (4 < l0.length) = true := decide_eq_true (by omega)
                 clear c34; by_cases c35 : 5 < (l0.length : Int)
                 ·
                  rw [if_pos c35] at H
                  have c35b0 : decide (5 < (l0.length : Int)) = true := decide_eq_true c35
                  have c35b1 : decide (5 < l0.length) = true := decide_eq_true (by omega)
                  clear c35; by_cases c36 : 6 < (l0.length : Int)
                  ·
                   rw [if_pos c36] at H
                   have c36b0 : decide (6 < (l0.length : Int)) = true := decide_eq_true c36
                   have c36b1 : decide (6 < l0.length) = true := decide_eq_true (by omega)
                   clear c36; by_cases c37 : 7 < (l0.length : Int)
                   ·
                    rw [if_pos c37] at H
                    have c37b0 : decide (7 < (l0.length : Int)) = true := decide_eq_true c37
                    have c37b1 : decide (7 < l0.length) = true := decide_eq_true (by omega)
                    clear c37; obtain ⟨y281, hy281⟩ : ∃ y_ : List Int, y_ = (([((rd l0 0) + x7_1) % 4294967296, ((rd l0 1) + x8_1) % 4294967296, ((rd l0 2) + x9_1) % 4294967296, ((rd l0 3) + x10_1) % 4294967296, ((rd l0 4) + x11_1) % 4294967296, ((rd l0 5) + x12_1) % 4294967296, ((rd l0 6) + x13_1) % 4294967296, ((rd l0 7) + x14_1) % 4294967296] : List Int)) := ⟨_, rfl⟩
                    replace H : (some y281) = some r := by first | (rw [hy281]; with_reducible exact H) | (have H2_ := (Option.bind_some _ _).symm.trans H; rw [hy281]; with_reducible exact H2_) | (have H2_ := (Option.bind_some _ _).symm.trans H; with_reducible exact H2_) | with_reducible exact H | (rw [hy281]; exact H) | exact H
                    have Ny281 := Aside0.mk hy281
                    clear hy281; obtain rfl := Option.some.inj H
                    try go_wp2
                    replace HO_5 := Aside0.mk (Kd.R_drew HO_5.out)
                    replace HO_6 := Aside0.mk (Kd.R_drew HO_6.out)
                    replace HB := Aside0.mk (below_drew1 HB.out); have p273 : 0 ≤ (0 : Int) := (by omega)
                    have q273 : 0 < (l0.length : Int) := of_decide_eq_true zA
                    obtain ⟨ad273, e273, hx273_0⟩ := Kd.at_int HR0.out 0 p273 q273
                    have hw273_0 := hx273_0; (try rw [show ((0 : Int)).toNat = 0 from rfl] at hw273_0)
                    (try rw [show 0 * 1 = 0 from rfl] at hw273_0)
                    (try rw [Addr.add_zero'] at hw273_0)
                    obtain rfl : ad265 = ad273 := (by injection e273)
                    have qi273 : (0 < l0.length) = True := eq_true (by omega)
                    (try rw [show ((0 : Int)).toNat = 0 from rfl] at hx273_0)
                    (try rw [Addr.add_zero'] at hx273_0)
                    (try replace hx273_0 := (HB.out.cell (World.block_lt_of_cell? w _ hx273_0)).trans hx273_0)
                    replace p273 := eq_true p273
                    replace q273 := eq_true q273
                    have p274 : 0 ≤ (1 : Int) := (by omega)
                    have q274 : 1 < (l0.length : Int) := of_decide_eq_true zA
                    obtain ⟨ad274, e274, hx274_0⟩ := Kd.at_int HR0.out 1 p274 q274
                    have hw274_0 := hx274_0; (try rw [show ((1 : Int)).toNat = 1 from rfl] at hw274_0)
                    (try rw [show 1 * 1 = 1 from rfl] at hw274_0)
                    (try simp only [Nat.reduceMul, Nat.reduceEqDiff, Go.Addr.add, ↓reduceIte] at hw274_0)
                    obtain rfl : ad265 = ad274 := (by injection e274)
                    (try simp only [show (1 : Int).toNat = 1 from rfl, Nat.reduceMul, Nat.reduceEqDiff, Go.Addr.add, ↓reduceIte] at hx274_0)
                    have qi274 : (1 < l0.length) = True := eq_true (by omega)
                    (try rw [show ((1 : Int)).toNat = 1 from rfl] at hx274_0)
                    (try replace hx274_0 := (HB.out.cell (World.block_lt_of_cell? w _ hx274_0)).trans hx274_0)
                    replace p274 := eq_true p274
                    replace q274 := eq_true q274
                    have p275 : 0 ≤ (2 : Int) := (by omega)
                    have q275 : 2 < (l0.length : Int) := of_decide_eq_true zA
                    obtain ⟨ad275, e275, hx275_0⟩ := Kd.at_int HR0.out 2 p275 q275
                    have hw275_0 := hx275_0; (try rw [show ((2 : Int)).toNat = 2 from rfl] at hw275_0)
                    (try rw [show 2 * 1 = 2 from rfl] at hw275_0)
                    (try simp only [Nat.reduceMul, Nat.reduceEqDiff, Go.Addr.add, ↓reduceIte] at hw275_0)
                    obtain rfl : ad265 = ad275 := (by injection e275)
                    (try simp only [show (2 : Int).toNat = 2 from rfl, Nat.reduceMul, Nat.reduceEqDiff, Go.Addr.add, ↓reduceIte] at hx275_0)
                    have qi275 : (2 < l0.length) = True := eq_true (by omega)
                    (try rw [show ((2 : Int)).toNat = 2 from rfl] at hx275_0)
                    (try replace hx275_0 := (HB.out.cell (World.block_lt_of_cell? w _ hx275_0)).trans hx275_0)
                    replace p275 := eq_true p275
                    replace q275 := eq_true q275
                    have p276 : 0 ≤ (3 : Int) := (by omega)
                    have q276 : 3 < (l0.length : Int) := of_decide_eq_true zA
                    obtain ⟨ad276, e276, hx276_0⟩ := Kd.at_int HR0.out 3 p276 q276
                    have hw276_0 := hx276_0; (try rw [show ((3 : Int)).toNat = 3 from rfl] at hw276_0)
                    (try rw [show 3 * 1 = 3 from rfl] at hw276_0)
                    (try simp only [Nat.reduceMul, Nat.reduceEqDiff, Go.Addr.add, ↓reduceIte] at hw276_0)
                    obtain rfl : ad265 = ad276 := (by injection e276)
                    (try simp only [show (3 : Int).toNat = 3 from rfl, Nat.reduceMul, Nat.reduceEqDiff, Go.Addr.add, ↓reduceIte] at hx276_0)
                    have qi276 : (3 < l0.length) = True := eq_true (by omega)
                    (try rw [show ((3 : Int)).toNat = 3 from rfl] at hx276_0)
                    (try replace hx276_0 := (HB.out.cell (World.block_lt_of_cell? w _ hx276_0)).trans hx276_0)
                    replace p276 := eq_true p276
                    replace q276 := eq_true q276
                    have p277 : 0 ≤ (4 : Int) := (by omega)
                    have q277 : 4 < (l0.length : Int) := of_decide_eq_true zA
                    obtain ⟨ad277, e277, hx277_0⟩ := Kd.at_int HR0.out 4 p277 q277
                    have hw277_0 := hx277_0; (try rw [show ((4 : Int)).toNat = 4 from rfl] at hw277_0)
                    (try rw [show 4 * 1 = 4 from rfl] at hw277_0)
                    (try simp only [Nat.reduceMul, Nat.reduceEqDiff, Go.Addr.add, ↓reduceIte] at hw277_0)
                    obtain rfl : ad265 = ad277 := (by injection e277)
                    (try simp only [show (4 : Int).toNat = 4 from rfl, Nat.reduceMul, Nat.reduceEqDiff, Go.Addr.add, ↓reduceIte] at hx277_0)
                    have qi277 : (4 < l0.length) = True := eq_true (by omega)
                    (try rw [show ((4 : Int)).toNat = 4 from rfl] at hx277_0)
                    (try replace hx277_0 := (HB.out.cell (World.block_lt_of_cell? w _ hx277_0)).trans hx277_0)
                    replace p277 := eq_true p277
                    replace q277 := eq_true q277
                    have p278 : 0 ≤ (5 : Int) := (by omega)
                    have q278 : 5 < (l0.length : Int) := of_decide_eq_true zA
                    obtain ⟨ad278, e278, hx278_0⟩ := Kd.at_int HR0.out 5 p278 q278
                    have hw278_0 := hx278_0; (try rw [show ((5 : Int)).toNat = 5 from rfl] at hw278_0)
                    (try rw [show 5 * 1 = 5 from rfl] at hw278_0)
                    (try simp only [Nat.reduceMul, Nat.reduceEqDiff, Go.Addr.add, ↓reduceIte] at hw278_0)
                    obtain rfl : ad265 = ad278 := (by injection e278)
                    (try simp only [show (5 : Int).toNat = 5 from rfl, Nat.reduceMul, Nat.reduceEqDiff, Go.Addr.add, ↓reduceIte] at hx278_0)
                    have qi278 : (5 < l0.length) = True := eq_true (by omega)
                    (try rw [show ((5 : Int)).toNat = 5 from rfl] at hx278_0)
                    (try replace hx278_0 := (HB.out.cell (World.block_lt_of_cell? w _ hx278_0)).trans hx278_0)
                    replace p278 := eq_true p278
                    replace q278 := eq_true q278
                    have p279 : 0 ≤ (6 : Int) := (by omega)
                    have q279 : 6 < (l0.length : Int) := of_decide_eq_true zA
                    obtain ⟨ad279, e279, hx279_0⟩ := Kd.at_int HR0.out 6 p279 q279
                    have hw279_0 := hx279_0; (try rw [show ((6 : Int)).toNat = 6 from rfl] at hw279_0)
                    (try rw [show 6 * 1 = 6 from rfl] at hw279_0)
                    (try simp only [Nat.reduceMul, Nat.reduceEqDiff, Go.Addr.add, ↓reduceIte] at hw279_0)
                    obtain rfl : ad265 = ad279 := (by injection e279)
                    (try simp only [show (6 : Int).toNat = 6 from rfl, Nat.reduceMul, Nat.reduceEqDiff, Go.Addr.add, ↓reduceIte] at hx279_0)
                    have qi279 : (6 < l0.length) = True := eq_true (by omega)
                    (try rw [show ((6 : Int)).toNat = 6 from rfl] at hx279_0)
                    (try replace hx279_0 := (HB.out.cell (World.block_lt_of_cell? w _ hx279_0)).trans hx279_0)
                    replace p279 := eq_true p279
                    replace q279 := eq_true q279
                    have p280 : 0 ≤ (7 : Int) := (by omega)
                    have q280 : 7 < (l0.length : Int) := of_decide_eq_true zA
                    obtain ⟨ad280, e280, hx280_0⟩ := Kd.at_int HR0.out 7 p280 q280
                    have hw280_0 := hx280_0; (try rw [show ((7 : Int)).toNat = 7 from rfl] at hw280_0)
                    (try rw [show 7 * 1 = 7 from rfl] at hw280_0)
                    (try simp only [Nat.reduceMul, Nat.reduceEqDiff, Go.Addr.add, ↓reduceIte] at hw280_0)
                    obtain rfl : ad265 = ad280 := (by injection e280)
                    (try simp only [show (7 : Int).toNat = 7 from rfl, Nat.reduceMul, Nat.reduceEqDiff, Go.Addr.add, ↓reduceIte] at hx280_0)
                    have qi280 : (7 < l0.length) = True := eq_true (by omega)
                    (try rw [show ((7 : Int)).toNat = 7 from rfl] at hx280_0)
                    (try replace hx280_0 := (HB.out.cell (World.block_lt_of_cell? w _ hx280_0)).trans hx280_0)
                    replace p280 := eq_true p280
                    replace q280 := eq_true q280
                    refine start_ (n := 42) (S := fun w' => w'.cell? ad265 = some (.int .u32 (rd l0 0)) ∧ w'.cell? ⟨ad265.block, ad265.off + 1, none⟩ = some (.int .u32 (rd l0 1)) ∧ w'.cell? ⟨ad265.block, ad265.off + 2, none⟩ = some (.int .u32 (rd l0 2)) ∧ w'.cell? ⟨ad265.block, ad265.off + 3, none⟩ = some (.int .u32 (rd l0 3)) ∧ w'.cell? ⟨ad265.block, ad265.off + 4, none⟩ = some (.int .u32 (rd l0 4)) ∧ w'.cell? ⟨ad265.block, ad265.off + 5, none⟩ = some (.int .u32 (rd l0 5)) ∧ w'.cell? ⟨ad265.block, ad265.off + 6, none⟩ = some (.int .u32 (rd l0 6)) ∧ w'.cell? ⟨ad265.block, ad265.off + 7, none⟩ = some (.int .u32 (rd l0 7))) (ds := []) (mkB124 42 0) (by kernel_rfl) rfl rfl ⟨(by first | exact (HB.out.cell (World.block_lt_of_cell? w _ hw273_0)).trans hw273_0 | exact hw273_0), (by first | exact (HB.out.cell (World.block_lt_of_cell? w _ hw274_0)).trans hw274_0 | exact hw274_0), (by first | exact (HB.out.cell (World.block_lt_of_cell? w _ hw275_0)).trans hw275_0 | exact hw275_0), (by first | exact (HB.out.cell (World.block_lt_of_cell? w _ hw276_0)).trans hw276_0 | exact hw276_0), (by first | exact (HB.out.cell (World.block_lt_of_cell? w _ hw277_0)).trans hw277_0 | exact hw277_0), (by first | exact (HB.out.cell (World.block_lt_of_cell? w _ hw278_0)).trans hw278_0 | exact hw278_0), (by first | exact (HB.out.cell (World.block_lt_of_cell? w _ hw279_0)).trans hw279_0 | exact hw279_0), (by first | exact (HB.out.cell (World.block_lt_of_cell? w _ hw280_0)).trans hw280_0 | exact hw280_0)⟩ (fun hHeld => ?_); refine with_tabW mosaicref01_Mix.tab18 mosaicref01_Mix.bits18 (fun HT_ HW_ => ?_)
                    generalize wr.drew = w38 at HO_5 HO_6 HB hx273_0 hx274_0 hx275_0 hx276_0 hx277_0 hx278_0 hx279_0 hx280_0 hHeld ⊢
                    refine pX 0 (some 110) (mkB124 42 1) ?_
                    refine pX 1 (some 111) (mkB124 42 3) ?_
                    refine pX 3 (some 113) (mkB124 42 11) ?_
                    refine pX 5 (some 115) (mkB124 42 43) ?_
                    refine pX 6 (some 116) (mkB124 42 107) ?_
                    refine pX 8 (some 118) (mkB124 42 363) ?_
                    refine pX 10 (some 120) (mkB124 42 1387) ?_
                    refine pX 11 (some 121) (mkB124 42 3435) ?_
                    refine pX 13 (some 123) (mkB124 42 11627) ?_
                    refine pX 15 (some 125) (mkB124 42 44395) ?_
                    refine pX 16 (some 126) (mkB124 42 109931) ?_
                    refine pX 18 (some 128) (mkB124 42 372075) ?_
                    refine pX 20 (some 130) (mkB124 42 1420651) ?_
                    refine pX 21 (some 131) (mkB124 42 3517803) ?_
                    refine pX 23 (some 133) (mkB124 42 11906411) ?_
                    refine pX 25 (some 135) (mkB124 42 45460843) ?_
                    refine pX 26 (some 136) (mkB124 42 112569707) ?_
                    refine pX 28 (some 138) (mkB124 42 381005163) ?_
                    refine pX 30 (some 140) (mkB124 42 1454746987) ?_
                    refine pX 31 (some 141) (mkB124 42 3602230635) ?_
                    refine pX 33 (some 143) (mkB124 42 12192165227) ?_
                    refine pX 35 (some 145) (mkB124 42 46551903595) ?_
                    refine pX 36 (some 146) (mkB124 42 115271380331) ?_
                    refine pX 38 (some 148) (mkB124 42 390149287275) ?_
                    refine tT (v := ?_) (a' := ?_) HT_ HW_ hHeld 2 (some 112) (mkB124 42 390149287279) ?_ ?_ ?_; rotate_left 2; (rintro w' ⟨s0, s1, s2, s3, s4, s5, s6, s7⟩; go_simp; with_reducible rfl); (simp only [Act.put, qA, qB, qC, i64_w, i32_w]; rfl)
                    refine pX 4 (some 114) (mkB124 42 390149287295) ?_
                    refine tT (v := ?_) (a' := ?_) HT_ HW_ hHeld 7 (some 117) (mkB124 42 390149287423) ?_ ?_ ?_; rotate_left 2; (rintro w' ⟨s0, s1, s2, s3, s4, s5, s6, s7⟩; go_simp; with_reducible rfl); (simp only [Act.put, qA, qB, qC, i64_w, i32_w]; rfl)
                    refine pX 9 (some 119) (mkB124 42 390149287935) ?_
                    refine tT (v := ?_) (a' := ?_) HT_ HW_ hHeld 12 (some 122) (mkB124 42 390149292031) ?_ ?_ ?_; rotate_left 2; (rintro w' ⟨s0, s1, s2, s3, s4, s5, s6, s7⟩; go_simp; with_reducible rfl); (simp only [Act.put, qA, qB, qC, i64_w, i32_w]; rfl)
                    refine pX 14 (some 124) (mkB124 42 390149308415) ?_
                    refine tT (v := ?_) (a' := ?_) HT_ HW_ hHeld 17 (some 127) (mkB124 42 390149439487) ?_ ?_ ?_; rotate_left 2; (rintro w' ⟨s0, s1, s2, s3, s4, s5, s6, s7⟩; go_simp; with_reducible rfl); (simp only [Act.put, qA, qB, qC, i64_w, i32_w]; rfl)
                    refine pX 19 (some 129) (mkB124 42 390149963775) ?_
                    refine tT (v := ?_) (a' := ?_) HT_ HW_ hHeld 22 (some 132) (mkB124 42 390154158079) ?_ ?_ ?_; rotate_left 2; (rintro w' ⟨s0, s1, s2, s3, s4, s5, s6, s7⟩; go_simp; with_reducible rfl); (simp only [Act.put, qA, qB, qC, i64_w, i32_w]; rfl)
                    refine pX 24 (some 134) (mkB124 42 390170935295) ?_
                    refine tT (v := ?_) (a' := ?_) HT_ HW_ hHeld 27 (some 137) (mkB124 42 390305153023) ?_ ?_ ?_; rotate_left 2; (rintro w' ⟨s0, s1, s2, s3, s4, s5, s6, s7⟩; go_simp; with_reducible rfl); (simp only [Act.put, qA, qB, qC, i64_w, i32_w]; rfl)
                    refine pX 29 (some 139) (mkB124 42 390842023935) ?_
                    refine tT (v := ?_) (a' := ?_) HT_ HW_ hHeld 32 (some 142) (mkB124 42 395136991231) ?_ ?_ ?_; rotate_left 2; (rintro w' ⟨s0, s1, s2, s3, s4, s5, s6, s7⟩; go_simp; with_reducible rfl); (simp only [Act.put, qA, qB, qC, i64_w, i32_w]; rfl)
                    refine pX 34 (some 144) (mkB124 42 412316860415) ?_
                    refine tT (v := ?_) (a' := ?_) HT_ HW_ hHeld 37 (some 147) (mkB124 42 549755813887) ?_ ?_ ?_; rotate_left 2; (rintro w' ⟨s0, s1, s2, s3, s4, s5, s6, s7⟩; go_simp; with_reducible rfl); (simp only [Act.put, qA, qB, qC, i64_w, i32_w]; rfl)
                    refine pX 39 (some 149) (mkB124 42 1099511627775) ?_
                    refine one_ (i := 40) (N := some 150) (mkB124 42 2199023255551) rfl rfl (one_of HT_.out (by kernel_rfl)) (by decide) (fun K hK => ?_)
                    refine Kd.R_lit_step (Kd.int .u32) _ 104 ?hg (N := 150) ?hd (xs := ([((rd l0 0) + x7_1) % 4294967296, ((rd l0 1) + x8_1) % 4294967296, ((rd l0 2) + x9_1) % 4294967296, ((rd l0 3) + x10_1) % 4294967296, ((rd l0 4) + x11_1) % 4294967296, ((rd l0 5) + x12_1) % 4294967296, ((rd l0 6) + x13_1) % 4294967296, ((rd l0 7) + x14_1) % 4294967296] : List Int)) (inner := [.int .u32 (((rd l0 0) + x7_1) % 4294967296), .int .u32 (((rd l0 1) + x8_1) % 4294967296), .int .u32 (((rd l0 2) + x9_1) % 4294967296), .int .u32 (((rd l0 3) + x10_1) % 4294967296), .int .u32 (((rd l0 4) + x11_1) % 4294967296), .int .u32 (((rd l0 5) + x12_1) % 4294967296), .int .u32 (((rd l0 6) + x13_1) % 4294967296), .int .u32 (((rd l0 7) + x14_1) % 4294967296)]) (ok := fun _ => True) (okp := fun _ => True) ?hr ?hp (fun _ hk => hk) trivial (Below.refl _ _) (Nat.le_refl _) (by simp) ?_; (case hd => rfl); (case hg => rfl); (case hr => first | (go_simp; done) | (go_simp; rfl)); (case hp => exact (Reps.one (show Kd.M (Kd.int .u32) _ _ _ (((rd l0 0) + x7_1) % 4294967296) [.int .u32 (((rd l0 0) + x7_1) % 4294967296)] from rfl) (Reps.one (show Kd.M (Kd.int .u32) _ _ _ (((rd l0 1) + x8_1) % 4294967296) [.int .u32 (((rd l0 1) + x8_1) % 4294967296)] from rfl) (Reps.one (show Kd.M (Kd.int .u32) _ _ _ (((rd l0 2) + x9_1) % 4294967296) [.int .u32 (((rd l0 2) + x9_1) % 4294967296)] from rfl) (Reps.one (show Kd.M (Kd.int .u32) _ _ _ (((rd l0 3) + x10_1) % 4294967296) [.int .u32 (((rd l0 3) + x10_1) % 4294967296)] from rfl) (Reps.one (show Kd.M (Kd.int .u32) _ _ _ (((rd l0 4) + x11_1) % 4294967296) [.int .u32 (((rd l0 4) + x11_1) % 4294967296)] from rfl) (Reps.one (show Kd.M (Kd.int .u32) _ _ _ (((rd l0 5) + x12_1) % 4294967296) [.int .u32 (((rd l0 5) + x12_1) % 4294967296)] from rfl) (Reps.one (show Kd.M (Kd.int .u32) _ _ _ (((rd l0 6) + x13_1) % 4294967296) [.int .u32 (((rd l0 6) + x13_1) % 4294967296)] from rfl) (Reps.one (show Kd.M (Kd.int .u32) _ _ _ (((rd l0 7) + x14_1) % 4294967296) [.int .u32 (((rd l0 7) + x14_1) % 4294967296)] from rfl) (Reps.none _ _))))))))))
                    intro v282 w39 ho40 hb hg_ hnew_
                    clear hg_ hnew_; (first | rw [← Ny281.out] at ho40 | (simp only [Int.reduceToNat] at ho40; rw [← Ny281.out] at ho40))
                    have n0_ := Aside0.mk (Kd.R_elder' (by (with_reducible repeat (first | apply Kd.R_alloc | apply Kd.R_drewN | apply Kd.R_drew)); exact HO_5.out) (Kd.R_base ho40) hb)
                    have n1_ := Aside0.mk (Kd.R_elder' (by (with_reducible repeat (first | apply Kd.R_alloc | apply Kd.R_drewN | apply Kd.R_drew)); exact HO_6.out) (Kd.R_base ho40) hb)
                    have n2_ := Aside0.mk (Kd.R_lower (Kd.R_new' (Kd.R_new' ho40 (Kd.R_lt (by (with_reducible repeat (first | apply Kd.R_alloc | apply Kd.R_drewN | apply Kd.R_drew)); exact HO_5.out))) (Kd.R_lt (by (with_reducible repeat (first | apply Kd.R_alloc | apply Kd.R_drewN | apply Kd.R_drew)); exact HO_6.out))) (below_size zB))
                    have n3_ := Aside0.mk (below_step zB hb)
                    clear HO_5 HO_6 HB; have HO_5 := n0_; have HO_6 := n1_; have HO283 := n2_; have HB := n3_; clear n0_ n1_ n2_ n3_ hb ho40; refine hK.out _ _ ⟨(by first | exact (HB.out.cell (World.block_lt_of_cell? w _ hw273_0)).trans hw273_0 | exact hw273_0), (by first | exact (HB.out.cell (World.block_lt_of_cell? w _ hw274_0)).trans hw274_0 | exact hw274_0), (by first | exact (HB.out.cell (World.block_lt_of_cell? w _ hw275_0)).trans hw275_0 | exact hw275_0), (by first | exact (HB.out.cell (World.block_lt_of_cell? w _ hw276_0)).trans hw276_0 | exact hw276_0), (by first | exact (HB.out.cell (World.block_lt_of_cell? w _ hw277_0)).trans hw277_0 | exact hw277_0), (by first | exact (HB.out.cell (World.block_lt_of_cell? w _ hw278_0)).trans hw278_0 | exact hw278_0), (by first | exact (HB.out.cell (World.block_lt_of_cell? w _ hw279_0)).trans hw279_0 | exact hw279_0), (by first | exact (HB.out.cell (World.block_lt_of_cell? w _ hw280_0)).trans hw280_0 | exact hw280_0)⟩ (fun hHeld => ?_)
                    clear hK K; refine norm_ (a' := ?_) ?_ ?_
                    rotate_left
                    ·
                     show Act.put _ (some 150) _ = _
                     simp only [Act.put, List.setIfInBounds_toArray, List.set_cons_zero, List.set_cons_succ, i64_w, i32_w]; rfl
                    refine pX 41 (some 4) (mkB124 42 4398046511103) ?_
                    refine done_ (done_of HT_.out (by kernel_rfl)) ?_
                    try go_wp2
                    go_ret
                    exact ⟨_, zE, by (with_reducible repeat (first | apply Kd.R_alloc | apply Kd.R_drewN | apply Kd.R_drew)); exact Kd.R_mono HO283.out (fun _ hk => trivial), zB⟩
                   ·
                    rw [if_neg c37] at H
                    exact absurd H (by simp)
                  ·
                   rw [if_neg c36] at H
                   exact absurd H (by simp)
                 ·
                  rw [if_neg c35] at H
                  exact absurd H (by simp)
                ·
                 rw [if_neg c34] at H
                 exact absurd H (by simp)
               ·
                rw [if_neg c33] at H
                exact absurd H (by simp)
              ·
               rw [if_neg c32] at H
               exact absurd H (by simp)
             ·
              rw [if_neg c31] at H
              exact absurd H (by simp)
            ·
             rw [if_neg c30] at H
             exact absurd H (by simp)
        ·
         rw [if_neg c12] at H
         exact absurd H (by simp)
       ·
        rw [if_neg c11] at H
        exact absurd H (by simp)
      ·
       rw [if_neg c10] at H
       exact absurd H (by simp)
     ·
      rw [if_neg c9] at H
      exact absurd H (by simp)
    ·
     rw [if_neg c8] at H
     exact absurd H (by simp)
   ·
    rw [if_neg c7] at H
    exact absurd H (by simp)
  ·
   rw [if_neg c6] at H
   exact absurd H (by simp)
 ·
  rw [if_neg c5] at H
  exact absurd H (by simp)
end Go.Proofs.YtghhmnjkgnoogaaGreat.POuterWholes
