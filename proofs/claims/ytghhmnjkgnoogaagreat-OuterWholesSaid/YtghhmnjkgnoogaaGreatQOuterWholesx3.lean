-- Written by this session's own program (wip/tools/mkprint.py) over the kit's printer, with overrides.
import Derived.Test.YtghhmnjkgnoogaaGreatTOuterWholesa
import Derived.Test.YtghhmnjkgnoogaaGreatQOuterWholesx0
import Derived.Test.YtghhmnjkgnoogaaGreatQOuterWholesx1
import Derived.Test.YtghhmnjkgnoogaaGreatQOuterWholesx2
namespace Go.Proofs.YtghhmnjkgnoogaaGreat.POuterWholes
open Go.RowKit Go.Mine Go.Proofs.YtghhmnjkgnoogaaGreatW.PrintWords Go.Proofs.YtghhmnjkgnoogaaGreatW.PrintLast Go.Proofs.YtghhmnjkgnoogaaGreatW.PrintMore
attribute [local go_sem] max2_int min2_int max_two min_two max_three min_three max_four min_four   -- for this text's walks alone
set_option linter.unusedVariables false
set_option linter.unusedSimpArgs false
/-! ### outer_seed: function 51 -/
def outer_seed.word : ByteArray := ⟨#[111, 117, 116, 101, 114]⟩
def outer_seed.f (k : Nat) (a0_0 a0_1 a0_2 a0_3 : Int) (a1 : Int) : Option ByteArray :=
  (oct_Put.f k a0_0 7).bind fun x => (oct_Put.f k a1 2).bind fun y => if x.2 = 0 ∧ y.2 = 0 ∧ x.1.size ≤ 100 ∧ y.1.size ≤ 100 then some ((((⟨#[]⟩ : ByteArray) ++ outer_seed.word) ++ x.1) ++ y.1) else none
theorem outer_seed.mono : ∀ a0_0 a0_1 a0_2 a0_3 a1 k, LeO (outer_seed.f k a0_0 a0_1 a0_2 a0_3 a1) (outer_seed.f (k + 1) a0_0 a0_1 a0_2 a0_3 a1) := by
  intro a0_0 a0_1 a0_2 a0_3 a1 k
  unfold outer_seed.f
  exact LeO.bind (oct_Put.mono _ _ _) (fun _ => LeO.bind (oct_Put.mono _ _ _) (fun _ => LeO.refl _))
theorem outer_seed.far {B g gb : Nat} {v : Value} {s : ByteArray} {er : Int} {W w1 : World} {cs : Array Value} {t : TypeId} (hi : IsWr 124 5 B g v s er W) (hb : W.heap[gb]? = some (.cells cs t (0, 0))) (hne : gb ≠ g) (ht : t ≠ 5)
    (hk : Kept W w1 (fun k => k = g ∨ v.ownBlock = some k)) : w1.heap[gb]? = some (.cells cs t (0, 0)) := by
  obtain ⟨p, hp, h⟩ := hi
  have hlt : gb < W.heap.size := (Array.getElem?_eq_some_iff.1 hb).1
  rw [hk.2 gb hlt (by
    rintro (h1 | h1)
    · exact hne h1
    · exact Go.Lib.ownBlock_neF h.2.2.1 hb ht h1)]
  exact hb
theorem outer_seed.put_ok (s t : ByteArray) (h : s.size + t.size ≤ 65536) : putS s 0 t 0 = (s ++ t, 0) := by
  unfold putS
  rw [if_pos rfl, if_pos rfl, if_neg (by omega)]
set_option maxHeartbeats 4000000 in
set_option maxRecDepth 100000 in
theorem outer_seed.calls (k : Nat) (a0_0 a0_1 a0_2 a0_3 : Int) (a1 : Int) (r : ByteArray) (w : World) (h : outer_seed.f k a0_0 a0_1 a0_2 a0_3 a1 = some r) :
    Calls Tryz.prog 51 #[.agg #[.int .i64 a0_0, .int .i64 a0_1, .int .i64 a0_2, .int .i64 a0_3], .int .i64 a1] w fun e w' => e = .returned (.string r) ∧ Below w.heap.size w w' := by
  unfold outer_seed.f at h
  obtain ⟨⟨x, e1⟩, hx, g1⟩ := Option.bind_eq_some_iff.mp h
  clear h
  obtain ⟨⟨y, e2⟩, hy, g2⟩ := Option.bind_eq_some_iff.mp g1
  clear g1
  split at g2
  rotate_left
  · cases g2
  rename_i hc
  obtain ⟨h1, h2, h3, h4⟩ := hc
  simp only at h1 h2 h3 h4
  subst h1; subst h2
  have h := Option.some.inj g2
  clear g2
  have HR := Aside0.mk h
  have HX := Aside0.mk hx
  have HY := Aside0.mk hy
  have HS3 := Aside0.mk h3
  have HS4 := Aside0.mk h4
  have hbx : (w.alloc (.cells #[.int .i64 a0_0, .int .i64 a0_1, .int .i64 a0_2, .int .i64 a0_3] 23)).heap[w.heap.size]? = some (.cells #[.int .i64 a0_0, .int .i64 a0_1, .int .i64 a0_2, .int .i64 a0_3] 23 (0, 0)) := heap_alloc_new _ _
  have HBX := Aside0.mk hbx
  have HB := Aside0.mk (below_alloc (Below.refl w.heap.size w) (.cells #[.int .i64 a0_0, .int .i64 a0_1, .int .i64 a0_2, .int .i64 a0_3] 23))
  have HLT : Aside0 (w.heap.size < (w.alloc (.cells #[.int .i64 a0_0, .int .i64 a0_1, .int .i64 a0_2, .int .i64 a0_3] 23)).heap.size) := ⟨(Array.getElem?_eq_some_iff.1 hbx).1⟩
  clear h hx hy h3 h4 hbx
  go_enter Tryz.func51, Tryz.ntmps51
  go_wp2_with fail
  obtain ⟨gb, hgb⟩ : ∃ g, w.heap.size = g := ⟨_, rfl⟩
  rw [hgb] at HBX HLT
  have HGB := Aside0.mk hgb
  rw [hgb]
  clear hgb
  generalize w.alloc (.cells #[.int .i64 a0_0, .int .i64 a0_1, .int .i64 a0_2, .int .i64 a0_3] 23) = wa at *
  refine (oct_To.wr wa).mono ?_
  rintro e w8 ⟨rfl, hi8, hb8, hz8⟩
  have HI8 := Aside0.mk hi8
  have HB8 := Aside0.mk (below_step HB.out hb8)
  have HBX8 := Aside0.mk (blk_below HBX.out hb8)
  have HW8 : Aside0 (wa.heap.size ≤ w8.heap.size) := ⟨hb8.size⟩
  obtain ⟨gw, hgw⟩ : ∃ g, wa.heap.size = g := ⟨_, rfl⟩
  rw [hgw] at HI8 HLT HW8
  have HGW := Aside0.mk hgw
  rw [hgw]
  clear hi8 hb8 hz8 HB HBX hgw
  go_wp2_with fail
  refine (oct_Writer_Raw.wr gw gw _ ⟨#[]⟩ outer_seed.word 0 _ HI8.out (by decide) (by decide) HW8.out).mono ?_
  rintro e w9 ⟨rfl, v9, hi9, hb9, hk9⟩
  rw [outer_seed.put_ok _ _ (by decide)] at hi9
  have HI9 := Aside0.mk hi9
  have HBX9 := Aside0.mk (outer_seed.far HI8.out HBX8.out (Nat.ne_of_lt HLT.out) (by decide) hk9)
  have HW9 : Aside0 (gw ≤ w9.heap.size) := ⟨Nat.le_trans HW8.out hb9.size⟩
  have HB9 : Aside0 (Below w.heap.size w w9) := ⟨HB8.out.trans (hb9.mono (by rw [HGB.out]; exact Nat.le_of_lt HLT.out))⟩
  clear hi9 hb9 hk9 HI8 HBX8 HB8 HW8
  have c0 : w9.cell? ⟨gb, 0, none⟩ = some (.int .i64 a0_0) := (blk_cell HBX9.out 0).trans rfl
  go_wp2_with fail
  have z5 : ((⟨#[]⟩ : ByteArray) ++ outer_seed.word).size = 5 := by rfl
  have HZ5 := Aside0.mk z5
  clear z5
  generalize (⟨#[]⟩ : ByteArray) ++ outer_seed.word = s1 at *
  refine (oct_Writer_Num.wr k gw gw v9 s1 x 0 a0_0 7 0 _ HI9.out HX.out (by have := HZ5.out; omega) (by have := HS3.out; omega) HW9.out).mono ?_
  rintro e w10 ⟨rfl, v10, hi10, hb10, hk10⟩
  rw [outer_seed.put_ok _ _ (by have := HZ5.out; have := HS3.out; omega)] at hi10
  have HI10 := Aside0.mk hi10
  have HW10 : Aside0 (gw ≤ w10.heap.size) := ⟨Nat.le_trans HW9.out hb10.size⟩
  have HB10 : Aside0 (Below w.heap.size w w10) := ⟨HB9.out.trans (hb10.mono (by rw [HGB.out]; exact Nat.le_of_lt HLT.out))⟩
  have HZ6 : Aside0 ((s1 ++ x).size ≤ 105) := ⟨by rw [ByteArray.size_append]; have := HZ5.out; have := HS3.out; omega⟩
  clear hi10 hb10 hk10 HI9 HB9 HW9 HBX9 c0
  simp only at HI10
  generalize s1 ++ x = s2 at *
  go_wp2_with fail
  refine (oct_Writer_Num.wr k gw gw v10 s2 y 0 a1 2 0 _ HI10.out HY.out (by have := HZ6.out; omega) (by have := HS4.out; omega) HW10.out).mono ?_
  rintro e w11 ⟨rfl, v11, hi11, hb11, hk11⟩
  rw [outer_seed.put_ok _ _ (by have := HZ6.out; have := HS4.out; omega)] at hi11
  have HI11 := Aside0.mk hi11
  have HW11 : Aside0 (gw ≤ w11.heap.size) := ⟨Nat.le_trans HW10.out hb11.size⟩
  have HB11 : Aside0 (Below w.heap.size w w11) := ⟨HB10.out.trans (hb11.mono (by rw [HGB.out]; exact Nat.le_of_lt HLT.out))⟩
  clear hi11 hb11 hk11 HI10 HB10 HW10
  simp only at HI11
  generalize s2 ++ y = s3 at *
  go_wp2_with fail
  refine (oct_Writer_Bytes.wr gw gw v11 s3 0 _ HI11.out HW11.out).mono ?_
  rintro e w12 ⟨rfl, v12, hi12, hb12, hk12⟩
  have HB12 : Aside0 (Below w.heap.size w w12) := ⟨HB11.out.trans (hb12.mono (by rw [HGB.out]; exact Nat.le_of_lt HLT.out))⟩
  clear hi12 hb12 hk12 HI11 HB11 HW11
  first | rw [if_pos rfl] | rw [if_pos trivial]
  go_wp2_with fail
  go_ret
  have HRR := HR.out
  subst HRR
  exact ⟨rfl, HB12.out⟩
/-! ### prng_may: function 88 -/
def prng_may.f (a0 : Int) : Option (Bool) := if a0 ≥ 1 then (some (decide (a0 ≤ 2147483647))) else (some false)
set_option maxHeartbeats 8000000 in
set_option maxRecDepth 100000 in
theorem prng_may.calls (a0 : Int) (r : Bool) (w : World) (h : prng_may.f a0 = some r) :
  Calls Tryz.prog 88 #[.int .i64 a0] w fun e w' => e = .returned (.bool r) ∧ Drawn0 w w' := by
 have H : (if a0 ≥ 1 then (some (decide (a0 ≤ 2147483647))) else (some false)) = some r := h
 clear h; by_cases c2 : a0 ≥ 1
 ·
  rw [if_pos c2] at H
  have c2b0 : decide (1 ≤ a0) = true := decide_eq_true c2
  clear c2; obtain rfl := Option.some.inj H
  go_enter Tryz.func88, Tryz.ntmps88
  go_wp2
  go_ret
  exact ⟨by first | rfl | (simp; done) | (simp [*]; done), by repeat (first | exact Drawn0.refl _ | apply Drawn0.step)⟩
 ·
  rw [if_neg c2] at H
  have c2b0 : decide (1 ≤ a0) = false := decide_eq_false c2
  clear c2; obtain rfl := Option.some.inj H
  go_enter Tryz.func88, Tryz.ntmps88
  go_wp2
  go_ret
  exact ⟨by first | rfl | (simp; done) | (simp [*]; done), by repeat (first | exact Drawn0.refl _ | apply Drawn0.step)⟩
/-! ### sha_Start: function 131 -/
theorem sha_Start.gives (w : World) : Calls Tryz.prog 131 #[] w fun e w' => e = .returned (.agg (shaStart.map (Value.int .u32)).toArray) ∧ Below w.heap.size w w' := by
  go_enter Tryz.func131, Tryz.ntmps131
  go_wp2
  refine bodyPost_ret (v := .agg (shaStart.map (Value.int .u32)).toArray) (by simp [results, Tryz.results131, go_sem, shaStart]) rfl ⟨rfl, ?_⟩
  repeat (first | exact Below.refl _ _ | (refine Below.setCell ?_ (by simp) _) | (refine Below.alloc ?_ (by simp) _))
/-! ### sha_New: function 125 -/
set_option maxRecDepth 100000 in
theorem sha_New.gives (w : World) : Calls Tryz.prog 125 #[] w fun e w' => ∃ g : Nat, e = .returned (.pointer (some ⟨g, 0, none⟩)) ∧ w.heap.size ≤ g ∧ w'.heap[g]? = some (.cells #[.int .u32 1779033703, .int .u32 3144134277, .int .u32 1013904242, .int .u32 2773480762, .int .u32 1359893119, .int .u32 2600822924, .int .u32 528734635, .int .u32 1541459225, .slice none 0 0, .int .i64 0] 169 (0, 0)) ∧ Below w.heap.size w w' := by
  go_enter Tryz.func125, Tryz.ntmps125
  go_wp2_with fail
  refine (sha_Start.gives w).mono ?_
  rintro e w1 ⟨rfl, hb1⟩
  have HB1 := Aside0.mk hb1
  clear hb1
  simp only [shaStart, List.map_cons, List.map_nil]
  go_wp2_with fail
  go_ret
  exact ⟨w1.heap.size, rfl, HB1.out.size, heap_alloc_new _ _, below_alloc HB1.out _⟩
/-! ### bits_RotateLeft32: function 138 -/
def bits_RotateLeft32.f (a0 : Int) (a1 : Int) : Option (Int) := if 0 ≤ (Go.bits .and .u64 (IntKind.u64.wrap (a1)) 31) then (if 0 ≤ (IntKind.u64.wrap (32 - (Go.bits .and .u64 (IntKind.u64.wrap (a1)) 31))) then (some (Go.bits .or .u32 (shl .u32 a0 (Go.bits .and .u64 (IntKind.u64.wrap (a1)) 31)) (shr .u32 a0 (IntKind.u64.wrap (32 - (Go.bits .and .u64 (IntKind.u64.wrap (a1)) 31)))))) else (none)) else (none)
set_option maxHeartbeats 8000000 in
set_option maxRecDepth 100000 in
theorem bits_RotateLeft32.calls (a0 : Int) (a1 : Int) (r : Int) (w : World) (h : bits_RotateLeft32.f a0 a1 = some r) :
  Calls Tryz.prog 138 #[.int .u32 a0, .int .i64 a1] w fun e w' => e = .returned (.int .u32 r) ∧ Drawn0 w w' := by
 have H : (if 0 ≤ (Go.bits .and .u64 (IntKind.u64.wrap (a1)) 31) then (if 0 ≤ (IntKind.u64.wrap (32 - (Go.bits .and .u64 (IntKind.u64.wrap (a1)) 31))) then (some (Go.bits .or .u32 (shl .u32 a0 (Go.bits .and .u64 (IntKind.u64.wrap (a1)) 31)) (shr .u32 a0 (IntKind.u64.wrap (32 - (Go.bits .and .u64 (IntKind.u64.wrap (a1)) 31)))))) else (none)) else (none)) = some r := h
 clear h; obtain ⟨ji3, hji3⟩ : ∃ j_ : Int, (Go.bits .and .u64 (IntKind.u64.wrap (a1)) 31) = j_ := ⟨_, rfl⟩
 replace H : (if 0 ≤ (ji3) then (if 0 ≤ (IntKind.u64.wrap (32 - (ji3))) then (some (Go.bits .or .u32 (shl .u32 a0 (ji3)) (shr .u32 a0 (IntKind.u64.wrap (32 - (ji3)))))) else (none)) else (none)) = some r := by first | (rw [hji3] at H; exact H) | (simp only [hji3] at H ⊢; exact H)
 by_cases c4 : 0 ≤ (ji3)
 ·
  rw [if_pos c4] at H
  have c4b0 := eq_true c4
  have c4b1 : decide (0 ≤ (ji3)) = true := decide_eq_true c4
  clear c4; obtain ⟨ji5, hji5⟩ : ∃ j_ : Int, (shl .u32 a0 (ji3)) = j_ := ⟨_, rfl⟩
  replace H : (if 0 ≤ (IntKind.u64.wrap (32 - (ji3))) then (some (Go.bits .or .u32 (ji5) (shr .u32 a0 (IntKind.u64.wrap (32 - (ji3)))))) else (none)) = some r := by first | (rw [hji5] at H; exact H) | (simp only [hji5] at H ⊢; exact H)
  have hji5_ : (IntKind.u32.wrap (a0 * 2 ^ min (ji3).toNat 32)) = ji5 := hji5
  have hji5z : (ji3) ≤ 32 → (IntKind.u32.wrap (a0 * 2 ^ (ji3).toNat)) = ji5 := shl_small hji5
  obtain ⟨ji6, hji6⟩ : ∃ j_ : Int, (IntKind.u64.wrap (32 - (ji3))) = j_ := ⟨_, rfl⟩
  replace H : (if 0 ≤ (ji6) then (some (Go.bits .or .u32 (ji5) (shr .u32 a0 (ji6)))) else (none)) = some r := by first | (rw [hji6] at H; exact H) | (simp only [hji6] at H ⊢; exact H)
  by_cases c7 : 0 ≤ (ji6)
  ·
   rw [if_pos c7] at H
   have c7b0 := eq_true c7
   have c7b1 : decide (0 ≤ (ji6)) = true := decide_eq_true c7
   clear c7; obtain ⟨ji8, hji8⟩ : ∃ j_ : Int, (shr .u32 a0 (ji6)) = j_ := ⟨_, rfl⟩
   replace H : (some (Go.bits .or .u32 (ji5) (ji8))) = some r := by first | (rw [hji8] at H; exact H) | (simp only [hji8] at H ⊢; exact H)
   have hji8_ : (a0 / 2 ^ min (ji6).toNat 32) = ji8 := hji8
   have hji8z : (ji6) ≤ 32 → (a0 / 2 ^ (ji6).toNat) = ji8 := shr_small hji8
   obtain rfl := Option.some.inj H
   go_enter Tryz.func138, Tryz.ntmps138
   go_wp2
   go_ret
   exact ⟨by first | rfl | (simp; done) | (simp only [← hji3, ← hji5, ← hji6, ← hji8] <;> (first | rfl | simp)) | (simp [*]; done), by repeat (first | exact Drawn0.refl _ | apply Drawn0.step)⟩
  ·
   rw [if_neg c7] at H
   exact absurd H (by simp)
 ·
  rw [if_neg c4] at H
  exact absurd H (by simp)
/-! ### sha_rotr: function 136 -/
def sha_rotr.f (a0 : Int) (a1 : Int) : Option (Int) := (bits_RotateLeft32.f a0 (wrap64 (-a1))).bind fun t111 => (some t111)
set_option maxHeartbeats 8000000 in
set_option maxRecDepth 100000 in
theorem sha_rotr.calls (a0 : Int) (a1 : Int) (r : Int) (w : World) (h : sha_rotr.f a0 a1 = some r) :
  Calls Tryz.prog 136 #[.int .u32 a0, .int .i64 a1] w fun e w' => e = .returned (.int .u32 r) ∧ Drawn0 w w' := by
 have H : ((bits_RotateLeft32.f a0 (wrap64 (-a1))).bind fun t111 => (some t111)) = some r := h
 clear h; replace H := Option.bind_eq_some_iff.mp H
 obtain ⟨t111, A30, H⟩ := H
 replace H : (some t111) = some r := H
 have A3 := Aside0.mk A30
 clear A30; obtain rfl := Option.some.inj H
 go_enter Tryz.func136, Tryz.ntmps136
 go_wp2_with (first | ((with_reducible refine gate_callee (f := 138) rfl ?_); refine goesL_ (some 8) rfl rfl Tryz.func138 (by kernel_rfl) rfl #[.int .u32 a0, .int .i64 (wrap64 (-a1))] rfl zM ?_; (with_reducible refine (bits_RotateLeft32.calls a0 (wrap64 (-a1)) t111 _ A3.out).mono ?_); rintro e w' ⟨rfl, ⟨nd, rfl⟩⟩; refine ⟨_, rfl, ?_⟩))
 go_ret
 exact ⟨by first | rfl | (simp; done) | (simp [*]; done), by repeat (first | exact Drawn0.refl _ | apply Drawn0.step)⟩
/-! ### sha_word: function 137 -/
def sha_word.f (l0 : List Int) (a1 : Int) : Option (Int) := if 0 ≤ a1 then (if a1 < (l0.length : Int) then (if 0 ≤ (wrap64 (a1 + 1)) then (if (wrap64 (a1 + 1)) < (l0.length : Int) then (if 0 ≤ (wrap64 (a1 + 2)) then (if (wrap64 (a1 + 2)) < (l0.length : Int) then (if 0 ≤ (wrap64 (a1 + 3)) then (if (wrap64 (a1 + 3)) < (l0.length : Int) then (some (Go.bits .or .u32 (Go.bits .or .u32 (Go.bits .or .u32 ((((rd l0 a1) % 4294967296) * 16777216) % 4294967296) ((((rd l0 (wrap64 (a1 + 1))) % 4294967296) * 65536) % 4294967296)) ((((rd l0 (wrap64 (a1 + 2))) % 4294967296) * 256) % 4294967296)) ((rd l0 (wrap64 (a1 + 3))) % 4294967296))) else (none)) else (none)) else (none)) else (none)) else (none)) else (none)) else (none)) else (none)
set_option maxHeartbeats 8000000 in
set_option maxRecDepth 100000 in
theorem sha_word.calls (A0 : Option Addr) (c0 : Nat) (l0 : List Int) (a1 : Int) (r : Int) (w : World) (hr0 : Kd.C (Kd.int .u8) w A0 l0.length l0) (hc0 : l0.length ≤ c0) (h : sha_word.f l0 a1 = some r) :
  Calls Tryz.prog 137 #[.slice A0 l0.length c0, .int .i64 a1] w fun e w' => e = .returned (.int .u32 r) ∧ Drawn0 w w' := by
 have HR0 := Aside0.mk hr0
 have HC0 := Aside0.mk hc0
 clear hr0 hc0; have H : (if 0 ≤ a1 then (if a1 < (l0.length : Int) then (if 0 ≤ (wrap64 (a1 + 1)) then (if (wrap64 (a1 + 1)) < (l0.length : Int) then (if 0 ≤ (wrap64 (a1 + 2)) then (if (wrap64 (a1 + 2)) < (l0.length : Int) then (if 0 ≤ (wrap64 (a1 + 3)) then (if (wrap64 (a1 + 3)) < (l0.length : Int) then (some (Go.bits .or .u32 (Go.bits .or .u32 (Go.bits .or .u32 ((((rd l0 a1) % 4294967296) * 16777216) % 4294967296) ((((rd l0 (wrap64 (a1 + 1))) % 4294967296) * 65536) % 4294967296)) ((((rd l0 (wrap64 (a1 + 2))) % 4294967296) * 256) % 4294967296)) ((rd l0 (wrap64 (a1 + 3))) % 4294967296))) else (none)) else (none)) else (none)) else (none)) else (none)) else (none)) else (none)) else (none)) = some r := h
 clear h; by_cases c3 : 0 ≤ a1
 ·
  rw [if_pos c3] at H
  have c3b0 : decide (0 ≤ a1) = true := decide_eq_true c3
  clear c3; by_cases c4 : a1 < (l0.length : Int)
  ·
   rw [if_pos c4] at H
   have c4b0 : decide (a1 < (l0.length : Int)) = true := decide_eq_true c4
   clear c4; obtain ⟨ji5, hji5⟩ : ∃ j_ : Int, (wrap64 (a1 + 1)) = j_ := ⟨_, rfl⟩
   replace H : (if 0 ≤ (ji5) then (if (ji5) < (l0.length : Int) then (if 0 ≤ (wrap64 (a1 + 2)) then (if (wrap64 (a1 + 2)) < (l0.length : Int) then (if 0 ≤ (wrap64 (a1 + 3)) then (if (wrap64 (a1 + 3)) < (l0.length : Int) then (some (Go.bits .or .u32 (Go.bits .or .u32 (Go.bits .or .u32 ((((rd l0 a1) % 4294967296) * 16777216) % 4294967296) ((((rd l0 (ji5)) % 4294967296) * 65536) % 4294967296)) ((((rd l0 (wrap64 (a1 + 2))) % 4294967296) * 256) % 4294967296)) ((rd l0 (wrap64 (a1 + 3))) % 4294967296))) else (none)) else (none)) else (none)) else (none)) else (none)) else (none)) = some r := by first | (rw [hji5] at H; exact H) | (simp only [hji5] at H ⊢; exact H)
   have hji5w : (IntKind.i64.wrap (a1 + 1)) = ji5 := (i64_w _).trans hji5
   by_cases c6 : 0 ≤ (ji5)
   ·
    rw [if_pos c6] at H
    have c6b0 : decide (0 ≤ (ji5)) = true := decide_eq_true c6
    clear c6; by_cases c7 : (ji5) < (l0.length : Int)
    ·
     rw [if_pos c7] at H
     have c7b0 : decide ((ji5) < (l0.length : Int)) = true := decide_eq_true c7
     clear c7; obtain ⟨ji8, hji8⟩ : ∃ j_ : Int, (wrap64 (a1 + 2)) = j_ := ⟨_, rfl⟩
     replace H : (if 0 ≤ (ji8) then (if (ji8) < (l0.length : Int) then (if 0 ≤ (wrap64 (a1 + 3)) then (if (wrap64 (a1 + 3)) < (l0.length : Int) then (some (Go.bits .or .u32 (Go.bits .or .u32 (Go.bits .or .u32 ((((rd l0 a1) % 4294967296) * 16777216) % 4294967296) ((((rd l0 (ji5)) % 4294967296) * 65536) % 4294967296)) ((((rd l0 (ji8)) % 4294967296) * 256) % 4294967296)) ((rd l0 (wrap64 (a1 + 3))) % 4294967296))) else (none)) else (none)) else (none)) else (none)) = some r := by first | (rw [hji8] at H; exact H) | (simp only [hji8] at H ⊢; exact H)
     have hji8w : (IntKind.i64.wrap (a1 + 2)) = ji8 := (i64_w _).trans hji8
     by_cases c9 : 0 ≤ (ji8)
     ·
      rw [if_pos c9] at H
      have c9b0 : decide (0 ≤ (ji8)) = true := decide_eq_true c9
      clear c9; by_cases c10 : (ji8) < (l0.length : Int)
      ·
       rw [if_pos c10] at H
       have c10b0 : decide ((ji8) < (l0.length : Int)) = true := decide_eq_true c10
       clear c10; obtain ⟨ji11, hji11⟩ : ∃ j_ : Int, (wrap64 (a1 + 3)) = j_ := ⟨_, rfl⟩
       replace H : (if 0 ≤ (ji11) then (if (ji11) < (l0.length : Int) then (some (Go.bits .or .u32 (Go.bits .or .u32 (Go.bits .or .u32 ((((rd l0 a1) % 4294967296) * 16777216) % 4294967296) ((((rd l0 (ji5)) % 4294967296) * 65536) % 4294967296)) ((((rd l0 (ji8)) % 4294967296) * 256) % 4294967296)) ((rd l0 (ji11)) % 4294967296))) else (none)) else (none)) = some r := by first | (rw [hji11] at H; exact H) | (simp only [hji11] at H ⊢; exact H)
       have hji11w : (IntKind.i64.wrap (a1 + 3)) = ji11 := (i64_w _).trans hji11
       by_cases c12 : 0 ≤ (ji11)
       ·
        rw [if_pos c12] at H
        have c12b0 : decide (0 ≤ (ji11)) = true := decide_eq_true c12
        clear c12; by_cases c13 : (ji11) < (l0.length : Int)
        ·
         rw [if_pos c13] at H
         have c13b0 : decide ((ji11) < (l0.length : Int)) = true := decide_eq_true c13
         clear c13; obtain rfl := Option.some.inj H
         have p112 : 0 ≤ (a1 : Int) := of_decide_eq_true zA
         have q112 : a1 < (l0.length : Int) := of_decide_eq_true zA
         obtain ⟨ad112, e112, hx112_0⟩ := Kd.at_int HR0.out a1 p112 q112
         cases e112
         replace p112 := eq_true p112
         replace q112 := eq_true q112
         have p113 : 0 ≤ ((ji5) : Int) := of_decide_eq_true zA
         have q113 : (ji5) < (l0.length : Int) := of_decide_eq_true zA
         obtain ⟨ad113, e113, hx113_0⟩ := Kd.at_int HR0.out (ji5) p113 q113
         obtain rfl : ad112 = ad113 := (by injection e113)
         replace p113 := eq_true p113
         replace q113 := eq_true q113
         have p114 : 0 ≤ ((ji8) : Int) := of_decide_eq_true zA
         have q114 : (ji8) < (l0.length : Int) := of_decide_eq_true zA
         obtain ⟨ad114, e114, hx114_0⟩ := Kd.at_int HR0.out (ji8) p114 q114
         obtain rfl : ad112 = ad114 := (by injection e114)
         replace p114 := eq_true p114
         replace q114 := eq_true q114
         have p115 : 0 ≤ ((ji11) : Int) := of_decide_eq_true zA
         have q115 : (ji11) < (l0.length : Int) := of_decide_eq_true zA
         obtain ⟨ad115, e115, hx115_0⟩ := Kd.at_int HR0.out (ji11) p115 q115
         obtain rfl : ad112 = ad115 := (by injection e115)
         replace p115 := eq_true p115
         replace q115 := eq_true q115
         go_enter Tryz.func137, Tryz.ntmps137
         go_wp2
         repeat (go_quiet (fail); try go_wp2)
         go_ret
         exact ⟨by first | rfl | (simp; done) | (simp only [← hji5, ← hji8, ← hji11] <;> (first | rfl | simp)) | (simp [*]; done), by repeat (first | exact Drawn0.refl _ | apply Drawn0.step)⟩
        ·
         rw [if_neg c13] at H
         exact absurd H (by simp)
       ·
        rw [if_neg c12] at H
        exact absurd H (by simp)
      ·
       rw [if_neg c10] at H
       exact absurd H (by simp)
     ·
      rw [if_neg c9] at H
      exact absurd H (by simp)
    ·
     rw [if_neg c7] at H
     exact absurd H (by simp)
   ·
    rw [if_neg c6] at H
    exact absurd H (by simp)
  ·
   rw [if_neg c4] at H
   exact absurd H (by simp)
 ·
  rw [if_neg c3] at H
  exact absurd H (by simp)
end Go.Proofs.YtghhmnjkgnoogaaGreat.POuterWholes
