-- Written by this session's own program (wip/tools/mkprint.py) over the kit's printer, with overrides.
import Derived.Test.YtehnebddmbdnhaaTWireAparta
import Derived.Test.YtehnebddmbdnhaaQWireApartx0
import Derived.Test.YtehnebddmbdnhaaQWireApartx1
import Derived.Test.YtehnebddmbdnhaaQWireApartx3
import Derived.Test.YtehnebddmbdnhaaQWireApartx5
import Derived.Test.YtehnebddmbdnhaaQWireApartx6
namespace Go.Proofs.Ytehnebddmbdnhaa.PWireApart
open Go.RowKit Go.Mine Go.Proofs.YtehnebddmbdnhaaW.PrintWords Go.Proofs.YtehnebddmbdnhaaW.PrintLast Go.Proofs.YtehnebddmbdnhaaW.PrintMore
attribute [local go_sem] max2_int min2_int max_two min_two max_three min_three max_four min_four   -- for this text's walks alone
set_option linter.unusedVariables false
set_option linter.unusedSimpArgs false
/-! ### mosaiclaw16_awake: function 8 -/
def mosaiclaw16_awake.f (k : Nat) : Option Bool :=
  (wire_Read.f k ⟨#[7, 7]⟩).bind fun m => if m.1 = 7 ∧ m.2.2.2.2.2.2.2.2.2.2.1 = 7 ∧ m.2.2.2.2.2.2.2.2.2.2.2.2.2.2.2.2.2.2.2.2.2 = 0 then (wire_Text.f k 10 0 0 (⟨#[]⟩ : ByteArray) (⟨#[]⟩ : ByteArray) false 0 0 (⟨#[]⟩ : ByteArray) (⟨#[]⟩ : ByteArray) 0 (⟨#[]⟩ : ByteArray) ([] : List ByteArray) 0 0 0 0 0 0 0 (⟨#[]⟩ : ByteArray)).bind fun t => if t.toList = [10] then (wire_Text.f k 3 0 0 (⟨#[]⟩ : ByteArray) (⟨#[]⟩ : ByteArray) true 0 0 (⟨#[]⟩ : ByteArray) (⟨#[]⟩ : ByteArray) 0 (⟨#[]⟩ : ByteArray) ([] : List ByteArray) 0 0 0 0 0 0 0 (⟨#[]⟩ : ByteArray)).bind fun u => if u.toList = [3, 1] then some true else none else none else none
theorem mosaiclaw16_awake.mono : ∀ k, LeO (mosaiclaw16_awake.f k) (mosaiclaw16_awake.f (k + 1)) := by
  intro k
  unfold mosaiclaw16_awake.f
  repeat' first | exact LeO.refl _ | apply wire_Read.mono | apply wire_Text.mono | refine LeO.ite ?_ ?_ | refine LeO.bind ?_ (fun _ => ?_)
set_option maxHeartbeats 8000000 in
set_option maxRecDepth 100000 in
theorem mosaiclaw16_awake.calls (k : Nat) (r : Bool) (w : World) (h : mosaiclaw16_awake.f k = some r) :
    Calls Try.prog 8 #[] w fun e w' => e = .returned (.bool r) ∧ Below w.heap.size w w' := by
  have hu34 := Try.underlying34
  have hu23 := Try.underlying23
  have hu25 := Try.underlying25
  have hu32 := Try.underlying32
  have HB := Aside0.mk (Below.refl w.heap.size w)
  unfold mosaiclaw16_awake.f at h
  obtain ⟨⟨n0, n1, n2, n3, n4, n5, n6, n7, n8, n9, n10, n11, n12, n13, n14, n15, n16, n17, n18, n19, n20, ne⟩, A1, h⟩ := Option.bind_eq_some_iff.mp h
  split at h
  rotate_left
  · cases h
  rename_i c1
  simp only at c1
  obtain ⟨rfl, rfl, rfl⟩ := c1
  have A1 := Aside0.mk A1
  obtain ⟨t, A2, h⟩ := Option.bind_eq_some_iff.mp h
  split at h
  rotate_left
  · cases h
  rename_i c2
  have A2 := Aside0.mk A2
  obtain ⟨u, A3, h⟩ := Option.bind_eq_some_iff.mp h
  split at h
  rotate_left
  · cases h
  rename_i c3
  have A3 := Aside0.mk A3
  obtain rfl := Option.some.inj h
  clear h
  have T1 : Aside0 (∀ W : World, Calls Try.prog 11 #[.agg #[.int .i64 10, .int .i64 0, .int .i64 0, .string (⟨#[]⟩ : ByteArray), .string (⟨#[]⟩ : ByteArray), .bool false, .int .i64 0, .int .i64 0, .string (⟨#[]⟩ : ByteArray), .string (⟨#[]⟩ : ByteArray), .int .i64 0, .string (⟨#[]⟩ : ByteArray), .slice none 0 0, .int .i64 0, .int .i64 0, .int .i64 0, .int .i64 0, .int .i64 0, .int .i64 0, .int .i64 0, .string (⟨#[]⟩ : ByteArray)]] W fun e w' => e = .returned (.string t) ∧ Below W.heap.size W w') := ⟨fun W => wire_Text.calls k 10 0 0 (⟨#[]⟩ : ByteArray) (⟨#[]⟩ : ByteArray) false 0 0 (⟨#[]⟩ : ByteArray) (⟨#[]⟩ : ByteArray) 0 (⟨#[]⟩ : ByteArray) none 0 ([] : List ByteArray) 0 0 0 0 0 0 0 (⟨#[]⟩ : ByteArray) t W (Kd.C_nil _ _) (Nat.le_refl _) A2.out⟩
  have T2 : Aside0 (∀ W : World, Calls Try.prog 11 #[.agg #[.int .i64 3, .int .i64 0, .int .i64 0, .string (⟨#[]⟩ : ByteArray), .string (⟨#[]⟩ : ByteArray), .bool true, .int .i64 0, .int .i64 0, .string (⟨#[]⟩ : ByteArray), .string (⟨#[]⟩ : ByteArray), .int .i64 0, .string (⟨#[]⟩ : ByteArray), .slice none 0 0, .int .i64 0, .int .i64 0, .int .i64 0, .int .i64 0, .int .i64 0, .int .i64 0, .int .i64 0, .string (⟨#[]⟩ : ByteArray)]] W fun e w' => e = .returned (.string u) ∧ Below W.heap.size W w') := ⟨fun W => wire_Text.calls k 3 0 0 (⟨#[]⟩ : ByteArray) (⟨#[]⟩ : ByteArray) true 0 0 (⟨#[]⟩ : ByteArray) (⟨#[]⟩ : ByteArray) 0 (⟨#[]⟩ : ByteArray) none 0 ([] : List ByteArray) 0 0 0 0 0 0 0 (⟨#[]⟩ : ByteArray) u W (Kd.C_nil _ _) (Nat.le_refl _) A3.out⟩
  go_enter Try.func8, Try.ntmps8
  go_wp2_with (first | (go_at_call 15; (with_reducible refine (wire_Read.calls k ⟨#[7, 7]⟩ 7 n1 n2 n3 n4 n5 n6 n7 n8 n9 7 n11 n12 n13 n14 n15 n16 n17 n18 n19 n20 0 _ A1.out).mono ?_); rintro e w1 ⟨v, rfl, ho, hb⟩; obtain ⟨A, c, hv⟩ := Kd.R_slice ho; subst hv; clear ho; replace HB := Aside0.mk (below_step zB hb); clear hb) | ((with_reducible refine gate_dst (N := 1) rfl ?_); refine box_event ?hg (N := 1) ?hd (cs := #[.int .i64 0, .int .i64 0, .int .i64 0, .string (⟨#[]⟩ : ByteArray), .string (⟨#[]⟩ : ByteArray), .bool false, .int .i64 0, .int .i64 0, .string (⟨#[]⟩ : ByteArray), .string (⟨#[]⟩ : ByteArray), .int .i64 0, .string (⟨#[]⟩ : ByteArray), .slice none 0 0, .int .i64 0, .int .i64 0, .int .i64 0, .int .i64 0, .int .i64 0, .int .i64 0, .int .i64 0, .string (⟨#[]⟩ : ByteArray)]) (t := 34) ?hr ?_; (case hd => rfl); (case hg => rfl); (case hr => first | (go_simp; done) | (go_simp; rfl)); intro gm hg w2 hbox hb; have BM := Aside0.mk hbox; have GM : Aside0 (w.heap.size ≤ gm) := ⟨zg⟩; replace HB := Aside0.mk (below_step zB hb); clear hb hbox hg) | ((with_reducible refine gate_store (t := 34) (p := 1) rfl ?_); refine store_ev rfl 34 (.tmp 1) (.tmp 5) rfl gm #[.int .i64 7, .int .i64 n1, .int .i64 n2, .string n3, .string n4, .bool n5, .int .i64 n6, .int .i64 n7, .string n8, .string n9, .int .i64 7, .string n11, .slice A n12.length c, .int .i64 n13, .int .i64 n14, .int .i64 n15, .int .i64 n16, .int .i64 n17, .int .i64 n18, .int .i64 n19, .string n20] rfl (by first | rfl | (go_simp; done) | (go_simp; rfl)) 34 _ BM.out (by kernel_rfl) rfl (by first | rfl | (simp; done) | (simp [Value.oneCell']; done)) ?_; intro w3 hx1 hx2 hx3; replace BM := Aside0.mk hx1; replace HB := Aside0.mk (hx3 _ _ HB.out GM.out); clear hx1 hx2 hx3; have p0 : w3.cell? ⟨gm, 0, none⟩ = some (.int .i64 7) := (blk_cell BM.out 0).trans rfl; have p10 : w3.cell? ⟨gm, 10, none⟩ = some (.int .i64 7) := (blk_cell BM.out 10).trans rfl) | (go_at_call 11; (with_reducible refine (T1.out _).mono ?_); rintro e w4 ⟨rfl, hb⟩; clear p0 p10; replace BM := Aside0.mk (blk_below (zk BM) hb); replace HB := Aside0.mk (below_step zB hb); clear hb; have p0 : w4.cell? ⟨gm, 0, none⟩ = some (.int .i64 7) := (blk_cell BM.out 0).trans rfl; have p10 : w4.cell? ⟨gm, 10, none⟩ = some (.int .i64 7) := (blk_cell BM.out 10).trans rfl) | (go_at_call 11; (with_reducible refine (T2.out _).mono ?_); rintro e w4 ⟨rfl, hb⟩; clear p0 p10; replace BM := Aside0.mk (blk_below (zk BM) hb); replace HB := Aside0.mk (below_step zB hb); clear hb; have p0 : w4.cell? ⟨gm, 0, none⟩ = some (.int .i64 7) := (blk_cell BM.out 0).trans rfl; have p10 : w4.cell? ⟨gm, 10, none⟩ = some (.int .i64 7) := (blk_cell BM.out 10).trans rfl))
  go_ret
  exact ⟨by first | rfl | (simp; done), zB⟩
/-! ### mosaiclaw16_WireApart: function 6 -/
def mosaiclaw16_WireApart.main (k : Nat) (a0_0 : Int) (a0_1 : Int) (a0_2 : Int) (a0_3 : ByteArray) (a0_4 : ByteArray) (a0_5 : Bool) (a0_6 : Int) (a0_7 : Int) (a0_8 : ByteArray) (a0_9 : ByteArray) (a0_10 : Int) (a0_11 : ByteArray) (l0_12 : List ByteArray) (a0_13 : Int) (a0_14 : Int) (a0_15 : Int) (a0_16 : Int) (a0_17 : Int) (a0_18 : Int) (a0_19 : Int) (a0_20 : ByteArray) (a1_0 : Int) (a1_1 : Int) (a1_2 : Int) (a1_3 : ByteArray) (a1_4 : ByteArray) (a1_5 : Bool) (a1_6 : Int) (a1_7 : Int) (a1_8 : ByteArray) (a1_9 : ByteArray) (a1_10 : Int) (a1_11 : ByteArray) (l1_12 : List ByteArray) (a1_13 : Int) (a1_14 : Int) (a1_15 : Int) (a1_16 : Int) (a1_17 : Int) (a1_18 : Int) (a1_19 : Int) (a1_20 : ByteArray) : Option Bool :=
  (wire_Text.f k a0_0 a0_1 a0_2 a0_3 a0_4 a0_5 a0_6 a0_7 a0_8 a0_9 a0_10 a0_11 l0_12 a0_13 a0_14 a0_15 a0_16 a0_17 a0_18 a0_19 a0_20).bind fun x => (wire_Text.f k a1_0 a1_1 a1_2 a1_3 a1_4 a1_5 a1_6 a1_7 a1_8 a1_9 a1_10 a1_11 l1_12 a1_13 a1_14 a1_15 a1_16 a1_17 a1_18 a1_19 a1_20).bind fun y => (mosaiclaw16_awake.f k).bind fun b => if b = true then (wire_Same.f k a0_0 a0_1 a0_2 a0_3 a0_4 a0_5 a0_6 a0_7 a0_8 a0_9 a0_10 a0_11 l0_12 a0_13 a0_14 a0_15 a0_16 a0_17 a0_18 a0_19 a0_20 a1_0 a1_1 a1_2 a1_3 a1_4 a1_5 a1_6 a1_7 a1_8 a1_9 a1_10 a1_11 l1_12 a1_13 a1_14 a1_15 a1_16 a1_17 a1_18 a1_19 a1_20).bind fun q => if q = true then (if x.toList = y.toList ∧ y.size ≤ x.size then some true else none) else (if x.toList = y.toList then none else if y.size ≤ x.size then some true else if (y.extract 0 x.size).toList = x.toList then none else some true) else none
def mosaiclaw16_WireApart.f (k : Nat) (a0_0 : Int) (a0_1 : Int) (a0_2 : Int) (a0_3 : ByteArray) (a0_4 : ByteArray) (a0_5 : Bool) (a0_6 : Int) (a0_7 : Int) (a0_8 : ByteArray) (a0_9 : ByteArray) (a0_10 : Int) (a0_11 : ByteArray) (l0_12 : List ByteArray) (a0_13 : Int) (a0_14 : Int) (a0_15 : Int) (a0_16 : Int) (a0_17 : Int) (a0_18 : Int) (a0_19 : Int) (a0_20 : ByteArray) (a1_0 : Int) (a1_1 : Int) (a1_2 : Int) (a1_3 : ByteArray) (a1_4 : ByteArray) (a1_5 : Bool) (a1_6 : Int) (a1_7 : Int) (a1_8 : ByteArray) (a1_9 : ByteArray) (a1_10 : Int) (a1_11 : ByteArray) (l1_12 : List ByteArray) (a1_13 : Int) (a1_14 : Int) (a1_15 : Int) (a1_16 : Int) (a1_17 : Int) (a1_18 : Int) (a1_19 : Int) (a1_20 : ByteArray) : Option Bool :=
  (mosaiclaw16_Few.f k a0_0 a0_1 a0_2 a0_3 a0_4 a0_5 a0_6 a0_7 a0_8 a0_9 a0_10 a0_11 l0_12 a0_13 a0_14 a0_15 a0_16 a0_17 a0_18 a0_19 a0_20).bind fun f1 => if f1 = true then (mosaiclaw16_Few.f k a1_0 a1_1 a1_2 a1_3 a1_4 a1_5 a1_6 a1_7 a1_8 a1_9 a1_10 a1_11 l1_12 a1_13 a1_14 a1_15 a1_16 a1_17 a1_18 a1_19 a1_20).bind fun f2 => if f2 = true then (wire_Check.f k a0_0 a0_1 a0_2 a0_3 a0_4 a0_5 a0_6 a0_7 a0_8 a0_9 a0_10 a0_11 l0_12 a0_13 a0_14 a0_15 a0_16 a0_17 a0_18 a0_19 a0_20).bind fun c1 => if c1 = true then (wire_Check.f k a1_0 a1_1 a1_2 a1_3 a1_4 a1_5 a1_6 a1_7 a1_8 a1_9 a1_10 a1_11 l1_12 a1_13 a1_14 a1_15 a1_16 a1_17 a1_18 a1_19 a1_20).bind fun c2 => if c2 = true then mosaiclaw16_WireApart.main k a0_0 a0_1 a0_2 a0_3 a0_4 a0_5 a0_6 a0_7 a0_8 a0_9 a0_10 a0_11 l0_12 a0_13 a0_14 a0_15 a0_16 a0_17 a0_18 a0_19 a0_20 a1_0 a1_1 a1_2 a1_3 a1_4 a1_5 a1_6 a1_7 a1_8 a1_9 a1_10 a1_11 l1_12 a1_13 a1_14 a1_15 a1_16 a1_17 a1_18 a1_19 a1_20 else mosaiclaw16_awake.f k else mosaiclaw16_awake.f k else mosaiclaw16_awake.f k else mosaiclaw16_awake.f k
theorem mosaiclaw16_WireApart.mono : ∀ a0_0 a0_1 a0_2 a0_3 a0_4 a0_5 a0_6 a0_7 a0_8 a0_9 a0_10 a0_11 l0_12 a0_13 a0_14 a0_15 a0_16 a0_17 a0_18 a0_19 a0_20 a1_0 a1_1 a1_2 a1_3 a1_4 a1_5 a1_6 a1_7 a1_8 a1_9 a1_10 a1_11 l1_12 a1_13 a1_14 a1_15 a1_16 a1_17 a1_18 a1_19 a1_20 k, LeO (mosaiclaw16_WireApart.f k a0_0 a0_1 a0_2 a0_3 a0_4 a0_5 a0_6 a0_7 a0_8 a0_9 a0_10 a0_11 l0_12 a0_13 a0_14 a0_15 a0_16 a0_17 a0_18 a0_19 a0_20 a1_0 a1_1 a1_2 a1_3 a1_4 a1_5 a1_6 a1_7 a1_8 a1_9 a1_10 a1_11 l1_12 a1_13 a1_14 a1_15 a1_16 a1_17 a1_18 a1_19 a1_20) (mosaiclaw16_WireApart.f (k + 1) a0_0 a0_1 a0_2 a0_3 a0_4 a0_5 a0_6 a0_7 a0_8 a0_9 a0_10 a0_11 l0_12 a0_13 a0_14 a0_15 a0_16 a0_17 a0_18 a0_19 a0_20 a1_0 a1_1 a1_2 a1_3 a1_4 a1_5 a1_6 a1_7 a1_8 a1_9 a1_10 a1_11 l1_12 a1_13 a1_14 a1_15 a1_16 a1_17 a1_18 a1_19 a1_20) := by
  intro a0_0 a0_1 a0_2 a0_3 a0_4 a0_5 a0_6 a0_7 a0_8 a0_9 a0_10 a0_11 l0_12 a0_13 a0_14 a0_15 a0_16 a0_17 a0_18 a0_19 a0_20 a1_0 a1_1 a1_2 a1_3 a1_4 a1_5 a1_6 a1_7 a1_8 a1_9 a1_10 a1_11 l1_12 a1_13 a1_14 a1_15 a1_16 a1_17 a1_18 a1_19 a1_20 k
  unfold mosaiclaw16_WireApart.f mosaiclaw16_WireApart.main
  repeat' first | exact LeO.refl _ | apply mosaiclaw16_Few.mono | apply mosaiclaw16_awake.mono | apply wire_Check.mono | apply wire_Text.mono | apply wire_Same.mono | refine LeO.ite ?_ ?_ | refine LeO.bind ?_ (fun _ => ?_)
set_option maxHeartbeats 16000000 in
set_option maxRecDepth 100000 in
theorem mosaiclaw16_WireApart.calls (k : Nat) (a0_0 : Int) (a0_1 : Int) (a0_2 : Int) (a0_3 : ByteArray) (a0_4 : ByteArray) (a0_5 : Bool) (a0_6 : Int) (a0_7 : Int) (a0_8 : ByteArray) (a0_9 : ByteArray) (a0_10 : Int) (a0_11 : ByteArray) (A0_12 : Option Addr) (c0_12 : Nat) (l0_12 : List ByteArray) (a0_13 : Int) (a0_14 : Int) (a0_15 : Int) (a0_16 : Int) (a0_17 : Int) (a0_18 : Int) (a0_19 : Int) (a0_20 : ByteArray) (a1_0 : Int) (a1_1 : Int) (a1_2 : Int) (a1_3 : ByteArray) (a1_4 : ByteArray) (a1_5 : Bool) (a1_6 : Int) (a1_7 : Int) (a1_8 : ByteArray) (a1_9 : ByteArray) (a1_10 : Int) (a1_11 : ByteArray) (A1_12 : Option Addr) (c1_12 : Nat) (l1_12 : List ByteArray) (a1_13 : Int) (a1_14 : Int) (a1_15 : Int) (a1_16 : Int) (a1_17 : Int) (a1_18 : Int) (a1_19 : Int) (a1_20 : ByteArray) (r : Bool) (w : World) (hr0_12 : Kd.C Kd.string w A0_12 l0_12.length l0_12) (hc0_12 : l0_12.length ≤ c0_12) (hr1_12 : Kd.C Kd.string w A1_12 l1_12.length l1_12) (hc1_12 : l1_12.length ≤ c1_12) (h : mosaiclaw16_WireApart.f k a0_0 a0_1 a0_2 a0_3 a0_4 a0_5 a0_6 a0_7 a0_8 a0_9 a0_10 a0_11 l0_12 a0_13 a0_14 a0_15 a0_16 a0_17 a0_18 a0_19 a0_20 a1_0 a1_1 a1_2 a1_3 a1_4 a1_5 a1_6 a1_7 a1_8 a1_9 a1_10 a1_11 l1_12 a1_13 a1_14 a1_15 a1_16 a1_17 a1_18 a1_19 a1_20 = some r) :
    Calls Try.prog 6 #[.agg #[.int .i64 a0_0, .int .i64 a0_1, .int .i64 a0_2, .string a0_3, .string a0_4, .bool a0_5, .int .i64 a0_6, .int .i64 a0_7, .string a0_8, .string a0_9, .int .i64 a0_10, .string a0_11, .slice A0_12 l0_12.length c0_12, .int .i64 a0_13, .int .i64 a0_14, .int .i64 a0_15, .int .i64 a0_16, .int .i64 a0_17, .int .i64 a0_18, .int .i64 a0_19, .string a0_20], .agg #[.int .i64 a1_0, .int .i64 a1_1, .int .i64 a1_2, .string a1_3, .string a1_4, .bool a1_5, .int .i64 a1_6, .int .i64 a1_7, .string a1_8, .string a1_9, .int .i64 a1_10, .string a1_11, .slice A1_12 l1_12.length c1_12, .int .i64 a1_13, .int .i64 a1_14, .int .i64 a1_15, .int .i64 a1_16, .int .i64 a1_17, .int .i64 a1_18, .int .i64 a1_19, .string a1_20]] w fun e w' => e = .returned (.bool r) ∧ Below w.heap.size w w' := by
  have hu34 := Try.underlying34
  have hu23 := Try.underlying23
  have hu25 := Try.underlying25
  have hu32 := Try.underlying32
  have HR := Aside0.mk hr0_12
  have HC := Aside0.mk hc0_12
  have HR1 := Aside0.mk hr1_12
  have HC1 := Aside0.mk hc1_12
  have HB := Aside0.mk (Below.refl w.heap.size w)
  clear hr0_12 hc0_12 hr1_12 hc1_12
  unfold mosaiclaw16_WireApart.f at h
  replace h := Option.bind_eq_some_iff.mp h
  obtain ⟨f1, HF, h⟩ := h
  have HF := Aside0.mk HF
  cases f1 with
  | false =>
    rw [if_neg (by decide)] at h
    have HA := Aside0.mk h
    clear h
    go_enter Try.func6, Try.ntmps6
    go_wp2_with (first | ((with_reducible refine gate_dst (N := 2) rfl ?_); refine box_event ?hg (N := 2) ?hd (cs := #[.int .i64 a0_0, .int .i64 a0_1, .int .i64 a0_2, .string a0_3, .string a0_4, .bool a0_5, .int .i64 a0_6, .int .i64 a0_7, .string a0_8, .string a0_9, .int .i64 a0_10, .string a0_11, .slice A0_12 l0_12.length c0_12, .int .i64 a0_13, .int .i64 a0_14, .int .i64 a0_15, .int .i64 a0_16, .int .i64 a0_17, .int .i64 a0_18, .int .i64 a0_19, .string a0_20]) (t := 34) ?hr ?_; (case hd => rfl); (case hg => rfl); (case hr => first | (go_simp; done) | (go_simp; rfl)); intro gb hg w2 hbox hb; have BM := Aside0.mk hbox; replace HB := Aside0.mk (below_step zB hb); clear hb hbox hg) | ((with_reducible refine gate_dst (N := 3) rfl ?_); refine box_event ?hg (N := 3) ?hd (cs := #[.int .i64 a1_0, .int .i64 a1_1, .int .i64 a1_2, .string a1_3, .string a1_4, .bool a1_5, .int .i64 a1_6, .int .i64 a1_7, .string a1_8, .string a1_9, .int .i64 a1_10, .string a1_11, .slice A1_12 l1_12.length c1_12, .int .i64 a1_13, .int .i64 a1_14, .int .i64 a1_15, .int .i64 a1_16, .int .i64 a1_17, .int .i64 a1_18, .int .i64 a1_19, .string a1_20]) (t := 34) ?hr ?_; (case hd => rfl); (case hg => rfl); (case hr => first | (go_simp; done) | (go_simp; rfl)); intro gc hg w2 hbox hb; have BN := Aside0.mk hbox; replace BM := Aside0.mk (blk_below (zk BM) hb); replace HB := Aside0.mk (below_step zB hb); clear hb hbox hg) | ((with_reducible refine gate_dst (N := 7) rfl ?_); refine wpList_load_row rfl 34 (.tmp 2) rfl gb rfl 34 _ (0, 0) _ BM.out hu34 rfl (by kernel_rfl) ?_) | ((with_reducible refine gate_dst (N := 11) rfl ?_); refine load_evG ?_ 34 (.tmp 3) rfl gc rfl 34 _ (0, 0) _ BN.out hu34 rfl (by kernel_rfl) ?_; (focus (first | rfl | (go_simp; done) | (simp [Region.wanted, yielded, *]; done)))) | ((with_reducible refine gate_dst (N := 16) rfl ?_); refine load_evG ?_ 34 (.tmp 2) rfl gb rfl 34 _ (0, 0) _ BM.out hu34 rfl (by kernel_rfl) ?_; (focus (first | rfl | (go_simp; done) | (simp [Region.wanted, yielded, *]; done)))) | ((with_reducible refine gate_dst (N := 21) rfl ?_); refine load_evG ?_ 34 (.tmp 3) rfl gc rfl 34 _ (0, 0) _ BN.out hu34 rfl (by kernel_rfl) ?_; (focus (first | rfl | (go_simp; done) | (simp [Region.wanted, yielded, *]; done)))) | (go_at_call 7; (with_reducible refine (mosaiclaw16_Few.calls k a0_0 a0_1 a0_2 a0_3 a0_4 a0_5 a0_6 a0_7 a0_8 a0_9 a0_10 a0_11 A0_12 c0_12 l0_12 a0_13 a0_14 a0_15 a0_16 a0_17 a0_18 a0_19 a0_20 false _ (Kd.C_below HR.out zB) HC.out HF.out).mono ?_); rintro e w9 ⟨rfl, hb⟩; replace BM := Aside0.mk (blk_below (zk BM) hb); replace BN := Aside0.mk (blk_below (zk BN) hb); replace HB := Aside0.mk (below_step zB hb); clear hb) | (go_at_call 8; (with_reducible refine (mosaiclaw16_awake.calls k r _ HA.out).mono ?_); rintro e w9 ⟨rfl, hb⟩; replace BM := Aside0.mk (blk_below (zk BM) hb); replace BN := Aside0.mk (blk_below (zk BN) hb); replace HB := Aside0.mk (below_step zB hb); clear hb))
    go_ret
    exact ⟨by first | rfl | (simp; done), zB⟩
  | true =>
    rw [if_pos rfl] at h
    replace h := Option.bind_eq_some_iff.mp h
    obtain ⟨f2, HG, h⟩ := h
    have HG := Aside0.mk HG
    cases f2 with
    | false =>
      rw [if_neg (by decide)] at h
      have HA := Aside0.mk h
      clear h
      go_enter Try.func6, Try.ntmps6
      go_wp2_with (first | ((with_reducible refine gate_dst (N := 2) rfl ?_); refine box_event ?hg (N := 2) ?hd (cs := #[.int .i64 a0_0, .int .i64 a0_1, .int .i64 a0_2, .string a0_3, .string a0_4, .bool a0_5, .int .i64 a0_6, .int .i64 a0_7, .string a0_8, .string a0_9, .int .i64 a0_10, .string a0_11, .slice A0_12 l0_12.length c0_12, .int .i64 a0_13, .int .i64 a0_14, .int .i64 a0_15, .int .i64 a0_16, .int .i64 a0_17, .int .i64 a0_18, .int .i64 a0_19, .string a0_20]) (t := 34) ?hr ?_; (case hd => rfl); (case hg => rfl); (case hr => first | (go_simp; done) | (go_simp; rfl)); intro gb hg w2 hbox hb; have BM := Aside0.mk hbox; replace HB := Aside0.mk (below_step zB hb); clear hb hbox hg) | ((with_reducible refine gate_dst (N := 3) rfl ?_); refine box_event ?hg (N := 3) ?hd (cs := #[.int .i64 a1_0, .int .i64 a1_1, .int .i64 a1_2, .string a1_3, .string a1_4, .bool a1_5, .int .i64 a1_6, .int .i64 a1_7, .string a1_8, .string a1_9, .int .i64 a1_10, .string a1_11, .slice A1_12 l1_12.length c1_12, .int .i64 a1_13, .int .i64 a1_14, .int .i64 a1_15, .int .i64 a1_16, .int .i64 a1_17, .int .i64 a1_18, .int .i64 a1_19, .string a1_20]) (t := 34) ?hr ?_; (case hd => rfl); (case hg => rfl); (case hr => first | (go_simp; done) | (go_simp; rfl)); intro gc hg w2 hbox hb; have BN := Aside0.mk hbox; replace BM := Aside0.mk (blk_below (zk BM) hb); replace HB := Aside0.mk (below_step zB hb); clear hb hbox hg) | ((with_reducible refine gate_dst (N := 7) rfl ?_); refine wpList_load_row rfl 34 (.tmp 2) rfl gb rfl 34 _ (0, 0) _ BM.out hu34 rfl (by kernel_rfl) ?_) | ((with_reducible refine gate_dst (N := 11) rfl ?_); refine load_evG ?_ 34 (.tmp 3) rfl gc rfl 34 _ (0, 0) _ BN.out hu34 rfl (by kernel_rfl) ?_; (focus (first | rfl | (go_simp; done) | (simp [Region.wanted, yielded, *]; done)))) | ((with_reducible refine gate_dst (N := 16) rfl ?_); refine load_evG ?_ 34 (.tmp 2) rfl gb rfl 34 _ (0, 0) _ BM.out hu34 rfl (by kernel_rfl) ?_; (focus (first | rfl | (go_simp; done) | (simp [Region.wanted, yielded, *]; done)))) | ((with_reducible refine gate_dst (N := 21) rfl ?_); refine load_evG ?_ 34 (.tmp 3) rfl gc rfl 34 _ (0, 0) _ BN.out hu34 rfl (by kernel_rfl) ?_; (focus (first | rfl | (go_simp; done) | (simp [Region.wanted, yielded, *]; done)))) | (go_at_call 7; (with_reducible refine (mosaiclaw16_Few.calls k a0_0 a0_1 a0_2 a0_3 a0_4 a0_5 a0_6 a0_7 a0_8 a0_9 a0_10 a0_11 A0_12 c0_12 l0_12 a0_13 a0_14 a0_15 a0_16 a0_17 a0_18 a0_19 a0_20 true _ (Kd.C_below HR.out zB) HC.out HF.out).mono ?_); rintro e w9 ⟨rfl, hb⟩; replace BM := Aside0.mk (blk_below (zk BM) hb); replace BN := Aside0.mk (blk_below (zk BN) hb); replace HB := Aside0.mk (below_step zB hb); clear hb) | (go_at_call 7; (with_reducible refine (mosaiclaw16_Few.calls k a1_0 a1_1 a1_2 a1_3 a1_4 a1_5 a1_6 a1_7 a1_8 a1_9 a1_10 a1_11 A1_12 c1_12 l1_12 a1_13 a1_14 a1_15 a1_16 a1_17 a1_18 a1_19 a1_20 false _ (Kd.C_below HR1.out zB) HC1.out HG.out).mono ?_); rintro e w9 ⟨rfl, hb⟩; replace BM := Aside0.mk (blk_below (zk BM) hb); replace BN := Aside0.mk (blk_below (zk BN) hb); replace HB := Aside0.mk (below_step zB hb); clear hb) | (go_at_call 8; (with_reducible refine (mosaiclaw16_awake.calls k r _ HA.out).mono ?_); rintro e w9 ⟨rfl, hb⟩; replace BM := Aside0.mk (blk_below (zk BM) hb); replace BN := Aside0.mk (blk_below (zk BN) hb); replace HB := Aside0.mk (below_step zB hb); clear hb))
      go_ret
      exact ⟨by first | rfl | (simp; done), zB⟩
    | true =>
      rw [if_pos rfl] at h
      replace h := Option.bind_eq_some_iff.mp h
      obtain ⟨c1, HK, h⟩ := h
      have HK := Aside0.mk HK
      cases c1 with
      | false =>
        rw [if_neg (by decide)] at h
        have HA := Aside0.mk h
        clear h
        go_enter Try.func6, Try.ntmps6
        go_wp2_with (first | ((with_reducible refine gate_dst (N := 2) rfl ?_); refine box_event ?hg (N := 2) ?hd (cs := #[.int .i64 a0_0, .int .i64 a0_1, .int .i64 a0_2, .string a0_3, .string a0_4, .bool a0_5, .int .i64 a0_6, .int .i64 a0_7, .string a0_8, .string a0_9, .int .i64 a0_10, .string a0_11, .slice A0_12 l0_12.length c0_12, .int .i64 a0_13, .int .i64 a0_14, .int .i64 a0_15, .int .i64 a0_16, .int .i64 a0_17, .int .i64 a0_18, .int .i64 a0_19, .string a0_20]) (t := 34) ?hr ?_; (case hd => rfl); (case hg => rfl); (case hr => first | (go_simp; done) | (go_simp; rfl)); intro gb hg w2 hbox hb; have BM := Aside0.mk hbox; replace HB := Aside0.mk (below_step zB hb); clear hb hbox hg) | ((with_reducible refine gate_dst (N := 3) rfl ?_); refine box_event ?hg (N := 3) ?hd (cs := #[.int .i64 a1_0, .int .i64 a1_1, .int .i64 a1_2, .string a1_3, .string a1_4, .bool a1_5, .int .i64 a1_6, .int .i64 a1_7, .string a1_8, .string a1_9, .int .i64 a1_10, .string a1_11, .slice A1_12 l1_12.length c1_12, .int .i64 a1_13, .int .i64 a1_14, .int .i64 a1_15, .int .i64 a1_16, .int .i64 a1_17, .int .i64 a1_18, .int .i64 a1_19, .string a1_20]) (t := 34) ?hr ?_; (case hd => rfl); (case hg => rfl); (case hr => first | (go_simp; done) | (go_simp; rfl)); intro gc hg w2 hbox hb; have BN := Aside0.mk hbox; replace BM := Aside0.mk (blk_below (zk BM) hb); replace HB := Aside0.mk (below_step zB hb); clear hb hbox hg) | ((with_reducible refine gate_dst (N := 7) rfl ?_); refine wpList_load_row rfl 34 (.tmp 2) rfl gb rfl 34 _ (0, 0) _ BM.out hu34 rfl (by kernel_rfl) ?_) | ((with_reducible refine gate_dst (N := 11) rfl ?_); refine load_evG ?_ 34 (.tmp 3) rfl gc rfl 34 _ (0, 0) _ BN.out hu34 rfl (by kernel_rfl) ?_; (focus (first | rfl | (go_simp; done) | (simp [Region.wanted, yielded, *]; done)))) | ((with_reducible refine gate_dst (N := 16) rfl ?_); refine load_evG ?_ 34 (.tmp 2) rfl gb rfl 34 _ (0, 0) _ BM.out hu34 rfl (by kernel_rfl) ?_; (focus (first | rfl | (go_simp; done) | (simp [Region.wanted, yielded, *]; done)))) | ((with_reducible refine gate_dst (N := 21) rfl ?_); refine load_evG ?_ 34 (.tmp 3) rfl gc rfl 34 _ (0, 0) _ BN.out hu34 rfl (by kernel_rfl) ?_; (focus (first | rfl | (go_simp; done) | (simp [Region.wanted, yielded, *]; done)))) | (go_at_call 7; (with_reducible refine (mosaiclaw16_Few.calls k a0_0 a0_1 a0_2 a0_3 a0_4 a0_5 a0_6 a0_7 a0_8 a0_9 a0_10 a0_11 A0_12 c0_12 l0_12 a0_13 a0_14 a0_15 a0_16 a0_17 a0_18 a0_19 a0_20 true _ (Kd.C_below HR.out zB) HC.out HF.out).mono ?_); rintro e w9 ⟨rfl, hb⟩; replace BM := Aside0.mk (blk_below (zk BM) hb); replace BN := Aside0.mk (blk_below (zk BN) hb); replace HB := Aside0.mk (below_step zB hb); clear hb) | (go_at_call 7; (with_reducible refine (mosaiclaw16_Few.calls k a1_0 a1_1 a1_2 a1_3 a1_4 a1_5 a1_6 a1_7 a1_8 a1_9 a1_10 a1_11 A1_12 c1_12 l1_12 a1_13 a1_14 a1_15 a1_16 a1_17 a1_18 a1_19 a1_20 true _ (Kd.C_below HR1.out zB) HC1.out HG.out).mono ?_); rintro e w9 ⟨rfl, hb⟩; replace BM := Aside0.mk (blk_below (zk BM) hb); replace BN := Aside0.mk (blk_below (zk BN) hb); replace HB := Aside0.mk (below_step zB hb); clear hb) | (go_at_call 12; (with_reducible refine (wire_Check.calls k a0_0 a0_1 a0_2 a0_3 a0_4 a0_5 a0_6 a0_7 a0_8 a0_9 a0_10 a0_11 A0_12 c0_12 l0_12 a0_13 a0_14 a0_15 a0_16 a0_17 a0_18 a0_19 a0_20 false _ (Kd.C_below HR.out zB) HC.out HK.out).mono ?_); rintro e w9 ⟨rfl, hb⟩; replace BM := Aside0.mk (blk_below (zk BM) hb); replace BN := Aside0.mk (blk_below (zk BN) hb); replace HB := Aside0.mk (below_step zB hb); clear hb) | (go_at_call 8; (with_reducible refine (mosaiclaw16_awake.calls k r _ HA.out).mono ?_); rintro e w9 ⟨rfl, hb⟩; replace BM := Aside0.mk (blk_below (zk BM) hb); replace BN := Aside0.mk (blk_below (zk BN) hb); replace HB := Aside0.mk (below_step zB hb); clear hb))
        go_ret
        exact ⟨by first | rfl | (simp; done), zB⟩
      | true =>
        rw [if_pos rfl] at h
        replace h := Option.bind_eq_some_iff.mp h
        obtain ⟨c2, HL, h⟩ := h
        have HL := Aside0.mk HL
        cases c2 with
        | false =>
          rw [if_neg (by decide)] at h
          have HA := Aside0.mk h
          clear h
          go_enter Try.func6, Try.ntmps6
          go_wp2_with (first | ((with_reducible refine gate_dst (N := 2) rfl ?_); refine box_event ?hg (N := 2) ?hd (cs := #[.int .i64 a0_0, .int .i64 a0_1, .int .i64 a0_2, .string a0_3, .string a0_4, .bool a0_5, .int .i64 a0_6, .int .i64 a0_7, .string a0_8, .string a0_9, .int .i64 a0_10, .string a0_11, .slice A0_12 l0_12.length c0_12, .int .i64 a0_13, .int .i64 a0_14, .int .i64 a0_15, .int .i64 a0_16, .int .i64 a0_17, .int .i64 a0_18, .int .i64 a0_19, .string a0_20]) (t := 34) ?hr ?_; (case hd => rfl); (case hg => rfl); (case hr => first | (go_simp; done) | (go_simp; rfl)); intro gb hg w2 hbox hb; have BM := Aside0.mk hbox; replace HB := Aside0.mk (below_step zB hb); clear hb hbox hg) | ((with_reducible refine gate_dst (N := 3) rfl ?_); refine box_event ?hg (N := 3) ?hd (cs := #[.int .i64 a1_0, .int .i64 a1_1, .int .i64 a1_2, .string a1_3, .string a1_4, .bool a1_5, .int .i64 a1_6, .int .i64 a1_7, .string a1_8, .string a1_9, .int .i64 a1_10, .string a1_11, .slice A1_12 l1_12.length c1_12, .int .i64 a1_13, .int .i64 a1_14, .int .i64 a1_15, .int .i64 a1_16, .int .i64 a1_17, .int .i64 a1_18, .int .i64 a1_19, .string a1_20]) (t := 34) ?hr ?_; (case hd => rfl); (case hg => rfl); (case hr => first | (go_simp; done) | (go_simp; rfl)); intro gc hg w2 hbox hb; have BN := Aside0.mk hbox; replace BM := Aside0.mk (blk_below (zk BM) hb); replace HB := Aside0.mk (below_step zB hb); clear hb hbox hg) | ((with_reducible refine gate_dst (N := 7) rfl ?_); refine wpList_load_row rfl 34 (.tmp 2) rfl gb rfl 34 _ (0, 0) _ BM.out hu34 rfl (by kernel_rfl) ?_) | ((with_reducible refine gate_dst (N := 11) rfl ?_); refine load_evG ?_ 34 (.tmp 3) rfl gc rfl 34 _ (0, 0) _ BN.out hu34 rfl (by kernel_rfl) ?_; (focus (first | rfl | (go_simp; done) | (simp [Region.wanted, yielded, *]; done)))) | ((with_reducible refine gate_dst (N := 16) rfl ?_); refine load_evG ?_ 34 (.tmp 2) rfl gb rfl 34 _ (0, 0) _ BM.out hu34 rfl (by kernel_rfl) ?_; (focus (first | rfl | (go_simp; done) | (simp [Region.wanted, yielded, *]; done)))) | ((with_reducible refine gate_dst (N := 21) rfl ?_); refine load_evG ?_ 34 (.tmp 3) rfl gc rfl 34 _ (0, 0) _ BN.out hu34 rfl (by kernel_rfl) ?_; (focus (first | rfl | (go_simp; done) | (simp [Region.wanted, yielded, *]; done)))) | (go_at_call 7; (with_reducible refine (mosaiclaw16_Few.calls k a0_0 a0_1 a0_2 a0_3 a0_4 a0_5 a0_6 a0_7 a0_8 a0_9 a0_10 a0_11 A0_12 c0_12 l0_12 a0_13 a0_14 a0_15 a0_16 a0_17 a0_18 a0_19 a0_20 true _ (Kd.C_below HR.out zB) HC.out HF.out).mono ?_); rintro e w9 ⟨rfl, hb⟩; replace BM := Aside0.mk (blk_below (zk BM) hb); replace BN := Aside0.mk (blk_below (zk BN) hb); replace HB := Aside0.mk (below_step zB hb); clear hb) | (go_at_call 7; (with_reducible refine (mosaiclaw16_Few.calls k a1_0 a1_1 a1_2 a1_3 a1_4 a1_5 a1_6 a1_7 a1_8 a1_9 a1_10 a1_11 A1_12 c1_12 l1_12 a1_13 a1_14 a1_15 a1_16 a1_17 a1_18 a1_19 a1_20 true _ (Kd.C_below HR1.out zB) HC1.out HG.out).mono ?_); rintro e w9 ⟨rfl, hb⟩; replace BM := Aside0.mk (blk_below (zk BM) hb); replace BN := Aside0.mk (blk_below (zk BN) hb); replace HB := Aside0.mk (below_step zB hb); clear hb) | (go_at_call 12; (with_reducible refine (wire_Check.calls k a0_0 a0_1 a0_2 a0_3 a0_4 a0_5 a0_6 a0_7 a0_8 a0_9 a0_10 a0_11 A0_12 c0_12 l0_12 a0_13 a0_14 a0_15 a0_16 a0_17 a0_18 a0_19 a0_20 true _ (Kd.C_below HR.out zB) HC.out HK.out).mono ?_); rintro e w9 ⟨rfl, hb⟩; replace BM := Aside0.mk (blk_below (zk BM) hb); replace BN := Aside0.mk (blk_below (zk BN) hb); replace HB := Aside0.mk (below_step zB hb); clear hb) | (go_at_call 12; (with_reducible refine (wire_Check.calls k a1_0 a1_1 a1_2 a1_3 a1_4 a1_5 a1_6 a1_7 a1_8 a1_9 a1_10 a1_11 A1_12 c1_12 l1_12 a1_13 a1_14 a1_15 a1_16 a1_17 a1_18 a1_19 a1_20 false _ (Kd.C_below HR1.out zB) HC1.out HL.out).mono ?_); rintro e w9 ⟨rfl, hb⟩; replace BM := Aside0.mk (blk_below (zk BM) hb); replace BN := Aside0.mk (blk_below (zk BN) hb); replace HB := Aside0.mk (below_step zB hb); clear hb) | (go_at_call 8; (with_reducible refine (mosaiclaw16_awake.calls k r _ HA.out).mono ?_); rintro e w9 ⟨rfl, hb⟩; replace BM := Aside0.mk (blk_below (zk BM) hb); replace BN := Aside0.mk (blk_below (zk BN) hb); replace HB := Aside0.mk (below_step zB hb); clear hb))
          go_ret
          exact ⟨by first | rfl | (simp; done), zB⟩
        | true =>
          rw [if_pos rfl] at h
          unfold mosaiclaw16_WireApart.main at h
          replace h := Option.bind_eq_some_iff.mp h
          obtain ⟨x, HX, h⟩ := h
          have HX := Aside0.mk HX
          replace h := Option.bind_eq_some_iff.mp h
          obtain ⟨y, HY, h⟩ := h
          have HY := Aside0.mk HY
          replace h := Option.bind_eq_some_iff.mp h
          obtain ⟨b, HA, h⟩ := h
          have HA := Aside0.mk HA
          split at h
          rotate_left
          · cases h
          rename_i hb1
          subst hb1
          replace h := Option.bind_eq_some_iff.mp h
          obtain ⟨q, HS, h⟩ := h
          have HS := Aside0.mk HS
          cases q with
          | true =>
            rw [if_pos rfl] at h
            split at h
            rotate_left
            · cases h
            rename_i e
            obtain ⟨e, hz⟩ := e
            have eb : (x.toList == y.toList) = true := beq_iff_eq.mpr e
            obtain rfl := Option.some.inj h
            clear h
            have d0 : decide ((y.size : Int) ≤ (x.size : Int)) = true := by simpa using hz
            have d1 : decide (y.size ≤ x.size) = true := by simpa using hz
            go_enter Try.func6, Try.ntmps6
            go_upto_region 3 with (first | ((with_reducible refine gate_dst (N := 2) rfl ?_); refine box_event ?hg (N := 2) ?hd (cs := #[.int .i64 a0_0, .int .i64 a0_1, .int .i64 a0_2, .string a0_3, .string a0_4, .bool a0_5, .int .i64 a0_6, .int .i64 a0_7, .string a0_8, .string a0_9, .int .i64 a0_10, .string a0_11, .slice A0_12 l0_12.length c0_12, .int .i64 a0_13, .int .i64 a0_14, .int .i64 a0_15, .int .i64 a0_16, .int .i64 a0_17, .int .i64 a0_18, .int .i64 a0_19, .string a0_20]) (t := 34) ?hr ?_; (case hd => rfl); (case hg => rfl); (case hr => first | (go_simp; done) | (go_simp; rfl)); intro gb hg w2 hbox hb; have BM := Aside0.mk hbox; replace HB := Aside0.mk (below_step zB hb); clear hb hbox hg) | ((with_reducible refine gate_dst (N := 3) rfl ?_); refine box_event ?hg (N := 3) ?hd (cs := #[.int .i64 a1_0, .int .i64 a1_1, .int .i64 a1_2, .string a1_3, .string a1_4, .bool a1_5, .int .i64 a1_6, .int .i64 a1_7, .string a1_8, .string a1_9, .int .i64 a1_10, .string a1_11, .slice A1_12 l1_12.length c1_12, .int .i64 a1_13, .int .i64 a1_14, .int .i64 a1_15, .int .i64 a1_16, .int .i64 a1_17, .int .i64 a1_18, .int .i64 a1_19, .string a1_20]) (t := 34) ?hr ?_; (case hd => rfl); (case hg => rfl); (case hr => first | (go_simp; done) | (go_simp; rfl)); intro gc hg w2 hbox hb; have BN := Aside0.mk hbox; replace BM := Aside0.mk (blk_below (zk BM) hb); replace HB := Aside0.mk (below_step zB hb); clear hb hbox hg) | ((with_reducible refine gate_dst (N := 7) rfl ?_); refine wpList_load_row rfl 34 (.tmp 2) rfl gb rfl 34 _ (0, 0) _ BM.out hu34 rfl (by kernel_rfl) ?_) | ((with_reducible refine gate_dst (N := 11) rfl ?_); refine load_evG ?_ 34 (.tmp 3) rfl gc rfl 34 _ (0, 0) _ BN.out hu34 rfl (by kernel_rfl) ?_; (focus (first | rfl | (go_simp; done) | (simp [Region.wanted, yielded, *]; done)))) | ((with_reducible refine gate_dst (N := 16) rfl ?_); refine load_evG ?_ 34 (.tmp 2) rfl gb rfl 34 _ (0, 0) _ BM.out hu34 rfl (by kernel_rfl) ?_; (focus (first | rfl | (go_simp; done) | (simp [Region.wanted, yielded, *]; done)))) | ((with_reducible refine gate_dst (N := 21) rfl ?_); refine load_evG ?_ 34 (.tmp 3) rfl gc rfl 34 _ (0, 0) _ BN.out hu34 rfl (by kernel_rfl) ?_; (focus (first | rfl | (go_simp; done) | (simp [Region.wanted, yielded, *]; done)))) | (go_at_call 7; (with_reducible refine (mosaiclaw16_Few.calls k a0_0 a0_1 a0_2 a0_3 a0_4 a0_5 a0_6 a0_7 a0_8 a0_9 a0_10 a0_11 A0_12 c0_12 l0_12 a0_13 a0_14 a0_15 a0_16 a0_17 a0_18 a0_19 a0_20 true _ (Kd.C_below HR.out zB) HC.out HF.out).mono ?_); rintro e w9 ⟨rfl, hb⟩; replace BM := Aside0.mk (blk_below (zk BM) hb); replace BN := Aside0.mk (blk_below (zk BN) hb); replace HB := Aside0.mk (below_step zB hb); clear hb) | (go_at_call 7; (with_reducible refine (mosaiclaw16_Few.calls k a1_0 a1_1 a1_2 a1_3 a1_4 a1_5 a1_6 a1_7 a1_8 a1_9 a1_10 a1_11 A1_12 c1_12 l1_12 a1_13 a1_14 a1_15 a1_16 a1_17 a1_18 a1_19 a1_20 true _ (Kd.C_below HR1.out zB) HC1.out HG.out).mono ?_); rintro e w9 ⟨rfl, hb⟩; replace BM := Aside0.mk (blk_below (zk BM) hb); replace BN := Aside0.mk (blk_below (zk BN) hb); replace HB := Aside0.mk (below_step zB hb); clear hb) | (go_at_call 12; (with_reducible refine (wire_Check.calls k a0_0 a0_1 a0_2 a0_3 a0_4 a0_5 a0_6 a0_7 a0_8 a0_9 a0_10 a0_11 A0_12 c0_12 l0_12 a0_13 a0_14 a0_15 a0_16 a0_17 a0_18 a0_19 a0_20 true _ (Kd.C_below HR.out zB) HC.out HK.out).mono ?_); rintro e w9 ⟨rfl, hb⟩; replace BM := Aside0.mk (blk_below (zk BM) hb); replace BN := Aside0.mk (blk_below (zk BN) hb); replace HB := Aside0.mk (below_step zB hb); clear hb) | (go_at_call 12; (with_reducible refine (wire_Check.calls k a1_0 a1_1 a1_2 a1_3 a1_4 a1_5 a1_6 a1_7 a1_8 a1_9 a1_10 a1_11 A1_12 c1_12 l1_12 a1_13 a1_14 a1_15 a1_16 a1_17 a1_18 a1_19 a1_20 true _ (Kd.C_below HR1.out zB) HC1.out HL.out).mono ?_); rintro e w9 ⟨rfl, hb⟩; replace BM := Aside0.mk (blk_below (zk BM) hb); replace BN := Aside0.mk (blk_below (zk BN) hb); replace HB := Aside0.mk (below_step zB hb); clear hb))
            replace BM := Aside0.mk (blk_drew BM.out)
            replace BN := Aside0.mk (blk_drew BN.out)
            replace HB := Aside0.mk (below_drew1 HB.out)
            refine start_ (n := 6) (S := fun w' => w'.heap[gb]? = some (.cells #[.int .i64 a0_0, .int .i64 a0_1, .int .i64 a0_2, .string a0_3, .string a0_4, .bool a0_5, .int .i64 a0_6, .int .i64 a0_7, .string a0_8, .string a0_9, .int .i64 a0_10, .string a0_11, .slice A0_12 l0_12.length c0_12, .int .i64 a0_13, .int .i64 a0_14, .int .i64 a0_15, .int .i64 a0_16, .int .i64 a0_17, .int .i64 a0_18, .int .i64 a0_19, .string a0_20] 34 (0, 0)) ∧ w'.heap[gc]? = some (.cells #[.int .i64 a1_0, .int .i64 a1_1, .int .i64 a1_2, .string a1_3, .string a1_4, .bool a1_5, .int .i64 a1_6, .int .i64 a1_7, .string a1_8, .string a1_9, .int .i64 a1_10, .string a1_11, .slice A1_12 l1_12.length c1_12, .int .i64 a1_13, .int .i64 a1_14, .int .i64 a1_15, .int .i64 a1_16, .int .i64 a1_17, .int .i64 a1_18, .int .i64 a1_19, .string a1_20] 34 (0, 0))) (ds := []) #[false, false, false, false, false, false] (by kernel_rfl) rfl rfl ⟨BM.out, BN.out⟩ (fun hHeld => ?_)
            refine take_ (i := 0) (N := some 26) (v := ?_) (a' := ?_) #[true, false, false, false, false, false] rfl rfl (by kernel_rfl) (fun _ _ _ h => h) (Or.inl ⟨by rfl, ?_⟩) hHeld ?_ ?_
            rotate_left
            · rintro w' ⟨s0, s1⟩; first | (refine Eq.trans (row_load 34 (.tmp 2) (by rfl) gb (by rfl) s0 hu34 rfl (by kernel_rfl)) ?_; with_reducible rfl) | (refine Eq.trans (row_load 34 (.tmp 3) (by rfl) gc (by rfl) s1 hu34 rfl (by kernel_rfl)) ?_; with_reducible rfl)
            rotate_left
            · simp only [Act.put, List.setIfInBounds_toArray, List.set_cons_zero, List.set_cons_succ, i64_w, i32_w]
              rfl
            refine take_ (i := 2) (N := some 28) (v := ?_) (a' := ?_) #[true, false, true, false, false, false] rfl rfl (by kernel_rfl) (fun _ _ _ h => h) (Or.inl ⟨by rfl, ?_⟩) hHeld ?_ ?_
            rotate_left
            · rintro w' ⟨s0, s1⟩; first | (refine Eq.trans (row_load 34 (.tmp 2) (by rfl) gb (by rfl) s0 hu34 rfl (by kernel_rfl)) ?_; with_reducible rfl) | (refine Eq.trans (row_load 34 (.tmp 3) (by rfl) gc (by rfl) s1 hu34 rfl (by kernel_rfl)) ?_; with_reducible rfl)
            rotate_left
            · simp only [Act.put, List.setIfInBounds_toArray, List.set_cons_zero, List.set_cons_succ, i64_w, i32_w]
              rfl
            refine one_ (i := 1) (N := some 27) #[true, true, true, false, false, false] rfl rfl (by kernel_rfl) (by decide) (fun K hK => ?_)
            refine goes_ Try.func11 (by kernel_rfl) rfl #[.agg #[.int .i64 a0_0, .int .i64 a0_1, .int .i64 a0_2, .string a0_3, .string a0_4, .bool a0_5, .int .i64 a0_6, .int .i64 a0_7, .string a0_8, .string a0_9, .int .i64 a0_10, .string a0_11, .slice A0_12 l0_12.length c0_12, .int .i64 a0_13, .int .i64 a0_14, .int .i64 a0_15, .int .i64 a0_16, .int .i64 a0_17, .int .i64 a0_18, .int .i64 a0_19, .string a0_20]] (by rfl) rfl rfl (by simp only [List.map_toArray, List.map_cons, List.map_nil]; rfl) ?_
            with_reducible refine (wire_Text.calls k a0_0 a0_1 a0_2 a0_3 a0_4 a0_5 a0_6 a0_7 a0_8 a0_9 a0_10 a0_11 A0_12 c0_12 l0_12 a0_13 a0_14 a0_15 a0_16 a0_17 a0_18 a0_19 a0_20 x _ (Kd.C_below HR.out HB.out) HC.out HX.out).mono ?_
            rintro e w9 ⟨rfl, hb⟩
            refine ⟨_, rfl, ?_⟩
            replace BM := Aside0.mk (blk_below BM.out hb)
            replace BN := Aside0.mk (blk_below BN.out hb)
            replace HB := Aside0.mk (below_step HB.out hb)
            clear hb
            refine hK.out _ _ ⟨BM.out, BN.out⟩ (fun hHeld => ?_)
            clear hK K
            refine norm_ (a' := ?_) ?_ ?_
            rotate_left
            · show Act.put _ (some 27) _ = _
              simp only [Act.put, List.setIfInBounds_toArray, List.set_cons_zero, List.set_cons_succ, i64_w, i32_w]
              rfl
            refine one_ (i := 3) (N := some 29) #[true, true, true, true, false, false] rfl rfl (by kernel_rfl) (by decide) (fun K hK => ?_)
            refine goes_ Try.func11 (by kernel_rfl) rfl #[.agg #[.int .i64 a1_0, .int .i64 a1_1, .int .i64 a1_2, .string a1_3, .string a1_4, .bool a1_5, .int .i64 a1_6, .int .i64 a1_7, .string a1_8, .string a1_9, .int .i64 a1_10, .string a1_11, .slice A1_12 l1_12.length c1_12, .int .i64 a1_13, .int .i64 a1_14, .int .i64 a1_15, .int .i64 a1_16, .int .i64 a1_17, .int .i64 a1_18, .int .i64 a1_19, .string a1_20]] (by rfl) rfl rfl (by simp only [List.map_toArray, List.map_cons, List.map_nil]; rfl) ?_
            with_reducible refine (wire_Text.calls k a1_0 a1_1 a1_2 a1_3 a1_4 a1_5 a1_6 a1_7 a1_8 a1_9 a1_10 a1_11 A1_12 c1_12 l1_12 a1_13 a1_14 a1_15 a1_16 a1_17 a1_18 a1_19 a1_20 y _ (Kd.C_below HR1.out HB.out) HC1.out HY.out).mono ?_
            rintro e w9 ⟨rfl, hb⟩
            refine ⟨_, rfl, ?_⟩
            replace BM := Aside0.mk (blk_below BM.out hb)
            replace BN := Aside0.mk (blk_below BN.out hb)
            replace HB := Aside0.mk (below_step HB.out hb)
            clear hb
            refine hK.out _ _ ⟨BM.out, BN.out⟩ (fun hHeld => ?_)
            clear hK K
            refine norm_ (a' := ?_) ?_ ?_
            rotate_left
            · show Act.put _ (some 29) _ = _
              simp only [Act.put, List.setIfInBounds_toArray, List.set_cons_zero, List.set_cons_succ, i64_w, i32_w]
              rfl
            refine pure_ (i := 4) (N := some 5) (v := ?_) (a' := ?_) #[true, true, true, true, true, false] rfl rfl (by kernel_rfl) (fun _ _ _ h => h) (Or.inl ⟨by rfl, ?_⟩) ?_ ?_
            rotate_left
            · intro w'
              go_simp
              with_reducible rfl
            rotate_left
            · simp only [Act.put, List.setIfInBounds_toArray, List.set_cons_zero, List.set_cons_succ, i64_w, i32_w]
              rfl
            refine pure_ (i := 5) (N := some 6) (v := ?_) (a' := ?_) #[true, true, true, true, true, true] rfl rfl (by kernel_rfl) (fun _ _ _ h => h) (Or.inl ⟨by rfl, ?_⟩) ?_ ?_
            rotate_left
            · intro w'
              go_simp
              with_reducible rfl
            rotate_left
            · simp only [Act.put, List.setIfInBounds_toArray, List.set_cons_zero, List.set_cons_succ, i64_w, i32_w]
              rfl
            refine done_ (by kernel_rfl) ?_
            go_wp2_with (first | (go_at_call 8; (with_reducible refine (mosaiclaw16_awake.calls k true _ HA.out).mono ?_); rintro e w9 ⟨rfl, hb⟩; replace BM := Aside0.mk (blk_below (zk BM) hb); replace BN := Aside0.mk (blk_below (zk BN) hb); replace HB := Aside0.mk (below_step zB hb); clear hb) | ((with_reducible refine gate_dst (N := 35) rfl ?_); refine load_evG ?_ 34 (.tmp 2) rfl gb rfl 34 _ (0, 0) _ BM.out hu34 rfl (by kernel_rfl) ?_; (focus (first | rfl | (go_simp; done) | (simp [Region.wanted, yielded, *]; done)))) | ((with_reducible refine gate_dst (N := 36) rfl ?_); refine load_evG ?_ 34 (.tmp 3) rfl gc rfl 34 _ (0, 0) _ BN.out hu34 rfl (by kernel_rfl) ?_; (focus (first | rfl | (go_simp; done) | (simp [Region.wanted, yielded, *]; done)))) | (go_at_call 13; (with_reducible refine (wire_Same.calls k a0_0 a0_1 a0_2 a0_3 a0_4 a0_5 a0_6 a0_7 a0_8 a0_9 a0_10 a0_11 A0_12 c0_12 l0_12 a0_13 a0_14 a0_15 a0_16 a0_17 a0_18 a0_19 a0_20 a1_0 a1_1 a1_2 a1_3 a1_4 a1_5 a1_6 a1_7 a1_8 a1_9 a1_10 a1_11 A1_12 c1_12 l1_12 a1_13 a1_14 a1_15 a1_16 a1_17 a1_18 a1_19 a1_20 true _ (Kd.C_below HR.out zB) HC.out (Kd.C_below HR1.out zB) HC1.out HS.out).mono ?_); rintro e w9 ⟨rfl, hb⟩; replace BM := Aside0.mk (blk_below (zk BM) hb); replace BN := Aside0.mk (blk_below (zk BN) hb); replace HB := Aside0.mk (below_step zB hb); clear hb))
            go_ret
            exact ⟨by first | rfl | (simp; done) | (simp [*]; done), zB⟩
          | false =>
            rw [if_neg (by decide)] at h
            split at h
            · cases h
            rename_i e
            have eb : (x.toList == y.toList) = false := beq_eq_false_iff_ne.mpr e
            split at h
            · rename_i hz
              obtain rfl := Option.some.inj h
              clear h
              have d0 : decide ((y.size : Int) ≤ (x.size : Int)) = true := by simpa using hz
              have d1 : decide (y.size ≤ x.size) = true := by simpa using hz
              go_enter Try.func6, Try.ntmps6
              go_upto_region 3 with (first | ((with_reducible refine gate_dst (N := 2) rfl ?_); refine box_event ?hg (N := 2) ?hd (cs := #[.int .i64 a0_0, .int .i64 a0_1, .int .i64 a0_2, .string a0_3, .string a0_4, .bool a0_5, .int .i64 a0_6, .int .i64 a0_7, .string a0_8, .string a0_9, .int .i64 a0_10, .string a0_11, .slice A0_12 l0_12.length c0_12, .int .i64 a0_13, .int .i64 a0_14, .int .i64 a0_15, .int .i64 a0_16, .int .i64 a0_17, .int .i64 a0_18, .int .i64 a0_19, .string a0_20]) (t := 34) ?hr ?_; (case hd => rfl); (case hg => rfl); (case hr => first | (go_simp; done) | (go_simp; rfl)); intro gb hg w2 hbox hb; have BM := Aside0.mk hbox; replace HB := Aside0.mk (below_step zB hb); clear hb hbox hg) | ((with_reducible refine gate_dst (N := 3) rfl ?_); refine box_event ?hg (N := 3) ?hd (cs := #[.int .i64 a1_0, .int .i64 a1_1, .int .i64 a1_2, .string a1_3, .string a1_4, .bool a1_5, .int .i64 a1_6, .int .i64 a1_7, .string a1_8, .string a1_9, .int .i64 a1_10, .string a1_11, .slice A1_12 l1_12.length c1_12, .int .i64 a1_13, .int .i64 a1_14, .int .i64 a1_15, .int .i64 a1_16, .int .i64 a1_17, .int .i64 a1_18, .int .i64 a1_19, .string a1_20]) (t := 34) ?hr ?_; (case hd => rfl); (case hg => rfl); (case hr => first | (go_simp; done) | (go_simp; rfl)); intro gc hg w2 hbox hb; have BN := Aside0.mk hbox; replace BM := Aside0.mk (blk_below (zk BM) hb); replace HB := Aside0.mk (below_step zB hb); clear hb hbox hg) | ((with_reducible refine gate_dst (N := 7) rfl ?_); refine wpList_load_row rfl 34 (.tmp 2) rfl gb rfl 34 _ (0, 0) _ BM.out hu34 rfl (by kernel_rfl) ?_) | ((with_reducible refine gate_dst (N := 11) rfl ?_); refine load_evG ?_ 34 (.tmp 3) rfl gc rfl 34 _ (0, 0) _ BN.out hu34 rfl (by kernel_rfl) ?_; (focus (first | rfl | (go_simp; done) | (simp [Region.wanted, yielded, *]; done)))) | ((with_reducible refine gate_dst (N := 16) rfl ?_); refine load_evG ?_ 34 (.tmp 2) rfl gb rfl 34 _ (0, 0) _ BM.out hu34 rfl (by kernel_rfl) ?_; (focus (first | rfl | (go_simp; done) | (simp [Region.wanted, yielded, *]; done)))) | ((with_reducible refine gate_dst (N := 21) rfl ?_); refine load_evG ?_ 34 (.tmp 3) rfl gc rfl 34 _ (0, 0) _ BN.out hu34 rfl (by kernel_rfl) ?_; (focus (first | rfl | (go_simp; done) | (simp [Region.wanted, yielded, *]; done)))) | (go_at_call 7; (with_reducible refine (mosaiclaw16_Few.calls k a0_0 a0_1 a0_2 a0_3 a0_4 a0_5 a0_6 a0_7 a0_8 a0_9 a0_10 a0_11 A0_12 c0_12 l0_12 a0_13 a0_14 a0_15 a0_16 a0_17 a0_18 a0_19 a0_20 true _ (Kd.C_below HR.out zB) HC.out HF.out).mono ?_); rintro e w9 ⟨rfl, hb⟩; replace BM := Aside0.mk (blk_below (zk BM) hb); replace BN := Aside0.mk (blk_below (zk BN) hb); replace HB := Aside0.mk (below_step zB hb); clear hb) | (go_at_call 7; (with_reducible refine (mosaiclaw16_Few.calls k a1_0 a1_1 a1_2 a1_3 a1_4 a1_5 a1_6 a1_7 a1_8 a1_9 a1_10 a1_11 A1_12 c1_12 l1_12 a1_13 a1_14 a1_15 a1_16 a1_17 a1_18 a1_19 a1_20 true _ (Kd.C_below HR1.out zB) HC1.out HG.out).mono ?_); rintro e w9 ⟨rfl, hb⟩; replace BM := Aside0.mk (blk_below (zk BM) hb); replace BN := Aside0.mk (blk_below (zk BN) hb); replace HB := Aside0.mk (below_step zB hb); clear hb) | (go_at_call 12; (with_reducible refine (wire_Check.calls k a0_0 a0_1 a0_2 a0_3 a0_4 a0_5 a0_6 a0_7 a0_8 a0_9 a0_10 a0_11 A0_12 c0_12 l0_12 a0_13 a0_14 a0_15 a0_16 a0_17 a0_18 a0_19 a0_20 true _ (Kd.C_below HR.out zB) HC.out HK.out).mono ?_); rintro e w9 ⟨rfl, hb⟩; replace BM := Aside0.mk (blk_below (zk BM) hb); replace BN := Aside0.mk (blk_below (zk BN) hb); replace HB := Aside0.mk (below_step zB hb); clear hb) | (go_at_call 12; (with_reducible refine (wire_Check.calls k a1_0 a1_1 a1_2 a1_3 a1_4 a1_5 a1_6 a1_7 a1_8 a1_9 a1_10 a1_11 A1_12 c1_12 l1_12 a1_13 a1_14 a1_15 a1_16 a1_17 a1_18 a1_19 a1_20 true _ (Kd.C_below HR1.out zB) HC1.out HL.out).mono ?_); rintro e w9 ⟨rfl, hb⟩; replace BM := Aside0.mk (blk_below (zk BM) hb); replace BN := Aside0.mk (blk_below (zk BN) hb); replace HB := Aside0.mk (below_step zB hb); clear hb))
              replace BM := Aside0.mk (blk_drew BM.out)
              replace BN := Aside0.mk (blk_drew BN.out)
              replace HB := Aside0.mk (below_drew1 HB.out)
              refine start_ (n := 6) (S := fun w' => w'.heap[gb]? = some (.cells #[.int .i64 a0_0, .int .i64 a0_1, .int .i64 a0_2, .string a0_3, .string a0_4, .bool a0_5, .int .i64 a0_6, .int .i64 a0_7, .string a0_8, .string a0_9, .int .i64 a0_10, .string a0_11, .slice A0_12 l0_12.length c0_12, .int .i64 a0_13, .int .i64 a0_14, .int .i64 a0_15, .int .i64 a0_16, .int .i64 a0_17, .int .i64 a0_18, .int .i64 a0_19, .string a0_20] 34 (0, 0)) ∧ w'.heap[gc]? = some (.cells #[.int .i64 a1_0, .int .i64 a1_1, .int .i64 a1_2, .string a1_3, .string a1_4, .bool a1_5, .int .i64 a1_6, .int .i64 a1_7, .string a1_8, .string a1_9, .int .i64 a1_10, .string a1_11, .slice A1_12 l1_12.length c1_12, .int .i64 a1_13, .int .i64 a1_14, .int .i64 a1_15, .int .i64 a1_16, .int .i64 a1_17, .int .i64 a1_18, .int .i64 a1_19, .string a1_20] 34 (0, 0))) (ds := []) #[false, false, false, false, false, false] (by kernel_rfl) rfl rfl ⟨BM.out, BN.out⟩ (fun hHeld => ?_)
              refine take_ (i := 0) (N := some 26) (v := ?_) (a' := ?_) #[true, false, false, false, false, false] rfl rfl (by kernel_rfl) (fun _ _ _ h => h) (Or.inl ⟨by rfl, ?_⟩) hHeld ?_ ?_
              rotate_left
              · rintro w' ⟨s0, s1⟩; first | (refine Eq.trans (row_load 34 (.tmp 2) (by rfl) gb (by rfl) s0 hu34 rfl (by kernel_rfl)) ?_; with_reducible rfl) | (refine Eq.trans (row_load 34 (.tmp 3) (by rfl) gc (by rfl) s1 hu34 rfl (by kernel_rfl)) ?_; with_reducible rfl)
              rotate_left
              · simp only [Act.put, List.setIfInBounds_toArray, List.set_cons_zero, List.set_cons_succ, i64_w, i32_w]
                rfl
              refine take_ (i := 2) (N := some 28) (v := ?_) (a' := ?_) #[true, false, true, false, false, false] rfl rfl (by kernel_rfl) (fun _ _ _ h => h) (Or.inl ⟨by rfl, ?_⟩) hHeld ?_ ?_
              rotate_left
              · rintro w' ⟨s0, s1⟩; first | (refine Eq.trans (row_load 34 (.tmp 2) (by rfl) gb (by rfl) s0 hu34 rfl (by kernel_rfl)) ?_; with_reducible rfl) | (refine Eq.trans (row_load 34 (.tmp 3) (by rfl) gc (by rfl) s1 hu34 rfl (by kernel_rfl)) ?_; with_reducible rfl)
              rotate_left
              · simp only [Act.put, List.setIfInBounds_toArray, List.set_cons_zero, List.set_cons_succ, i64_w, i32_w]
                rfl
              refine one_ (i := 1) (N := some 27) #[true, true, true, false, false, false] rfl rfl (by kernel_rfl) (by decide) (fun K hK => ?_)
              refine goes_ Try.func11 (by kernel_rfl) rfl #[.agg #[.int .i64 a0_0, .int .i64 a0_1, .int .i64 a0_2, .string a0_3, .string a0_4, .bool a0_5, .int .i64 a0_6, .int .i64 a0_7, .string a0_8, .string a0_9, .int .i64 a0_10, .string a0_11, .slice A0_12 l0_12.length c0_12, .int .i64 a0_13, .int .i64 a0_14, .int .i64 a0_15, .int .i64 a0_16, .int .i64 a0_17, .int .i64 a0_18, .int .i64 a0_19, .string a0_20]] (by rfl) rfl rfl (by simp only [List.map_toArray, List.map_cons, List.map_nil]; rfl) ?_
              with_reducible refine (wire_Text.calls k a0_0 a0_1 a0_2 a0_3 a0_4 a0_5 a0_6 a0_7 a0_8 a0_9 a0_10 a0_11 A0_12 c0_12 l0_12 a0_13 a0_14 a0_15 a0_16 a0_17 a0_18 a0_19 a0_20 x _ (Kd.C_below HR.out HB.out) HC.out HX.out).mono ?_
              rintro e w9 ⟨rfl, hb⟩
              refine ⟨_, rfl, ?_⟩
              replace BM := Aside0.mk (blk_below BM.out hb)
              replace BN := Aside0.mk (blk_below BN.out hb)
              replace HB := Aside0.mk (below_step HB.out hb)
              clear hb
              refine hK.out _ _ ⟨BM.out, BN.out⟩ (fun hHeld => ?_)
              clear hK K
              refine norm_ (a' := ?_) ?_ ?_
              rotate_left
              · show Act.put _ (some 27) _ = _
                simp only [Act.put, List.setIfInBounds_toArray, List.set_cons_zero, List.set_cons_succ, i64_w, i32_w]
                rfl
              refine one_ (i := 3) (N := some 29) #[true, true, true, true, false, false] rfl rfl (by kernel_rfl) (by decide) (fun K hK => ?_)
              refine goes_ Try.func11 (by kernel_rfl) rfl #[.agg #[.int .i64 a1_0, .int .i64 a1_1, .int .i64 a1_2, .string a1_3, .string a1_4, .bool a1_5, .int .i64 a1_6, .int .i64 a1_7, .string a1_8, .string a1_9, .int .i64 a1_10, .string a1_11, .slice A1_12 l1_12.length c1_12, .int .i64 a1_13, .int .i64 a1_14, .int .i64 a1_15, .int .i64 a1_16, .int .i64 a1_17, .int .i64 a1_18, .int .i64 a1_19, .string a1_20]] (by rfl) rfl rfl (by simp only [List.map_toArray, List.map_cons, List.map_nil]; rfl) ?_
              with_reducible refine (wire_Text.calls k a1_0 a1_1 a1_2 a1_3 a1_4 a1_5 a1_6 a1_7 a1_8 a1_9 a1_10 a1_11 A1_12 c1_12 l1_12 a1_13 a1_14 a1_15 a1_16 a1_17 a1_18 a1_19 a1_20 y _ (Kd.C_below HR1.out HB.out) HC1.out HY.out).mono ?_
              rintro e w9 ⟨rfl, hb⟩
              refine ⟨_, rfl, ?_⟩
              replace BM := Aside0.mk (blk_below BM.out hb)
              replace BN := Aside0.mk (blk_below BN.out hb)
              replace HB := Aside0.mk (below_step HB.out hb)
              clear hb
              refine hK.out _ _ ⟨BM.out, BN.out⟩ (fun hHeld => ?_)
              clear hK K
              refine norm_ (a' := ?_) ?_ ?_
              rotate_left
              · show Act.put _ (some 29) _ = _
                simp only [Act.put, List.setIfInBounds_toArray, List.set_cons_zero, List.set_cons_succ, i64_w, i32_w]
                rfl
              refine pure_ (i := 4) (N := some 5) (v := ?_) (a' := ?_) #[true, true, true, true, true, false] rfl rfl (by kernel_rfl) (fun _ _ _ h => h) (Or.inl ⟨by rfl, ?_⟩) ?_ ?_
              rotate_left
              · intro w'
                go_simp
                with_reducible rfl
              rotate_left
              · simp only [Act.put, List.setIfInBounds_toArray, List.set_cons_zero, List.set_cons_succ, i64_w, i32_w]
                rfl
              refine pure_ (i := 5) (N := some 6) (v := ?_) (a' := ?_) #[true, true, true, true, true, true] rfl rfl (by kernel_rfl) (fun _ _ _ h => h) (Or.inl ⟨by rfl, ?_⟩) ?_ ?_
              rotate_left
              · intro w'
                go_simp
                with_reducible rfl
              rotate_left
              · simp only [Act.put, List.setIfInBounds_toArray, List.set_cons_zero, List.set_cons_succ, i64_w, i32_w]
                rfl
              refine done_ (by kernel_rfl) ?_
              go_wp2_with (first | (go_at_call 8; (with_reducible refine (mosaiclaw16_awake.calls k true _ HA.out).mono ?_); rintro e w9 ⟨rfl, hb⟩; replace BM := Aside0.mk (blk_below (zk BM) hb); replace BN := Aside0.mk (blk_below (zk BN) hb); replace HB := Aside0.mk (below_step zB hb); clear hb) | ((with_reducible refine gate_dst (N := 35) rfl ?_); refine load_evG ?_ 34 (.tmp 2) rfl gb rfl 34 _ (0, 0) _ BM.out hu34 rfl (by kernel_rfl) ?_; (focus (first | rfl | (go_simp; done) | (simp [Region.wanted, yielded, *]; done)))) | ((with_reducible refine gate_dst (N := 36) rfl ?_); refine load_evG ?_ 34 (.tmp 3) rfl gc rfl 34 _ (0, 0) _ BN.out hu34 rfl (by kernel_rfl) ?_; (focus (first | rfl | (go_simp; done) | (simp [Region.wanted, yielded, *]; done)))) | (go_at_call 13; (with_reducible refine (wire_Same.calls k a0_0 a0_1 a0_2 a0_3 a0_4 a0_5 a0_6 a0_7 a0_8 a0_9 a0_10 a0_11 A0_12 c0_12 l0_12 a0_13 a0_14 a0_15 a0_16 a0_17 a0_18 a0_19 a0_20 a1_0 a1_1 a1_2 a1_3 a1_4 a1_5 a1_6 a1_7 a1_8 a1_9 a1_10 a1_11 A1_12 c1_12 l1_12 a1_13 a1_14 a1_15 a1_16 a1_17 a1_18 a1_19 a1_20 false _ (Kd.C_below HR.out zB) HC.out (Kd.C_below HR1.out zB) HC1.out HS.out).mono ?_); rintro e w9 ⟨rfl, hb⟩; replace BM := Aside0.mk (blk_below (zk BM) hb); replace BN := Aside0.mk (blk_below (zk BN) hb); replace HB := Aside0.mk (below_step zB hb); clear hb))
              go_ret
              exact ⟨by first | rfl | (simp; done) | (simp [*]; done), zB⟩
            · rename_i hz
              split at h
              · cases h
              rename_i en
              obtain rfl := Option.some.inj h
              clear h
              have enb : ((y.extract 0 x.size).toList != x.toList) = true := bne_iff_ne.mpr en
              have hle : x.size ≤ y.size := by omega
              have hle2 : (x.size : Int) ≤ (y.size : Int) := by omega
              have d0 : decide ((y.size : Int) ≤ (x.size : Int)) = false := by simpa using hz
              have d1 : decide (y.size ≤ x.size) = false := by simpa using hz
              go_enter Try.func6, Try.ntmps6
              go_upto_region 3 with (first | ((with_reducible refine gate_dst (N := 2) rfl ?_); refine box_event ?hg (N := 2) ?hd (cs := #[.int .i64 a0_0, .int .i64 a0_1, .int .i64 a0_2, .string a0_3, .string a0_4, .bool a0_5, .int .i64 a0_6, .int .i64 a0_7, .string a0_8, .string a0_9, .int .i64 a0_10, .string a0_11, .slice A0_12 l0_12.length c0_12, .int .i64 a0_13, .int .i64 a0_14, .int .i64 a0_15, .int .i64 a0_16, .int .i64 a0_17, .int .i64 a0_18, .int .i64 a0_19, .string a0_20]) (t := 34) ?hr ?_; (case hd => rfl); (case hg => rfl); (case hr => first | (go_simp; done) | (go_simp; rfl)); intro gb hg w2 hbox hb; have BM := Aside0.mk hbox; replace HB := Aside0.mk (below_step zB hb); clear hb hbox hg) | ((with_reducible refine gate_dst (N := 3) rfl ?_); refine box_event ?hg (N := 3) ?hd (cs := #[.int .i64 a1_0, .int .i64 a1_1, .int .i64 a1_2, .string a1_3, .string a1_4, .bool a1_5, .int .i64 a1_6, .int .i64 a1_7, .string a1_8, .string a1_9, .int .i64 a1_10, .string a1_11, .slice A1_12 l1_12.length c1_12, .int .i64 a1_13, .int .i64 a1_14, .int .i64 a1_15, .int .i64 a1_16, .int .i64 a1_17, .int .i64 a1_18, .int .i64 a1_19, .string a1_20]) (t := 34) ?hr ?_; (case hd => rfl); (case hg => rfl); (case hr => first | (go_simp; done) | (go_simp; rfl)); intro gc hg w2 hbox hb; have BN := Aside0.mk hbox; replace BM := Aside0.mk (blk_below (zk BM) hb); replace HB := Aside0.mk (below_step zB hb); clear hb hbox hg) | ((with_reducible refine gate_dst (N := 7) rfl ?_); refine wpList_load_row rfl 34 (.tmp 2) rfl gb rfl 34 _ (0, 0) _ BM.out hu34 rfl (by kernel_rfl) ?_) | ((with_reducible refine gate_dst (N := 11) rfl ?_); refine load_evG ?_ 34 (.tmp 3) rfl gc rfl 34 _ (0, 0) _ BN.out hu34 rfl (by kernel_rfl) ?_; (focus (first | rfl | (go_simp; done) | (simp [Region.wanted, yielded, *]; done)))) | ((with_reducible refine gate_dst (N := 16) rfl ?_); refine load_evG ?_ 34 (.tmp 2) rfl gb rfl 34 _ (0, 0) _ BM.out hu34 rfl (by kernel_rfl) ?_; (focus (first | rfl | (go_simp; done) | (simp [Region.wanted, yielded, *]; done)))) | ((with_reducible refine gate_dst (N := 21) rfl ?_); refine load_evG ?_ 34 (.tmp 3) rfl gc rfl 34 _ (0, 0) _ BN.out hu34 rfl (by kernel_rfl) ?_; (focus (first | rfl | (go_simp; done) | (simp [Region.wanted, yielded, *]; done)))) | (go_at_call 7; (with_reducible refine (mosaiclaw16_Few.calls k a0_0 a0_1 a0_2 a0_3 a0_4 a0_5 a0_6 a0_7 a0_8 a0_9 a0_10 a0_11 A0_12 c0_12 l0_12 a0_13 a0_14 a0_15 a0_16 a0_17 a0_18 a0_19 a0_20 true _ (Kd.C_below HR.out zB) HC.out HF.out).mono ?_); rintro e w9 ⟨rfl, hb⟩; replace BM := Aside0.mk (blk_below (zk BM) hb); replace BN := Aside0.mk (blk_below (zk BN) hb); replace HB := Aside0.mk (below_step zB hb); clear hb) | (go_at_call 7; (with_reducible refine (mosaiclaw16_Few.calls k a1_0 a1_1 a1_2 a1_3 a1_4 a1_5 a1_6 a1_7 a1_8 a1_9 a1_10 a1_11 A1_12 c1_12 l1_12 a1_13 a1_14 a1_15 a1_16 a1_17 a1_18 a1_19 a1_20 true _ (Kd.C_below HR1.out zB) HC1.out HG.out).mono ?_); rintro e w9 ⟨rfl, hb⟩; replace BM := Aside0.mk (blk_below (zk BM) hb); replace BN := Aside0.mk (blk_below (zk BN) hb); replace HB := Aside0.mk (below_step zB hb); clear hb) | (go_at_call 12; (with_reducible refine (wire_Check.calls k a0_0 a0_1 a0_2 a0_3 a0_4 a0_5 a0_6 a0_7 a0_8 a0_9 a0_10 a0_11 A0_12 c0_12 l0_12 a0_13 a0_14 a0_15 a0_16 a0_17 a0_18 a0_19 a0_20 true _ (Kd.C_below HR.out zB) HC.out HK.out).mono ?_); rintro e w9 ⟨rfl, hb⟩; replace BM := Aside0.mk (blk_below (zk BM) hb); replace BN := Aside0.mk (blk_below (zk BN) hb); replace HB := Aside0.mk (below_step zB hb); clear hb) | (go_at_call 12; (with_reducible refine (wire_Check.calls k a1_0 a1_1 a1_2 a1_3 a1_4 a1_5 a1_6 a1_7 a1_8 a1_9 a1_10 a1_11 A1_12 c1_12 l1_12 a1_13 a1_14 a1_15 a1_16 a1_17 a1_18 a1_19 a1_20 true _ (Kd.C_below HR1.out zB) HC1.out HL.out).mono ?_); rintro e w9 ⟨rfl, hb⟩; replace BM := Aside0.mk (blk_below (zk BM) hb); replace BN := Aside0.mk (blk_below (zk BN) hb); replace HB := Aside0.mk (below_step zB hb); clear hb))
              replace BM := Aside0.mk (blk_drew BM.out)
              replace BN := Aside0.mk (blk_drew BN.out)
              replace HB := Aside0.mk (below_drew1 HB.out)
              refine start_ (n := 6) (S := fun w' => w'.heap[gb]? = some (.cells #[.int .i64 a0_0, .int .i64 a0_1, .int .i64 a0_2, .string a0_3, .string a0_4, .bool a0_5, .int .i64 a0_6, .int .i64 a0_7, .string a0_8, .string a0_9, .int .i64 a0_10, .string a0_11, .slice A0_12 l0_12.length c0_12, .int .i64 a0_13, .int .i64 a0_14, .int .i64 a0_15, .int .i64 a0_16, .int .i64 a0_17, .int .i64 a0_18, .int .i64 a0_19, .string a0_20] 34 (0, 0)) ∧ w'.heap[gc]? = some (.cells #[.int .i64 a1_0, .int .i64 a1_1, .int .i64 a1_2, .string a1_3, .string a1_4, .bool a1_5, .int .i64 a1_6, .int .i64 a1_7, .string a1_8, .string a1_9, .int .i64 a1_10, .string a1_11, .slice A1_12 l1_12.length c1_12, .int .i64 a1_13, .int .i64 a1_14, .int .i64 a1_15, .int .i64 a1_16, .int .i64 a1_17, .int .i64 a1_18, .int .i64 a1_19, .string a1_20] 34 (0, 0))) (ds := []) #[false, false, false, false, false, false] (by kernel_rfl) rfl rfl ⟨BM.out, BN.out⟩ (fun hHeld => ?_)
              refine take_ (i := 0) (N := some 26) (v := ?_) (a' := ?_) #[true, false, false, false, false, false] rfl rfl (by kernel_rfl) (fun _ _ _ h => h) (Or.inl ⟨by rfl, ?_⟩) hHeld ?_ ?_
              rotate_left
              · rintro w' ⟨s0, s1⟩; first | (refine Eq.trans (row_load 34 (.tmp 2) (by rfl) gb (by rfl) s0 hu34 rfl (by kernel_rfl)) ?_; with_reducible rfl) | (refine Eq.trans (row_load 34 (.tmp 3) (by rfl) gc (by rfl) s1 hu34 rfl (by kernel_rfl)) ?_; with_reducible rfl)
              rotate_left
              · simp only [Act.put, List.setIfInBounds_toArray, List.set_cons_zero, List.set_cons_succ, i64_w, i32_w]
                rfl
              refine take_ (i := 2) (N := some 28) (v := ?_) (a' := ?_) #[true, false, true, false, false, false] rfl rfl (by kernel_rfl) (fun _ _ _ h => h) (Or.inl ⟨by rfl, ?_⟩) hHeld ?_ ?_
              rotate_left
              · rintro w' ⟨s0, s1⟩; first | (refine Eq.trans (row_load 34 (.tmp 2) (by rfl) gb (by rfl) s0 hu34 rfl (by kernel_rfl)) ?_; with_reducible rfl) | (refine Eq.trans (row_load 34 (.tmp 3) (by rfl) gc (by rfl) s1 hu34 rfl (by kernel_rfl)) ?_; with_reducible rfl)
              rotate_left
              · simp only [Act.put, List.setIfInBounds_toArray, List.set_cons_zero, List.set_cons_succ, i64_w, i32_w]
                rfl
              refine one_ (i := 1) (N := some 27) #[true, true, true, false, false, false] rfl rfl (by kernel_rfl) (by decide) (fun K hK => ?_)
              refine goes_ Try.func11 (by kernel_rfl) rfl #[.agg #[.int .i64 a0_0, .int .i64 a0_1, .int .i64 a0_2, .string a0_3, .string a0_4, .bool a0_5, .int .i64 a0_6, .int .i64 a0_7, .string a0_8, .string a0_9, .int .i64 a0_10, .string a0_11, .slice A0_12 l0_12.length c0_12, .int .i64 a0_13, .int .i64 a0_14, .int .i64 a0_15, .int .i64 a0_16, .int .i64 a0_17, .int .i64 a0_18, .int .i64 a0_19, .string a0_20]] (by rfl) rfl rfl (by simp only [List.map_toArray, List.map_cons, List.map_nil]; rfl) ?_
              with_reducible refine (wire_Text.calls k a0_0 a0_1 a0_2 a0_3 a0_4 a0_5 a0_6 a0_7 a0_8 a0_9 a0_10 a0_11 A0_12 c0_12 l0_12 a0_13 a0_14 a0_15 a0_16 a0_17 a0_18 a0_19 a0_20 x _ (Kd.C_below HR.out HB.out) HC.out HX.out).mono ?_
              rintro e w9 ⟨rfl, hb⟩
              refine ⟨_, rfl, ?_⟩
              replace BM := Aside0.mk (blk_below BM.out hb)
              replace BN := Aside0.mk (blk_below BN.out hb)
              replace HB := Aside0.mk (below_step HB.out hb)
              clear hb
              refine hK.out _ _ ⟨BM.out, BN.out⟩ (fun hHeld => ?_)
              clear hK K
              refine norm_ (a' := ?_) ?_ ?_
              rotate_left
              · show Act.put _ (some 27) _ = _
                simp only [Act.put, List.setIfInBounds_toArray, List.set_cons_zero, List.set_cons_succ, i64_w, i32_w]
                rfl
              refine one_ (i := 3) (N := some 29) #[true, true, true, true, false, false] rfl rfl (by kernel_rfl) (by decide) (fun K hK => ?_)
              refine goes_ Try.func11 (by kernel_rfl) rfl #[.agg #[.int .i64 a1_0, .int .i64 a1_1, .int .i64 a1_2, .string a1_3, .string a1_4, .bool a1_5, .int .i64 a1_6, .int .i64 a1_7, .string a1_8, .string a1_9, .int .i64 a1_10, .string a1_11, .slice A1_12 l1_12.length c1_12, .int .i64 a1_13, .int .i64 a1_14, .int .i64 a1_15, .int .i64 a1_16, .int .i64 a1_17, .int .i64 a1_18, .int .i64 a1_19, .string a1_20]] (by rfl) rfl rfl (by simp only [List.map_toArray, List.map_cons, List.map_nil]; rfl) ?_
              with_reducible refine (wire_Text.calls k a1_0 a1_1 a1_2 a1_3 a1_4 a1_5 a1_6 a1_7 a1_8 a1_9 a1_10 a1_11 A1_12 c1_12 l1_12 a1_13 a1_14 a1_15 a1_16 a1_17 a1_18 a1_19 a1_20 y _ (Kd.C_below HR1.out HB.out) HC1.out HY.out).mono ?_
              rintro e w9 ⟨rfl, hb⟩
              refine ⟨_, rfl, ?_⟩
              replace BM := Aside0.mk (blk_below BM.out hb)
              replace BN := Aside0.mk (blk_below BN.out hb)
              replace HB := Aside0.mk (below_step HB.out hb)
              clear hb
              refine hK.out _ _ ⟨BM.out, BN.out⟩ (fun hHeld => ?_)
              clear hK K
              refine norm_ (a' := ?_) ?_ ?_
              rotate_left
              · show Act.put _ (some 29) _ = _
                simp only [Act.put, List.setIfInBounds_toArray, List.set_cons_zero, List.set_cons_succ, i64_w, i32_w]
                rfl
              refine pure_ (i := 4) (N := some 5) (v := ?_) (a' := ?_) #[true, true, true, true, true, false] rfl rfl (by kernel_rfl) (fun _ _ _ h => h) (Or.inl ⟨by rfl, ?_⟩) ?_ ?_
              rotate_left
              · intro w'
                go_simp
                with_reducible rfl
              rotate_left
              · simp only [Act.put, List.setIfInBounds_toArray, List.set_cons_zero, List.set_cons_succ, i64_w, i32_w]
                rfl
              refine pure_ (i := 5) (N := some 6) (v := ?_) (a' := ?_) #[true, true, true, true, true, true] rfl rfl (by kernel_rfl) (fun _ _ _ h => h) (Or.inl ⟨by rfl, ?_⟩) ?_ ?_
              rotate_left
              · intro w'
                go_simp
                with_reducible rfl
              rotate_left
              · simp only [Act.put, List.setIfInBounds_toArray, List.set_cons_zero, List.set_cons_succ, i64_w, i32_w]
                rfl
              refine done_ (by kernel_rfl) ?_
              go_wp2_with (first | (go_at_call 8; (with_reducible refine (mosaiclaw16_awake.calls k true _ HA.out).mono ?_); rintro e w9 ⟨rfl, hb⟩; replace BM := Aside0.mk (blk_below (zk BM) hb); replace BN := Aside0.mk (blk_below (zk BN) hb); replace HB := Aside0.mk (below_step zB hb); clear hb) | ((with_reducible refine gate_dst (N := 35) rfl ?_); refine load_evG ?_ 34 (.tmp 2) rfl gb rfl 34 _ (0, 0) _ BM.out hu34 rfl (by kernel_rfl) ?_; (focus (first | rfl | (go_simp; done) | (simp [Region.wanted, yielded, *]; done)))) | ((with_reducible refine gate_dst (N := 36) rfl ?_); refine load_evG ?_ 34 (.tmp 3) rfl gc rfl 34 _ (0, 0) _ BN.out hu34 rfl (by kernel_rfl) ?_; (focus (first | rfl | (go_simp; done) | (simp [Region.wanted, yielded, *]; done)))) | (go_at_call 13; (with_reducible refine (wire_Same.calls k a0_0 a0_1 a0_2 a0_3 a0_4 a0_5 a0_6 a0_7 a0_8 a0_9 a0_10 a0_11 A0_12 c0_12 l0_12 a0_13 a0_14 a0_15 a0_16 a0_17 a0_18 a0_19 a0_20 a1_0 a1_1 a1_2 a1_3 a1_4 a1_5 a1_6 a1_7 a1_8 a1_9 a1_10 a1_11 A1_12 c1_12 l1_12 a1_13 a1_14 a1_15 a1_16 a1_17 a1_18 a1_19 a1_20 false _ (Kd.C_below HR.out zB) HC.out (Kd.C_below HR1.out zB) HC1.out HS.out).mono ?_); rintro e w9 ⟨rfl, hb⟩; replace BM := Aside0.mk (blk_below (zk BM) hb); replace BN := Aside0.mk (blk_below (zk BN) hb); replace HB := Aside0.mk (below_step zB hb); clear hb))
              go_ret
              exact ⟨by first | rfl | (simp; done) | (simp [*]; done), zB⟩
def mosaiclaw16_WireApart.Pure : Prop := ∀ (a0_0 : Int) (a0_1 : Int) (a0_2 : Int) (a0_3 : ByteArray) (a0_4 : ByteArray) (a0_5 : Bool) (a0_6 : Int) (a0_7 : Int) (a0_8 : ByteArray) (a0_9 : ByteArray) (a0_10 : Int) (a0_11 : ByteArray) (l0_12 : List ByteArray) (a0_13 : Int) (a0_14 : Int) (a0_15 : Int) (a0_16 : Int) (a0_17 : Int) (a0_18 : Int) (a0_19 : Int) (a0_20 : ByteArray) (a1_0 : Int) (a1_1 : Int) (a1_2 : Int) (a1_3 : ByteArray) (a1_4 : ByteArray) (a1_5 : Bool) (a1_6 : Int) (a1_7 : Int) (a1_8 : ByteArray) (a1_9 : ByteArray) (a1_10 : Int) (a1_11 : ByteArray) (l1_12 : List ByteArray) (a1_13 : Int) (a1_14 : Int) (a1_15 : Int) (a1_16 : Int) (a1_17 : Int) (a1_18 : Int) (a1_19 : Int) (a1_20 : ByteArray), ((Lit.int .i64 a0_0).wf = true) → ((Lit.int .i64 a0_1).wf = true) → ((Lit.int .i64 a0_2).wf = true) → (a0_3.size ≤ maxLen) → (a0_4.size ≤ maxLen) → ((Lit.int .i64 a0_6).wf = true) → ((Lit.int .i64 a0_7).wf = true) → (a0_8.size ≤ maxLen) → (a0_9.size ≤ maxLen) → ((Lit.int .i64 a0_10).wf = true) → (a0_11.size ≤ maxLen) → (l0_12.length ≤ maxLen) → (∀ y ∈ l0_12, y.size ≤ maxLen) → ((Lit.int .i64 a0_13).wf = true) → ((Lit.int .i64 a0_14).wf = true) → ((Lit.int .i64 a0_15).wf = true) → ((Lit.int .i64 a0_16).wf = true) → ((Lit.int .i64 a0_17).wf = true) → ((Lit.int .i64 a0_18).wf = true) → ((Lit.int .i64 a0_19).wf = true) → (a0_20.size ≤ maxLen) → ((Lit.int .i64 a1_0).wf = true) → ((Lit.int .i64 a1_1).wf = true) → ((Lit.int .i64 a1_2).wf = true) → (a1_3.size ≤ maxLen) → (a1_4.size ≤ maxLen) → ((Lit.int .i64 a1_6).wf = true) → ((Lit.int .i64 a1_7).wf = true) → (a1_8.size ≤ maxLen) → (a1_9.size ≤ maxLen) → ((Lit.int .i64 a1_10).wf = true) → (a1_11.size ≤ maxLen) → (l1_12.length ≤ maxLen) → (∀ y ∈ l1_12, y.size ≤ maxLen) → ((Lit.int .i64 a1_13).wf = true) → ((Lit.int .i64 a1_14).wf = true) → ((Lit.int .i64 a1_15).wf = true) → ((Lit.int .i64 a1_16).wf = true) → ((Lit.int .i64 a1_17).wf = true) → ((Lit.int .i64 a1_18).wf = true) → ((Lit.int .i64 a1_19).wf = true) → (a1_20.size ≤ maxLen) → ∃ k, mosaiclaw16_WireApart.f k a0_0 a0_1 a0_2 a0_3 a0_4 a0_5 a0_6 a0_7 a0_8 a0_9 a0_10 a0_11 l0_12 a0_13 a0_14 a0_15 a0_16 a0_17 a0_18 a0_19 a0_20 a1_0 a1_1 a1_2 a1_3 a1_4 a1_5 a1_6 a1_7 a1_8 a1_9 a1_10 a1_11 l1_12 a1_13 a1_14 a1_15 a1_16 a1_17 a1_18 a1_19 a1_20 = some true
theorem mosaiclaw16_WireApart.walk (P : mosaiclaw16_WireApart.Pure) (a0_0 : Int) (a0_1 : Int) (a0_2 : Int) (a0_3 : ByteArray) (a0_4 : ByteArray) (a0_5 : Bool) (a0_6 : Int) (a0_7 : Int) (a0_8 : ByteArray) (a0_9 : ByteArray) (a0_10 : Int) (a0_11 : ByteArray) (A0_12 : Option Addr) (c0_12 : Nat) (l0_12 : List ByteArray) (a0_13 : Int) (a0_14 : Int) (a0_15 : Int) (a0_16 : Int) (a0_17 : Int) (a0_18 : Int) (a0_19 : Int) (a0_20 : ByteArray) (a1_0 : Int) (a1_1 : Int) (a1_2 : Int) (a1_3 : ByteArray) (a1_4 : ByteArray) (a1_5 : Bool) (a1_6 : Int) (a1_7 : Int) (a1_8 : ByteArray) (a1_9 : ByteArray) (a1_10 : Int) (a1_11 : ByteArray) (A1_12 : Option Addr) (c1_12 : Nat) (l1_12 : List ByteArray) (a1_13 : Int) (a1_14 : Int) (a1_15 : Int) (a1_16 : Int) (a1_17 : Int) (a1_18 : Int) (a1_19 : Int) (a1_20 : ByteArray) (w : World) (hr0_12 : Kd.C Kd.string w A0_12 l0_12.length l0_12) (hc0_12 : l0_12.length ≤ c0_12) (hr1_12 : Kd.C Kd.string w A1_12 l1_12.length l1_12) (hc1_12 : l1_12.length ≤ c1_12) (hi0_0 : (Lit.int .i64 a0_0).wf = true) (hi0_1 : (Lit.int .i64 a0_1).wf = true) (hi0_2 : (Lit.int .i64 a0_2).wf = true) (hs0_3 : a0_3.size ≤ maxLen) (hs0_4 : a0_4.size ≤ maxLen) (hi0_6 : (Lit.int .i64 a0_6).wf = true) (hi0_7 : (Lit.int .i64 a0_7).wf = true) (hs0_8 : a0_8.size ≤ maxLen) (hs0_9 : a0_9.size ≤ maxLen) (hi0_10 : (Lit.int .i64 a0_10).wf = true) (hs0_11 : a0_11.size ≤ maxLen) (hm0_12 : l0_12.length ≤ maxLen) (hw0_12 : ∀ y ∈ l0_12, y.size ≤ maxLen) (hi0_13 : (Lit.int .i64 a0_13).wf = true) (hi0_14 : (Lit.int .i64 a0_14).wf = true) (hi0_15 : (Lit.int .i64 a0_15).wf = true) (hi0_16 : (Lit.int .i64 a0_16).wf = true) (hi0_17 : (Lit.int .i64 a0_17).wf = true) (hi0_18 : (Lit.int .i64 a0_18).wf = true) (hi0_19 : (Lit.int .i64 a0_19).wf = true) (hs0_20 : a0_20.size ≤ maxLen) (hi1_0 : (Lit.int .i64 a1_0).wf = true) (hi1_1 : (Lit.int .i64 a1_1).wf = true) (hi1_2 : (Lit.int .i64 a1_2).wf = true) (hs1_3 : a1_3.size ≤ maxLen) (hs1_4 : a1_4.size ≤ maxLen) (hi1_6 : (Lit.int .i64 a1_6).wf = true) (hi1_7 : (Lit.int .i64 a1_7).wf = true) (hs1_8 : a1_8.size ≤ maxLen) (hs1_9 : a1_9.size ≤ maxLen) (hi1_10 : (Lit.int .i64 a1_10).wf = true) (hs1_11 : a1_11.size ≤ maxLen) (hm1_12 : l1_12.length ≤ maxLen) (hw1_12 : ∀ y ∈ l1_12, y.size ≤ maxLen) (hi1_13 : (Lit.int .i64 a1_13).wf = true) (hi1_14 : (Lit.int .i64 a1_14).wf = true) (hi1_15 : (Lit.int .i64 a1_15).wf = true) (hi1_16 : (Lit.int .i64 a1_16).wf = true) (hi1_17 : (Lit.int .i64 a1_17).wf = true) (hi1_18 : (Lit.int .i64 a1_18).wf = true) (hi1_19 : (Lit.int .i64 a1_19).wf = true) (hs1_20 : a1_20.size ≤ maxLen) :
    Calls Try.prog 6 #[.agg #[.int .i64 a0_0, .int .i64 a0_1, .int .i64 a0_2, .string a0_3, .string a0_4, .bool a0_5, .int .i64 a0_6, .int .i64 a0_7, .string a0_8, .string a0_9, .int .i64 a0_10, .string a0_11, .slice A0_12 l0_12.length c0_12, .int .i64 a0_13, .int .i64 a0_14, .int .i64 a0_15, .int .i64 a0_16, .int .i64 a0_17, .int .i64 a0_18, .int .i64 a0_19, .string a0_20], .agg #[.int .i64 a1_0, .int .i64 a1_1, .int .i64 a1_2, .string a1_3, .string a1_4, .bool a1_5, .int .i64 a1_6, .int .i64 a1_7, .string a1_8, .string a1_9, .int .i64 a1_10, .string a1_11, .slice A1_12 l1_12.length c1_12, .int .i64 a1_13, .int .i64 a1_14, .int .i64 a1_15, .int .i64 a1_16, .int .i64 a1_17, .int .i64 a1_18, .int .i64 a1_19, .string a1_20]] w fun e w' => e = .returned (.bool true) ∧ Below w.heap.size w w' := by
  obtain ⟨k, h⟩ := P a0_0 a0_1 a0_2 a0_3 a0_4 a0_5 a0_6 a0_7 a0_8 a0_9 a0_10 a0_11 l0_12 a0_13 a0_14 a0_15 a0_16 a0_17 a0_18 a0_19 a0_20 a1_0 a1_1 a1_2 a1_3 a1_4 a1_5 a1_6 a1_7 a1_8 a1_9 a1_10 a1_11 l1_12 a1_13 a1_14 a1_15 a1_16 a1_17 a1_18 a1_19 a1_20 hi0_0 hi0_1 hi0_2 hs0_3 hs0_4 hi0_6 hi0_7 hs0_8 hs0_9 hi0_10 hs0_11 hm0_12 hw0_12 hi0_13 hi0_14 hi0_15 hi0_16 hi0_17 hi0_18 hi0_19 hs0_20 hi1_0 hi1_1 hi1_2 hs1_3 hs1_4 hi1_6 hi1_7 hs1_8 hs1_9 hi1_10 hs1_11 hm1_12 hw1_12 hi1_13 hi1_14 hi1_15 hi1_16 hi1_17 hi1_18 hi1_19 hs1_20
  refine (mosaiclaw16_WireApart.calls k a0_0 a0_1 a0_2 a0_3 a0_4 a0_5 a0_6 a0_7 a0_8 a0_9 a0_10 a0_11 A0_12 c0_12 l0_12 a0_13 a0_14 a0_15 a0_16 a0_17 a0_18 a0_19 a0_20 a1_0 a1_1 a1_2 a1_3 a1_4 a1_5 a1_6 a1_7 a1_8 a1_9 a1_10 a1_11 A1_12 c1_12 l1_12 a1_13 a1_14 a1_15 a1_16 a1_17 a1_18 a1_19 a1_20 true w hr0_12 hc0_12 hr1_12 hc1_12 h).mono ?_
  rintro e w' ⟨rfl, hd⟩
  exact ⟨rfl, hd⟩
end Go.Proofs.Ytehnebddmbdnhaa.PWireApart
