-- Written by this session's own program (wip/tools/mkprint.py) over the kit's printer, with overrides.
import Derived.Test.YtehnebddmbdnhaaTWireAparta
import Derived.Test.YtehnebddmbdnhaaQWireApartx0
import Derived.Test.YtehnebddmbdnhaaQWireApartx1
import Derived.Test.YtehnebddmbdnhaaQWireApartx2
namespace Go.Proofs.Ytehnebddmbdnhaa.PWireApart
open Go.RowKit Go.Mine Go.Proofs.YtehnebddmbdnhaaW.PrintWords Go.Proofs.YtehnebddmbdnhaaW.PrintLast Go.Proofs.YtehnebddmbdnhaaW.PrintMore
attribute [local go_sem] max2_int min2_int max_two min_two max_three min_three max_four min_four   -- for this text's walks alone
set_option linter.unusedVariables false
set_option linter.unusedSimpArgs false
/-! ### wire_only: function 29 -/
/-- What stands of a message: its kind's own. -/
def wire_only.o (a0_0 : Int) (a0_1 : Int) (a0_2 : Int) (a0_3 : ByteArray) (a0_4 : ByteArray) (a0_5 : Bool) (a0_6 : Int) (a0_7 : Int) (a0_8 : ByteArray) (a0_9 : ByteArray) (a0_10 : Int) (a0_11 : ByteArray) (l0_12 : List ByteArray) (a0_13 : Int) (a0_14 : Int) (a0_15 : Int) (a0_16 : Int) (a0_17 : Int) (a0_18 : Int) (a0_19 : Int) (a0_20 : ByteArray) : Int × Int × Int × ByteArray × ByteArray × Bool × Int × Int × ByteArray × ByteArray × Int × ByteArray × List ByteArray × Int × Int × Int × Int × Int × Int × Int × ByteArray :=
  if a0_0 = 1 then (a0_0, a0_1, a0_2, a0_3, (⟨#[]⟩ : ByteArray), false, 0, 0, (⟨#[]⟩ : ByteArray), (⟨#[]⟩ : ByteArray), 0, (⟨#[]⟩ : ByteArray), ([] : List ByteArray), 0, 0, 0, 0, 0, 0, 0, (⟨#[]⟩ : ByteArray))
  else if a0_0 = 2 then (a0_0, 0, 0, (⟨#[]⟩ : ByteArray), a0_4, false, 0, 0, (⟨#[]⟩ : ByteArray), (⟨#[]⟩ : ByteArray), 0, (⟨#[]⟩ : ByteArray), ([] : List ByteArray), 0, 0, 0, 0, 0, 0, 0, (⟨#[]⟩ : ByteArray))
  else if a0_0 = 3 then (a0_0, 0, 0, (⟨#[]⟩ : ByteArray), (⟨#[]⟩ : ByteArray), a0_5, 0, 0, (⟨#[]⟩ : ByteArray), (⟨#[]⟩ : ByteArray), 0, (⟨#[]⟩ : ByteArray), ([] : List ByteArray), 0, 0, 0, 0, 0, 0, 0, (⟨#[]⟩ : ByteArray))
  else if a0_0 = 6 then (a0_0, 0, 0, (⟨#[]⟩ : ByteArray), (⟨#[]⟩ : ByteArray), false, a0_6, a0_7, a0_8, a0_9, 0, (⟨#[]⟩ : ByteArray), ([] : List ByteArray), 0, 0, 0, 0, 0, 0, 0, (⟨#[]⟩ : ByteArray))
  else if a0_0 = 7 then (a0_0, 0, 0, (⟨#[]⟩ : ByteArray), (⟨#[]⟩ : ByteArray), false, 0, 0, (⟨#[]⟩ : ByteArray), (⟨#[]⟩ : ByteArray), a0_10, (⟨#[]⟩ : ByteArray), ([] : List ByteArray), 0, 0, 0, 0, 0, 0, 0, (⟨#[]⟩ : ByteArray))
  else if a0_0 = 8 then (a0_0, 0, 0, (⟨#[]⟩ : ByteArray), (⟨#[]⟩ : ByteArray), false, 0, 0, (⟨#[]⟩ : ByteArray), (⟨#[]⟩ : ByteArray), a0_10, a0_11, l0_12, 0, 0, 0, 0, 0, 0, 0, (⟨#[]⟩ : ByteArray))
  else if a0_0 = 9 then (a0_0, 0, 0, (⟨#[]⟩ : ByteArray), (⟨#[]⟩ : ByteArray), false, 0, 0, (⟨#[]⟩ : ByteArray), (⟨#[]⟩ : ByteArray), 0, (⟨#[]⟩ : ByteArray), ([] : List ByteArray), a0_13, a0_14, a0_15, a0_16, a0_17, a0_18, a0_19, a0_20)
  else (a0_0, 0, 0, (⟨#[]⟩ : ByteArray), (⟨#[]⟩ : ByteArray), false, 0, 0, (⟨#[]⟩ : ByteArray), (⟨#[]⟩ : ByteArray), 0, (⟨#[]⟩ : ByteArray), ([] : List ByteArray), 0, 0, 0, 0, 0, 0, 0, (⟨#[]⟩ : ByteArray))
set_option maxHeartbeats 16000000 in
set_option maxRecDepth 100000 in
theorem wire_only.gives (a0_0 : Int) (a0_1 : Int) (a0_2 : Int) (a0_3 : ByteArray) (a0_4 : ByteArray) (a0_5 : Bool) (a0_6 : Int) (a0_7 : Int) (a0_8 : ByteArray) (a0_9 : ByteArray) (a0_10 : Int) (a0_11 : ByteArray) (A0_12 : Option Addr) (c0_12 : Nat) (l0_12 : List ByteArray) (a0_13 : Int) (a0_14 : Int) (a0_15 : Int) (a0_16 : Int) (a0_17 : Int) (a0_18 : Int) (a0_19 : Int) (a0_20 : ByteArray) (r0 : Int) (r1 : Int) (r2 : Int) (r3 : ByteArray) (r4 : ByteArray) (r5 : Bool) (r6 : Int) (r7 : Int) (r8 : ByteArray) (r9 : ByteArray) (r10 : Int) (r11 : ByteArray) (r12 : List ByteArray) (r13 : Int) (r14 : Int) (r15 : Int) (r16 : Int) (r17 : Int) (r18 : Int) (r19 : Int) (r20 : ByteArray) (w : World) (hr0_12 : Kd.C Kd.string w A0_12 l0_12.length l0_12) (hc0_12 : l0_12.length ≤ c0_12) (h : wire_only.o a0_0 a0_1 a0_2 a0_3 a0_4 a0_5 a0_6 a0_7 a0_8 a0_9 a0_10 a0_11 l0_12 a0_13 a0_14 a0_15 a0_16 a0_17 a0_18 a0_19 a0_20 = (r0, r1, r2, r3, r4, r5, r6, r7, r8, r9, r10, r11, r12, r13, r14, r15, r16, r17, r18, r19, r20)) :
    Calls Try.prog 29 #[.agg #[.int .i64 a0_0, .int .i64 a0_1, .int .i64 a0_2, .string a0_3, .string a0_4, .bool a0_5, .int .i64 a0_6, .int .i64 a0_7, .string a0_8, .string a0_9, .int .i64 a0_10, .string a0_11, .slice A0_12 l0_12.length c0_12, .int .i64 a0_13, .int .i64 a0_14, .int .i64 a0_15, .int .i64 a0_16, .int .i64 a0_17, .int .i64 a0_18, .int .i64 a0_19, .string a0_20]] w fun e w' => ∃ (A : Option Addr) (c : Nat), e = .returned (.agg #[.int .i64 r0, .int .i64 r1, .int .i64 r2, .string r3, .string r4, .bool r5, .int .i64 r6, .int .i64 r7, .string r8, .string r9, .int .i64 r10, .string r11, .slice A r12.length c, .int .i64 r13, .int .i64 r14, .int .i64 r15, .int .i64 r16, .int .i64 r17, .int .i64 r18, .int .i64 r19, .string r20]) ∧ Kd.C Kd.string w A r12.length r12 ∧ r12.length ≤ c ∧ Below w.heap.size w w' := by
  have hu34 := Try.underlying34
  have hu23 := Try.underlying23
  have hu25 := Try.underlying25
  have hu32 := Try.underlying32
  have HR := Aside0.mk hr0_12
  have HC := Aside0.mk hc0_12
  have HB := Aside0.mk (Below.refl w.heap.size w)
  clear hr0_12 hc0_12
  have H := Aside0.mk h
  clear h
  go_enter Try.func29, Try.ntmps29
  go_upto_region 3 with (first | ((with_reducible refine gate_dst (N := 1) rfl ?_); refine box_event ?hg (N := 1) ?hd (cs := #[.int .i64 a0_0, .int .i64 a0_1, .int .i64 a0_2, .string a0_3, .string a0_4, .bool a0_5, .int .i64 a0_6, .int .i64 a0_7, .string a0_8, .string a0_9, .int .i64 a0_10, .string a0_11, .slice A0_12 l0_12.length c0_12, .int .i64 a0_13, .int .i64 a0_14, .int .i64 a0_15, .int .i64 a0_16, .int .i64 a0_17, .int .i64 a0_18, .int .i64 a0_19, .string a0_20]) (t := 34) ?hr ?_; (case hd => rfl); (case hg => rfl); (case hr => first | (go_simp; done) | (go_simp; rfl)); intro gb hg w2 hbox hb; have BM := Aside0.mk hbox; replace HB := Aside0.mk (below_step zB hb); clear hb hbox hg; have p0 : w2.cell? ⟨gb, 0, none⟩ = some (.int .i64 a0_0) := (blk_cell BM.out 0).trans rfl) | ((with_reducible refine gate_dst (N := 2) rfl ?_); refine box_event ?hg (N := 2) ?hd (cs := #[.int .i64 0, .int .i64 0, .int .i64 0, .string (⟨#[]⟩ : ByteArray), .string (⟨#[]⟩ : ByteArray), .bool false, .int .i64 0, .int .i64 0, .string (⟨#[]⟩ : ByteArray), .string (⟨#[]⟩ : ByteArray), .int .i64 0, .string (⟨#[]⟩ : ByteArray), .slice none 0 0, .int .i64 0, .int .i64 0, .int .i64 0, .int .i64 0, .int .i64 0, .int .i64 0, .int .i64 0, .string (⟨#[]⟩ : ByteArray)]) (t := 34) ?hr ?_; (case hd => rfl); (case hg => rfl); (case hr => first | (go_simp; done) | (go_simp; rfl)); intro gr hg w3 hbox hb; have BR := Aside0.mk hbox; have GR : Aside0 (w.heap.size ≤ gr) := ⟨zg⟩; have NR : Aside0 (gb ≠ gr) := ⟨by rw [hg]; exact Nat.ne_of_lt (blk_lt BM.out)⟩; replace BM := Aside0.mk (blk_below BM.out hb); replace HB := Aside0.mk (below_step zB hb); clear hb hbox hg p0; have p0 : w3.cell? ⟨gb, 0, none⟩ = some (.int .i64 a0_0) := (blk_cell BM.out 0).trans rfl) | ((with_reducible refine gate_dst (N := 3) rfl ?_); refine box_event ?hg (N := 3) ?hd (cs := #[.int .i64 0, .int .i64 0, .int .i64 0, .string (⟨#[]⟩ : ByteArray), .string (⟨#[]⟩ : ByteArray), .bool false, .int .i64 0, .int .i64 0, .string (⟨#[]⟩ : ByteArray), .string (⟨#[]⟩ : ByteArray), .int .i64 0, .string (⟨#[]⟩ : ByteArray), .slice none 0 0, .int .i64 0, .int .i64 0, .int .i64 0, .int .i64 0, .int .i64 0, .int .i64 0, .int .i64 0, .string (⟨#[]⟩ : ByteArray)]) (t := 34) ?hr ?_; (case hd => rfl); (case hg => rfl); (case hr => first | (go_simp; done) | (go_simp; rfl)); intro gx hg w4 hbox hb; have BX := Aside0.mk hbox; have GX : Aside0 (w.heap.size ≤ gx) := ⟨zg⟩; have NX : Aside0 (gb ≠ gx) := ⟨by rw [hg]; exact Nat.ne_of_lt (blk_lt BM.out)⟩; have NRX : Aside0 (gr ≠ gx) := ⟨by rw [hg]; exact Nat.ne_of_lt (blk_lt BR.out)⟩; replace BM := Aside0.mk (blk_below BM.out hb); replace BR := Aside0.mk (blk_below BR.out hb); replace HB := Aside0.mk (below_step zB hb); clear hb hbox hg p0) | ((with_reducible refine gate_store (t := 34) (p := 3) rfl ?_); refine store_ev rfl 34 (.tmp 3) (.tmp 6) rfl gx #[.int .i64 a0_0, .int .i64 0, .int .i64 0, .string (⟨#[]⟩ : ByteArray), .string (⟨#[]⟩ : ByteArray), .bool false, .int .i64 0, .int .i64 0, .string (⟨#[]⟩ : ByteArray), .string (⟨#[]⟩ : ByteArray), .int .i64 0, .string (⟨#[]⟩ : ByteArray), .slice none 0 0, .int .i64 0, .int .i64 0, .int .i64 0, .int .i64 0, .int .i64 0, .int .i64 0, .int .i64 0, .string (⟨#[]⟩ : ByteArray)] rfl (by first | rfl | (go_simp; done) | (go_simp; rfl)) 34 _ BX.out (by kernel_rfl) rfl (by first | rfl | (simp; done) | (simp [Value.oneCell']; done)) ?_; intro wx hx1 hx2 hx3; replace BX := Aside0.mk hx1; replace BM := Aside0.mk (hx2 _ _ BM.out NX.out); replace BR := Aside0.mk (hx2 _ _ BR.out NRX.out); replace HB := Aside0.mk (hx3 _ _ HB.out GX.out); clear hx1 hx2 hx3; have p0 : wx.cell? ⟨gb, 0, none⟩ = some (.int .i64 a0_0) := (blk_cell BM.out 0).trans rfl))
  by_cases c1 : a0_0 = 1
  · have h := H.out
    unfold wire_only.o at h
    rw [if_pos c1] at h
    simp only [Prod.mk.injEq] at h
    obtain ⟨rfl, rfl, rfl, rfl, rfl, rfl, rfl, rfl, rfl, rfl, rfl, rfl, rfl, rfl, rfl, rfl, rfl, rfl, rfl, rfl, rfl⟩ := h
    clear H
    have t1 : (a0_0 == 1) = true := beq_iff_eq.mpr c1
    clear c1
    have p1 : wx.cell? ⟨gb, 1, none⟩ = some (.int .i64 a0_1) := (blk_cell BM.out 1).trans rfl
    have p2 : wx.cell? ⟨gb, 2, none⟩ = some (.int .i64 a0_2) := (blk_cell BM.out 2).trans rfl
    have p3 : wx.cell? ⟨gb, 3, none⟩ = some (.string a0_3) := (blk_cell BM.out 3).trans rfl
    have q1 : wx.cell? ⟨gx, 1, none⟩ = some (.int .i64 0) := (blk_cell BX.out 1).trans rfl
    have q2 : wx.cell? ⟨gx, 2, none⟩ = some (.int .i64 0) := (blk_cell BX.out 2).trans rfl
    have q3 : wx.cell? ⟨gx, 3, none⟩ = some (.string (⟨#[]⟩ : ByteArray)) := (blk_cell BX.out 3).trans rfl
    have f1 := blk_frozen BX.out 1
    have f2 := blk_frozen BX.out 2
    have f3 := blk_frozen BX.out 3
    go_wp2_with fail
    refine start_ (n := 8) (S := fun w' => w'.cell? ⟨gb, 1, none⟩ = some (.int .i64 a0_1) ∧ w'.cell? ⟨gb, 2, none⟩ = some (.int .i64 a0_2) ∧ w'.cell? ⟨gb, 3, none⟩ = some (.string a0_3)) (ds := []) #[false, false, false, false, false, false, false, false] (by kernel_rfl) rfl rfl ⟨p1, p2, p3⟩ (fun hHeld => ?_)
    refine pure_ (i := 0) (N := some 11) (v := ?_) (a' := ?_) #[true, false, false, false, false, false, false, false] rfl rfl (by kernel_rfl) (fun _ _ _ h => h) (Or.inl ⟨by rfl, ?_⟩) ?_ ?_
    rotate_left
    · intro w'
      go_simp
      with_reducible rfl
    rotate_left
    · simp only [Act.put, List.setIfInBounds_toArray, List.set_cons_zero, List.set_cons_succ, i64_w, i32_w]
      rfl
    refine pure_ (i := 2) (N := some 13) (v := ?_) (a' := ?_) #[true, false, true, false, false, false, false, false] rfl rfl (by kernel_rfl) (fun _ _ _ h => h) (Or.inl ⟨by rfl, ?_⟩) ?_ ?_
    rotate_left
    · intro w'
      go_simp
      with_reducible rfl
    rotate_left
    · simp only [Act.put, List.setIfInBounds_toArray, List.set_cons_zero, List.set_cons_succ, i64_w, i32_w]
      rfl
    refine take_ (i := 1) (N := some 12) (v := ?_) (a' := ?_) #[true, true, true, false, false, false, false, false] rfl rfl (by kernel_rfl) (fun _ _ _ h => h) (Or.inl ⟨by rfl, ?_⟩) hHeld ?_ ?_
    rotate_left
    · rintro w' ⟨s0, s1, s2⟩
      go_simp
      with_reducible rfl
    rotate_left
    · simp only [Act.put, List.setIfInBounds_toArray, List.set_cons_zero, List.set_cons_succ, i64_w, i32_w]
      rfl
    refine pure_ (i := 4) (N := some 15) (v := ?_) (a' := ?_) #[true, true, true, false, true, false, false, false] rfl rfl (by kernel_rfl) (fun _ _ _ h => h) (Or.inl ⟨by rfl, ?_⟩) ?_ ?_
    rotate_left
    · intro w'
      go_simp
      with_reducible rfl
    rotate_left
    · simp only [Act.put, List.setIfInBounds_toArray, List.set_cons_zero, List.set_cons_succ, i64_w, i32_w]
      rfl
    refine take_ (i := 3) (N := some 14) (v := ?_) (a' := ?_) #[true, true, true, true, true, false, false, false] rfl rfl (by kernel_rfl) (fun _ _ _ h => h) (Or.inl ⟨by rfl, ?_⟩) hHeld ?_ ?_
    rotate_left
    · rintro w' ⟨s0, s1, s2⟩
      go_simp
      with_reducible rfl
    rotate_left
    · simp only [Act.put, List.setIfInBounds_toArray, List.set_cons_zero, List.set_cons_succ, i64_w, i32_w]
      rfl
    refine one_ (i := 5) (N := none) #[true, true, true, true, true, true, false, false] rfl rfl (by kernel_rfl) (by decide) (fun K hK => ?_)
    refine skip_ (w1 := ?_) (by rfl) rfl ?_ ?_
    rotate_left
    · go_simp
      rfl
    refine hK.out _ _ ⟨(blk_cell (by (repeat (first | (with_reducible refine blk_drew ?_) | refine (Below.heap_setCell _ _ _ _ NX.out).trans ?_)); exact BM.out) 1).trans rfl, (blk_cell (by (repeat (first | (with_reducible refine blk_drew ?_) | refine (Below.heap_setCell _ _ _ _ NX.out).trans ?_)); exact BM.out) 2).trans rfl, (blk_cell (by (repeat (first | (with_reducible refine blk_drew ?_) | refine (Below.heap_setCell _ _ _ _ NX.out).trans ?_)); exact BM.out) 3).trans rfl⟩ (fun hHeld => ?_)
    clear hK K
    refine pure_ (i := 6) (N := some 16) (v := ?_) (a' := ?_) #[true, true, true, true, true, true, true, false] rfl rfl (by kernel_rfl) (fun _ _ _ h => h) (Or.inl ⟨by rfl, ?_⟩) ?_ ?_
    rotate_left
    · intro w'
      go_simp
      with_reducible rfl
    rotate_left
    · simp only [Act.put, List.setIfInBounds_toArray, List.set_cons_zero, List.set_cons_succ, i64_w, i32_w]
      rfl
    refine one_ (i := 7) (N := none) #[true, true, true, true, true, true, true, true] rfl rfl (by kernel_rfl) (by decide) (fun K hK => ?_)
    refine skip_ (w1 := ?_) (by rfl) rfl ?_ ?_
    rotate_left
    · go_simp
      rfl
    refine hK.out _ _ ⟨(blk_cell (by (repeat (first | (with_reducible refine blk_drew ?_) | refine (Below.heap_setCell _ _ _ _ NX.out).trans ?_)); exact BM.out) 1).trans rfl, (blk_cell (by (repeat (first | (with_reducible refine blk_drew ?_) | refine (Below.heap_setCell _ _ _ _ NX.out).trans ?_)); exact BM.out) 2).trans rfl, (blk_cell (by (repeat (first | (with_reducible refine blk_drew ?_) | refine (Below.heap_setCell _ _ _ _ NX.out).trans ?_)); exact BM.out) 3).trans rfl⟩ (fun hHeld => ?_)
    clear hK K
    refine done_ (by kernel_rfl) ?_
    go_upto_region 17 with fail
    obtain ⟨wy, e0⟩ : ∃ W, W = (((wx.setCell ⟨gx, 1, none⟩ (.int .i64 a0_1)).setCell ⟨gx, 2, none⟩ (.int .i64 a0_2)).setCell ⟨gx, 3, none⟩ (.string a0_3)).drew := ⟨_, rfl⟩
    rw [← e0]
    replace BR : Aside0 (wy.heap[gr]? = some (.cells #[.int .i64 0, .int .i64 0, .int .i64 0, .string (⟨#[]⟩ : ByteArray), .string (⟨#[]⟩ : ByteArray), .bool false, .int .i64 0, .int .i64 0, .string (⟨#[]⟩ : ByteArray), .string (⟨#[]⟩ : ByteArray), .int .i64 0, .string (⟨#[]⟩ : ByteArray), .slice none 0 0, .int .i64 0, .int .i64 0, .int .i64 0, .int .i64 0, .int .i64 0, .int .i64 0, .int .i64 0, .string (⟨#[]⟩ : ByteArray)] 34 (0, 0))) := ⟨by rw [e0]; exact zP⟩
    replace BX : Aside0 (wy.heap[gx]? = some (.cells #[.int .i64 a0_0, .int .i64 a0_1, .int .i64 a0_2, .string a0_3, .string (⟨#[]⟩ : ByteArray), .bool false, .int .i64 0, .int .i64 0, .string (⟨#[]⟩ : ByteArray), .string (⟨#[]⟩ : ByteArray), .int .i64 0, .string (⟨#[]⟩ : ByteArray), .slice none 0 0, .int .i64 0, .int .i64 0, .int .i64 0, .int .i64 0, .int .i64 0, .int .i64 0, .int .i64 0, .string (⟨#[]⟩ : ByteArray)] 34 (0, 0))) := ⟨by rw [e0]; exact zP⟩
    replace HB : Aside0 (Below w.heap.size w wy) := ⟨by rw [e0]; exact zB⟩
    clear e0
    clear p1 p2 p3 q1 q2 q3 f1 f2 f3
    go_wp2_with (first | ((with_reducible refine gate_dst (N := 56) rfl ?_); refine wpList_load_row rfl 34 (.tmp 3) rfl gx rfl 34 _ (0, 0) _ BX.out hu34 rfl (by kernel_rfl) ?_) | ((with_reducible refine gate_store (t := 34) (p := 2) rfl ?_); refine store_ev rfl 34 (.tmp 2) (.tmp 56) rfl gr #[.int .i64 a0_0, .int .i64 a0_1, .int .i64 a0_2, .string a0_3, .string (⟨#[]⟩ : ByteArray), .bool false, .int .i64 0, .int .i64 0, .string (⟨#[]⟩ : ByteArray), .string (⟨#[]⟩ : ByteArray), .int .i64 0, .string (⟨#[]⟩ : ByteArray), .slice none 0 0, .int .i64 0, .int .i64 0, .int .i64 0, .int .i64 0, .int .i64 0, .int .i64 0, .int .i64 0, .string (⟨#[]⟩ : ByteArray)] rfl (by first | rfl | (go_simp; done) | (go_simp; rfl)) 34 _ BR.out (by kernel_rfl) rfl (by first | rfl | (simp; done) | (simp [Value.oneCell']; done)) ?_; intro wz hx1 hx2 hx3; replace BR := Aside0.mk hx1; replace HB := Aside0.mk (hx3 _ _ HB.out GR.out); clear hx1 hx2 hx3))
    refine bodyPost_ret (results_cell_row rfl _ _ gr 34 #[.int .i64 a0_0, .int .i64 a0_1, .int .i64 a0_2, .string a0_3, .string (⟨#[]⟩ : ByteArray), .bool false, .int .i64 0, .int .i64 0, .string (⟨#[]⟩ : ByteArray), .string (⟨#[]⟩ : ByteArray), .int .i64 0, .string (⟨#[]⟩ : ByteArray), .slice none 0 0, .int .i64 0, .int .i64 0, .int .i64 0, .int .i64 0, .int .i64 0, .int .i64 0, .int .i64 0, .string (⟨#[]⟩ : ByteArray)] (0, 0) _ rfl BR.out hu34 rfl (by kernel_rfl)) rfl ?_
    exact ⟨none, 0, rfl, Kd.C_nil _ _, Nat.le_refl _, HB.out⟩
  by_cases c2 : a0_0 = 2
  · have h := H.out
    unfold wire_only.o at h
    rw [if_neg c1] at h
    rw [if_pos c2] at h
    simp only [Prod.mk.injEq] at h
    obtain ⟨rfl, rfl, rfl, rfl, rfl, rfl, rfl, rfl, rfl, rfl, rfl, rfl, rfl, rfl, rfl, rfl, rfl, rfl, rfl, rfl, rfl⟩ := h
    clear H
    have t1 : (a0_0 == 1) = false := beq_eq_false_iff_ne.mpr c1
    have t2 : (a0_0 == 2) = true := beq_iff_eq.mpr c2
    clear c1 c2
    have p4 : wx.cell? ⟨gb, 4, none⟩ = some (.string a0_4) := (blk_cell BM.out 4).trans rfl
    have q4 : wx.cell? ⟨gx, 4, none⟩ = some (.string (⟨#[]⟩ : ByteArray)) := (blk_cell BX.out 4).trans rfl
    have f4 := blk_frozen BX.out 4
    go_upto_region 17 with fail
    obtain ⟨wy, e0⟩ : ∃ W, W = (wx.setCell ⟨gx, 4, none⟩ (.string a0_4)) := ⟨_, rfl⟩
    rw [← e0]
    replace BR : Aside0 (wy.heap[gr]? = some (.cells #[.int .i64 0, .int .i64 0, .int .i64 0, .string (⟨#[]⟩ : ByteArray), .string (⟨#[]⟩ : ByteArray), .bool false, .int .i64 0, .int .i64 0, .string (⟨#[]⟩ : ByteArray), .string (⟨#[]⟩ : ByteArray), .int .i64 0, .string (⟨#[]⟩ : ByteArray), .slice none 0 0, .int .i64 0, .int .i64 0, .int .i64 0, .int .i64 0, .int .i64 0, .int .i64 0, .int .i64 0, .string (⟨#[]⟩ : ByteArray)] 34 (0, 0))) := ⟨by rw [e0]; exact zP⟩
    replace BX : Aside0 (wy.heap[gx]? = some (.cells #[.int .i64 a0_0, .int .i64 0, .int .i64 0, .string (⟨#[]⟩ : ByteArray), .string a0_4, .bool false, .int .i64 0, .int .i64 0, .string (⟨#[]⟩ : ByteArray), .string (⟨#[]⟩ : ByteArray), .int .i64 0, .string (⟨#[]⟩ : ByteArray), .slice none 0 0, .int .i64 0, .int .i64 0, .int .i64 0, .int .i64 0, .int .i64 0, .int .i64 0, .int .i64 0, .string (⟨#[]⟩ : ByteArray)] 34 (0, 0))) := ⟨by rw [e0]; exact zP⟩
    replace HB : Aside0 (Below w.heap.size w wy) := ⟨by rw [e0]; exact zB⟩
    clear e0
    clear p4 q4 f4
    go_wp2_with (first | ((with_reducible refine gate_dst (N := 56) rfl ?_); refine wpList_load_row rfl 34 (.tmp 3) rfl gx rfl 34 _ (0, 0) _ BX.out hu34 rfl (by kernel_rfl) ?_) | ((with_reducible refine gate_store (t := 34) (p := 2) rfl ?_); refine store_ev rfl 34 (.tmp 2) (.tmp 56) rfl gr #[.int .i64 a0_0, .int .i64 0, .int .i64 0, .string (⟨#[]⟩ : ByteArray), .string a0_4, .bool false, .int .i64 0, .int .i64 0, .string (⟨#[]⟩ : ByteArray), .string (⟨#[]⟩ : ByteArray), .int .i64 0, .string (⟨#[]⟩ : ByteArray), .slice none 0 0, .int .i64 0, .int .i64 0, .int .i64 0, .int .i64 0, .int .i64 0, .int .i64 0, .int .i64 0, .string (⟨#[]⟩ : ByteArray)] rfl (by first | rfl | (go_simp; done) | (go_simp; rfl)) 34 _ BR.out (by kernel_rfl) rfl (by first | rfl | (simp; done) | (simp [Value.oneCell']; done)) ?_; intro wz hx1 hx2 hx3; replace BR := Aside0.mk hx1; replace HB := Aside0.mk (hx3 _ _ HB.out GR.out); clear hx1 hx2 hx3))
    refine bodyPost_ret (results_cell_row rfl _ _ gr 34 #[.int .i64 a0_0, .int .i64 0, .int .i64 0, .string (⟨#[]⟩ : ByteArray), .string a0_4, .bool false, .int .i64 0, .int .i64 0, .string (⟨#[]⟩ : ByteArray), .string (⟨#[]⟩ : ByteArray), .int .i64 0, .string (⟨#[]⟩ : ByteArray), .slice none 0 0, .int .i64 0, .int .i64 0, .int .i64 0, .int .i64 0, .int .i64 0, .int .i64 0, .int .i64 0, .string (⟨#[]⟩ : ByteArray)] (0, 0) _ rfl BR.out hu34 rfl (by kernel_rfl)) rfl ?_
    exact ⟨none, 0, rfl, Kd.C_nil _ _, Nat.le_refl _, HB.out⟩
  by_cases c3 : a0_0 = 3
  · have h := H.out
    unfold wire_only.o at h
    rw [if_neg c1] at h
    rw [if_neg c2] at h
    rw [if_pos c3] at h
    simp only [Prod.mk.injEq] at h
    obtain ⟨rfl, rfl, rfl, rfl, rfl, rfl, rfl, rfl, rfl, rfl, rfl, rfl, rfl, rfl, rfl, rfl, rfl, rfl, rfl, rfl, rfl⟩ := h
    clear H
    have t1 : (a0_0 == 1) = false := beq_eq_false_iff_ne.mpr c1
    have t2 : (a0_0 == 2) = false := beq_eq_false_iff_ne.mpr c2
    have t3 : (a0_0 == 3) = true := beq_iff_eq.mpr c3
    clear c1 c2 c3
    have p5 : wx.cell? ⟨gb, 5, none⟩ = some (.bool a0_5) := (blk_cell BM.out 5).trans rfl
    have q5 : wx.cell? ⟨gx, 5, none⟩ = some (.bool false) := (blk_cell BX.out 5).trans rfl
    have f5 := blk_frozen BX.out 5
    go_upto_region 17 with fail
    obtain ⟨wy, e0⟩ : ∃ W, W = (wx.setCell ⟨gx, 5, none⟩ (.bool a0_5)) := ⟨_, rfl⟩
    rw [← e0]
    replace BR : Aside0 (wy.heap[gr]? = some (.cells #[.int .i64 0, .int .i64 0, .int .i64 0, .string (⟨#[]⟩ : ByteArray), .string (⟨#[]⟩ : ByteArray), .bool false, .int .i64 0, .int .i64 0, .string (⟨#[]⟩ : ByteArray), .string (⟨#[]⟩ : ByteArray), .int .i64 0, .string (⟨#[]⟩ : ByteArray), .slice none 0 0, .int .i64 0, .int .i64 0, .int .i64 0, .int .i64 0, .int .i64 0, .int .i64 0, .int .i64 0, .string (⟨#[]⟩ : ByteArray)] 34 (0, 0))) := ⟨by rw [e0]; exact zP⟩
    replace BX : Aside0 (wy.heap[gx]? = some (.cells #[.int .i64 a0_0, .int .i64 0, .int .i64 0, .string (⟨#[]⟩ : ByteArray), .string (⟨#[]⟩ : ByteArray), .bool a0_5, .int .i64 0, .int .i64 0, .string (⟨#[]⟩ : ByteArray), .string (⟨#[]⟩ : ByteArray), .int .i64 0, .string (⟨#[]⟩ : ByteArray), .slice none 0 0, .int .i64 0, .int .i64 0, .int .i64 0, .int .i64 0, .int .i64 0, .int .i64 0, .int .i64 0, .string (⟨#[]⟩ : ByteArray)] 34 (0, 0))) := ⟨by rw [e0]; exact zP⟩
    replace HB : Aside0 (Below w.heap.size w wy) := ⟨by rw [e0]; exact zB⟩
    clear e0
    clear p5 q5 f5
    go_wp2_with (first | ((with_reducible refine gate_dst (N := 56) rfl ?_); refine wpList_load_row rfl 34 (.tmp 3) rfl gx rfl 34 _ (0, 0) _ BX.out hu34 rfl (by kernel_rfl) ?_) | ((with_reducible refine gate_store (t := 34) (p := 2) rfl ?_); refine store_ev rfl 34 (.tmp 2) (.tmp 56) rfl gr #[.int .i64 a0_0, .int .i64 0, .int .i64 0, .string (⟨#[]⟩ : ByteArray), .string (⟨#[]⟩ : ByteArray), .bool a0_5, .int .i64 0, .int .i64 0, .string (⟨#[]⟩ : ByteArray), .string (⟨#[]⟩ : ByteArray), .int .i64 0, .string (⟨#[]⟩ : ByteArray), .slice none 0 0, .int .i64 0, .int .i64 0, .int .i64 0, .int .i64 0, .int .i64 0, .int .i64 0, .int .i64 0, .string (⟨#[]⟩ : ByteArray)] rfl (by first | rfl | (go_simp; done) | (go_simp; rfl)) 34 _ BR.out (by kernel_rfl) rfl (by first | rfl | (simp; done) | (simp [Value.oneCell']; done)) ?_; intro wz hx1 hx2 hx3; replace BR := Aside0.mk hx1; replace HB := Aside0.mk (hx3 _ _ HB.out GR.out); clear hx1 hx2 hx3))
    refine bodyPost_ret (results_cell_row rfl _ _ gr 34 #[.int .i64 a0_0, .int .i64 0, .int .i64 0, .string (⟨#[]⟩ : ByteArray), .string (⟨#[]⟩ : ByteArray), .bool a0_5, .int .i64 0, .int .i64 0, .string (⟨#[]⟩ : ByteArray), .string (⟨#[]⟩ : ByteArray), .int .i64 0, .string (⟨#[]⟩ : ByteArray), .slice none 0 0, .int .i64 0, .int .i64 0, .int .i64 0, .int .i64 0, .int .i64 0, .int .i64 0, .int .i64 0, .string (⟨#[]⟩ : ByteArray)] (0, 0) _ rfl BR.out hu34 rfl (by kernel_rfl)) rfl ?_
    exact ⟨none, 0, rfl, Kd.C_nil _ _, Nat.le_refl _, HB.out⟩
  by_cases c6 : a0_0 = 6
  · have h := H.out
    unfold wire_only.o at h
    rw [if_neg c1] at h
    rw [if_neg c2] at h
    rw [if_neg c3] at h
    rw [if_pos c6] at h
    simp only [Prod.mk.injEq] at h
    obtain ⟨rfl, rfl, rfl, rfl, rfl, rfl, rfl, rfl, rfl, rfl, rfl, rfl, rfl, rfl, rfl, rfl, rfl, rfl, rfl, rfl, rfl⟩ := h
    clear H
    have t1 : (a0_0 == 1) = false := beq_eq_false_iff_ne.mpr c1
    have t2 : (a0_0 == 2) = false := beq_eq_false_iff_ne.mpr c2
    have t3 : (a0_0 == 3) = false := beq_eq_false_iff_ne.mpr c3
    have t6 : (a0_0 == 6) = true := beq_iff_eq.mpr c6
    clear c1 c2 c3 c6
    have p6 : wx.cell? ⟨gb, 6, none⟩ = some (.int .i64 a0_6) := (blk_cell BM.out 6).trans rfl
    have p7 : wx.cell? ⟨gb, 7, none⟩ = some (.int .i64 a0_7) := (blk_cell BM.out 7).trans rfl
    have p8 : wx.cell? ⟨gb, 8, none⟩ = some (.string a0_8) := (blk_cell BM.out 8).trans rfl
    have p9 : wx.cell? ⟨gb, 9, none⟩ = some (.string a0_9) := (blk_cell BM.out 9).trans rfl
    have q6 : wx.cell? ⟨gx, 6, none⟩ = some (.int .i64 0) := (blk_cell BX.out 6).trans rfl
    have q7 : wx.cell? ⟨gx, 7, none⟩ = some (.int .i64 0) := (blk_cell BX.out 7).trans rfl
    have q8 : wx.cell? ⟨gx, 8, none⟩ = some (.string (⟨#[]⟩ : ByteArray)) := (blk_cell BX.out 8).trans rfl
    have q9 : wx.cell? ⟨gx, 9, none⟩ = some (.string (⟨#[]⟩ : ByteArray)) := (blk_cell BX.out 9).trans rfl
    have f6 := blk_frozen BX.out 6
    have f7 := blk_frozen BX.out 7
    have f8 := blk_frozen BX.out 8
    have f9 := blk_frozen BX.out 9
    go_wp2_with fail
    refine start_ (n := 8) (S := fun w' => w'.cell? ⟨gb, 6, none⟩ = some (.int .i64 a0_6) ∧ w'.cell? ⟨gb, 7, none⟩ = some (.int .i64 a0_7) ∧ w'.cell? ⟨gb, 8, none⟩ = some (.string a0_8) ∧ w'.cell? ⟨gb, 9, none⟩ = some (.string a0_9)) (ds := []) #[false, false, false, false, false, false, false, false] (by kernel_rfl) rfl rfl ⟨p6, p7, p8, p9⟩ (fun hHeld => ?_)
    refine pure_ (i := 0) (N := some 29) (v := ?_) (a' := ?_) #[true, false, false, false, false, false, false, false] rfl rfl (by kernel_rfl) (fun _ _ _ h => h) (Or.inl ⟨by rfl, ?_⟩) ?_ ?_
    rotate_left
    · intro w'
      go_simp
      with_reducible rfl
    rotate_left
    · simp only [Act.put, List.setIfInBounds_toArray, List.set_cons_zero, List.set_cons_succ, i64_w, i32_w]
      rfl
    refine pure_ (i := 2) (N := some 31) (v := ?_) (a' := ?_) #[true, false, true, false, false, false, false, false] rfl rfl (by kernel_rfl) (fun _ _ _ h => h) (Or.inl ⟨by rfl, ?_⟩) ?_ ?_
    rotate_left
    · intro w'
      go_simp
      with_reducible rfl
    rotate_left
    · simp only [Act.put, List.setIfInBounds_toArray, List.set_cons_zero, List.set_cons_succ, i64_w, i32_w]
      rfl
    refine take_ (i := 1) (N := some 30) (v := ?_) (a' := ?_) #[true, true, true, false, false, false, false, false] rfl rfl (by kernel_rfl) (fun _ _ _ h => h) (Or.inl ⟨by rfl, ?_⟩) hHeld ?_ ?_
    rotate_left
    · rintro w' ⟨s0, s1, s2, s3⟩
      go_simp
      with_reducible rfl
    rotate_left
    · simp only [Act.put, List.setIfInBounds_toArray, List.set_cons_zero, List.set_cons_succ, i64_w, i32_w]
      rfl
    refine pure_ (i := 4) (N := some 33) (v := ?_) (a' := ?_) #[true, true, true, false, true, false, false, false] rfl rfl (by kernel_rfl) (fun _ _ _ h => h) (Or.inl ⟨by rfl, ?_⟩) ?_ ?_
    rotate_left
    · intro w'
      go_simp
      with_reducible rfl
    rotate_left
    · simp only [Act.put, List.setIfInBounds_toArray, List.set_cons_zero, List.set_cons_succ, i64_w, i32_w]
      rfl
    refine take_ (i := 3) (N := some 32) (v := ?_) (a' := ?_) #[true, true, true, true, true, false, false, false] rfl rfl (by kernel_rfl) (fun _ _ _ h => h) (Or.inl ⟨by rfl, ?_⟩) hHeld ?_ ?_
    rotate_left
    · rintro w' ⟨s0, s1, s2, s3⟩
      go_simp
      with_reducible rfl
    rotate_left
    · simp only [Act.put, List.setIfInBounds_toArray, List.set_cons_zero, List.set_cons_succ, i64_w, i32_w]
      rfl
    refine one_ (i := 5) (N := none) #[true, true, true, true, true, true, false, false] rfl rfl (by kernel_rfl) (by decide) (fun K hK => ?_)
    refine skip_ (w1 := ?_) (by rfl) rfl ?_ ?_
    rotate_left
    · go_simp
      rfl
    refine hK.out _ _ ⟨(blk_cell (by (repeat (first | (with_reducible refine blk_drew ?_) | refine (Below.heap_setCell _ _ _ _ NX.out).trans ?_)); exact BM.out) 6).trans rfl, (blk_cell (by (repeat (first | (with_reducible refine blk_drew ?_) | refine (Below.heap_setCell _ _ _ _ NX.out).trans ?_)); exact BM.out) 7).trans rfl, (blk_cell (by (repeat (first | (with_reducible refine blk_drew ?_) | refine (Below.heap_setCell _ _ _ _ NX.out).trans ?_)); exact BM.out) 8).trans rfl, (blk_cell (by (repeat (first | (with_reducible refine blk_drew ?_) | refine (Below.heap_setCell _ _ _ _ NX.out).trans ?_)); exact BM.out) 9).trans rfl⟩ (fun hHeld => ?_)
    clear hK K
    refine pure_ (i := 6) (N := some 34) (v := ?_) (a' := ?_) #[true, true, true, true, true, true, true, false] rfl rfl (by kernel_rfl) (fun _ _ _ h => h) (Or.inl ⟨by rfl, ?_⟩) ?_ ?_
    rotate_left
    · intro w'
      go_simp
      with_reducible rfl
    rotate_left
    · simp only [Act.put, List.setIfInBounds_toArray, List.set_cons_zero, List.set_cons_succ, i64_w, i32_w]
      rfl
    refine one_ (i := 7) (N := none) #[true, true, true, true, true, true, true, true] rfl rfl (by kernel_rfl) (by decide) (fun K hK => ?_)
    refine skip_ (w1 := ?_) (by rfl) rfl ?_ ?_
    rotate_left
    · go_simp
      rfl
    refine hK.out _ _ ⟨(blk_cell (by (repeat (first | (with_reducible refine blk_drew ?_) | refine (Below.heap_setCell _ _ _ _ NX.out).trans ?_)); exact BM.out) 6).trans rfl, (blk_cell (by (repeat (first | (with_reducible refine blk_drew ?_) | refine (Below.heap_setCell _ _ _ _ NX.out).trans ?_)); exact BM.out) 7).trans rfl, (blk_cell (by (repeat (first | (with_reducible refine blk_drew ?_) | refine (Below.heap_setCell _ _ _ _ NX.out).trans ?_)); exact BM.out) 8).trans rfl, (blk_cell (by (repeat (first | (with_reducible refine blk_drew ?_) | refine (Below.heap_setCell _ _ _ _ NX.out).trans ?_)); exact BM.out) 9).trans rfl⟩ (fun hHeld => ?_)
    clear hK K
    refine done_ (by kernel_rfl) ?_
    go_upto_region 17 with fail
    obtain ⟨wy, e0⟩ : ∃ W, W = ((((wx.setCell ⟨gx, 6, none⟩ (.int .i64 a0_6)).setCell ⟨gx, 7, none⟩ (.int .i64 a0_7)).setCell ⟨gx, 8, none⟩ (.string a0_8)).setCell ⟨gx, 9, none⟩ (.string a0_9)).drew := ⟨_, rfl⟩
    rw [← e0]
    replace BR : Aside0 (wy.heap[gr]? = some (.cells #[.int .i64 0, .int .i64 0, .int .i64 0, .string (⟨#[]⟩ : ByteArray), .string (⟨#[]⟩ : ByteArray), .bool false, .int .i64 0, .int .i64 0, .string (⟨#[]⟩ : ByteArray), .string (⟨#[]⟩ : ByteArray), .int .i64 0, .string (⟨#[]⟩ : ByteArray), .slice none 0 0, .int .i64 0, .int .i64 0, .int .i64 0, .int .i64 0, .int .i64 0, .int .i64 0, .int .i64 0, .string (⟨#[]⟩ : ByteArray)] 34 (0, 0))) := ⟨by rw [e0]; exact zP⟩
    replace BX : Aside0 (wy.heap[gx]? = some (.cells #[.int .i64 a0_0, .int .i64 0, .int .i64 0, .string (⟨#[]⟩ : ByteArray), .string (⟨#[]⟩ : ByteArray), .bool false, .int .i64 a0_6, .int .i64 a0_7, .string a0_8, .string a0_9, .int .i64 0, .string (⟨#[]⟩ : ByteArray), .slice none 0 0, .int .i64 0, .int .i64 0, .int .i64 0, .int .i64 0, .int .i64 0, .int .i64 0, .int .i64 0, .string (⟨#[]⟩ : ByteArray)] 34 (0, 0))) := ⟨by rw [e0]; exact zP⟩
    replace HB : Aside0 (Below w.heap.size w wy) := ⟨by rw [e0]; exact zB⟩
    clear e0
    clear p6 p7 p8 p9 q6 q7 q8 q9 f6 f7 f8 f9
    go_wp2_with (first | ((with_reducible refine gate_dst (N := 56) rfl ?_); refine wpList_load_row rfl 34 (.tmp 3) rfl gx rfl 34 _ (0, 0) _ BX.out hu34 rfl (by kernel_rfl) ?_) | ((with_reducible refine gate_store (t := 34) (p := 2) rfl ?_); refine store_ev rfl 34 (.tmp 2) (.tmp 56) rfl gr #[.int .i64 a0_0, .int .i64 0, .int .i64 0, .string (⟨#[]⟩ : ByteArray), .string (⟨#[]⟩ : ByteArray), .bool false, .int .i64 a0_6, .int .i64 a0_7, .string a0_8, .string a0_9, .int .i64 0, .string (⟨#[]⟩ : ByteArray), .slice none 0 0, .int .i64 0, .int .i64 0, .int .i64 0, .int .i64 0, .int .i64 0, .int .i64 0, .int .i64 0, .string (⟨#[]⟩ : ByteArray)] rfl (by first | rfl | (go_simp; done) | (go_simp; rfl)) 34 _ BR.out (by kernel_rfl) rfl (by first | rfl | (simp; done) | (simp [Value.oneCell']; done)) ?_; intro wz hx1 hx2 hx3; replace BR := Aside0.mk hx1; replace HB := Aside0.mk (hx3 _ _ HB.out GR.out); clear hx1 hx2 hx3))
    refine bodyPost_ret (results_cell_row rfl _ _ gr 34 #[.int .i64 a0_0, .int .i64 0, .int .i64 0, .string (⟨#[]⟩ : ByteArray), .string (⟨#[]⟩ : ByteArray), .bool false, .int .i64 a0_6, .int .i64 a0_7, .string a0_8, .string a0_9, .int .i64 0, .string (⟨#[]⟩ : ByteArray), .slice none 0 0, .int .i64 0, .int .i64 0, .int .i64 0, .int .i64 0, .int .i64 0, .int .i64 0, .int .i64 0, .string (⟨#[]⟩ : ByteArray)] (0, 0) _ rfl BR.out hu34 rfl (by kernel_rfl)) rfl ?_
    exact ⟨none, 0, rfl, Kd.C_nil _ _, Nat.le_refl _, HB.out⟩
  by_cases c7 : a0_0 = 7
  · have h := H.out
    unfold wire_only.o at h
    rw [if_neg c1] at h
    rw [if_neg c2] at h
    rw [if_neg c3] at h
    rw [if_neg c6] at h
    rw [if_pos c7] at h
    simp only [Prod.mk.injEq] at h
    obtain ⟨rfl, rfl, rfl, rfl, rfl, rfl, rfl, rfl, rfl, rfl, rfl, rfl, rfl, rfl, rfl, rfl, rfl, rfl, rfl, rfl, rfl⟩ := h
    clear H
    have t1 : (a0_0 == 1) = false := beq_eq_false_iff_ne.mpr c1
    have t2 : (a0_0 == 2) = false := beq_eq_false_iff_ne.mpr c2
    have t3 : (a0_0 == 3) = false := beq_eq_false_iff_ne.mpr c3
    have t6 : (a0_0 == 6) = false := beq_eq_false_iff_ne.mpr c6
    have t7 : (a0_0 == 7) = true := beq_iff_eq.mpr c7
    clear c1 c2 c3 c6 c7
    have p10 : wx.cell? ⟨gb, 10, none⟩ = some (.int .i64 a0_10) := (blk_cell BM.out 10).trans rfl
    have q10 : wx.cell? ⟨gx, 10, none⟩ = some (.int .i64 0) := (blk_cell BX.out 10).trans rfl
    have f10 := blk_frozen BX.out 10
    go_upto_region 17 with fail
    obtain ⟨wy, e0⟩ : ∃ W, W = (wx.setCell ⟨gx, 10, none⟩ (.int .i64 a0_10)) := ⟨_, rfl⟩
    rw [← e0]
    replace BR : Aside0 (wy.heap[gr]? = some (.cells #[.int .i64 0, .int .i64 0, .int .i64 0, .string (⟨#[]⟩ : ByteArray), .string (⟨#[]⟩ : ByteArray), .bool false, .int .i64 0, .int .i64 0, .string (⟨#[]⟩ : ByteArray), .string (⟨#[]⟩ : ByteArray), .int .i64 0, .string (⟨#[]⟩ : ByteArray), .slice none 0 0, .int .i64 0, .int .i64 0, .int .i64 0, .int .i64 0, .int .i64 0, .int .i64 0, .int .i64 0, .string (⟨#[]⟩ : ByteArray)] 34 (0, 0))) := ⟨by rw [e0]; exact zP⟩
    replace BX : Aside0 (wy.heap[gx]? = some (.cells #[.int .i64 a0_0, .int .i64 0, .int .i64 0, .string (⟨#[]⟩ : ByteArray), .string (⟨#[]⟩ : ByteArray), .bool false, .int .i64 0, .int .i64 0, .string (⟨#[]⟩ : ByteArray), .string (⟨#[]⟩ : ByteArray), .int .i64 a0_10, .string (⟨#[]⟩ : ByteArray), .slice none 0 0, .int .i64 0, .int .i64 0, .int .i64 0, .int .i64 0, .int .i64 0, .int .i64 0, .int .i64 0, .string (⟨#[]⟩ : ByteArray)] 34 (0, 0))) := ⟨by rw [e0]; exact zP⟩
    replace HB : Aside0 (Below w.heap.size w wy) := ⟨by rw [e0]; exact zB⟩
    clear e0
    clear p10 q10 f10
    go_wp2_with (first | ((with_reducible refine gate_dst (N := 56) rfl ?_); refine wpList_load_row rfl 34 (.tmp 3) rfl gx rfl 34 _ (0, 0) _ BX.out hu34 rfl (by kernel_rfl) ?_) | ((with_reducible refine gate_store (t := 34) (p := 2) rfl ?_); refine store_ev rfl 34 (.tmp 2) (.tmp 56) rfl gr #[.int .i64 a0_0, .int .i64 0, .int .i64 0, .string (⟨#[]⟩ : ByteArray), .string (⟨#[]⟩ : ByteArray), .bool false, .int .i64 0, .int .i64 0, .string (⟨#[]⟩ : ByteArray), .string (⟨#[]⟩ : ByteArray), .int .i64 a0_10, .string (⟨#[]⟩ : ByteArray), .slice none 0 0, .int .i64 0, .int .i64 0, .int .i64 0, .int .i64 0, .int .i64 0, .int .i64 0, .int .i64 0, .string (⟨#[]⟩ : ByteArray)] rfl (by first | rfl | (go_simp; done) | (go_simp; rfl)) 34 _ BR.out (by kernel_rfl) rfl (by first | rfl | (simp; done) | (simp [Value.oneCell']; done)) ?_; intro wz hx1 hx2 hx3; replace BR := Aside0.mk hx1; replace HB := Aside0.mk (hx3 _ _ HB.out GR.out); clear hx1 hx2 hx3))
    refine bodyPost_ret (results_cell_row rfl _ _ gr 34 #[.int .i64 a0_0, .int .i64 0, .int .i64 0, .string (⟨#[]⟩ : ByteArray), .string (⟨#[]⟩ : ByteArray), .bool false, .int .i64 0, .int .i64 0, .string (⟨#[]⟩ : ByteArray), .string (⟨#[]⟩ : ByteArray), .int .i64 a0_10, .string (⟨#[]⟩ : ByteArray), .slice none 0 0, .int .i64 0, .int .i64 0, .int .i64 0, .int .i64 0, .int .i64 0, .int .i64 0, .int .i64 0, .string (⟨#[]⟩ : ByteArray)] (0, 0) _ rfl BR.out hu34 rfl (by kernel_rfl)) rfl ?_
    exact ⟨none, 0, rfl, Kd.C_nil _ _, Nat.le_refl _, HB.out⟩
  by_cases c8 : a0_0 = 8
  · have h := H.out
    unfold wire_only.o at h
    rw [if_neg c1] at h
    rw [if_neg c2] at h
    rw [if_neg c3] at h
    rw [if_neg c6] at h
    rw [if_neg c7] at h
    rw [if_pos c8] at h
    simp only [Prod.mk.injEq] at h
    obtain ⟨rfl, rfl, rfl, rfl, rfl, rfl, rfl, rfl, rfl, rfl, rfl, rfl, rfl, rfl, rfl, rfl, rfl, rfl, rfl, rfl, rfl⟩ := h
    clear H
    have t1 : (a0_0 == 1) = false := beq_eq_false_iff_ne.mpr c1
    have t2 : (a0_0 == 2) = false := beq_eq_false_iff_ne.mpr c2
    have t3 : (a0_0 == 3) = false := beq_eq_false_iff_ne.mpr c3
    have t6 : (a0_0 == 6) = false := beq_eq_false_iff_ne.mpr c6
    have t7 : (a0_0 == 7) = false := beq_eq_false_iff_ne.mpr c7
    have t8 : (a0_0 == 8) = true := beq_iff_eq.mpr c8
    clear c1 c2 c3 c6 c7 c8
    have p10 : wx.cell? ⟨gb, 10, none⟩ = some (.int .i64 a0_10) := (blk_cell BM.out 10).trans rfl
    have p11 : wx.cell? ⟨gb, 11, none⟩ = some (.string a0_11) := (blk_cell BM.out 11).trans rfl
    have p12 : wx.cell? ⟨gb, 12, none⟩ = some (.slice A0_12 l0_12.length c0_12) := (blk_cell BM.out 12).trans rfl
    have q10 : wx.cell? ⟨gx, 10, none⟩ = some (.int .i64 0) := (blk_cell BX.out 10).trans rfl
    have q11 : wx.cell? ⟨gx, 11, none⟩ = some (.string (⟨#[]⟩ : ByteArray)) := (blk_cell BX.out 11).trans rfl
    have q12 : wx.cell? ⟨gx, 12, none⟩ = some (.slice none 0 0) := (blk_cell BX.out 12).trans rfl
    have f10 := blk_frozen BX.out 10
    have f11 := blk_frozen BX.out 11
    have f12 := blk_frozen BX.out 12
    go_wp2_with fail
    refine start_ (n := 12) (S := fun w' => w'.cell? ⟨gb, 10, none⟩ = some (.int .i64 a0_10) ∧ w'.cell? ⟨gb, 11, none⟩ = some (.string a0_11) ∧ w'.cell? ⟨gb, 12, none⟩ = some (.slice A0_12 l0_12.length c0_12)) (ds := []) #[false, false, false, false, false, false, false, false, false, false, false, false] (by kernel_rfl) rfl rfl ⟨p10, p11, p12⟩ (fun hHeld => ?_)
    refine pure_ (i := 0) (N := some 42) (v := ?_) (a' := ?_) #[true, false, false, false, false, false, false, false, false, false, false, false] rfl rfl (by kernel_rfl) (fun _ _ _ h => h) (Or.inl ⟨by rfl, ?_⟩) ?_ ?_
    rotate_left
    · intro w'
      go_simp
      with_reducible rfl
    rotate_left
    · simp only [Act.put, List.setIfInBounds_toArray, List.set_cons_zero, List.set_cons_succ, i64_w, i32_w]
      rfl
    refine pure_ (i := 2) (N := some 44) (v := ?_) (a' := ?_) #[true, false, true, false, false, false, false, false, false, false, false, false] rfl rfl (by kernel_rfl) (fun _ _ _ h => h) (Or.inl ⟨by rfl, ?_⟩) ?_ ?_
    rotate_left
    · intro w'
      go_simp
      with_reducible rfl
    rotate_left
    · simp only [Act.put, List.setIfInBounds_toArray, List.set_cons_zero, List.set_cons_succ, i64_w, i32_w]
      rfl
    refine pure_ (i := 4) (N := some 46) (v := ?_) (a' := ?_) #[true, false, true, false, true, false, false, false, false, false, false, false] rfl rfl (by kernel_rfl) (fun _ _ _ h => h) (Or.inl ⟨by rfl, ?_⟩) ?_ ?_
    rotate_left
    · intro w'
      go_simp
      with_reducible rfl
    rotate_left
    · simp only [Act.put, List.setIfInBounds_toArray, List.set_cons_zero, List.set_cons_succ, i64_w, i32_w]
      rfl
    refine take_ (i := 1) (N := some 43) (v := ?_) (a' := ?_) #[true, true, true, false, true, false, false, false, false, false, false, false] rfl rfl (by kernel_rfl) (fun _ _ _ h => h) (Or.inl ⟨by rfl, ?_⟩) hHeld ?_ ?_
    rotate_left
    · rintro w' ⟨s0, s1, s2⟩
      go_simp
      with_reducible rfl
    rotate_left
    · simp only [Act.put, List.setIfInBounds_toArray, List.set_cons_zero, List.set_cons_succ, i64_w, i32_w]
      rfl
    refine pure_ (i := 6) (N := some 48) (v := ?_) (a' := ?_) #[true, true, true, false, true, false, true, false, false, false, false, false] rfl rfl (by kernel_rfl) (fun _ _ _ h => h) (Or.inl ⟨by rfl, ?_⟩) ?_ ?_
    rotate_left
    · intro w'
      go_simp
      with_reducible rfl
    rotate_left
    · simp only [Act.put, List.setIfInBounds_toArray, List.set_cons_zero, List.set_cons_succ, i64_w, i32_w]
      rfl
    refine take_ (i := 3) (N := some 45) (v := ?_) (a' := ?_) #[true, true, true, true, true, false, true, false, false, false, false, false] rfl rfl (by kernel_rfl) (fun _ _ _ h => h) (Or.inl ⟨by rfl, ?_⟩) hHeld ?_ ?_
    rotate_left
    · rintro w' ⟨s0, s1, s2⟩
      go_simp
      with_reducible rfl
    rotate_left
    · simp only [Act.put, List.setIfInBounds_toArray, List.set_cons_zero, List.set_cons_succ, i64_w, i32_w]
      rfl
    refine take_ (i := 5) (N := some 47) (v := ?_) (a' := ?_) #[true, true, true, true, true, true, true, false, false, false, false, false] rfl rfl (by kernel_rfl) (fun _ _ _ h => h) (Or.inl ⟨by rfl, ?_⟩) hHeld ?_ ?_
    rotate_left
    · rintro w' ⟨s0, s1, s2⟩
      go_simp
      with_reducible rfl
    rotate_left
    · simp only [Act.put, List.setIfInBounds_toArray, List.set_cons_zero, List.set_cons_succ, i64_w, i32_w]
      rfl
    refine one_ (i := 7) (N := none) #[true, true, true, true, true, true, true, true, false, false, false, false] rfl rfl (by kernel_rfl) (by decide) (fun K hK => ?_)
    refine skip_ (w1 := ?_) (by rfl) rfl ?_ ?_
    rotate_left
    · go_simp
      rfl
    refine hK.out _ _ ⟨(blk_cell (by (repeat (first | (with_reducible refine blk_drew ?_) | refine (Below.heap_setCell _ _ _ _ NX.out).trans ?_)); exact BM.out) 10).trans rfl, (blk_cell (by (repeat (first | (with_reducible refine blk_drew ?_) | refine (Below.heap_setCell _ _ _ _ NX.out).trans ?_)); exact BM.out) 11).trans rfl, (blk_cell (by (repeat (first | (with_reducible refine blk_drew ?_) | refine (Below.heap_setCell _ _ _ _ NX.out).trans ?_)); exact BM.out) 12).trans rfl⟩ (fun hHeld => ?_)
    clear hK K
    refine pure_ (i := 8) (N := some 49) (v := ?_) (a' := ?_) #[true, true, true, true, true, true, true, true, true, false, false, false] rfl rfl (by kernel_rfl) (fun _ _ _ h => h) (Or.inl ⟨by rfl, ?_⟩) ?_ ?_
    rotate_left
    · intro w'
      go_simp
      with_reducible rfl
    rotate_left
    · simp only [Act.put, List.setIfInBounds_toArray, List.set_cons_zero, List.set_cons_succ, i64_w, i32_w]
      rfl
    refine one_ (i := 9) (N := none) #[true, true, true, true, true, true, true, true, true, true, false, false] rfl rfl (by kernel_rfl) (by decide) (fun K hK => ?_)
    refine skip_ (w1 := ?_) (by rfl) rfl ?_ ?_
    rotate_left
    · go_simp
      rfl
    refine hK.out _ _ ⟨(blk_cell (by (repeat (first | (with_reducible refine blk_drew ?_) | refine (Below.heap_setCell _ _ _ _ NX.out).trans ?_)); exact BM.out) 10).trans rfl, (blk_cell (by (repeat (first | (with_reducible refine blk_drew ?_) | refine (Below.heap_setCell _ _ _ _ NX.out).trans ?_)); exact BM.out) 11).trans rfl, (blk_cell (by (repeat (first | (with_reducible refine blk_drew ?_) | refine (Below.heap_setCell _ _ _ _ NX.out).trans ?_)); exact BM.out) 12).trans rfl⟩ (fun hHeld => ?_)
    clear hK K
    refine pure_ (i := 10) (N := some 50) (v := ?_) (a' := ?_) #[true, true, true, true, true, true, true, true, true, true, true, false] rfl rfl (by kernel_rfl) (fun _ _ _ h => h) (Or.inl ⟨by rfl, ?_⟩) ?_ ?_
    rotate_left
    · intro w'
      go_simp
      with_reducible rfl
    rotate_left
    · simp only [Act.put, List.setIfInBounds_toArray, List.set_cons_zero, List.set_cons_succ, i64_w, i32_w]
      rfl
    refine one_ (i := 11) (N := none) #[true, true, true, true, true, true, true, true, true, true, true, true] rfl rfl (by kernel_rfl) (by decide) (fun K hK => ?_)
    refine skip_ (w1 := ?_) (by rfl) rfl ?_ ?_
    rotate_left
    · go_simp
      rfl
    refine hK.out _ _ ⟨(blk_cell (by (repeat (first | (with_reducible refine blk_drew ?_) | refine (Below.heap_setCell _ _ _ _ NX.out).trans ?_)); exact BM.out) 10).trans rfl, (blk_cell (by (repeat (first | (with_reducible refine blk_drew ?_) | refine (Below.heap_setCell _ _ _ _ NX.out).trans ?_)); exact BM.out) 11).trans rfl, (blk_cell (by (repeat (first | (with_reducible refine blk_drew ?_) | refine (Below.heap_setCell _ _ _ _ NX.out).trans ?_)); exact BM.out) 12).trans rfl⟩ (fun hHeld => ?_)
    clear hK K
    refine done_ (by kernel_rfl) ?_
    go_upto_region 17 with fail
    obtain ⟨wy, e0⟩ : ∃ W, W = (((wx.setCell ⟨gx, 10, none⟩ (.int .i64 a0_10)).setCell ⟨gx, 11, none⟩ (.string a0_11)).setCell ⟨gx, 12, none⟩ (.slice A0_12 l0_12.length c0_12)).drew := ⟨_, rfl⟩
    rw [← e0]
    replace BR : Aside0 (wy.heap[gr]? = some (.cells #[.int .i64 0, .int .i64 0, .int .i64 0, .string (⟨#[]⟩ : ByteArray), .string (⟨#[]⟩ : ByteArray), .bool false, .int .i64 0, .int .i64 0, .string (⟨#[]⟩ : ByteArray), .string (⟨#[]⟩ : ByteArray), .int .i64 0, .string (⟨#[]⟩ : ByteArray), .slice none 0 0, .int .i64 0, .int .i64 0, .int .i64 0, .int .i64 0, .int .i64 0, .int .i64 0, .int .i64 0, .string (⟨#[]⟩ : ByteArray)] 34 (0, 0))) := ⟨by rw [e0]; exact zP⟩
    replace BX : Aside0 (wy.heap[gx]? = some (.cells #[.int .i64 a0_0, .int .i64 0, .int .i64 0, .string (⟨#[]⟩ : ByteArray), .string (⟨#[]⟩ : ByteArray), .bool false, .int .i64 0, .int .i64 0, .string (⟨#[]⟩ : ByteArray), .string (⟨#[]⟩ : ByteArray), .int .i64 a0_10, .string a0_11, .slice A0_12 l0_12.length c0_12, .int .i64 0, .int .i64 0, .int .i64 0, .int .i64 0, .int .i64 0, .int .i64 0, .int .i64 0, .string (⟨#[]⟩ : ByteArray)] 34 (0, 0))) := ⟨by rw [e0]; exact zP⟩
    replace HB : Aside0 (Below w.heap.size w wy) := ⟨by rw [e0]; exact zB⟩
    clear e0
    clear p10 p11 p12 q10 q11 q12 f10 f11 f12
    go_wp2_with (first | ((with_reducible refine gate_dst (N := 56) rfl ?_); refine wpList_load_row rfl 34 (.tmp 3) rfl gx rfl 34 _ (0, 0) _ BX.out hu34 rfl (by kernel_rfl) ?_) | ((with_reducible refine gate_store (t := 34) (p := 2) rfl ?_); refine store_ev rfl 34 (.tmp 2) (.tmp 56) rfl gr #[.int .i64 a0_0, .int .i64 0, .int .i64 0, .string (⟨#[]⟩ : ByteArray), .string (⟨#[]⟩ : ByteArray), .bool false, .int .i64 0, .int .i64 0, .string (⟨#[]⟩ : ByteArray), .string (⟨#[]⟩ : ByteArray), .int .i64 a0_10, .string a0_11, .slice A0_12 l0_12.length c0_12, .int .i64 0, .int .i64 0, .int .i64 0, .int .i64 0, .int .i64 0, .int .i64 0, .int .i64 0, .string (⟨#[]⟩ : ByteArray)] rfl (by first | rfl | (go_simp; done) | (go_simp; rfl)) 34 _ BR.out (by kernel_rfl) rfl (by first | rfl | (simp; done) | (simp [Value.oneCell']; done)) ?_; intro wz hx1 hx2 hx3; replace BR := Aside0.mk hx1; replace HB := Aside0.mk (hx3 _ _ HB.out GR.out); clear hx1 hx2 hx3))
    refine bodyPost_ret (results_cell_row rfl _ _ gr 34 #[.int .i64 a0_0, .int .i64 0, .int .i64 0, .string (⟨#[]⟩ : ByteArray), .string (⟨#[]⟩ : ByteArray), .bool false, .int .i64 0, .int .i64 0, .string (⟨#[]⟩ : ByteArray), .string (⟨#[]⟩ : ByteArray), .int .i64 a0_10, .string a0_11, .slice A0_12 l0_12.length c0_12, .int .i64 0, .int .i64 0, .int .i64 0, .int .i64 0, .int .i64 0, .int .i64 0, .int .i64 0, .string (⟨#[]⟩ : ByteArray)] (0, 0) _ rfl BR.out hu34 rfl (by kernel_rfl)) rfl ?_
    exact ⟨A0_12, c0_12, rfl, HR.out, HC.out, HB.out⟩
  by_cases c9 : a0_0 = 9
  · have h := H.out
    unfold wire_only.o at h
    rw [if_neg c1] at h
    rw [if_neg c2] at h
    rw [if_neg c3] at h
    rw [if_neg c6] at h
    rw [if_neg c7] at h
    rw [if_neg c8] at h
    rw [if_pos c9] at h
    simp only [Prod.mk.injEq] at h
    obtain ⟨rfl, rfl, rfl, rfl, rfl, rfl, rfl, rfl, rfl, rfl, rfl, rfl, rfl, rfl, rfl, rfl, rfl, rfl, rfl, rfl, rfl⟩ := h
    clear H
    have t1 : (a0_0 == 1) = false := beq_eq_false_iff_ne.mpr c1
    have t2 : (a0_0 == 2) = false := beq_eq_false_iff_ne.mpr c2
    have t3 : (a0_0 == 3) = false := beq_eq_false_iff_ne.mpr c3
    have t6 : (a0_0 == 6) = false := beq_eq_false_iff_ne.mpr c6
    have t7 : (a0_0 == 7) = false := beq_eq_false_iff_ne.mpr c7
    have t8 : (a0_0 == 8) = false := beq_eq_false_iff_ne.mpr c8
    have t9 : (a0_0 == 9) = true := beq_iff_eq.mpr c9
    clear c1 c2 c3 c6 c7 c8 c9
    have p13 : wx.cell? ⟨gb, 13, none⟩ = some (.int .i64 a0_13) := (blk_cell BM.out 13).trans rfl
    have p14 : wx.cell? ⟨gb, 14, none⟩ = some (.int .i64 a0_14) := (blk_cell BM.out 14).trans rfl
    have p15 : wx.cell? ⟨gb, 15, none⟩ = some (.int .i64 a0_15) := (blk_cell BM.out 15).trans rfl
    have p16 : wx.cell? ⟨gb, 16, none⟩ = some (.int .i64 a0_16) := (blk_cell BM.out 16).trans rfl
    have p17 : wx.cell? ⟨gb, 17, none⟩ = some (.int .i64 a0_17) := (blk_cell BM.out 17).trans rfl
    have p18 : wx.cell? ⟨gb, 18, none⟩ = some (.int .i64 a0_18) := (blk_cell BM.out 18).trans rfl
    have p19 : wx.cell? ⟨gb, 19, none⟩ = some (.int .i64 a0_19) := (blk_cell BM.out 19).trans rfl
    have p20 : wx.cell? ⟨gb, 20, none⟩ = some (.string a0_20) := (blk_cell BM.out 20).trans rfl
    have q13 : wx.cell? ⟨gx, 13, none⟩ = some (.int .i64 0) := (blk_cell BX.out 13).trans rfl
    have q14 : wx.cell? ⟨gx, 14, none⟩ = some (.int .i64 0) := (blk_cell BX.out 14).trans rfl
    have q15 : wx.cell? ⟨gx, 15, none⟩ = some (.int .i64 0) := (blk_cell BX.out 15).trans rfl
    have q16 : wx.cell? ⟨gx, 16, none⟩ = some (.int .i64 0) := (blk_cell BX.out 16).trans rfl
    have q17 : wx.cell? ⟨gx, 17, none⟩ = some (.int .i64 0) := (blk_cell BX.out 17).trans rfl
    have q18 : wx.cell? ⟨gx, 18, none⟩ = some (.int .i64 0) := (blk_cell BX.out 18).trans rfl
    have q19 : wx.cell? ⟨gx, 19, none⟩ = some (.int .i64 0) := (blk_cell BX.out 19).trans rfl
    have q20 : wx.cell? ⟨gx, 20, none⟩ = some (.string (⟨#[]⟩ : ByteArray)) := (blk_cell BX.out 20).trans rfl
    have f13 := blk_frozen BX.out 13
    have f14 := blk_frozen BX.out 14
    have f15 := blk_frozen BX.out 15
    have f16 := blk_frozen BX.out 16
    have f17 := blk_frozen BX.out 17
    have f18 := blk_frozen BX.out 18
    have f19 := blk_frozen BX.out 19
    have f20 := blk_frozen BX.out 20
    go_upto_region 17 with fail
    obtain ⟨wy, e0⟩ : ∃ W, W = ((((((((wx.setCell ⟨gx, 13, none⟩ (.int .i64 a0_13)).setCell ⟨gx, 14, none⟩ (.int .i64 a0_14)).setCell ⟨gx, 15, none⟩ (.int .i64 a0_15)).setCell ⟨gx, 16, none⟩ (.int .i64 a0_16)).setCell ⟨gx, 17, none⟩ (.int .i64 a0_17)).setCell ⟨gx, 18, none⟩ (.int .i64 a0_18)).setCell ⟨gx, 19, none⟩ (.int .i64 a0_19)).setCell ⟨gx, 20, none⟩ (.string a0_20)) := ⟨_, rfl⟩
    rw [← e0]
    replace BR : Aside0 (wy.heap[gr]? = some (.cells #[.int .i64 0, .int .i64 0, .int .i64 0, .string (⟨#[]⟩ : ByteArray), .string (⟨#[]⟩ : ByteArray), .bool false, .int .i64 0, .int .i64 0, .string (⟨#[]⟩ : ByteArray), .string (⟨#[]⟩ : ByteArray), .int .i64 0, .string (⟨#[]⟩ : ByteArray), .slice none 0 0, .int .i64 0, .int .i64 0, .int .i64 0, .int .i64 0, .int .i64 0, .int .i64 0, .int .i64 0, .string (⟨#[]⟩ : ByteArray)] 34 (0, 0))) := ⟨by rw [e0]; exact zP⟩
    replace BX : Aside0 (wy.heap[gx]? = some (.cells #[.int .i64 a0_0, .int .i64 0, .int .i64 0, .string (⟨#[]⟩ : ByteArray), .string (⟨#[]⟩ : ByteArray), .bool false, .int .i64 0, .int .i64 0, .string (⟨#[]⟩ : ByteArray), .string (⟨#[]⟩ : ByteArray), .int .i64 0, .string (⟨#[]⟩ : ByteArray), .slice none 0 0, .int .i64 a0_13, .int .i64 a0_14, .int .i64 a0_15, .int .i64 a0_16, .int .i64 a0_17, .int .i64 a0_18, .int .i64 a0_19, .string a0_20] 34 (0, 0))) := ⟨by rw [e0]; exact zP⟩
    replace HB : Aside0 (Below w.heap.size w wy) := ⟨by rw [e0]; exact zB⟩
    clear e0
    clear p13 p14 p15 p16 p17 p18 p19 p20 q13 q14 q15 q16 q17 q18 q19 q20 f13 f14 f15 f16 f17 f18 f19 f20
    go_wp2_with (first | ((with_reducible refine gate_dst (N := 56) rfl ?_); refine wpList_load_row rfl 34 (.tmp 3) rfl gx rfl 34 _ (0, 0) _ BX.out hu34 rfl (by kernel_rfl) ?_) | ((with_reducible refine gate_store (t := 34) (p := 2) rfl ?_); refine store_ev rfl 34 (.tmp 2) (.tmp 56) rfl gr #[.int .i64 a0_0, .int .i64 0, .int .i64 0, .string (⟨#[]⟩ : ByteArray), .string (⟨#[]⟩ : ByteArray), .bool false, .int .i64 0, .int .i64 0, .string (⟨#[]⟩ : ByteArray), .string (⟨#[]⟩ : ByteArray), .int .i64 0, .string (⟨#[]⟩ : ByteArray), .slice none 0 0, .int .i64 a0_13, .int .i64 a0_14, .int .i64 a0_15, .int .i64 a0_16, .int .i64 a0_17, .int .i64 a0_18, .int .i64 a0_19, .string a0_20] rfl (by first | rfl | (go_simp; done) | (go_simp; rfl)) 34 _ BR.out (by kernel_rfl) rfl (by first | rfl | (simp; done) | (simp [Value.oneCell']; done)) ?_; intro wz hx1 hx2 hx3; replace BR := Aside0.mk hx1; replace HB := Aside0.mk (hx3 _ _ HB.out GR.out); clear hx1 hx2 hx3))
    refine bodyPost_ret (results_cell_row rfl _ _ gr 34 #[.int .i64 a0_0, .int .i64 0, .int .i64 0, .string (⟨#[]⟩ : ByteArray), .string (⟨#[]⟩ : ByteArray), .bool false, .int .i64 0, .int .i64 0, .string (⟨#[]⟩ : ByteArray), .string (⟨#[]⟩ : ByteArray), .int .i64 0, .string (⟨#[]⟩ : ByteArray), .slice none 0 0, .int .i64 a0_13, .int .i64 a0_14, .int .i64 a0_15, .int .i64 a0_16, .int .i64 a0_17, .int .i64 a0_18, .int .i64 a0_19, .string a0_20] (0, 0) _ rfl BR.out hu34 rfl (by kernel_rfl)) rfl ?_
    exact ⟨none, 0, rfl, Kd.C_nil _ _, Nat.le_refl _, HB.out⟩
  have h := H.out
  unfold wire_only.o at h
  rw [if_neg c1] at h
  rw [if_neg c2] at h
  rw [if_neg c3] at h
  rw [if_neg c6] at h
  rw [if_neg c7] at h
  rw [if_neg c8] at h
  rw [if_neg c9] at h
  simp only [Prod.mk.injEq] at h
  obtain ⟨rfl, rfl, rfl, rfl, rfl, rfl, rfl, rfl, rfl, rfl, rfl, rfl, rfl, rfl, rfl, rfl, rfl, rfl, rfl, rfl, rfl⟩ := h
  clear H
  have t1 : (a0_0 == 1) = false := beq_eq_false_iff_ne.mpr c1
  have t2 : (a0_0 == 2) = false := beq_eq_false_iff_ne.mpr c2
  have t3 : (a0_0 == 3) = false := beq_eq_false_iff_ne.mpr c3
  have t6 : (a0_0 == 6) = false := beq_eq_false_iff_ne.mpr c6
  have t7 : (a0_0 == 7) = false := beq_eq_false_iff_ne.mpr c7
  have t8 : (a0_0 == 8) = false := beq_eq_false_iff_ne.mpr c8
  have t9 : (a0_0 == 9) = false := beq_eq_false_iff_ne.mpr c9
  clear c1 c2 c3 c6 c7 c8 c9
  go_upto_region 17 with fail
  go_wp2_with (first | ((with_reducible refine gate_dst (N := 56) rfl ?_); refine wpList_load_row rfl 34 (.tmp 3) rfl gx rfl 34 _ (0, 0) _ BX.out hu34 rfl (by kernel_rfl) ?_) | ((with_reducible refine gate_store (t := 34) (p := 2) rfl ?_); refine store_ev rfl 34 (.tmp 2) (.tmp 56) rfl gr #[.int .i64 a0_0, .int .i64 0, .int .i64 0, .string (⟨#[]⟩ : ByteArray), .string (⟨#[]⟩ : ByteArray), .bool false, .int .i64 0, .int .i64 0, .string (⟨#[]⟩ : ByteArray), .string (⟨#[]⟩ : ByteArray), .int .i64 0, .string (⟨#[]⟩ : ByteArray), .slice none 0 0, .int .i64 0, .int .i64 0, .int .i64 0, .int .i64 0, .int .i64 0, .int .i64 0, .int .i64 0, .string (⟨#[]⟩ : ByteArray)] rfl (by first | rfl | (go_simp; done) | (go_simp; rfl)) 34 _ BR.out (by kernel_rfl) rfl (by first | rfl | (simp; done) | (simp [Value.oneCell']; done)) ?_; intro wz hx1 hx2 hx3; replace BR := Aside0.mk hx1; replace HB := Aside0.mk (hx3 _ _ HB.out GR.out); clear hx1 hx2 hx3))
  refine bodyPost_ret (results_cell_row rfl _ _ gr 34 #[.int .i64 a0_0, .int .i64 0, .int .i64 0, .string (⟨#[]⟩ : ByteArray), .string (⟨#[]⟩ : ByteArray), .bool false, .int .i64 0, .int .i64 0, .string (⟨#[]⟩ : ByteArray), .string (⟨#[]⟩ : ByteArray), .int .i64 0, .string (⟨#[]⟩ : ByteArray), .slice none 0 0, .int .i64 0, .int .i64 0, .int .i64 0, .int .i64 0, .int .i64 0, .int .i64 0, .int .i64 0, .string (⟨#[]⟩ : ByteArray)] (0, 0) _ rfl BR.out hu34 rfl (by kernel_rfl)) rfl ?_
  exact ⟨none, 0, rfl, Kd.C_nil _ _, Nat.le_refl _, HB.out⟩
/-! ### wire_Check: function 12 -/
def wire_Check.f (k : Nat) (a0_0 : Int) (a0_1 : Int) (a0_2 : Int) (a0_3 : ByteArray) (a0_4 : ByteArray) (a0_5 : Bool) (a0_6 : Int) (a0_7 : Int) (a0_8 : ByteArray) (a0_9 : ByteArray) (a0_10 : Int) (a0_11 : ByteArray) (l0_12 : List ByteArray) (a0_13 : Int) (a0_14 : Int) (a0_15 : Int) (a0_16 : Int) (a0_17 : Int) (a0_18 : Int) (a0_19 : Int) (a0_20 : ByteArray) : Option Bool :=
  (wire_filled.f k a0_0 a0_1 a0_2 a0_3 a0_4 a0_5 a0_6 a0_7 a0_8 a0_9 a0_10 a0_11 l0_12 a0_13 a0_14 a0_15 a0_16 a0_17 a0_18 a0_19 a0_20).bind fun t => if t = true then (some (wire_only.o a0_0 a0_1 a0_2 a0_3 a0_4 a0_5 a0_6 a0_7 a0_8 a0_9 a0_10 a0_11 l0_12 a0_13 a0_14 a0_15 a0_16 a0_17 a0_18 a0_19 a0_20)).bind fun b => wire_Same.f k a0_0 a0_1 a0_2 a0_3 a0_4 a0_5 a0_6 a0_7 a0_8 a0_9 a0_10 a0_11 l0_12 a0_13 a0_14 a0_15 a0_16 a0_17 a0_18 a0_19 a0_20 b.1 b.2.1 b.2.2.1 b.2.2.2.1 b.2.2.2.2.1 b.2.2.2.2.2.1 b.2.2.2.2.2.2.1 b.2.2.2.2.2.2.2.1 b.2.2.2.2.2.2.2.2.1 b.2.2.2.2.2.2.2.2.2.1 b.2.2.2.2.2.2.2.2.2.2.1 b.2.2.2.2.2.2.2.2.2.2.2.1 b.2.2.2.2.2.2.2.2.2.2.2.2.1 b.2.2.2.2.2.2.2.2.2.2.2.2.2.1 b.2.2.2.2.2.2.2.2.2.2.2.2.2.2.1 b.2.2.2.2.2.2.2.2.2.2.2.2.2.2.2.1 b.2.2.2.2.2.2.2.2.2.2.2.2.2.2.2.2.1 b.2.2.2.2.2.2.2.2.2.2.2.2.2.2.2.2.2.1 b.2.2.2.2.2.2.2.2.2.2.2.2.2.2.2.2.2.2.1 b.2.2.2.2.2.2.2.2.2.2.2.2.2.2.2.2.2.2.2.1 b.2.2.2.2.2.2.2.2.2.2.2.2.2.2.2.2.2.2.2.2 else some false
theorem wire_Check.mono : ∀ a0_0 a0_1 a0_2 a0_3 a0_4 a0_5 a0_6 a0_7 a0_8 a0_9 a0_10 a0_11 l0_12 a0_13 a0_14 a0_15 a0_16 a0_17 a0_18 a0_19 a0_20 k, LeO (wire_Check.f k a0_0 a0_1 a0_2 a0_3 a0_4 a0_5 a0_6 a0_7 a0_8 a0_9 a0_10 a0_11 l0_12 a0_13 a0_14 a0_15 a0_16 a0_17 a0_18 a0_19 a0_20) (wire_Check.f (k + 1) a0_0 a0_1 a0_2 a0_3 a0_4 a0_5 a0_6 a0_7 a0_8 a0_9 a0_10 a0_11 l0_12 a0_13 a0_14 a0_15 a0_16 a0_17 a0_18 a0_19 a0_20) := by
  intro a0_0 a0_1 a0_2 a0_3 a0_4 a0_5 a0_6 a0_7 a0_8 a0_9 a0_10 a0_11 l0_12 a0_13 a0_14 a0_15 a0_16 a0_17 a0_18 a0_19 a0_20 k
  unfold wire_Check.f
  exact LeO.bind (by apply wire_filled.mono) (fun _ => LeO.ite (LeO.bind (LeO.refl _) (fun _ => by apply wire_Same.mono)) (LeO.refl _))
set_option maxHeartbeats 8000000 in
set_option maxRecDepth 100000 in
theorem wire_Check.calls (k : Nat) (a0_0 : Int) (a0_1 : Int) (a0_2 : Int) (a0_3 : ByteArray) (a0_4 : ByteArray) (a0_5 : Bool) (a0_6 : Int) (a0_7 : Int) (a0_8 : ByteArray) (a0_9 : ByteArray) (a0_10 : Int) (a0_11 : ByteArray) (A0_12 : Option Addr) (c0_12 : Nat) (l0_12 : List ByteArray) (a0_13 : Int) (a0_14 : Int) (a0_15 : Int) (a0_16 : Int) (a0_17 : Int) (a0_18 : Int) (a0_19 : Int) (a0_20 : ByteArray) (r : Bool) (w : World) (hr0_12 : Kd.C Kd.string w A0_12 l0_12.length l0_12) (hc0_12 : l0_12.length ≤ c0_12) (h : wire_Check.f k a0_0 a0_1 a0_2 a0_3 a0_4 a0_5 a0_6 a0_7 a0_8 a0_9 a0_10 a0_11 l0_12 a0_13 a0_14 a0_15 a0_16 a0_17 a0_18 a0_19 a0_20 = some r) :
    Calls Try.prog 12 #[.agg #[.int .i64 a0_0, .int .i64 a0_1, .int .i64 a0_2, .string a0_3, .string a0_4, .bool a0_5, .int .i64 a0_6, .int .i64 a0_7, .string a0_8, .string a0_9, .int .i64 a0_10, .string a0_11, .slice A0_12 l0_12.length c0_12, .int .i64 a0_13, .int .i64 a0_14, .int .i64 a0_15, .int .i64 a0_16, .int .i64 a0_17, .int .i64 a0_18, .int .i64 a0_19, .string a0_20]] w fun e w' => e = .returned (.bool r) ∧ Below w.heap.size w w' := by
  have hu34 := Try.underlying34
  have hu23 := Try.underlying23
  have hu25 := Try.underlying25
  have hu32 := Try.underlying32
  have HR := Aside0.mk hr0_12
  have HC := Aside0.mk hc0_12
  have HB := Aside0.mk (Below.refl w.heap.size w)
  clear hr0_12 hc0_12
  unfold wire_Check.f at h
  obtain ⟨t, A1, h⟩ := Option.bind_eq_some_iff.mp h
  have A1 := Aside0.mk A1
  cases t with
  | false =>
    rw [if_neg (by decide)] at h
    obtain rfl := Option.some.inj h
    clear h
    go_enter Try.func12, Try.ntmps12
    go_wp2_with (first | ((with_reducible refine gate_dst (N := 1) rfl ?_); refine box_event ?hg (N := 1) ?hd (cs := #[.int .i64 a0_0, .int .i64 a0_1, .int .i64 a0_2, .string a0_3, .string a0_4, .bool a0_5, .int .i64 a0_6, .int .i64 a0_7, .string a0_8, .string a0_9, .int .i64 a0_10, .string a0_11, .slice A0_12 l0_12.length c0_12, .int .i64 a0_13, .int .i64 a0_14, .int .i64 a0_15, .int .i64 a0_16, .int .i64 a0_17, .int .i64 a0_18, .int .i64 a0_19, .string a0_20]) (t := 34) ?hr ?_; (case hd => rfl); (case hg => rfl); (case hr => first | (go_simp; done) | (go_simp; rfl)); intro gb hg w2 hbox hb; have BM := Aside0.mk hbox; replace HB := Aside0.mk (below_step zB hb); clear hb hbox hg))
    replace BM := Aside0.mk (blk_drew BM.out)
    replace HB := Aside0.mk (below_drew1 HB.out)
    refine start_ (n := 9) (S := fun w' => w'.heap[gb]? = some (.cells #[.int .i64 a0_0, .int .i64 a0_1, .int .i64 a0_2, .string a0_3, .string a0_4, .bool a0_5, .int .i64 a0_6, .int .i64 a0_7, .string a0_8, .string a0_9, .int .i64 a0_10, .string a0_11, .slice A0_12 l0_12.length c0_12, .int .i64 a0_13, .int .i64 a0_14, .int .i64 a0_15, .int .i64 a0_16, .int .i64 a0_17, .int .i64 a0_18, .int .i64 a0_19, .string a0_20] 34 (0, 0))) (ds := []) #[false, false, false, false, false, false, false, false, false] (by kernel_rfl) rfl rfl (BM.out) (fun hHeld => ?_)
    refine take_ (i := 0) (N := some 3) (v := ?_) (a' := ?_) #[true, false, false, false, false, false, false, false, false] rfl rfl (by kernel_rfl) (fun _ _ _ h => h) (Or.inl ⟨by rfl, ?_⟩) hHeld ?_ ?_
    rotate_left
    · intro w' s0; refine Eq.trans (row_load 34 (.tmp 1) (by rfl) gb (by rfl) s0 hu34 rfl (by kernel_rfl)) ?_; with_reducible rfl
    rotate_left
    · simp only [Act.put, List.setIfInBounds_toArray, List.set_cons_zero, List.set_cons_succ, i64_w, i32_w]
      rfl
    refine one_ (i := 1) (N := some 4) #[true, true, false, false, false, false, false, false, false] rfl rfl (by kernel_rfl) (by decide) (fun K hK => ?_)
    refine goes_ Try.func28 (by kernel_rfl) rfl #[.agg #[.int .i64 a0_0, .int .i64 a0_1, .int .i64 a0_2, .string a0_3, .string a0_4, .bool a0_5, .int .i64 a0_6, .int .i64 a0_7, .string a0_8, .string a0_9, .int .i64 a0_10, .string a0_11, .slice A0_12 l0_12.length c0_12, .int .i64 a0_13, .int .i64 a0_14, .int .i64 a0_15, .int .i64 a0_16, .int .i64 a0_17, .int .i64 a0_18, .int .i64 a0_19, .string a0_20]] (by rfl) rfl rfl (by simp only [List.map_toArray, List.map_cons, List.map_nil]; rfl) ?_
    with_reducible refine (wire_filled.calls k a0_0 a0_1 a0_2 a0_3 a0_4 a0_5 a0_6 a0_7 a0_8 a0_9 a0_10 a0_11 A0_12 c0_12 l0_12 a0_13 a0_14 a0_15 a0_16 a0_17 a0_18 a0_19 a0_20 false _ (Kd.C_below HR.out HB.out) HC.out A1.out).mono ?_
    rintro e w4 ⟨rfl, hb⟩
    refine ⟨_, rfl, ?_⟩
    replace BM := Aside0.mk (blk_below BM.out hb)
    replace HB := Aside0.mk (below_step HB.out hb)
    clear hb
    refine hK.out _ _ (BM.out) (fun hHeld => ?_)
    clear hK K
    refine norm_ (a' := ?_) ?_ ?_
    rotate_left
    · show Act.put _ (some 4) _ = _
      simp only [Act.put, List.setIfInBounds_toArray, List.set_cons_zero, List.set_cons_succ, i64_w, i32_w]
      rfl
    refine pure_ (i := 2) (N := some 5) (v := ?_) (a' := ?_) #[true, true, true, false, false, false, false, false, false] rfl rfl (by kernel_rfl) (fun _ _ _ h => h) (Or.inl ⟨by rfl, ?_⟩) ?_ ?_
    rotate_left
    · intro w'
      go_simp
      with_reducible rfl
    rotate_left
    · simp only [Act.put, List.setIfInBounds_toArray, List.set_cons_zero, List.set_cons_succ, i64_w, i32_w]
      rfl
    refine pure_ (i := 3) (N := some 6) (v := undef) (a' := ?_) #[true, true, true, true, false, false, false, false, false] rfl rfl (by kernel_rfl) (fun _ _ _ h => h) (Or.inr ⟨by rfl, rfl⟩) ?_ ?_
    rotate_left
    · simp only [Act.put, List.setIfInBounds_toArray, List.set_cons_zero, List.set_cons_succ, i64_w, i32_w]
      rfl
    refine pure_ (i := 4) (N := some 7) (v := undef) (a' := ?_) #[true, true, true, true, true, false, false, false, false] rfl rfl (by kernel_rfl) (fun _ _ _ h => h) (Or.inr ⟨by rfl, rfl⟩) ?_ ?_
    rotate_left
    · simp only [Act.put, List.setIfInBounds_toArray, List.set_cons_zero, List.set_cons_succ, i64_w, i32_w]
      rfl
    refine pure_ (i := 5) (N := some 8) (v := undef) (a' := ?_) #[true, true, true, true, true, true, false, false, false] rfl rfl (by kernel_rfl) (fun _ _ _ h => h) (Or.inr ⟨by rfl, rfl⟩) ?_ ?_
    rotate_left
    · simp only [Act.put, List.setIfInBounds_toArray, List.set_cons_zero, List.set_cons_succ, i64_w, i32_w]
      rfl
    refine pure_ (i := 6) (N := some 9) (v := undef) (a' := ?_) #[true, true, true, true, true, true, true, false, false] rfl rfl (by kernel_rfl) (fun _ _ _ h => h) (Or.inr ⟨by rfl, rfl⟩) ?_ ?_
    rotate_left
    · simp only [Act.put, List.setIfInBounds_toArray, List.set_cons_zero, List.set_cons_succ, i64_w, i32_w]
      rfl
    refine pure_ (i := 7) (N := some 10) (v := ?_) (a' := ?_) #[true, true, true, true, true, true, true, true, false] rfl rfl (by kernel_rfl) (fun _ _ _ h => h) (Or.inl ⟨by rfl, ?_⟩) ?_ ?_
    rotate_left
    · intro w'
      go_simp
      with_reducible rfl
    rotate_left
    · simp only [Act.put, List.setIfInBounds_toArray, List.set_cons_zero, List.set_cons_succ, i64_w, i32_w]
      rfl
    refine pure_ (i := 8) (N := some 2) (v := ?_) (a' := ?_) #[true, true, true, true, true, true, true, true, true] rfl rfl (by kernel_rfl) (fun _ _ _ h => h) (Or.inl ⟨by rfl, ?_⟩) ?_ ?_
    rotate_left
    · intro w'
      go_simp
      with_reducible rfl
    rotate_left
    · simp only [Act.put, List.setIfInBounds_toArray, List.set_cons_zero, List.set_cons_succ, i64_w, i32_w]
      rfl
    refine done_ (by kernel_rfl) ?_
    go_wp2_with fail
    go_ret
    exact ⟨rfl, zB⟩
  | true =>
    rw [if_pos rfl, Option.bind_some] at h
    obtain ⟨r0, r1, r2, r3, r4, r5, r6, r7, r8, r9, r10, r11, r12, r13, r14, r15, r16, r17, r18, r19, r20, ho⟩ : ∃ r0 r1 r2 r3 r4 r5 r6 r7 r8 r9 r10 r11 r12 r13 r14 r15 r16 r17 r18 r19 r20, wire_only.o a0_0 a0_1 a0_2 a0_3 a0_4 a0_5 a0_6 a0_7 a0_8 a0_9 a0_10 a0_11 l0_12 a0_13 a0_14 a0_15 a0_16 a0_17 a0_18 a0_19 a0_20 = (r0, r1, r2, r3, r4, r5, r6, r7, r8, r9, r10, r11, r12, r13, r14, r15, r16, r17, r18, r19, r20) := ⟨_, _, _, _, _, _, _, _, _, _, _, _, _, _, _, _, _, _, _, _, _, rfl⟩
    rw [ho] at h
    have AO := Aside0.mk ho
    have AS := Aside0.mk h
    clear ho h
    go_enter Try.func12, Try.ntmps12
    go_wp2_with (first | ((with_reducible refine gate_dst (N := 1) rfl ?_); refine box_event ?hg (N := 1) ?hd (cs := #[.int .i64 a0_0, .int .i64 a0_1, .int .i64 a0_2, .string a0_3, .string a0_4, .bool a0_5, .int .i64 a0_6, .int .i64 a0_7, .string a0_8, .string a0_9, .int .i64 a0_10, .string a0_11, .slice A0_12 l0_12.length c0_12, .int .i64 a0_13, .int .i64 a0_14, .int .i64 a0_15, .int .i64 a0_16, .int .i64 a0_17, .int .i64 a0_18, .int .i64 a0_19, .string a0_20]) (t := 34) ?hr ?_; (case hd => rfl); (case hg => rfl); (case hr => first | (go_simp; done) | (go_simp; rfl)); intro gb hg w2 hbox hb; have BM := Aside0.mk hbox; replace HB := Aside0.mk (below_step zB hb); clear hb hbox hg))
    replace BM := Aside0.mk (blk_drew BM.out)
    replace HB := Aside0.mk (below_drew1 HB.out)
    refine start_ (n := 9) (S := fun w' => w'.heap[gb]? = some (.cells #[.int .i64 a0_0, .int .i64 a0_1, .int .i64 a0_2, .string a0_3, .string a0_4, .bool a0_5, .int .i64 a0_6, .int .i64 a0_7, .string a0_8, .string a0_9, .int .i64 a0_10, .string a0_11, .slice A0_12 l0_12.length c0_12, .int .i64 a0_13, .int .i64 a0_14, .int .i64 a0_15, .int .i64 a0_16, .int .i64 a0_17, .int .i64 a0_18, .int .i64 a0_19, .string a0_20] 34 (0, 0))) (ds := []) #[false, false, false, false, false, false, false, false, false] (by kernel_rfl) rfl rfl (BM.out) (fun hHeld => ?_)
    refine take_ (i := 0) (N := some 3) (v := ?_) (a' := ?_) #[true, false, false, false, false, false, false, false, false] rfl rfl (by kernel_rfl) (fun _ _ _ h => h) (Or.inl ⟨by rfl, ?_⟩) hHeld ?_ ?_
    rotate_left
    · intro w' s0; refine Eq.trans (row_load 34 (.tmp 1) (by rfl) gb (by rfl) s0 hu34 rfl (by kernel_rfl)) ?_; with_reducible rfl
    rotate_left
    · simp only [Act.put, List.setIfInBounds_toArray, List.set_cons_zero, List.set_cons_succ, i64_w, i32_w]
      rfl
    refine one_ (i := 1) (N := some 4) #[true, true, false, false, false, false, false, false, false] rfl rfl (by kernel_rfl) (by decide) (fun K hK => ?_)
    refine goes_ Try.func28 (by kernel_rfl) rfl #[.agg #[.int .i64 a0_0, .int .i64 a0_1, .int .i64 a0_2, .string a0_3, .string a0_4, .bool a0_5, .int .i64 a0_6, .int .i64 a0_7, .string a0_8, .string a0_9, .int .i64 a0_10, .string a0_11, .slice A0_12 l0_12.length c0_12, .int .i64 a0_13, .int .i64 a0_14, .int .i64 a0_15, .int .i64 a0_16, .int .i64 a0_17, .int .i64 a0_18, .int .i64 a0_19, .string a0_20]] (by rfl) rfl rfl (by simp only [List.map_toArray, List.map_cons, List.map_nil]; rfl) ?_
    with_reducible refine (wire_filled.calls k a0_0 a0_1 a0_2 a0_3 a0_4 a0_5 a0_6 a0_7 a0_8 a0_9 a0_10 a0_11 A0_12 c0_12 l0_12 a0_13 a0_14 a0_15 a0_16 a0_17 a0_18 a0_19 a0_20 true _ (Kd.C_below HR.out HB.out) HC.out A1.out).mono ?_
    rintro e w4 ⟨rfl, hb⟩
    refine ⟨_, rfl, ?_⟩
    replace BM := Aside0.mk (blk_below BM.out hb)
    replace HB := Aside0.mk (below_step HB.out hb)
    clear hb
    refine hK.out _ _ (BM.out) (fun hHeld => ?_)
    clear hK K
    refine norm_ (a' := ?_) ?_ ?_
    rotate_left
    · show Act.put _ (some 4) _ = _
      simp only [Act.put, List.setIfInBounds_toArray, List.set_cons_zero, List.set_cons_succ, i64_w, i32_w]
      rfl
    refine pure_ (i := 2) (N := some 5) (v := ?_) (a' := ?_) #[true, true, true, false, false, false, false, false, false] rfl rfl (by kernel_rfl) (fun _ _ _ h => h) (Or.inl ⟨by rfl, ?_⟩) ?_ ?_
    rotate_left
    · intro w'
      go_simp
      with_reducible rfl
    rotate_left
    · simp only [Act.put, List.setIfInBounds_toArray, List.set_cons_zero, List.set_cons_succ, i64_w, i32_w]
      rfl
    refine take_ (i := 3) (N := some 6) (v := ?_) (a' := ?_) #[true, true, true, true, false, false, false, false, false] rfl rfl (by kernel_rfl) (fun _ _ _ h => h) (Or.inl ⟨by rfl, ?_⟩) hHeld ?_ ?_
    rotate_left
    · intro w' s0; refine Eq.trans (row_load 34 (.tmp 1) (by rfl) gb (by rfl) s0 hu34 rfl (by kernel_rfl)) ?_; with_reducible rfl
    rotate_left
    · simp only [Act.put, List.setIfInBounds_toArray, List.set_cons_zero, List.set_cons_succ, i64_w, i32_w]
      rfl
    refine take_ (i := 4) (N := some 7) (v := ?_) (a' := ?_) #[true, true, true, true, true, false, false, false, false] rfl rfl (by kernel_rfl) (fun _ _ _ h => h) (Or.inl ⟨by rfl, ?_⟩) hHeld ?_ ?_
    rotate_left
    · intro w' s0; refine Eq.trans (row_load 34 (.tmp 1) (by rfl) gb (by rfl) s0 hu34 rfl (by kernel_rfl)) ?_; with_reducible rfl
    rotate_left
    · simp only [Act.put, List.setIfInBounds_toArray, List.set_cons_zero, List.set_cons_succ, i64_w, i32_w]
      rfl
    refine one_ (i := 5) (N := some 8) #[true, true, true, true, true, true, false, false, false] rfl rfl (by kernel_rfl) (by decide) (fun K hK => ?_)
    refine goes_ Try.func29 (by kernel_rfl) rfl #[.agg #[.int .i64 a0_0, .int .i64 a0_1, .int .i64 a0_2, .string a0_3, .string a0_4, .bool a0_5, .int .i64 a0_6, .int .i64 a0_7, .string a0_8, .string a0_9, .int .i64 a0_10, .string a0_11, .slice A0_12 l0_12.length c0_12, .int .i64 a0_13, .int .i64 a0_14, .int .i64 a0_15, .int .i64 a0_16, .int .i64 a0_17, .int .i64 a0_18, .int .i64 a0_19, .string a0_20]] (by rfl) rfl rfl (by simp only [List.map_toArray, List.map_cons, List.map_nil]; rfl) ?_
    with_reducible refine (wire_only.gives a0_0 a0_1 a0_2 a0_3 a0_4 a0_5 a0_6 a0_7 a0_8 a0_9 a0_10 a0_11 A0_12 c0_12 l0_12 a0_13 a0_14 a0_15 a0_16 a0_17 a0_18 a0_19 a0_20 r0 r1 r2 r3 r4 r5 r6 r7 r8 r9 r10 r11 r12 r13 r14 r15 r16 r17 r18 r19 r20 _ (Kd.C_below HR.out HB.out) HC.out AO.out).mono ?_
    rintro e w5 ⟨A2, c2, rfl, hr2, hc2, hb⟩
    refine ⟨_, rfl, ?_⟩
    have HR2 := Aside0.mk (Kd.C_below hr2 hb)
    have HC2 := Aside0.mk hc2
    clear hr2 hc2
    replace BM := Aside0.mk (blk_below BM.out hb)
    replace HB := Aside0.mk (below_step HB.out hb)
    clear hb
    refine hK.out _ _ (BM.out) (fun hHeld => ?_)
    clear hK K
    refine norm_ (a' := ?_) ?_ ?_
    rotate_left
    · show Act.put _ (some 8) _ = _
      simp only [Act.put, List.setIfInBounds_toArray, List.set_cons_zero, List.set_cons_succ, i64_w, i32_w]
      rfl
    refine one_ (i := 6) (N := some 9) #[true, true, true, true, true, true, true, false, false] rfl rfl (by kernel_rfl) (by decide) (fun K hK => ?_)
    refine goes_ Try.func13 (by kernel_rfl) rfl #[.agg #[.int .i64 a0_0, .int .i64 a0_1, .int .i64 a0_2, .string a0_3, .string a0_4, .bool a0_5, .int .i64 a0_6, .int .i64 a0_7, .string a0_8, .string a0_9, .int .i64 a0_10, .string a0_11, .slice A0_12 l0_12.length c0_12, .int .i64 a0_13, .int .i64 a0_14, .int .i64 a0_15, .int .i64 a0_16, .int .i64 a0_17, .int .i64 a0_18, .int .i64 a0_19, .string a0_20], .agg #[.int .i64 r0, .int .i64 r1, .int .i64 r2, .string r3, .string r4, .bool r5, .int .i64 r6, .int .i64 r7, .string r8, .string r9, .int .i64 r10, .string r11, .slice A2 r12.length c2, .int .i64 r13, .int .i64 r14, .int .i64 r15, .int .i64 r16, .int .i64 r17, .int .i64 r18, .int .i64 r19, .string r20]] (by rfl) rfl rfl (by simp only [List.map_toArray, List.map_cons, List.map_nil]; rfl) ?_
    with_reducible refine (wire_Same.calls k a0_0 a0_1 a0_2 a0_3 a0_4 a0_5 a0_6 a0_7 a0_8 a0_9 a0_10 a0_11 A0_12 c0_12 l0_12 a0_13 a0_14 a0_15 a0_16 a0_17 a0_18 a0_19 a0_20 r0 r1 r2 r3 r4 r5 r6 r7 r8 r9 r10 r11 A2 c2 r12 r13 r14 r15 r16 r17 r18 r19 r20 r _ (Kd.C_below HR.out HB.out) HC.out HR2.out HC2.out AS.out).mono ?_
    rintro e w6 ⟨rfl, hb⟩
    refine ⟨_, rfl, ?_⟩
    replace BM := Aside0.mk (blk_below BM.out hb)
    replace HB := Aside0.mk (below_step HB.out hb)
    clear hb
    refine hK.out _ _ (BM.out) (fun hHeld => ?_)
    clear hK K
    refine norm_ (a' := ?_) ?_ ?_
    rotate_left
    · show Act.put _ (some 9) _ = _
      simp only [Act.put, List.setIfInBounds_toArray, List.set_cons_zero, List.set_cons_succ, i64_w, i32_w]
      rfl
    refine pure_ (i := 7) (N := some 10) (v := ?_) (a' := ?_) #[true, true, true, true, true, true, true, true, false] rfl rfl (by kernel_rfl) (fun _ _ _ h => h) (Or.inl ⟨by rfl, ?_⟩) ?_ ?_
    rotate_left
    · intro w'
      go_simp
      with_reducible rfl
    rotate_left
    · simp only [Act.put, List.setIfInBounds_toArray, List.set_cons_zero, List.set_cons_succ, i64_w, i32_w]
      rfl
    refine pure_ (i := 8) (N := some 2) (v := ?_) (a' := ?_) #[true, true, true, true, true, true, true, true, true] rfl rfl (by kernel_rfl) (fun _ _ _ h => h) (Or.inl ⟨by rfl, ?_⟩) ?_ ?_
    rotate_left
    · intro w'
      go_simp
      with_reducible rfl
    rotate_left
    · simp only [Act.put, List.setIfInBounds_toArray, List.set_cons_zero, List.set_cons_succ, i64_w, i32_w]
      rfl
    refine done_ (by kernel_rfl) ?_
    go_wp2_with fail
    go_ret
    exact ⟨rfl, zB⟩
/-! ### oct_To: function 21 -/
theorem oct_To.wr (w : World) :
    Calls Try.prog 21 #[] w fun e w' => e = .returned (.pointer (some ⟨w.heap.size, 0, none⟩)) ∧ IsWr 99 5 w.heap.size w.heap.size (.slice none 0 0) ⟨#[]⟩ 0 w' ∧ Below w.heap.size w w' ∧ w'.heap.size = w.heap.size + 1 := by
  go_enter Try.func21, Try.ntmps21
  go_wp2
  go_ret
  refine ⟨rfl, ⟨.pointer none, .inl rfl, Nat.le_refl _, ?_, ?_, ?_⟩, below_alloc (Below.refl _ _) _, by simp⟩
  · exact heap_alloc_new w _
  · exact ⟨rfl, .inl ⟨rfl, rfl⟩⟩
  · simp [Value.ownBlock]
/-! ### strings_Builder_Len: function 70 -/
set_option maxHeartbeats 1000000 in
theorem strings_Builder_Len.wr (B g : Nat) (p v : Value) (s : ByteArray) (er : Int) (w : World) (h : WrAt 99 5 B g p v s er w) :
    Calls Try.prog 70 #[.pointer (some ⟨g, 0, none⟩)] w fun e w' => e = .returned (.int .i64 s.size) ∧ w' = w := by
  have c1 := h.cell1
  obtain ⟨ao, c, hv⟩ : ∃ ao c, v = .slice ao s.size c := by
    rcases h.2.2.1.2 with ⟨hv, hn⟩ | ⟨g', cap, cur, fz, hv, _⟩
    · exact ⟨none, 0, by rw [hv, hn]⟩
    · exact ⟨_, _, hv⟩
  rw [hv] at c1
  clear hv
  go_enter Try.func70, Try.ntmps70
  go_wp2
  go_ret
  exact ⟨rfl, rfl⟩
/-! ### strings_Builder_copyCheck: function 79 -/
set_option maxHeartbeats 1000000 in
set_option maxRecDepth 100000 in
theorem strings_Builder_copyCheck.used (B g : Nat) (v : Value) (s : ByteArray) (er : Int) (w : World) (h : WrAt 99 5 B g (.pointer (some ⟨g, 0, none⟩)) v s er w) :
    Calls Try.prog 79 #[.pointer (some ⟨g, 0, none⟩)] w fun e w' => e = .returned (.tuple #[]) ∧ w' = w := by
  obtain ⟨j, hj, hjs⟩ := Option.map_eq_some_iff.1 (show (Try.prog.info? 97).map (·.size) = some 2 by kernel_rfl)
  have h0 := h.cell0
  go_enter Try.func79, Try.ntmps79
  go_wp2
  rw [Lib.run_neq_ptr_same w _ Try.underlying94 hj]
  go_wp2
  go_end0
  exact ⟨rfl, rfl⟩
set_option maxHeartbeats 1000000 in
set_option maxRecDepth 100000 in
theorem strings_Builder_copyCheck.fresh (B g : Nat) (v : Value) (s : ByteArray) (er : Int) (w : World) (h : WrAt 99 5 B g (.pointer none) v s er w) :
    Calls Try.prog 79 #[.pointer (some ⟨g, 0, none⟩)] w fun e w' => e = .returned (.tuple #[]) ∧ w' = w.setCell ⟨g, 0, none⟩ (.pointer (some ⟨g, 0, none⟩)) := by
  obtain ⟨j, hj, hjs⟩ := Option.map_eq_some_iff.1 (show (Try.prog.info? 97).map (·.size) = some 2 by kernel_rfl)
  have h0 := h.cell0
  have hsh := h.shape
  have hfz := h.frozen 0
  go_enter Try.func79, Try.ntmps79
  go_wp2
  rw [Lib.run_to_unsafe w ⟨g, 0, none⟩ Try.underlying94 Try.underlying131 hj (by rw [hjs]; decide) hsh (Nat.zero_lt_succ 2)]
  simp only [Result.andThen]
  rw [Oper.upon_value]
  go_wp2
  rw [run_callFunc_extern Try.func84 (by kernel_rfl) (by kernel_rfl) (by kernel_rfl) (e := Extern.AbiNoEscape.same) (by kernel_rfl)]
  rw [Lib.run_noEscape]
  simp only [Result.andThen]
  rw [Oper.upon_value]
  go_wp2
  rw [Lib.run_from_unsafe w ⟨g, 0, none⟩ Try.underlying131 Try.underlying94 hj hsh (by kernel_rfl)]
  simp only [Result.andThen]
  rw [Oper.upon_value]
  go_wp2
  go_end0
  exact ⟨rfl, rfl⟩
theorem strings_Builder_copyCheck.wr (B g : Nat) (p v : Value) (s : ByteArray) (er : Int) (w : World) (hp : p = .pointer none ∨ p = .pointer (some ⟨g, 0, none⟩)) (h : WrAt 99 5 B g p v s er w) :
    Calls Try.prog 79 #[.pointer (some ⟨g, 0, none⟩)] w fun e w' => e = .returned (.tuple #[]) ∧ WrAt 99 5 B g (.pointer (some ⟨g, 0, none⟩)) v s er w' ∧ Below B w w' ∧ Kept w w' (fun k => k = g) := by
  rcases hp with rfl | rfl
  · refine (strings_Builder_copyCheck.fresh B g v s er w h).mono ?_
    rintro e w' ⟨rfl, rfl⟩
    refine ⟨rfl, h.set0 _, (Below.refl _ _).setCell h.ge _, by simp [World.setCell], fun i hi hn => ?_⟩
    exact Below.heap_setCell _ _ _ _ hn
  · refine (strings_Builder_copyCheck.used B g v s er w h).mono ?_
    rintro e w' ⟨rfl, rfl⟩
    exact ⟨rfl, h, Below.refl _ _, Nat.le_refl _, fun _ _ _ => rfl⟩
/-! ### strings_Builder_WriteString: function 71 -/
set_option maxHeartbeats 2000000 in
set_option maxRecDepth 100000 in
theorem strings_Builder_WriteString.wr (B g : Nat) (p v : Value) (s t : ByteArray) (er : Int) (w : World) (hp : p = .pointer none ∨ p = .pointer (some ⟨g, 0, none⟩)) (h : WrAt 99 5 B g p v s er w) (hlen : s.size + t.size ≤ 140737488355328) (hBw : B ≤ w.heap.size) :
    Calls Try.prog 71 #[.pointer (some ⟨g, 0, none⟩), .string t] w fun e w' => e = .returned (.tuple #[.int .i64 t.size, .nilIface]) ∧ WrStep 99 5 B g v (s ++ t) er w w' := by
  obtain ⟨i0, hi, hz0, hz1, hz2⟩ := info_parts info5
  go_enter Try.func71, Try.ntmps71
  go_wp2_with (go_at_call 79; refine (strings_Builder_copyCheck.wr B g p v s er _ hp h).mono ?_)
  rintro e w1 ⟨rfl, h1, hb1, hk1⟩
  have c0 := h1.cell0
  have c1 := h1.cell1
  have hlt := h1.lt
  have hown := h1.2.2.1
  have hne := h1.2.2.2
  go_wp2_with (at_builtin; refine Lib.wpList_append_own_stringF _ rfl _ _ 95 9 rfl B 5 i0 Try.underlying95 Try.underlying9 hi hz0 hz1 hz2 _ _ _ rfl hown t rfl ?c3 ?c4 ?c5 ?_)
  case c3 => unfold maxLen; omega
  case c4 => omega
  case c5 => have := hb1.size; omega
  intro v' w2 hown' hgrow _
  have hsz := hb1.size
  have hb2 : w2.heap[g]? = some (.cells #[.pointer (some ⟨g, 0, none⟩), v, .int .i64 er] 99 (0, 0)) := by
    rw [hgrow.block g hlt (fun e => hne e.symm)]
    exact h1.2.1
  have d0 : w2.cell? ⟨g, 0, none⟩ = some (.pointer (some ⟨g, 0, none⟩)) := by rw [Lib.cell_of_heap hb2]; rfl
  have d1 : w2.cell? ⟨g, 1, none⟩ = some v := by rw [Lib.cell_of_heap hb2]; rfl
  have f1 : w2.frozen? ⟨g, 1, none⟩ = false := Lib.frozen_of_heap hb2 1
  obtain ⟨ao, n', cap, rfl⟩ : ∃ ao n' cap, v' = .slice ao n' cap := by
    rcases hown'.2 with ⟨hv, _⟩ | ⟨g, cap, cur, fz, hv, _⟩
    · exact ⟨_, _, _, hv⟩
    · exact ⟨_, _, _, hv⟩
  have hstr : Lib.strCells s ++ Lib.strCells t = Lib.strCells (s ++ t) := by simp [Lib.strCells, ByteArray.data_append]
  have hsize : s.size + t.size = (s ++ t).size := by rw [ByteArray.size_append]
  rw [hstr, hsize] at hown'
  have HW := Aside0.mk (WrAt.set1 (T := 99) (e := 5) h1.ge hb2 hown' (by decide))
  have HB : Aside0 (Below B w (w2.setCell ⟨g, 1, none⟩ (.slice ao n' cap))) := ⟨(hb1.grown hgrow (by omega) (fun k hk => (hown.lt k hk).1)).setCell (p := ⟨g, 1, none⟩) h1.ge _⟩
  have HK : Aside0 (Kept w (w2.setCell ⟨g, 1, none⟩ (.slice ao n' cap)) (fun k => k = g ∨ v.ownBlock = some k)) := by
    refine ⟨by have := hgrow.size; simp [World.setCell]; omega, fun i hi hn => ?_⟩
    have hig : i ≠ g := fun e => hn (.inl e)
    have hiv : some i ≠ v.ownBlock := fun e => hn (.inr e.symm)
    rw [Below.heap_setCell _ _ _ _ hig, hgrow.block i (by omega) hiv, hk1.2 i hi hig]
  clear hb1 hk1 hown hown' hgrow hb2 hstr hsize h1 h
  go_wp2
  go_ret2
  exact ⟨rfl, _, ⟨_, .inr rfl, HW.out⟩, HB.out, HK.out⟩
/-! ### oct_Writer_put: function 50 -/
set_option maxHeartbeats 1000000 in
theorem oct_Writer_put.wr (B g : Nat) (v : Value) (s t : ByteArray) (er f : Int) (w : World) (h : IsWr 99 5 B g v s er w) (hs : s.size ≤ 65536) (ht : t.size ≤ 140737488289000) (hBw : B ≤ w.heap.size) :
    Calls Try.prog 50 #[.pointer (some ⟨g, 0, none⟩), .string t, .int .i64 f] w fun e w' => e = .returned (.tuple #[]) ∧ WrStep 99 5 B g v (putS s er t f).1 (putS s er t f).2 w w' := by
  obtain ⟨p, hp, h⟩ := h
  have c2 := h.cell2
  have HW := Aside0.mk h
  have hnop : Aside0 (WrStep 99 5 B g v s er w w) := ⟨v, ⟨p, hp, h⟩, Below.refl _ _, Kept.refl _ _⟩
  unfold putS
  by_cases h1 : er = 0
  · subst h1
    rw [if_pos rfl]
    by_cases h2 : f = 0
    · subst h2
      rw [if_pos rfl]
      have HLEN := Aside0.mk (strings_Builder_Len.wr B g p v s 0 w h)
      by_cases h3 : (t.size : Int) > 65536 - (s.size : Int)
      · rw [if_pos h3]
        have h3' : 65536 - (s.size : Int) < (t.size : Int) := h3
        have hf := h.frozen 2
        have HR : Aside0 (WrStep 99 5 B g v s 2 w (w.setCell ⟨g, 2, none⟩ (.int .i64 2))) := by
          refine ⟨v, ⟨p, hp, h.set2 2⟩, (Below.refl _ _).setCell h.ge _, by simp [World.setCell], fun i hi hn => ?_⟩
          exact Below.heap_setCell _ _ _ _ (fun e => hn (.inl e))
        clear h hnop h3
        go_enter Try.func50, Try.ntmps50
        go_wp2_with (go_at_call 70; refine HLEN.out.mono ?_; rintro e w' ⟨rfl, rfl⟩)
        go_end0
        exact ⟨rfl, HR.out⟩
      · rw [if_neg h3]
        have h3' : ¬ (65536 - (s.size : Int) < (t.size : Int)) := h3
        have HWS := Aside0.mk (strings_Builder_WriteString.wr B g p v s t 0 w hp h (by omega) hBw)
        clear h hnop h3
        go_enter Try.func50, Try.ntmps50
        go_wp2_with (first | (go_at_call 70; refine HLEN.out.mono ?_; rintro e w' ⟨rfl, rfl⟩) | (go_at_call 71; refine HWS.out.mono ?_; rintro e w' ⟨rfl, HS⟩; have HSS := Aside0.mk HS; clear HS))
        go_end0
        exact ⟨rfl, HSS.out⟩
    · rw [if_neg h2]
      have t1 : (f == 0) = false := beq_eq_false_iff_ne.mpr h2
      have t2 : (f != 0) = true := bne_iff_ne.mpr h2
      have hf := h.frozen 2
      have HR : Aside0 (WrStep 99 5 B g v s f w (w.setCell ⟨g, 2, none⟩ (.int .i64 f))) := by
        refine ⟨v, ⟨p, hp, h.set2 f⟩, (Below.refl _ _).setCell h.ge _, by simp [World.setCell], fun i hi hn => ?_⟩
        exact Below.heap_setCell _ _ _ _ (fun e => hn (.inl e))
      clear h hnop h2
      go_enter Try.func50, Try.ntmps50
      go_wp2
      go_end0
      exact ⟨rfl, HR.out⟩
  · rw [if_neg h1]
    have t1 : (er == 0) = false := beq_eq_false_iff_ne.mpr h1
    have t2 : (er != 0) = true := bne_iff_ne.mpr h1
    clear h h1
    go_enter Try.func50, Try.ntmps50
    go_wp2
    go_end0
    exact ⟨rfl, hnop.out⟩
end Go.Proofs.Ytehnebddmbdnhaa.PWireApart
