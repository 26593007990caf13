-- Written by this session's own program (wip/tools/mkprint.py) over the kit's printer, with overrides.
import Derived.Test.YtehnebddmbdnhaaTWireAparta
import Derived.Test.YtehnebddmbdnhaaQWireApartx0
import Derived.Test.YtehnebddmbdnhaaQWireApartx3
import Derived.Test.YtehnebddmbdnhaaQWireApartx4
namespace Go.Proofs.Ytehnebddmbdnhaa.PWireApart
open Go.RowKit Go.Mine Go.Proofs.YtehnebddmbdnhaaW.PrintWords Go.Proofs.YtehnebddmbdnhaaW.PrintLast Go.Proofs.YtehnebddmbdnhaaW.PrintMore
attribute [local go_sem] max2_int min2_int max_two min_two max_three min_three max_four min_four   -- for this text's walks alone
set_option linter.unusedVariables false
set_option linter.unusedSimpArgs false
/-! ### wire_Text: function 11 -/
/-- A number of a size, bytes, a text, behind what is written. -/
def wire_Text.num (k : Nat) (s : ByteArray) (x n : Int) : Option ByteArray := (oct_Put.f k x n).bind fun t => if t.2 = 0 ∧ s.size + t.1.size ≤ 60000 then some (s ++ t.1) else none
def wire_Text.raw (s t : ByteArray) : Option ByteArray := if s.size + t.size ≤ 60000 then some (s ++ t) else none
def wire_Text.txt (k : Nat) (s t : ByteArray) : Option ByteArray := (oct_Put.f k (t.size : Int) 2).bind fun u => if u.1.size ≤ 10 ∧ s.size + (u.1.size + t.size) ≤ 60000 then some (s ++ (u.1 ++ t)) else none
def wire_Text.raws : List ByteArray → ByteArray → Option ByteArray
  | [], s => some s
  | t :: l, s => (wire_Text.raw s t).bind fun s' => wire_Text.raws l s'
def wire_Text.body (k : Nat) (a0_0 : Int) (a0_1 : Int) (a0_2 : Int) (a0_3 : ByteArray) (a0_4 : ByteArray) (a0_5 : Bool) (a0_6 : Int) (a0_7 : Int) (a0_8 : ByteArray) (a0_9 : ByteArray) (a0_10 : Int) (a0_11 : ByteArray) (l0_12 : List ByteArray) (a0_13 : Int) (a0_14 : Int) (a0_15 : Int) (a0_16 : Int) (a0_17 : Int) (a0_18 : Int) (a0_19 : Int) (a0_20 : ByteArray) (s : ByteArray) : Option ByteArray :=
  if a0_0 = 1 then (wire_Text.num k s (wrap64 (a0_1 + 1048576)) 3).bind fun s1 => (wire_Text.num k s1 (wrap64 (a0_2 + 1048576)) 3).bind fun s2 => wire_Text.raw s2 a0_3
  else if a0_0 = 2 then wire_Text.txt k s a0_4
  else if a0_0 = 3 then (wire_flag.f a0_5).bind fun b => wire_Text.num k s b 1
  else if a0_0 = 6 then (wire_Text.num k s a0_6 1).bind fun s1 => (wire_Text.num k s1 a0_7 7).bind fun s2 => (wire_Text.txt k s2 a0_8).bind fun s3 => wire_Text.txt k s3 a0_9
  else if a0_0 = 7 then wire_Text.num k s a0_10 1
  else if a0_0 = 8 then (wire_Text.num k s a0_10 1).bind fun s1 => (wire_Text.raw s1 a0_11).bind fun s2 => (wire_Text.num k s2 (l0_12.length : Int) 1).bind fun s3 => wire_Text.raws l0_12 s3
  else if a0_0 = 9 then (manifest_Text.f k a0_13 a0_14 a0_15 a0_16 a0_17 a0_18 a0_19 a0_20).bind fun t => wire_Text.raw s t
  else some s
def wire_Text.f (k : Nat) (a0_0 : Int) (a0_1 : Int) (a0_2 : Int) (a0_3 : ByteArray) (a0_4 : ByteArray) (a0_5 : Bool) (a0_6 : Int) (a0_7 : Int) (a0_8 : ByteArray) (a0_9 : ByteArray) (a0_10 : Int) (a0_11 : ByteArray) (l0_12 : List ByteArray) (a0_13 : Int) (a0_14 : Int) (a0_15 : Int) (a0_16 : Int) (a0_17 : Int) (a0_18 : Int) (a0_19 : Int) (a0_20 : ByteArray) : Option ByteArray :=
  (wire_Check.f k a0_0 a0_1 a0_2 a0_3 a0_4 a0_5 a0_6 a0_7 a0_8 a0_9 a0_10 a0_11 l0_12 a0_13 a0_14 a0_15 a0_16 a0_17 a0_18 a0_19 a0_20).bind fun c => if c = true then (wire_Text.num k ⟨#[]⟩ a0_0 1).bind fun s => wire_Text.body k a0_0 a0_1 a0_2 a0_3 a0_4 a0_5 a0_6 a0_7 a0_8 a0_9 a0_10 a0_11 l0_12 a0_13 a0_14 a0_15 a0_16 a0_17 a0_18 a0_19 a0_20 s else some ⟨#[]⟩
theorem wire_Text.num_mono (k : Nat) (s : ByteArray) (x n : Int) : LeO (wire_Text.num k s x n) (wire_Text.num (k + 1) s x n) := LeO.bind (oct_Put.mono _ _ _) (fun _ => LeO.refl _)
theorem wire_Text.txt_mono (k : Nat) (s t : ByteArray) : LeO (wire_Text.txt k s t) (wire_Text.txt (k + 1) s t) := LeO.bind (oct_Put.mono _ _ _) (fun _ => LeO.refl _)
theorem wire_Text.mono : ∀ a0_0 a0_1 a0_2 a0_3 a0_4 a0_5 a0_6 a0_7 a0_8 a0_9 a0_10 a0_11 l0_12 a0_13 a0_14 a0_15 a0_16 a0_17 a0_18 a0_19 a0_20 k, LeO (wire_Text.f k a0_0 a0_1 a0_2 a0_3 a0_4 a0_5 a0_6 a0_7 a0_8 a0_9 a0_10 a0_11 l0_12 a0_13 a0_14 a0_15 a0_16 a0_17 a0_18 a0_19 a0_20) (wire_Text.f (k + 1) a0_0 a0_1 a0_2 a0_3 a0_4 a0_5 a0_6 a0_7 a0_8 a0_9 a0_10 a0_11 l0_12 a0_13 a0_14 a0_15 a0_16 a0_17 a0_18 a0_19 a0_20) := by
  intro a0_0 a0_1 a0_2 a0_3 a0_4 a0_5 a0_6 a0_7 a0_8 a0_9 a0_10 a0_11 l0_12 a0_13 a0_14 a0_15 a0_16 a0_17 a0_18 a0_19 a0_20 k
  unfold wire_Text.f wire_Text.body
  repeat' first | exact LeO.refl _ | apply wire_Text.num_mono | apply wire_Text.txt_mono | apply manifest_Text.mono | apply wire_Check.mono | refine LeO.ite ?_ ?_ | refine LeO.bind ?_ (fun _ => ?_)
theorem wire_Text.far {B g gb : Nat} {v : Value} {s : ByteArray} {er : Int} {W w1 : World} {cs : Array Value} {t : TypeId} (hi : IsWr 99 5 B g v s er W) (hb : W.heap[gb]? = some (.cells cs t (0, 0))) (hne : gb ≠ g) (ht : t ≠ 5)
    (hk : Kept W w1 (fun k => k = g ∨ v.ownBlock = some k)) : w1.heap[gb]? = some (.cells cs t (0, 0)) := by
  obtain ⟨p, hp, h⟩ := hi
  have hlt : gb < W.heap.size := (Array.getElem?_eq_some_iff.1 hb).1
  rw [hk.2 gb hlt (by
    rintro (h1 | h1)
    · exact hne h1
    · exact Go.Lib.ownBlock_neF h.2.2.1 hb ht h1)]
  exact hb
theorem wire_Text.put_ok (s t : ByteArray) (h : s.size + t.size ≤ 60000) : putS s 0 t 0 = (s ++ t, 0) := by
  unfold putS
  rw [if_pos rfl, if_pos rfl, if_neg (by omega)]
theorem wire_Text.num_step {B g k : Nat} {v : Value} {s s' : ByteArray} {x n : Int} {W : World} (h : IsWr 99 5 B g v s 0 W) (hn : wire_Text.num k s x n = some s') (hB : B ≤ W.heap.size) :
    Calls Try.prog 22 #[.pointer (some ⟨g, 0, none⟩), .int .i64 x, .int .i64 n] W fun e w' => e = .returned (.tuple #[]) ∧ WrStep 99 5 B g v s' 0 W w' := by
  unfold wire_Text.num at hn
  obtain ⟨⟨t, f⟩, hp, hn⟩ := Option.bind_eq_some_iff.mp hn
  split at hn
  rotate_left
  · cases hn
  rename_i hc
  obtain ⟨hf, hz⟩ := hc
  simp only at hf hz hn
  subst hf
  obtain rfl := Option.some.inj hn
  refine Calls.mono (oct_Writer_Num.wr k B g v s t 0 x n 0 W h hp (by omega) (by omega) hB) ?_
  rintro e w' ⟨rfl, hst⟩
  rw [wire_Text.put_ok _ _ hz] at hst
  exact ⟨rfl, hst⟩
theorem wire_Text.raw_step {B g : Nat} {v : Value} {s s' t : ByteArray} {W : World} (h : IsWr 99 5 B g v s 0 W) (hn : wire_Text.raw s t = some s') (hB : B ≤ W.heap.size) :
    Calls Try.prog 23 #[.pointer (some ⟨g, 0, none⟩), .string t] W fun e w' => e = .returned (.tuple #[]) ∧ WrStep 99 5 B g v s' 0 W w' := by
  unfold wire_Text.raw at hn
  split at hn
  rotate_left
  · cases hn
  rename_i hz
  obtain rfl := Option.some.inj hn
  refine Calls.mono (oct_Writer_Raw.wr B g v s t 0 W h (by omega) (by omega) hB) ?_
  rintro e w' ⟨rfl, hst⟩
  rw [wire_Text.put_ok _ _ hz] at hst
  exact ⟨rfl, hst⟩
theorem wire_Text.txt_step {B g k : Nat} {v : Value} {s s' t : ByteArray} {W : World} (h : IsWr 99 5 B g v s 0 W) (hn : wire_Text.txt k s t = some s') (hB : B ≤ W.heap.size) :
    Calls Try.prog 24 #[.pointer (some ⟨g, 0, none⟩), .string t] W fun e w' => e = .returned (.tuple #[]) ∧ WrStep 99 5 B g v s' 0 W w' := by
  unfold wire_Text.txt at hn
  obtain ⟨⟨u, f⟩, hp, hn⟩ := Option.bind_eq_some_iff.mp hn
  split at hn
  rotate_left
  · cases hn
  rename_i hc
  obtain ⟨hu, hz⟩ := hc
  simp only at hu hz hn
  obtain rfl := Option.some.inj hn
  refine Calls.mono (oct_Writer_Text.wr k B g v s t u 0 f W h hp (by omega) (by omega) hu hB) ?_
  rintro e w' ⟨rfl, hst⟩
  rw [wire_Text.put_ok _ _ (by rw [ByteArray.size_append]; exact hz)] at hst
  exact ⟨rfl, hst⟩
theorem wire_Text.raws_step (l : List ByteArray) (i : Nat) (hi : i < l.length) (s fin : ByteArray) (h : wire_Text.raws (l.drop i) s = some fin) : ∃ s', wire_Text.raw s (rdOf ByteArray.empty l (i : Int)) = some s' ∧ wire_Text.raws (l.drop (i + 1)) s' = some fin := by
  rw [List.drop_eq_getElem_cons hi] at h
  have e : rdOf ByteArray.empty l (i : Int) = l[i] := by simp [rdOf, hi]
  rw [e]
  exact Option.bind_eq_some_iff.mp h
theorem wire_Text.raws_end (l : List ByteArray) (i : Nat) (hi : l.length ≤ i) (s fin : ByteArray) (h : wire_Text.raws (l.drop i) s = some fin) : s = fin := by
  rw [List.drop_eq_nil_of_le hi] at h
  exact Option.some.inj h
set_option maxHeartbeats 8000000 in
set_option maxRecDepth 100000 in
theorem wire_Text.calls (k : Nat) (a0_0 : Int) (a0_1 : Int) (a0_2 : Int) (a0_3 : ByteArray) (a0_4 : ByteArray) (a0_5 : Bool) (a0_6 : Int) (a0_7 : Int) (a0_8 : ByteArray) (a0_9 : ByteArray) (a0_10 : Int) (a0_11 : ByteArray) (A0_12 : Option Addr) (c0_12 : Nat) (l0_12 : List ByteArray) (a0_13 : Int) (a0_14 : Int) (a0_15 : Int) (a0_16 : Int) (a0_17 : Int) (a0_18 : Int) (a0_19 : Int) (a0_20 : ByteArray) (r : ByteArray) (w : World) (hr0_12 : Kd.C Kd.string w A0_12 l0_12.length l0_12) (hc0_12 : l0_12.length ≤ c0_12) (h : wire_Text.f k a0_0 a0_1 a0_2 a0_3 a0_4 a0_5 a0_6 a0_7 a0_8 a0_9 a0_10 a0_11 l0_12 a0_13 a0_14 a0_15 a0_16 a0_17 a0_18 a0_19 a0_20 = some r) :
    Calls Try.prog 11 #[.agg #[.int .i64 a0_0, .int .i64 a0_1, .int .i64 a0_2, .string a0_3, .string a0_4, .bool a0_5, .int .i64 a0_6, .int .i64 a0_7, .string a0_8, .string a0_9, .int .i64 a0_10, .string a0_11, .slice A0_12 l0_12.length c0_12, .int .i64 a0_13, .int .i64 a0_14, .int .i64 a0_15, .int .i64 a0_16, .int .i64 a0_17, .int .i64 a0_18, .int .i64 a0_19, .string a0_20]] w fun e w' => e = .returned (.string r) ∧ Below w.heap.size w w' := by
  have hu34 := Try.underlying34
  have hu23 := Try.underlying23
  have hu25 := Try.underlying25
  have hu32 := Try.underlying32
  have HR := Aside0.mk hr0_12
  have HC := Aside0.mk hc0_12
  have HB := Aside0.mk (Below.refl w.heap.size w)
  clear hr0_12 hc0_12
  unfold wire_Text.f at h
  obtain ⟨c, HK, h⟩ := Option.bind_eq_some_iff.mp h
  have HK := Aside0.mk HK
  cases c with
  | false =>
    rw [if_neg (by decide)] at h
    obtain rfl := Option.some.inj h
    clear h
    go_enter Try.func11, Try.ntmps11
    go_wp2_with (first | ((with_reducible refine gate_dst (N := 1) rfl ?_); refine box_event ?hg (N := 1) ?hd (cs := #[.int .i64 a0_0, .int .i64 a0_1, .int .i64 a0_2, .string a0_3, .string a0_4, .bool a0_5, .int .i64 a0_6, .int .i64 a0_7, .string a0_8, .string a0_9, .int .i64 a0_10, .string a0_11, .slice A0_12 l0_12.length c0_12, .int .i64 a0_13, .int .i64 a0_14, .int .i64 a0_15, .int .i64 a0_16, .int .i64 a0_17, .int .i64 a0_18, .int .i64 a0_19, .string a0_20]) (t := 34) ?hr ?_; (case hd => rfl); (case hg => rfl); (case hr => first | (go_simp; done) | (go_simp; rfl)); intro gb hg w2 hbox hb; have BM := Aside0.mk hbox; replace HB := Aside0.mk (below_step zB hb); clear hb hbox hg) | ((with_reducible refine gate_dst (N := 8) rfl ?_); refine wpList_load_row rfl 34 (.tmp 1) rfl gb rfl 34 _ (0, 0) _ BM.out hu34 rfl (by kernel_rfl) ?_) | (go_at_call 12; refine (wire_Check.calls k a0_0 a0_1 a0_2 a0_3 a0_4 a0_5 a0_6 a0_7 a0_8 a0_9 a0_10 a0_11 A0_12 c0_12 l0_12 a0_13 a0_14 a0_15 a0_16 a0_17 a0_18 a0_19 a0_20 false _ (Kd.C_below HR.out HB.out) HC.out HK.out).mono ?_; rintro e w5 ⟨rfl, hb⟩; replace BM := Aside0.mk (blk_below (zk BM) hb); replace HB := Aside0.mk (below_step zB hb); clear hb))
    go_ret
    exact ⟨rfl, zB⟩
  | true =>
    rw [if_pos rfl] at h
    obtain ⟨s, A0, h⟩ := Option.bind_eq_some_iff.mp h
    have A0 := Aside0.mk A0
    have H := Aside0.mk h
    clear h
    go_enter Try.func11, Try.ntmps11
    go_upto_region 6 with (first | ((with_reducible refine gate_dst (N := 1) rfl ?_); refine box_event ?hg (N := 1) ?hd (cs := #[.int .i64 a0_0, .int .i64 a0_1, .int .i64 a0_2, .string a0_3, .string a0_4, .bool a0_5, .int .i64 a0_6, .int .i64 a0_7, .string a0_8, .string a0_9, .int .i64 a0_10, .string a0_11, .slice A0_12 l0_12.length c0_12, .int .i64 a0_13, .int .i64 a0_14, .int .i64 a0_15, .int .i64 a0_16, .int .i64 a0_17, .int .i64 a0_18, .int .i64 a0_19, .string a0_20]) (t := 34) ?hr ?_; (case hd => rfl); (case hg => rfl); (case hr => first | (go_simp; done) | (go_simp; rfl)); intro gb hg w2 hbox hb; have BM := Aside0.mk hbox; replace HB := Aside0.mk (below_step zB hb); clear hb hbox hg) | ((with_reducible refine gate_dst (N := 8) rfl ?_); refine wpList_load_row rfl 34 (.tmp 1) rfl gb rfl 34 _ (0, 0) _ BM.out hu34 rfl (by kernel_rfl) ?_) | (go_at_call 12; refine (wire_Check.calls k a0_0 a0_1 a0_2 a0_3 a0_4 a0_5 a0_6 a0_7 a0_8 a0_9 a0_10 a0_11 A0_12 c0_12 l0_12 a0_13 a0_14 a0_15 a0_16 a0_17 a0_18 a0_19 a0_20 true _ (Kd.C_below HR.out HB.out) HC.out HK.out).mono ?_; rintro e w5 ⟨rfl, hb⟩; replace BM := Aside0.mk (blk_below (zk BM) hb); replace HB := Aside0.mk (below_step zB hb); clear hb) | (go_at_call 21; refine (oct_To.wr w5).mono ?_; rintro e w8 ⟨rfl, hi, hb, hz⟩; have HI := Aside0.mk hi; have HLT := Aside0.mk (blk_lt BM.out); replace BM := Aside0.mk (blk_below (zk BM) hb); have HW : Aside0 (w5.heap.size ≤ w8.heap.size) := ⟨hb.size⟩; have HWW : Aside0 (w.heap.size ≤ w5.heap.size) := ⟨HB.out.size⟩; replace HB := Aside0.mk (below_step zB hb); clear hi hb hz; have p0 : w8.cell? ⟨gb, 0, none⟩ = some (.int .i64 a0_0) := (blk_cell BM.out 0).trans rfl) | (go_at_call 22; refine Calls.mono (wire_Text.num_step HI.out A0.out HW.out) ?_; rintro e w9 ⟨rfl, v1, hi, hb, hk⟩; clear p0; replace BM := Aside0.mk (wire_Text.far HI.out BM.out (Nat.ne_of_lt HLT.out) (by decide) hk); replace HI := Aside0.mk hi; replace HW : Aside0 (w5.heap.size ≤ w9.heap.size) := ⟨Nat.le_trans HW.out hb.size⟩; replace HB : Aside0 (Below w.heap.size w w9) := ⟨HB.out.trans (hb.mono HWW.out)⟩; clear hi hb hk; have p0 : w9.cell? ⟨gb, 0, none⟩ = some (.int .i64 a0_0) := (blk_cell BM.out 0).trans rfl))
    clear p0
    by_cases c1 : a0_0 = 1
    · have h := H.out
      clear H
      unfold wire_Text.body at h
      rw [if_pos c1] at h
      have t1 : (a0_0 == 1) = true := beq_iff_eq.mpr c1
      clear c1
      obtain ⟨s1, A1, h⟩ := Option.bind_eq_some_iff.mp h
      have A1 := Aside0.mk A1
      obtain ⟨s2, A2, h⟩ := Option.bind_eq_some_iff.mp h
      have A2 := Aside0.mk A2
      have A3 := Aside0.mk h
      clear h
      have p1 : w9.cell? ⟨gb, 1, none⟩ = some (.int .i64 a0_1) := (blk_cell BM.out 1).trans rfl
      have p2 : w9.cell? ⟨gb, 2, none⟩ = some (.int .i64 a0_2) := (blk_cell BM.out 2).trans rfl
      have p3 : w9.cell? ⟨gb, 3, none⟩ = some (.string a0_3) := (blk_cell BM.out 3).trans rfl
      go_wp2_with (first | (go_at_call 22; refine Calls.mono (wire_Text.num_step HI.out A1.out HW.out) ?_; rintro e w9 ⟨rfl, v1, hi, hb, hk⟩; clear p1 p2 p3; replace BM := Aside0.mk (wire_Text.far HI.out BM.out (Nat.ne_of_lt HLT.out) (by decide) hk); replace HI := Aside0.mk hi; replace HW : Aside0 (w5.heap.size ≤ w9.heap.size) := ⟨Nat.le_trans HW.out hb.size⟩; replace HB : Aside0 (Below w.heap.size w w9) := ⟨HB.out.trans (hb.mono HWW.out)⟩; clear hi hb hk; have p1 : w9.cell? ⟨gb, 1, none⟩ = some (.int .i64 a0_1) := (blk_cell BM.out 1).trans rfl; have p2 : w9.cell? ⟨gb, 2, none⟩ = some (.int .i64 a0_2) := (blk_cell BM.out 2).trans rfl; have p3 : w9.cell? ⟨gb, 3, none⟩ = some (.string a0_3) := (blk_cell BM.out 3).trans rfl) | (go_at_call 22; refine Calls.mono (wire_Text.num_step HI.out A2.out HW.out) ?_; rintro e w9 ⟨rfl, v1, hi, hb, hk⟩; clear p1 p2 p3; replace BM := Aside0.mk (wire_Text.far HI.out BM.out (Nat.ne_of_lt HLT.out) (by decide) hk); replace HI := Aside0.mk hi; replace HW : Aside0 (w5.heap.size ≤ w9.heap.size) := ⟨Nat.le_trans HW.out hb.size⟩; replace HB : Aside0 (Below w.heap.size w w9) := ⟨HB.out.trans (hb.mono HWW.out)⟩; clear hi hb hk; have p1 : w9.cell? ⟨gb, 1, none⟩ = some (.int .i64 a0_1) := (blk_cell BM.out 1).trans rfl; have p2 : w9.cell? ⟨gb, 2, none⟩ = some (.int .i64 a0_2) := (blk_cell BM.out 2).trans rfl; have p3 : w9.cell? ⟨gb, 3, none⟩ = some (.string a0_3) := (blk_cell BM.out 3).trans rfl) | (go_at_call 23; refine Calls.mono (wire_Text.raw_step HI.out A3.out HW.out) ?_; rintro e w9 ⟨rfl, v1, hi, hb, hk⟩; clear p1 p2 p3; replace BM := Aside0.mk (wire_Text.far HI.out BM.out (Nat.ne_of_lt HLT.out) (by decide) hk); replace HI := Aside0.mk hi; replace HW : Aside0 (w5.heap.size ≤ w9.heap.size) := ⟨Nat.le_trans HW.out hb.size⟩; replace HB : Aside0 (Below w.heap.size w w9) := ⟨HB.out.trans (hb.mono HWW.out)⟩; clear hi hb hk; have p1 : w9.cell? ⟨gb, 1, none⟩ = some (.int .i64 a0_1) := (blk_cell BM.out 1).trans rfl; have p2 : w9.cell? ⟨gb, 2, none⟩ = some (.int .i64 a0_2) := (blk_cell BM.out 2).trans rfl; have p3 : w9.cell? ⟨gb, 3, none⟩ = some (.string a0_3) := (blk_cell BM.out 3).trans rfl) | (go_at_call 27; refine Calls.mono (oct_Writer_Bytes.wr w5.heap.size w5.heap.size _ r 0 _ HI.out HW.out) ?_; rintro e w14 ⟨rfl, v4, hi, hb, hk⟩; rw [if_pos rfl]; clear p1 p2 p3; replace HB : Aside0 (Below w.heap.size w w14) := ⟨HB.out.trans (hb.mono HWW.out)⟩; clear hi hb hk))
      go_ret
      exact ⟨rfl, HB.out⟩
    by_cases c2 : a0_0 = 2
    · have h := H.out
      clear H
      unfold wire_Text.body at h
      rw [if_neg c1] at h
      rw [if_pos c2] at h
      have t1 : (a0_0 == 1) = false := beq_eq_false_iff_ne.mpr c1
      have t2 : (a0_0 == 2) = true := beq_iff_eq.mpr c2
      clear c1 c2
      have A1 := Aside0.mk h
      clear h
      have p4 : w9.cell? ⟨gb, 4, none⟩ = some (.string a0_4) := (blk_cell BM.out 4).trans rfl
      go_wp2_with (first | (go_at_call 24; refine Calls.mono (wire_Text.txt_step HI.out A1.out HW.out) ?_; rintro e w9 ⟨rfl, v1, hi, hb, hk⟩; clear p4; replace BM := Aside0.mk (wire_Text.far HI.out BM.out (Nat.ne_of_lt HLT.out) (by decide) hk); replace HI := Aside0.mk hi; replace HW : Aside0 (w5.heap.size ≤ w9.heap.size) := ⟨Nat.le_trans HW.out hb.size⟩; replace HB : Aside0 (Below w.heap.size w w9) := ⟨HB.out.trans (hb.mono HWW.out)⟩; clear hi hb hk; have p4 : w9.cell? ⟨gb, 4, none⟩ = some (.string a0_4) := (blk_cell BM.out 4).trans rfl) | (go_at_call 27; refine Calls.mono (oct_Writer_Bytes.wr w5.heap.size w5.heap.size _ r 0 _ HI.out HW.out) ?_; rintro e w14 ⟨rfl, v4, hi, hb, hk⟩; rw [if_pos rfl]; clear p4; replace HB : Aside0 (Below w.heap.size w w14) := ⟨HB.out.trans (hb.mono HWW.out)⟩; clear hi hb hk))
      go_ret
      exact ⟨rfl, HB.out⟩
    by_cases c3 : a0_0 = 3
    · have h := H.out
      clear H
      unfold wire_Text.body at h
      rw [if_neg c1] at h
      rw [if_neg c2] at h
      rw [if_pos c3] at h
      have t1 : (a0_0 == 1) = false := beq_eq_false_iff_ne.mpr c1
      have t2 : (a0_0 == 2) = false := beq_eq_false_iff_ne.mpr c2
      have t3 : (a0_0 == 3) = true := beq_iff_eq.mpr c3
      clear c1 c2 c3
      obtain ⟨b, A1, h⟩ := Option.bind_eq_some_iff.mp h
      have A1 := Aside0.mk A1
      have A2 := Aside0.mk h
      clear h
      have p5 : w9.cell? ⟨gb, 5, none⟩ = some (.bool a0_5) := (blk_cell BM.out 5).trans rfl
      go_wp2_with (first | (go_at_call 25; refine (wire_flag.calls a0_5 b _ A1.out).mono ?_; rintro e w9 ⟨rfl, hdz⟩; have hb := Drawn0.below hdz; clear hdz; clear p5; replace BM := Aside0.mk (blk_below (zk BM) hb); replace HI := Aside0.mk (HI.out.below hb); replace HW : Aside0 (w5.heap.size ≤ w9.heap.size) := ⟨Nat.le_trans HW.out hb.size⟩; replace HB := Aside0.mk (below_step zB hb); clear hb; have p5 : w9.cell? ⟨gb, 5, none⟩ = some (.bool a0_5) := (blk_cell BM.out 5).trans rfl) | (go_at_call 22; refine Calls.mono (wire_Text.num_step HI.out A2.out HW.out) ?_; rintro e w9 ⟨rfl, v1, hi, hb, hk⟩; clear p5; replace BM := Aside0.mk (wire_Text.far HI.out BM.out (Nat.ne_of_lt HLT.out) (by decide) hk); replace HI := Aside0.mk hi; replace HW : Aside0 (w5.heap.size ≤ w9.heap.size) := ⟨Nat.le_trans HW.out hb.size⟩; replace HB : Aside0 (Below w.heap.size w w9) := ⟨HB.out.trans (hb.mono HWW.out)⟩; clear hi hb hk; have p5 : w9.cell? ⟨gb, 5, none⟩ = some (.bool a0_5) := (blk_cell BM.out 5).trans rfl) | (go_at_call 27; refine Calls.mono (oct_Writer_Bytes.wr w5.heap.size w5.heap.size _ r 0 _ HI.out HW.out) ?_; rintro e w14 ⟨rfl, v4, hi, hb, hk⟩; rw [if_pos rfl]; clear p5; replace HB : Aside0 (Below w.heap.size w w14) := ⟨HB.out.trans (hb.mono HWW.out)⟩; clear hi hb hk))
      go_ret
      exact ⟨rfl, HB.out⟩
    by_cases c6 : a0_0 = 6
    · have h := H.out
      clear H
      unfold wire_Text.body at h
      rw [if_neg c1] at h
      rw [if_neg c2] at h
      rw [if_neg c3] at h
      rw [if_pos c6] at h
      have t1 : (a0_0 == 1) = false := beq_eq_false_iff_ne.mpr c1
      have t2 : (a0_0 == 2) = false := beq_eq_false_iff_ne.mpr c2
      have t3 : (a0_0 == 3) = false := beq_eq_false_iff_ne.mpr c3
      have t6 : (a0_0 == 6) = true := beq_iff_eq.mpr c6
      clear c1 c2 c3 c6
      obtain ⟨s1, A1, h⟩ := Option.bind_eq_some_iff.mp h
      have A1 := Aside0.mk A1
      obtain ⟨s2, A2, h⟩ := Option.bind_eq_some_iff.mp h
      have A2 := Aside0.mk A2
      obtain ⟨s3, A3, h⟩ := Option.bind_eq_some_iff.mp h
      have A3 := Aside0.mk A3
      have A4 := Aside0.mk h
      clear h
      have p6 : w9.cell? ⟨gb, 6, none⟩ = some (.int .i64 a0_6) := (blk_cell BM.out 6).trans rfl
      have p7 : w9.cell? ⟨gb, 7, none⟩ = some (.int .i64 a0_7) := (blk_cell BM.out 7).trans rfl
      have p8 : w9.cell? ⟨gb, 8, none⟩ = some (.string a0_8) := (blk_cell BM.out 8).trans rfl
      have p9 : w9.cell? ⟨gb, 9, none⟩ = some (.string a0_9) := (blk_cell BM.out 9).trans rfl
      go_wp2_with (first | (go_at_call 22; refine Calls.mono (wire_Text.num_step HI.out A1.out HW.out) ?_; rintro e w9 ⟨rfl, v1, hi, hb, hk⟩; clear p6 p7 p8 p9; replace BM := Aside0.mk (wire_Text.far HI.out BM.out (Nat.ne_of_lt HLT.out) (by decide) hk); replace HI := Aside0.mk hi; replace HW : Aside0 (w5.heap.size ≤ w9.heap.size) := ⟨Nat.le_trans HW.out hb.size⟩; replace HB : Aside0 (Below w.heap.size w w9) := ⟨HB.out.trans (hb.mono HWW.out)⟩; clear hi hb hk; have p6 : w9.cell? ⟨gb, 6, none⟩ = some (.int .i64 a0_6) := (blk_cell BM.out 6).trans rfl; have p7 : w9.cell? ⟨gb, 7, none⟩ = some (.int .i64 a0_7) := (blk_cell BM.out 7).trans rfl; have p8 : w9.cell? ⟨gb, 8, none⟩ = some (.string a0_8) := (blk_cell BM.out 8).trans rfl; have p9 : w9.cell? ⟨gb, 9, none⟩ = some (.string a0_9) := (blk_cell BM.out 9).trans rfl) | (go_at_call 22; refine Calls.mono (wire_Text.num_step HI.out A2.out HW.out) ?_; rintro e w9 ⟨rfl, v1, hi, hb, hk⟩; clear p6 p7 p8 p9; replace BM := Aside0.mk (wire_Text.far HI.out BM.out (Nat.ne_of_lt HLT.out) (by decide) hk); replace HI := Aside0.mk hi; replace HW : Aside0 (w5.heap.size ≤ w9.heap.size) := ⟨Nat.le_trans HW.out hb.size⟩; replace HB : Aside0 (Below w.heap.size w w9) := ⟨HB.out.trans (hb.mono HWW.out)⟩; clear hi hb hk; have p6 : w9.cell? ⟨gb, 6, none⟩ = some (.int .i64 a0_6) := (blk_cell BM.out 6).trans rfl; have p7 : w9.cell? ⟨gb, 7, none⟩ = some (.int .i64 a0_7) := (blk_cell BM.out 7).trans rfl; have p8 : w9.cell? ⟨gb, 8, none⟩ = some (.string a0_8) := (blk_cell BM.out 8).trans rfl; have p9 : w9.cell? ⟨gb, 9, none⟩ = some (.string a0_9) := (blk_cell BM.out 9).trans rfl) | (go_at_call 24; refine Calls.mono (wire_Text.txt_step HI.out A3.out HW.out) ?_; rintro e w9 ⟨rfl, v1, hi, hb, hk⟩; clear p6 p7 p8 p9; replace BM := Aside0.mk (wire_Text.far HI.out BM.out (Nat.ne_of_lt HLT.out) (by decide) hk); replace HI := Aside0.mk hi; replace HW : Aside0 (w5.heap.size ≤ w9.heap.size) := ⟨Nat.le_trans HW.out hb.size⟩; replace HB : Aside0 (Below w.heap.size w w9) := ⟨HB.out.trans (hb.mono HWW.out)⟩; clear hi hb hk; have p6 : w9.cell? ⟨gb, 6, none⟩ = some (.int .i64 a0_6) := (blk_cell BM.out 6).trans rfl; have p7 : w9.cell? ⟨gb, 7, none⟩ = some (.int .i64 a0_7) := (blk_cell BM.out 7).trans rfl; have p8 : w9.cell? ⟨gb, 8, none⟩ = some (.string a0_8) := (blk_cell BM.out 8).trans rfl; have p9 : w9.cell? ⟨gb, 9, none⟩ = some (.string a0_9) := (blk_cell BM.out 9).trans rfl) | (go_at_call 24; refine Calls.mono (wire_Text.txt_step HI.out A4.out HW.out) ?_; rintro e w9 ⟨rfl, v1, hi, hb, hk⟩; clear p6 p7 p8 p9; replace BM := Aside0.mk (wire_Text.far HI.out BM.out (Nat.ne_of_lt HLT.out) (by decide) hk); replace HI := Aside0.mk hi; replace HW : Aside0 (w5.heap.size ≤ w9.heap.size) := ⟨Nat.le_trans HW.out hb.size⟩; replace HB : Aside0 (Below w.heap.size w w9) := ⟨HB.out.trans (hb.mono HWW.out)⟩; clear hi hb hk; have p6 : w9.cell? ⟨gb, 6, none⟩ = some (.int .i64 a0_6) := (blk_cell BM.out 6).trans rfl; have p7 : w9.cell? ⟨gb, 7, none⟩ = some (.int .i64 a0_7) := (blk_cell BM.out 7).trans rfl; have p8 : w9.cell? ⟨gb, 8, none⟩ = some (.string a0_8) := (blk_cell BM.out 8).trans rfl; have p9 : w9.cell? ⟨gb, 9, none⟩ = some (.string a0_9) := (blk_cell BM.out 9).trans rfl) | (go_at_call 27; refine Calls.mono (oct_Writer_Bytes.wr w5.heap.size w5.heap.size _ r 0 _ HI.out HW.out) ?_; rintro e w14 ⟨rfl, v4, hi, hb, hk⟩; rw [if_pos rfl]; clear p6 p7 p8 p9; replace HB : Aside0 (Below w.heap.size w w14) := ⟨HB.out.trans (hb.mono HWW.out)⟩; clear hi hb hk))
      go_ret
      exact ⟨rfl, HB.out⟩
    by_cases c7 : a0_0 = 7
    · have h := H.out
      clear H
      unfold wire_Text.body at h
      rw [if_neg c1] at h
      rw [if_neg c2] at h
      rw [if_neg c3] at h
      rw [if_neg c6] at h
      rw [if_pos c7] at h
      have t1 : (a0_0 == 1) = false := beq_eq_false_iff_ne.mpr c1
      have t2 : (a0_0 == 2) = false := beq_eq_false_iff_ne.mpr c2
      have t3 : (a0_0 == 3) = false := beq_eq_false_iff_ne.mpr c3
      have t6 : (a0_0 == 6) = false := beq_eq_false_iff_ne.mpr c6
      have t7 : (a0_0 == 7) = true := beq_iff_eq.mpr c7
      clear c1 c2 c3 c6 c7
      have A1 := Aside0.mk h
      clear h
      have p10 : w9.cell? ⟨gb, 10, none⟩ = some (.int .i64 a0_10) := (blk_cell BM.out 10).trans rfl
      go_wp2_with (first | (go_at_call 22; refine Calls.mono (wire_Text.num_step HI.out A1.out HW.out) ?_; rintro e w9 ⟨rfl, v1, hi, hb, hk⟩; clear p10; replace BM := Aside0.mk (wire_Text.far HI.out BM.out (Nat.ne_of_lt HLT.out) (by decide) hk); replace HI := Aside0.mk hi; replace HW : Aside0 (w5.heap.size ≤ w9.heap.size) := ⟨Nat.le_trans HW.out hb.size⟩; replace HB : Aside0 (Below w.heap.size w w9) := ⟨HB.out.trans (hb.mono HWW.out)⟩; clear hi hb hk; have p10 : w9.cell? ⟨gb, 10, none⟩ = some (.int .i64 a0_10) := (blk_cell BM.out 10).trans rfl) | (go_at_call 27; refine Calls.mono (oct_Writer_Bytes.wr w5.heap.size w5.heap.size _ r 0 _ HI.out HW.out) ?_; rintro e w14 ⟨rfl, v4, hi, hb, hk⟩; rw [if_pos rfl]; clear p10; replace HB : Aside0 (Below w.heap.size w w14) := ⟨HB.out.trans (hb.mono HWW.out)⟩; clear hi hb hk))
      go_ret
      exact ⟨rfl, HB.out⟩
    by_cases c8 : a0_0 = 8
    · have h := H.out
      clear H
      unfold wire_Text.body at h
      rw [if_neg c1] at h
      rw [if_neg c2] at h
      rw [if_neg c3] at h
      rw [if_neg c6] at h
      rw [if_neg c7] at h
      rw [if_pos c8] at h
      have t1 : (a0_0 == 1) = false := beq_eq_false_iff_ne.mpr c1
      have t2 : (a0_0 == 2) = false := beq_eq_false_iff_ne.mpr c2
      have t3 : (a0_0 == 3) = false := beq_eq_false_iff_ne.mpr c3
      have t6 : (a0_0 == 6) = false := beq_eq_false_iff_ne.mpr c6
      have t7 : (a0_0 == 7) = false := beq_eq_false_iff_ne.mpr c7
      have t8 : (a0_0 == 8) = true := beq_iff_eq.mpr c8
      clear c1 c2 c3 c6 c7 c8
      obtain ⟨s1, A1, h⟩ := Option.bind_eq_some_iff.mp h
      have A1 := Aside0.mk A1
      obtain ⟨s2, A2, h⟩ := Option.bind_eq_some_iff.mp h
      have A2 := Aside0.mk A2
      obtain ⟨s3, A3, h⟩ := Option.bind_eq_some_iff.mp h
      have A3 := Aside0.mk A3
      have H0 : Aside0 (wire_Text.raws (l0_12.drop 0) s3 = some r) := ⟨h⟩
      clear h
      have hmax := Kd.C_max HR.out
      have p10 : w9.cell? ⟨gb, 10, none⟩ = some (.int .i64 a0_10) := (blk_cell BM.out 10).trans rfl
      have p11 : w9.cell? ⟨gb, 11, none⟩ = some (.string a0_11) := (blk_cell BM.out 11).trans rfl
      have p12 : w9.cell? ⟨gb, 12, none⟩ = some (.slice A0_12 l0_12.length c0_12) := (blk_cell BM.out 12).trans rfl
      go_wp2_with (first | (go_at_call 22; refine Calls.mono (wire_Text.num_step HI.out A1.out HW.out) ?_; rintro e w9 ⟨rfl, v1, hi, hb, hk⟩; clear p10 p11 p12; replace BM := Aside0.mk (wire_Text.far HI.out BM.out (Nat.ne_of_lt HLT.out) (by decide) hk); replace HI := Aside0.mk hi; replace HW : Aside0 (w5.heap.size ≤ w9.heap.size) := ⟨Nat.le_trans HW.out hb.size⟩; replace HB : Aside0 (Below w.heap.size w w9) := ⟨HB.out.trans (hb.mono HWW.out)⟩; clear hi hb hk; have p10 : w9.cell? ⟨gb, 10, none⟩ = some (.int .i64 a0_10) := (blk_cell BM.out 10).trans rfl; have p11 : w9.cell? ⟨gb, 11, none⟩ = some (.string a0_11) := (blk_cell BM.out 11).trans rfl; have p12 : w9.cell? ⟨gb, 12, none⟩ = some (.slice A0_12 l0_12.length c0_12) := (blk_cell BM.out 12).trans rfl) | (go_at_call 23; refine Calls.mono (wire_Text.raw_step HI.out A2.out HW.out) ?_; rintro e w9 ⟨rfl, v1, hi, hb, hk⟩; clear p10 p11 p12; replace BM := Aside0.mk (wire_Text.far HI.out BM.out (Nat.ne_of_lt HLT.out) (by decide) hk); replace HI := Aside0.mk hi; replace HW : Aside0 (w5.heap.size ≤ w9.heap.size) := ⟨Nat.le_trans HW.out hb.size⟩; replace HB : Aside0 (Below w.heap.size w w9) := ⟨HB.out.trans (hb.mono HWW.out)⟩; clear hi hb hk; have p10 : w9.cell? ⟨gb, 10, none⟩ = some (.int .i64 a0_10) := (blk_cell BM.out 10).trans rfl; have p11 : w9.cell? ⟨gb, 11, none⟩ = some (.string a0_11) := (blk_cell BM.out 11).trans rfl; have p12 : w9.cell? ⟨gb, 12, none⟩ = some (.slice A0_12 l0_12.length c0_12) := (blk_cell BM.out 12).trans rfl) | (go_at_call 22; refine Calls.mono (wire_Text.num_step HI.out A3.out HW.out) ?_; rintro e w9 ⟨rfl, v1, hi, hb, hk⟩; clear p10 p11 p12; replace BM := Aside0.mk (wire_Text.far HI.out BM.out (Nat.ne_of_lt HLT.out) (by decide) hk); replace HI := Aside0.mk hi; replace HW : Aside0 (w5.heap.size ≤ w9.heap.size) := ⟨Nat.le_trans HW.out hb.size⟩; replace HB : Aside0 (Below w.heap.size w w9) := ⟨HB.out.trans (hb.mono HWW.out)⟩; clear hi hb hk; have p10 : w9.cell? ⟨gb, 10, none⟩ = some (.int .i64 a0_10) := (blk_cell BM.out 10).trans rfl; have p11 : w9.cell? ⟨gb, 11, none⟩ = some (.string a0_11) := (blk_cell BM.out 11).trans rfl; have p12 : w9.cell? ⟨gb, 12, none⟩ = some (.slice A0_12 l0_12.length c0_12) := (blk_cell BM.out 12).trans rfl))
      clear p10 p11 p12
      go_loopg [94] l0_12.length (fun gg s94 wr => ∃ (i : Nat) (s : ByteArray) (v : Value), i ≤ l0_12.length ∧ l0_12.length - i ≤ gg ∧ s94 = .int .i64 i ∧ Aside0 (wire_Text.raws (l0_12.drop i) s = some r) ∧ Aside0 (IsWr 99 5 w5.heap.size w5.heap.size v s 0 wr) ∧ Aside0 (wr.heap[gb]? = some (.cells #[.int .i64 a0_0, .int .i64 a0_1, .int .i64 a0_2, .string a0_3, .string a0_4, .bool a0_5, .int .i64 a0_6, .int .i64 a0_7, .string a0_8, .string a0_9, .int .i64 a0_10, .string a0_11, .slice A0_12 l0_12.length c0_12, .int .i64 a0_13, .int .i64 a0_14, .int .i64 a0_15, .int .i64 a0_16, .int .i64 a0_17, .int .i64 a0_18, .int .i64 a0_19, .string a0_20] 34 (0, 0))) ∧ Aside0 (w5.heap.size ≤ wr.heap.size) ∧ Aside0 (Below w.heap.size w wr))
      case atStart => exact ⟨0, _, _, by omega, by omega, rfl, H0, HI, BM, HW, HB⟩
      case round =>
        clear H0 HI BM HW HB
        obtain ⟨i, s, v, hil, hgg, rfl, H0, HI, BM, HW, HB⟩ := hrel
        by_cases hlt : i < l0_12.length
        · obtain ⟨s', AR, AN⟩ := wire_Text.raws_step _ _ hlt _ _ H0.out
          have AR := Aside0.mk AR
          have AN := Aside0.mk AN
          clear H0
          obtain ⟨ad, ea, hx⟩ := Kd.at_string (Kd.C_below HR.out HB.out) (i : Int) (by omega) (by omega)
          cases ea
          rw [Int.toNat_natCast] at hx
          have p0 := eq_true (Int.natCast_nonneg i)
          have p1 : ((i : Int) < (l0_12.length : Int)) = True := eq_true (by omega)
          go_wp2_with (first | (go_at_call 23; refine Calls.mono (wire_Text.raw_step HI.out AR.out HW.out) ?_; rintro e w9 ⟨rfl, v1, hi, hb, hk⟩; replace BM := Aside0.mk (wire_Text.far HI.out BM.out (Nat.ne_of_lt HLT.out) (by decide) hk); replace HI := Aside0.mk hi; replace HW : Aside0 (w5.heap.size ≤ w9.heap.size) := ⟨Nat.le_trans HW.out hb.size⟩; replace HB : Aside0 (Below w.heap.size w w9) := ⟨HB.out.trans (hb.mono HWW.out)⟩; clear hi hb hk))
          go_roundg (gk - 1)
          case measure => omega
          case rel => exact ⟨i + 1, s', v1, by omega, by omega, by go_num, AN, HI, BM, HW, HB⟩
        · obtain rfl := wire_Text.raws_end _ _ (by omega) _ _ H0.out
          clear H0
          have p1 : ¬ ((i : Int) < (l0_12.length : Int)) := by omega
          go_wp2_with (first | (go_at_call 27; refine Calls.mono (oct_Writer_Bytes.wr w5.heap.size w5.heap.size _ _ 0 _ HI.out HW.out) ?_; rintro e w14 ⟨rfl, v4, hi, hb, hk⟩; rw [if_pos rfl]; replace HB : Aside0 (Below w.heap.size w w14) := ⟨HB.out.trans (hb.mono HWW.out)⟩; clear hi hb hk))
          go_ret
          exact ⟨rfl, HB.out⟩
    by_cases c9 : a0_0 = 9
    · have h := H.out
      clear H
      unfold wire_Text.body at h
      rw [if_neg c1] at h
      rw [if_neg c2] at h
      rw [if_neg c3] at h
      rw [if_neg c6] at h
      rw [if_neg c7] at h
      rw [if_neg c8] at h
      rw [if_pos c9] at h
      have t1 : (a0_0 == 1) = false := beq_eq_false_iff_ne.mpr c1
      have t2 : (a0_0 == 2) = false := beq_eq_false_iff_ne.mpr c2
      have t3 : (a0_0 == 3) = false := beq_eq_false_iff_ne.mpr c3
      have t6 : (a0_0 == 6) = false := beq_eq_false_iff_ne.mpr c6
      have t7 : (a0_0 == 7) = false := beq_eq_false_iff_ne.mpr c7
      have t8 : (a0_0 == 8) = false := beq_eq_false_iff_ne.mpr c8
      have t9 : (a0_0 == 9) = true := beq_iff_eq.mpr c9
      clear c1 c2 c3 c6 c7 c8 c9
      obtain ⟨t, A1, h⟩ := Option.bind_eq_some_iff.mp h
      have A1 := Aside0.mk A1
      have A2 := Aside0.mk h
      clear h
      have p13 : w9.cell? ⟨gb, 13, none⟩ = some (.int .i64 a0_13) := (blk_cell BM.out 13).trans rfl
      have p14 : w9.cell? ⟨gb, 14, none⟩ = some (.int .i64 a0_14) := (blk_cell BM.out 14).trans rfl
      have p15 : w9.cell? ⟨gb, 15, none⟩ = some (.int .i64 a0_15) := (blk_cell BM.out 15).trans rfl
      have p16 : w9.cell? ⟨gb, 16, none⟩ = some (.int .i64 a0_16) := (blk_cell BM.out 16).trans rfl
      have p17 : w9.cell? ⟨gb, 17, none⟩ = some (.int .i64 a0_17) := (blk_cell BM.out 17).trans rfl
      have p18 : w9.cell? ⟨gb, 18, none⟩ = some (.int .i64 a0_18) := (blk_cell BM.out 18).trans rfl
      have p19 : w9.cell? ⟨gb, 19, none⟩ = some (.int .i64 a0_19) := (blk_cell BM.out 19).trans rfl
      have p20 : w9.cell? ⟨gb, 20, none⟩ = some (.string a0_20) := (blk_cell BM.out 20).trans rfl
      go_wp2_with (first | (go_at_call 26; refine (manifest_Text.calls k a0_13 a0_14 a0_15 a0_16 a0_17 a0_18 a0_19 a0_20 t _ A1.out).mono ?_; rintro e w9 ⟨rfl, hb⟩; clear p13 p14 p15 p16 p17 p18 p19 p20; replace BM := Aside0.mk (blk_below (zk BM) hb); replace HI := Aside0.mk (HI.out.below hb); replace HW : Aside0 (w5.heap.size ≤ w9.heap.size) := ⟨Nat.le_trans HW.out hb.size⟩; replace HB := Aside0.mk (below_step zB hb); clear hb; have p13 : w9.cell? ⟨gb, 13, none⟩ = some (.int .i64 a0_13) := (blk_cell BM.out 13).trans rfl; have p14 : w9.cell? ⟨gb, 14, none⟩ = some (.int .i64 a0_14) := (blk_cell BM.out 14).trans rfl; have p15 : w9.cell? ⟨gb, 15, none⟩ = some (.int .i64 a0_15) := (blk_cell BM.out 15).trans rfl; have p16 : w9.cell? ⟨gb, 16, none⟩ = some (.int .i64 a0_16) := (blk_cell BM.out 16).trans rfl; have p17 : w9.cell? ⟨gb, 17, none⟩ = some (.int .i64 a0_17) := (blk_cell BM.out 17).trans rfl; have p18 : w9.cell? ⟨gb, 18, none⟩ = some (.int .i64 a0_18) := (blk_cell BM.out 18).trans rfl; have p19 : w9.cell? ⟨gb, 19, none⟩ = some (.int .i64 a0_19) := (blk_cell BM.out 19).trans rfl; have p20 : w9.cell? ⟨gb, 20, none⟩ = some (.string a0_20) := (blk_cell BM.out 20).trans rfl) | (go_at_call 23; refine Calls.mono (wire_Text.raw_step HI.out A2.out HW.out) ?_; rintro e w9 ⟨rfl, v1, hi, hb, hk⟩; clear p13 p14 p15 p16 p17 p18 p19 p20; replace BM := Aside0.mk (wire_Text.far HI.out BM.out (Nat.ne_of_lt HLT.out) (by decide) hk); replace HI := Aside0.mk hi; replace HW : Aside0 (w5.heap.size ≤ w9.heap.size) := ⟨Nat.le_trans HW.out hb.size⟩; replace HB : Aside0 (Below w.heap.size w w9) := ⟨HB.out.trans (hb.mono HWW.out)⟩; clear hi hb hk; have p13 : w9.cell? ⟨gb, 13, none⟩ = some (.int .i64 a0_13) := (blk_cell BM.out 13).trans rfl; have p14 : w9.cell? ⟨gb, 14, none⟩ = some (.int .i64 a0_14) := (blk_cell BM.out 14).trans rfl; have p15 : w9.cell? ⟨gb, 15, none⟩ = some (.int .i64 a0_15) := (blk_cell BM.out 15).trans rfl; have p16 : w9.cell? ⟨gb, 16, none⟩ = some (.int .i64 a0_16) := (blk_cell BM.out 16).trans rfl; have p17 : w9.cell? ⟨gb, 17, none⟩ = some (.int .i64 a0_17) := (blk_cell BM.out 17).trans rfl; have p18 : w9.cell? ⟨gb, 18, none⟩ = some (.int .i64 a0_18) := (blk_cell BM.out 18).trans rfl; have p19 : w9.cell? ⟨gb, 19, none⟩ = some (.int .i64 a0_19) := (blk_cell BM.out 19).trans rfl; have p20 : w9.cell? ⟨gb, 20, none⟩ = some (.string a0_20) := (blk_cell BM.out 20).trans rfl) | (go_at_call 27; refine Calls.mono (oct_Writer_Bytes.wr w5.heap.size w5.heap.size _ r 0 _ HI.out HW.out) ?_; rintro e w14 ⟨rfl, v4, hi, hb, hk⟩; rw [if_pos rfl]; clear p13 p14 p15 p16 p17 p18 p19 p20; replace HB : Aside0 (Below w.heap.size w w14) := ⟨HB.out.trans (hb.mono HWW.out)⟩; clear hi hb hk))
      go_ret
      exact ⟨rfl, HB.out⟩
    have h := H.out
    clear H
    unfold wire_Text.body at h
    rw [if_neg c1] at h
    rw [if_neg c2] at h
    rw [if_neg c3] at h
    rw [if_neg c6] at h
    rw [if_neg c7] at h
    rw [if_neg c8] at h
    rw [if_neg c9] at h
    have t1 : (a0_0 == 1) = false := beq_eq_false_iff_ne.mpr c1
    have t2 : (a0_0 == 2) = false := beq_eq_false_iff_ne.mpr c2
    have t3 : (a0_0 == 3) = false := beq_eq_false_iff_ne.mpr c3
    have t6 : (a0_0 == 6) = false := beq_eq_false_iff_ne.mpr c6
    have t7 : (a0_0 == 7) = false := beq_eq_false_iff_ne.mpr c7
    have t8 : (a0_0 == 8) = false := beq_eq_false_iff_ne.mpr c8
    have t9 : (a0_0 == 9) = false := beq_eq_false_iff_ne.mpr c9
    clear c1 c2 c3 c6 c7 c8 c9
    obtain rfl := Option.some.inj h
    clear h
    go_wp2_with (first | (go_at_call 27; refine Calls.mono (oct_Writer_Bytes.wr w5.heap.size w5.heap.size _ _ 0 _ HI.out HW.out) ?_; rintro e w14 ⟨rfl, v4, hi, hb, hk⟩; rw [if_pos rfl]; replace HB : Aside0 (Below w.heap.size w w14) := ⟨HB.out.trans (hb.mono HWW.out)⟩; clear hi hb hk))
    go_ret
    exact ⟨rfl, HB.out⟩
def IsS110 (w0 W : World) (g : Nat) (f0 : ByteArray) (f1 : Int) : Prop := W.heap[g]? = some (.cells #[.string f0, .int .i64 f1] 110 (0, 0)) ∧ w0.heap.size ≤ g
theorem IsS110.grown {w0 W : World} {g : Nat} {f0 : ByteArray} {f1 : Int} {W1 : World} {row : Option Nat} (h : IsS110 w0 W g f0 f1) (hw : W.grownBy W1 row) (hne : some g ≠ row) : IsS110 w0 W1 g f0 f1 := by
 obtain ⟨hb, hg⟩ := h
 exact ⟨blk_grown hb hw hne, hg⟩
theorem IsS110.fresh {w0 W : World} {g : Nat} {f0 : ByteArray} {f1 : Int} (h : IsS110 w0 W g f0 f1) : ∀ k, W.heap.size ≤ k → k ≠ g := by
 obtain ⟨hb, hg⟩ := h
 exact Kd.freshB hb
theorem IsS110.kept {w0 W : World} {g : Nat} {f0 : ByteArray} {f1 : Int} {W1 : World} {S : Nat → Prop} (h : IsS110 w0 W g f0 f1) (hk : Kept W W1 S) (hne : ¬ S g) : IsS110 w0 W1 g f0 f1 := by
 obtain ⟨hb, hg⟩ := h
 exact ⟨blk_kept hb hk hne, hg⟩
theorem IsS110.below {w0 W : World} {g : Nat} {f0 : ByteArray} {f1 : Int} {W1 : World} (h : IsS110 w0 W g f0 f1) (hw : Below W.heap.size W W1) : IsS110 w0 W1 g f0 f1 := h.grown (grown_of_below hw none) (by simp)
theorem IsS110.alloc {w0 W : World} {g : Nat} {f0 : ByteArray} {f1 : Int} (h : IsS110 w0 W g f0 f1) (o : Obj) : IsS110 w0 (W.alloc o) g f0 f1 := h.below (below_alloc (Below.refl _ _) o)
theorem IsS110.drewN {w0 W : World} {g : Nat} {f0 : ByteArray} {f1 : Int} (h : IsS110 w0 W g f0 f1) (m : Nat) : IsS110 w0 (W.drewN m) g f0 f1 := h
theorem IsS110.drew {w0 W : World} {g : Nat} {f0 : ByteArray} {f1 : Int} (h : IsS110 w0 W g f0 f1) : IsS110 w0 W.drew g f0 f1 := h
theorem IsS110.at_ {w0 W : World} {g : Nat} {f0 : ByteArray} {f1 : Int} {w' : World} {m : Nat} (hq : W.drewN m = w') (h : IsS110 w0 W g f0 f1) : IsS110 w0 w' g f0 f1 := by subst hq; exact IsS110.drewN h m
theorem IsS110.apart {w0 W : World} {g : Nat} {f0 : ByteArray} {f1 : Int} {α : Type} {d : Kd α} {e : Nat} {base : Nat} {ok : Nat → Prop} {v : Value} {xs : List α} (h : IsS110 w0 W g f0 f1) (ho : d.R e W base ok v xs) (ht : ∀ q, q ∈ e :: d.E → q ≠ 110) : d.R e W base (fun k => ok k ∧ k ≠ g) v xs := by
 obtain ⟨hb, hg⟩ := h
 exact Kd.R_types ho hb ht
theorem IsS110.own_ne {w0 W : World} {g : Nat} {f0 : ByteArray} {f1 : Int} {α : Type} {d : Kd α} {e : Nat} {base : Nat} {ok : Nat → Prop} {v : Value} {xs : List α} (h : IsS110 w0 W g f0 f1) (ho : d.R e W base ok v xs) (ht : e ≠ 110) : some g ≠ v.ownBlock := by
 obtain ⟨hb, hg⟩ := h
 exact Kd.R_ne ho hb ht
theorem IsS110.lt {w0 W : World} {g : Nat} {f0 : ByteArray} {f1 : Int} (h : IsS110 w0 W g f0 f1) : g < W.heap.size := by
 obtain ⟨hb, hg⟩ := h
 exact blk_lt hb
theorem IsS110.ge {w0 W : World} {g : Nat} {f0 : ByteArray} {f1 : Int} (h : IsS110 w0 W g f0 f1) : w0.heap.size ≤ g := by
 obtain ⟨hb, hg⟩ := h
 exact hg
theorem IsS110.ne_blk {w0 W : World} {g : Nat} {f0 : ByteArray} {f1 : Int} {a : Nat} {cs : Array Value} {t : TypeId} {fr : Nat × Nat} (h : IsS110 w0 W g f0 f1) (hb2 : W.heap[a]? = some (.cells cs t fr)) (ht : t ≠ 110) : g ≠ a := by
 obtain ⟨hb, hg⟩ := h
 rintro rfl
 rw [hb] at hb2
 injection hb2 with hb2
 injection hb2 with _ ht2
 exact ht ht2.symm
theorem IsS110.far {w0 W : World} {g : Nat} {f0 : ByteArray} {f1 : Int} {p : Addr} (h : IsS110 w0 W g f0 f1) (hne : g ≠ p.block) (u : Value) : IsS110 w0 (W.setCell p u) g f0 f1 := by
 obtain ⟨hb, hg⟩ := h
 exact ⟨blk_far hb hne u, hg⟩
theorem cellS110_0 {W : World} {g : Nat} {f0 : ByteArray} {f1 : Int} (h : W.heap[g]? = some (.cells #[.string f0, .int .i64 f1] 110 (0, 0))) : W.cell? ⟨g, 0, none⟩ = some (.string f0) := (blk_cell h 0).trans rfl
theorem IsS110.set_0 {w0 W : World} {g : Nat} {f0 : ByteArray} {f1 : Int} (h : IsS110 w0 W g f0 f1) (x : ByteArray) : IsS110 w0 (W.setCell ⟨g, 0, none⟩ (.string x)) g x f1 := by
 obtain ⟨hb, hg⟩ := h
 exact ⟨by simpa using blk_set hb 0 (.string x), hg⟩
theorem cellS110_1 {W : World} {g : Nat} {f0 : ByteArray} {f1 : Int} (h : W.heap[g]? = some (.cells #[.string f0, .int .i64 f1] 110 (0, 0))) : W.cell? ⟨g, 1, none⟩ = some (.int .i64 f1) := (blk_cell h 1).trans rfl
theorem IsS110.set_1 {w0 W : World} {g : Nat} {f0 : ByteArray} {f1 : Int} (h : IsS110 w0 W g f0 f1) (x : Int) : IsS110 w0 (W.setCell ⟨g, 1, none⟩ (.int .i64 x)) g f0 x := by
 obtain ⟨hb, hg⟩ := h
 exact ⟨by simpa using blk_set hb 1 (.int .i64 x), hg⟩
/-! ### oct_From: function 32 -/
def oct_From.f (a0 : ByteArray) : Option (ByteArray × Int) := some (a0, 0)
set_option maxHeartbeats 8000000 in
set_option maxRecDepth 100000 in
theorem oct_From.calls (a0 : ByteArray) (r1 : ByteArray) (r2 : Int) (w0 w : World) (hB : Below w0.heap.size w0 w) (h : oct_From.f a0 = some (r1, r2)) :
  Calls Try.prog 32 #[.string a0] w fun e w' => ∃ g_ : Nat, e = .returned (.pointer (some ⟨g_, 0, none⟩)) ∧ IsS110 w0 w' g_ r1 r2 ∧ Below w0.heap.size w0 w' ∧ Below w.heap.size w w' := by
 have hu110 := Try.underlying110; have HBW := Aside0.mk (Below.refl w.heap.size w)
 have HW0 := Aside0.mk hB.size
 have HB := Aside0.mk hB
 clear hB; have H : (some (a0, 0)) = some (r1, r2) := h
 clear h; simp only [Option.some.injEq, Prod.mk.injEq] at H
 obtain ⟨rfl, rfl⟩ := H
 go_enter Try.func32, Try.ntmps32
 go_wp2_with (first | ((with_reducible refine gate_dst (N := 5) rfl ?_); refine box_event ?hg (N := 5) ?hd (cs := #[.string a0, .int .i64 0]) (t := 110) ?hr ?_; (case hd => rfl); (case hg => rfl); (case hr => first | (go_simp; done) | (go_simp; rfl)); intro gb125 hg w2 hbox hb; have n0_ := Aside0.mk (below_step HBW.out hb); have n1_ := Aside0.mk (below_step zB hb); have n2_ := Aside0.mk (hbox); have n3_ := Aside0.mk ((by rw [hg]; exact (below_size (by repeat (first | (with_reducible first | exact HBW.out | apply below_alloc | apply pw_below_drewN | apply below_drew1) | exact HBW.out))) : w.heap.size ≤ gb125)); have n4_ := Aside0.mk ((Nat.le_trans HW0.out (by rw [hg]; exact (below_size (by repeat (first | (with_reducible first | exact HBW.out | apply below_alloc | apply pw_below_drewN | apply below_drew1) | exact HBW.out))) : w.heap.size ≤ gb125) : w0.heap.size ≤ gb125)); clear HBW; clear HB; have HBW := n0_; have HB := n1_; have BK125 := n2_; have GW125 := n3_; have GE125 := n4_; clear n0_ n1_ n2_ n3_ n4_; clear hb hbox hg))
 go_ret
 exact ⟨_, rfl, (show IsS110 w0 _ gb125 a0 0 from ⟨zk BK125, GE125.out⟩), zB, by repeat (first | (with_reducible first | exact HBW.out | apply below_alloc | apply pw_below_drewN | apply below_drew1 | refine below_set ?_ GW125.out) | exact HBW.out)⟩
/-! ### oct_Get: function 61 -/
def oct_Get.go : List UInt8 → Int → Int
  | [], n => n
  | c :: l, n => oct_Get.go l (Go.bits .or .i64 (wrap64 (n * 256)) (wrap64 (c.toNat : Int)))
theorem oct_Get.go_nil (n : Int) : oct_Get.go [] n = n := rfl
theorem oct_Get.go_cons (c : UInt8) (l : List UInt8) (n : Int) : oct_Get.go (c :: l) n = oct_Get.go l (Go.bits .or .i64 (wrap64 (n * 256)) (wrap64 (c.toNat : Int))) := rfl
def oct_Get.f (a0 : ByteArray) : Option Int := some (if a0.size > 7 then 0 else oct_Get.go a0.data.toList 0)
set_option maxHeartbeats 1000000 in
set_option maxRecDepth 100000 in
theorem oct_Get.calls (a0 : ByteArray) (r : Int) (w : World) (h : oct_Get.f a0 = some r) :
    Calls Try.prog 61 #[.string a0] w fun e w' => e = .returned (.int .i64 r) ∧ Drawn0 w w' := by
  have h := Option.some.inj h
  by_cases hs : a0.size > 7
  · rw [if_pos hs] at h
    subst h
    have hs' : (7 : Int) < (a0.size : Int) := by omega
    go_enter Try.func61, Try.ntmps61
    go_wp2
    go_step3
    go_wp2
    try rw [Exit.noGoto_ret]
    go_ret
    exact ⟨rfl, Drawn0.refl _⟩
  · rw [if_neg hs] at h
    have hs' : ¬ (7 : Int) < (a0.size : Int) := by omega
    have HH := Aside0.mk h
    have HS : Aside0 (a0.size ≤ 7) := ⟨by omega⟩
    clear h hs
    go_enter Try.func61, Try.ntmps61
    go_wp2
    refine wp_scope_jumps 0 (fun a' w' => Drawn0 w w' ∧ ∃ (s : ByteArray) (n : Int) (u4 u5 u6 u7 u8 u9 u10 u11 u12 u13 u14 u15 u16 u17 : Value), a' = { tmps := #[.string s, undef, .int .i64 0, .int .i64 n, u4, u5, u6, u7, u8, u9, u10, u11, u12, u13, u14, u15, u16, u17], defers := [] } ∧ oct_Get.go s.data.toList n = r ∧ s.size ≤ 7) (fun a' _ => match a'.tmps.getD 0 undef with | .string s => s.size | _ => 0) rfl ?_ ?_
    · go_wp2
      go_step3
      by_cases he : a0.size = 0
      · have h1 : a0.toList = [] := bytes_nil a0 he
        have h2 : (!a0.toList.isEmpty) = false := by rw [h1]; rfl
        go_wp2
        simp only [Exit.jump]
        try rw [Exit.noGoto_ret]
        go_ret
        have hl : a0.data.toList = [] := List.eq_nil_of_length_eq_zero (by rw [Array.length_toList]; exact he)
        have hh := HH.out
        rw [hl] at hh
        exact ⟨by rw [← hh]; rfl, Drawn0.refl _⟩
      · have h0 : 0 < a0.size := by omega
        have h1 : a0.toList ≠ [] := bytes_ne a0 h0
        have h2 : (!a0.toList.isEmpty) = true := by rw [bytes_nonempty a0 h0]; rfl
        have h3 : (a0.toList == ([] : List UInt8)) = false := beq_eq_false_iff_ne.mpr h1
        go_wp2
        go_quiet (fail)
        go_wp2
        go_step3
        have hh := HH.out
        have hs7 := HS.out
        rw [list_cons a0 h0] at hh
        exact ⟨rfl, ⟨_, rfl⟩, _, _, _, _, _, _, _, _, _, _, _, _, _, _, _, _, rfl, by rw [← hh, oct_Get.go, show wrap64 (0 * 256) = 0 from by unfold wrap64; omega], by rw [size_extract_end]; omega⟩
    · rintro a' w' ⟨⟨q, rfl⟩, s, n, u4, u5, u6, u7, u8, u9, u10, u11, u12, u13, u14, u15, u16, u17, rfl, hh, hs7⟩
      have HH2 := Aside0.mk hh
      have HS2 := Aside0.mk hs7
      clear hh hs7 HH HS hs'
      by_cases he : s.size = 0
      · have h1 : s.toList = [] := bytes_nil s he
        have h2 : (!s.toList.isEmpty) = false := by rw [h1]; rfl
        go_wp2
        simp only [Exit.jump]
        try rw [Exit.noGoto_ret]
        go_ret
        have hl : s.data.toList = [] := List.eq_nil_of_length_eq_zero (by rw [Array.length_toList]; exact he)
        have hh := HH2.out
        rw [hl] at hh
        exact ⟨by rw [← hh]; rfl, ⟨_, rfl⟩⟩
      · have h0 : 0 < s.size := by have := HS2.out; omega
        have h1 : s.toList ≠ [] := bytes_ne s h0
        have h2 : (!s.toList.isEmpty) = true := by rw [bytes_nonempty s h0]; rfl
        have h3 : (s.toList == ([] : List UInt8)) = false := beq_eq_false_iff_ne.mpr h1
        go_wp2
        go_quiet (fail)
        go_wp2
        go_step3
        have hh := HH2.out
        have hs7 := HS2.out
        rw [list_cons s h0] at hh
        refine ⟨rfl, ⟨⟨_, World.drewN_drewN _ _ _⟩, _, _, _, _, _, _, _, _, _, _, _, _, _, _, _, _, rfl, by rw [← hh, oct_Get.go], by rw [size_extract_end]; omega⟩, ?_⟩
        show (s.extract 1 s.size).size < s.size
        rw [size_extract_end]
        omega
/-! ### oct_Reader_cut: function 62 -/
def oct_Reader_cut.f (s0_0 : ByteArray) (s0_1 : Int) (a1 : Int) : Option (ByteArray × ByteArray × Int) := if s0_1 = 0 then (if a1 < 0 then (some ((⟨#[]⟩ : ByteArray), s0_0, 1)) else (if a1 > (s0_0.size : Int) then (some ((⟨#[]⟩ : ByteArray), s0_0, 7)) else (if 0 ≤ a1 then (if a1 ≤ (s0_0.size : Int) then (some (s0_0.extract 0 (a1 : Int).toNat, s0_0.extract (a1 : Int).toNat s0_0.size, s0_1)) else (none)) else (none)))) else (some ((⟨#[]⟩ : ByteArray), s0_0, s0_1))
set_option maxHeartbeats 8000000 in
set_option maxRecDepth 100000 in
theorem oct_Reader_cut.calls (g : Nat) (s0_0 : ByteArray) (s0_1 : Int) (a1 : Int) (r1 : ByteArray) (r2 : ByteArray) (r3 : Int) (w0 w : World) (hI : IsS110 w0 w g s0_0 s0_1) (hB : Below w0.heap.size w0 w) (h : oct_Reader_cut.f s0_0 s0_1 a1 = some (r1, r2, r3)) :
  Calls Try.prog 62 #[.pointer (some ⟨g, 0, none⟩), .int .i64 a1] w fun e w' => e = .returned (.string r1) ∧ IsS110 w0 w' g r2 r3 ∧ Below w0.heap.size w0 w' ∧ KeepBut w w' g none := by
 have HI0 := Aside0.mk hI
 have HK := Aside0.mk (KeepBut.refl w g none)
 have HL := Aside0.mk hB.size
 clear hI; have HW0 := Aside0.mk hB.size
 have HB := Aside0.mk hB
 clear hB; have H : (if s0_1 = 0 then (if a1 < 0 then (some ((⟨#[]⟩ : ByteArray), s0_0, 1)) else (if a1 > (s0_0.size : Int) then (some ((⟨#[]⟩ : ByteArray), s0_0, 7)) else (if 0 ≤ a1 then (if a1 ≤ (s0_0.size : Int) then (some (s0_0.extract 0 (a1 : Int).toNat, s0_0.extract (a1 : Int).toNat s0_0.size, s0_1)) else (none)) else (none)))) else (some ((⟨#[]⟩ : ByteArray), s0_0, s0_1))) = some (r1, r2, r3) := h
 clear h; by_cases c3 : s0_1 = 0
 ·
  rw [if_pos c3] at H
  have c3b0 : (s0_1 == 0) = true := beq_iff_eq.mpr c3
  have c3b1 : (s0_1 != 0) = false := bne_eq_false_iff_eq.mpr c3
  clear c3; by_cases c4 : a1 < 0
  ·
   rw [if_pos c4] at H
   have c4b0 : decide (a1 < 0) = true := decide_eq_true c4
   clear c4; simp only [Option.some.injEq, Prod.mk.injEq] at H
   obtain ⟨rfl, rfl, rfl⟩ := H
   obtain ⟨HGz5, hgz5⟩ := HI0.out
   have hcz5_0 := cellS110_0 HGz5
   have hcz5_1 := cellS110_1 HGz5
   have hfz5_0 := blk_frozen HGz5 0; have hfz5_1 := blk_frozen HGz5 1; clear HGz5 hgz5; go_enter Try.func62, Try.ntmps62
   go_wp2
   go_ret
   exact ⟨zE, by repeat (first | (with_reducible first | exact HI0.out | apply IsS110.alloc | apply IsS110.drewN | apply IsS110.drew | apply IsS110.set_0 | apply IsS110.set_1) | exact HI0.out), by repeat (first | (with_reducible first | exact HB.out | apply below_alloc | apply pw_below_drewN | apply below_drew1 | refine below_set ?_ (IsS110.ge HI0.out)) | exact HB.out), by repeat (first | (with_reducible first | exact HK.out | apply KeepBut.set_ | apply keep_drewN | apply keep_drew | apply keep_alloc) | exact HK.out)⟩
  ·
   rw [if_neg c4] at H
   have c4b0 : decide (a1 < 0) = false := decide_eq_false c4
   clear c4; by_cases c6 : a1 > (s0_0.size : Int)
   ·
    rw [if_pos c6] at H
    have c6b0 : decide ((s0_0.size : Int) < a1) = true := decide_eq_true c6
    clear c6; simp only [Option.some.injEq, Prod.mk.injEq] at H
    obtain ⟨rfl, rfl, rfl⟩ := H
    obtain ⟨HGz7, hgz7⟩ := HI0.out
    have hcz7_0 := cellS110_0 HGz7
    have hcz7_1 := cellS110_1 HGz7
    have hfz7_0 := blk_frozen HGz7 0; have hfz7_1 := blk_frozen HGz7 1; clear HGz7 hgz7; go_enter Try.func62, Try.ntmps62
    go_wp2
    go_ret
    exact ⟨zE, by repeat (first | (with_reducible first | exact HI0.out | apply IsS110.alloc | apply IsS110.drewN | apply IsS110.drew | apply IsS110.set_0 | apply IsS110.set_1) | exact HI0.out), by repeat (first | (with_reducible first | exact HB.out | apply below_alloc | apply pw_below_drewN | apply below_drew1 | refine below_set ?_ (IsS110.ge HI0.out)) | exact HB.out), by repeat (first | (with_reducible first | exact HK.out | apply KeepBut.set_ | apply keep_drewN | apply keep_drew | apply keep_alloc) | exact HK.out)⟩
   ·
    rw [if_neg c6] at H
    have c6b0 : decide ((s0_0.size : Int) < a1) = false := decide_eq_false c6
    clear c6; by_cases c8 : 0 ≤ a1
    ·
     rw [if_pos c8] at H
     have c8b0 := eq_true c8
     have c8b1 : decide (0 ≤ a1) = true := decide_eq_true c8
     clear c8; by_cases c9 : a1 ≤ (s0_0.size : Int)
     ·
      rw [if_pos c9] at H
      have c9b0 := eq_true c9
      have c9b1 : decide (a1 ≤ (s0_0.size : Int)) = true := decide_eq_true c9
      clear c9; have c10b0 := eq_true (of_decide_eq_true zA : 0 ≤ a1)
      have c11b0 := eq_true (of_decide_eq_true zA : a1 ≤ (s0_0.size : Int))
      simp only [Option.some.injEq, Prod.mk.injEq] at H
      obtain ⟨rfl, rfl, rfl⟩ := H
      obtain ⟨HGz12, hgz12⟩ := HI0.out
      have hcz12_0 := cellS110_0 HGz12
      have hcz12_1 := cellS110_1 HGz12
      have hfz12_0 := blk_frozen HGz12 0; have hfz12_1 := blk_frozen HGz12 1; clear HGz12 hgz12; go_enter Try.func62, Try.ntmps62
      go_wp2
      go_ret
      exact ⟨zE, by repeat (first | (with_reducible first | exact HI0.out | apply IsS110.alloc | apply IsS110.drewN | apply IsS110.drew | apply IsS110.set_0 | apply IsS110.set_1) | exact HI0.out), by repeat (first | (with_reducible first | exact HB.out | apply below_alloc | apply pw_below_drewN | apply below_drew1 | refine below_set ?_ (IsS110.ge HI0.out)) | exact HB.out), by repeat (first | (with_reducible first | exact HK.out | apply KeepBut.set_ | apply keep_drewN | apply keep_drew | apply keep_alloc) | exact HK.out)⟩
     ·
      rw [if_neg c9] at H
      exact absurd H (by simp)
    ·
     rw [if_neg c8] at H
     exact absurd H (by simp)
 ·
  rw [if_neg c3] at H
  have c3b0 : (s0_1 == 0) = false := beq_eq_false_iff_ne.mpr c3
  have c3b1 : (s0_1 != 0) = true := bne_iff_ne.mpr c3
  simp only [Option.some.injEq, Prod.mk.injEq] at H
  obtain ⟨rfl, rfl, rfl⟩ := H
  obtain ⟨HGz13, hgz13⟩ := HI0.out
  have hcz13_0 := cellS110_0 HGz13
  have hcz13_1 := cellS110_1 HGz13
  have hfz13_0 := blk_frozen HGz13 0; have hfz13_1 := blk_frozen HGz13 1; clear HGz13 hgz13; go_enter Try.func62, Try.ntmps62
  go_wp2
  go_ret
  exact ⟨zE, by repeat (first | (with_reducible first | exact HI0.out | apply IsS110.alloc | apply IsS110.drewN | apply IsS110.drew | apply IsS110.set_0 | apply IsS110.set_1) | exact HI0.out), by repeat (first | (with_reducible first | exact HB.out | apply below_alloc | apply pw_below_drewN | apply below_drew1 | refine below_set ?_ (IsS110.ge HI0.out)) | exact HB.out), by repeat (first | (with_reducible first | exact HK.out | apply KeepBut.set_ | apply keep_drewN | apply keep_drew | apply keep_alloc) | exact HK.out)⟩
/-! ### oct_Reader_Num: function 33 -/
def oct_Reader_Num.j0 : Nat → Int → Bool → ByteArray → Int → Option (Int × ByteArray × Int)
 | 0, _, _, _, _ => none
 | k + 1, x1, x12, x1000, x1001 => if x12 = true then ((oct_Reader_cut.f x1000 x1001 (-1)).bind fun bt126 => ((oct_Get.f bt126.1).bind fun t129 => (some (t129, bt126.2.1, bt126.2.2)))) else ((oct_Reader_cut.f x1000 x1001 x1).bind fun bt130 => ((oct_Get.f bt130.1).bind fun t133 => (some (t133, bt130.2.1, bt130.2.2))))
def oct_Reader_Num.f (k : Nat) (s0_0 : ByteArray) (s0_1 : Int) (a1 : Int) : Option (Int × ByteArray × Int) := if a1 < 1 then (oct_Reader_Num.j0 k a1 true s0_0 s0_1) else (oct_Reader_Num.j0 k a1 (decide (a1 > 7)) s0_0 s0_1)
theorem oct_Reader_Num.mono_l : ∀ k, (∀ y0 y1 y2 y3, LeO (oct_Reader_Num.j0 k y0 y1 y2 y3) (oct_Reader_Num.j0 (k + 1) y0 y1 y2 y3))
 | 0 => fun _ _ _ _ r h => by simp [oct_Reader_Num.j0] at h
 | k + 1 => by
  have ih0 := oct_Reader_Num.mono_l k
  ·
   intro y0 y1 y2 y3
   unfold oct_Reader_Num.j0
   repeat' first | (with_reducible first | apply ih0 | exact LeO.refl _ | exact LeO.none _ | refine LeO.ite ?_ ?_ | refine LeO.bind ?_ (fun _ => ?_)) | apply ih0 | exact LeO.none _ | refine LeO.ite ?_ ?_ | refine LeO.bind ?_ (fun _ => ?_)
theorem oct_Reader_Num.mono : ∀ a0 a1 a2 k, LeO (oct_Reader_Num.f k a0 a1 a2) (oct_Reader_Num.f (k + 1) a0 a1 a2) := by
 intro a0 a1 a2 k
 have ih0 := oct_Reader_Num.mono_l k
 unfold oct_Reader_Num.f
 repeat' first | (with_reducible first | apply ih0 | exact LeO.refl _ | exact LeO.none _ | refine LeO.ite ?_ ?_ | refine LeO.bind ?_ (fun _ => ?_)) | apply ih0 | exact LeO.none _ | refine LeO.ite ?_ ?_ | refine LeO.bind ?_ (fun _ => ?_)
set_option maxHeartbeats 8000000 in
set_option maxRecDepth 100000 in
theorem oct_Reader_Num.calls (k : Nat) (g : Nat) (s0_0 : ByteArray) (s0_1 : Int) (a1 : Int) (r1 : Int) (r2 : ByteArray) (r3 : Int) (w0 w : World) (hI : IsS110 w0 w g s0_0 s0_1) (hB : Below w0.heap.size w0 w) (h : oct_Reader_Num.f k s0_0 s0_1 a1 = some (r1, r2, r3)) :
  Calls Try.prog 33 #[.pointer (some ⟨g, 0, none⟩), .int .i64 a1] w fun e w' => e = .returned (.int .i64 r1) ∧ IsS110 w0 w' g r2 r3 ∧ Below w0.heap.size w0 w' ∧ KeepBut w w' g none := by
 have HI0 := Aside0.mk hI
 have HK := Aside0.mk (KeepBut.refl w g none)
 have HL := Aside0.mk hB.size
 clear hI; have HW0 := Aside0.mk hB.size
 have HB := Aside0.mk hB
 clear hB; have H : (if a1 < 1 then (oct_Reader_Num.j0 k a1 true s0_0 s0_1) else (oct_Reader_Num.j0 k a1 (decide (a1 > 7)) s0_0 s0_1)) = some (r1, r2, r3) := h
 clear h; have HC3 := Aside0.mk H
 clear H; go_enter Try.func33, Try.ntmps33
 go_upto_region 3 with (fail)
 go_cut [12] (fun v12 wc => ∃ (kq : Nat) (x12_2 : Bool), v12 = .bool x12_2 ∧ Aside0 (oct_Reader_Num.j0 kq a1 x12_2 s0_0 s0_1 = some (r1, r2, r3)) ∧ Aside0 (kq ≤ k) ∧ Aside0 (IsS110 w0 wc g s0_0 s0_1) ∧ Aside0 (KeepBut w wc g none) ∧ Aside0 (Below w0.heap.size w0 wc))
 case first =>
  have H := HC3.out; clear HC3; by_cases c4 : a1 < 1
  ·
   rw [if_pos c4] at H
   have c4b0 : decide (a1 < 1) = true := decide_eq_true c4
   clear c4; (first | rw [c4b0] | (simp only [i64_w, i32_w]; rw [c4b0]) | skip)
   have H' := Aside0.mk H
   clear H; go_wp2
   go_meet
   case rel => exact ⟨_, (true), zF, H', ⟨by first | omega | exact Nat.le_refl _⟩, ⟨by repeat (first | (with_reducible first | exact HI0.out | apply IsS110.alloc | apply IsS110.drewN | apply IsS110.drew | apply IsS110.set_0 | apply IsS110.set_1) | exact HI0.out)⟩, ⟨by repeat (first | (with_reducible first | exact HK.out | apply KeepBut.set_ | apply keep_drewN | apply keep_drew | apply keep_alloc) | exact HK.out)⟩, ⟨by repeat (first | (with_reducible first | exact HB.out | apply below_alloc | apply pw_below_drewN | apply below_drew1 | refine below_set ?_ (IsS110.ge HI0.out)) | exact HB.out)⟩⟩
  ·
   rw [if_neg c4] at H
   have c4b0 : decide (a1 < 1) = false := decide_eq_false c4
   clear c4; (first | rw [c4b0] | (simp only [i64_w, i32_w]; rw [c4b0]) | skip)
   have H' := Aside0.mk H
   clear H; go_wp2
   go_meet
   case rel => exact ⟨_, (decide (a1 > 7)), zF, H', ⟨by first | omega | exact Nat.le_refl _⟩, ⟨by repeat (first | (with_reducible first | exact HI0.out | apply IsS110.alloc | apply IsS110.drewN | apply IsS110.drew | apply IsS110.set_0 | apply IsS110.set_1) | exact HI0.out)⟩, ⟨by repeat (first | (with_reducible first | exact HK.out | apply KeepBut.set_ | apply keep_drewN | apply keep_drew | apply keep_alloc) | exact HK.out)⟩, ⟨by repeat (first | (with_reducible first | exact HB.out | apply below_alloc | apply pw_below_drewN | apply below_drew1 | refine below_set ?_ (IsS110.ge HI0.out)) | exact HB.out)⟩⟩
 case rest =>
  clear HC3; obtain ⟨kq, x12_2, rfl, HA, HJ2, HI0, HK, HB⟩ := hcut
  cases kq with
  | zero => exact absurd HA.out (by simp [oct_Reader_Num.j0])
  | succ kj2 =>
   have H := HA.out; clear HA; simp only [oct_Reader_Num.j0] at H
   by_cases c5 : x12_2 = true
   ·
    subst c5
    have H1 : ((oct_Reader_cut.f s0_0 s0_1 (-1)).bind fun bt126 => ((oct_Get.f bt126.1).bind fun t129 => (some (t129, bt126.2.1, bt126.2.2)))) = some (r1, r2, r3) := by rw [if_pos rfl] at H; exact H
    clear H; have H := H1; clear H1; replace H := Option.bind_eq_some_iff.mp H
    obtain ⟨⟨t126, t127, t128⟩, A60, H⟩ := H
    replace H : ((oct_Get.f t126).bind fun t129 => (some (t129, t127, t128))) = some (r1, r2, r3) := H
    have A6 := Aside0.mk A60
    clear A60; replace H := Option.bind_eq_some_iff.mp H
    obtain ⟨t129, A70, H⟩ := H
    replace H : (some (t129, t127, t128)) = some (r1, r2, r3) := H
    have A7 := Aside0.mk A70
    clear A70; simp only [Option.some.injEq, Prod.mk.injEq] at H
    obtain ⟨rfl, rfl, rfl⟩ := H
    go_wp2_with (first | ((with_reducible refine gate_callee (f := 62) rfl ?_); refine goesL_ (some 15) rfl rfl Try.func62 (by kernel_rfl) rfl #[.pointer (some ⟨g, 0, none⟩), .int .i64 (-1)] rfl zM ?_; (with_reducible refine (oct_Reader_cut.calls g s0_0 s0_1 (-1) t126 t127 t128 w0 _ ?side1 ?side2 A6.out).mono ?_); (case side1 => repeat (first | (with_reducible first | exact HI0.out | apply IsS110.alloc | apply IsS110.drewN | apply IsS110.drew | apply IsS110.set_0 | apply IsS110.set_1) | exact HI0.out)); (case side2 => repeat (first | (with_reducible first | exact HB.out | apply below_alloc | apply pw_below_drewN | apply below_drew1 | refine below_set ?_ (IsS110.ge HI0.out)) | exact HB.out)); rintro e w8 ⟨rfl, hi, hb, hk⟩; refine ⟨_, rfl, ?_⟩; replace HK := Aside0.mk (KeepBut.trans (by repeat (first | (with_reducible first | exact HK.out | apply KeepBut.set_ | apply keep_drewN | apply keep_drew | apply keep_alloc) | exact HK.out)) hk (.inl rfl)); replace HI0 := Aside0.mk (hi); replace HB := Aside0.mk (hb); (try clear hb); (try clear hb2); (try clear hk); (try clear hi)) | ((with_reducible refine gate_callee (f := 61) rfl ?_); refine goesL_ (some 16) rfl rfl Try.func61 (by kernel_rfl) rfl #[.string t126] rfl zM ?_; (with_reducible refine (oct_Get.calls t126 t129 _ A7.out).mono ?_); rintro e w' ⟨rfl, ⟨nd, rfl⟩⟩; refine ⟨_, rfl, ?_⟩))
    go_ret
    exact ⟨zE, by repeat (first | (with_reducible first | exact HI0.out | apply IsS110.alloc | apply IsS110.drewN | apply IsS110.drew | apply IsS110.set_0 | apply IsS110.set_1) | exact HI0.out), by repeat (first | (with_reducible first | exact HB.out | apply below_alloc | apply pw_below_drewN | apply below_drew1 | refine below_set ?_ (IsS110.ge HI0.out)) | exact HB.out), by repeat (first | (with_reducible first | exact HK.out | apply KeepBut.set_ | apply keep_drewN | apply keep_drew | apply keep_alloc) | exact HK.out)⟩
   ·
    replace c5 := Bool.eq_false_iff.mpr c5
    subst c5
    have H1 : ((oct_Reader_cut.f s0_0 s0_1 a1).bind fun bt130 => ((oct_Get.f bt130.1).bind fun t133 => (some (t133, bt130.2.1, bt130.2.2)))) = some (r1, r2, r3) := by rw [if_neg (show ¬ (false = true) by decide)] at H; exact H
    clear H; have H := H1; clear H1; replace H := Option.bind_eq_some_iff.mp H
    obtain ⟨⟨t130, t131, t132⟩, A90, H⟩ := H
    replace H : ((oct_Get.f t130).bind fun t133 => (some (t133, t131, t132))) = some (r1, r2, r3) := H
    have A9 := Aside0.mk A90
    clear A90; replace H := Option.bind_eq_some_iff.mp H
    obtain ⟨t133, A100, H⟩ := H
    replace H : (some (t133, t131, t132)) = some (r1, r2, r3) := H
    have A10 := Aside0.mk A100
    clear A100; simp only [Option.some.injEq, Prod.mk.injEq] at H
    obtain ⟨rfl, rfl, rfl⟩ := H
    go_wp2_with (first | ((with_reducible refine gate_callee (f := 62) rfl ?_); refine goesL_ (some 15) rfl rfl Try.func62 (by kernel_rfl) rfl #[.pointer (some ⟨g, 0, none⟩), .int .i64 a1] rfl zM ?_; (with_reducible refine (oct_Reader_cut.calls g s0_0 s0_1 a1 t130 t131 t132 w0 _ ?side1 ?side2 A9.out).mono ?_); (case side1 => repeat (first | (with_reducible first | exact HI0.out | apply IsS110.alloc | apply IsS110.drewN | apply IsS110.drew | apply IsS110.set_0 | apply IsS110.set_1) | exact HI0.out)); (case side2 => repeat (first | (with_reducible first | exact HB.out | apply below_alloc | apply pw_below_drewN | apply below_drew1 | refine below_set ?_ (IsS110.ge HI0.out)) | exact HB.out)); rintro e w11 ⟨rfl, hi, hb, hk⟩; refine ⟨_, rfl, ?_⟩; replace HK := Aside0.mk (KeepBut.trans (by repeat (first | (with_reducible first | exact HK.out | apply KeepBut.set_ | apply keep_drewN | apply keep_drew | apply keep_alloc) | exact HK.out)) hk (.inl rfl)); replace HI0 := Aside0.mk (hi); replace HB := Aside0.mk (hb); (try clear hb); (try clear hb2); (try clear hk); (try clear hi)) | ((with_reducible refine gate_callee (f := 61) rfl ?_); refine goesL_ (some 16) rfl rfl Try.func61 (by kernel_rfl) rfl #[.string t130] rfl zM ?_; (with_reducible refine (oct_Get.calls t130 t133 _ A10.out).mono ?_); rintro e w' ⟨rfl, ⟨nd, rfl⟩⟩; refine ⟨_, rfl, ?_⟩))
    go_ret
    exact ⟨zE, by repeat (first | (with_reducible first | exact HI0.out | apply IsS110.alloc | apply IsS110.drewN | apply IsS110.drew | apply IsS110.set_0 | apply IsS110.set_1) | exact HI0.out), by repeat (first | (with_reducible first | exact HB.out | apply below_alloc | apply pw_below_drewN | apply below_drew1 | refine below_set ?_ (IsS110.ge HI0.out)) | exact HB.out), by repeat (first | (with_reducible first | exact HK.out | apply KeepBut.set_ | apply keep_drewN | apply keep_drew | apply keep_alloc) | exact HK.out)⟩
/-! ### oct_Reader_Rest: function 34 -/
def oct_Reader_Rest.f (s0_0 : ByteArray) (s0_1 : Int) : Option (ByteArray × ByteArray × Int) := (oct_Reader_cut.f s0_0 s0_1 (s0_0.size : Int)).bind fun bt134 => (some (bt134.1, bt134.2.1, bt134.2.2))
set_option maxHeartbeats 8000000 in
set_option maxRecDepth 100000 in
theorem oct_Reader_Rest.calls (g : Nat) (s0_0 : ByteArray) (s0_1 : Int) (r1 : ByteArray) (r2 : ByteArray) (r3 : Int) (w0 w : World) (hI : IsS110 w0 w g s0_0 s0_1) (hB : Below w0.heap.size w0 w) (h : oct_Reader_Rest.f s0_0 s0_1 = some (r1, r2, r3)) :
  Calls Try.prog 34 #[.pointer (some ⟨g, 0, none⟩)] w fun e w' => e = .returned (.string r1) ∧ IsS110 w0 w' g r2 r3 ∧ Below w0.heap.size w0 w' ∧ KeepBut w w' g none := by
 have HI0 := Aside0.mk hI
 have HK := Aside0.mk (KeepBut.refl w g none)
 have HL := Aside0.mk hB.size
 clear hI; have HW0 := Aside0.mk hB.size
 have HB := Aside0.mk hB
 clear hB; have H : ((oct_Reader_cut.f s0_0 s0_1 (s0_0.size : Int)).bind fun bt134 => (some (bt134.1, bt134.2.1, bt134.2.2))) = some (r1, r2, r3) := h
 clear h; replace H := Option.bind_eq_some_iff.mp H
 obtain ⟨⟨t134, t135, t136⟩, A20, H⟩ := H
 replace H : (some (t134, t135, t136)) = some (r1, r2, r3) := H
 have A2 := Aside0.mk A20
 clear A20; simp only [Option.some.injEq, Prod.mk.injEq] at H
 obtain ⟨rfl, rfl, rfl⟩ := H
 obtain ⟨HGz3, hgz3⟩ := HI0.out
 have hcz3_0 := cellS110_0 HGz3
 have hcz3_1 := cellS110_1 HGz3
 have hfz3_0 := blk_frozen HGz3 0; have hfz3_1 := blk_frozen HGz3 1; clear HGz3 hgz3; go_enter Try.func34, Try.ntmps34
 go_wp2_with (first | ((with_reducible refine gate_callee (f := 62) rfl ?_); refine goesL_ (some 11) rfl rfl Try.func62 (by kernel_rfl) rfl #[.pointer (some ⟨g, 0, none⟩), .int .i64 (s0_0.size : Int)] rfl zM ?_; (with_reducible refine (oct_Reader_cut.calls g s0_0 s0_1 (s0_0.size : Int) t134 t135 t136 w0 _ ?side1 ?side2 A2.out).mono ?_); (case side1 => repeat (first | (with_reducible first | exact HI0.out | apply IsS110.alloc | apply IsS110.drewN | apply IsS110.drew | apply IsS110.set_0 | apply IsS110.set_1) | exact HI0.out)); (case side2 => repeat (first | (with_reducible first | exact HB.out | apply below_alloc | apply pw_below_drewN | apply below_drew1 | refine below_set ?_ (IsS110.ge HI0.out)) | exact HB.out)); rintro e w4 ⟨rfl, hi, hb, hk⟩; refine ⟨_, rfl, ?_⟩; replace HK := Aside0.mk (KeepBut.trans (by repeat (first | (with_reducible first | exact HK.out | apply KeepBut.set_ | apply keep_drewN | apply keep_drew | apply keep_alloc) | exact HK.out)) hk (.inl rfl)); replace HI0 := Aside0.mk (hi); replace HB := Aside0.mk (hb); (try clear hb); (try clear hb2); (try clear hk); (try clear hi)))
 go_ret
 exact ⟨zE, by repeat (first | (with_reducible first | exact HI0.out | apply IsS110.alloc | apply IsS110.drewN | apply IsS110.drew | apply IsS110.set_0 | apply IsS110.set_1) | exact HI0.out), by repeat (first | (with_reducible first | exact HB.out | apply below_alloc | apply pw_below_drewN | apply below_drew1 | refine below_set ?_ (IsS110.ge HI0.out)) | exact HB.out), by repeat (first | (with_reducible first | exact HK.out | apply KeepBut.set_ | apply keep_drewN | apply keep_drew | apply keep_alloc) | exact HK.out)⟩
/-! ### oct_Reader_Text: function 35 -/
def oct_Reader_Text.f (s0_0 : ByteArray) (s0_1 : Int) : Option (ByteArray × ByteArray × Int) := (oct_Reader_cut.f s0_0 s0_1 2).bind fun bt137 => ((oct_Get.f bt137.1).bind fun t140 => ((oct_Reader_cut.f bt137.2.1 bt137.2.2 t140).bind fun bt141 => (if bt141.2.2 = 0 then (some (bt141.1, bt141.2.1, bt141.2.2)) else (some (bt141.1, s0_0, bt141.2.2)))))
set_option maxHeartbeats 8000000 in
set_option maxRecDepth 100000 in
theorem oct_Reader_Text.calls (g : Nat) (s0_0 : ByteArray) (s0_1 : Int) (r1 : ByteArray) (r2 : ByteArray) (r3 : Int) (w0 w : World) (hI : IsS110 w0 w g s0_0 s0_1) (hB : Below w0.heap.size w0 w) (h : oct_Reader_Text.f s0_0 s0_1 = some (r1, r2, r3)) :
  Calls Try.prog 35 #[.pointer (some ⟨g, 0, none⟩)] w fun e w' => e = .returned (.string r1) ∧ IsS110 w0 w' g r2 r3 ∧ Below w0.heap.size w0 w' ∧ KeepBut w w' g none := by
 have HI0 := Aside0.mk hI
 have HK := Aside0.mk (KeepBut.refl w g none)
 have HL := Aside0.mk hB.size
 clear hI; have HW0 := Aside0.mk hB.size
 have HB := Aside0.mk hB
 clear hB; have H : ((oct_Reader_cut.f s0_0 s0_1 2).bind fun bt137 => ((oct_Get.f bt137.1).bind fun t140 => ((oct_Reader_cut.f bt137.2.1 bt137.2.2 t140).bind fun bt141 => (if bt141.2.2 = 0 then (some (bt141.1, bt141.2.1, bt141.2.2)) else (some (bt141.1, s0_0, bt141.2.2)))))) = some (r1, r2, r3) := h
 clear h; replace H := Option.bind_eq_some_iff.mp H
 obtain ⟨⟨t137, t138, t139⟩, A20, H⟩ := H
 replace H : ((oct_Get.f t137).bind fun t140 => ((oct_Reader_cut.f t138 t139 t140).bind fun bt141 => (if bt141.2.2 = 0 then (some (bt141.1, bt141.2.1, bt141.2.2)) else (some (bt141.1, s0_0, bt141.2.2))))) = some (r1, r2, r3) := H
 have A2 := Aside0.mk A20
 clear A20; replace H := Option.bind_eq_some_iff.mp H
 obtain ⟨t140, A30, H⟩ := H
 replace H : ((oct_Reader_cut.f t138 t139 t140).bind fun bt141 => (if bt141.2.2 = 0 then (some (bt141.1, bt141.2.1, bt141.2.2)) else (some (bt141.1, s0_0, bt141.2.2)))) = some (r1, r2, r3) := H
 have A3 := Aside0.mk A30
 clear A30; replace H := Option.bind_eq_some_iff.mp H
 obtain ⟨⟨t141, t142, t143⟩, A40, H⟩ := H
 replace H : (if t143 = 0 then (some (t141, t142, t143)) else (some (t141, s0_0, t143))) = some (r1, r2, r3) := H
 have A4 := Aside0.mk A40
 clear A40; by_cases c5 : t143 = 0
 ·
  rw [if_pos c5] at H
  have c5b0 : (t143 == 0) = true := beq_iff_eq.mpr c5
  have c5b1 : (t143 != 0) = false := bne_eq_false_iff_eq.mpr c5
  clear c5; simp only [Option.some.injEq, Prod.mk.injEq] at H
  obtain ⟨rfl, rfl, rfl⟩ := H
  obtain ⟨HGz6, hgz6⟩ := HI0.out
  have hcz6_0 := cellS110_0 HGz6
  have hcz6_1 := cellS110_1 HGz6
  have hfz6_0 := blk_frozen HGz6 0; have hfz6_1 := blk_frozen HGz6 1; clear HGz6 hgz6; go_enter Try.func35, Try.ntmps35
  go_wp2_with (first | ((with_reducible refine gate_callee (f := 62) rfl ?_); refine goesL_ (some 13) rfl rfl Try.func62 (by kernel_rfl) rfl #[.pointer (some ⟨g, 0, none⟩), .int .i64 2] rfl zM ?_; (with_reducible refine (oct_Reader_cut.calls g s0_0 s0_1 2 t137 t138 t139 w0 _ ?side1 ?side2 A2.out).mono ?_); (case side1 => repeat (first | (with_reducible first | exact HI0.out | apply IsS110.alloc | apply IsS110.drewN | apply IsS110.drew | apply IsS110.set_0 | apply IsS110.set_1) | exact HI0.out)); (case side2 => repeat (first | (with_reducible first | exact HB.out | apply below_alloc | apply pw_below_drewN | apply below_drew1 | refine below_set ?_ (IsS110.ge HI0.out)) | exact HB.out)); rintro e w7 ⟨rfl, hi, hb, hk⟩; refine ⟨_, rfl, ?_⟩; replace HK := Aside0.mk (KeepBut.trans (by repeat (first | (with_reducible first | exact HK.out | apply KeepBut.set_ | apply keep_drewN | apply keep_drew | apply keep_alloc) | exact HK.out)) hk (.inl rfl)); replace HI0 := Aside0.mk (hi); replace HB := Aside0.mk (hb); (try clear hb); (try clear hb2); (try clear hk); (try clear hi)) | ((with_reducible refine gate_callee (f := 61) rfl ?_); refine goesL_ (some 14) rfl rfl Try.func61 (by kernel_rfl) rfl #[.string t137] rfl zM ?_; (with_reducible refine (oct_Get.calls t137 t140 _ A3.out).mono ?_); rintro e w' ⟨rfl, ⟨nd, rfl⟩⟩; refine ⟨_, rfl, ?_⟩) | ((with_reducible refine gate_callee (f := 62) rfl ?_); refine goesL_ (some 15) rfl rfl Try.func62 (by kernel_rfl) rfl #[.pointer (some ⟨g, 0, none⟩), .int .i64 t140] rfl zM ?_; (with_reducible refine (oct_Reader_cut.calls g t138 t139 t140 t141 t142 t143 w0 _ ?side1 ?side2 A4.out).mono ?_); (case side1 => repeat (first | (with_reducible first | exact HI0.out | apply IsS110.alloc | apply IsS110.drewN | apply IsS110.drew | apply IsS110.set_0 | apply IsS110.set_1) | exact HI0.out)); (case side2 => repeat (first | (with_reducible first | exact HB.out | apply below_alloc | apply pw_below_drewN | apply below_drew1 | refine below_set ?_ (IsS110.ge HI0.out)) | exact HB.out)); rintro e w8 ⟨rfl, hi, hb, hk⟩; refine ⟨_, rfl, ?_⟩; replace HK := Aside0.mk (KeepBut.trans (by repeat (first | (with_reducible first | exact HK.out | apply KeepBut.set_ | apply keep_drewN | apply keep_drew | apply keep_alloc) | exact HK.out)) hk (.inl rfl)); replace HI0 := Aside0.mk (hi); replace HB := Aside0.mk (hb); (try clear hb); (try clear hb2); (try clear hk); (try clear hi); obtain ⟨HGz9, hgz9⟩ := HI0.out; have hcz9_0 := cellS110_0 HGz9; have hcz9_1 := cellS110_1 HGz9; have hfz9_0 := blk_frozen HGz9 0; have hfz9_1 := blk_frozen HGz9 1; clear HGz9 hgz9))
  go_ret
  exact ⟨zE, by repeat (first | (with_reducible first | exact HI0.out | apply IsS110.alloc | apply IsS110.drewN | apply IsS110.drew | apply IsS110.set_0 | apply IsS110.set_1) | exact HI0.out), by repeat (first | (with_reducible first | exact HB.out | apply below_alloc | apply pw_below_drewN | apply below_drew1 | refine below_set ?_ (IsS110.ge HI0.out)) | exact HB.out), by repeat (first | (with_reducible first | exact HK.out | apply KeepBut.set_ | apply keep_drewN | apply keep_drew | apply keep_alloc) | exact HK.out)⟩
 ·
  rw [if_neg c5] at H
  have c5b0 : (t143 == 0) = false := beq_eq_false_iff_ne.mpr c5
  have c5b1 : (t143 != 0) = true := bne_iff_ne.mpr c5
  simp only [Option.some.injEq, Prod.mk.injEq] at H
  obtain ⟨rfl, rfl, rfl⟩ := H
  obtain ⟨HGz10, hgz10⟩ := HI0.out
  have hcz10_0 := cellS110_0 HGz10
  have hcz10_1 := cellS110_1 HGz10
  have hfz10_0 := blk_frozen HGz10 0; have hfz10_1 := blk_frozen HGz10 1; clear HGz10 hgz10; go_enter Try.func35, Try.ntmps35
  go_wp2_with (first | ((with_reducible refine gate_callee (f := 62) rfl ?_); refine goesL_ (some 13) rfl rfl Try.func62 (by kernel_rfl) rfl #[.pointer (some ⟨g, 0, none⟩), .int .i64 2] rfl zM ?_; (with_reducible refine (oct_Reader_cut.calls g s0_0 s0_1 2 t137 t138 t139 w0 _ ?side1 ?side2 A2.out).mono ?_); (case side1 => repeat (first | (with_reducible first | exact HI0.out | apply IsS110.alloc | apply IsS110.drewN | apply IsS110.drew | apply IsS110.set_0 | apply IsS110.set_1) | exact HI0.out)); (case side2 => repeat (first | (with_reducible first | exact HB.out | apply below_alloc | apply pw_below_drewN | apply below_drew1 | refine below_set ?_ (IsS110.ge HI0.out)) | exact HB.out)); rintro e w11 ⟨rfl, hi, hb, hk⟩; refine ⟨_, rfl, ?_⟩; replace HK := Aside0.mk (KeepBut.trans (by repeat (first | (with_reducible first | exact HK.out | apply KeepBut.set_ | apply keep_drewN | apply keep_drew | apply keep_alloc) | exact HK.out)) hk (.inl rfl)); replace HI0 := Aside0.mk (hi); replace HB := Aside0.mk (hb); (try clear hb); (try clear hb2); (try clear hk); (try clear hi)) | ((with_reducible refine gate_callee (f := 61) rfl ?_); refine goesL_ (some 14) rfl rfl Try.func61 (by kernel_rfl) rfl #[.string t137] rfl zM ?_; (with_reducible refine (oct_Get.calls t137 t140 _ A3.out).mono ?_); rintro e w' ⟨rfl, ⟨nd, rfl⟩⟩; refine ⟨_, rfl, ?_⟩; (try (rw [drewN_self w11]; generalize hq_ : World.drewN w11 _ = w11; have n0_ : Aside0 (IsS110 w0 w11 g t138 t139) := ⟨by rw [← hq_]; exact (by repeat (first | (with_reducible first | exact HI0.out | apply IsS110.alloc | apply IsS110.drewN | apply IsS110.drew | apply IsS110.set_0 | apply IsS110.set_1) | exact HI0.out))⟩; have n1_ : Aside0 (KeepBut w w11 g none) := ⟨by rw [← hq_]; exact (by repeat (first | (with_reducible first | exact HK.out | apply KeepBut.set_ | apply keep_drewN | apply keep_drew | apply keep_alloc) | exact HK.out))⟩; have n2_ : Aside0 (Below w0.heap.size w0 w11) := ⟨by rw [← hq_]; exact (by repeat (first | (with_reducible first | exact HB.out | apply below_alloc | apply pw_below_drewN | apply below_drew1 | refine below_set ?_ (IsS110.ge HI0.out)) | exact HB.out))⟩; clear HI0 HK HB hq_; have HI0 := n0_; have HK := n1_; have HB := n2_; clear n0_ n1_ n2_))) | ((with_reducible refine gate_callee (f := 62) rfl ?_); refine goesL_ (some 15) rfl rfl Try.func62 (by kernel_rfl) rfl #[.pointer (some ⟨g, 0, none⟩), .int .i64 t140] rfl zM ?_; (with_reducible refine (oct_Reader_cut.calls g t138 t139 t140 t141 t142 t143 w0 _ ?side1 ?side2 A4.out).mono ?_); (case side1 => repeat (first | (with_reducible first | exact HI0.out | apply IsS110.alloc | apply IsS110.drewN | apply IsS110.drew | apply IsS110.set_0 | apply IsS110.set_1) | exact HI0.out)); (case side2 => repeat (first | (with_reducible first | exact HB.out | apply below_alloc | apply pw_below_drewN | apply below_drew1 | refine below_set ?_ (IsS110.ge HI0.out)) | exact HB.out)); rintro e w12 ⟨rfl, hi, hb, hk⟩; refine ⟨_, rfl, ?_⟩; replace HK := Aside0.mk (KeepBut.trans (by repeat (first | (with_reducible first | exact HK.out | apply KeepBut.set_ | apply keep_drewN | apply keep_drew | apply keep_alloc) | exact HK.out)) hk (.inl rfl)); replace HI0 := Aside0.mk (hi); replace HB := Aside0.mk (hb); (try clear hb); (try clear hb2); (try clear hk); (try clear hi); obtain ⟨HGz13, hgz13⟩ := HI0.out; have hcz13_0 := cellS110_0 HGz13; have hcz13_1 := cellS110_1 HGz13; have hfz13_0 := blk_frozen HGz13 0; have hfz13_1 := blk_frozen HGz13 1; clear HGz13 hgz13))
  go_ret
  exact ⟨zE, by repeat (first | (with_reducible first | exact HI0.out | apply IsS110.alloc | apply IsS110.drewN | apply IsS110.drew | apply IsS110.set_0 | apply IsS110.set_1) | exact HI0.out), by repeat (first | (with_reducible first | exact HB.out | apply below_alloc | apply pw_below_drewN | apply below_drew1 | refine below_set ?_ (IsS110.ge HI0.out)) | exact HB.out), by repeat (first | (with_reducible first | exact HK.out | apply KeepBut.set_ | apply keep_drewN | apply keep_drew | apply keep_alloc) | exact HK.out)⟩
/-! ### oct_Reader_Raw: function 63 -/
def oct_Reader_Raw.f (s0_0 : ByteArray) (s0_1 : Int) (a1 : Int) : Option (ByteArray × ByteArray × Int) := (oct_Reader_cut.f s0_0 s0_1 a1).bind fun bt144 => (some (bt144.1, bt144.2.1, bt144.2.2))
set_option maxHeartbeats 8000000 in
set_option maxRecDepth 100000 in
theorem oct_Reader_Raw.calls (g : Nat) (s0_0 : ByteArray) (s0_1 : Int) (a1 : Int) (r1 : ByteArray) (r2 : ByteArray) (r3 : Int) (w0 w : World) (hI : IsS110 w0 w g s0_0 s0_1) (hB : Below w0.heap.size w0 w) (h : oct_Reader_Raw.f s0_0 s0_1 a1 = some (r1, r2, r3)) :
  Calls Try.prog 63 #[.pointer (some ⟨g, 0, none⟩), .int .i64 a1] w fun e w' => e = .returned (.string r1) ∧ IsS110 w0 w' g r2 r3 ∧ Below w0.heap.size w0 w' ∧ KeepBut w w' g none := by
 have HI0 := Aside0.mk hI
 have HK := Aside0.mk (KeepBut.refl w g none)
 have HL := Aside0.mk hB.size
 clear hI; have HW0 := Aside0.mk hB.size
 have HB := Aside0.mk hB
 clear hB; have H : ((oct_Reader_cut.f s0_0 s0_1 a1).bind fun bt144 => (some (bt144.1, bt144.2.1, bt144.2.2))) = some (r1, r2, r3) := h
 clear h; replace H := Option.bind_eq_some_iff.mp H
 obtain ⟨⟨t144, t145, t146⟩, A30, H⟩ := H
 replace H : (some (t144, t145, t146)) = some (r1, r2, r3) := H
 have A3 := Aside0.mk A30
 clear A30; simp only [Option.some.injEq, Prod.mk.injEq] at H
 obtain ⟨rfl, rfl, rfl⟩ := H
 go_enter Try.func63, Try.ntmps63
 go_wp2_with (first | ((with_reducible refine gate_callee (f := 62) rfl ?_); refine goesL_ (some 9) rfl rfl Try.func62 (by kernel_rfl) rfl #[.pointer (some ⟨g, 0, none⟩), .int .i64 a1] rfl zM ?_; (with_reducible refine (oct_Reader_cut.calls g s0_0 s0_1 a1 t144 t145 t146 w0 _ ?side1 ?side2 A3.out).mono ?_); (case side1 => repeat (first | (with_reducible first | exact HI0.out | apply IsS110.alloc | apply IsS110.drewN | apply IsS110.drew | apply IsS110.set_0 | apply IsS110.set_1) | exact HI0.out)); (case side2 => repeat (first | (with_reducible first | exact HB.out | apply below_alloc | apply pw_below_drewN | apply below_drew1 | refine below_set ?_ (IsS110.ge HI0.out)) | exact HB.out)); rintro e w4 ⟨rfl, hi, hb, hk⟩; refine ⟨_, rfl, ?_⟩; replace HK := Aside0.mk (KeepBut.trans (by repeat (first | (with_reducible first | exact HK.out | apply KeepBut.set_ | apply keep_drewN | apply keep_drew | apply keep_alloc) | exact HK.out)) hk (.inl rfl)); replace HI0 := Aside0.mk (hi); replace HB := Aside0.mk (hb); (try clear hb); (try clear hb2); (try clear hk); (try clear hi)))
 go_ret
 exact ⟨zE, by repeat (first | (with_reducible first | exact HI0.out | apply IsS110.alloc | apply IsS110.drewN | apply IsS110.drew | apply IsS110.set_0 | apply IsS110.set_1) | exact HI0.out), by repeat (first | (with_reducible first | exact HB.out | apply below_alloc | apply pw_below_drewN | apply below_drew1 | refine below_set ?_ (IsS110.ge HI0.out)) | exact HB.out), by repeat (first | (with_reducible first | exact HK.out | apply KeepBut.set_ | apply keep_drewN | apply keep_drew | apply keep_alloc) | exact HK.out)⟩
/-! ### wire_proof: function 36 -/
def wire_proof.l0 : Nat → Int → ByteArray → List ByteArray → Int → Int → ByteArray → Int → Option (Int × ByteArray × List ByteArray × ByteArray × Int)
 | 0, _, _, _, _, _, _, _ => none
 | k + 1, x2, x3, x4, x11, x12, x1000, x1001 => if x12 < x11 then ((oct_Reader_Raw.f x1000 x1001 32).bind fun bt156 => (if x4.length < 8796093022208 then (wire_proof.l0 k x2 x3 (x4 ++ [bt156.1]) x11 (wrap64 (x12 + 1)) bt156.2.1 bt156.2.2) else (none))) else (some (x2, x3, x4, x1000, x1001))
def wire_proof.f (k : Nat) (s0_0 : ByteArray) (s0_1 : Int) : Option (Int × ByteArray × List ByteArray × ByteArray × Int) := (oct_Reader_Num.f k s0_0 s0_1 1).bind fun bt147 => ((oct_Reader_Raw.f bt147.2.1 bt147.2.2 32).bind fun bt150 => ((oct_Reader_Num.f k bt150.2.1 bt150.2.2 1).bind fun bt153 => (wire_proof.l0 k bt147.1 bt150.1 ([] : List ByteArray) (mn bt153.1 9) 0 bt153.2.1 bt153.2.2)))
theorem wire_proof.mono_l : ∀ k, (∀ y0 y1 y2 y3 y4 y5 y6, LeO (wire_proof.l0 k y0 y1 y2 y3 y4 y5 y6) (wire_proof.l0 (k + 1) y0 y1 y2 y3 y4 y5 y6))
 | 0 => fun _ _ _ _ _ _ _ r h => by simp [wire_proof.l0] at h
 | k + 1 => by
  have ih0 := wire_proof.mono_l k
  ·
   intro y0 y1 y2 y3 y4 y5 y6
   unfold wire_proof.l0
   repeat' first | (with_reducible first | apply ih0 | apply oct_Reader_Num.mono | exact LeO.refl _ | exact LeO.none _ | refine LeO.ite ?_ ?_ | refine LeO.bind ?_ (fun _ => ?_)) | apply ih0 | apply oct_Reader_Num.mono | exact LeO.none _ | refine LeO.ite ?_ ?_ | refine LeO.bind ?_ (fun _ => ?_)
theorem wire_proof.mono : ∀ a0 a1 k, LeO (wire_proof.f k a0 a1) (wire_proof.f (k + 1) a0 a1) := by
 intro a0 a1 k
 have ih0 := wire_proof.mono_l k
 unfold wire_proof.f
 repeat' first | (with_reducible first | apply ih0 | apply oct_Reader_Num.mono | exact LeO.refl _ | exact LeO.none _ | refine LeO.ite ?_ ?_ | refine LeO.bind ?_ (fun _ => ?_)) | apply ih0 | apply oct_Reader_Num.mono | exact LeO.none _ | refine LeO.ite ?_ ?_ | refine LeO.bind ?_ (fun _ => ?_)
set_option maxHeartbeats 8000000 in
set_option maxRecDepth 100000 in
theorem wire_proof.calls (k : Nat) (g : Nat) (s0_0 : ByteArray) (s0_1 : Int) (r1 : Int) (r2 : ByteArray) (r3 : List ByteArray) (r4 : ByteArray) (r5 : Int) (w0 w : World) (hI : IsS110 w0 w g s0_0 s0_1) (hB : Below w0.heap.size w0 w) (h : wire_proof.f k s0_0 s0_1 = some (r1, r2, r3, r4, r5)) :
  Calls Try.prog 36 #[.pointer (some ⟨g, 0, none⟩)] w fun e w' => ∃ v2_ : Value, e = .returned (.tuple #[.int .i64 r1, .string r2, v2_]) ∧ Kd.R Kd.string 9 w' w.heap.size (fun _ => True) v2_ r3 ∧ IsS110 w0 w' g r4 r5 ∧ Below w0.heap.size w0 w' ∧ KeepBut w w' g none := by
 have HI0 := Aside0.mk hI
 have HK := Aside0.mk (KeepBut.refl w g none)
 have HL := Aside0.mk hB.size
 clear hI; have HW0 := Aside0.mk hB.size
 have HB := Aside0.mk hB
 clear hB; have H : ((oct_Reader_Num.f k s0_0 s0_1 1).bind fun bt147 => ((oct_Reader_Raw.f bt147.2.1 bt147.2.2 32).bind fun bt150 => ((oct_Reader_Num.f k bt150.2.1 bt150.2.2 1).bind fun bt153 => (wire_proof.l0 k bt147.1 bt150.1 ([] : List ByteArray) (mn bt153.1 9) 0 bt153.2.1 bt153.2.2)))) = some (r1, r2, r3, r4, r5) := h
 clear h; replace H := Option.bind_eq_some_iff.mp H
 obtain ⟨⟨t147, t148, t149⟩, A20, H⟩ := H
 replace H : ((oct_Reader_Raw.f t148 t149 32).bind fun bt150 => ((oct_Reader_Num.f k bt150.2.1 bt150.2.2 1).bind fun bt153 => (wire_proof.l0 k t147 bt150.1 ([] : List ByteArray) (mn bt153.1 9) 0 bt153.2.1 bt153.2.2))) = some (r1, r2, r3, r4, r5) := H
 have A2 := Aside0.mk A20
 clear A20; replace H := Option.bind_eq_some_iff.mp H
 obtain ⟨⟨t150, t151, t152⟩, A30, H⟩ := H
 replace H : ((oct_Reader_Num.f k t151 t152 1).bind fun bt153 => (wire_proof.l0 k t147 t150 ([] : List ByteArray) (mn bt153.1 9) 0 bt153.2.1 bt153.2.2)) = some (r1, r2, r3, r4, r5) := H
 have A3 := Aside0.mk A30
 clear A30; replace H := Option.bind_eq_some_iff.mp H
 obtain ⟨⟨t153, t154, t155⟩, A40, H⟩ := H
 replace H : (wire_proof.l0 k t147 t150 ([] : List ByteArray) (mn t153 9) 0 t154 t155) = some (r1, r2, r3, r4, r5) := H
 have A4 := Aside0.mk A40
 clear A40; obtain ⟨ji5, hji5⟩ : ∃ j_ : Int, (mn t153 9) = j_ := ⟨_, rfl⟩
 replace H : (wire_proof.l0 k t147 t150 ([] : List ByteArray) ji5 0 t154 t155) = some (r1, r2, r3, r4, r5) := by first | (rw [hji5] at H; exact H) | (simp only [hji5] at H ⊢; exact H)
 (try rw [hji5] at A2)
 (try rw [hji5] at A3)
 (try rw [hji5] at A4)
 (try (have hji5h : ji5 ≤ 9 := by (rw [← hji5]; unfold mn; (repeat' split) <;> omega)))
 (try (have hji5g : ji5 ≤ 64 := by omega))
 have hji5_ : (if 9 < t153 then 9 else t153) = ji5 := hji5
 have H' := Aside0.mk H
 clear H; go_enter Try.func36, Try.ntmps36
 go_wp2_with (first | ((with_reducible refine gate_callee (f := 33) rfl ?_); refine goesL_ (some 6) rfl rfl Try.func33 (by kernel_rfl) rfl #[.pointer (some ⟨g, 0, none⟩), .int .i64 1] rfl zM ?_; (with_reducible refine (oct_Reader_Num.calls k g s0_0 s0_1 1 t147 t148 t149 w0 _ ?side1 ?side2 A2.out).mono ?_); (case side1 => repeat (first | (with_reducible first | exact HI0.out | apply IsS110.alloc | apply IsS110.drewN | apply IsS110.drew | apply IsS110.set_0 | apply IsS110.set_1) | exact HI0.out)); (case side2 => repeat (first | (with_reducible first | exact HB.out | apply below_alloc | apply pw_below_drewN | apply below_drew1 | refine below_set ?_ (IsS110.ge HI0.out)) | exact HB.out)); rintro e w6 ⟨rfl, hi, hb, hk⟩; refine ⟨_, rfl, ?_⟩; replace HK := Aside0.mk (KeepBut.trans (by repeat (first | (with_reducible first | exact HK.out | apply KeepBut.set_ | apply keep_drewN | apply keep_drew | apply keep_alloc) | exact HK.out)) hk (.inl rfl)); replace HI0 := Aside0.mk (hi); replace HB := Aside0.mk (hb); (try clear hb); (try clear hb2); (try clear hk); (try clear hi)) | ((with_reducible refine gate_callee (f := 63) rfl ?_); refine goesL_ (some 8) rfl rfl Try.func63 (by kernel_rfl) rfl #[.pointer (some ⟨g, 0, none⟩), .int .i64 32] rfl zM ?_; (with_reducible refine (oct_Reader_Raw.calls g t148 t149 32 t150 t151 t152 w0 _ ?side1 ?side2 A3.out).mono ?_); (case side1 => repeat (first | (with_reducible first | exact HI0.out | apply IsS110.alloc | apply IsS110.drewN | apply IsS110.drew | apply IsS110.set_0 | apply IsS110.set_1) | exact HI0.out)); (case side2 => repeat (first | (with_reducible first | exact HB.out | apply below_alloc | apply pw_below_drewN | apply below_drew1 | refine below_set ?_ (IsS110.ge HI0.out)) | exact HB.out)); rintro e w7 ⟨rfl, hi, hb, hk⟩; refine ⟨_, rfl, ?_⟩; replace HK := Aside0.mk (KeepBut.trans (by repeat (first | (with_reducible first | exact HK.out | apply KeepBut.set_ | apply keep_drewN | apply keep_drew | apply keep_alloc) | exact HK.out)) hk (.inl rfl)); replace HI0 := Aside0.mk (hi); replace HB := Aside0.mk (hb); (try clear hb); (try clear hb2); (try clear hk); (try clear hi)) | ((with_reducible refine gate_callee (f := 33) rfl ?_); refine goesL_ (some 10) rfl rfl Try.func33 (by kernel_rfl) rfl #[.pointer (some ⟨g, 0, none⟩), .int .i64 1] rfl zM ?_; (with_reducible refine (oct_Reader_Num.calls k g t151 t152 1 t153 t154 t155 w0 _ ?side1 ?side2 A4.out).mono ?_); (case side1 => repeat (first | (with_reducible first | exact HI0.out | apply IsS110.alloc | apply IsS110.drewN | apply IsS110.drew | apply IsS110.set_0 | apply IsS110.set_1) | exact HI0.out)); (case side2 => repeat (first | (with_reducible first | exact HB.out | apply below_alloc | apply pw_below_drewN | apply below_drew1 | refine below_set ?_ (IsS110.ge HI0.out)) | exact HB.out)); rintro e w8 ⟨rfl, hi, hb, hk⟩; refine ⟨_, rfl, ?_⟩; replace HK := Aside0.mk (KeepBut.trans (by repeat (first | (with_reducible first | exact HK.out | apply KeepBut.set_ | apply keep_drewN | apply keep_drew | apply keep_alloc) | exact HK.out)) hk (.inl rfl)); replace HI0 := Aside0.mk (hi); replace HB := Aside0.mk (hb); (try clear hb); (try clear hb2); (try clear hk); (try clear hi)))
 go_loopg [4, 12] k (fun kq v4 v12 w' => ∃ (x4_1 : List ByteArray) (x12_1 : Int) (x1000_1 : ByteArray) (x1001_1 : Int), v12 = .int .i64 x12_1 ∧ Aside0 (wire_proof.l0 kq t147 t150 x4_1 ji5 x12_1 x1000_1 x1001_1 = some (r1, r2, r3, r4, r5)) ∧ Aside0 (kq ≤ k) ∧ Aside0 (Kd.R Kd.string 9 w' w.heap.size (fun _ => True) v4 x4_1) ∧ Aside0 (IsS110 w0 w' g x1000_1 x1001_1) ∧ Aside0 (KeepBut w w' g none) ∧ Aside0 (Below w0.heap.size w0 w'))
 case atStart => exact ⟨(([] : List ByteArray)), (0), (t154), (t155), zF, H', ⟨Nat.le_refl _⟩, ⟨by first | exact Kd.R_nil _ _ _ _ _ | exact Kd.N_nil _ _ _ _ _ | exact Kd.V_nil _ _ _ _ _ | exact Kd.Q_nil _ _ _ _ _ | exact Kd.S_nil _ _ _ _ _⟩, ⟨by repeat (first | (with_reducible first | exact HI0.out | apply IsS110.alloc | apply IsS110.drewN | apply IsS110.drew | apply IsS110.set_0 | apply IsS110.set_1) | exact HI0.out)⟩, ⟨by repeat (first | (with_reducible first | exact HK.out | apply KeepBut.set_ | apply keep_drewN | apply keep_drew | apply keep_alloc) | exact HK.out)⟩, ⟨by repeat (first | (with_reducible first | exact HB.out | apply below_alloc | apply pw_below_drewN | apply below_drew1 | refine below_set ?_ (IsS110.ge HI0.out)) | exact HB.out)⟩⟩
 case round =>
  clear H'
  obtain ⟨x4_1, x12_1, x1000_1, x1001_1, rfl, HA, HK1, HO_4, HI0, HK, HB⟩ := hrel
  cases gk with
  | zero => exact absurd HA.out (by simp [wire_proof.l0])
  | succ k1 =>
   have H := HA.out; clear HA; simp only [wire_proof.l0] at H
   by_cases c9 : x12_1 < ji5
   ·
    rw [if_pos c9] at H
    have c9b0 : decide (x12_1 < ji5) = true := decide_eq_true c9
    clear c9; replace H := Option.bind_eq_some_iff.mp H
    obtain ⟨⟨t156, t157, t158⟩, A100, H⟩ := H
    replace H : (if x4_1.length < 8796093022208 then (wire_proof.l0 k1 t147 t150 (x4_1 ++ [t156]) ji5 (wrap64 (x12_1 + 1)) t157 t158) else (none)) = some (r1, r2, r3, r4, r5) := H
    have A10 := Aside0.mk A100
    clear A100; by_cases c11 : x4_1.length < 8796093022208
    ·
     rw [if_pos c11] at H
     have LMc11 := Aside0.mk c11
     clear c11; obtain ⟨y159, hy159⟩ : ∃ y_ : List ByteArray, y_ = (x4_1 ++ [t156]) := ⟨_, rfl⟩
     replace H : (wire_proof.l0 k1 t147 t150 y159 ji5 (wrap64 (x12_1 + 1)) t157 t158) = some (r1, r2, r3, r4, r5) := by first | (rw [hy159]; with_reducible exact H) | (have H2_ := (Option.bind_some _ _).symm.trans H; rw [hy159]; with_reducible exact H2_) | (have H2_ := (Option.bind_some _ _).symm.trans H; with_reducible exact H2_) | with_reducible exact H | (rw [hy159]; exact H) | exact H
     have Ny159 := Aside0.mk hy159
     clear hy159; have H' := Aside0.mk H
     clear H; go_wp2_with (first | ((with_reducible refine gate_callee (f := 63) rfl ?_); refine goesL_ (some 16) rfl rfl Try.func63 (by kernel_rfl) rfl #[.pointer (some ⟨g, 0, none⟩), .int .i64 32] rfl zM ?_; (with_reducible refine (oct_Reader_Raw.calls g x1000_1 x1001_1 32 t156 t157 t158 w0 _ ?side1 ?side2 A10.out).mono ?_); (case side1 => repeat (first | (with_reducible first | exact HI0.out | apply IsS110.alloc | apply IsS110.drewN | apply IsS110.drew | apply IsS110.set_0 | apply IsS110.set_1) | exact HI0.out)); (case side2 => repeat (first | (with_reducible first | exact HB.out | apply below_alloc | apply pw_below_drewN | apply below_drew1 | refine below_set ?_ (IsS110.ge HI0.out)) | exact HB.out)); rintro e w12 ⟨rfl, hi, hb, hk⟩; refine ⟨_, rfl, ?_⟩; replace HO_4 := Aside0.mk (Kd.R_mono (Kd.R_keep (IsS110.apart (show IsS110 w0 _ g x1000_1 x1001_1 from by repeat (first | (with_reducible first | exact HI0.out | apply IsS110.alloc | apply IsS110.drewN | apply IsS110.drew | apply IsS110.set_0 | apply IsS110.set_1) | exact HI0.out)) (by (with_reducible repeat (first | apply Kd.R_alloc | apply Kd.R_drewN | apply Kd.R_drew)); exact HO_4.out) (by decide)) hk (fun _ h => h.2)) (fun _ h => h.1)); replace HK := Aside0.mk (KeepBut.trans (by repeat (first | (with_reducible first | exact HK.out | apply KeepBut.set_ | apply keep_drewN | apply keep_drew | apply keep_alloc) | exact HK.out)) hk (.inl rfl)); replace HI0 := Aside0.mk (hi); replace HB := Aside0.mk (hb); (try clear hb); (try clear hb2); (try clear hk); (try clear hi)) | ((with_reducible refine gate_builtin (b := .append) (xs := #[.tmp 14, .tmp 17]) rfl ?_); at_builtin; refine Kd.R_append Kd.string w.heap.size rfl (.tmp 14) (.tmp 17) 26 9 (.string ⟨#[]⟩) 16 rfl Try.underlying26 info9 rfl (by decide) (by omega) u4 x4_1 t156 [.string t156] (fun _ => True) (fun _ => False) rfl rfl ?aP (fun _ hk => hk.elim) ?aF ?aO (Below.refl _ _) ?aS ?aL ?_; (case aP => exact rfl); (case aF => exact (fun _ _ => trivial)); (case aO => exact (by (with_reducible repeat (first | apply Kd.R_alloc | apply Kd.R_drewN | apply Kd.R_drew)); exact HO_4.out)); (case aS => exact (keep_size (w := w) (g := g) (row := none) (by repeat (first | (with_reducible first | exact HK.out | apply KeepBut.set_ | apply keep_drewN | apply keep_drew | apply keep_alloc) | exact HK.out)))); (case aL => have := LMc11.out; omega); intro v160 w13 ho hb hg hat; rw [← Ny159.out] at ho; have n0_ := Aside0.mk (IsS110.grown (by repeat (first | (with_reducible first | exact HI0.out | apply IsS110.alloc | apply IsS110.drewN | apply IsS110.drew | apply IsS110.set_0 | apply IsS110.set_1) | exact HI0.out)) hg (IsS110.own_ne HI0.out HO_4.out (by decide))); have n1_ := Aside0.mk (below_weaken (by repeat (first | (with_reducible first | exact HB.out | apply below_alloc | apply pw_below_drewN | apply below_drew1 | refine below_set ?_ (IsS110.ge HI0.out)) | exact HB.out)) HL.out hb); have n2_ := Aside0.mk (KeepBut.trans (by repeat (first | (with_reducible first | exact HK.out | apply KeepBut.set_ | apply keep_drewN | apply keep_drew | apply keep_alloc) | exact HK.out)) (KeepBut.of_grown hg g) (Kd.R_base2 HO_4.out)); have n3_ := Aside0.mk (ho); clear HI0; clear HB; clear HK; clear HO_4; have HI0 := n0_; have HB := n1_; have HK := n2_; have HO161 := n3_; clear n0_ n1_ n2_ n3_; clear ho hb hg hat))
     go_roundg k1
     case measure => have := HK1.out; omega
     case rel => exact ⟨(y159), (wrap64 (x12_1 + 1)), (t157), (t158), zF, H', ⟨by have := HK1.out; omega⟩, ⟨zR HO161⟩, ⟨by repeat (first | (with_reducible first | exact HI0.out | apply IsS110.alloc | apply IsS110.drewN | apply IsS110.drew | apply IsS110.set_0 | apply IsS110.set_1) | exact HI0.out)⟩, ⟨by repeat (first | (with_reducible first | exact HK.out | apply KeepBut.set_ | apply keep_drewN | apply keep_drew | apply keep_alloc) | exact HK.out)⟩, ⟨by repeat (first | (with_reducible first | exact HB.out | apply below_alloc | apply pw_below_drewN | apply below_drew1 | refine below_set ?_ (IsS110.ge HI0.out)) | exact HB.out)⟩⟩
    ·
     rw [if_neg c11] at H
     exact absurd H (by simp)
   ·
    rw [if_neg c9] at H
    have c9b0 : decide (x12_1 < ji5) = false := decide_eq_false c9
    clear c9; simp only [Option.some.injEq, Prod.mk.injEq] at H
    obtain ⟨rfl, rfl, rfl, rfl, rfl⟩ := H
    go_wp2
    go_ret3
    exact ⟨_, by first | rfl | (simp [errW_none, errW_some] <;> rfl) | (simp only [← hji5]; first | rfl | (simp [errW_none, errW_some] <;> rfl)) | (simp [*, errW_none, errW_some] <;> rfl), by (with_reducible repeat (first | apply Kd.R_alloc | apply Kd.R_drewN | apply Kd.R_drew)); exact HO_4.out, by repeat (first | (with_reducible first | exact HI0.out | apply IsS110.alloc | apply IsS110.drewN | apply IsS110.drew | apply IsS110.set_0 | apply IsS110.set_1) | exact HI0.out), by repeat (first | (with_reducible first | exact HB.out | apply below_alloc | apply pw_below_drewN | apply below_drew1 | refine below_set ?_ (IsS110.ge HI0.out)) | exact HB.out), by repeat (first | (with_reducible first | exact HK.out | apply KeepBut.set_ | apply keep_drewN | apply keep_drew | apply keep_alloc) | exact HK.out)⟩
/-! ### oct_Reader_Err: function 64 -/
def oct_Reader_Err.f (s0_0 : ByteArray) (s0_1 : Int) : Option (Int × ByteArray × Int) := some (s0_1, s0_0, s0_1)
set_option maxHeartbeats 8000000 in
set_option maxRecDepth 100000 in
theorem oct_Reader_Err.calls (g : Nat) (s0_0 : ByteArray) (s0_1 : Int) (r1 : Int) (r2 : ByteArray) (r3 : Int) (w0 w : World) (hI : IsS110 w0 w g s0_0 s0_1) (hB : Below w0.heap.size w0 w) (h : oct_Reader_Err.f s0_0 s0_1 = some (r1, r2, r3)) :
  Calls Try.prog 64 #[.pointer (some ⟨g, 0, none⟩)] w fun e w' => e = .returned (.int .i64 r1) ∧ IsS110 w0 w' g r2 r3 ∧ Below w0.heap.size w0 w' ∧ KeepBut w w' g none := by
 have HI0 := Aside0.mk hI
 have HK := Aside0.mk (KeepBut.refl w g none)
 have HL := Aside0.mk hB.size
 clear hI; have HW0 := Aside0.mk hB.size
 have HB := Aside0.mk hB
 clear hB; have H : (some (s0_1, s0_0, s0_1)) = some (r1, r2, r3) := h
 clear h; simp only [Option.some.injEq, Prod.mk.injEq] at H
 obtain ⟨rfl, rfl, rfl⟩ := H
 obtain ⟨HGz2, hgz2⟩ := HI0.out
 have hcz2_0 := cellS110_0 HGz2
 have hcz2_1 := cellS110_1 HGz2
 have hfz2_0 := blk_frozen HGz2 0; have hfz2_1 := blk_frozen HGz2 1; clear HGz2 hgz2; go_enter Try.func64, Try.ntmps64
 go_wp2
 go_ret
 exact ⟨zE, by repeat (first | (with_reducible first | exact HI0.out | apply IsS110.alloc | apply IsS110.drewN | apply IsS110.drew | apply IsS110.set_0 | apply IsS110.set_1) | exact HI0.out), by repeat (first | (with_reducible first | exact HB.out | apply below_alloc | apply pw_below_drewN | apply below_drew1 | refine below_set ?_ (IsS110.ge HI0.out)) | exact HB.out), by repeat (first | (with_reducible first | exact HK.out | apply KeepBut.set_ | apply keep_drewN | apply keep_drew | apply keep_alloc) | exact HK.out)⟩
end Go.Proofs.Ytehnebddmbdnhaa.PWireApart
