-- Written by this session's own program (wip/tools/mkprint.py) over the kit's printer, with overrides.
import Derived.Test.YtehnebddmbdnhaaTWireAparta
import Derived.Test.YtehnebddmbdnhaaQWireApartx0
import Derived.Test.YtehnebddmbdnhaaQWireApartx2
import Derived.Test.YtehnebddmbdnhaaQWireApartx4
import Derived.Test.YtehnebddmbdnhaaQWireApartx5
namespace Go.Proofs.Ytehnebddmbdnhaa.PWireApart
open Go.RowKit Go.Mine Go.Proofs.YtehnebddmbdnhaaW.PrintWords Go.Proofs.YtehnebddmbdnhaaW.PrintLast Go.Proofs.YtehnebddmbdnhaaW.PrintMore
attribute [local go_sem] max2_int min2_int max_two min_two max_three min_three max_four min_four   -- for this text's walks alone
set_option linter.unusedVariables false
set_option linter.unusedSimpArgs false
/-! ### manifest_Read: function 37 -/
def manifest_Read.word : ByteArray := ⟨#[109, 111, 115, 49]⟩
def manifest_Read.f (k : Nat) (a0 : ByteArray) : Option (Int × Int × Int × Int × Int × Int × Int × ByteArray × Int) :=
  (oct_Reader_Raw.f a0 0 4).bind fun b => (oct_Reader_Num.f k b.2.1 b.2.2 2).bind fun n0 => (oct_Reader_Num.f k n0.2.1 n0.2.2 1).bind fun n1 => (oct_Reader_Num.f k n1.2.1 n1.2.2 7).bind fun n2 => (oct_Reader_Num.f k n2.2.1 n2.2.2 2).bind fun n3 => (oct_Reader_Num.f k n3.2.1 n3.2.2 2).bind fun n4 => (oct_Reader_Num.f k n4.2.1 n4.2.2 1).bind fun n5 => (oct_Reader_Num.f k n5.2.1 n5.2.2 1).bind fun n6 => (oct_Reader_Rest.f n6.2.1 n6.2.2).bind fun rt => if b.1.toList = [109, 111, 115, 49] then (if rt.2.2 = 0 then (manifest_Check.f k n0.1 n1.1 n2.1 n3.1 n4.1 n5.1 n6.1 rt.1).bind fun c => if c = true then some (n0.1, n1.1, n2.1, n3.1, n4.1, n5.1, n6.1, rt.1, 0) else some (0, 0, 0, 0, 0, 0, 0, (⟨#[]⟩ : ByteArray), 3) else some (0, 0, 0, 0, 0, 0, 0, (⟨#[]⟩ : ByteArray), 3)) else some (0, 0, 0, 0, 0, 0, 0, (⟨#[]⟩ : ByteArray), 3)
theorem manifest_Read.mono : ∀ a0 k, LeO (manifest_Read.f k a0) (manifest_Read.f (k + 1) a0) := by
  intro a0 k
  unfold manifest_Read.f
  repeat' first | exact LeO.refl _ | apply oct_Reader_Num.mono | apply manifest_Check.mono | refine LeO.ite ?_ ?_ | refine LeO.bind ?_ (fun _ => ?_)
def manifest_Read.pick {α : Type} (x0 x1 x2 x3 x4 x5 x6 x7 : α) : Nat → α
  | 0 => x0 | 1 => x1 | 2 => x2 | 3 => x3 | 4 => x4 | 5 => x5 | 6 => x6 | _ => x7
theorem manifest_Read.apart {W : World} {a b : Nat} {cs cs' : Array Value} {t t' : TypeId} (ha : W.heap[a]? = some (.cells cs t (0, 0))) (hb : W.heap[b]? = some (.cells cs' t' (0, 0))) (h : t ≠ t') : a ≠ b := by
  rintro rfl
  rw [ha] at hb
  injection hb with hb
  injection hb with _ h2
  exact h h2
set_option maxHeartbeats 8000000 in
set_option maxRecDepth 100000 in
theorem manifest_Read.calls (k : Nat) (a0 : ByteArray) (r1 r2 r3 r4 r5 r6 r7 : Int) (r8 : ByteArray) (r9 : Int) (w : World) (h : manifest_Read.f k a0 = some (r1, r2, r3, r4, r5, r6, r7, r8, r9)) :
    Calls Try.prog 37 #[.string a0] w fun e w' => e = .returned (.tuple #[.agg #[.int .i64 r1, .int .i64 r2, .int .i64 r3, .int .i64 r4, .int .i64 r5, .int .i64 r6, .int .i64 r7, .string r8], .int .i64 r9]) ∧ Below w.heap.size w w' := by
  have hu32 := Try.underlying32
  have HB := Aside0.mk (Below.refl w.heap.size w)
  unfold manifest_Read.f at h
  obtain ⟨⟨b0, b1, b2⟩, hb, h⟩ := Option.bind_eq_some_iff.mp h
  have ARW := Aside0.mk hb
  clear hb
  obtain ⟨⟨n0, s1, e1⟩, hb, h⟩ := Option.bind_eq_some_iff.mp h
  have AN0 := Aside0.mk hb
  clear hb
  obtain ⟨⟨n1, s2, e2⟩, hb, h⟩ := Option.bind_eq_some_iff.mp h
  have AN1 := Aside0.mk hb
  clear hb
  obtain ⟨⟨n2, s3, e3⟩, hb, h⟩ := Option.bind_eq_some_iff.mp h
  have AN2 := Aside0.mk hb
  clear hb
  obtain ⟨⟨n3, s4, e4⟩, hb, h⟩ := Option.bind_eq_some_iff.mp h
  have AN3 := Aside0.mk hb
  clear hb
  obtain ⟨⟨n4, s5, e5⟩, hb, h⟩ := Option.bind_eq_some_iff.mp h
  have AN4 := Aside0.mk hb
  clear hb
  obtain ⟨⟨n5, s6, e6⟩, hb, h⟩ := Option.bind_eq_some_iff.mp h
  have AN5 := Aside0.mk hb
  clear hb
  obtain ⟨⟨n6, s7, e7⟩, hb, h⟩ := Option.bind_eq_some_iff.mp h
  have AN6 := Aside0.mk hb
  clear hb
  obtain ⟨⟨rt, s8, e8⟩, hb, h⟩ := Option.bind_eq_some_iff.mp h
  have ART := Aside0.mk hb
  clear hb
  simp only at h
  have H := Aside0.mk h
  clear h
  go_enter Try.func37, Try.ntmps37
  go_wp2_with (first | ((with_reducible refine gate_dst (N := 2) rfl ?_); refine box_event ?hg (N := 2) ?hd (cs := #[.int .i64 0, .int .i64 0, .int .i64 0, .int .i64 0, .int .i64 0, .int .i64 0, .int .i64 0, .string (⟨#[]⟩ : ByteArray)]) (t := 32) ?hr ?_; (case hd => rfl); (case hg => rfl); (case hr => first | (go_simp; done) | (go_simp; rfl)); intro gb hg w2 hbox hb; have BK := Aside0.mk hbox; have GEB := Aside0.mk (zg : w.heap.size ≤ gb); replace HB := Aside0.mk (below_step zB hb); clear hb hbox hg) | (go_at_call 32; (with_reducible refine (oct_From.calls a0 a0 0 w _ HB.out rfl).mono ?_); rintro e w3 ⟨g, rfl, hi, hb, hb2⟩; have HI := Aside0.mk hi; replace BK := Aside0.mk (blk_below BK.out hb2); replace HB := Aside0.mk hb; clear hi hb hb2) | (go_at_call 63; (with_reducible refine (oct_Reader_Raw.calls g a0 0 4 b0 b1 b2 w _ HI.out HB.out ARW.out).mono ?_); rintro e w4 ⟨rfl, hi, hb, hk⟩; replace BK := Aside0.mk (hk.blk BK.out (Ne.symm (HI.out.ne_blk BK.out (by decide))) (by simp)); replace HI := Aside0.mk hi; replace HB := Aside0.mk hb; clear hi hb hk) | ((with_reducible refine gate_dst (N := 6) rfl ?_); refine box_event ?hg (N := 6) ?hd (cs := #[.int .i64 0, .int .i64 0, .int .i64 0, .int .i64 0, .int .i64 0, .int .i64 0, .int .i64 0]) (t := 113) ?hr ?_; (case hd => rfl); (case hg => rfl); (case hr => first | (go_simp; done) | (go_simp; rfl)); intro ga hg w5 hbox hb; have HA := Aside0.mk hbox; have GEA := Aside0.mk (zg : w.heap.size ≤ ga); replace HI := Aside0.mk (HI.out.below hb); replace BK := Aside0.mk (blk_below BK.out hb); replace HB := Aside0.mk (below_step zB hb); clear hb hbox hg) | (go_at_call 53; refine (manifest_numbers.gives 0 0 0 0 0 0 0 ⟨#[]⟩ _).mono ?_; rintro e w6 ⟨rfl, hb⟩; replace HI := Aside0.mk (HI.out.below hb); replace BK := Aside0.mk (blk_below BK.out hb); replace HA := Aside0.mk (blk_below HA.out hb); replace HB := Aside0.mk (below_step zB hb); clear hb))
  have hix0 : ∀ W : World, (Instr.index 104 (.agg #[.int .i64 0, .int .i64 2, .int .i64 0, .int .i64 1, .int .i64 0, .int .i64 7, .int .i64 0, .int .i64 2, .int .i64 0, .int .i64 2, .int .i64 0, .int .i64 1, .int .i64 0, .int .i64 1]) (.int .i64 0)).run Try.prog W = .ok (.agg #[.int .i64 0, .int .i64 2]) W := fun W => by kernel_rfl
  have hix1 : ∀ W : World, (Instr.index 104 (.agg #[.int .i64 0, .int .i64 2, .int .i64 0, .int .i64 1, .int .i64 0, .int .i64 7, .int .i64 0, .int .i64 2, .int .i64 0, .int .i64 2, .int .i64 0, .int .i64 1, .int .i64 0, .int .i64 1]) (.int .i64 1)).run Try.prog W = .ok (.agg #[.int .i64 0, .int .i64 1]) W := fun W => by kernel_rfl
  have hix2 : ∀ W : World, (Instr.index 104 (.agg #[.int .i64 0, .int .i64 2, .int .i64 0, .int .i64 1, .int .i64 0, .int .i64 7, .int .i64 0, .int .i64 2, .int .i64 0, .int .i64 2, .int .i64 0, .int .i64 1, .int .i64 0, .int .i64 1]) (.int .i64 2)).run Try.prog W = .ok (.agg #[.int .i64 0, .int .i64 7]) W := fun W => by kernel_rfl
  have hix3 : ∀ W : World, (Instr.index 104 (.agg #[.int .i64 0, .int .i64 2, .int .i64 0, .int .i64 1, .int .i64 0, .int .i64 7, .int .i64 0, .int .i64 2, .int .i64 0, .int .i64 2, .int .i64 0, .int .i64 1, .int .i64 0, .int .i64 1]) (.int .i64 3)).run Try.prog W = .ok (.agg #[.int .i64 0, .int .i64 2]) W := fun W => by kernel_rfl
  have hix4 : ∀ W : World, (Instr.index 104 (.agg #[.int .i64 0, .int .i64 2, .int .i64 0, .int .i64 1, .int .i64 0, .int .i64 7, .int .i64 0, .int .i64 2, .int .i64 0, .int .i64 2, .int .i64 0, .int .i64 1, .int .i64 0, .int .i64 1]) (.int .i64 4)).run Try.prog W = .ok (.agg #[.int .i64 0, .int .i64 2]) W := fun W => by kernel_rfl
  have hix5 : ∀ W : World, (Instr.index 104 (.agg #[.int .i64 0, .int .i64 2, .int .i64 0, .int .i64 1, .int .i64 0, .int .i64 7, .int .i64 0, .int .i64 2, .int .i64 0, .int .i64 2, .int .i64 0, .int .i64 1, .int .i64 0, .int .i64 1]) (.int .i64 5)).run Try.prog W = .ok (.agg #[.int .i64 0, .int .i64 1]) W := fun W => by kernel_rfl
  have hix6 : ∀ W : World, (Instr.index 104 (.agg #[.int .i64 0, .int .i64 2, .int .i64 0, .int .i64 1, .int .i64 0, .int .i64 7, .int .i64 0, .int .i64 2, .int .i64 0, .int .i64 2, .int .i64 0, .int .i64 1, .int .i64 0, .int .i64 1]) (.int .i64 6)).run Try.prog W = .ok (.agg #[.int .i64 0, .int .i64 1]) W := fun W => by kernel_rfl
  go_loopg [16] 7 (fun gg s16 wr => ∃ i : Nat, i ≤ 7 ∧ 7 - i ≤ gg ∧ s16 = .int .i64 i ∧ Aside0 (IsS110 w wr g (manifest_Read.pick b1 s1 s2 s3 s4 s5 s6 s7 i) (manifest_Read.pick b2 e1 e2 e3 e4 e5 e6 e7 i)) ∧ Aside0 (wr.heap[gb]? = some (.cells #[.int .i64 0, .int .i64 0, .int .i64 0, .int .i64 0, .int .i64 0, .int .i64 0, .int .i64 0, .string (⟨#[]⟩ : ByteArray)] 32 (0, 0))) ∧ Aside0 (wr.heap[ga]? = some (.cells (manifest_Read.pick #[.int .i64 0, .int .i64 0, .int .i64 0, .int .i64 0, .int .i64 0, .int .i64 0, .int .i64 0] #[.int .i64 n0, .int .i64 0, .int .i64 0, .int .i64 0, .int .i64 0, .int .i64 0, .int .i64 0] #[.int .i64 n0, .int .i64 n1, .int .i64 0, .int .i64 0, .int .i64 0, .int .i64 0, .int .i64 0] #[.int .i64 n0, .int .i64 n1, .int .i64 n2, .int .i64 0, .int .i64 0, .int .i64 0, .int .i64 0] #[.int .i64 n0, .int .i64 n1, .int .i64 n2, .int .i64 n3, .int .i64 0, .int .i64 0, .int .i64 0] #[.int .i64 n0, .int .i64 n1, .int .i64 n2, .int .i64 n3, .int .i64 n4, .int .i64 0, .int .i64 0] #[.int .i64 n0, .int .i64 n1, .int .i64 n2, .int .i64 n3, .int .i64 n4, .int .i64 n5, .int .i64 0] #[.int .i64 n0, .int .i64 n1, .int .i64 n2, .int .i64 n3, .int .i64 n4, .int .i64 n5, .int .i64 n6] i) 113 (0, 0))) ∧ Aside0 (Below w.heap.size w wr))
  case atStart => exact ⟨0, by omega, by omega, rfl, HI, BK, HA, HB⟩
  case round =>
    clear HI BK HA HB
    obtain ⟨i, hi7, hgg, rfl, HI, BK, HA, HB⟩ := hrel
    by_cases hlt : i < 7
    · have hi : i = 0 ∨ i = 1 ∨ i = 2 ∨ i = 3 ∨ i = 4 ∨ i = 5 ∨ i = 6 := by omega
      rcases hi with rfl | rfl | rfl | rfl | rfl | rfl | rfl
      · replace HI : Aside0 (IsS110 w wr g b1 b2) := HI
        replace HA : Aside0 (wr.heap[ga]? = some (.cells #[.int .i64 0, .int .i64 0, .int .i64 0, .int .i64 0, .int .i64 0, .int .i64 0, .int .i64 0] 113 (0, 0))) := HA
        go_wp2_with (first | (go_at_call 33; refine Calls.mono (oct_Reader_Num.calls k g b1 b2 2 n0 s1 e1 w _ (HI.out.alloc _) (below_alloc HB.out _) AN0.out) ?_; rintro e w12 ⟨rfl, hi, hb, hk⟩; replace BK := Aside0.mk (hk.blk (blk_alloc BK.out _) (Ne.symm (HI.out.ne_blk BK.out (by decide))) (by simp)); replace HA := Aside0.mk (hk.blk (blk_alloc HA.out _) (Ne.symm (HI.out.ne_blk HA.out (by decide))) (by simp)); replace HI := Aside0.mk hi; replace HB := Aside0.mk hb; clear hi hb hk; obtain ⟨q0, q1, q2, q3, q4, q5, q6⟩ := cZ7 HA; obtain ⟨g0, g1, g2, g3, g4, g5, g6⟩ := dZ7 HA))
        have HNE := Aside0.mk (manifest_Read.apart BK.out HA.out (by decide))
        have HNG := Aside0.mk (HI.out.ne_blk HA.out (by decide))
        have HGA := GEA
        go_roundg (gk - 1)
        case measure => omega
        case rel => exact ⟨1, by omega, by omega, by go_num, ⟨HI.out.far HNG.out _⟩, ⟨blk_far BK.out HNE.out _⟩, ⟨blk_put (cs := #[.int .i64 0, .int .i64 0, .int .i64 0, .int .i64 0, .int .i64 0, .int .i64 0, .int .i64 0]) HA.out 0 _ rfl⟩, ⟨below_set HB.out HGA.out⟩⟩
      · replace HI : Aside0 (IsS110 w wr g s1 e1) := HI
        replace HA : Aside0 (wr.heap[ga]? = some (.cells #[.int .i64 n0, .int .i64 0, .int .i64 0, .int .i64 0, .int .i64 0, .int .i64 0, .int .i64 0] 113 (0, 0))) := HA
        go_wp2_with (first | (go_at_call 33; refine Calls.mono (oct_Reader_Num.calls k g s1 e1 1 n1 s2 e2 w _ (HI.out.alloc _) (below_alloc HB.out _) AN1.out) ?_; rintro e w12 ⟨rfl, hi, hb, hk⟩; replace BK := Aside0.mk (hk.blk (blk_alloc BK.out _) (Ne.symm (HI.out.ne_blk BK.out (by decide))) (by simp)); replace HA := Aside0.mk (hk.blk (blk_alloc HA.out _) (Ne.symm (HI.out.ne_blk HA.out (by decide))) (by simp)); replace HI := Aside0.mk hi; replace HB := Aside0.mk hb; clear hi hb hk; obtain ⟨q0, q1, q2, q3, q4, q5, q6⟩ := cZ7 HA; obtain ⟨g0, g1, g2, g3, g4, g5, g6⟩ := dZ7 HA))
        have HNE := Aside0.mk (manifest_Read.apart BK.out HA.out (by decide))
        have HNG := Aside0.mk (HI.out.ne_blk HA.out (by decide))
        have HGA := GEA
        go_roundg (gk - 1)
        case measure => omega
        case rel => exact ⟨2, by omega, by omega, by go_num, ⟨HI.out.far HNG.out _⟩, ⟨blk_far BK.out HNE.out _⟩, ⟨blk_put (cs := #[.int .i64 n0, .int .i64 0, .int .i64 0, .int .i64 0, .int .i64 0, .int .i64 0, .int .i64 0]) HA.out 1 _ rfl⟩, ⟨below_set HB.out HGA.out⟩⟩
      · replace HI : Aside0 (IsS110 w wr g s2 e2) := HI
        replace HA : Aside0 (wr.heap[ga]? = some (.cells #[.int .i64 n0, .int .i64 n1, .int .i64 0, .int .i64 0, .int .i64 0, .int .i64 0, .int .i64 0] 113 (0, 0))) := HA
        go_wp2_with (first | (go_at_call 33; refine Calls.mono (oct_Reader_Num.calls k g s2 e2 7 n2 s3 e3 w _ (HI.out.alloc _) (below_alloc HB.out _) AN2.out) ?_; rintro e w12 ⟨rfl, hi, hb, hk⟩; replace BK := Aside0.mk (hk.blk (blk_alloc BK.out _) (Ne.symm (HI.out.ne_blk BK.out (by decide))) (by simp)); replace HA := Aside0.mk (hk.blk (blk_alloc HA.out _) (Ne.symm (HI.out.ne_blk HA.out (by decide))) (by simp)); replace HI := Aside0.mk hi; replace HB := Aside0.mk hb; clear hi hb hk; obtain ⟨q0, q1, q2, q3, q4, q5, q6⟩ := cZ7 HA; obtain ⟨g0, g1, g2, g3, g4, g5, g6⟩ := dZ7 HA))
        have HNE := Aside0.mk (manifest_Read.apart BK.out HA.out (by decide))
        have HNG := Aside0.mk (HI.out.ne_blk HA.out (by decide))
        have HGA := GEA
        go_roundg (gk - 1)
        case measure => omega
        case rel => exact ⟨3, by omega, by omega, by go_num, ⟨HI.out.far HNG.out _⟩, ⟨blk_far BK.out HNE.out _⟩, ⟨blk_put (cs := #[.int .i64 n0, .int .i64 n1, .int .i64 0, .int .i64 0, .int .i64 0, .int .i64 0, .int .i64 0]) HA.out 2 _ rfl⟩, ⟨below_set HB.out HGA.out⟩⟩
      · replace HI : Aside0 (IsS110 w wr g s3 e3) := HI
        replace HA : Aside0 (wr.heap[ga]? = some (.cells #[.int .i64 n0, .int .i64 n1, .int .i64 n2, .int .i64 0, .int .i64 0, .int .i64 0, .int .i64 0] 113 (0, 0))) := HA
        go_wp2_with (first | (go_at_call 33; refine Calls.mono (oct_Reader_Num.calls k g s3 e3 2 n3 s4 e4 w _ (HI.out.alloc _) (below_alloc HB.out _) AN3.out) ?_; rintro e w12 ⟨rfl, hi, hb, hk⟩; replace BK := Aside0.mk (hk.blk (blk_alloc BK.out _) (Ne.symm (HI.out.ne_blk BK.out (by decide))) (by simp)); replace HA := Aside0.mk (hk.blk (blk_alloc HA.out _) (Ne.symm (HI.out.ne_blk HA.out (by decide))) (by simp)); replace HI := Aside0.mk hi; replace HB := Aside0.mk hb; clear hi hb hk; obtain ⟨q0, q1, q2, q3, q4, q5, q6⟩ := cZ7 HA; obtain ⟨g0, g1, g2, g3, g4, g5, g6⟩ := dZ7 HA))
        have HNE := Aside0.mk (manifest_Read.apart BK.out HA.out (by decide))
        have HNG := Aside0.mk (HI.out.ne_blk HA.out (by decide))
        have HGA := GEA
        go_roundg (gk - 1)
        case measure => omega
        case rel => exact ⟨4, by omega, by omega, by go_num, ⟨HI.out.far HNG.out _⟩, ⟨blk_far BK.out HNE.out _⟩, ⟨blk_put (cs := #[.int .i64 n0, .int .i64 n1, .int .i64 n2, .int .i64 0, .int .i64 0, .int .i64 0, .int .i64 0]) HA.out 3 _ rfl⟩, ⟨below_set HB.out HGA.out⟩⟩
      · replace HI : Aside0 (IsS110 w wr g s4 e4) := HI
        replace HA : Aside0 (wr.heap[ga]? = some (.cells #[.int .i64 n0, .int .i64 n1, .int .i64 n2, .int .i64 n3, .int .i64 0, .int .i64 0, .int .i64 0] 113 (0, 0))) := HA
        go_wp2_with (first | (go_at_call 33; refine Calls.mono (oct_Reader_Num.calls k g s4 e4 2 n4 s5 e5 w _ (HI.out.alloc _) (below_alloc HB.out _) AN4.out) ?_; rintro e w12 ⟨rfl, hi, hb, hk⟩; replace BK := Aside0.mk (hk.blk (blk_alloc BK.out _) (Ne.symm (HI.out.ne_blk BK.out (by decide))) (by simp)); replace HA := Aside0.mk (hk.blk (blk_alloc HA.out _) (Ne.symm (HI.out.ne_blk HA.out (by decide))) (by simp)); replace HI := Aside0.mk hi; replace HB := Aside0.mk hb; clear hi hb hk; obtain ⟨q0, q1, q2, q3, q4, q5, q6⟩ := cZ7 HA; obtain ⟨g0, g1, g2, g3, g4, g5, g6⟩ := dZ7 HA))
        have HNE := Aside0.mk (manifest_Read.apart BK.out HA.out (by decide))
        have HNG := Aside0.mk (HI.out.ne_blk HA.out (by decide))
        have HGA := GEA
        go_roundg (gk - 1)
        case measure => omega
        case rel => exact ⟨5, by omega, by omega, by go_num, ⟨HI.out.far HNG.out _⟩, ⟨blk_far BK.out HNE.out _⟩, ⟨blk_put (cs := #[.int .i64 n0, .int .i64 n1, .int .i64 n2, .int .i64 n3, .int .i64 0, .int .i64 0, .int .i64 0]) HA.out 4 _ rfl⟩, ⟨below_set HB.out HGA.out⟩⟩
      · replace HI : Aside0 (IsS110 w wr g s5 e5) := HI
        replace HA : Aside0 (wr.heap[ga]? = some (.cells #[.int .i64 n0, .int .i64 n1, .int .i64 n2, .int .i64 n3, .int .i64 n4, .int .i64 0, .int .i64 0] 113 (0, 0))) := HA
        go_wp2_with (first | (go_at_call 33; refine Calls.mono (oct_Reader_Num.calls k g s5 e5 1 n5 s6 e6 w _ (HI.out.alloc _) (below_alloc HB.out _) AN5.out) ?_; rintro e w12 ⟨rfl, hi, hb, hk⟩; replace BK := Aside0.mk (hk.blk (blk_alloc BK.out _) (Ne.symm (HI.out.ne_blk BK.out (by decide))) (by simp)); replace HA := Aside0.mk (hk.blk (blk_alloc HA.out _) (Ne.symm (HI.out.ne_blk HA.out (by decide))) (by simp)); replace HI := Aside0.mk hi; replace HB := Aside0.mk hb; clear hi hb hk; obtain ⟨q0, q1, q2, q3, q4, q5, q6⟩ := cZ7 HA; obtain ⟨g0, g1, g2, g3, g4, g5, g6⟩ := dZ7 HA))
        have HNE := Aside0.mk (manifest_Read.apart BK.out HA.out (by decide))
        have HNG := Aside0.mk (HI.out.ne_blk HA.out (by decide))
        have HGA := GEA
        go_roundg (gk - 1)
        case measure => omega
        case rel => exact ⟨6, by omega, by omega, by go_num, ⟨HI.out.far HNG.out _⟩, ⟨blk_far BK.out HNE.out _⟩, ⟨blk_put (cs := #[.int .i64 n0, .int .i64 n1, .int .i64 n2, .int .i64 n3, .int .i64 n4, .int .i64 0, .int .i64 0]) HA.out 5 _ rfl⟩, ⟨below_set HB.out HGA.out⟩⟩
      · replace HI : Aside0 (IsS110 w wr g s6 e6) := HI
        replace HA : Aside0 (wr.heap[ga]? = some (.cells #[.int .i64 n0, .int .i64 n1, .int .i64 n2, .int .i64 n3, .int .i64 n4, .int .i64 n5, .int .i64 0] 113 (0, 0))) := HA
        go_wp2_with (first | (go_at_call 33; refine Calls.mono (oct_Reader_Num.calls k g s6 e6 1 n6 s7 e7 w _ (HI.out.alloc _) (below_alloc HB.out _) AN6.out) ?_; rintro e w12 ⟨rfl, hi, hb, hk⟩; replace BK := Aside0.mk (hk.blk (blk_alloc BK.out _) (Ne.symm (HI.out.ne_blk BK.out (by decide))) (by simp)); replace HA := Aside0.mk (hk.blk (blk_alloc HA.out _) (Ne.symm (HI.out.ne_blk HA.out (by decide))) (by simp)); replace HI := Aside0.mk hi; replace HB := Aside0.mk hb; clear hi hb hk; obtain ⟨q0, q1, q2, q3, q4, q5, q6⟩ := cZ7 HA; obtain ⟨g0, g1, g2, g3, g4, g5, g6⟩ := dZ7 HA))
        have HNE := Aside0.mk (manifest_Read.apart BK.out HA.out (by decide))
        have HNG := Aside0.mk (HI.out.ne_blk HA.out (by decide))
        have HGA := GEA
        go_roundg (gk - 1)
        case measure => omega
        case rel => exact ⟨7, by omega, by omega, by go_num, ⟨HI.out.far HNG.out _⟩, ⟨blk_far BK.out HNE.out _⟩, ⟨blk_put (cs := #[.int .i64 n0, .int .i64 n1, .int .i64 n2, .int .i64 n3, .int .i64 n4, .int .i64 n5, .int .i64 0]) HA.out 6 _ rfl⟩, ⟨below_set HB.out HGA.out⟩⟩
    · obtain rfl : i = 7 := by omega
      replace HI : Aside0 (IsS110 w wr g s7 e7) := HI
      replace HA : Aside0 (wr.heap[ga]? = some (.cells #[.int .i64 n0, .int .i64 n1, .int .i64 n2, .int .i64 n3, .int .i64 n4, .int .i64 n5, .int .i64 n6] 113 (0, 0))) := HA
      have h77 : ¬ (7 : Int) < 7 := by omega
      obtain ⟨q0, q1, q2, q3, q4, q5, q6⟩ := cZ7 HA; obtain ⟨g0, g1, g2, g3, g4, g5, g6⟩ := dZ7 HA
      go_wp2_with fail
      refine start_ (n := 21) (S := fun w' => w'.cell? ⟨ga, 0, none⟩ = some (.int .i64 n0) ∧ w'.cell? ⟨ga, 1, none⟩ = some (.int .i64 n1) ∧ w'.cell? ⟨ga, 2, none⟩ = some (.int .i64 n2) ∧ w'.cell? ⟨ga, 3, none⟩ = some (.int .i64 n3) ∧ w'.cell? ⟨ga, 4, none⟩ = some (.int .i64 n4) ∧ w'.cell? ⟨ga, 5, none⟩ = some (.int .i64 n5) ∧ w'.cell? ⟨ga, 6, none⟩ = some (.int .i64 n6)) (ds := [20]) #[false, false, false, false, false, false, false, false, false, false, false, false, false, false, false, false, false, false, false, false, false] (by kernel_rfl) rfl rfl ⟨q0, q1, q2, q3, q4, q5, q6⟩ (fun hHeld => ?_)
      refine pure_ (i := 0) (N := some 27) (v := ?_) (a' := ?_) #[true, false, false, false, false, false, false, false, false, false, false, false, false, false, false, false, false, false, false, false, false] rfl rfl (by kernel_rfl) (fun _ _ _ h => h) (Or.inl ⟨by rfl, ?_⟩) ?_ ?_
      rotate_left
      · intro w'
        go_simp
        with_reducible rfl
      rotate_left
      · simp only [Act.put, List.setIfInBounds_toArray, List.set_cons_zero, List.set_cons_succ, i64_w, i32_w]
        rfl
      refine pure_ (i := 2) (N := some 29) (v := ?_) (a' := ?_) #[true, false, true, false, false, false, false, false, false, false, false, false, false, false, false, false, false, false, false, false, false] rfl rfl (by kernel_rfl) (fun _ _ _ h => h) (Or.inl ⟨by rfl, ?_⟩) ?_ ?_
      rotate_left
      · intro w'
        go_simp
        with_reducible rfl
      rotate_left
      · simp only [Act.put, List.setIfInBounds_toArray, List.set_cons_zero, List.set_cons_succ, i64_w, i32_w]
        rfl
      refine pure_ (i := 4) (N := some 31) (v := ?_) (a' := ?_) #[true, false, true, false, true, false, false, false, false, false, false, false, false, false, false, false, false, false, false, false, false] rfl rfl (by kernel_rfl) (fun _ _ _ h => h) (Or.inl ⟨by rfl, ?_⟩) ?_ ?_
      rotate_left
      · intro w'
        go_simp
        with_reducible rfl
      rotate_left
      · simp only [Act.put, List.setIfInBounds_toArray, List.set_cons_zero, List.set_cons_succ, i64_w, i32_w]
        rfl
      refine pure_ (i := 6) (N := some 33) (v := ?_) (a' := ?_) #[true, false, true, false, true, false, true, false, false, false, false, false, false, false, false, false, false, false, false, false, false] rfl rfl (by kernel_rfl) (fun _ _ _ h => h) (Or.inl ⟨by rfl, ?_⟩) ?_ ?_
      rotate_left
      · intro w'
        go_simp
        with_reducible rfl
      rotate_left
      · simp only [Act.put, List.setIfInBounds_toArray, List.set_cons_zero, List.set_cons_succ, i64_w, i32_w]
        rfl
      refine pure_ (i := 8) (N := some 35) (v := ?_) (a' := ?_) #[true, false, true, false, true, false, true, false, true, false, false, false, false, false, false, false, false, false, false, false, false] rfl rfl (by kernel_rfl) (fun _ _ _ h => h) (Or.inl ⟨by rfl, ?_⟩) ?_ ?_
      rotate_left
      · intro w'
        go_simp
        with_reducible rfl
      rotate_left
      · simp only [Act.put, List.setIfInBounds_toArray, List.set_cons_zero, List.set_cons_succ, i64_w, i32_w]
        rfl
      refine pure_ (i := 11) (N := some 38) (v := ?_) (a' := ?_) #[true, false, true, false, true, false, true, false, true, false, false, true, false, false, false, false, false, false, false, false, false] rfl rfl (by kernel_rfl) (fun _ _ _ h => h) (Or.inl ⟨by rfl, ?_⟩) ?_ ?_
      rotate_left
      · intro w'
        go_simp
        with_reducible rfl
      rotate_left
      · simp only [Act.put, List.setIfInBounds_toArray, List.set_cons_zero, List.set_cons_succ, i64_w, i32_w]
        rfl
      refine pure_ (i := 13) (N := some 40) (v := ?_) (a' := ?_) #[true, false, true, false, true, false, true, false, true, false, false, true, false, true, false, false, false, false, false, false, false] rfl rfl (by kernel_rfl) (fun _ _ _ h => h) (Or.inl ⟨by rfl, ?_⟩) ?_ ?_
      rotate_left
      · intro w'
        go_simp
        with_reducible rfl
      rotate_left
      · simp only [Act.put, List.setIfInBounds_toArray, List.set_cons_zero, List.set_cons_succ, i64_w, i32_w]
        rfl
      refine pure_ (i := 16) (N := some 43) (v := ?_) (a' := ?_) #[true, false, true, false, true, false, true, false, true, false, false, true, false, true, false, false, true, false, false, false, false] rfl rfl (by kernel_rfl) (fun _ _ _ h => h) (Or.inl ⟨by rfl, ?_⟩) ?_ ?_
      rotate_left
      · intro w'
        go_simp
        with_reducible rfl
      rotate_left
      · simp only [Act.put, List.setIfInBounds_toArray, List.set_cons_zero, List.set_cons_succ, i64_w, i32_w]
        rfl
      refine take_ (i := 1) (N := some 28) (v := ?_) (a' := ?_) #[true, true, true, false, true, false, true, false, true, false, false, true, false, true, false, false, true, false, false, false, false] rfl rfl (by kernel_rfl) (fun _ _ _ h => h) (Or.inl ⟨by rfl, ?_⟩) hHeld ?_ ?_
      rotate_left
      · rintro w' ⟨s0, s1, s2, s3, s4, s5, s6⟩
        go_simp
        with_reducible rfl
      rotate_left
      · simp only [Act.put, List.setIfInBounds_toArray, List.set_cons_zero, List.set_cons_succ, i64_w, i32_w]
        rfl
      refine take_ (i := 3) (N := some 30) (v := ?_) (a' := ?_) #[true, true, true, true, true, false, true, false, true, false, false, true, false, true, false, false, true, false, false, false, false] rfl rfl (by kernel_rfl) (fun _ _ _ h => h) (Or.inl ⟨by rfl, ?_⟩) hHeld ?_ ?_
      rotate_left
      · rintro w' ⟨s0, s1, s2, s3, s4, s5, s6⟩
        go_simp
        with_reducible rfl
      rotate_left
      · simp only [Act.put, List.setIfInBounds_toArray, List.set_cons_zero, List.set_cons_succ, i64_w, i32_w]
        rfl
      refine take_ (i := 5) (N := some 32) (v := ?_) (a' := ?_) #[true, true, true, true, true, true, true, false, true, false, false, true, false, true, false, false, true, false, false, false, false] rfl rfl (by kernel_rfl) (fun _ _ _ h => h) (Or.inl ⟨by rfl, ?_⟩) hHeld ?_ ?_
      rotate_left
      · rintro w' ⟨s0, s1, s2, s3, s4, s5, s6⟩
        go_simp
        with_reducible rfl
      rotate_left
      · simp only [Act.put, List.setIfInBounds_toArray, List.set_cons_zero, List.set_cons_succ, i64_w, i32_w]
        rfl
      refine take_ (i := 7) (N := some 34) (v := ?_) (a' := ?_) #[true, true, true, true, true, true, true, true, true, false, false, true, false, true, false, false, true, false, false, false, false] rfl rfl (by kernel_rfl) (fun _ _ _ h => h) (Or.inl ⟨by rfl, ?_⟩) hHeld ?_ ?_
      rotate_left
      · rintro w' ⟨s0, s1, s2, s3, s4, s5, s6⟩
        go_simp
        with_reducible rfl
      rotate_left
      · simp only [Act.put, List.setIfInBounds_toArray, List.set_cons_zero, List.set_cons_succ, i64_w, i32_w]
        rfl
      refine take_ (i := 9) (N := some 36) (v := ?_) (a' := ?_) #[true, true, true, true, true, true, true, true, true, true, false, true, false, true, false, false, true, false, false, false, false] rfl rfl (by kernel_rfl) (fun _ _ _ h => h) (Or.inl ⟨by rfl, ?_⟩) hHeld ?_ ?_
      rotate_left
      · rintro w' ⟨s0, s1, s2, s3, s4, s5, s6⟩
        go_simp
        with_reducible rfl
      rotate_left
      · simp only [Act.put, List.setIfInBounds_toArray, List.set_cons_zero, List.set_cons_succ, i64_w, i32_w]
        rfl
      refine pure_ (i := 10) (N := some 37) (v := ?_) (a' := ?_) #[true, true, true, true, true, true, true, true, true, true, true, true, false, true, false, false, true, false, false, false, false] rfl rfl (by kernel_rfl) (fun _ _ _ h => h) (Or.inl ⟨by rfl, ?_⟩) ?_ ?_
      rotate_left
      · intro w'
        go_simp
        with_reducible rfl
      rotate_left
      · simp only [Act.put, List.setIfInBounds_toArray, List.set_cons_zero, List.set_cons_succ, i64_w, i32_w]
        rfl
      refine take_ (i := 12) (N := some 39) (v := ?_) (a' := ?_) #[true, true, true, true, true, true, true, true, true, true, true, true, true, true, false, false, true, false, false, false, false] rfl rfl (by kernel_rfl) (fun _ _ _ h => h) (Or.inl ⟨by rfl, ?_⟩) hHeld ?_ ?_
      rotate_left
      · rintro w' ⟨s0, s1, s2, s3, s4, s5, s6⟩
        go_simp
        with_reducible rfl
      rotate_left
      · simp only [Act.put, List.setIfInBounds_toArray, List.set_cons_zero, List.set_cons_succ, i64_w, i32_w]
        rfl
      refine take_ (i := 14) (N := some 41) (v := ?_) (a' := ?_) #[true, true, true, true, true, true, true, true, true, true, true, true, true, true, true, false, true, false, false, false, false] rfl rfl (by kernel_rfl) (fun _ _ _ h => h) (Or.inl ⟨by rfl, ?_⟩) hHeld ?_ ?_
      rotate_left
      · rintro w' ⟨s0, s1, s2, s3, s4, s5, s6⟩
        go_simp
        with_reducible rfl
      rotate_left
      · simp only [Act.put, List.setIfInBounds_toArray, List.set_cons_zero, List.set_cons_succ, i64_w, i32_w]
        rfl
      refine pure_ (i := 15) (N := some 42) (v := ?_) (a' := ?_) #[true, true, true, true, true, true, true, true, true, true, true, true, true, true, true, true, true, false, false, false, false] rfl rfl (by kernel_rfl) (fun _ _ _ h => h) (Or.inl ⟨by rfl, ?_⟩) ?_ ?_
      rotate_left
      · intro w'
        go_simp
        with_reducible rfl
      rotate_left
      · simp only [Act.put, List.setIfInBounds_toArray, List.set_cons_zero, List.set_cons_succ, i64_w, i32_w]
        rfl
      refine join_ (σ := Nat) 1 #[true, true, true, true, true, true, true, true, true, true, true, true, true, true, true, true, true, true, true, true, false] (fun s => [(44, .string rt), (9, .pointer (some ⟨s, 0, none⟩)), (45, .agg #[.int .i64 n0, .int .i64 n1, .int .i64 n2, .int .i64 n3, .int .i64 n4, .int .i64 n5, .int .i64 n6, .string rt])]) (fun s w' => (w'.cell? ⟨ga, 0, none⟩ = some (.int .i64 n0) ∧ w'.cell? ⟨ga, 1, none⟩ = some (.int .i64 n1) ∧ w'.cell? ⟨ga, 2, none⟩ = some (.int .i64 n2) ∧ w'.cell? ⟨ga, 3, none⟩ = some (.int .i64 n3) ∧ w'.cell? ⟨ga, 4, none⟩ = some (.int .i64 n4) ∧ w'.cell? ⟨ga, 5, none⟩ = some (.int .i64 n5) ∧ w'.cell? ⟨ga, 6, none⟩ = some (.int .i64 n6)) ∧ IsS110 w w' g s8 e8 ∧ Below w.heap.size w w' ∧ w'.heap[gb]? = some (.cells #[.int .i64 0, .int .i64 0, .int .i64 0, .int .i64 0, .int .i64 0, .int .i64 0, .int .i64 0, .string (⟨#[]⟩ : ByteArray)] 32 (0, 0)) ∧ w'.heap[s]? = some (.cells #[.int .i64 0, .int .i64 0, .int .i64 0, .int .i64 0, .int .i64 0, .int .i64 0, .int .i64 0, .string (⟨#[]⟩ : ByteArray)] 32 (0, 0)) ∧ gb < s) ?_ ?_
      rotate_left
      · intro hCont
        refine two_ (i := 17) (j := 19) (Ni := some 44) (Nj := some 9) #[true, true, true, true, true, true, true, true, true, true, true, true, true, true, true, true, true, true, false, false, false] #[true, true, true, true, true, true, true, true, true, true, true, true, true, true, true, true, true, false, false, true, false] rfl rfl rfl rfl (by kernel_rfl) (by decide) (by decide) (fun K hK => ?_) (fun K hK => ?_)
        · skip
          refine goes_ Try.func34 (by kernel_rfl) rfl #[.pointer (some ⟨g, 0, none⟩)] (by rfl) rfl rfl (by simp only [List.map_toArray, List.map_cons, List.map_nil]; rfl) ?_
          with_reducible refine (oct_Reader_Rest.calls g s7 e7 rt s8 e8 w _ HI.out.drew (below_drew HB.out) ART.out).mono ?_
          rintro e w7 ⟨rfl, hi, hb, hk⟩
          refine ⟨_, rfl, ?_⟩
          have HA5 := Aside0.mk (hk.blk (blk_drew HA.out) (Ne.symm (IsS110.ne_blk HI.out.drew (blk_drew HA.out) (by decide))) (by simp))
          have BK5 := Aside0.mk (hk.blk (blk_drew BK.out) (Ne.symm (IsS110.ne_blk HI.out.drew (blk_drew BK.out) (by decide))) (by simp))
          have HI5 := Aside0.mk hi
          have HB5 := Aside0.mk hb
          clear hi hb hk
          refine hK.out _ _ ⟨(blk_cell HA5.out 0).trans rfl, (blk_cell HA5.out 1).trans rfl, (blk_cell HA5.out 2).trans rfl, (blk_cell HA5.out 3).trans rfl, (blk_cell HA5.out 4).trans rfl, (blk_cell HA5.out 5).trans rfl, (blk_cell HA5.out 6).trans rfl⟩ (fun hHeld => ?_)
          clear hK K
          refine norm_ (a' := ?_) ?_ ?_
          rotate_left
          · show Act.put _ (some 44) _ = _
            simp only [Act.put, List.setIfInBounds_toArray, List.set_cons_zero, List.set_cons_succ, i64_w, i32_w]
            rfl
          refine pure_ (i := 18) (N := some 45) (v := ?_) (a' := ?_) #[true, true, true, true, true, true, true, true, true, true, true, true, true, true, true, true, true, true, true, false, false] rfl rfl (by kernel_rfl) (fun _ _ _ h => h) (Or.inl ⟨by rfl, ?_⟩) ?_ ?_
          rotate_left
          · intro w'
            go_simp
            with_reducible rfl
          rotate_left
          · simp only [Act.put, List.setIfInBounds_toArray, List.set_cons_zero, List.set_cons_succ, i64_w, i32_w]
            rfl
          refine one_ (i := 19) (N := some 9) #[true, true, true, true, true, true, true, true, true, true, true, true, true, true, true, true, true, true, true, true, false] rfl rfl (by kernel_rfl) (by decide) (fun K hK => ?_)
          refine box_step ?hg (N := 9) ?hd (cs := #[.int .i64 0, .int .i64 0, .int .i64 0, .int .i64 0, .int .i64 0, .int .i64 0, .int .i64 0, .string (⟨#[]⟩ : ByteArray)]) (t := 32) ?hr ?_
          (case hd => rfl)
          (case hg => rfl)
          (case hr => first | (go_simp; done) | (go_simp; rfl))
          intro gm hg w8 hbox hb
          have HM6 := Aside0.mk hbox
          have GEM : Aside0 (gb < gm) := ⟨by rw [hg]; exact blk_lt BK5.out⟩
          have HA6 := Aside0.mk (blk_below HA5.out hb)
          have BK6 := Aside0.mk (blk_below BK5.out hb)
          have HI6 := Aside0.mk (IsS110.below HI5.out hb)
          have HB6 := Aside0.mk (below_step HB5.out hb)
          clear hb hbox hg
          refine hK.out _ _ ⟨(blk_cell HA6.out 0).trans rfl, (blk_cell HA6.out 1).trans rfl, (blk_cell HA6.out 2).trans rfl, (blk_cell HA6.out 3).trans rfl, (blk_cell HA6.out 4).trans rfl, (blk_cell HA6.out 5).trans rfl, (blk_cell HA6.out 6).trans rfl⟩ (fun hHeld => ?_)
          clear hK K
          refine norm_ (a' := ?_) ?_ ?_
          rotate_left
          · show Act.put _ (some 9) _ = _
            simp only [Act.put, List.setIfInBounds_toArray, List.set_cons_zero, List.set_cons_succ, i64_w, i32_w]
            rfl
          exact norm_ (by simp only [putAll, Act.put, List.setIfInBounds_toArray, List.set_cons_zero, List.set_cons_succ]) (hCont gm _ ⟨hHeld, HI6.out, HB6.out, BK6.out, HM6.out, GEM.out⟩)
        · skip
          refine box_step ?hg (N := 9) ?hd (cs := #[.int .i64 0, .int .i64 0, .int .i64 0, .int .i64 0, .int .i64 0, .int .i64 0, .int .i64 0, .string (⟨#[]⟩ : ByteArray)]) (t := 32) ?hr ?_
          (case hd => rfl)
          (case hg => rfl)
          (case hr => first | (go_simp; done) | (go_simp; rfl))
          intro gm hg w8 hbox hb
          have HM5 := Aside0.mk hbox
          have GEM : Aside0 (gb < gm) := ⟨by rw [hg]; exact blk_lt (blk_drew BK.out)⟩
          have HA5 := Aside0.mk (blk_below (blk_drew HA.out) hb)
          have BK5 := Aside0.mk (blk_below (blk_drew BK.out) hb)
          have HI5 := Aside0.mk (IsS110.below HI.out.drew hb)
          have HB5 := Aside0.mk (below_step (below_drew HB.out) hb)
          clear hb hbox hg
          refine hK.out _ _ ⟨(blk_cell HA5.out 0).trans rfl, (blk_cell HA5.out 1).trans rfl, (blk_cell HA5.out 2).trans rfl, (blk_cell HA5.out 3).trans rfl, (blk_cell HA5.out 4).trans rfl, (blk_cell HA5.out 5).trans rfl, (blk_cell HA5.out 6).trans rfl⟩ (fun hHeld => ?_)
          clear hK K
          refine norm_ (a' := ?_) ?_ ?_
          rotate_left
          · show Act.put _ (some 9) _ = _
            simp only [Act.put, List.setIfInBounds_toArray, List.set_cons_zero, List.set_cons_succ, i64_w, i32_w]
            rfl
          refine one_ (i := 17) (N := some 44) #[true, true, true, true, true, true, true, true, true, true, true, true, true, true, true, true, true, true, false, true, false] rfl rfl (by kernel_rfl) (by decide) (fun K hK => ?_)
          refine goes_ Try.func34 (by kernel_rfl) rfl #[.pointer (some ⟨g, 0, none⟩)] (by rfl) rfl rfl (by simp only [List.map_toArray, List.map_cons, List.map_nil]; rfl) ?_
          with_reducible refine (oct_Reader_Rest.calls g s7 e7 rt s8 e8 w _ HI5.out HB5.out ART.out).mono ?_
          rintro e w7 ⟨rfl, hi, hb, hk⟩
          refine ⟨_, rfl, ?_⟩
          have HA6 := Aside0.mk (hk.blk HA5.out (Ne.symm (IsS110.ne_blk HI5.out HA5.out (by decide))) (by simp))
          have BK6 := Aside0.mk (hk.blk BK5.out (Ne.symm (IsS110.ne_blk HI5.out BK5.out (by decide))) (by simp))
          have HM6 := Aside0.mk (hk.blk HM5.out (Ne.symm (IsS110.ne_blk HI5.out HM5.out (by decide))) (by simp))
          have HI6 := Aside0.mk hi
          have HB6 := Aside0.mk hb
          clear hi hb hk
          refine hK.out _ _ ⟨(blk_cell HA6.out 0).trans rfl, (blk_cell HA6.out 1).trans rfl, (blk_cell HA6.out 2).trans rfl, (blk_cell HA6.out 3).trans rfl, (blk_cell HA6.out 4).trans rfl, (blk_cell HA6.out 5).trans rfl, (blk_cell HA6.out 6).trans rfl⟩ (fun hHeld => ?_)
          clear hK K
          refine norm_ (a' := ?_) ?_ ?_
          rotate_left
          · show Act.put _ (some 44) _ = _
            simp only [Act.put, List.setIfInBounds_toArray, List.set_cons_zero, List.set_cons_succ, i64_w, i32_w]
            rfl
          refine pure_ (i := 18) (N := some 45) (v := ?_) (a' := ?_) #[true, true, true, true, true, true, true, true, true, true, true, true, true, true, true, true, true, true, true, true, false] rfl rfl (by kernel_rfl) (fun _ _ _ h => h) (Or.inl ⟨by rfl, ?_⟩) ?_ ?_
          rotate_left
          · intro w'
            go_simp
            with_reducible rfl
          rotate_left
          · simp only [Act.put, List.setIfInBounds_toArray, List.set_cons_zero, List.set_cons_succ, i64_w, i32_w]
            rfl
          exact norm_ (by simp only [putAll, Act.put, List.setIfInBounds_toArray, List.set_cons_zero, List.set_cons_succ]) (hCont gm _ ⟨hHeld, HI6.out, HB6.out, BK6.out, HM6.out, GEM.out⟩)
      rintro gm w9 ⟨hHeld, hi, hb, hbk, hm, hge⟩
      have HI9 := Aside0.mk hi
      have HB9 := Aside0.mk hb
      have BK9 := Aside0.mk hbk
      have HM9 := Aside0.mk hm
      have GEM := Aside0.mk hge
      clear hi hb hbk hm hge
      obtain ⟨p0, p1, p2, p3, p4, p5, p6, p7⟩ := cZ8 HM9
      obtain ⟨f0, f1, f2, f3, f4, f5, f6, f7⟩ := dZ8 HM9
      refine norm_ (a' := ?_) ?_ ?_
      rotate_left
      · simp only [putAll, Act.put, List.setIfInBounds_toArray, List.set_cons_zero, List.set_cons_succ]
        rfl
      refine last_ (i := 20) (N := none) #[true, true, true, true, true, true, true, true, true, true, true, true, true, true, true, true, true, true, true, true, true] rfl rfl (by kernel_rfl) (by decide) (fun K hK => ?_)
      refine skip_ (w1 := ?_) (by rfl) rfl ?_ ?_
      rotate_left
      · go_simp
        rfl
      refine hK.out _ _ ?_
      clear hK K
      refine done_ (by kernel_rfl) ?_
      obtain ⟨xw, e0⟩ : ∃ W, W = ((((((((w9.setCell ⟨gm, 0, none⟩ (.int .i64 n0)).setCell ⟨gm, 1, none⟩ (.int .i64 n1)).setCell ⟨gm, 2, none⟩ (.int .i64 n2)).setCell ⟨gm, 3, none⟩ (.int .i64 n3)).setCell ⟨gm, 4, none⟩ (.int .i64 n4)).setCell ⟨gm, 5, none⟩ (.int .i64 n5)).setCell ⟨gm, 6, none⟩ (.int .i64 n6)).setCell ⟨gm, 7, none⟩ (.string rt)) := ⟨_, rfl⟩
      rw [← e0]
      have HM : Aside0 (xw.heap[gm]? = some (.cells #[.int .i64 n0, .int .i64 n1, .int .i64 n2, .int .i64 n3, .int .i64 n4, .int .i64 n5, .int .i64 n6, .string rt] 32 (0, 0))) := ⟨by rw [e0]; refine blk_put (cs := #[.int .i64 n0, .int .i64 n1, .int .i64 n2, .int .i64 n3, .int .i64 n4, .int .i64 n5, .int .i64 n6, .string (⟨#[]⟩ : ByteArray)]) ?_ 7 _ rfl; refine blk_put (cs := #[.int .i64 n0, .int .i64 n1, .int .i64 n2, .int .i64 n3, .int .i64 n4, .int .i64 n5, .int .i64 0, .string (⟨#[]⟩ : ByteArray)]) ?_ 6 _ rfl; refine blk_put (cs := #[.int .i64 n0, .int .i64 n1, .int .i64 n2, .int .i64 n3, .int .i64 n4, .int .i64 0, .int .i64 0, .string (⟨#[]⟩ : ByteArray)]) ?_ 5 _ rfl; refine blk_put (cs := #[.int .i64 n0, .int .i64 n1, .int .i64 n2, .int .i64 n3, .int .i64 0, .int .i64 0, .int .i64 0, .string (⟨#[]⟩ : ByteArray)]) ?_ 4 _ rfl; refine blk_put (cs := #[.int .i64 n0, .int .i64 n1, .int .i64 n2, .int .i64 0, .int .i64 0, .int .i64 0, .int .i64 0, .string (⟨#[]⟩ : ByteArray)]) ?_ 3 _ rfl; refine blk_put (cs := #[.int .i64 n0, .int .i64 n1, .int .i64 0, .int .i64 0, .int .i64 0, .int .i64 0, .int .i64 0, .string (⟨#[]⟩ : ByteArray)]) ?_ 2 _ rfl; refine blk_put (cs := #[.int .i64 n0, .int .i64 0, .int .i64 0, .int .i64 0, .int .i64 0, .int .i64 0, .int .i64 0, .string (⟨#[]⟩ : ByteArray)]) ?_ 1 _ rfl; refine blk_put (cs := #[.int .i64 0, .int .i64 0, .int .i64 0, .int .i64 0, .int .i64 0, .int .i64 0, .int .i64 0, .string (⟨#[]⟩ : ByteArray)]) ?_ 0 _ rfl; exact HM9.out⟩
      have HGG := Aside0.mk (IsS110.ne_blk HI9.out HM9.out (by decide))
      have HGM : Aside0 (gb ≠ gm) := ⟨Nat.ne_of_lt GEM.out⟩
      have HWM : Aside0 (w.heap.size ≤ gm) := ⟨Nat.le_trans GEB.out (Nat.le_of_lt GEM.out)⟩
      replace HI9 : Aside0 (IsS110 w xw g s8 e8) := ⟨by rw [e0]; (iterate 8 refine IsS110.far ?_ HGG.out _); exact HI9.out⟩
      replace BK9 : Aside0 (xw.heap[gb]? = some (.cells #[.int .i64 0, .int .i64 0, .int .i64 0, .int .i64 0, .int .i64 0, .int .i64 0, .int .i64 0, .string (⟨#[]⟩ : ByteArray)] 32 (0, 0))) := ⟨by rw [e0]; (iterate 8 refine blk_far ?_ HGM.out _); exact BK9.out⟩
      replace HB9 : Aside0 (Below w.heap.size w xw) := ⟨by rw [e0]; (iterate 8 refine below_set ?_ HWM.out); exact HB9.out⟩
      clear e0 HM9 HGG HGM HWM p0 p1 p2 p3 p4 p5 p6 p7 f0 f1 f2 f3 f4 f5 f6 f7
      obtain ⟨p0, p1, p2, p3, p4, p5, p6, p7⟩ := cZ8 HM
      obtain ⟨z0, z1, z2, z3, z4, z5, z6, z7⟩ := cZ8 BK9
      obtain ⟨y0, y1, y2, y3, y4, y5, y6, y7⟩ := dZ8 BK9
      have H := H.out
      by_cases c1 : b0.toList = [109, 111, 115, 49]
      · rw [if_pos c1] at H
        have t1 : (b0.toList == [109, 111, 115, 49]) = true := beq_iff_eq.mpr c1
        clear c1
        by_cases c2 : e8 = 0
        · rw [if_pos c2] at H
          have t2 : (e8 != 0) = false := bne_eq_false_iff_eq.mpr c2
          clear c2
          obtain ⟨c, HC, H⟩ := Option.bind_eq_some_iff.mp H
          have HC := Aside0.mk HC
          cases c with
          | false =>
            rw [if_neg (by decide)] at H
            simp only [Option.some.injEq, Prod.mk.injEq] at H
            obtain ⟨rfl, rfl, rfl, rfl, rfl, rfl, rfl, rfl, rfl⟩ := H
            go_wp2_with (first | (go_at_call 64; refine Calls.mono (oct_Reader_Err.calls g s8 e8 e8 s8 e8 w _ HI9.out HB9.out rfl) ?_; rintro e w14 ⟨rfl, hi, hb, hk⟩; clear z0 z1 z2 z3 z4 z5 z6 z7 y0 y1 y2 y3 y4 y5 y6 y7; replace HM := Aside0.mk (hk.blk HM.out (Ne.symm (IsS110.ne_blk HI9.out HM.out (by decide))) (by simp)); replace BK9 := Aside0.mk (hk.blk BK9.out (Ne.symm (IsS110.ne_blk HI9.out BK9.out (by decide))) (by simp)); replace HB9 := Aside0.mk hb; clear hi hb hk p0 p1 p2 p3 p4 p5 p6 p7; obtain ⟨p0, p1, p2, p3, p4, p5, p6, p7⟩ := cZ8 HM; obtain ⟨z0, z1, z2, z3, z4, z5, z6, z7⟩ := cZ8 BK9; obtain ⟨y0, y1, y2, y3, y4, y5, y6, y7⟩ := dZ8 BK9) | (go_at_call 52; refine Calls.mono (manifest_Check.calls k n0 n1 n2 n3 n4 n5 n6 rt _ _ HC.out) ?_; rintro e w15 ⟨rfl, hb⟩; clear p0 p1 p2 p3 p4 p5 p6 p7 z0 z1 z2 z3 z4 z5 z6 z7 y0 y1 y2 y3 y4 y5 y6 y7; replace HM := Aside0.mk (blk_below HM.out hb); replace BK9 := Aside0.mk (blk_below BK9.out hb); replace HB9 := Aside0.mk (below_step HB9.out hb); clear hb; obtain ⟨p0, p1, p2, p3, p4, p5, p6, p7⟩ := cZ8 HM; obtain ⟨z0, z1, z2, z3, z4, z5, z6, z7⟩ := cZ8 BK9; obtain ⟨y0, y1, y2, y3, y4, y5, y6, y7⟩ := dZ8 BK9))
            refine bodyPost_ret (results_ct rfl _ _ gb 32 #[.int .i64 0, .int .i64 0, .int .i64 0, .int .i64 0, .int .i64 0, .int .i64 0, .int .i64 0, .string (⟨#[]⟩ : ByteArray)] (0, 0) _ rfl (by refine blk_put (cs := #[.int .i64 0, .int .i64 0, .int .i64 0, .int .i64 0, .int .i64 0, .int .i64 0, .int .i64 0, .string (⟨#[]⟩ : ByteArray)]) ?_ 7 _ rfl; refine blk_put (cs := #[.int .i64 0, .int .i64 0, .int .i64 0, .int .i64 0, .int .i64 0, .int .i64 0, .int .i64 0, .string (⟨#[]⟩ : ByteArray)]) ?_ 6 _ rfl; refine blk_put (cs := #[.int .i64 0, .int .i64 0, .int .i64 0, .int .i64 0, .int .i64 0, .int .i64 0, .int .i64 0, .string (⟨#[]⟩ : ByteArray)]) ?_ 5 _ rfl; refine blk_put (cs := #[.int .i64 0, .int .i64 0, .int .i64 0, .int .i64 0, .int .i64 0, .int .i64 0, .int .i64 0, .string (⟨#[]⟩ : ByteArray)]) ?_ 4 _ rfl; refine blk_put (cs := #[.int .i64 0, .int .i64 0, .int .i64 0, .int .i64 0, .int .i64 0, .int .i64 0, .int .i64 0, .string (⟨#[]⟩ : ByteArray)]) ?_ 3 _ rfl; refine blk_put (cs := #[.int .i64 0, .int .i64 0, .int .i64 0, .int .i64 0, .int .i64 0, .int .i64 0, .int .i64 0, .string (⟨#[]⟩ : ByteArray)]) ?_ 2 _ rfl; refine blk_put (cs := #[.int .i64 0, .int .i64 0, .int .i64 0, .int .i64 0, .int .i64 0, .int .i64 0, .int .i64 0, .string (⟨#[]⟩ : ByteArray)]) ?_ 1 _ rfl; refine blk_put (cs := #[.int .i64 0, .int .i64 0, .int .i64 0, .int .i64 0, .int .i64 0, .int .i64 0, .int .i64 0, .string (⟨#[]⟩ : ByteArray)]) ?_ 0 _ rfl; exact BK9.out) hu32 rfl (by kernel_rfl)) rfl ?_
            exact ⟨rfl, by (iterate 8 refine below_set ?_ GEB.out); exact HB9.out⟩
          | true =>
            rw [if_pos rfl] at H
            simp only [Option.some.injEq, Prod.mk.injEq] at H
            obtain ⟨rfl, rfl, rfl, rfl, rfl, rfl, rfl, rfl, rfl⟩ := H
            go_wp2_with (first | (go_at_call 64; refine Calls.mono (oct_Reader_Err.calls g s8 e8 e8 s8 e8 w _ HI9.out HB9.out rfl) ?_; rintro e w14 ⟨rfl, hi, hb, hk⟩; clear z0 z1 z2 z3 z4 z5 z6 z7 y0 y1 y2 y3 y4 y5 y6 y7; replace HM := Aside0.mk (hk.blk HM.out (Ne.symm (IsS110.ne_blk HI9.out HM.out (by decide))) (by simp)); replace BK9 := Aside0.mk (hk.blk BK9.out (Ne.symm (IsS110.ne_blk HI9.out BK9.out (by decide))) (by simp)); replace HB9 := Aside0.mk hb; clear hi hb hk p0 p1 p2 p3 p4 p5 p6 p7; obtain ⟨p0, p1, p2, p3, p4, p5, p6, p7⟩ := cZ8 HM; obtain ⟨z0, z1, z2, z3, z4, z5, z6, z7⟩ := cZ8 BK9; obtain ⟨y0, y1, y2, y3, y4, y5, y6, y7⟩ := dZ8 BK9) | (go_at_call 52; refine Calls.mono (manifest_Check.calls k n0 n1 n2 n3 n4 n5 n6 rt _ _ HC.out) ?_; rintro e w15 ⟨rfl, hb⟩; clear p0 p1 p2 p3 p4 p5 p6 p7 z0 z1 z2 z3 z4 z5 z6 z7 y0 y1 y2 y3 y4 y5 y6 y7; replace HM := Aside0.mk (blk_below HM.out hb); replace BK9 := Aside0.mk (blk_below BK9.out hb); replace HB9 := Aside0.mk (below_step HB9.out hb); clear hb; obtain ⟨p0, p1, p2, p3, p4, p5, p6, p7⟩ := cZ8 HM; obtain ⟨z0, z1, z2, z3, z4, z5, z6, z7⟩ := cZ8 BK9; obtain ⟨y0, y1, y2, y3, y4, y5, y6, y7⟩ := dZ8 BK9))
            refine bodyPost_ret (results_ct rfl _ _ gb 32 #[.int .i64 n0, .int .i64 n1, .int .i64 n2, .int .i64 n3, .int .i64 n4, .int .i64 n5, .int .i64 n6, .string rt] (0, 0) _ rfl (by refine blk_put (cs := #[.int .i64 n0, .int .i64 n1, .int .i64 n2, .int .i64 n3, .int .i64 n4, .int .i64 n5, .int .i64 n6, .string (⟨#[]⟩ : ByteArray)]) ?_ 7 _ rfl; refine blk_put (cs := #[.int .i64 n0, .int .i64 n1, .int .i64 n2, .int .i64 n3, .int .i64 n4, .int .i64 n5, .int .i64 0, .string (⟨#[]⟩ : ByteArray)]) ?_ 6 _ rfl; refine blk_put (cs := #[.int .i64 n0, .int .i64 n1, .int .i64 n2, .int .i64 n3, .int .i64 n4, .int .i64 0, .int .i64 0, .string (⟨#[]⟩ : ByteArray)]) ?_ 5 _ rfl; refine blk_put (cs := #[.int .i64 n0, .int .i64 n1, .int .i64 n2, .int .i64 n3, .int .i64 0, .int .i64 0, .int .i64 0, .string (⟨#[]⟩ : ByteArray)]) ?_ 4 _ rfl; refine blk_put (cs := #[.int .i64 n0, .int .i64 n1, .int .i64 n2, .int .i64 0, .int .i64 0, .int .i64 0, .int .i64 0, .string (⟨#[]⟩ : ByteArray)]) ?_ 3 _ rfl; refine blk_put (cs := #[.int .i64 n0, .int .i64 n1, .int .i64 0, .int .i64 0, .int .i64 0, .int .i64 0, .int .i64 0, .string (⟨#[]⟩ : ByteArray)]) ?_ 2 _ rfl; refine blk_put (cs := #[.int .i64 n0, .int .i64 0, .int .i64 0, .int .i64 0, .int .i64 0, .int .i64 0, .int .i64 0, .string (⟨#[]⟩ : ByteArray)]) ?_ 1 _ rfl; refine blk_put (cs := #[.int .i64 0, .int .i64 0, .int .i64 0, .int .i64 0, .int .i64 0, .int .i64 0, .int .i64 0, .string (⟨#[]⟩ : ByteArray)]) ?_ 0 _ rfl; exact BK9.out) hu32 rfl (by kernel_rfl)) rfl ?_
            exact ⟨rfl, by (iterate 8 refine below_set ?_ GEB.out); exact HB9.out⟩
        · rw [if_neg c2] at H
          have t2 : (e8 != 0) = true := bne_iff_ne.mpr c2
          clear c2
          simp only [Option.some.injEq, Prod.mk.injEq] at H
          obtain ⟨rfl, rfl, rfl, rfl, rfl, rfl, rfl, rfl, rfl⟩ := H
          go_wp2_with (first | (go_at_call 64; refine Calls.mono (oct_Reader_Err.calls g s8 e8 e8 s8 e8 w _ HI9.out HB9.out rfl) ?_; rintro e w14 ⟨rfl, hi, hb, hk⟩; clear z0 z1 z2 z3 z4 z5 z6 z7 y0 y1 y2 y3 y4 y5 y6 y7; replace HM := Aside0.mk (hk.blk HM.out (Ne.symm (IsS110.ne_blk HI9.out HM.out (by decide))) (by simp)); replace BK9 := Aside0.mk (hk.blk BK9.out (Ne.symm (IsS110.ne_blk HI9.out BK9.out (by decide))) (by simp)); replace HB9 := Aside0.mk hb; clear hi hb hk p0 p1 p2 p3 p4 p5 p6 p7; obtain ⟨p0, p1, p2, p3, p4, p5, p6, p7⟩ := cZ8 HM; obtain ⟨z0, z1, z2, z3, z4, z5, z6, z7⟩ := cZ8 BK9; obtain ⟨y0, y1, y2, y3, y4, y5, y6, y7⟩ := dZ8 BK9))
          refine bodyPost_ret (results_ct rfl _ _ gb 32 #[.int .i64 0, .int .i64 0, .int .i64 0, .int .i64 0, .int .i64 0, .int .i64 0, .int .i64 0, .string (⟨#[]⟩ : ByteArray)] (0, 0) _ rfl (by refine blk_put (cs := #[.int .i64 0, .int .i64 0, .int .i64 0, .int .i64 0, .int .i64 0, .int .i64 0, .int .i64 0, .string (⟨#[]⟩ : ByteArray)]) ?_ 7 _ rfl; refine blk_put (cs := #[.int .i64 0, .int .i64 0, .int .i64 0, .int .i64 0, .int .i64 0, .int .i64 0, .int .i64 0, .string (⟨#[]⟩ : ByteArray)]) ?_ 6 _ rfl; refine blk_put (cs := #[.int .i64 0, .int .i64 0, .int .i64 0, .int .i64 0, .int .i64 0, .int .i64 0, .int .i64 0, .string (⟨#[]⟩ : ByteArray)]) ?_ 5 _ rfl; refine blk_put (cs := #[.int .i64 0, .int .i64 0, .int .i64 0, .int .i64 0, .int .i64 0, .int .i64 0, .int .i64 0, .string (⟨#[]⟩ : ByteArray)]) ?_ 4 _ rfl; refine blk_put (cs := #[.int .i64 0, .int .i64 0, .int .i64 0, .int .i64 0, .int .i64 0, .int .i64 0, .int .i64 0, .string (⟨#[]⟩ : ByteArray)]) ?_ 3 _ rfl; refine blk_put (cs := #[.int .i64 0, .int .i64 0, .int .i64 0, .int .i64 0, .int .i64 0, .int .i64 0, .int .i64 0, .string (⟨#[]⟩ : ByteArray)]) ?_ 2 _ rfl; refine blk_put (cs := #[.int .i64 0, .int .i64 0, .int .i64 0, .int .i64 0, .int .i64 0, .int .i64 0, .int .i64 0, .string (⟨#[]⟩ : ByteArray)]) ?_ 1 _ rfl; refine blk_put (cs := #[.int .i64 0, .int .i64 0, .int .i64 0, .int .i64 0, .int .i64 0, .int .i64 0, .int .i64 0, .string (⟨#[]⟩ : ByteArray)]) ?_ 0 _ rfl; exact BK9.out) hu32 rfl (by kernel_rfl)) rfl ?_
          exact ⟨rfl, by (iterate 8 refine below_set ?_ GEB.out); exact HB9.out⟩
      · rw [if_neg c1] at H
        have t1 : (b0.toList == [109, 111, 115, 49]) = false := beq_eq_false_iff_ne.mpr c1
        clear c1
        simp only [Option.some.injEq, Prod.mk.injEq] at H
        obtain ⟨rfl, rfl, rfl, rfl, rfl, rfl, rfl, rfl, rfl⟩ := H
        go_wp2_with fail
        refine bodyPost_ret (results_ct rfl _ _ gb 32 #[.int .i64 0, .int .i64 0, .int .i64 0, .int .i64 0, .int .i64 0, .int .i64 0, .int .i64 0, .string (⟨#[]⟩ : ByteArray)] (0, 0) _ rfl (by refine blk_put (cs := #[.int .i64 0, .int .i64 0, .int .i64 0, .int .i64 0, .int .i64 0, .int .i64 0, .int .i64 0, .string (⟨#[]⟩ : ByteArray)]) ?_ 7 _ rfl; refine blk_put (cs := #[.int .i64 0, .int .i64 0, .int .i64 0, .int .i64 0, .int .i64 0, .int .i64 0, .int .i64 0, .string (⟨#[]⟩ : ByteArray)]) ?_ 6 _ rfl; refine blk_put (cs := #[.int .i64 0, .int .i64 0, .int .i64 0, .int .i64 0, .int .i64 0, .int .i64 0, .int .i64 0, .string (⟨#[]⟩ : ByteArray)]) ?_ 5 _ rfl; refine blk_put (cs := #[.int .i64 0, .int .i64 0, .int .i64 0, .int .i64 0, .int .i64 0, .int .i64 0, .int .i64 0, .string (⟨#[]⟩ : ByteArray)]) ?_ 4 _ rfl; refine blk_put (cs := #[.int .i64 0, .int .i64 0, .int .i64 0, .int .i64 0, .int .i64 0, .int .i64 0, .int .i64 0, .string (⟨#[]⟩ : ByteArray)]) ?_ 3 _ rfl; refine blk_put (cs := #[.int .i64 0, .int .i64 0, .int .i64 0, .int .i64 0, .int .i64 0, .int .i64 0, .int .i64 0, .string (⟨#[]⟩ : ByteArray)]) ?_ 2 _ rfl; refine blk_put (cs := #[.int .i64 0, .int .i64 0, .int .i64 0, .int .i64 0, .int .i64 0, .int .i64 0, .int .i64 0, .string (⟨#[]⟩ : ByteArray)]) ?_ 1 _ rfl; refine blk_put (cs := #[.int .i64 0, .int .i64 0, .int .i64 0, .int .i64 0, .int .i64 0, .int .i64 0, .int .i64 0, .string (⟨#[]⟩ : ByteArray)]) ?_ 0 _ rfl; exact BK9.out) hu32 rfl (by kernel_rfl)) rfl ?_
        exact ⟨rfl, by (iterate 8 refine below_set ?_ GEB.out); exact HB9.out⟩
/-! ### oct_Reader_End: function 38 -/
def oct_Reader_End.f (s0_0 : ByteArray) (s0_1 : Int) : Option (Int × ByteArray × Int) := (oct_Reader_Err.f s0_0 s0_1).bind fun bt162 => (if bt162.1 = 0 then (if bt162.2.1.toList = ([] : List UInt8) then ((oct_Reader_Err.f bt162.2.1 bt162.2.2).bind fun bt165 => (some (bt165.1, bt165.2.1, bt165.2.2))) else (some (3, bt162.2.1, bt162.2.2))) else ((oct_Reader_Err.f bt162.2.1 bt162.2.2).bind fun bt168 => (some (bt168.1, bt168.2.1, bt168.2.2))))
set_option maxHeartbeats 8000000 in
set_option maxRecDepth 100000 in
theorem oct_Reader_End.calls (g : Nat) (s0_0 : ByteArray) (s0_1 : Int) (r1 : Int) (r2 : ByteArray) (r3 : Int) (w0 w : World) (hI : IsS110 w0 w g s0_0 s0_1) (hB : Below w0.heap.size w0 w) (h : oct_Reader_End.f s0_0 s0_1 = some (r1, r2, r3)) :
  Calls Try.prog 38 #[.pointer (some ⟨g, 0, none⟩)] w fun e w' => e = .returned (.int .i64 r1) ∧ IsS110 w0 w' g r2 r3 ∧ Below w0.heap.size w0 w' ∧ KeepBut w w' g none := by
 have HI0 := Aside0.mk hI
 have HK := Aside0.mk (KeepBut.refl w g none)
 have HL := Aside0.mk hB.size
 clear hI; have HW0 := Aside0.mk hB.size
 have HB := Aside0.mk hB
 clear hB; have H : ((oct_Reader_Err.f s0_0 s0_1).bind fun bt162 => (if bt162.1 = 0 then (if bt162.2.1.toList = ([] : List UInt8) then ((oct_Reader_Err.f bt162.2.1 bt162.2.2).bind fun bt165 => (some (bt165.1, bt165.2.1, bt165.2.2))) else (some (3, bt162.2.1, bt162.2.2))) else ((oct_Reader_Err.f bt162.2.1 bt162.2.2).bind fun bt168 => (some (bt168.1, bt168.2.1, bt168.2.2))))) = some (r1, r2, r3) := h
 clear h; replace H := Option.bind_eq_some_iff.mp H
 obtain ⟨⟨t162, t163, t164⟩, A20, H⟩ := H
 replace H : (if t162 = 0 then (if t163.toList = ([] : List UInt8) then ((oct_Reader_Err.f t163 t164).bind fun bt165 => (some (bt165.1, bt165.2.1, bt165.2.2))) else (some (3, t163, t164))) else ((oct_Reader_Err.f t163 t164).bind fun bt168 => (some (bt168.1, bt168.2.1, bt168.2.2)))) = some (r1, r2, r3) := H
 have A2 := Aside0.mk A20
 clear A20; by_cases c3 : t162 = 0
 ·
  rw [if_pos c3] at H
  have c3b0 : (t162 == 0) = true := beq_iff_eq.mpr c3
  have c3b1 : (t162 != 0) = false := bne_eq_false_iff_eq.mpr c3
  clear c3; by_cases c4 : t163.toList = ([] : List UInt8)
  ·
   rw [if_pos c4] at H
   have c4b0 : (t163.toList == ([] : List UInt8)) = true := beq_iff_eq.mpr c4
   have c4b1 : (t163.toList != ([] : List UInt8)) = false := bne_eq_false_iff_eq.mpr c4
   clear c4; replace H := Option.bind_eq_some_iff.mp H
   obtain ⟨⟨t165, t166, t167⟩, A50, H⟩ := H
   replace H : (some (t165, t166, t167)) = some (r1, r2, r3) := H
   have A5 := Aside0.mk A50
   clear A50; simp only [Option.some.injEq, Prod.mk.injEq] at H
   obtain ⟨rfl, rfl, rfl⟩ := H
   go_enter Try.func38, Try.ntmps38
   go_wp2_with (first | ((with_reducible refine gate_callee (f := 64) rfl ?_); refine goesL_ (some 4) rfl rfl Try.func64 (by kernel_rfl) rfl #[.pointer (some ⟨g, 0, none⟩)] rfl zM ?_; (with_reducible refine (oct_Reader_Err.calls g s0_0 s0_1 t162 t163 t164 w0 _ ?side1 ?side2 A2.out).mono ?_); (case side1 => repeat (first | (with_reducible first | exact HI0.out | apply IsS110.alloc | apply IsS110.drewN | apply IsS110.drew | apply IsS110.set_0 | apply IsS110.set_1) | exact HI0.out)); (case side2 => repeat (first | (with_reducible first | exact HB.out | apply below_alloc | apply pw_below_drewN | apply below_drew1 | refine below_set ?_ (IsS110.ge HI0.out)) | exact HB.out)); rintro e w6 ⟨rfl, hi, hb, hk⟩; refine ⟨_, rfl, ?_⟩; replace HK := Aside0.mk (KeepBut.trans (by repeat (first | (with_reducible first | exact HK.out | apply KeepBut.set_ | apply keep_drewN | apply keep_drew | apply keep_alloc) | exact HK.out)) hk (.inl rfl)); replace HI0 := Aside0.mk (hi); replace HB := Aside0.mk (hb); (try clear hb); (try clear hb2); (try clear hk); (try clear hi); obtain ⟨HGz7, hgz7⟩ := HI0.out; have hcz7_0 := cellS110_0 HGz7; have hcz7_1 := cellS110_1 HGz7; have hfz7_0 := blk_frozen HGz7 0; have hfz7_1 := blk_frozen HGz7 1; clear HGz7 hgz7) | ((with_reducible refine gate_callee (f := 64) rfl ?_); refine goesL_ (some 14) rfl rfl Try.func64 (by kernel_rfl) rfl #[.pointer (some ⟨g, 0, none⟩)] rfl zM ?_; (with_reducible refine (oct_Reader_Err.calls g t163 t164 t165 t166 t167 w0 _ ?side1 ?side2 A5.out).mono ?_); (case side1 => repeat (first | (with_reducible first | exact HI0.out | apply IsS110.alloc | apply IsS110.drewN | apply IsS110.drew | apply IsS110.set_0 | apply IsS110.set_1) | exact HI0.out)); (case side2 => repeat (first | (with_reducible first | exact HB.out | apply below_alloc | apply pw_below_drewN | apply below_drew1 | refine below_set ?_ (IsS110.ge HI0.out)) | exact HB.out)); rintro e w8 ⟨rfl, hi, hb, hk⟩; refine ⟨_, rfl, ?_⟩; replace HK := Aside0.mk (KeepBut.trans (by repeat (first | (with_reducible first | exact HK.out | apply KeepBut.set_ | apply keep_drewN | apply keep_drew | apply keep_alloc) | exact HK.out)) hk (.inl rfl)); replace HI0 := Aside0.mk (hi); replace HB := Aside0.mk (hb); (try clear hb); (try clear hb2); (try clear hk); (try clear hi)))
   go_ret
   exact ⟨zE, by repeat (first | (with_reducible first | exact HI0.out | apply IsS110.alloc | apply IsS110.drewN | apply IsS110.drew | apply IsS110.set_0 | apply IsS110.set_1) | exact HI0.out), by repeat (first | (with_reducible first | exact HB.out | apply below_alloc | apply pw_below_drewN | apply below_drew1 | refine below_set ?_ (IsS110.ge HI0.out)) | exact HB.out), by repeat (first | (with_reducible first | exact HK.out | apply KeepBut.set_ | apply keep_drewN | apply keep_drew | apply keep_alloc) | exact HK.out)⟩
  ·
   rw [if_neg c4] at H
   have c4b0 : (t163.toList == ([] : List UInt8)) = false := beq_eq_false_iff_ne.mpr c4
   have c4b1 : (t163.toList != ([] : List UInt8)) = true := bne_iff_ne.mpr c4
   simp only [Option.some.injEq, Prod.mk.injEq] at H
   obtain ⟨rfl, rfl, rfl⟩ := H
   go_enter Try.func38, Try.ntmps38
   go_wp2_with (first | ((with_reducible refine gate_callee (f := 64) rfl ?_); refine goesL_ (some 4) rfl rfl Try.func64 (by kernel_rfl) rfl #[.pointer (some ⟨g, 0, none⟩)] rfl zM ?_; (with_reducible refine (oct_Reader_Err.calls g s0_0 s0_1 t162 t163 t164 w0 _ ?side1 ?side2 A2.out).mono ?_); (case side1 => repeat (first | (with_reducible first | exact HI0.out | apply IsS110.alloc | apply IsS110.drewN | apply IsS110.drew | apply IsS110.set_0 | apply IsS110.set_1) | exact HI0.out)); (case side2 => repeat (first | (with_reducible first | exact HB.out | apply below_alloc | apply pw_below_drewN | apply below_drew1 | refine below_set ?_ (IsS110.ge HI0.out)) | exact HB.out)); rintro e w9 ⟨rfl, hi, hb, hk⟩; refine ⟨_, rfl, ?_⟩; replace HK := Aside0.mk (KeepBut.trans (by repeat (first | (with_reducible first | exact HK.out | apply KeepBut.set_ | apply keep_drewN | apply keep_drew | apply keep_alloc) | exact HK.out)) hk (.inl rfl)); replace HI0 := Aside0.mk (hi); replace HB := Aside0.mk (hb); (try clear hb); (try clear hb2); (try clear hk); (try clear hi); obtain ⟨HGz10, hgz10⟩ := HI0.out; have hcz10_0 := cellS110_0 HGz10; have hcz10_1 := cellS110_1 HGz10; have hfz10_0 := blk_frozen HGz10 0; have hfz10_1 := blk_frozen HGz10 1; clear HGz10 hgz10))
   go_ret
   exact ⟨zE, by repeat (first | (with_reducible first | exact HI0.out | apply IsS110.alloc | apply IsS110.drewN | apply IsS110.drew | apply IsS110.set_0 | apply IsS110.set_1) | exact HI0.out), by repeat (first | (with_reducible first | exact HB.out | apply below_alloc | apply pw_below_drewN | apply below_drew1 | refine below_set ?_ (IsS110.ge HI0.out)) | exact HB.out), by repeat (first | (with_reducible first | exact HK.out | apply KeepBut.set_ | apply keep_drewN | apply keep_drew | apply keep_alloc) | exact HK.out)⟩
 ·
  rw [if_neg c3] at H
  have c3b0 : (t162 == 0) = false := beq_eq_false_iff_ne.mpr c3
  have c3b1 : (t162 != 0) = true := bne_iff_ne.mpr c3
  replace H := Option.bind_eq_some_iff.mp H
  obtain ⟨⟨t168, t169, t170⟩, A110, H⟩ := H
  replace H : (some (t168, t169, t170)) = some (r1, r2, r3) := H
  have A11 := Aside0.mk A110
  clear A110; simp only [Option.some.injEq, Prod.mk.injEq] at H
  obtain ⟨rfl, rfl, rfl⟩ := H
  go_enter Try.func38, Try.ntmps38
  go_wp2_with (first | ((with_reducible refine gate_callee (f := 64) rfl ?_); refine goesL_ (some 4) rfl rfl Try.func64 (by kernel_rfl) rfl #[.pointer (some ⟨g, 0, none⟩)] rfl zM ?_; (with_reducible refine (oct_Reader_Err.calls g s0_0 s0_1 t162 t163 t164 w0 _ ?side1 ?side2 A2.out).mono ?_); (case side1 => repeat (first | (with_reducible first | exact HI0.out | apply IsS110.alloc | apply IsS110.drewN | apply IsS110.drew | apply IsS110.set_0 | apply IsS110.set_1) | exact HI0.out)); (case side2 => repeat (first | (with_reducible first | exact HB.out | apply below_alloc | apply pw_below_drewN | apply below_drew1 | refine below_set ?_ (IsS110.ge HI0.out)) | exact HB.out)); rintro e w12 ⟨rfl, hi, hb, hk⟩; refine ⟨_, rfl, ?_⟩; replace HK := Aside0.mk (KeepBut.trans (by repeat (first | (with_reducible first | exact HK.out | apply KeepBut.set_ | apply keep_drewN | apply keep_drew | apply keep_alloc) | exact HK.out)) hk (.inl rfl)); replace HI0 := Aside0.mk (hi); replace HB := Aside0.mk (hb); (try clear hb); (try clear hb2); (try clear hk); (try clear hi)) | ((with_reducible refine gate_callee (f := 64) rfl ?_); refine goesL_ (some 14) rfl rfl Try.func64 (by kernel_rfl) rfl #[.pointer (some ⟨g, 0, none⟩)] rfl zM ?_; (with_reducible refine (oct_Reader_Err.calls g t163 t164 t168 t169 t170 w0 _ ?side1 ?side2 A11.out).mono ?_); (case side1 => repeat (first | (with_reducible first | exact HI0.out | apply IsS110.alloc | apply IsS110.drewN | apply IsS110.drew | apply IsS110.set_0 | apply IsS110.set_1) | exact HI0.out)); (case side2 => repeat (first | (with_reducible first | exact HB.out | apply below_alloc | apply pw_below_drewN | apply below_drew1 | refine below_set ?_ (IsS110.ge HI0.out)) | exact HB.out)); rintro e w13 ⟨rfl, hi, hb, hk⟩; refine ⟨_, rfl, ?_⟩; replace HK := Aside0.mk (KeepBut.trans (by repeat (first | (with_reducible first | exact HK.out | apply KeepBut.set_ | apply keep_drewN | apply keep_drew | apply keep_alloc) | exact HK.out)) hk (.inl rfl)); replace HI0 := Aside0.mk (hi); replace HB := Aside0.mk (hb); (try clear hb); (try clear hb2); (try clear hk); (try clear hi)))
  go_ret
  exact ⟨zE, by repeat (first | (with_reducible first | exact HI0.out | apply IsS110.alloc | apply IsS110.drewN | apply IsS110.drew | apply IsS110.set_0 | apply IsS110.set_1) | exact HI0.out), by repeat (first | (with_reducible first | exact HB.out | apply below_alloc | apply pw_below_drewN | apply below_drew1 | refine below_set ?_ (IsS110.ge HI0.out)) | exact HB.out), by repeat (first | (with_reducible first | exact HK.out | apply KeepBut.set_ | apply keep_drewN | apply keep_drew | apply keep_alloc) | exact HK.out)⟩
/-! ### wire_Read: function 15 -/
/-- What a kind's fields are, and the reader behind them. -/
def wire_Read.body (k : Nat) (n : Int) (s : ByteArray) (e : Int) : Option (Int × Int × ByteArray × ByteArray × Bool × Int × Int × ByteArray × ByteArray × Int × ByteArray × List ByteArray × Int × Int × Int × Int × Int × Int × Int × ByteArray × ByteArray × Int) :=
  if n = 1 then (oct_Reader_Num.f k s e 3).bind fun x => (oct_Reader_Num.f k x.2.1 x.2.2 3).bind fun y => (oct_Reader_Rest.f y.2.1 y.2.2).bind fun z => some (wrap64 (x.1 - 1048576), wrap64 (y.1 - 1048576), z.1, (⟨#[]⟩ : ByteArray), false, 0, 0, (⟨#[]⟩ : ByteArray), (⟨#[]⟩ : ByteArray), 0, (⟨#[]⟩ : ByteArray), ([] : List ByteArray), 0, 0, 0, 0, 0, 0, 0, (⟨#[]⟩ : ByteArray), z.2.1, z.2.2)
  else if n = 2 then (oct_Reader_Text.f s e).bind fun x => some (0, 0, (⟨#[]⟩ : ByteArray), x.1, false, 0, 0, (⟨#[]⟩ : ByteArray), (⟨#[]⟩ : ByteArray), 0, (⟨#[]⟩ : ByteArray), ([] : List ByteArray), 0, 0, 0, 0, 0, 0, 0, (⟨#[]⟩ : ByteArray), x.2.1, x.2.2)
  else if n = 3 then (oct_Reader_Num.f k s e 1).bind fun x => some (0, 0, (⟨#[]⟩ : ByteArray), (⟨#[]⟩ : ByteArray), (x.1 == 1), 0, 0, (⟨#[]⟩ : ByteArray), (⟨#[]⟩ : ByteArray), 0, (⟨#[]⟩ : ByteArray), ([] : List ByteArray), 0, 0, 0, 0, 0, 0, 0, (⟨#[]⟩ : ByteArray), x.2.1, x.2.2)
  else if n = 6 then (oct_Reader_Num.f k s e 1).bind fun x => (oct_Reader_Num.f k x.2.1 x.2.2 7).bind fun y => (oct_Reader_Text.f y.2.1 y.2.2).bind fun z => (oct_Reader_Text.f z.2.1 z.2.2).bind fun u => some (0, 0, (⟨#[]⟩ : ByteArray), (⟨#[]⟩ : ByteArray), false, x.1, y.1, z.1, u.1, 0, (⟨#[]⟩ : ByteArray), ([] : List ByteArray), 0, 0, 0, 0, 0, 0, 0, (⟨#[]⟩ : ByteArray), u.2.1, u.2.2)
  else if n = 7 then (oct_Reader_Num.f k s e 1).bind fun x => some (0, 0, (⟨#[]⟩ : ByteArray), (⟨#[]⟩ : ByteArray), false, 0, 0, (⟨#[]⟩ : ByteArray), (⟨#[]⟩ : ByteArray), x.1, (⟨#[]⟩ : ByteArray), ([] : List ByteArray), 0, 0, 0, 0, 0, 0, 0, (⟨#[]⟩ : ByteArray), x.2.1, x.2.2)
  else if n = 8 then (wire_proof.f k s e).bind fun x => some (0, 0, (⟨#[]⟩ : ByteArray), (⟨#[]⟩ : ByteArray), false, 0, 0, (⟨#[]⟩ : ByteArray), (⟨#[]⟩ : ByteArray), x.1, x.2.1, x.2.2.1, 0, 0, 0, 0, 0, 0, 0, (⟨#[]⟩ : ByteArray), x.2.2.2.1, x.2.2.2.2)
  else if n = 9 then (oct_Reader_Rest.f s e).bind fun x => (manifest_Read.f k x.1).bind fun m => some (0, 0, (⟨#[]⟩ : ByteArray), (⟨#[]⟩ : ByteArray), false, 0, 0, (⟨#[]⟩ : ByteArray), (⟨#[]⟩ : ByteArray), 0, (⟨#[]⟩ : ByteArray), ([] : List ByteArray), m.1, m.2.1, m.2.2.1, m.2.2.2.1, m.2.2.2.2.1, m.2.2.2.2.2.1, m.2.2.2.2.2.2.1, m.2.2.2.2.2.2.2.1, x.2.1, x.2.2)
  else some (0, 0, (⟨#[]⟩ : ByteArray), (⟨#[]⟩ : ByteArray), false, 0, 0, (⟨#[]⟩ : ByteArray), (⟨#[]⟩ : ByteArray), 0, (⟨#[]⟩ : ByteArray), ([] : List ByteArray), 0, 0, 0, 0, 0, 0, 0, (⟨#[]⟩ : ByteArray), s, e)
def wire_Read.tail (k : Nat) (a0 : ByteArray) (n : Int) (b1 : Int) (b2 : Int) (b3 : ByteArray) (b4 : ByteArray) (b5 : Bool) (b6 : Int) (b7 : Int) (b8 : ByteArray) (b9 : ByteArray) (b10 : Int) (b11 : ByteArray) (b12 : List ByteArray) (b13 : Int) (b14 : Int) (b15 : Int) (b16 : Int) (b17 : Int) (b18 : Int) (b19 : Int) (b20 : ByteArray) (s : ByteArray) (e : Int) : Option (Int × Int × Int × ByteArray × ByteArray × Bool × Int × Int × ByteArray × ByteArray × Int × ByteArray × List ByteArray × Int × Int × Int × Int × Int × Int × Int × ByteArray × Int) :=
  (oct_Reader_End.f s e).bind fun z => if z.1 = 0 then (if a0.toList = ([] : List UInt8) then some (0, 0, 0, (⟨#[]⟩ : ByteArray), (⟨#[]⟩ : ByteArray), false, 0, 0, (⟨#[]⟩ : ByteArray), (⟨#[]⟩ : ByteArray), 0, (⟨#[]⟩ : ByteArray), ([] : List ByteArray), 0, 0, 0, 0, 0, 0, 0, (⟨#[]⟩ : ByteArray), 3) else (wire_Text.f k n b1 b2 b3 b4 b5 b6 b7 b8 b9 b10 b11 b12 b13 b14 b15 b16 b17 b18 b19 b20).bind fun t => if t.toList = a0.toList then some (n, b1, b2, b3, b4, b5, b6, b7, b8, b9, b10, b11, b12, b13, b14, b15, b16, b17, b18, b19, b20, 0) else some (0, 0, 0, (⟨#[]⟩ : ByteArray), (⟨#[]⟩ : ByteArray), false, 0, 0, (⟨#[]⟩ : ByteArray), (⟨#[]⟩ : ByteArray), 0, (⟨#[]⟩ : ByteArray), ([] : List ByteArray), 0, 0, 0, 0, 0, 0, 0, (⟨#[]⟩ : ByteArray), 3)) else some (0, 0, 0, (⟨#[]⟩ : ByteArray), (⟨#[]⟩ : ByteArray), false, 0, 0, (⟨#[]⟩ : ByteArray), (⟨#[]⟩ : ByteArray), 0, (⟨#[]⟩ : ByteArray), ([] : List ByteArray), 0, 0, 0, 0, 0, 0, 0, (⟨#[]⟩ : ByteArray), 3)
def wire_Read.f (k : Nat) (a0 : ByteArray) : Option (Int × Int × Int × ByteArray × ByteArray × Bool × Int × Int × ByteArray × ByteArray × Int × ByteArray × List ByteArray × Int × Int × Int × Int × Int × Int × Int × ByteArray × Int) :=
  if (a0.size : Int) > 400 then some (0, 0, 0, (⟨#[]⟩ : ByteArray), (⟨#[]⟩ : ByteArray), false, 0, 0, (⟨#[]⟩ : ByteArray), (⟨#[]⟩ : ByteArray), 0, (⟨#[]⟩ : ByteArray), ([] : List ByteArray), 0, 0, 0, 0, 0, 0, 0, (⟨#[]⟩ : ByteArray), 3) else (oct_Reader_Num.f k a0 0 1).bind fun x => (wire_Read.body k x.1 x.2.1 x.2.2).bind fun b => wire_Read.tail k a0 x.1 b.1 b.2.1 b.2.2.1 b.2.2.2.1 b.2.2.2.2.1 b.2.2.2.2.2.1 b.2.2.2.2.2.2.1 b.2.2.2.2.2.2.2.1 b.2.2.2.2.2.2.2.2.1 b.2.2.2.2.2.2.2.2.2.1 b.2.2.2.2.2.2.2.2.2.2.1 b.2.2.2.2.2.2.2.2.2.2.2.1 b.2.2.2.2.2.2.2.2.2.2.2.2.1 b.2.2.2.2.2.2.2.2.2.2.2.2.2.1 b.2.2.2.2.2.2.2.2.2.2.2.2.2.2.1 b.2.2.2.2.2.2.2.2.2.2.2.2.2.2.2.1 b.2.2.2.2.2.2.2.2.2.2.2.2.2.2.2.2.1 b.2.2.2.2.2.2.2.2.2.2.2.2.2.2.2.2.2.1 b.2.2.2.2.2.2.2.2.2.2.2.2.2.2.2.2.2.2.1 b.2.2.2.2.2.2.2.2.2.2.2.2.2.2.2.2.2.2.2.1 b.2.2.2.2.2.2.2.2.2.2.2.2.2.2.2.2.2.2.2.2.1 b.2.2.2.2.2.2.2.2.2.2.2.2.2.2.2.2.2.2.2.2.2
theorem wire_Read.mono : ∀ a0 k, LeO (wire_Read.f k a0) (wire_Read.f (k + 1) a0) := by
  intro a0 k
  unfold wire_Read.f wire_Read.body wire_Read.tail
  repeat' first | exact LeO.refl _ | apply oct_Reader_Num.mono | apply wire_proof.mono | apply manifest_Read.mono | apply wire_Text.mono | refine LeO.ite ?_ ?_ | refine LeO.bind ?_ (fun _ => ?_)
theorem wire_Read.same {W W1 : World} {k : Nat} (h : ∀ o', W.heap[k]? = some o' → W1.heap[k]? = some o') (hl : k < W.heap.size) : W1.heap[k]? = W.heap[k]? := by
  rw [Array.getElem?_eq_getElem hl] at h ⊢
  exact h _ rfl
set_option maxHeartbeats 16000000 in
set_option maxRecDepth 100000 in
theorem wire_Read.calls (k : Nat) (a0 : ByteArray) (r1 : Int) (r2 : Int) (r3 : Int) (r4 : ByteArray) (r5 : ByteArray) (r6 : Bool) (r7 : Int) (r8 : Int) (r9 : ByteArray) (r10 : ByteArray) (r11 : Int) (r12 : ByteArray) (r13 : List ByteArray) (r14 : Int) (r15 : Int) (r16 : Int) (r17 : Int) (r18 : Int) (r19 : Int) (r20 : Int) (r21 : ByteArray) (r22 : Int) (w : World) (h : wire_Read.f k a0 = some (r1, r2, r3, r4, r5, r6, r7, r8, r9, r10, r11, r12, r13, r14, r15, r16, r17, r18, r19, r20, r21, r22)) :
    Calls Try.prog 15 #[.string a0] w fun e w' => ∃ v12_ : Value, e = .returned (.tuple #[.agg #[.int .i64 r1, .int .i64 r2, .int .i64 r3, .string r4, .string r5, .bool r6, .int .i64 r7, .int .i64 r8, .string r9, .string r10, .int .i64 r11, .string r12, v12_, .int .i64 r14, .int .i64 r15, .int .i64 r16, .int .i64 r17, .int .i64 r18, .int .i64 r19, .int .i64 r20, .string r21], .int .i64 r22]) ∧ Kd.R Kd.string 9 w' w.heap.size (fun _ => True) v12_ r13 ∧ Below w.heap.size w w' := by
  have hu34 := Try.underlying34
  have hu23 := Try.underlying23
  have hu25 := Try.underlying25
  have hu32 := Try.underlying32
  have HB := Aside0.mk (Below.refl w.heap.size w)
  unfold wire_Read.f at h
  by_cases c0 : (a0.size : Int) > 400
  · rw [if_pos c0] at h
    simp only [Option.some.injEq, Prod.mk.injEq] at h
    obtain ⟨rfl, rfl, rfl, rfl, rfl, rfl, rfl, rfl, rfl, rfl, rfl, rfl, rfl, rfl, rfl, rfl, rfl, rfl, rfl, rfl, rfl, rfl⟩ := h
    have d0 : decide (400 < (a0.size : Int)) = true := decide_eq_true c0
    have d1 : decide (400 < a0.size) = true := decide_eq_true (by omega)
    clear c0
    go_enter Try.func15, Try.ntmps15
    go_wp2_with (first | ((with_reducible refine gate_dst (N := 2) rfl ?_); refine box_event ?hg (N := 2) ?hd (cs := #[.int .i64 0, .int .i64 0, .int .i64 0, .string (⟨#[]⟩ : ByteArray), .string (⟨#[]⟩ : ByteArray), .bool false, .int .i64 0, .int .i64 0, .string (⟨#[]⟩ : ByteArray), .string (⟨#[]⟩ : ByteArray), .int .i64 0, .string (⟨#[]⟩ : ByteArray), .slice none 0 0, .int .i64 0, .int .i64 0, .int .i64 0, .int .i64 0, .int .i64 0, .int .i64 0, .int .i64 0, .string (⟨#[]⟩ : ByteArray)]) (t := 34) ?hr ?_; (case hd => rfl); (case hg => rfl); (case hr => first | (go_simp; done) | (go_simp; rfl)); intro gr hg w2 hbox hb; have BR := Aside0.mk hbox; have GR := Aside0.mk (zg : w.heap.size ≤ gr); replace HB := Aside0.mk (below_step zB hb); clear hb hbox hg))
    refine wp_scope_ghost 0 (fun n a W => n = 0 ∧ ∃ gm : Nat, a = { tmps := #[.string a0, undef, .pointer (some ⟨gr, 0, none⟩), .int .i64 0, .pointer (some ⟨gm, 0, none⟩), .pointer none, .string a0, .int .i64 a0.size, .bool true, undef, undef, undef, undef, undef, undef, undef, undef, undef, undef, undef, undef, undef, undef, undef, undef, undef, undef, undef, undef, undef, undef, undef, undef, undef, undef, undef, undef, undef, undef, undef, undef, undef, undef, undef, undef, undef, undef, undef, undef, undef, undef, undef, undef, undef, undef, undef, undef, undef, undef, undef, undef, undef, undef, undef, undef, undef, undef, undef, undef, undef, undef, undef, undef, undef, undef, undef, undef, undef, undef, undef, undef, undef, undef, undef, undef, undef, undef, undef, undef, undef, undef, undef, undef], defers := [] } ∧ Aside0 (W.heap[gr]? = some (.cells #[.int .i64 0, .int .i64 0, .int .i64 0, .string (⟨#[]⟩ : ByteArray), .string (⟨#[]⟩ : ByteArray), .bool false, .int .i64 0, .int .i64 0, .string (⟨#[]⟩ : ByteArray), .string (⟨#[]⟩ : ByteArray), .int .i64 0, .string (⟨#[]⟩ : ByteArray), .slice none 0 0, .int .i64 0, .int .i64 0, .int .i64 0, .int .i64 0, .int .i64 0, .int .i64 0, .int .i64 0, .string (⟨#[]⟩ : ByteArray)] 34 (0, 0))) ∧ Aside0 (Below w.heap.size w W)) rfl ?pass ?first
    case first =>
      intro hp
      clear hp
      go_wp2_with (first | ((with_reducible refine gate_dst (N := 4) rfl ?_); refine box_event ?hg (N := 4) ?hd (cs := #[.int .i64 0, .int .i64 0, .int .i64 0, .string (⟨#[]⟩ : ByteArray), .string (⟨#[]⟩ : ByteArray), .bool false, .int .i64 0, .int .i64 0, .string (⟨#[]⟩ : ByteArray), .string (⟨#[]⟩ : ByteArray), .int .i64 0, .string (⟨#[]⟩ : ByteArray), .slice none 0 0, .int .i64 0, .int .i64 0, .int .i64 0, .int .i64 0, .int .i64 0, .int .i64 0, .int .i64 0, .string (⟨#[]⟩ : ByteArray)]) (t := 34) ?hr ?_; (case hd => rfl); (case hg => rfl); (case hr => first | (go_simp; done) | (go_simp; rfl)); intro gm hg w3 hbox hb; have BM := Aside0.mk hbox; have GM := Aside0.mk (zg : w.heap.size ≤ gm); have NRM : Aside0 (gr ≠ gm) := ⟨by rw [hg]; exact Nat.ne_of_lt (blk_lt BR.out)⟩; replace BR := Aside0.mk (blk_below BR.out hb); replace HB := Aside0.mk (below_step zB hb); clear hb hbox hg))
      go_step3
      exact ⟨rfl, 0, rfl, gm, rfl, BR, HB⟩
    case pass =>
      rintro n a W ⟨rfl, gm, rfl, BR, HB⟩
      clear d0 d1
      go_wp2_with (first | ((with_reducible refine gate_store (t := 34) (p := 2) rfl ?_); refine store_ev rfl 34 (.tmp 2) (.tmp 92) rfl gr #[.int .i64 0, .int .i64 0, .int .i64 0, .string (⟨#[]⟩ : ByteArray), .string (⟨#[]⟩ : ByteArray), .bool false, .int .i64 0, .int .i64 0, .string (⟨#[]⟩ : ByteArray), .string (⟨#[]⟩ : ByteArray), .int .i64 0, .string (⟨#[]⟩ : ByteArray), .slice none 0 0, .int .i64 0, .int .i64 0, .int .i64 0, .int .i64 0, .int .i64 0, .int .i64 0, .int .i64 0, .string (⟨#[]⟩ : ByteArray)] rfl (by first | rfl | (go_simp; done) | (go_simp; rfl)) 34 _ BR.out (by kernel_rfl) rfl (by first | rfl | (simp; done) | (simp [Value.oneCell']; done)) ?_; intro wz hx1 hx2 hx3; replace BR := Aside0.mk hx1; replace HB := Aside0.mk (hx3 _ _ HB.out GR.out); clear hx1 hx2 hx3))
      (try simp only [Exit.jump])
      refine bodyPost_ret (results_ct rfl _ _ gr 34 #[.int .i64 0, .int .i64 0, .int .i64 0, .string (⟨#[]⟩ : ByteArray), .string (⟨#[]⟩ : ByteArray), .bool false, .int .i64 0, .int .i64 0, .string (⟨#[]⟩ : ByteArray), .string (⟨#[]⟩ : ByteArray), .int .i64 0, .string (⟨#[]⟩ : ByteArray), .slice none 0 0, .int .i64 0, .int .i64 0, .int .i64 0, .int .i64 0, .int .i64 0, .int .i64 0, .int .i64 0, .string (⟨#[]⟩ : ByteArray)] (0, 0) _ rfl BR.out hu34 rfl (by kernel_rfl)) rfl ?_
      exact ⟨_, rfl, Kd.R_nil _ _ _ _ _, HB.out⟩
  · rw [if_neg c0] at h
    have d0 : decide (400 < (a0.size : Int)) = false := decide_eq_false c0
    have d1 : decide (400 < a0.size) = false := decide_eq_false (by omega)
    clear c0
    obtain ⟨⟨n, s0, e0⟩, AN, h⟩ := Option.bind_eq_some_iff.mp h
    have AN := Aside0.mk AN
    simp only at h
    have H := Aside0.mk h
    clear h
    go_enter Try.func15, Try.ntmps15
    go_wp2_with (first | ((with_reducible refine gate_dst (N := 2) rfl ?_); refine box_event ?hg (N := 2) ?hd (cs := #[.int .i64 0, .int .i64 0, .int .i64 0, .string (⟨#[]⟩ : ByteArray), .string (⟨#[]⟩ : ByteArray), .bool false, .int .i64 0, .int .i64 0, .string (⟨#[]⟩ : ByteArray), .string (⟨#[]⟩ : ByteArray), .int .i64 0, .string (⟨#[]⟩ : ByteArray), .slice none 0 0, .int .i64 0, .int .i64 0, .int .i64 0, .int .i64 0, .int .i64 0, .int .i64 0, .int .i64 0, .string (⟨#[]⟩ : ByteArray)]) (t := 34) ?hr ?_; (case hd => rfl); (case hg => rfl); (case hr => first | (go_simp; done) | (go_simp; rfl)); intro gr hg w2 hbox hb; have BR := Aside0.mk hbox; have GR := Aside0.mk (zg : w.heap.size ≤ gr); replace HB := Aside0.mk (below_step zB hb); clear hb hbox hg))
    refine wp_scope_ghost 0 (fun _ _ _ => False) rfl (fun _ _ _ hF => hF.elim) ?_
    intro _
    go_upto_region 6 with (first | ((with_reducible refine gate_dst (N := 4) rfl ?_); refine box_event ?hg (N := 4) ?hd (cs := #[.int .i64 0, .int .i64 0, .int .i64 0, .string (⟨#[]⟩ : ByteArray), .string (⟨#[]⟩ : ByteArray), .bool false, .int .i64 0, .int .i64 0, .string (⟨#[]⟩ : ByteArray), .string (⟨#[]⟩ : ByteArray), .int .i64 0, .string (⟨#[]⟩ : ByteArray), .slice none 0 0, .int .i64 0, .int .i64 0, .int .i64 0, .int .i64 0, .int .i64 0, .int .i64 0, .int .i64 0, .string (⟨#[]⟩ : ByteArray)]) (t := 34) ?hr ?_; (case hd => rfl); (case hg => rfl); (case hr => first | (go_simp; done) | (go_simp; rfl)); intro gm hg w3 hbox hb; have BM := Aside0.mk hbox; have GM := Aside0.mk (zg : w.heap.size ≤ gm); have NRM : Aside0 (gr ≠ gm) := ⟨by rw [hg]; exact Nat.ne_of_lt (blk_lt BR.out)⟩; replace BR := Aside0.mk (blk_below BR.out hb); replace HB := Aside0.mk (below_step zB hb); clear hb hbox hg) | (go_at_call 32; (with_reducible refine (oct_From.calls a0 a0 0 w _ HB.out rfl).mono ?_); rintro e w4 ⟨g, rfl, hi, hb, hb2⟩; have HI := Aside0.mk hi; replace BM := Aside0.mk (blk_below BM.out hb2); replace BR := Aside0.mk (blk_below BR.out hb2); replace HB := Aside0.mk hb; clear hi hb hb2; have NGM := Aside0.mk (HI.out.ne_blk BM.out (by decide)); have NGR := Aside0.mk (HI.out.ne_blk BR.out (by decide))) | (go_at_call 33; (with_reducible refine Calls.mono (oct_Reader_Num.calls k g a0 0 1 n s0 e0 w _ HI.out HB.out AN.out) ?_); rintro e w9 ⟨rfl, hi, hb, hk⟩; replace BM := Aside0.mk (hk.blk BM.out NGM.out.symm (by simp)); replace BR := Aside0.mk (hk.blk BR.out NGR.out.symm (by simp)); replace HI := Aside0.mk hi; replace HB := Aside0.mk hb; clear hi hb hk; have q0 : w9.cell? ⟨gm, 0, none⟩ = some (.int .i64 0) := (blk_cell BM.out 0).trans rfl; have f0 := blk_frozen BM.out 0))
    obtain ⟨wn, e_⟩ : ∃ W, W = (w9.setCell ⟨gm, 0, none⟩ (.int .i64 n)) := ⟨_, rfl⟩
    rw [← e_]
    replace BM : Aside0 (wn.heap[gm]? = some (.cells #[.int .i64 n, .int .i64 0, .int .i64 0, .string (⟨#[]⟩ : ByteArray), .string (⟨#[]⟩ : ByteArray), .bool false, .int .i64 0, .int .i64 0, .string (⟨#[]⟩ : ByteArray), .string (⟨#[]⟩ : ByteArray), .int .i64 0, .string (⟨#[]⟩ : ByteArray), .slice none 0 0, .int .i64 0, .int .i64 0, .int .i64 0, .int .i64 0, .int .i64 0, .int .i64 0, .int .i64 0, .string (⟨#[]⟩ : ByteArray)] 34 (0, 0))) := ⟨by rw [e_]; exact zP⟩
    replace BR : Aside0 (wn.heap[gr]? = some (.cells #[.int .i64 0, .int .i64 0, .int .i64 0, .string (⟨#[]⟩ : ByteArray), .string (⟨#[]⟩ : ByteArray), .bool false, .int .i64 0, .int .i64 0, .string (⟨#[]⟩ : ByteArray), .string (⟨#[]⟩ : ByteArray), .int .i64 0, .string (⟨#[]⟩ : ByteArray), .slice none 0 0, .int .i64 0, .int .i64 0, .int .i64 0, .int .i64 0, .int .i64 0, .int .i64 0, .int .i64 0, .string (⟨#[]⟩ : ByteArray)] 34 (0, 0))) := ⟨by rw [e_]; exact zP⟩
    replace HI : Aside0 (IsS110 w wn g s0 e0) := ⟨by rw [e_]; (iterate 1 refine IsS110.far ?_ NGM.out _); exact HI.out⟩
    replace HB : Aside0 (Below w.heap.size w wn) := ⟨by rw [e_]; exact zB⟩
    clear e_
    clear q0 f0
    have q0 : wn.cell? ⟨gm, 0, none⟩ = some (.int .i64 n) := (blk_cell BM.out 0).trans rfl
    go_upto_block 0 with fail
    obtain ⟨b, HBD, H⟩ := Option.bind_eq_some_iff.mp H.out
    have HBD := Aside0.mk HBD
    have H := Aside0.mk H
    go_cut [] (fun wc => ∃ (b1 : Int) (b2 : Int) (b3 : ByteArray) (b4 : ByteArray) (b5 : Bool) (b6 : Int) (b7 : Int) (b8 : ByteArray) (b9 : ByteArray) (b10 : Int) (b11 : ByteArray) (b12 : List ByteArray) (b13 : Int) (b14 : Int) (b15 : Int) (b16 : Int) (b17 : Int) (b18 : Int) (b19 : Int) (b20 : ByteArray) (A : Option Addr) (c : Nat) (s : ByteArray) (e : Int), Aside0 (wire_Read.tail k a0 n b1 b2 b3 b4 b5 b6 b7 b8 b9 b10 b11 b12 b13 b14 b15 b16 b17 b18 b19 b20 s e = some (r1, r2, r3, r4, r5, r6, r7, r8, r9, r10, r11, r12, r13, r14, r15, r16, r17, r18, r19, r20, r21, r22)) ∧ Aside0 (IsS110 w wc g s e) ∧ Aside0 (wc.heap[gm]? = some (.cells #[.int .i64 n, .int .i64 b1, .int .i64 b2, .string b3, .string b4, .bool b5, .int .i64 b6, .int .i64 b7, .string b8, .string b9, .int .i64 b10, .string b11, .slice A b12.length c, .int .i64 b13, .int .i64 b14, .int .i64 b15, .int .i64 b16, .int .i64 b17, .int .i64 b18, .int .i64 b19, .string b20] 34 (0, 0))) ∧ Aside0 (wc.heap[gr]? = some (.cells #[.int .i64 0, .int .i64 0, .int .i64 0, .string (⟨#[]⟩ : ByteArray), .string (⟨#[]⟩ : ByteArray), .bool false, .int .i64 0, .int .i64 0, .string (⟨#[]⟩ : ByteArray), .string (⟨#[]⟩ : ByteArray), .int .i64 0, .string (⟨#[]⟩ : ByteArray), .slice none 0 0, .int .i64 0, .int .i64 0, .int .i64 0, .int .i64 0, .int .i64 0, .int .i64 0, .int .i64 0, .string (⟨#[]⟩ : ByteArray)] 34 (0, 0))) ∧ Aside0 (Kd.R Kd.string 9 wc w.heap.size (fun _ => True) (.slice A b12.length c) b12) ∧ Aside0 (Below w.heap.size w wc))
    case first =>
      replace HBD := HBD.out
      unfold wire_Read.body at HBD
      by_cases c1 : n = 1
      · rw [if_pos c1] at HBD
        have t1 : (n == 1) = true := beq_iff_eq.mpr c1
        clear c1
        obtain ⟨⟨x, s1, e1⟩, A1, HBD⟩ := Option.bind_eq_some_iff.mp HBD
        have A1 := Aside0.mk A1
        obtain ⟨⟨y, s2, e2⟩, A2, HBD⟩ := Option.bind_eq_some_iff.mp HBD
        have A2 := Aside0.mk A2
        obtain ⟨⟨z, s3, e3⟩, A3, HBD⟩ := Option.bind_eq_some_iff.mp HBD
        have A3 := Aside0.mk A3
        simp only [Option.some.injEq] at HBD
        subst HBD
        simp only at H
        have q1 : wn.cell? ⟨gm, 1, none⟩ = some (.int .i64 0) := (blk_cell BM.out 1).trans rfl
        have q2 : wn.cell? ⟨gm, 2, none⟩ = some (.int .i64 0) := (blk_cell BM.out 2).trans rfl
        have q3 : wn.cell? ⟨gm, 3, none⟩ = some (.string (⟨#[]⟩ : ByteArray)) := (blk_cell BM.out 3).trans rfl
        have f1 := blk_frozen BM.out 1
        have f2 := blk_frozen BM.out 2
        have f3 := blk_frozen BM.out 3
        go_upto_region 9 with (first | (go_at_call 33; (with_reducible refine Calls.mono (oct_Reader_Num.calls k g s0 e0 3 x s1 e1 w _ HI.out HB.out A1.out) ?_); rintro e w9 ⟨rfl, hi, hb, hk⟩; clear q1 q2 q3 f1 f2 f3; replace BM := Aside0.mk (hk.blk BM.out NGM.out.symm (by simp)); replace BR := Aside0.mk (hk.blk BR.out NGR.out.symm (by simp)); replace HI := Aside0.mk hi; replace HB := Aside0.mk hb; clear hi hb hk; have q1 : w9.cell? ⟨gm, 1, none⟩ = some (.int .i64 0) := (blk_cell BM.out 1).trans rfl; have q2 : w9.cell? ⟨gm, 2, none⟩ = some (.int .i64 0) := (blk_cell BM.out 2).trans rfl; have q3 : w9.cell? ⟨gm, 3, none⟩ = some (.string (⟨#[]⟩ : ByteArray)) := (blk_cell BM.out 3).trans rfl; have f1 := blk_frozen BM.out 1; have f2 := blk_frozen BM.out 2; have f3 := blk_frozen BM.out 3) | (go_at_call 33; (with_reducible refine Calls.mono (oct_Reader_Num.calls k g s1 e1 3 y s2 e2 w _ HI.out HB.out A2.out) ?_); rintro e w9 ⟨rfl, hi, hb, hk⟩; clear q1 q2 q3 f1 f2 f3; replace BM := Aside0.mk (hk.blk BM.out NGM.out.symm (by simp)); replace BR := Aside0.mk (hk.blk BR.out NGR.out.symm (by simp)); replace HI := Aside0.mk hi; replace HB := Aside0.mk hb; clear hi hb hk; have q1 : w9.cell? ⟨gm, 1, none⟩ = some (.int .i64 0) := (blk_cell BM.out 1).trans rfl; have q2 : w9.cell? ⟨gm, 2, none⟩ = some (.int .i64 0) := (blk_cell BM.out 2).trans rfl; have q3 : w9.cell? ⟨gm, 3, none⟩ = some (.string (⟨#[]⟩ : ByteArray)) := (blk_cell BM.out 3).trans rfl; have f1 := blk_frozen BM.out 1; have f2 := blk_frozen BM.out 2; have f3 := blk_frozen BM.out 3))
        obtain ⟨wy, e_⟩ : ∃ W, W = ((w9.setCell ⟨gm, 1, none⟩ (.int .i64 (wrap64 (x - 1048576)))).setCell ⟨gm, 2, none⟩ (.int .i64 (wrap64 (y - 1048576)))) := ⟨_, rfl⟩
        rw [← e_]
        replace BM : Aside0 (wy.heap[gm]? = some (.cells #[.int .i64 n, .int .i64 (wrap64 (x - 1048576)), .int .i64 (wrap64 (y - 1048576)), .string (⟨#[]⟩ : ByteArray), .string (⟨#[]⟩ : ByteArray), .bool false, .int .i64 0, .int .i64 0, .string (⟨#[]⟩ : ByteArray), .string (⟨#[]⟩ : ByteArray), .int .i64 0, .string (⟨#[]⟩ : ByteArray), .slice none 0 0, .int .i64 0, .int .i64 0, .int .i64 0, .int .i64 0, .int .i64 0, .int .i64 0, .int .i64 0, .string (⟨#[]⟩ : ByteArray)] 34 (0, 0))) := ⟨by rw [e_]; exact zP⟩
        replace BR : Aside0 (wy.heap[gr]? = some (.cells #[.int .i64 0, .int .i64 0, .int .i64 0, .string (⟨#[]⟩ : ByteArray), .string (⟨#[]⟩ : ByteArray), .bool false, .int .i64 0, .int .i64 0, .string (⟨#[]⟩ : ByteArray), .string (⟨#[]⟩ : ByteArray), .int .i64 0, .string (⟨#[]⟩ : ByteArray), .slice none 0 0, .int .i64 0, .int .i64 0, .int .i64 0, .int .i64 0, .int .i64 0, .int .i64 0, .int .i64 0, .string (⟨#[]⟩ : ByteArray)] 34 (0, 0))) := ⟨by rw [e_]; exact zP⟩
        replace HI : Aside0 (IsS110 w wy g s2 e2) := ⟨by rw [e_]; (iterate 2 refine IsS110.far ?_ NGM.out _); exact HI.out⟩
        replace HB : Aside0 (Below w.heap.size w wy) := ⟨by rw [e_]; exact zB⟩
        clear e_
        clear q1 q2 q3 f1 f2 f3
        have q3 : wy.cell? ⟨gm, 3, none⟩ = some (.string (⟨#[]⟩ : ByteArray)) := (blk_cell BM.out 3).trans rfl
        have f3 := blk_frozen BM.out 3
        go_wp2_with (first | (go_at_call 34; (with_reducible refine Calls.mono (oct_Reader_Rest.calls g s2 e2 z s3 e3 w _ HI.out HB.out A3.out) ?_); rintro e w9 ⟨rfl, hi, hb, hk⟩; clear q3 f3; replace BM := Aside0.mk (hk.blk BM.out NGM.out.symm (by simp)); replace BR := Aside0.mk (hk.blk BR.out NGR.out.symm (by simp)); replace HI := Aside0.mk hi; replace HB := Aside0.mk hb; clear hi hb hk; have q3 : w9.cell? ⟨gm, 3, none⟩ = some (.string (⟨#[]⟩ : ByteArray)) := (blk_cell BM.out 3).trans rfl; have f3 := blk_frozen BM.out 3))
        go_meet
        exact ⟨_, _, _, (⟨#[]⟩ : ByteArray), false, 0, 0, (⟨#[]⟩ : ByteArray), (⟨#[]⟩ : ByteArray), 0, (⟨#[]⟩ : ByteArray), ([] : List ByteArray), 0, 0, 0, 0, 0, 0, 0, (⟨#[]⟩ : ByteArray), none, 0, _, _, H, ⟨by (repeat (refine IsS110.far ?_ NGM.out _)); exact HI.out⟩, ⟨zP⟩, ⟨zP⟩, ⟨Kd.R_nil _ _ _ _ _⟩, ⟨zB⟩⟩
      rw [if_neg c1] at HBD
      by_cases c2 : n = 2
      · rw [if_pos c2] at HBD
        have t1 : (n == 1) = false := beq_eq_false_iff_ne.mpr c1
        have t2 : (n == 2) = true := beq_iff_eq.mpr c2
        clear c1 c2
        obtain ⟨⟨x, s1, e1⟩, A1, HBD⟩ := Option.bind_eq_some_iff.mp HBD
        have A1 := Aside0.mk A1
        simp only [Option.some.injEq] at HBD
        subst HBD
        simp only at H
        have q4 : wn.cell? ⟨gm, 4, none⟩ = some (.string (⟨#[]⟩ : ByteArray)) := (blk_cell BM.out 4).trans rfl
        have f4 := blk_frozen BM.out 4
        go_wp2_with (first | (go_at_call 35; (with_reducible refine Calls.mono (oct_Reader_Text.calls g s0 e0 x s1 e1 w _ HI.out HB.out A1.out) ?_); rintro e w9 ⟨rfl, hi, hb, hk⟩; clear q4 f4; replace BM := Aside0.mk (hk.blk BM.out NGM.out.symm (by simp)); replace BR := Aside0.mk (hk.blk BR.out NGR.out.symm (by simp)); replace HI := Aside0.mk hi; replace HB := Aside0.mk hb; clear hi hb hk; have q4 : w9.cell? ⟨gm, 4, none⟩ = some (.string (⟨#[]⟩ : ByteArray)) := (blk_cell BM.out 4).trans rfl; have f4 := blk_frozen BM.out 4))
        go_meet
        exact ⟨0, 0, (⟨#[]⟩ : ByteArray), _, false, 0, 0, (⟨#[]⟩ : ByteArray), (⟨#[]⟩ : ByteArray), 0, (⟨#[]⟩ : ByteArray), ([] : List ByteArray), 0, 0, 0, 0, 0, 0, 0, (⟨#[]⟩ : ByteArray), none, 0, _, _, H, ⟨by (repeat (refine IsS110.far ?_ NGM.out _)); exact HI.out⟩, ⟨zP⟩, ⟨zP⟩, ⟨Kd.R_nil _ _ _ _ _⟩, ⟨zB⟩⟩
      rw [if_neg c2] at HBD
      by_cases c3 : n = 3
      · rw [if_pos c3] at HBD
        have t1 : (n == 1) = false := beq_eq_false_iff_ne.mpr c1
        have t2 : (n == 2) = false := beq_eq_false_iff_ne.mpr c2
        have t3 : (n == 3) = true := beq_iff_eq.mpr c3
        clear c1 c2 c3
        obtain ⟨⟨x, s1, e1⟩, A1, HBD⟩ := Option.bind_eq_some_iff.mp HBD
        have A1 := Aside0.mk A1
        simp only [Option.some.injEq] at HBD
        subst HBD
        simp only at H
        have q5 : wn.cell? ⟨gm, 5, none⟩ = some (.bool false) := (blk_cell BM.out 5).trans rfl
        have f5 := blk_frozen BM.out 5
        go_wp2_with (first | (go_at_call 33; (with_reducible refine Calls.mono (oct_Reader_Num.calls k g s0 e0 1 x s1 e1 w _ HI.out HB.out A1.out) ?_); rintro e w9 ⟨rfl, hi, hb, hk⟩; clear q5 f5; replace BM := Aside0.mk (hk.blk BM.out NGM.out.symm (by simp)); replace BR := Aside0.mk (hk.blk BR.out NGR.out.symm (by simp)); replace HI := Aside0.mk hi; replace HB := Aside0.mk hb; clear hi hb hk; have q5 : w9.cell? ⟨gm, 5, none⟩ = some (.bool false) := (blk_cell BM.out 5).trans rfl; have f5 := blk_frozen BM.out 5))
        go_meet
        exact ⟨0, 0, (⟨#[]⟩ : ByteArray), (⟨#[]⟩ : ByteArray), _, 0, 0, (⟨#[]⟩ : ByteArray), (⟨#[]⟩ : ByteArray), 0, (⟨#[]⟩ : ByteArray), ([] : List ByteArray), 0, 0, 0, 0, 0, 0, 0, (⟨#[]⟩ : ByteArray), none, 0, _, _, H, ⟨by (repeat (refine IsS110.far ?_ NGM.out _)); exact HI.out⟩, ⟨zP⟩, ⟨zP⟩, ⟨Kd.R_nil _ _ _ _ _⟩, ⟨zB⟩⟩
      rw [if_neg c3] at HBD
      by_cases c6 : n = 6
      · rw [if_pos c6] at HBD
        have t1 : (n == 1) = false := beq_eq_false_iff_ne.mpr c1
        have t2 : (n == 2) = false := beq_eq_false_iff_ne.mpr c2
        have t3 : (n == 3) = false := beq_eq_false_iff_ne.mpr c3
        have t6 : (n == 6) = true := beq_iff_eq.mpr c6
        clear c1 c2 c3 c6
        obtain ⟨⟨x, s1, e1⟩, A1, HBD⟩ := Option.bind_eq_some_iff.mp HBD
        have A1 := Aside0.mk A1
        obtain ⟨⟨y, s2, e2⟩, A2, HBD⟩ := Option.bind_eq_some_iff.mp HBD
        have A2 := Aside0.mk A2
        obtain ⟨⟨z, s3, e3⟩, A3, HBD⟩ := Option.bind_eq_some_iff.mp HBD
        have A3 := Aside0.mk A3
        obtain ⟨⟨u, s4, e4⟩, A4, HBD⟩ := Option.bind_eq_some_iff.mp HBD
        have A4 := Aside0.mk A4
        simp only [Option.some.injEq] at HBD
        subst HBD
        simp only at H
        have q6 : wn.cell? ⟨gm, 6, none⟩ = some (.int .i64 0) := (blk_cell BM.out 6).trans rfl
        have q7 : wn.cell? ⟨gm, 7, none⟩ = some (.int .i64 0) := (blk_cell BM.out 7).trans rfl
        have q8 : wn.cell? ⟨gm, 8, none⟩ = some (.string (⟨#[]⟩ : ByteArray)) := (blk_cell BM.out 8).trans rfl
        have q9 : wn.cell? ⟨gm, 9, none⟩ = some (.string (⟨#[]⟩ : ByteArray)) := (blk_cell BM.out 9).trans rfl
        have f6 := blk_frozen BM.out 6
        have f7 := blk_frozen BM.out 7
        have f8 := blk_frozen BM.out 8
        have f9 := blk_frozen BM.out 9
        go_upto_region 16 with (first | (go_at_call 33; (with_reducible refine Calls.mono (oct_Reader_Num.calls k g s0 e0 1 x s1 e1 w _ HI.out HB.out A1.out) ?_); rintro e w9 ⟨rfl, hi, hb, hk⟩; clear q6 q7 q8 q9 f6 f7 f8 f9; replace BM := Aside0.mk (hk.blk BM.out NGM.out.symm (by simp)); replace BR := Aside0.mk (hk.blk BR.out NGR.out.symm (by simp)); replace HI := Aside0.mk hi; replace HB := Aside0.mk hb; clear hi hb hk; have q6 : w9.cell? ⟨gm, 6, none⟩ = some (.int .i64 0) := (blk_cell BM.out 6).trans rfl; have q7 : w9.cell? ⟨gm, 7, none⟩ = some (.int .i64 0) := (blk_cell BM.out 7).trans rfl; have q8 : w9.cell? ⟨gm, 8, none⟩ = some (.string (⟨#[]⟩ : ByteArray)) := (blk_cell BM.out 8).trans rfl; have q9 : w9.cell? ⟨gm, 9, none⟩ = some (.string (⟨#[]⟩ : ByteArray)) := (blk_cell BM.out 9).trans rfl; have f6 := blk_frozen BM.out 6; have f7 := blk_frozen BM.out 7; have f8 := blk_frozen BM.out 8; have f9 := blk_frozen BM.out 9) | (go_at_call 33; (with_reducible refine Calls.mono (oct_Reader_Num.calls k g s1 e1 7 y s2 e2 w _ HI.out HB.out A2.out) ?_); rintro e w9 ⟨rfl, hi, hb, hk⟩; clear q6 q7 q8 q9 f6 f7 f8 f9; replace BM := Aside0.mk (hk.blk BM.out NGM.out.symm (by simp)); replace BR := Aside0.mk (hk.blk BR.out NGR.out.symm (by simp)); replace HI := Aside0.mk hi; replace HB := Aside0.mk hb; clear hi hb hk; have q6 : w9.cell? ⟨gm, 6, none⟩ = some (.int .i64 0) := (blk_cell BM.out 6).trans rfl; have q7 : w9.cell? ⟨gm, 7, none⟩ = some (.int .i64 0) := (blk_cell BM.out 7).trans rfl; have q8 : w9.cell? ⟨gm, 8, none⟩ = some (.string (⟨#[]⟩ : ByteArray)) := (blk_cell BM.out 8).trans rfl; have q9 : w9.cell? ⟨gm, 9, none⟩ = some (.string (⟨#[]⟩ : ByteArray)) := (blk_cell BM.out 9).trans rfl; have f6 := blk_frozen BM.out 6; have f7 := blk_frozen BM.out 7; have f8 := blk_frozen BM.out 8; have f9 := blk_frozen BM.out 9) | (go_at_call 35; (with_reducible refine Calls.mono (oct_Reader_Text.calls g s2 e2 z s3 e3 w _ HI.out HB.out A3.out) ?_); rintro e w9 ⟨rfl, hi, hb, hk⟩; clear q6 q7 q8 q9 f6 f7 f8 f9; replace BM := Aside0.mk (hk.blk BM.out NGM.out.symm (by simp)); replace BR := Aside0.mk (hk.blk BR.out NGR.out.symm (by simp)); replace HI := Aside0.mk hi; replace HB := Aside0.mk hb; clear hi hb hk; have q6 : w9.cell? ⟨gm, 6, none⟩ = some (.int .i64 0) := (blk_cell BM.out 6).trans rfl; have q7 : w9.cell? ⟨gm, 7, none⟩ = some (.int .i64 0) := (blk_cell BM.out 7).trans rfl; have q8 : w9.cell? ⟨gm, 8, none⟩ = some (.string (⟨#[]⟩ : ByteArray)) := (blk_cell BM.out 8).trans rfl; have q9 : w9.cell? ⟨gm, 9, none⟩ = some (.string (⟨#[]⟩ : ByteArray)) := (blk_cell BM.out 9).trans rfl; have f6 := blk_frozen BM.out 6; have f7 := blk_frozen BM.out 7; have f8 := blk_frozen BM.out 8; have f9 := blk_frozen BM.out 9))
        obtain ⟨wy, e_⟩ : ∃ W, W = (((w9.setCell ⟨gm, 6, none⟩ (.int .i64 x)).setCell ⟨gm, 7, none⟩ (.int .i64 y)).setCell ⟨gm, 8, none⟩ (.string z)) := ⟨_, rfl⟩
        rw [← e_]
        replace BM : Aside0 (wy.heap[gm]? = some (.cells #[.int .i64 n, .int .i64 0, .int .i64 0, .string (⟨#[]⟩ : ByteArray), .string (⟨#[]⟩ : ByteArray), .bool false, .int .i64 x, .int .i64 y, .string z, .string (⟨#[]⟩ : ByteArray), .int .i64 0, .string (⟨#[]⟩ : ByteArray), .slice none 0 0, .int .i64 0, .int .i64 0, .int .i64 0, .int .i64 0, .int .i64 0, .int .i64 0, .int .i64 0, .string (⟨#[]⟩ : ByteArray)] 34 (0, 0))) := ⟨by rw [e_]; exact zP⟩
        replace BR : Aside0 (wy.heap[gr]? = some (.cells #[.int .i64 0, .int .i64 0, .int .i64 0, .string (⟨#[]⟩ : ByteArray), .string (⟨#[]⟩ : ByteArray), .bool false, .int .i64 0, .int .i64 0, .string (⟨#[]⟩ : ByteArray), .string (⟨#[]⟩ : ByteArray), .int .i64 0, .string (⟨#[]⟩ : ByteArray), .slice none 0 0, .int .i64 0, .int .i64 0, .int .i64 0, .int .i64 0, .int .i64 0, .int .i64 0, .int .i64 0, .string (⟨#[]⟩ : ByteArray)] 34 (0, 0))) := ⟨by rw [e_]; exact zP⟩
        replace HI : Aside0 (IsS110 w wy g s3 e3) := ⟨by rw [e_]; (iterate 3 refine IsS110.far ?_ NGM.out _); exact HI.out⟩
        replace HB : Aside0 (Below w.heap.size w wy) := ⟨by rw [e_]; exact zB⟩
        clear e_
        clear q6 q7 q8 q9 f6 f7 f8 f9
        have q9 : wy.cell? ⟨gm, 9, none⟩ = some (.string (⟨#[]⟩ : ByteArray)) := (blk_cell BM.out 9).trans rfl
        have f9 := blk_frozen BM.out 9
        go_wp2_with (first | (go_at_call 35; (with_reducible refine Calls.mono (oct_Reader_Text.calls g s3 e3 u s4 e4 w _ HI.out HB.out A4.out) ?_); rintro e w9 ⟨rfl, hi, hb, hk⟩; clear q9 f9; replace BM := Aside0.mk (hk.blk BM.out NGM.out.symm (by simp)); replace BR := Aside0.mk (hk.blk BR.out NGR.out.symm (by simp)); replace HI := Aside0.mk hi; replace HB := Aside0.mk hb; clear hi hb hk; have q9 : w9.cell? ⟨gm, 9, none⟩ = some (.string (⟨#[]⟩ : ByteArray)) := (blk_cell BM.out 9).trans rfl; have f9 := blk_frozen BM.out 9))
        go_meet
        exact ⟨0, 0, (⟨#[]⟩ : ByteArray), (⟨#[]⟩ : ByteArray), false, _, _, _, _, 0, (⟨#[]⟩ : ByteArray), ([] : List ByteArray), 0, 0, 0, 0, 0, 0, 0, (⟨#[]⟩ : ByteArray), none, 0, _, _, H, ⟨by (repeat (refine IsS110.far ?_ NGM.out _)); exact HI.out⟩, ⟨zP⟩, ⟨zP⟩, ⟨Kd.R_nil _ _ _ _ _⟩, ⟨zB⟩⟩
      rw [if_neg c6] at HBD
      by_cases c7 : n = 7
      · rw [if_pos c7] at HBD
        have t1 : (n == 1) = false := beq_eq_false_iff_ne.mpr c1
        have t2 : (n == 2) = false := beq_eq_false_iff_ne.mpr c2
        have t3 : (n == 3) = false := beq_eq_false_iff_ne.mpr c3
        have t6 : (n == 6) = false := beq_eq_false_iff_ne.mpr c6
        have t7 : (n == 7) = true := beq_iff_eq.mpr c7
        clear c1 c2 c3 c6 c7
        obtain ⟨⟨x, s1, e1⟩, A1, HBD⟩ := Option.bind_eq_some_iff.mp HBD
        have A1 := Aside0.mk A1
        simp only [Option.some.injEq] at HBD
        subst HBD
        simp only at H
        have q10 : wn.cell? ⟨gm, 10, none⟩ = some (.int .i64 0) := (blk_cell BM.out 10).trans rfl
        have f10 := blk_frozen BM.out 10
        go_wp2_with (first | (go_at_call 33; (with_reducible refine Calls.mono (oct_Reader_Num.calls k g s0 e0 1 x s1 e1 w _ HI.out HB.out A1.out) ?_); rintro e w9 ⟨rfl, hi, hb, hk⟩; clear q10 f10; replace BM := Aside0.mk (hk.blk BM.out NGM.out.symm (by simp)); replace BR := Aside0.mk (hk.blk BR.out NGR.out.symm (by simp)); replace HI := Aside0.mk hi; replace HB := Aside0.mk hb; clear hi hb hk; have q10 : w9.cell? ⟨gm, 10, none⟩ = some (.int .i64 0) := (blk_cell BM.out 10).trans rfl; have f10 := blk_frozen BM.out 10))
        go_meet
        exact ⟨0, 0, (⟨#[]⟩ : ByteArray), (⟨#[]⟩ : ByteArray), false, 0, 0, (⟨#[]⟩ : ByteArray), (⟨#[]⟩ : ByteArray), _, (⟨#[]⟩ : ByteArray), ([] : List ByteArray), 0, 0, 0, 0, 0, 0, 0, (⟨#[]⟩ : ByteArray), none, 0, _, _, H, ⟨by (repeat (refine IsS110.far ?_ NGM.out _)); exact HI.out⟩, ⟨zP⟩, ⟨zP⟩, ⟨Kd.R_nil _ _ _ _ _⟩, ⟨zB⟩⟩
      rw [if_neg c7] at HBD
      by_cases c8 : n = 8
      · rw [if_pos c8] at HBD
        have t1 : (n == 1) = false := beq_eq_false_iff_ne.mpr c1
        have t2 : (n == 2) = false := beq_eq_false_iff_ne.mpr c2
        have t3 : (n == 3) = false := beq_eq_false_iff_ne.mpr c3
        have t6 : (n == 6) = false := beq_eq_false_iff_ne.mpr c6
        have t7 : (n == 7) = false := beq_eq_false_iff_ne.mpr c7
        have t8 : (n == 8) = true := beq_iff_eq.mpr c8
        clear c1 c2 c3 c6 c7 c8
        obtain ⟨⟨x, y, l, s1, e1⟩, A1, HBD⟩ := Option.bind_eq_some_iff.mp HBD
        have A1 := Aside0.mk A1
        simp only [Option.some.injEq] at HBD
        subst HBD
        simp only at H
        have q10 : wn.cell? ⟨gm, 10, none⟩ = some (.int .i64 0) := (blk_cell BM.out 10).trans rfl
        have q11 : wn.cell? ⟨gm, 11, none⟩ = some (.string (⟨#[]⟩ : ByteArray)) := (blk_cell BM.out 11).trans rfl
        have q12 : wn.cell? ⟨gm, 12, none⟩ = some (.slice none 0 0) := (blk_cell BM.out 12).trans rfl
        have f10 := blk_frozen BM.out 10
        have f11 := blk_frozen BM.out 11
        have f12 := blk_frozen BM.out 12
        go_wp2_with (first | (go_at_call 36; refine Calls.mono (wire_proof.calls k g s0 e0 x y l s1 e1 w _ HI.out HB.out A1.out) ?_; rintro e w9 ⟨v2, rfl, hr, hi, hb, hk⟩; have hsz := HB.out.size; obtain ⟨A, c, ev⟩ := Kd.R_slice hr; subst ev; clear q10 q11 q12 f10 f11 f12; replace BM := Aside0.mk (hk.blk BM.out NGM.out.symm (by simp)); replace BR := Aside0.mk (hk.blk BR.out NGR.out.symm (by simp)); replace HI := Aside0.mk hi; replace HB := Aside0.mk hb; clear hi hb hk; have HO := Aside0.mk (Kd.R_types (Kd.R_lower hr hsz) BM.out (by decide)); clear hr hsz; have q10 : w9.cell? ⟨gm, 10, none⟩ = some (.int .i64 0) := (blk_cell BM.out 10).trans rfl; have q11 : w9.cell? ⟨gm, 11, none⟩ = some (.string (⟨#[]⟩ : ByteArray)) := (blk_cell BM.out 11).trans rfl; have q12 : w9.cell? ⟨gm, 12, none⟩ = some (.slice none 0 0) := (blk_cell BM.out 12).trans rfl; have f10 := blk_frozen BM.out 10; have f11 := blk_frozen BM.out 11; have f12 := blk_frozen BM.out 12))
        go_meet
        exact ⟨0, 0, (⟨#[]⟩ : ByteArray), (⟨#[]⟩ : ByteArray), false, 0, 0, (⟨#[]⟩ : ByteArray), (⟨#[]⟩ : ByteArray), _, _, _, 0, 0, 0, 0, 0, 0, 0, (⟨#[]⟩ : ByteArray), A, c, _, _, H, ⟨by (repeat (refine IsS110.far ?_ NGM.out _)); exact HI.out⟩, ⟨zP⟩, ⟨zP⟩, ⟨Kd.R_mono (Kd.R_far (Kd.R_far (Kd.R_far HO.out (fun k hk => hk.2) _) (fun k hk => hk.2) _) (fun k hk => hk.2) _) (fun _ _ => trivial)⟩, ⟨zB⟩⟩
      rw [if_neg c8] at HBD
      by_cases c9 : n = 9
      · rw [if_pos c9] at HBD
        have t1 : (n == 1) = false := beq_eq_false_iff_ne.mpr c1
        have t2 : (n == 2) = false := beq_eq_false_iff_ne.mpr c2
        have t3 : (n == 3) = false := beq_eq_false_iff_ne.mpr c3
        have t6 : (n == 6) = false := beq_eq_false_iff_ne.mpr c6
        have t7 : (n == 7) = false := beq_eq_false_iff_ne.mpr c7
        have t8 : (n == 8) = false := beq_eq_false_iff_ne.mpr c8
        have t9 : (n == 9) = true := beq_iff_eq.mpr c9
        clear c1 c2 c3 c6 c7 c8 c9
        obtain ⟨⟨x, s1, e1⟩, A1, HBD⟩ := Option.bind_eq_some_iff.mp HBD
        have A1 := Aside0.mk A1
        obtain ⟨⟨m0, m1, m2, m3, m4, m5, m6, m7, m8⟩, A2, HBD⟩ := Option.bind_eq_some_iff.mp HBD
        have A2 := Aside0.mk A2
        simp only [Option.some.injEq] at HBD
        subst HBD
        simp only at H
        have q13 : wn.cell? ⟨gm, 13, none⟩ = some (.int .i64 0) := (blk_cell BM.out 13).trans rfl
        have q14 : wn.cell? ⟨gm, 14, none⟩ = some (.int .i64 0) := (blk_cell BM.out 14).trans rfl
        have q15 : wn.cell? ⟨gm, 15, none⟩ = some (.int .i64 0) := (blk_cell BM.out 15).trans rfl
        have q16 : wn.cell? ⟨gm, 16, none⟩ = some (.int .i64 0) := (blk_cell BM.out 16).trans rfl
        have q17 : wn.cell? ⟨gm, 17, none⟩ = some (.int .i64 0) := (blk_cell BM.out 17).trans rfl
        have q18 : wn.cell? ⟨gm, 18, none⟩ = some (.int .i64 0) := (blk_cell BM.out 18).trans rfl
        have q19 : wn.cell? ⟨gm, 19, none⟩ = some (.int .i64 0) := (blk_cell BM.out 19).trans rfl
        have q20 : wn.cell? ⟨gm, 20, none⟩ = some (.string (⟨#[]⟩ : ByteArray)) := (blk_cell BM.out 20).trans rfl
        have f13 := blk_frozen BM.out 13
        have f14 := blk_frozen BM.out 14
        have f15 := blk_frozen BM.out 15
        have f16 := blk_frozen BM.out 16
        have f17 := blk_frozen BM.out 17
        have f18 := blk_frozen BM.out 18
        have f19 := blk_frozen BM.out 19
        have f20 := blk_frozen BM.out 20
        go_wp2_with (first | (go_at_call 34; (with_reducible refine Calls.mono (oct_Reader_Rest.calls g s0 e0 x s1 e1 w _ HI.out HB.out A1.out) ?_); rintro e w9 ⟨rfl, hi, hb, hk⟩; clear q13 q14 q15 q16 q17 q18 q19 q20 f13 f14 f15 f16 f17 f18 f19 f20; replace BM := Aside0.mk (hk.blk BM.out NGM.out.symm (by simp)); replace BR := Aside0.mk (hk.blk BR.out NGR.out.symm (by simp)); replace HI := Aside0.mk hi; replace HB := Aside0.mk hb; clear hi hb hk; have q13 : w9.cell? ⟨gm, 13, none⟩ = some (.int .i64 0) := (blk_cell BM.out 13).trans rfl; have q14 : w9.cell? ⟨gm, 14, none⟩ = some (.int .i64 0) := (blk_cell BM.out 14).trans rfl; have q15 : w9.cell? ⟨gm, 15, none⟩ = some (.int .i64 0) := (blk_cell BM.out 15).trans rfl; have q16 : w9.cell? ⟨gm, 16, none⟩ = some (.int .i64 0) := (blk_cell BM.out 16).trans rfl; have q17 : w9.cell? ⟨gm, 17, none⟩ = some (.int .i64 0) := (blk_cell BM.out 17).trans rfl; have q18 : w9.cell? ⟨gm, 18, none⟩ = some (.int .i64 0) := (blk_cell BM.out 18).trans rfl; have q19 : w9.cell? ⟨gm, 19, none⟩ = some (.int .i64 0) := (blk_cell BM.out 19).trans rfl; have q20 : w9.cell? ⟨gm, 20, none⟩ = some (.string (⟨#[]⟩ : ByteArray)) := (blk_cell BM.out 20).trans rfl; have f13 := blk_frozen BM.out 13; have f14 := blk_frozen BM.out 14; have f15 := blk_frozen BM.out 15; have f16 := blk_frozen BM.out 16; have f17 := blk_frozen BM.out 17; have f18 := blk_frozen BM.out 18; have f19 := blk_frozen BM.out 19; have f20 := blk_frozen BM.out 20) | (go_at_call 37; refine Calls.mono (manifest_Read.calls k x m0 m1 m2 m3 m4 m5 m6 m7 m8 _ A2.out) ?_; rintro e w9 ⟨rfl, hb⟩; clear q13 q14 q15 q16 q17 q18 q19 q20 f13 f14 f15 f16 f17 f18 f19 f20; replace BM := Aside0.mk (blk_below BM.out hb); replace BR := Aside0.mk (blk_below BR.out hb); replace HI := Aside0.mk (HI.out.below hb); replace HB := Aside0.mk (below_step HB.out hb); clear hb; have q13 : w9.cell? ⟨gm, 13, none⟩ = some (.int .i64 0) := (blk_cell BM.out 13).trans rfl; have q14 : w9.cell? ⟨gm, 14, none⟩ = some (.int .i64 0) := (blk_cell BM.out 14).trans rfl; have q15 : w9.cell? ⟨gm, 15, none⟩ = some (.int .i64 0) := (blk_cell BM.out 15).trans rfl; have q16 : w9.cell? ⟨gm, 16, none⟩ = some (.int .i64 0) := (blk_cell BM.out 16).trans rfl; have q17 : w9.cell? ⟨gm, 17, none⟩ = some (.int .i64 0) := (blk_cell BM.out 17).trans rfl; have q18 : w9.cell? ⟨gm, 18, none⟩ = some (.int .i64 0) := (blk_cell BM.out 18).trans rfl; have q19 : w9.cell? ⟨gm, 19, none⟩ = some (.int .i64 0) := (blk_cell BM.out 19).trans rfl; have q20 : w9.cell? ⟨gm, 20, none⟩ = some (.string (⟨#[]⟩ : ByteArray)) := (blk_cell BM.out 20).trans rfl; have f13 := blk_frozen BM.out 13; have f14 := blk_frozen BM.out 14; have f15 := blk_frozen BM.out 15; have f16 := blk_frozen BM.out 16; have f17 := blk_frozen BM.out 17; have f18 := blk_frozen BM.out 18; have f19 := blk_frozen BM.out 19; have f20 := blk_frozen BM.out 20))
        go_meet
        exact ⟨0, 0, (⟨#[]⟩ : ByteArray), (⟨#[]⟩ : ByteArray), false, 0, 0, (⟨#[]⟩ : ByteArray), (⟨#[]⟩ : ByteArray), 0, (⟨#[]⟩ : ByteArray), ([] : List ByteArray), _, _, _, _, _, _, _, _, none, 0, _, _, H, ⟨by (repeat (refine IsS110.far ?_ NGM.out _)); exact HI.out⟩, ⟨zP⟩, ⟨zP⟩, ⟨Kd.R_nil _ _ _ _ _⟩, ⟨zB⟩⟩
      rw [if_neg c9] at HBD
      have t1 : (n == 1) = false := beq_eq_false_iff_ne.mpr c1
      have t2 : (n == 2) = false := beq_eq_false_iff_ne.mpr c2
      have t3 : (n == 3) = false := beq_eq_false_iff_ne.mpr c3
      have t6 : (n == 6) = false := beq_eq_false_iff_ne.mpr c6
      have t7 : (n == 7) = false := beq_eq_false_iff_ne.mpr c7
      have t8 : (n == 8) = false := beq_eq_false_iff_ne.mpr c8
      have t9 : (n == 9) = false := beq_eq_false_iff_ne.mpr c9
      clear c1 c2 c3 c6 c7 c8 c9
      simp only [Option.some.injEq] at HBD
      subst HBD
      simp only at H
      go_wp2_with fail
      go_meet
      exact ⟨0, 0, (⟨#[]⟩ : ByteArray), (⟨#[]⟩ : ByteArray), false, 0, 0, (⟨#[]⟩ : ByteArray), (⟨#[]⟩ : ByteArray), 0, (⟨#[]⟩ : ByteArray), ([] : List ByteArray), 0, 0, 0, 0, 0, 0, 0, (⟨#[]⟩ : ByteArray), none, 0, _, _, H, ⟨by (repeat (refine IsS110.far ?_ NGM.out _)); exact HI.out⟩, ⟨zP⟩, ⟨zP⟩, ⟨Kd.R_nil _ _ _ _ _⟩, ⟨zB⟩⟩
    case rest =>
      clear HBD H HI BM BR HB q0
      obtain ⟨b1, b2, b3, b4, b5, b6, b7, b8, b9, b10, b11, b12, b13, b14, b15, b16, b17, b18, b19, b20, A, c, s, e, H, HI, BM, BR, HO, HB⟩ := hcut
      have H := H.out
      unfold wire_Read.tail at H
      obtain ⟨⟨z, s', e'⟩, AE, H⟩ := Option.bind_eq_some_iff.mp H
      have AE := Aside0.mk AE
      simp only at H
      by_cases c1 : z = 0
      · rw [if_pos c1] at H
        have t1 : (z == 0) = true := beq_iff_eq.mpr c1
        clear c1
        by_cases c2 : a0.toList = ([] : List UInt8)
        · rw [if_pos c2] at H
          have t2 : (a0.toList != ([] : List UInt8)) = false := bne_eq_false_iff_eq.mpr c2
          have c2b : (a0.toList == ([] : List UInt8)) = true := beq_iff_eq.mpr c2
          simp only [Option.some.injEq, Prod.mk.injEq] at H
          obtain ⟨rfl, rfl, rfl, rfl, rfl, rfl, rfl, rfl, rfl, rfl, rfl, rfl, rfl, rfl, rfl, rfl, rfl, rfl, rfl, rfl, rfl, rfl⟩ := H
          go_wp2_with (first | (go_at_call 38; refine Calls.mono (oct_Reader_End.calls g s e z s' e' w _ HI.out HB.out AE.out) ?_; rintro e_ w9 ⟨rfl, hi, hb, hk⟩; replace HO := Aside0.mk (Kd.R_mono (ok' := fun _ => True) (Kd.R_keep (IsS110.apart HI.out HO.out (by decide)) hk (fun _ hk_ => hk_.2)) (fun _ _ => trivial)); replace BM := Aside0.mk (hk.blk BM.out NGM.out.symm (by simp)); replace BR := Aside0.mk (hk.blk BR.out NGR.out.symm (by simp)); replace HI := Aside0.mk hi; replace HB := Aside0.mk hb; clear hi hb hk))
          go_step3
          go_wp2_with (first | ((with_reducible refine gate_store (t := 34) (p := 2) rfl ?_); refine store_ev rfl 34 (.tmp 2) (.tmp 92) rfl gr #[.int .i64 0, .int .i64 0, .int .i64 0, .string (⟨#[]⟩ : ByteArray), .string (⟨#[]⟩ : ByteArray), .bool false, .int .i64 0, .int .i64 0, .string (⟨#[]⟩ : ByteArray), .string (⟨#[]⟩ : ByteArray), .int .i64 0, .string (⟨#[]⟩ : ByteArray), .slice none 0 0, .int .i64 0, .int .i64 0, .int .i64 0, .int .i64 0, .int .i64 0, .int .i64 0, .int .i64 0, .string (⟨#[]⟩ : ByteArray)] rfl (by first | rfl | (go_simp; done) | (go_simp; rfl)) 34 _ BR.out (by kernel_rfl) rfl (by first | rfl | (simp; done) | (simp [Value.oneCell']; done)) ?_; intro wz hx1 hx2 hx3; replace BR := Aside0.mk hx1; replace HB := Aside0.mk (hx3 _ _ HB.out GR.out); clear hx1 hx2 hx3))
          (try simp only [Exit.jump])
          refine bodyPost_ret (results_ct rfl _ _ gr 34 #[.int .i64 0, .int .i64 0, .int .i64 0, .string (⟨#[]⟩ : ByteArray), .string (⟨#[]⟩ : ByteArray), .bool false, .int .i64 0, .int .i64 0, .string (⟨#[]⟩ : ByteArray), .string (⟨#[]⟩ : ByteArray), .int .i64 0, .string (⟨#[]⟩ : ByteArray), .slice none 0 0, .int .i64 0, .int .i64 0, .int .i64 0, .int .i64 0, .int .i64 0, .int .i64 0, .int .i64 0, .string (⟨#[]⟩ : ByteArray)] (0, 0) _ rfl BR.out hu34 rfl (by kernel_rfl)) rfl ?_
          exact ⟨_, rfl, Kd.R_nil _ _ _ _ _, HB.out⟩
        · rw [if_neg c2] at H
          have t2 : (a0.toList != ([] : List UInt8)) = true := bne_iff_ne.mpr c2
          have T4 := Aside0.mk c2
          have t5 : a0.toList.isEmpty = false := by simpa using c2
          obtain ⟨t, AT, H⟩ := Option.bind_eq_some_iff.mp H
          have AT := Aside0.mk AT
          by_cases c3 : t.toList = a0.toList
          · rw [if_pos c3] at H
            have t3 : (t.toList == a0.toList) = true := beq_iff_eq.mpr c3
            clear c3
            simp only [Option.some.injEq, Prod.mk.injEq] at H
            obtain ⟨rfl, rfl, rfl, rfl, rfl, rfl, rfl, rfl, rfl, rfl, rfl, rfl, rfl, rfl, rfl, rfl, rfl, rfl, rfl, rfl, rfl, rfl⟩ := H
            go_wp2_with (first | (go_at_call 38; refine Calls.mono (oct_Reader_End.calls g s e z s' e' w _ HI.out HB.out AE.out) ?_; rintro e_ w9 ⟨rfl, hi, hb, hk⟩; replace HO := Aside0.mk (Kd.R_mono (ok' := fun _ => True) (Kd.R_keep (IsS110.apart HI.out HO.out (by decide)) hk (fun _ hk_ => hk_.2)) (fun _ _ => trivial)); replace BM := Aside0.mk (hk.blk BM.out NGM.out.symm (by simp)); replace BR := Aside0.mk (hk.blk BR.out NGR.out.symm (by simp)); replace HI := Aside0.mk hi; replace HB := Aside0.mk hb; clear hi hb hk) | (go_at_call 11; refine Calls.mono (wire_Text.calls k n b1 b2 b3 b4 b5 b6 b7 b8 b9 b10 b11 A c b12 b13 b14 b15 b16 b17 b18 b19 b20 t _ (Kd.R_reads' HO.out).2.2 (Kd.R_reads' HO.out).2.1 AT.out) ?_; rintro e_ w10 ⟨rfl, hb⟩; replace HO := Aside0.mk (Kd.R_below HO.out hb); replace BM := Aside0.mk (blk_below BM.out hb); replace BR := Aside0.mk (blk_below BR.out hb); replace HB := Aside0.mk (below_step HB.out hb); clear hb) | ((with_reducible refine gate_dst (N := 86) rfl ?_); refine load_evG (by first | rfl | (go_simp; done) | (simp [Region.wanted, yielded, T4.out]; done)) 34 (.tmp 4) rfl gm rfl 34 _ (0, 0) _ BM.out hu34 rfl (by kernel_rfl) ?_) | ((with_reducible refine gate_dst (N := 91) rfl ?_); refine wpList_load_row rfl 34 (.tmp 4) rfl gm rfl 34 _ (0, 0) _ BM.out hu34 rfl (by kernel_rfl) ?_) | ((with_reducible refine gate_store (t := 34) (p := 2) rfl ?_); refine store_ev rfl 34 (.tmp 2) (.tmp 91) rfl gr #[.int .i64 n, .int .i64 b1, .int .i64 b2, .string b3, .string b4, .bool b5, .int .i64 b6, .int .i64 b7, .string b8, .string b9, .int .i64 b10, .string b11, .slice A b12.length c, .int .i64 b13, .int .i64 b14, .int .i64 b15, .int .i64 b16, .int .i64 b17, .int .i64 b18, .int .i64 b19, .string b20] rfl (by first | rfl | (go_simp; done) | (go_simp; rfl)) 34 _ BR.out (by kernel_rfl) rfl (by first | rfl | (simp; done) | (simp [Value.oneCell']; done)) ?_; intro wz hx1 hx2 hx3; replace HO : Aside0 (Kd.R Kd.string 9 wz w.heap.size (fun _ => True) (.slice A b12.length c) b12) := ⟨Kd.R_mono (Kd.R_step (Kd.R_types HO.out BR.out (by decide)) (fun k_ hk_ hl_ => wire_Read.same (fun o' ho' => hx2 k_ o' ho' hk_.2) hl_)) (fun _ _ => trivial)⟩; replace BR := Aside0.mk hx1; replace HB := Aside0.mk (hx3 _ _ HB.out GR.out); clear hx1 hx2 hx3))
            (try simp only [Exit.jump])
            refine bodyPost_ret (results_ct rfl _ _ gr 34 #[.int .i64 n, .int .i64 b1, .int .i64 b2, .string b3, .string b4, .bool b5, .int .i64 b6, .int .i64 b7, .string b8, .string b9, .int .i64 b10, .string b11, .slice A b12.length c, .int .i64 b13, .int .i64 b14, .int .i64 b15, .int .i64 b16, .int .i64 b17, .int .i64 b18, .int .i64 b19, .string b20] (0, 0) _ rfl BR.out hu34 rfl (by kernel_rfl)) rfl ?_
            exact ⟨_, rfl, HO.out, HB.out⟩
          · rw [if_neg c3] at H
            have t3 : (t.toList == a0.toList) = false := beq_eq_false_iff_ne.mpr c3
            clear c3
            simp only [Option.some.injEq, Prod.mk.injEq] at H
            obtain ⟨rfl, rfl, rfl, rfl, rfl, rfl, rfl, rfl, rfl, rfl, rfl, rfl, rfl, rfl, rfl, rfl, rfl, rfl, rfl, rfl, rfl, rfl⟩ := H
            go_wp2_with (first | (go_at_call 38; refine Calls.mono (oct_Reader_End.calls g s e z s' e' w _ HI.out HB.out AE.out) ?_; rintro e_ w9 ⟨rfl, hi, hb, hk⟩; replace HO := Aside0.mk (Kd.R_mono (ok' := fun _ => True) (Kd.R_keep (IsS110.apart HI.out HO.out (by decide)) hk (fun _ hk_ => hk_.2)) (fun _ _ => trivial)); replace BM := Aside0.mk (hk.blk BM.out NGM.out.symm (by simp)); replace BR := Aside0.mk (hk.blk BR.out NGR.out.symm (by simp)); replace HI := Aside0.mk hi; replace HB := Aside0.mk hb; clear hi hb hk) | (go_at_call 11; refine Calls.mono (wire_Text.calls k n b1 b2 b3 b4 b5 b6 b7 b8 b9 b10 b11 A c b12 b13 b14 b15 b16 b17 b18 b19 b20 t _ (Kd.R_reads' HO.out).2.2 (Kd.R_reads' HO.out).2.1 AT.out) ?_; rintro e_ w10 ⟨rfl, hb⟩; replace HO := Aside0.mk (Kd.R_below HO.out hb); replace BM := Aside0.mk (blk_below BM.out hb); replace BR := Aside0.mk (blk_below BR.out hb); replace HB := Aside0.mk (below_step HB.out hb); clear hb) | ((with_reducible refine gate_dst (N := 86) rfl ?_); refine load_evG (by first | rfl | (go_simp; done) | (simp [Region.wanted, yielded, T4.out]; done)) 34 (.tmp 4) rfl gm rfl 34 _ (0, 0) _ BM.out hu34 rfl (by kernel_rfl) ?_))
            go_step3
            go_wp2_with (first | ((with_reducible refine gate_store (t := 34) (p := 2) rfl ?_); refine store_ev rfl 34 (.tmp 2) (.tmp 92) rfl gr #[.int .i64 0, .int .i64 0, .int .i64 0, .string (⟨#[]⟩ : ByteArray), .string (⟨#[]⟩ : ByteArray), .bool false, .int .i64 0, .int .i64 0, .string (⟨#[]⟩ : ByteArray), .string (⟨#[]⟩ : ByteArray), .int .i64 0, .string (⟨#[]⟩ : ByteArray), .slice none 0 0, .int .i64 0, .int .i64 0, .int .i64 0, .int .i64 0, .int .i64 0, .int .i64 0, .int .i64 0, .string (⟨#[]⟩ : ByteArray)] rfl (by first | rfl | (go_simp; done) | (go_simp; rfl)) 34 _ BR.out (by kernel_rfl) rfl (by first | rfl | (simp; done) | (simp [Value.oneCell']; done)) ?_; intro wz hx1 hx2 hx3; replace BR := Aside0.mk hx1; replace HB := Aside0.mk (hx3 _ _ HB.out GR.out); clear hx1 hx2 hx3))
            (try simp only [Exit.jump])
            refine bodyPost_ret (results_ct rfl _ _ gr 34 #[.int .i64 0, .int .i64 0, .int .i64 0, .string (⟨#[]⟩ : ByteArray), .string (⟨#[]⟩ : ByteArray), .bool false, .int .i64 0, .int .i64 0, .string (⟨#[]⟩ : ByteArray), .string (⟨#[]⟩ : ByteArray), .int .i64 0, .string (⟨#[]⟩ : ByteArray), .slice none 0 0, .int .i64 0, .int .i64 0, .int .i64 0, .int .i64 0, .int .i64 0, .int .i64 0, .int .i64 0, .string (⟨#[]⟩ : ByteArray)] (0, 0) _ rfl BR.out hu34 rfl (by kernel_rfl)) rfl ?_
            exact ⟨_, rfl, Kd.R_nil _ _ _ _ _, HB.out⟩
      · rw [if_neg c1] at H
        have t1 : (z == 0) = false := beq_eq_false_iff_ne.mpr c1
        clear c1
        simp only [Option.some.injEq, Prod.mk.injEq] at H
        obtain ⟨rfl, rfl, rfl, rfl, rfl, rfl, rfl, rfl, rfl, rfl, rfl, rfl, rfl, rfl, rfl, rfl, rfl, rfl, rfl, rfl, rfl, rfl⟩ := H
        go_wp2_with (first | (go_at_call 38; refine Calls.mono (oct_Reader_End.calls g s e z s' e' w _ HI.out HB.out AE.out) ?_; rintro e_ w9 ⟨rfl, hi, hb, hk⟩; replace HO := Aside0.mk (Kd.R_mono (ok' := fun _ => True) (Kd.R_keep (IsS110.apart HI.out HO.out (by decide)) hk (fun _ hk_ => hk_.2)) (fun _ _ => trivial)); replace BM := Aside0.mk (hk.blk BM.out NGM.out.symm (by simp)); replace BR := Aside0.mk (hk.blk BR.out NGR.out.symm (by simp)); replace HI := Aside0.mk hi; replace HB := Aside0.mk hb; clear hi hb hk))
        go_step3
        go_wp2_with (first | ((with_reducible refine gate_store (t := 34) (p := 2) rfl ?_); refine store_ev rfl 34 (.tmp 2) (.tmp 92) rfl gr #[.int .i64 0, .int .i64 0, .int .i64 0, .string (⟨#[]⟩ : ByteArray), .string (⟨#[]⟩ : ByteArray), .bool false, .int .i64 0, .int .i64 0, .string (⟨#[]⟩ : ByteArray), .string (⟨#[]⟩ : ByteArray), .int .i64 0, .string (⟨#[]⟩ : ByteArray), .slice none 0 0, .int .i64 0, .int .i64 0, .int .i64 0, .int .i64 0, .int .i64 0, .int .i64 0, .int .i64 0, .string (⟨#[]⟩ : ByteArray)] rfl (by first | rfl | (go_simp; done) | (go_simp; rfl)) 34 _ BR.out (by kernel_rfl) rfl (by first | rfl | (simp; done) | (simp [Value.oneCell']; done)) ?_; intro wz hx1 hx2 hx3; replace BR := Aside0.mk hx1; replace HB := Aside0.mk (hx3 _ _ HB.out GR.out); clear hx1 hx2 hx3))
        (try simp only [Exit.jump])
        refine bodyPost_ret (results_ct rfl _ _ gr 34 #[.int .i64 0, .int .i64 0, .int .i64 0, .string (⟨#[]⟩ : ByteArray), .string (⟨#[]⟩ : ByteArray), .bool false, .int .i64 0, .int .i64 0, .string (⟨#[]⟩ : ByteArray), .string (⟨#[]⟩ : ByteArray), .int .i64 0, .string (⟨#[]⟩ : ByteArray), .slice none 0 0, .int .i64 0, .int .i64 0, .int .i64 0, .int .i64 0, .int .i64 0, .int .i64 0, .int .i64 0, .string (⟨#[]⟩ : ByteArray)] (0, 0) _ rfl BR.out hu34 rfl (by kernel_rfl)) rfl ?_
        exact ⟨_, rfl, Kd.R_nil _ _ _ _ _, HB.out⟩
end Go.Proofs.Ytehnebddmbdnhaa.PWireApart
