-- Written by this session's own program (wip/tools/mkprint.py) over the kit's printer, with overrides.
import Derived.Test.YtehnebddmbdnhaaTWireAparta
import Derived.Test.YtehnebddmbdnhaaRows
import Derived.Test.YtehnebddmbdnhaaQWireApartx7
import Derived.Test.YtehnebddmbdnhaaQPureWireApart
import Derived.WalkKit
import Derived.ProofKit
import Derived.OpenShut
import Derived.ShutString
import Derived.ChangeOld
import Derived.Below
import Derived.SizedLaws
namespace Go.Proofs.Ytehnebddmbdnhaa.wireApart
open Go.ChangeShapes Go.WideShapes Go.ChangeAt Go.RowKit Go.Mine Go.Proofs.Ytehnebddmbdnhaa.PWireApart Go.Proofs.YtehnebddmbdnhaaW.PrintWords Go.Proofs.YtehnebddmbdnhaaW.PrintLast Go.Proofs.YtehnebddmbdnhaaW.PrintMore
open Go.ChangeMaps (open_string shut_string)
set_option linter.unusedVariables false
theorem own : ownKnob Try.prog.godebug = none := by kernel_rfl
theorem laidOut : laidOutB Try.prog = true := by kernel_rfl
set_option maxRecDepth 100000 in
theorem opensP23 : Opens Try.prog 23 (Kd.pair (Kd.int .i64) (Kd.int .i64)) (fun x : (Int × Int) => ((Lit.int .i64 x.1).wf = true) ∧ ((Lit.int .i64 x.2).wf = true)) :=
  Opens.struct (fs := _) (OpensF.cons (Opens.int Try.underlying3) (by kernel_rfl) (by kernel_rfl) (OpensF.one (Opens.int Try.underlying3) (by kernel_rfl) (by kernel_rfl)) (by kernel_rfl)) Try.underlying23 (by kernel_rfl)
set_option maxRecDepth 100000 in
theorem opensP25 : Opens Try.prog 25 (Kd.pair (Kd.int .i64) (Kd.pair (Kd.int .i64) Kd.string)) (fun x : (Int × (Int × ByteArray)) => ((Lit.int .i64 x.1).wf = true) ∧ (((Lit.int .i64 x.2.1).wf = true) ∧ (x.2.2.size ≤ maxLen))) :=
  Opens.struct (fs := _) (OpensF.cons (Opens.int Try.underlying3) (by kernel_rfl) (by kernel_rfl) (OpensF.cons (Opens.int Try.underlying3) (by kernel_rfl) (by kernel_rfl) (OpensF.one (Opens.str Try.underlying9) (by kernel_rfl) (by kernel_rfl)) (by kernel_rfl)) (by kernel_rfl)) Try.underlying25 (by kernel_rfl)
set_option maxRecDepth 100000 in
theorem opensP28 : Opens Try.prog 28 (Kd.pair (Kd.int .i64) (Kd.int .i64)) (fun x : (Int × Int) => ((Lit.int .i64 x.1).wf = true) ∧ ((Lit.int .i64 x.2).wf = true)) :=
  Opens.struct (fs := _) (OpensF.cons (Opens.int Try.underlying3) (by kernel_rfl) (by kernel_rfl) (OpensF.one (Opens.int Try.underlying3) (by kernel_rfl) (by kernel_rfl)) (by kernel_rfl)) Try.underlying28 (by kernel_rfl)
set_option maxRecDepth 100000 in
theorem opensP30 : Opens Try.prog 30 (Kd.pair (Kd.pair (Kd.int .i64) (Kd.int .i64)) (Kd.pair (Kd.int .i64) (Kd.int .i64))) (fun x : ((Int × Int) × (Int × Int)) => (((Lit.int .i64 x.1.1).wf = true) ∧ ((Lit.int .i64 x.1.2).wf = true)) ∧ (((Lit.int .i64 x.2.1).wf = true) ∧ ((Lit.int .i64 x.2.2).wf = true))) :=
  Opens.struct (fs := _) (OpensF.cons (d := (Kd.pair (Kd.int .i64) (Kd.int .i64))) (ok := fun x : (Int × Int) => ((Lit.int .i64 x.1).wf = true) ∧ ((Lit.int .i64 x.2).wf = true)) opensP28 (by kernel_rfl) (by kernel_rfl) (OpensF.cons (Opens.int Try.underlying3) (by kernel_rfl) (by kernel_rfl) (OpensF.one (Opens.int Try.underlying3) (by kernel_rfl) (by kernel_rfl)) (by kernel_rfl)) (by kernel_rfl)) Try.underlying30 (by kernel_rfl)
set_option maxRecDepth 100000 in
theorem opensP32 : Opens Try.prog 32 (Kd.pair (Kd.int .i64) (Kd.pair (Kd.int .i64) (Kd.pair (Kd.int .i64) (Kd.pair (Kd.pair (Kd.pair (Kd.int .i64) (Kd.int .i64)) (Kd.pair (Kd.int .i64) (Kd.int .i64))) Kd.string)))) (fun x : (Int × (Int × (Int × (((Int × Int) × (Int × Int)) × ByteArray)))) => ((Lit.int .i64 x.1).wf = true) ∧ (((Lit.int .i64 x.2.1).wf = true) ∧ (((Lit.int .i64 x.2.2.1).wf = true) ∧ (((((Lit.int .i64 x.2.2.2.1.1.1).wf = true) ∧ ((Lit.int .i64 x.2.2.2.1.1.2).wf = true)) ∧ (((Lit.int .i64 x.2.2.2.1.2.1).wf = true) ∧ ((Lit.int .i64 x.2.2.2.1.2.2).wf = true))) ∧ (x.2.2.2.2.size ≤ maxLen))))) :=
  Opens.struct (fs := _) (OpensF.cons (Opens.int Try.underlying3) (by kernel_rfl) (by kernel_rfl) (OpensF.cons (Opens.int Try.underlying3) (by kernel_rfl) (by kernel_rfl) (OpensF.cons (Opens.int Try.underlying3) (by kernel_rfl) (by kernel_rfl) (OpensF.cons (d := (Kd.pair (Kd.pair (Kd.int .i64) (Kd.int .i64)) (Kd.pair (Kd.int .i64) (Kd.int .i64)))) (ok := fun x : ((Int × Int) × (Int × Int)) => (((Lit.int .i64 x.1.1).wf = true) ∧ ((Lit.int .i64 x.1.2).wf = true)) ∧ (((Lit.int .i64 x.2.1).wf = true) ∧ ((Lit.int .i64 x.2.2).wf = true))) opensP30 (by kernel_rfl) (by kernel_rfl) (OpensF.one (Opens.str Try.underlying9) (by kernel_rfl) (by kernel_rfl)) (by kernel_rfl)) (by kernel_rfl)) (by kernel_rfl)) (by kernel_rfl)) Try.underlying32 (by kernel_rfl)
set_option maxRecDepth 100000 in
theorem opensP34 : Opens Try.prog 34 (Kd.pair (Kd.int .i64) (Kd.pair (Kd.pair (Kd.int .i64) (Kd.int .i64)) (Kd.pair Kd.string (Kd.pair Kd.string (Kd.pair Kd.bool (Kd.pair (Kd.pair (Kd.int .i64) (Kd.pair (Kd.int .i64) Kd.string)) (Kd.pair Kd.string (Kd.pair (Kd.int .i64) (Kd.pair Kd.string (Kd.pair (Kd.slice 9 Kd.string) (Kd.pair (Kd.int .i64) (Kd.pair (Kd.int .i64) (Kd.pair (Kd.int .i64) (Kd.pair (Kd.pair (Kd.pair (Kd.int .i64) (Kd.int .i64)) (Kd.pair (Kd.int .i64) (Kd.int .i64))) Kd.string)))))))))))))) (fun x : (Int × ((Int × Int) × (ByteArray × (ByteArray × (Bool × ((Int × (Int × ByteArray)) × (ByteArray × (Int × (ByteArray × (List ByteArray × (Int × (Int × (Int × (((Int × Int) × (Int × Int)) × ByteArray)))))))))))))) => ((Lit.int .i64 x.1).wf = true) ∧ ((((Lit.int .i64 x.2.1.1).wf = true) ∧ ((Lit.int .i64 x.2.1.2).wf = true)) ∧ ((x.2.2.1.size ≤ maxLen) ∧ ((x.2.2.2.1.size ≤ maxLen) ∧ ((True) ∧ ((((Lit.int .i64 x.2.2.2.2.2.1.1).wf = true) ∧ (((Lit.int .i64 x.2.2.2.2.2.1.2.1).wf = true) ∧ (x.2.2.2.2.2.1.2.2.size ≤ maxLen))) ∧ ((x.2.2.2.2.2.2.1.size ≤ maxLen) ∧ (((Lit.int .i64 x.2.2.2.2.2.2.2.1).wf = true) ∧ ((x.2.2.2.2.2.2.2.2.1.size ≤ maxLen) ∧ ((x.2.2.2.2.2.2.2.2.2.1.length ≤ maxLen ∧ ∀ y0 ∈ x.2.2.2.2.2.2.2.2.2.1, y0.size ≤ maxLen) ∧ (((Lit.int .i64 x.2.2.2.2.2.2.2.2.2.2.1).wf = true) ∧ (((Lit.int .i64 x.2.2.2.2.2.2.2.2.2.2.2.1).wf = true) ∧ (((Lit.int .i64 x.2.2.2.2.2.2.2.2.2.2.2.2.1).wf = true) ∧ (((((Lit.int .i64 x.2.2.2.2.2.2.2.2.2.2.2.2.2.1.1.1).wf = true) ∧ ((Lit.int .i64 x.2.2.2.2.2.2.2.2.2.2.2.2.2.1.1.2).wf = true)) ∧ (((Lit.int .i64 x.2.2.2.2.2.2.2.2.2.2.2.2.2.1.2.1).wf = true) ∧ ((Lit.int .i64 x.2.2.2.2.2.2.2.2.2.2.2.2.2.1.2.2).wf = true))) ∧ (x.2.2.2.2.2.2.2.2.2.2.2.2.2.2.size ≤ maxLen))))))))))))))) :=
  Opens.struct (fs := _) (OpensF.cons (Opens.int Try.underlying3) (by kernel_rfl) (by kernel_rfl) (OpensF.cons (d := (Kd.pair (Kd.int .i64) (Kd.int .i64))) (ok := fun x : (Int × Int) => ((Lit.int .i64 x.1).wf = true) ∧ ((Lit.int .i64 x.2).wf = true)) opensP23 (by kernel_rfl) (by kernel_rfl) (OpensF.cons (Opens.str Try.underlying9) (by kernel_rfl) (by kernel_rfl) (OpensF.cons (Opens.str Try.underlying9) (by kernel_rfl) (by kernel_rfl) (OpensF.cons (Opens.bool Try.underlying4) (by kernel_rfl) (by kernel_rfl) (OpensF.cons (d := (Kd.pair (Kd.int .i64) (Kd.pair (Kd.int .i64) Kd.string))) (ok := fun x : (Int × (Int × ByteArray)) => ((Lit.int .i64 x.1).wf = true) ∧ (((Lit.int .i64 x.2.1).wf = true) ∧ (x.2.2.size ≤ maxLen))) opensP25 (by kernel_rfl) (by kernel_rfl) (OpensF.cons (Opens.str Try.underlying9) (by kernel_rfl) (by kernel_rfl) (OpensF.cons (Opens.int Try.underlying3) (by kernel_rfl) (by kernel_rfl) (OpensF.cons (Opens.str Try.underlying9) (by kernel_rfl) (by kernel_rfl) (OpensF.cons (Opens.slice (q := 9) (Opens.str Try.underlying9) Try.underlying26 (by kernel_rfl)) (by kernel_rfl) (by kernel_rfl) (OpensF.one (d := (Kd.pair (Kd.int .i64) (Kd.pair (Kd.int .i64) (Kd.pair (Kd.int .i64) (Kd.pair (Kd.pair (Kd.pair (Kd.int .i64) (Kd.int .i64)) (Kd.pair (Kd.int .i64) (Kd.int .i64))) Kd.string))))) (ok := fun x : (Int × (Int × (Int × (((Int × Int) × (Int × Int)) × ByteArray)))) => ((Lit.int .i64 x.1).wf = true) ∧ (((Lit.int .i64 x.2.1).wf = true) ∧ (((Lit.int .i64 x.2.2.1).wf = true) ∧ (((((Lit.int .i64 x.2.2.2.1.1.1).wf = true) ∧ ((Lit.int .i64 x.2.2.2.1.1.2).wf = true)) ∧ (((Lit.int .i64 x.2.2.2.1.2.1).wf = true) ∧ ((Lit.int .i64 x.2.2.2.1.2.2).wf = true))) ∧ (x.2.2.2.2.size ≤ maxLen))))) opensP32 (by kernel_rfl) (by kernel_rfl)) (by kernel_rfl)) (by kernel_rfl)) (by kernel_rfl)) (by kernel_rfl)) (by kernel_rfl)) (by kernel_rfl)) (by kernel_rfl)) (by kernel_rfl)) (by kernel_rfl)) (by kernel_rfl)) Try.underlying34 (by kernel_rfl)
set_option maxRecDepth 100000 in
theorem lifted (os : Os) (started : os.Started) (H : Type) (enc : TypeId × Value → H) :
    ReturnsInHanded {} Try.checked os 6 .any (Rows.wireApartSpec.pre6 enc Try.prog Try.f6 Rows.wireApartRow.domain false) (Rows.wireApartSpec.post enc Try.prog Try.f6 false true false false) := by
  refine returnsInHanded_of_change_sized (C := Try.checked) own started (by kernel_rfl) Try.func6
    (ChangeSpec.witness6 (enc := enc) (C := Try.checked) false ⟨#[], #[.agg #[.int .i64 0, .int .i64 0, .int .i64 0, .string ByteArray.empty, .string ByteArray.empty, .bool false, .int .i64 0, .int .i64 0, .string ByteArray.empty, .string ByteArray.empty, .int .i64 0, .string ByteArray.empty, .slice none 0 0, .int .i64 0, .int .i64 0, .int .i64 0, .int .i64 0, .int .i64 0, .int .i64 0, .int .i64 0, .string ByteArray.empty], .agg #[.int .i64 0, .int .i64 0, .int .i64 0, .string ByteArray.empty, .string ByteArray.empty, .bool false, .int .i64 0, .int .i64 0, .string ByteArray.empty, .string ByteArray.empty, .int .i64 0, .string ByteArray.empty, .slice none 0 0, .int .i64 0, .int .i64 0, .int .i64 0, .int .i64 0, .int .i64 0, .int .i64 0, .int .i64 0, .string ByteArray.empty]], []⟩ 8 (by kernel_rfl) (by kernel_rfl) (by kernel_rfl) (by kernel_rfl)) ?_
  intro W base args ds gs before hval0 hW hcnd hsz0 _
  have hsz : (DataW.weightsEach Try.prog (Try.f6.params.toList ++ Rows.wireApartSpec.plain.varTypes Try.prog) (ds ++ gs)).all (· ≤ reachBytes) = true := hsz0
  have hval : ∀ (j : Nat) t v, Try.f6.params[j]? = some t → args[j]? = some v → Value.okWide Try.prog W .any base t v := hval0
  have hW' := hW
  obtain ⟨p, q, hA0, hV, rfl, hfz, hnd⟩ := hW
  have hA : DataW.TrodAll enc Try.prog W 0 (fun _ => true) true Try.f6.params.toList args.toList ds p := hA0
  rw [Try.params6] at hA hval hsz
  obtain ⟨v0, vs0, d0, ds0, p0, q0, hargs, rfl, rfl, h0, r0⟩ := trodAll_cons hA
  obtain ⟨v1, vs1, d1, ds1, p1, q1, rfl, rfl, rfl, h1, r1⟩ := trodAll_cons r0
  obtain ⟨rfl, rfl, rfl⟩ := trodAll_nil r1
  obtain rfl : args = #[v0, v1] := by cases args; simp_all
  obtain ⟨rfl, rfl⟩ := trodVars_none hV
  have k0 := h0
  have lt0 : ∀ x ∈ p0, x.block < W.heap.size := by obtain ⟨m, hm⟩ := k0; exact DataW.trod_lt m _ _ _ hm
  obtain ⟨x0, cs0, rfl, hK0, ho0⟩ := Opens.agg opensP34 Try.underlying34 (hval 0 34 v0 rfl rfl) h0
  obtain ⟨_, _, rfl, rfl, ⟨_, _, rfl, ⟨_, _, rfl, rfl, rfl⟩, ⟨_, _, rfl, rfl, ⟨_, _, rfl, rfl, ⟨_, _, rfl, rfl, ⟨_, _, rfl, ⟨_, _, rfl, rfl, ⟨_, _, rfl, rfl, rfl⟩⟩, ⟨_, _, rfl, rfl, ⟨_, _, rfl, rfl, ⟨_, _, rfl, rfl, ⟨_, _, rfl, ⟨A0_12, c0_12, rfl, hc0_12, hr0_12⟩, ⟨_, _, rfl, rfl, ⟨_, _, rfl, rfl, ⟨_, _, rfl, rfl, ⟨_, _, rfl, ⟨_, _, rfl, ⟨_, _, rfl, rfl, rfl⟩, ⟨_, _, rfl, rfl, rfl⟩⟩, rfl⟩⟩⟩⟩⟩⟩⟩⟩⟩⟩⟩⟩⟩⟩ := hK0
  obtain ⟨hi0_0, ⟨hi0_1, hi0_2⟩, hs0_3, hs0_4, _, ⟨hi0_6, hi0_7, hs0_8⟩, hs0_9, hi0_10, hs0_11, ⟨hm0_12, hw0_12⟩, ⟨hi0_13, hi0_14, hi0_15, ⟨⟨hi0_16, hi0_17⟩, hi0_18, hi0_19⟩, hs0_20⟩⟩ := ho0
  have k1 := h1
  have lt1 : ∀ x ∈ p1, x.block < W.heap.size := by obtain ⟨m, hm⟩ := k1; exact DataW.trod_lt m _ _ _ hm
  obtain ⟨x1, cs1, rfl, hK1, ho1⟩ := Opens.agg opensP34 Try.underlying34 (hval 1 34 v1 rfl rfl) h1
  obtain ⟨_, _, rfl, rfl, ⟨_, _, rfl, ⟨_, _, rfl, rfl, rfl⟩, ⟨_, _, rfl, rfl, ⟨_, _, rfl, rfl, ⟨_, _, rfl, rfl, ⟨_, _, rfl, ⟨_, _, rfl, rfl, ⟨_, _, rfl, rfl, rfl⟩⟩, ⟨_, _, rfl, rfl, ⟨_, _, rfl, rfl, ⟨_, _, rfl, rfl, ⟨_, _, rfl, ⟨A1_12, c1_12, rfl, hc1_12, hr1_12⟩, ⟨_, _, rfl, rfl, ⟨_, _, rfl, rfl, ⟨_, _, rfl, rfl, ⟨_, _, rfl, ⟨_, _, rfl, ⟨_, _, rfl, rfl, rfl⟩, ⟨_, _, rfl, rfl, rfl⟩⟩, rfl⟩⟩⟩⟩⟩⟩⟩⟩⟩⟩⟩⟩⟩⟩ := hK1
  obtain ⟨hi1_0, ⟨hi1_1, hi1_2⟩, hs1_3, hs1_4, _, ⟨hi1_6, hi1_7, hs1_8⟩, hs1_9, hi1_10, hs1_11, ⟨hm1_12, hw1_12⟩, ⟨hi1_13, hi1_14, hi1_15, ⟨⟨hi1_16, hi1_17⟩, hi1_18, hi1_19⟩, hs1_20⟩⟩ := ho1
  clear hA0 hval0 hsz0 hsz
  refine (PWireApart.mosaiclaw16_WireApart.walk Pure.WireApart (x0.1) (x0.2.1.1) (x0.2.1.2) (x0.2.2.1) (x0.2.2.2.1) (x0.2.2.2.2.1) (x0.2.2.2.2.2.1.1) (x0.2.2.2.2.2.1.2.1) (x0.2.2.2.2.2.1.2.2) (x0.2.2.2.2.2.2.1) (x0.2.2.2.2.2.2.2.1) (x0.2.2.2.2.2.2.2.2.1) A0_12 c0_12 (x0.2.2.2.2.2.2.2.2.2.1) (x0.2.2.2.2.2.2.2.2.2.2.1) (x0.2.2.2.2.2.2.2.2.2.2.2.1) (x0.2.2.2.2.2.2.2.2.2.2.2.2.1) (x0.2.2.2.2.2.2.2.2.2.2.2.2.2.1.1.1) (x0.2.2.2.2.2.2.2.2.2.2.2.2.2.1.1.2) (x0.2.2.2.2.2.2.2.2.2.2.2.2.2.1.2.1) (x0.2.2.2.2.2.2.2.2.2.2.2.2.2.1.2.2) (x0.2.2.2.2.2.2.2.2.2.2.2.2.2.2) (x1.1) (x1.2.1.1) (x1.2.1.2) (x1.2.2.1) (x1.2.2.2.1) (x1.2.2.2.2.1) (x1.2.2.2.2.2.1.1) (x1.2.2.2.2.2.1.2.1) (x1.2.2.2.2.2.1.2.2) (x1.2.2.2.2.2.2.1) (x1.2.2.2.2.2.2.2.1) (x1.2.2.2.2.2.2.2.2.1) A1_12 c1_12 (x1.2.2.2.2.2.2.2.2.2.1) (x1.2.2.2.2.2.2.2.2.2.2.1) (x1.2.2.2.2.2.2.2.2.2.2.2.1) (x1.2.2.2.2.2.2.2.2.2.2.2.2.1) (x1.2.2.2.2.2.2.2.2.2.2.2.2.2.1.1.1) (x1.2.2.2.2.2.2.2.2.2.2.2.2.2.1.1.2) (x1.2.2.2.2.2.2.2.2.2.2.2.2.2.1.2.1) (x1.2.2.2.2.2.2.2.2.2.2.2.2.2.1.2.2) (x1.2.2.2.2.2.2.2.2.2.2.2.2.2.2) W hr0_12 hc0_12 hr1_12 hc1_12 hi0_0 hi0_1 hi0_2 hs0_3 hs0_4 hi0_6 hi0_7 hs0_8 hs0_9 hi0_10 hs0_11 hm0_12 hw0_12 hi0_13 hi0_14 hi0_15 hi0_16 hi0_17 hi0_18 hi0_19 hs0_20 hi1_0 hi1_1 hi1_2 hs1_3 hs1_4 hi1_6 hi1_7 hs1_8 hs1_9 hi1_10 hs1_11 hm1_12 hw1_12 hi1_13 hi1_14 hi1_15 hi1_16 hi1_17 hi1_18 hi1_19 hs1_20).mono fun e W' ⟨he, bel⟩ => ?_
  subst he
  exact ⟨_, rfl, _, _, _, [], _, [], hW', trodAll_mk1 (shut_bool Try.underlying4 _), (trodAll_cons_mk (Below.trod laidOut (by kernel_rfl) (of_decide_eq_true (by kernel_rfl)) k0 bel lt0) (trodAll_cons_mk (Below.trod laidOut (by kernel_rfl) (of_decide_eq_true (by kernel_rfl)) k1 bel lt1) trodAll_mk0)), rfl, bel.frame _, fun h => by cases h⟩
theorem over : Rows.wireApartRow.holds Try.pinned (OpenSpec.ofChange Rows.wireApartSpec) :=
  OpenClaim.holds_of_wide 6 Try.f6 rfl rfl rfl rfl rfl rfl rfl ⟨rfl, rfl, rfl, rfl, rfl⟩ rfl rfl rfl rfl rfl (by kernel_rfl) Try.func6 (by kernel_rfl)
    (of_decide_eq_true (by kernel_rfl)) (by unfold Func.isWrapper; first | (rw [if_pos (by decide +kernel)]; kernel_rfl) | (rw [if_neg (by decide +kernel)]; exact ⟨rfl, rfl⟩))
    (fun os started H enc _ => lifted os started H enc)
theorem proved : Rows.WireApartSaid := over
#print axioms proved
end Go.Proofs.Ytehnebddmbdnhaa.wireApart
namespace Go.Proofs.Ytehnebddmbdnhaa
/-- The row, under a short name, for the claim. -/
theorem wireApart_holds : Rows.WireApartSaid := wireApart.proved
end Go.Proofs.Ytehnebddmbdnhaa
