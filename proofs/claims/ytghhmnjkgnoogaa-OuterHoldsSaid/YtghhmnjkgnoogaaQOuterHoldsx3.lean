-- Written by this session's own program (wip/tools/mkprint.py) over the kit's printer, with overrides.
import Derived.Test.YtghhmnjkgnoogaaTOuterHoldsa
import Derived.Test.YtghhmnjkgnoogaaQOuterHoldsx0
import Derived.Test.YtghhmnjkgnoogaaQOuterHoldsx1
import Derived.Test.YtghhmnjkgnoogaaQOuterHoldsx2
namespace Go.Proofs.Ytghhmnjkgnoogaa.POuterHolds
open Go.RowKit Go.Mine Go.Proofs.YtghhmnjkgnoogaaW.PrintWords Go.Proofs.YtghhmnjkgnoogaaW.PrintLast Go.Proofs.YtghhmnjkgnoogaaW.PrintMore
attribute [local go_sem] max2_int min2_int max_two min_two max_three min_three max_four min_four   -- for this text's walks alone
set_option linter.unusedVariables false
set_option linter.unusedSimpArgs false
/-! ### sha_Hash_Sum: function 97 -/
theorem sha_Hash_Sum.stepRow {P : Program} {ops : Array Oper} {o : Oper} {a : Act} {w : World} {K : Act → World → Prop} {Q : Exit → Act → World → Prop} {E : Prop} (hg : o.guard = none) (sl x : Operand) (t : TypeId)
    (ho : o.op = .call { callee := .builtin .append, args := #[sl, x], argTypes := #[t, t] }) (base : Nat) (e : TypeId) (ht : P.underlying t = some (.slice e))
    (hinfo : (P.info? e).map (fun i => (i.zero, i.size, i.bytes)) = some (some (.int .u8 0), 1, 1)) (v : Value) (xs : List Int) (A : Option Addr) (c : Nat) (ys : List Int) (hs : a.eval sl = v) (hx : a.eval x = .slice A ys.length c)
    (hown : w.ownsRow base e 1 v xs.length (nums .u8 xs)) (hr : ReadsInt w .u8 A ys.length ys) (hA : A = none → c = 0) (hl : xs.length + ys.length ≤ 140737488355328) (hbase : base ≤ w.heap.size)
    (h : ∀ v1 w1, w1.ownsRow base e 1 v1 (xs ++ ys).length (nums .u8 (xs ++ ys)) → w.grownBy w1 v.ownBlock → K (a.put o.dst v1) w1) :
    if Region.wanted o (yielded ops a.tmps) = true then Oper.wp P o a w K Q else E := by
  have hw : Region.wanted o (yielded ops a.tmps) = true := by simp [Region.wanted, hg]
  rw [if_pos hw]
  obtain ⟨i0, hi, hzz⟩ := Option.map_eq_some_iff.1 hinfo
  simp only [Prod.mk.injEq] at hzz
  obtain ⟨hz0, hz1, hz2⟩ := hzz
  have hk : ∃ v' w', (Builtin.append_ #[t, t] o.type #[v, .slice A ys.length c]).run P w = .ok v' w' ∧ w'.ownsRow base e 1 v' (xs ++ ys).length (nums .u8 (xs ++ ys)) ∧ w.grownBy w' v.ownBlock := by
    rw [nums_append, List.length_append]
    cases A with
    | none =>
      have h0 : ys = [] := by
        cases ys with
        | nil => rfl
        | cons y ys => obtain ⟨ad, he, _⟩ := hr.2.2 (by simp); cases he
      subst h0
      have := hA rfl
      subst this
      refine ⟨v, w, run_append_owned_none (P := P) w base t o.type e i0 1 ht hi v xs.length (nums .u8 xs) hown, ?_, ⟨rfl, rfl, rfl, Nat.le_refl _, fun _ _ _ => rfl⟩⟩
      simpa [nums] using hown
    | some ad =>
      obtain ⟨v', w', hr1, h2, h3, _⟩ := run_append_own (P := P) w base t o.type e i0 (.int .u8 0) 1 1 ht hi hz0 hz1 hz2 rfl (by decide) v xs.length (nums .u8 xs) hown ad ys.length c (nums .u8 ys) (by simp [nums])
        (fun j u hj => by
          have hj' : j < ys.length := by simpa [nums] using (List.getElem?_eq_some_iff.1 hj).1
          obtain ⟨ad', he, hc⟩ := hr.2.2 (by omega)
          cases he
          rw [hc j hj']
          have e1 : (nums .u8 ys)[j]? = some (Value.int .u8 (ys.getD j 0)) := by simp [nums, List.getD, List.getElem?_eq_getElem hj']
          rw [← e1]; exact hj.symm ▸ rfl)
        (fun u hu => by
          simp only [nums, List.mem_map] at hu
          obtain ⟨y, _, rfl⟩ := hu
          rfl) (by simp only [maxLen]; omega) (by omega) hbase
      exact ⟨v', w', hr1, h2, h3⟩
  obtain ⟨v', w', hr', h2, h3⟩ := hk
  unfold Oper.wp execOp
  simp only [ho, resolve, invoke, builtin, Sem.run_bind, Sem.run_pure, Result.andThen_ok, List.map_toArray, List.map_cons, List.map_nil, hs, hx, hr']
  exact h v' w' h2 h3
theorem sha_Hash_Sum.mixE (t0 t1 t2 t3 t4 t5 t6 t7 : Int) (A0 : Option Addr) (c0 : Nat) (b : List Int) (hb : b.length = 64) (w : World) (hr : Kd.C (Kd.int .u8) w A0 64 b) (hc : 64 ≤ c0) :
    Calls Try.prog 99 #[.agg #[.int .u32 t0, .int .u32 t1, .int .u32 t2, .int .u32 t3, .int .u32 t4, .int .u32 t5, .int .u32 t6, .int .u32 t7], .slice A0 64 c0] w fun e w' => ∃ m0 m1 m2 m3 m4 m5 m6 m7 : Int, e = .returned (.agg #[.int .u32 m0, .int .u32 m1, .int .u32 m2, .int .u32 m3, .int .u32 m4, .int .u32 m5, .int .u32 m6, .int .u32 m7]) ∧ mixW [t0, t1, t2, t3, t4, t5, t6, t7] b = [m0, m1, m2, m3, m4, m5, m6, m7] ∧ Below w.heap.size w w' := by
  have h := sha_mix.gives t0 t1 t2 t3 t4 t5 t6 t7 A0 c0 b hb w (by rw [hb]; exact hr) (by rw [hb]; exact hc)
  rw [hb] at h
  obtain ⟨m0, m1, m2, m3, m4, m5, m6, m7, hm⟩ := eight (mixW [t0, t1, t2, t3, t4, t5, t6, t7] b) (mixW_length _ _)
  rw [hm] at h
  refine h.mono ?_
  rintro e w' ⟨rfl, hb'⟩
  exact ⟨m0, m1, m2, m3, m4, m5, m6, m7, rfl, hm, hb'⟩
set_option maxRecDepth 100000 in
set_option maxHeartbeats 4000000 in
theorem sha_Hash_Sum.gives (B g n : Nat) (t0 t1 t2 t3 t4 t5 t6 t7 : Int) (p : List Int) (v : Value) (w : World) (hg : w.heap[g]? = some (.cells #[.int .u32 t0, .int .u32 t1, .int .u32 t2, .int .u32 t3, .int .u32 t4, .int .u32 t5, .int .u32 t6, .int .u32 t7, v, .int .i64 n] 141 (0, 0))) (hn : n ≤ 65536) (hp : p.length < 64) (hown : w.ownsRow B 5 1 v p.length (nums .u8 p)) (hB : B ≤ g) (kp : Nat) (pd : ByteArray) (hpad : sha_Pad.f kp (n : Int) = some pd) (hpl : pd.size ≤ 1000) (hmod : (p ++ bytesOf pd).length % 64 = 0) :
    Calls Try.prog 97 #[.pointer (some ⟨g, 0, none⟩)] w fun e w' => e = .returned (.string (hsumS [t0, t1, t2, t3, t4, t5, t6, t7] p pd)) ∧ Below w.heap.size w w' := by
  obtain ⟨R, hR⟩ : ∃ R, hsumS [t0, t1, t2, t3, t4, t5, t6, t7] p pd = R := ⟨_, rfl⟩
  rw [hR]
  have HRR := Aside0.mk hR
  have HMOD := Aside0.mk hmod
  clear hR hmod
  obtain ⟨ao, cap, rfl⟩ := own_is_slice hown
  have e0 : w.cell? ⟨g, 0, none⟩ = some (.int .u32 t0) := (blk_cell hg 0).trans rfl
  have e1 : w.cell? ⟨g, 1, none⟩ = some (.int .u32 t1) := (blk_cell hg 1).trans rfl
  have e2 : w.cell? ⟨g, 2, none⟩ = some (.int .u32 t2) := (blk_cell hg 2).trans rfl
  have e3 : w.cell? ⟨g, 3, none⟩ = some (.int .u32 t3) := (blk_cell hg 3).trans rfl
  have e4 : w.cell? ⟨g, 4, none⟩ = some (.int .u32 t4) := (blk_cell hg 4).trans rfl
  have e5 : w.cell? ⟨g, 5, none⟩ = some (.int .u32 t5) := (blk_cell hg 5).trans rfl
  have e6 : w.cell? ⟨g, 6, none⟩ = some (.int .u32 t6) := (blk_cell hg 6).trans rfl
  have e7 : w.cell? ⟨g, 7, none⟩ = some (.int .u32 t7) := (blk_cell hg 7).trans rfl
  have HG := Aside0.mk hg
  have HOWN := Aside0.mk hown
  have HP := Aside0.mk hp
  have HLT : Aside0 (g < w.heap.size) := ⟨(Array.getElem?_eq_some_iff.1 hg).1⟩
  clear hg hown hp
  go_enter Try.func97, Try.ntmps97
  go_wp2_with fail
  have HXb : Aside0 ((w.alloc (.cells #[.int .u32 t0, .int .u32 t1, .int .u32 t2, .int .u32 t3, .int .u32 t4, .int .u32 t5, .int .u32 t6, .int .u32 t7] 138)).heap[w.heap.size]? = some (.cells #[.int .u32 t0, .int .u32 t1, .int .u32 t2, .int .u32 t3, .int .u32 t4, .int .u32 t5, .int .u32 t6, .int .u32 t7] 138 (0, 0))) := ⟨heap_alloc_new _ _⟩
  have HGb : Aside0 ((w.alloc (.cells #[.int .u32 t0, .int .u32 t1, .int .u32 t2, .int .u32 t3, .int .u32 t4, .int .u32 t5, .int .u32 t6, .int .u32 t7] 138)).heap[g]? = some (.cells #[.int .u32 t0, .int .u32 t1, .int .u32 t2, .int .u32 t3, .int .u32 t4, .int .u32 t5, .int .u32 t6, .int .u32 t7, .slice ao p.length cap, .int .i64 n] 141 (0, 0))) := ⟨(heap_alloc_old _ _ HLT.out).trans HG.out⟩
  have HOb : Aside0 ((w.alloc (.cells #[.int .u32 t0, .int .u32 t1, .int .u32 t2, .int .u32 t3, .int .u32 t4, .int .u32 t5, .int .u32 t6, .int .u32 t7] 138)).ownsRow B 5 1 (.slice ao p.length cap) p.length (nums .u8 p)) := ⟨own_move HOWN.out fun k hk => heap_alloc_old _ _ (own_lt HOWN.out k hk)⟩
  have HBb : Aside0 (Below w.heap.size w (w.alloc (.cells #[.int .u32 t0, .int .u32 t1, .int .u32 t2, .int .u32 t3, .int .u32 t4, .int .u32 t5, .int .u32 t6, .int .u32 t7] 138))) := ⟨below_alloc (Below.refl _ _) _⟩
  have HLb : Aside0 (w.heap.size < (w.alloc (.cells #[.int .u32 t0, .int .u32 t1, .int .u32 t2, .int .u32 t3, .int .u32 t4, .int .u32 t5, .int .u32 t6, .int .u32 t7] 138)).heap.size) := ⟨(Array.getElem?_eq_some_iff.1 HXb.out).1⟩
  clear e0 e1 e2 e3 e4 e5 e6 e7
  generalize w.alloc (.cells #[.int .u32 t0, .int .u32 t1, .int .u32 t2, .int .u32 t3, .int .u32 t4, .int .u32 t5, .int .u32 t6, .int .u32 t7] 138) = wa at *
  have c8 : wa.cell? ⟨g, 8, none⟩ = some (.slice ao p.length cap) := (blk_cell HGb.out 8).trans rfl
  have c9 : wa.cell? ⟨g, 9, none⟩ = some (.int .i64 n) := (blk_cell HGb.out 9).trans rfl
  have HPAD := Aside0.mk hpad
  have HPL := Aside0.mk hpl
  clear hpad hpl
  have HE : Aside0 ((wa.alloc (.cells #[] 5)).ownsRow w.heap.size 5 1 (.slice (some ⟨wa.heap.size, 0, none⟩) 0 0) 0 (nums .u8 [])) := ⟨⟨rfl, Or.inr ⟨wa.heap.size, 0, #[], rfl, Nat.le_of_lt HLb.out, heap_alloc_new _ _, Nat.le_refl _, by decide, rfl, rfl⟩⟩⟩
  have HGc : Aside0 ((wa.alloc (.cells #[] 5)).heap[g]? = some (.cells #[.int .u32 t0, .int .u32 t1, .int .u32 t2, .int .u32 t3, .int .u32 t4, .int .u32 t5, .int .u32 t6, .int .u32 t7, .slice ao p.length cap, .int .i64 n] 141 (0, 0))) := ⟨(heap_alloc_old _ _ (Array.getElem?_eq_some_iff.1 HGb.out).1).trans HGb.out⟩
  have HOc : Aside0 ((wa.alloc (.cells #[] 5)).ownsRow B 5 1 (.slice ao p.length cap) p.length (nums .u8 p)) := ⟨own_move HOb.out fun k hk => heap_alloc_old _ _ (own_lt HOb.out k hk)⟩
  have HAc : Aside0 (ao = none → cap = 0) := ⟨by
    rintro rfl
    rcases HOb.out.2 with ⟨h1, _⟩ | ⟨g1, c1, cu, h1, _⟩
    · injection h1
    · injection h1 with h2
      cases h2⟩
  have HXc : Aside0 ((wa.alloc (.cells #[] 5)).heap[w.heap.size]? = some (.cells #[.int .u32 t0, .int .u32 t1, .int .u32 t2, .int .u32 t3, .int .u32 t4, .int .u32 t5, .int .u32 t6, .int .u32 t7] 138 (0, 0))) := ⟨(heap_alloc_old _ _ HLb.out).trans HXb.out⟩
  have HWc : Aside0 (Below w.heap.size w (wa.alloc (.cells #[] 5))) := ⟨below_alloc HBb.out _⟩
  have HSE : Aside0 (w.heap.size ≤ (wa.alloc (.cells #[] 5)).heap.size) := ⟨Nat.le_trans (Nat.le_of_lt HLb.out) (below_alloc (Below.refl wa.heap.size wa) _).size⟩
  have d8 : (wa.alloc (.cells #[] 5)).cell? ⟨g, 8, none⟩ = some (.slice ao p.length cap) := (blk_cell HGc.out 8).trans rfl
  have d9 : (wa.alloc (.cells #[] 5)).cell? ⟨g, 9, none⟩ = some (.int .i64 n) := (blk_cell HGc.out 9).trans rfl
  rename_i Q' K hK
  have TAIL : ∀ (a1 : Option Addr) (c1 : Nat) (v3 : Value) (w3 : World), w3.ownsRow w.heap.size 5 1 v3 (p ++ bytesOf pd).length (nums .u8 (p ++ bytesOf pd)) → w3.heap[w.heap.size]? = some (.cells #[.int .u32 t0, .int .u32 t1, .int .u32 t2, .int .u32 t3, .int .u32 t4, .int .u32 t5, .int .u32 t6, .int .u32 t7] 138 (0, 0)) → Below w.heap.size w w3 → K { tmps := #[(.pointer (some ⟨g, 0, none⟩) : Value), undef, .string ⟨#[]⟩, .pointer (some ⟨w.heap.size, 0, none⟩), v3, undef, undef, undef, (.pointer (some ⟨g, 0, none⟩) : Value), .bool false, (.pointer (some ⟨g, 0, none⟩) : Value), (.pointer (some ⟨g, 0, none⟩) : Value), (.pointer (some ⟨g, 0, none⟩) : Value), .agg #[.int .u32 t0, .int .u32 t1, .int .u32 t2, .int .u32 t3, .int .u32 t4, .int .u32 t5, .int .u32 t6, .int .u32 t7], .slice (some ⟨wa.heap.size, 0, none⟩) 0 0, (.pointer (some ⟨g, 0, none⟩) : Value), (.pointer (some ⟨g, 0, none⟩) : Value), .pointer (some ⟨g, 8, none⟩), .slice ao p.length cap, .slice a1 p.length c1, (.pointer (some ⟨g, 0, none⟩) : Value), (.pointer (some ⟨g, 0, none⟩) : Value), .pointer (some ⟨g, 9, none⟩), .int .i64 n, .string pd, v3, undef, undef, undef, undef, undef, undef, undef, undef, undef, undef, undef, undef, undef, undef, undef, undef, undef, undef, undef, undef, undef, undef, undef, undef, undef, undef, undef, undef, undef, undef], defers := [] } w3 := by
    intro a1 c1 v3 w3 ho hx hb
    apply hK
    clear hK
    obtain ⟨l, hl⟩ : ∃ l, p ++ bytesOf pd = l := ⟨_, rfl⟩
    rw [hl] at ho
    obtain ⟨a3, c3, rfl⟩ := own_is_slice ho
    have HCL : Aside0 (l.length ≤ c3) := ⟨own_cap_le ho⟩
    have hne := own_ne_blk ho hx (by decide)
    have HC : Aside0 (Kd.F (Kd.int .u8) w3 (fun k => k ≠ w.heap.size) a3 l.length l) := ⟨Kd.V_F (Kd.R_V (base' := 0) (Kd.R_of_own (enc := Value.int .u8) (h1 := fun _ => rfl) ho (fun k hk e => hne (by rw [hk, e]))))⟩
    have HX := Aside0.mk hx
    have HW := Aside0.mk hb
    have HLE : Aside0 (l.length = 64 * (l.length / 64)) := ⟨by have h1 := HMOD.out; rw [hl] at h1; omega⟩
    obtain ⟨F, hF⟩ : ∃ F, foldW (l.length / 64) [t0, t1, t2, t3, t4, t5, t6, t7] l = F := ⟨_, rfl⟩
    have HF := Aside0.mk hF
    have HRF : Aside0 (strOfNums (outW F) = R) := ⟨by rw [← HRR.out, hsumS, hl, hF]⟩
    clear ho hx hb hl hne hF HE HGc HOc HAc HXc HWc HSE d8 d9 c8 c9 HXb HGb HOb HBb HLb HPAD HPL HOWN HG HLT HP HMOD HRR
    go_wp2_with fail
    go_loopg [4] (l.length / 64) (fun gg v4 wr => ∃ (a : Option Addr) (c : Nat) (l : List Int) (t0 t1 t2 t3 t4 t5 t6 t7 : Int), v4 = .slice a l.length c ∧ Aside0 (l.length = 64 * gg) ∧ Aside0 (l.length ≤ c) ∧ Aside0 (Kd.F (Kd.int .u8) wr (fun k => k ≠ w.heap.size) a l.length l) ∧ Aside0 (wr.heap[w.heap.size]? = some (.cells #[.int .u32 t0, .int .u32 t1, .int .u32 t2, .int .u32 t3, .int .u32 t4, .int .u32 t5, .int .u32 t6, .int .u32 t7] 138 (0, 0))) ∧ Aside0 (foldW gg [t0, t1, t2, t3, t4, t5, t6, t7] l = F) ∧ Aside0 (Below w.heap.size w wr))
    case atStart => exact ⟨a3, c3, l, _, _, _, _, _, _, _, _, rfl, HLE, HCL, HC, HX, HF, HW⟩
    case round =>
      clear HLE HCL HC HX HF HW
      obtain ⟨a, c, l, t0, t1, t2, t3, t4, t5, t6, t7, rfl, HLE, HCL, HC, HX, HF, HW⟩ := hrel
      have e0 : wr.cell? ⟨w.heap.size, 0, none⟩ = some (.int .u32 t0) := (blk_cell HX.out 0).trans rfl
      have e1 : wr.cell? ⟨w.heap.size, 1, none⟩ = some (.int .u32 t1) := (blk_cell HX.out 1).trans rfl
      have e2 : wr.cell? ⟨w.heap.size, 2, none⟩ = some (.int .u32 t2) := (blk_cell HX.out 2).trans rfl
      have e3 : wr.cell? ⟨w.heap.size, 3, none⟩ = some (.int .u32 t3) := (blk_cell HX.out 3).trans rfl
      have e4 : wr.cell? ⟨w.heap.size, 4, none⟩ = some (.int .u32 t4) := (blk_cell HX.out 4).trans rfl
      have e5 : wr.cell? ⟨w.heap.size, 5, none⟩ = some (.int .u32 t5) := (blk_cell HX.out 5).trans rfl
      have e6 : wr.cell? ⟨w.heap.size, 6, none⟩ = some (.int .u32 t6) := (blk_cell HX.out 6).trans rfl
      have e7 : wr.cell? ⟨w.heap.size, 7, none⟩ = some (.int .u32 t7) := (blk_cell HX.out 7).trans rfl
      cases gk with
      | zero =>
        obtain rfl : l = [] := List.eq_nil_of_length_eq_zero (by have := HLE.out; omega)
        have hF : [t0, t1, t2, t3, t4, t5, t6, t7] = F := HF.out
        subst hF
        clear HF HC HCL HLE HX
        go_wp2_with fail
        clear e0 e1 e2 e3 e4 e5 e6 e7
        go_loopg [5, 7, 36] 8 (fun gg v5 v7 v36 wr => ∃ k : Nat, v36 = .int .i64 k ∧ Aside0 (k + gg = 8) ∧ Aside0 (wr.ownsRow w.heap.size 5 1 v5 (outW ([t0, t1, t2, t3, t4, t5, t6, t7].take k)).length (nums .u8 (outW ([t0, t1, t2, t3, t4, t5, t6, t7].take k)))) ∧ Aside0 (Below w.heap.size w wr))
        case atStart => exact ⟨0, rfl, ⟨rfl⟩, ⟨own_nil _ _ _ _⟩, HW⟩
        case round =>
          obtain ⟨k, rfl, HK, HO, HB⟩ := hrel
          clear HW
          obtain hk | hk | hk | hk | hk | hk | hk | hk | hk : k = 0 ∨ k = 1 ∨ k = 2 ∨ k = 3 ∨ k = 4 ∨ k = 5 ∨ k = 6 ∨ k = 7 ∨ k = 8 := by have := HK.out; omega
          · subst hk
            obtain ⟨xs, hxs⟩ : ∃ xs, outW ([t0, t1, t2, t3, t4, t5, t6, t7].take 0) = xs := ⟨_, rfl⟩
            have HO2 := HO.out
            rw [hxs] at HO2
            obtain ⟨A5, c5, rfl⟩ := own_slice HO2
            have HOX := Aside0.mk HO2
            have HXL : Aside0 (xs.length ≤ 32) := ⟨by rw [← hxs, outW_length]; simp⟩
            have HXS := Aside0.mk hxs
            clear HO HO2 hxs
            rw [show ((0 : Nat) : Int) = 0 from rfl]
            have hix : ∀ W : World, (Instr.index 138 (.agg #[.int .u32 t0, .int .u32 t1, .int .u32 t2, .int .u32 t3, .int .u32 t4, .int .u32 t5, .int .u32 t6, .int .u32 t7]) (.int .i64 0)).run Try.prog W = .ok (.int .u32 t0) W := fun W => run_index_word 138 102 #[.int .u32 t0, .int .u32 t1, .int .u32 t2, .int .u32 t3, .int .u32 t4, .int .u32 t5, .int .u32 t6, .int .u32 t7] .i64 0 _ Try.underlying138 Try.underlying102 (by kernel_rfl) rfl W
            have HB4 := Aside0.mk (below_alloc HB.out (.cells (nums .u8 [t0 / 16777216 % 256, t0 / 65536 % 256, t0 / 256 % 256, t0 % 256]).toArray 5))
            have HLE : Aside0 (w.heap.size ≤ (wr.alloc (.cells (nums .u8 [t0 / 16777216 % 256, t0 / 65536 % 256, t0 / 256 % 256, t0 % 256]).toArray 5)).heap.size) := ⟨HB4.out.size⟩
            have HRD := Aside0.mk (own_reads' (own_lit wr w.heap.size 5 .u8 [t0 / 16777216 % 256, t0 / 65536 % 256, t0 / 256 % 256, t0 % 256] HB.out.size (by simp)))
            go_wp2_with ((with_reducible refine gate_builtin (b := .append) (xs := #[.tmp 39, .tmp 51]) rfl ?_); at_builtin; refine print_append_row (w0 := w) w.heap.size rfl (.tmp 39) (.tmp 51) 39 5 .u8 1 rfl Try.underlying39 info5 (by decide) (.slice A5 xs.length c5) xs [t0 / 16777216 % 256, t0 / 65536 % 256, t0 / 256 % 256, t0 % 256] _ 4 4 rfl rfl (own_alloc HOX.out _) HRD.out HB4.out HLE.out ?a1 ?_; (case a1 => have := HXL.out; omega); intro v1 w1 ho1 hb1 hg1 hat1; have HO9 := Aside0.mk ho1; have HB9 := Aside0.mk hb1; clear ho1 hb1 hg1 hat1)
            try go_wp2_with fail
            clear hix
            go_roundg 7
            case measure => have := HK.out; omega
            case rel => exact ⟨1, rfl, ⟨rfl⟩, ⟨by have h1 := HO9.out; rw [← HXS.out] at h1; exact h1⟩, HB9⟩
          · subst hk
            obtain ⟨xs, hxs⟩ : ∃ xs, outW ([t0, t1, t2, t3, t4, t5, t6, t7].take 1) = xs := ⟨_, rfl⟩
            have HO2 := HO.out
            rw [hxs] at HO2
            obtain ⟨A5, c5, rfl⟩ := own_slice HO2
            have HOX := Aside0.mk HO2
            have HXL : Aside0 (xs.length ≤ 32) := ⟨by rw [← hxs, outW_length]; simp⟩
            have HXS := Aside0.mk hxs
            clear HO HO2 hxs
            rw [show ((1 : Nat) : Int) = 1 from rfl]
            have hix : ∀ W : World, (Instr.index 138 (.agg #[.int .u32 t0, .int .u32 t1, .int .u32 t2, .int .u32 t3, .int .u32 t4, .int .u32 t5, .int .u32 t6, .int .u32 t7]) (.int .i64 1)).run Try.prog W = .ok (.int .u32 t1) W := fun W => run_index_word 138 102 #[.int .u32 t0, .int .u32 t1, .int .u32 t2, .int .u32 t3, .int .u32 t4, .int .u32 t5, .int .u32 t6, .int .u32 t7] .i64 1 _ Try.underlying138 Try.underlying102 (by kernel_rfl) rfl W
            have HB4 := Aside0.mk (below_alloc HB.out (.cells (nums .u8 [t1 / 16777216 % 256, t1 / 65536 % 256, t1 / 256 % 256, t1 % 256]).toArray 5))
            have HLE : Aside0 (w.heap.size ≤ (wr.alloc (.cells (nums .u8 [t1 / 16777216 % 256, t1 / 65536 % 256, t1 / 256 % 256, t1 % 256]).toArray 5)).heap.size) := ⟨HB4.out.size⟩
            have HRD := Aside0.mk (own_reads' (own_lit wr w.heap.size 5 .u8 [t1 / 16777216 % 256, t1 / 65536 % 256, t1 / 256 % 256, t1 % 256] HB.out.size (by simp)))
            go_wp2_with ((with_reducible refine gate_builtin (b := .append) (xs := #[.tmp 39, .tmp 51]) rfl ?_); at_builtin; refine print_append_row (w0 := w) w.heap.size rfl (.tmp 39) (.tmp 51) 39 5 .u8 1 rfl Try.underlying39 info5 (by decide) (.slice A5 xs.length c5) xs [t1 / 16777216 % 256, t1 / 65536 % 256, t1 / 256 % 256, t1 % 256] _ 4 4 rfl rfl (own_alloc HOX.out _) HRD.out HB4.out HLE.out ?a1 ?_; (case a1 => have := HXL.out; omega); intro v1 w1 ho1 hb1 hg1 hat1; have HO9 := Aside0.mk ho1; have HB9 := Aside0.mk hb1; clear ho1 hb1 hg1 hat1)
            try go_wp2_with fail
            clear hix
            go_roundg 6
            case measure => have := HK.out; omega
            case rel => exact ⟨2, rfl, ⟨rfl⟩, ⟨by have h1 := HO9.out; rw [← HXS.out] at h1; exact h1⟩, HB9⟩
          · subst hk
            obtain ⟨xs, hxs⟩ : ∃ xs, outW ([t0, t1, t2, t3, t4, t5, t6, t7].take 2) = xs := ⟨_, rfl⟩
            have HO2 := HO.out
            rw [hxs] at HO2
            obtain ⟨A5, c5, rfl⟩ := own_slice HO2
            have HOX := Aside0.mk HO2
            have HXL : Aside0 (xs.length ≤ 32) := ⟨by rw [← hxs, outW_length]; simp⟩
            have HXS := Aside0.mk hxs
            clear HO HO2 hxs
            rw [show ((2 : Nat) : Int) = 2 from rfl]
            have hix : ∀ W : World, (Instr.index 138 (.agg #[.int .u32 t0, .int .u32 t1, .int .u32 t2, .int .u32 t3, .int .u32 t4, .int .u32 t5, .int .u32 t6, .int .u32 t7]) (.int .i64 2)).run Try.prog W = .ok (.int .u32 t2) W := fun W => run_index_word 138 102 #[.int .u32 t0, .int .u32 t1, .int .u32 t2, .int .u32 t3, .int .u32 t4, .int .u32 t5, .int .u32 t6, .int .u32 t7] .i64 2 _ Try.underlying138 Try.underlying102 (by kernel_rfl) rfl W
            have HB4 := Aside0.mk (below_alloc HB.out (.cells (nums .u8 [t2 / 16777216 % 256, t2 / 65536 % 256, t2 / 256 % 256, t2 % 256]).toArray 5))
            have HLE : Aside0 (w.heap.size ≤ (wr.alloc (.cells (nums .u8 [t2 / 16777216 % 256, t2 / 65536 % 256, t2 / 256 % 256, t2 % 256]).toArray 5)).heap.size) := ⟨HB4.out.size⟩
            have HRD := Aside0.mk (own_reads' (own_lit wr w.heap.size 5 .u8 [t2 / 16777216 % 256, t2 / 65536 % 256, t2 / 256 % 256, t2 % 256] HB.out.size (by simp)))
            go_wp2_with ((with_reducible refine gate_builtin (b := .append) (xs := #[.tmp 39, .tmp 51]) rfl ?_); at_builtin; refine print_append_row (w0 := w) w.heap.size rfl (.tmp 39) (.tmp 51) 39 5 .u8 1 rfl Try.underlying39 info5 (by decide) (.slice A5 xs.length c5) xs [t2 / 16777216 % 256, t2 / 65536 % 256, t2 / 256 % 256, t2 % 256] _ 4 4 rfl rfl (own_alloc HOX.out _) HRD.out HB4.out HLE.out ?a1 ?_; (case a1 => have := HXL.out; omega); intro v1 w1 ho1 hb1 hg1 hat1; have HO9 := Aside0.mk ho1; have HB9 := Aside0.mk hb1; clear ho1 hb1 hg1 hat1)
            try go_wp2_with fail
            clear hix
            go_roundg 5
            case measure => have := HK.out; omega
            case rel => exact ⟨3, rfl, ⟨rfl⟩, ⟨by have h1 := HO9.out; rw [← HXS.out] at h1; exact h1⟩, HB9⟩
          · subst hk
            obtain ⟨xs, hxs⟩ : ∃ xs, outW ([t0, t1, t2, t3, t4, t5, t6, t7].take 3) = xs := ⟨_, rfl⟩
            have HO2 := HO.out
            rw [hxs] at HO2
            obtain ⟨A5, c5, rfl⟩ := own_slice HO2
            have HOX := Aside0.mk HO2
            have HXL : Aside0 (xs.length ≤ 32) := ⟨by rw [← hxs, outW_length]; simp⟩
            have HXS := Aside0.mk hxs
            clear HO HO2 hxs
            rw [show ((3 : Nat) : Int) = 3 from rfl]
            have hix : ∀ W : World, (Instr.index 138 (.agg #[.int .u32 t0, .int .u32 t1, .int .u32 t2, .int .u32 t3, .int .u32 t4, .int .u32 t5, .int .u32 t6, .int .u32 t7]) (.int .i64 3)).run Try.prog W = .ok (.int .u32 t3) W := fun W => run_index_word 138 102 #[.int .u32 t0, .int .u32 t1, .int .u32 t2, .int .u32 t3, .int .u32 t4, .int .u32 t5, .int .u32 t6, .int .u32 t7] .i64 3 _ Try.underlying138 Try.underlying102 (by kernel_rfl) rfl W
            have HB4 := Aside0.mk (below_alloc HB.out (.cells (nums .u8 [t3 / 16777216 % 256, t3 / 65536 % 256, t3 / 256 % 256, t3 % 256]).toArray 5))
            have HLE : Aside0 (w.heap.size ≤ (wr.alloc (.cells (nums .u8 [t3 / 16777216 % 256, t3 / 65536 % 256, t3 / 256 % 256, t3 % 256]).toArray 5)).heap.size) := ⟨HB4.out.size⟩
            have HRD := Aside0.mk (own_reads' (own_lit wr w.heap.size 5 .u8 [t3 / 16777216 % 256, t3 / 65536 % 256, t3 / 256 % 256, t3 % 256] HB.out.size (by simp)))
            go_wp2_with ((with_reducible refine gate_builtin (b := .append) (xs := #[.tmp 39, .tmp 51]) rfl ?_); at_builtin; refine print_append_row (w0 := w) w.heap.size rfl (.tmp 39) (.tmp 51) 39 5 .u8 1 rfl Try.underlying39 info5 (by decide) (.slice A5 xs.length c5) xs [t3 / 16777216 % 256, t3 / 65536 % 256, t3 / 256 % 256, t3 % 256] _ 4 4 rfl rfl (own_alloc HOX.out _) HRD.out HB4.out HLE.out ?a1 ?_; (case a1 => have := HXL.out; omega); intro v1 w1 ho1 hb1 hg1 hat1; have HO9 := Aside0.mk ho1; have HB9 := Aside0.mk hb1; clear ho1 hb1 hg1 hat1)
            try go_wp2_with fail
            clear hix
            go_roundg 4
            case measure => have := HK.out; omega
            case rel => exact ⟨4, rfl, ⟨rfl⟩, ⟨by have h1 := HO9.out; rw [← HXS.out] at h1; exact h1⟩, HB9⟩
          · subst hk
            obtain ⟨xs, hxs⟩ : ∃ xs, outW ([t0, t1, t2, t3, t4, t5, t6, t7].take 4) = xs := ⟨_, rfl⟩
            have HO2 := HO.out
            rw [hxs] at HO2
            obtain ⟨A5, c5, rfl⟩ := own_slice HO2
            have HOX := Aside0.mk HO2
            have HXL : Aside0 (xs.length ≤ 32) := ⟨by rw [← hxs, outW_length]; simp⟩
            have HXS := Aside0.mk hxs
            clear HO HO2 hxs
            rw [show ((4 : Nat) : Int) = 4 from rfl]
            have hix : ∀ W : World, (Instr.index 138 (.agg #[.int .u32 t0, .int .u32 t1, .int .u32 t2, .int .u32 t3, .int .u32 t4, .int .u32 t5, .int .u32 t6, .int .u32 t7]) (.int .i64 4)).run Try.prog W = .ok (.int .u32 t4) W := fun W => run_index_word 138 102 #[.int .u32 t0, .int .u32 t1, .int .u32 t2, .int .u32 t3, .int .u32 t4, .int .u32 t5, .int .u32 t6, .int .u32 t7] .i64 4 _ Try.underlying138 Try.underlying102 (by kernel_rfl) rfl W
            have HB4 := Aside0.mk (below_alloc HB.out (.cells (nums .u8 [t4 / 16777216 % 256, t4 / 65536 % 256, t4 / 256 % 256, t4 % 256]).toArray 5))
            have HLE : Aside0 (w.heap.size ≤ (wr.alloc (.cells (nums .u8 [t4 / 16777216 % 256, t4 / 65536 % 256, t4 / 256 % 256, t4 % 256]).toArray 5)).heap.size) := ⟨HB4.out.size⟩
            have HRD := Aside0.mk (own_reads' (own_lit wr w.heap.size 5 .u8 [t4 / 16777216 % 256, t4 / 65536 % 256, t4 / 256 % 256, t4 % 256] HB.out.size (by simp)))
            go_wp2_with ((with_reducible refine gate_builtin (b := .append) (xs := #[.tmp 39, .tmp 51]) rfl ?_); at_builtin; refine print_append_row (w0 := w) w.heap.size rfl (.tmp 39) (.tmp 51) 39 5 .u8 1 rfl Try.underlying39 info5 (by decide) (.slice A5 xs.length c5) xs [t4 / 16777216 % 256, t4 / 65536 % 256, t4 / 256 % 256, t4 % 256] _ 4 4 rfl rfl (own_alloc HOX.out _) HRD.out HB4.out HLE.out ?a1 ?_; (case a1 => have := HXL.out; omega); intro v1 w1 ho1 hb1 hg1 hat1; have HO9 := Aside0.mk ho1; have HB9 := Aside0.mk hb1; clear ho1 hb1 hg1 hat1)
            try go_wp2_with fail
            clear hix
            go_roundg 3
            case measure => have := HK.out; omega
            case rel => exact ⟨5, rfl, ⟨rfl⟩, ⟨by have h1 := HO9.out; rw [← HXS.out] at h1; exact h1⟩, HB9⟩
          · subst hk
            obtain ⟨xs, hxs⟩ : ∃ xs, outW ([t0, t1, t2, t3, t4, t5, t6, t7].take 5) = xs := ⟨_, rfl⟩
            have HO2 := HO.out
            rw [hxs] at HO2
            obtain ⟨A5, c5, rfl⟩ := own_slice HO2
            have HOX := Aside0.mk HO2
            have HXL : Aside0 (xs.length ≤ 32) := ⟨by rw [← hxs, outW_length]; simp⟩
            have HXS := Aside0.mk hxs
            clear HO HO2 hxs
            rw [show ((5 : Nat) : Int) = 5 from rfl]
            have hix : ∀ W : World, (Instr.index 138 (.agg #[.int .u32 t0, .int .u32 t1, .int .u32 t2, .int .u32 t3, .int .u32 t4, .int .u32 t5, .int .u32 t6, .int .u32 t7]) (.int .i64 5)).run Try.prog W = .ok (.int .u32 t5) W := fun W => run_index_word 138 102 #[.int .u32 t0, .int .u32 t1, .int .u32 t2, .int .u32 t3, .int .u32 t4, .int .u32 t5, .int .u32 t6, .int .u32 t7] .i64 5 _ Try.underlying138 Try.underlying102 (by kernel_rfl) rfl W
            have HB4 := Aside0.mk (below_alloc HB.out (.cells (nums .u8 [t5 / 16777216 % 256, t5 / 65536 % 256, t5 / 256 % 256, t5 % 256]).toArray 5))
            have HLE : Aside0 (w.heap.size ≤ (wr.alloc (.cells (nums .u8 [t5 / 16777216 % 256, t5 / 65536 % 256, t5 / 256 % 256, t5 % 256]).toArray 5)).heap.size) := ⟨HB4.out.size⟩
            have HRD := Aside0.mk (own_reads' (own_lit wr w.heap.size 5 .u8 [t5 / 16777216 % 256, t5 / 65536 % 256, t5 / 256 % 256, t5 % 256] HB.out.size (by simp)))
            go_wp2_with ((with_reducible refine gate_builtin (b := .append) (xs := #[.tmp 39, .tmp 51]) rfl ?_); at_builtin; refine print_append_row (w0 := w) w.heap.size rfl (.tmp 39) (.tmp 51) 39 5 .u8 1 rfl Try.underlying39 info5 (by decide) (.slice A5 xs.length c5) xs [t5 / 16777216 % 256, t5 / 65536 % 256, t5 / 256 % 256, t5 % 256] _ 4 4 rfl rfl (own_alloc HOX.out _) HRD.out HB4.out HLE.out ?a1 ?_; (case a1 => have := HXL.out; omega); intro v1 w1 ho1 hb1 hg1 hat1; have HO9 := Aside0.mk ho1; have HB9 := Aside0.mk hb1; clear ho1 hb1 hg1 hat1)
            try go_wp2_with fail
            clear hix
            go_roundg 2
            case measure => have := HK.out; omega
            case rel => exact ⟨6, rfl, ⟨rfl⟩, ⟨by have h1 := HO9.out; rw [← HXS.out] at h1; exact h1⟩, HB9⟩
          · subst hk
            obtain ⟨xs, hxs⟩ : ∃ xs, outW ([t0, t1, t2, t3, t4, t5, t6, t7].take 6) = xs := ⟨_, rfl⟩
            have HO2 := HO.out
            rw [hxs] at HO2
            obtain ⟨A5, c5, rfl⟩ := own_slice HO2
            have HOX := Aside0.mk HO2
            have HXL : Aside0 (xs.length ≤ 32) := ⟨by rw [← hxs, outW_length]; simp⟩
            have HXS := Aside0.mk hxs
            clear HO HO2 hxs
            rw [show ((6 : Nat) : Int) = 6 from rfl]
            have hix : ∀ W : World, (Instr.index 138 (.agg #[.int .u32 t0, .int .u32 t1, .int .u32 t2, .int .u32 t3, .int .u32 t4, .int .u32 t5, .int .u32 t6, .int .u32 t7]) (.int .i64 6)).run Try.prog W = .ok (.int .u32 t6) W := fun W => run_index_word 138 102 #[.int .u32 t0, .int .u32 t1, .int .u32 t2, .int .u32 t3, .int .u32 t4, .int .u32 t5, .int .u32 t6, .int .u32 t7] .i64 6 _ Try.underlying138 Try.underlying102 (by kernel_rfl) rfl W
            have HB4 := Aside0.mk (below_alloc HB.out (.cells (nums .u8 [t6 / 16777216 % 256, t6 / 65536 % 256, t6 / 256 % 256, t6 % 256]).toArray 5))
            have HLE : Aside0 (w.heap.size ≤ (wr.alloc (.cells (nums .u8 [t6 / 16777216 % 256, t6 / 65536 % 256, t6 / 256 % 256, t6 % 256]).toArray 5)).heap.size) := ⟨HB4.out.size⟩
            have HRD := Aside0.mk (own_reads' (own_lit wr w.heap.size 5 .u8 [t6 / 16777216 % 256, t6 / 65536 % 256, t6 / 256 % 256, t6 % 256] HB.out.size (by simp)))
            go_wp2_with ((with_reducible refine gate_builtin (b := .append) (xs := #[.tmp 39, .tmp 51]) rfl ?_); at_builtin; refine print_append_row (w0 := w) w.heap.size rfl (.tmp 39) (.tmp 51) 39 5 .u8 1 rfl Try.underlying39 info5 (by decide) (.slice A5 xs.length c5) xs [t6 / 16777216 % 256, t6 / 65536 % 256, t6 / 256 % 256, t6 % 256] _ 4 4 rfl rfl (own_alloc HOX.out _) HRD.out HB4.out HLE.out ?a1 ?_; (case a1 => have := HXL.out; omega); intro v1 w1 ho1 hb1 hg1 hat1; have HO9 := Aside0.mk ho1; have HB9 := Aside0.mk hb1; clear ho1 hb1 hg1 hat1)
            try go_wp2_with fail
            clear hix
            go_roundg 1
            case measure => have := HK.out; omega
            case rel => exact ⟨7, rfl, ⟨rfl⟩, ⟨by have h1 := HO9.out; rw [← HXS.out] at h1; exact h1⟩, HB9⟩
          · subst hk
            obtain ⟨xs, hxs⟩ : ∃ xs, outW ([t0, t1, t2, t3, t4, t5, t6, t7].take 7) = xs := ⟨_, rfl⟩
            have HO2 := HO.out
            rw [hxs] at HO2
            obtain ⟨A5, c5, rfl⟩ := own_slice HO2
            have HOX := Aside0.mk HO2
            have HXL : Aside0 (xs.length ≤ 32) := ⟨by rw [← hxs, outW_length]; simp⟩
            have HXS := Aside0.mk hxs
            clear HO HO2 hxs
            rw [show ((7 : Nat) : Int) = 7 from rfl]
            have hix : ∀ W : World, (Instr.index 138 (.agg #[.int .u32 t0, .int .u32 t1, .int .u32 t2, .int .u32 t3, .int .u32 t4, .int .u32 t5, .int .u32 t6, .int .u32 t7]) (.int .i64 7)).run Try.prog W = .ok (.int .u32 t7) W := fun W => run_index_word 138 102 #[.int .u32 t0, .int .u32 t1, .int .u32 t2, .int .u32 t3, .int .u32 t4, .int .u32 t5, .int .u32 t6, .int .u32 t7] .i64 7 _ Try.underlying138 Try.underlying102 (by kernel_rfl) rfl W
            have HB4 := Aside0.mk (below_alloc HB.out (.cells (nums .u8 [t7 / 16777216 % 256, t7 / 65536 % 256, t7 / 256 % 256, t7 % 256]).toArray 5))
            have HLE : Aside0 (w.heap.size ≤ (wr.alloc (.cells (nums .u8 [t7 / 16777216 % 256, t7 / 65536 % 256, t7 / 256 % 256, t7 % 256]).toArray 5)).heap.size) := ⟨HB4.out.size⟩
            have HRD := Aside0.mk (own_reads' (own_lit wr w.heap.size 5 .u8 [t7 / 16777216 % 256, t7 / 65536 % 256, t7 / 256 % 256, t7 % 256] HB.out.size (by simp)))
            go_wp2_with ((with_reducible refine gate_builtin (b := .append) (xs := #[.tmp 39, .tmp 51]) rfl ?_); at_builtin; refine print_append_row (w0 := w) w.heap.size rfl (.tmp 39) (.tmp 51) 39 5 .u8 1 rfl Try.underlying39 info5 (by decide) (.slice A5 xs.length c5) xs [t7 / 16777216 % 256, t7 / 65536 % 256, t7 / 256 % 256, t7 % 256] _ 4 4 rfl rfl (own_alloc HOX.out _) HRD.out HB4.out HLE.out ?a1 ?_; (case a1 => have := HXL.out; omega); intro v1 w1 ho1 hb1 hg1 hat1; have HO9 := Aside0.mk ho1; have HB9 := Aside0.mk hb1; clear ho1 hb1 hg1 hat1)
            try go_wp2_with fail
            clear hix
            go_roundg 0
            case measure => have := HK.out; omega
            case rel => exact ⟨8, rfl, ⟨rfl⟩, ⟨by have h1 := HO9.out; rw [← HXS.out] at h1; exact h1⟩, HB9⟩
          · subst hk
            rw [show ((8 : Nat) : Int) = 8 from rfl]
            have hcv := own_string (P := Try.prog) (src := 39) (dst := 9) Try.underlying39 Try.underlying5 Try.underlying9 HO.out
            rw [show outW ([t0, t1, t2, t3, t4, t5, t6, t7].take 8) = outW [t0, t1, t2, t3, t4, t5, t6, t7] from rfl, HRF.out] at hcv
            go_wp2_with fail
            go_ret
            exact ⟨rfl, HB.out⟩
      | succ d =>
        obtain ⟨n1, hn1⟩ : ∃ n1, l.length = n1 := ⟨_, rfl⟩
        have LEN := Aside0.mk hn1
        have hm : 64 ≤ n1 := by have := HLE.out; omega
        have h64 : (64 : Int) ≤ (n1 : Int) := by omega
        have hpos : (0 : Int) < (n1 : Int) := by omega
        have hcn : 64 ≤ c := by have := HCL.out; omega
        have hcz : (64 : Int) ≤ (c : Int) := by omega
        have hnc : (n1 : Int) ≤ (c : Int) := by have := HCL.out; omega
        rw [hn1]
        clear hn1
        obtain ⟨i0, hi, hzz⟩ := Option.map_eq_some_iff.1 info5
        simp only [Prod.mk.injEq] at hzz
        obtain ⟨A', hcut, hA⟩ := cut_F (P := Try.prog) 39 5 .i64 Try.underlying39 hi hzz.2.1 a n1 c 64 hm
        have HA := Aside0.mk hA
        have hcut2 : ∀ W : World, (Instr.slice 39 (.slice a n1 c) (some (.int .i64 64)) none none).run Try.prog W = .ok (.slice A' (n1 - 64) (c - 64)) W := hcut
        obtain ⟨b, hb⟩ : ∃ b, l.take 64 = b := ⟨_, rfl⟩
        have HBL : Aside0 (b.length = 64) := ⟨by rw [← hb, List.length_take, LEN.out]; omega⟩
        have HB64 : Aside0 (Kd.C (Kd.int .u8) wr a 64 b) := ⟨by have h1 := Kd.C_take (m := 64) (Kd.F_now HC.out) (by rw [LEN.out]; exact hm); rw [hb, HBL.out] at h1; exact h1⟩
        have HBT := Aside0.mk hb
        clear hb hA hcut hi hzz hm
        go_wp2_with fail
        go_region_with (go_at_call 99; refine (sha_Hash_Sum.mixE _ _ _ _ _ _ _ _ a c b HBL.out _ (by first | exact HB64.out | exact Kd.C_below HB64.out (Below.drew (Below.refl _ _)) | exact Kd.C_below HB64.out (pw_below_drewN (Below.refl _ _) _)) hcn).mono ?_; rintro e w4 ⟨m0, m1, m2, m3, m4, m5, m6, m7, rfl, hm, hb4⟩; have HM := Aside0.mk hm; have HX4 : Aside0 (w4.heap[w.heap.size]? = some (.cells #[.int .u32 t0, .int .u32 t1, .int .u32 t2, .int .u32 t3, .int .u32 t4, .int .u32 t5, .int .u32 t6, .int .u32 t7] 138 (0, 0))) := ⟨by first | exact blk_below HX.out hb4 | exact blk_below (blk_drew HX.out) hb4 | exact blk_below (blk_drew (blk_drew HX.out)) hb4⟩; have HC4 : Aside0 (Kd.F (Kd.int .u8) w4 (fun k => k ≠ w.heap.size) a l.length l) := ⟨by first | exact Kd.F_below HC.out hb4 | exact Kd.F_below (Kd.F_drew HC.out) hb4 | exact Kd.F_below (Kd.F_drew (Kd.F_drew HC.out)) hb4⟩; have HW4 : Aside0 (Below w.heap.size w w4) := ⟨by first | exact below_step HW.out hb4 | exact below_step (below_drew HW.out) hb4 | exact below_step (below_drew (below_drew HW.out)) hb4⟩; clear hm hb4; have k0 : w4.cell? ⟨w.heap.size, 0, none⟩ = some (.int .u32 t0) := (blk_cell HX4.out 0).trans rfl; have z0 := blk_frozen HX4.out 0; have k1 : w4.cell? ⟨w.heap.size, 1, none⟩ = some (.int .u32 t1) := (blk_cell HX4.out 1).trans rfl; have z1 := blk_frozen HX4.out 1; have k2 : w4.cell? ⟨w.heap.size, 2, none⟩ = some (.int .u32 t2) := (blk_cell HX4.out 2).trans rfl; have z2 := blk_frozen HX4.out 2; have k3 : w4.cell? ⟨w.heap.size, 3, none⟩ = some (.int .u32 t3) := (blk_cell HX4.out 3).trans rfl; have z3 := blk_frozen HX4.out 3; have k4 : w4.cell? ⟨w.heap.size, 4, none⟩ = some (.int .u32 t4) := (blk_cell HX4.out 4).trans rfl; have z4 := blk_frozen HX4.out 4; have k5 : w4.cell? ⟨w.heap.size, 5, none⟩ = some (.int .u32 t5) := (blk_cell HX4.out 5).trans rfl; have z5 := blk_frozen HX4.out 5; have k6 : w4.cell? ⟨w.heap.size, 6, none⟩ = some (.int .u32 t6) := (blk_cell HX4.out 6).trans rfl; have z6 := blk_frozen HX4.out 6; have k7 : w4.cell? ⟨w.heap.size, 7, none⟩ = some (.int .u32 t7) := (blk_cell HX4.out 7).trans rfl; have z7 := blk_frozen HX4.out 7)
        all_goals
          have bp0 := blk_put (cs' := #[.int .u32 m0, .int .u32 t1, .int .u32 t2, .int .u32 t3, .int .u32 t4, .int .u32 t5, .int .u32 t6, .int .u32 t7]) HX4.out 0 (.int .u32 m0) rfl
          have bp1 := blk_put (cs' := #[.int .u32 m0, .int .u32 m1, .int .u32 t2, .int .u32 t3, .int .u32 t4, .int .u32 t5, .int .u32 t6, .int .u32 t7]) bp0 1 (.int .u32 m1) rfl
          have bp2 := blk_put (cs' := #[.int .u32 m0, .int .u32 m1, .int .u32 m2, .int .u32 t3, .int .u32 t4, .int .u32 t5, .int .u32 t6, .int .u32 t7]) bp1 2 (.int .u32 m2) rfl
          have bp3 := blk_put (cs' := #[.int .u32 m0, .int .u32 m1, .int .u32 m2, .int .u32 m3, .int .u32 t4, .int .u32 t5, .int .u32 t6, .int .u32 t7]) bp2 3 (.int .u32 m3) rfl
          have bp4 := blk_put (cs' := #[.int .u32 m0, .int .u32 m1, .int .u32 m2, .int .u32 m3, .int .u32 m4, .int .u32 t5, .int .u32 t6, .int .u32 t7]) bp3 4 (.int .u32 m4) rfl
          have bp5 := blk_put (cs' := #[.int .u32 m0, .int .u32 m1, .int .u32 m2, .int .u32 m3, .int .u32 m4, .int .u32 m5, .int .u32 t6, .int .u32 t7]) bp4 5 (.int .u32 m5) rfl
          have bp6 := blk_put (cs' := #[.int .u32 m0, .int .u32 m1, .int .u32 m2, .int .u32 m3, .int .u32 m4, .int .u32 m5, .int .u32 m6, .int .u32 t7]) bp5 6 (.int .u32 m6) rfl
          have bp7 := blk_put (cs' := #[.int .u32 m0, .int .u32 m1, .int .u32 m2, .int .u32 m3, .int .u32 m4, .int .u32 m5, .int .u32 m6, .int .u32 m7]) bp6 7 (.int .u32 m7) rfl
          have HX5 := Aside0.mk bp7
          clear bp0 bp1 bp2 bp3 bp4 bp5 bp6 bp7
          have HC5 := Aside0.mk (Kd.F_far (Kd.F_far (Kd.F_far (Kd.F_far (Kd.F_far (Kd.F_far (Kd.F_far (Kd.F_far HC4.out (p := ⟨w.heap.size, 0, none⟩) (fun k hk => hk) (.int .u32 m0)) (p := ⟨w.heap.size, 1, none⟩) (fun k hk => hk) (.int .u32 m1)) (p := ⟨w.heap.size, 2, none⟩) (fun k hk => hk) (.int .u32 m2)) (p := ⟨w.heap.size, 3, none⟩) (fun k hk => hk) (.int .u32 m3)) (p := ⟨w.heap.size, 4, none⟩) (fun k hk => hk) (.int .u32 m4)) (p := ⟨w.heap.size, 5, none⟩) (fun k hk => hk) (.int .u32 m5)) (p := ⟨w.heap.size, 6, none⟩) (fun k hk => hk) (.int .u32 m6)) (p := ⟨w.heap.size, 7, none⟩) (fun k hk => hk) (.int .u32 m7))
          have HW5 := Aside0.mk ((below_set (below_set (below_set (below_set (below_set (below_set (below_set (below_set HW4.out (Nat.le_refl _)) (Nat.le_refl _)) (Nat.le_refl _)) (Nat.le_refl _)) (Nat.le_refl _)) (Nat.le_refl _)) (Nat.le_refl _)) (Nat.le_refl _)) : Below w.heap.size w (((((((((w4.setCell ⟨w.heap.size, 0, none⟩ (.int .u32 m0)).setCell ⟨w.heap.size, 1, none⟩ (.int .u32 m1)).setCell ⟨w.heap.size, 2, none⟩ (.int .u32 m2)).setCell ⟨w.heap.size, 3, none⟩ (.int .u32 m3)).setCell ⟨w.heap.size, 4, none⟩ (.int .u32 m4)).setCell ⟨w.heap.size, 5, none⟩ (.int .u32 m5)).setCell ⟨w.heap.size, 6, none⟩ (.int .u32 m6)).setCell ⟨w.heap.size, 7, none⟩ (.int .u32 m7))))
          clear HX4 HC4 HW4 k0 z0 k1 z1 k2 z2 k3 z3 k4 z4 k5 z5 k6 z6 k7 z7
          generalize ((((((((w4.setCell ⟨w.heap.size, 0, none⟩ (.int .u32 m0)).setCell ⟨w.heap.size, 1, none⟩ (.int .u32 m1)).setCell ⟨w.heap.size, 2, none⟩ (.int .u32 m2)).setCell ⟨w.heap.size, 3, none⟩ (.int .u32 m3)).setCell ⟨w.heap.size, 4, none⟩ (.int .u32 m4)).setCell ⟨w.heap.size, 5, none⟩ (.int .u32 m5)).setCell ⟨w.heap.size, 6, none⟩ (.int .u32 m6)).setCell ⟨w.heap.size, 7, none⟩ (.int .u32 m7)) = w5 at *
          go_wp2_with fail
          go_roundg d
          case measure => exact Nat.lt_succ_self _
          case rel => exact ⟨A', c - 64, l.drop 64, m0, m1, m2, m3, m4, m5, m6, m7, by rw [List.length_drop, LEN.out], ⟨by have h1 := HLE.out; rw [List.length_drop]; omega⟩, ⟨by have h1 := HCL.out; rw [List.length_drop]; omega⟩, ⟨by have h1 := HA.out w5 _ l (by have h2 := HCL.out; have h3 := LEN.out; omega) (by rw [← LEN.out]; exact HC5.out); rw [List.length_drop, LEN.out]; exact h1⟩, HX5, ⟨by have h1 := HF.out; rw [foldW, HBT.out, HM.out] at h1; exact h1⟩, HW5⟩
  go_region_law (first
    | (refine sha_Hash_Sum.stepRow rfl (.tmp 14) (.tmp 18) 39 rfl w.heap.size 5 Try.underlying39 info5 (.slice (some ⟨wa.heap.size, 0, none⟩) 0 0) [] ao cap p rfl rfl HE.out (own_reads' HOc.out) HAc.out ?l1 ?l2 ?_; (case l1 => have := HP.out; simp; omega); (case l2 => exact HSE.out); intro v1 w1 ho1 hg1; rw [List.nil_append] at ho1; obtain ⟨a1, c1, rfl⟩ := own_is_slice ho1; have HO1 := Aside0.mk ho1; have HG1 := Aside0.mk hg1; have HGd := Aside0.mk ((hg1.block g (Array.getElem?_eq_some_iff.1 HGc.out).1 (own_ne_blk HE.out HGc.out (by decide))).trans HGc.out); have d9b : w1.cell? ⟨g, 9, none⟩ = some (.int .i64 n) := (blk_cell HGd.out 9).trans rfl; have HX1 := Aside0.mk ((hg1.block w.heap.size (Array.getElem?_eq_some_iff.1 HXc.out).1 (own_ne_blk HE.out HXc.out (by decide))).trans HXc.out); have HW1 : Aside0 (Below w.heap.size w w1) := ⟨by first | exact HWc.out.grown hg1 HSE.out (fun k hk => own_base HE.out k hk) | exact (Below.drew HWc.out).grown hg1 HSE.out (fun k hk => own_base HE.out k hk) | exact (Below.drew (Below.drew HWc.out)).grown hg1 HSE.out (fun k hk => own_base HE.out k hk) | exact (Below.drew (Below.drew (Below.drew HWc.out))).grown hg1 HSE.out (fun k hk => own_base HE.out k hk)⟩; have HS1 := Aside0.mk (Nat.le_trans HSE.out hg1.size); clear ho1 hg1)
    | (go_simp; go_at_call 100; refine (sha_Pad.calls kp (n : Int) pd _ HPAD.out).mono ?_; rintro e w2 ⟨rfl, hb2⟩; have HO2 : Aside0 (w2.ownsRow w.heap.size 5 1 (.slice a1 p.length c1) p.length (nums .u8 p)) := ⟨own_move HO1.out fun k hk => hb2.block k (own_lt HO1.out k hk)⟩; have HX2 := Aside0.mk ((hb2.block w.heap.size (Array.getElem?_eq_some_iff.1 HX1.out).1).trans HX1.out); have HW2 : Aside0 (Below w.heap.size w w2) := ⟨by first | exact HW1.out.trans (hb2.mono HS1.out) | exact (Below.drew HW1.out).trans (hb2.mono HS1.out) | exact (Below.drew (Below.drew HW1.out)).trans (hb2.mono HS1.out) | exact (Below.drew (Below.drew (Below.drew HW1.out))).trans (hb2.mono HS1.out)⟩; have HS2 := Aside0.mk (Nat.le_trans HS1.out hb2.size); clear hb2)
    | (refine step_append_str rfl (.tmp 19) (.tmp 24) 39 9 rfl w.heap.size 5 Try.underlying39 Try.underlying9 info5 (.slice a1 p.length c1) p pd rfl rfl HO2.out ?l3 HS2.out ?_; (case l3 => have := HP.out; have := HPL.out; omega); intro v3 w3 ho3 hg3; have HO3 := Aside0.mk ho3; have HX3 := Aside0.mk ((hg3.block w.heap.size (Array.getElem?_eq_some_iff.1 HX2.out).1 (own_ne_blk HO2.out HX2.out (by decide))).trans HX2.out); have HW3 : Aside0 (Below w.heap.size w w3) := ⟨by first | exact HW2.out.grown hg3 HS2.out (fun k hk => own_base HO2.out k hk) | exact (Below.drew HW2.out).grown hg3 HS2.out (fun k hk => own_base HO2.out k hk) | exact (Below.drew (Below.drew HW2.out)).grown hg3 HS2.out (fun k hk => own_base HO2.out k hk) | exact (Below.drew (Below.drew (Below.drew HW2.out))).grown hg3 HS2.out (fun k hk => own_base HO2.out k hk)⟩; clear ho3 hg3))
  all_goals exact TAIL _ _ _ _ HO3.out HX3.out HW3.out
/-! ### sha_Sum: function 93 -/
/-- The state and the part behind the first bytes. -/
def sha_Sum.go (s : ByteArray) : List Int × List Int := hashGo (s.size + 1) shaStart [] s
def sha_Sum.f (k : Nat) (s : ByteArray) : Option ByteArray :=
  if 65536 < s.size then some ⟨#[]⟩ else (sha_Pad.f k (s.size : Int)).bind fun pd => if pd.size ≤ 1000 ∧ ((sha_Sum.go s).2 ++ bytesOf pd).length % 64 = 0 then some (hsumS (sha_Sum.go s).1 (sha_Sum.go s).2 pd) else none
theorem sha_Sum.mono : ∀ a0 k, LeO (sha_Sum.f k a0) (sha_Sum.f (k + 1) a0) := by
  intro a0 k
  unfold sha_Sum.f
  exact LeO.ite (LeO.refl _) (LeO.bind (sha_Pad.mono _ _) (fun _ => LeO.refl _))
theorem sha_Sum.long (g : Nat) (s : ByteArray) (w : World) (hc : w.cell? ⟨g, 9, none⟩ = some (.int .i64 0)) (hs : 65536 < s.size) :
    Calls Try.prog 96 #[.pointer (some ⟨g, 0, none⟩), .string s] w fun e w' => e = .returned (.int .i64 2) ∧ w = w' := by
  have hz : (65536 : Int) < (s.size : Int) := by omega
  clear hs
  go_enter Try.func96, Try.ntmps96
  go_wp2_with fail
  refine wp_scope_jumps 0 (fun _ _ => False) (fun _ _ => 0) rfl ?_ ?_
  · go_wp2_with fail
    (try simp only [Exit.jump])
    (try rw [Exit.noGoto_ret])
    go_ret
    exact ⟨rfl, rfl⟩
  · intro a0 wr h
    exact h.elim
set_option maxHeartbeats 1000000 in
theorem sha_Sum.calls (k : Nat) (s : ByteArray) (r : ByteArray) (w : World) (h : sha_Sum.f k s = some r) : Calls Try.prog 93 #[.string s] w fun e w' => e = .returned (.string r) ∧ Below w.heap.size w w' := by
  unfold sha_Sum.f at h
  by_cases hs : 65536 < s.size
  · rw [if_pos hs] at h
    have h := Option.some.inj h
    subst h
    have HS := Aside0.mk hs
    clear hs
    go_enter Try.func93, Try.ntmps93
    go_wp2_with fail
    refine (sha_New.gives w).mono ?_
    rintro e w1 ⟨g, rfl, hg, hblk, hb1⟩
    have HB1 := Aside0.mk hb1
    have c9 : w1.cell? ⟨g, 9, none⟩ = some (.int .i64 0) := (blk_cell hblk 9).trans rfl
    have HL := Aside0.mk (sha_Sum.long g s w1 c9 HS.out)
    clear hblk hb1 hg c9
    go_wp2_with fail
    refine HL.out.mono ?_
    rintro e w2 ⟨rfl, rfl⟩
    clear HL
    go_wp2_with fail
    go_ret
    exact ⟨rfl, HB1.out⟩
  rw [if_neg hs] at h
  obtain ⟨pd, hpd, h⟩ := Option.bind_eq_some_iff.mp h
  split at h
  rotate_left
  · cases h
  rename_i hc
  have h := Option.some.inj h
  have HR := Aside0.mk h
  have HPD := Aside0.mk hpd
  have HC := Aside0.mk hc
  have HS : Aside0 (s.size ≤ 65536) := ⟨by omega⟩
  clear h hpd hc hs
  go_enter Try.func93, Try.ntmps93
  go_wp2_with fail
  refine (sha_New.gives w).mono ?_
  rintro e w1 ⟨g, rfl, hg, hblk, hb1⟩
  have HB1 := Aside0.mk hb1
  have HW := Aside0.mk (sha_Hash_Write.gives w.heap.size g _ _ _ _ _ _ _ _ s w1 hblk HS.out hg)
  have HG := Aside0.mk hg
  clear hblk hb1 hg
  go_wp2_with fail
  refine HW.out.mono ?_
  rintro e w2 ⟨rfl, t0, t1, t2, t3, t4, t5, t6, t7, p, v, hblk, hgo, hpl, hown, hb2⟩
  have HB2 := Aside0.mk (HB1.out.trans hb2)
  have hgo2 : sha_Sum.go s = ([t0, t1, t2, t3, t4, t5, t6, t7], p) := hgo
  have HC2 := HC.out
  rw [hgo2] at HC2
  have HRR := HR.out
  rw [hgo2] at HRR
  have HH := Aside0.mk (sha_Hash_Sum.gives w.heap.size g s.size t0 t1 t2 t3 t4 t5 t6 t7 p v w2 hblk HS.out hpl hown HG.out k pd HPD.out HC2.1 HC2.2)
  have HRS := Aside0.mk HRR
  clear hblk hgo hpl hown hb2 hgo2 HC2 HRR HW HB1 HC HR HG
  go_wp2_with fail
  refine HH.out.mono ?_
  rintro e w3 ⟨rfl, hb3⟩
  have HB3 := Aside0.mk (below_step HB2.out hb3)
  clear hb3 HH HB2
  rw [HRS.out]
  go_wp2_with fail
  go_ret
  exact ⟨rfl, HB3.out⟩
/-! ### prng_Block: function 83 -/
def prng_Block.f (k : Nat) (a0 : ByteArray) (a1 : Int) : Option (ByteArray) := (oct_Put.f k a1 7).bind fun bt123 => (if bt123.2 = 0 then (if (a0.size : Int) > 64 then (some (⟨#[]⟩ : ByteArray)) else ((some (([((a0.size : Int)) % 256] : List Int) : List Int)).bind fun y125 => (if 1 + (strOfNums y125).size ≤ 9223372036854775807 then (if ((⟨#[2]⟩ : ByteArray) ++ (strOfNums y125)).size + a0.size ≤ 9223372036854775807 then (if (((⟨#[2]⟩ : ByteArray) ++ (strOfNums y125)) ++ a0).size + bt123.1.size ≤ 9223372036854775807 then ((sha_Sum.f k ((((⟨#[2]⟩ : ByteArray) ++ (strOfNums y125)) ++ a0) ++ bt123.1)).bind fun t128 => (some t128)) else (none)) else (none)) else (none)))) else (some (⟨#[]⟩ : ByteArray)))
theorem prng_Block.mono : ∀ a0 a1 k, LeO (prng_Block.f k a0 a1) (prng_Block.f (k + 1) a0 a1) := by
 intro a0 a1 k
 unfold prng_Block.f
 repeat' first | (with_reducible first | apply oct_Put.mono | apply sha_Sum.mono | exact LeO.refl _ | exact LeO.none _ | refine LeO.ite ?_ ?_ | refine LeO.bind ?_ (fun _ => ?_)) | apply oct_Put.mono | apply sha_Sum.mono | exact LeO.none _ | refine LeO.ite ?_ ?_ | refine LeO.bind ?_ (fun _ => ?_)
set_option maxHeartbeats 8000000 in
set_option maxRecDepth 100000 in
theorem prng_Block.calls (k : Nat) (a0 : ByteArray) (a1 : Int) (r : ByteArray) (w : World) (h : prng_Block.f k a0 a1 = some r) :
  Calls Try.prog 83 #[.string a0, .int .i64 a1] w fun e w' => e = .returned (.string r) ∧ Below w.heap.size w w' := by
 have HB := Aside0.mk (Below.refl w.heap.size w)
 have H : ((oct_Put.f k a1 7).bind fun bt123 => (if bt123.2 = 0 then (if (a0.size : Int) > 64 then (some (⟨#[]⟩ : ByteArray)) else ((some (([((a0.size : Int)) % 256] : List Int) : List Int)).bind fun y125 => (if 1 + (strOfNums y125).size ≤ 9223372036854775807 then (if ((⟨#[2]⟩ : ByteArray) ++ (strOfNums y125)).size + a0.size ≤ 9223372036854775807 then (if (((⟨#[2]⟩ : ByteArray) ++ (strOfNums y125)) ++ a0).size + bt123.1.size ≤ 9223372036854775807 then ((sha_Sum.f k ((((⟨#[2]⟩ : ByteArray) ++ (strOfNums y125)) ++ a0) ++ bt123.1)).bind fun t128 => (some t128)) else (none)) else (none)) else (none)))) else (some (⟨#[]⟩ : ByteArray)))) = some r := h
 clear h; replace H := Option.bind_eq_some_iff.mp H
 obtain ⟨⟨t123, t124⟩, A30, H⟩ := H
 replace H : (if t124 = 0 then (if (a0.size : Int) > 64 then (some (⟨#[]⟩ : ByteArray)) else ((some (([((a0.size : Int)) % 256] : List Int) : List Int)).bind fun y125 => (if 1 + (strOfNums y125).size ≤ 9223372036854775807 then (if ((⟨#[2]⟩ : ByteArray) ++ (strOfNums y125)).size + a0.size ≤ 9223372036854775807 then (if (((⟨#[2]⟩ : ByteArray) ++ (strOfNums y125)) ++ a0).size + t123.size ≤ 9223372036854775807 then ((sha_Sum.f k ((((⟨#[2]⟩ : ByteArray) ++ (strOfNums y125)) ++ a0) ++ t123)).bind fun t128 => (some t128)) else (none)) else (none)) else (none)))) else (some (⟨#[]⟩ : ByteArray))) = some r := H
 have A3 := Aside0.mk A30
 clear A30; by_cases c4 : t124 = 0
 ·
  rw [if_pos c4] at H
  have c4b0 : (t124 == 0) = true := beq_iff_eq.mpr c4
  have c4b1 : (t124 != 0) = false := bne_eq_false_iff_eq.mpr c4
  clear c4; by_cases c5 : (a0.size : Int) > 64
  ·
   rw [if_pos c5] at H
   have c5b0 : decide (64 < (a0.size : Int)) = true := decide_eq_true c5
   have c5b1 : decide (64 < a0.size) = true := decide_eq_true (by omega)
   clear c5; obtain rfl := Option.some.inj H
   go_enter Try.func83, Try.ntmps83
   go_wp2_with (first | ((with_reducible refine gate_callee (f := 63) rfl ?_); refine goesL_ (some 9) rfl rfl Try.func63 (by kernel_rfl) rfl #[.int .i64 a1, .int .i64 7] rfl zM ?_; (with_reducible refine (oct_Put.calls k a1 7 t123 t124 _ A3.out).mono ?_); rintro e w6 ⟨rfl, hb⟩; refine ⟨_, rfl, ?_⟩; replace HB := Aside0.mk (below_step zB hb); (try clear hb); (try clear hb2); (try clear hk); (try clear hi)))
   go_ret
   exact ⟨zE, zB⟩
  ·
   rw [if_neg c5] at H
   have c5b0 : decide (64 < (a0.size : Int)) = false := decide_eq_false c5
   have c5b1 : decide (64 < a0.size) = false := decide_eq_false (by omega)
   clear c5; obtain ⟨y125, hy125⟩ : ∃ y_ : List Int, y_ = (([((a0.size : Int)) % 256] : List Int)) := ⟨_, rfl⟩
   replace H : (if 1 + (strOfNums y125).size ≤ 9223372036854775807 then (if ((⟨#[2]⟩ : ByteArray) ++ (strOfNums y125)).size + a0.size ≤ 9223372036854775807 then (if (((⟨#[2]⟩ : ByteArray) ++ (strOfNums y125)) ++ a0).size + t123.size ≤ 9223372036854775807 then ((sha_Sum.f k ((((⟨#[2]⟩ : ByteArray) ++ (strOfNums y125)) ++ a0) ++ t123)).bind fun t128 => (some t128)) else (none)) else (none)) else (none)) = some r := by first | (rw [hy125]; with_reducible exact H) | (have H2_ := (Option.bind_some _ _).symm.trans H; rw [hy125]; with_reducible exact H2_) | (have H2_ := (Option.bind_some _ _).symm.trans H; with_reducible exact H2_) | with_reducible exact H | (rw [hy125]; exact H) | exact H
   have Ny125 := Aside0.mk hy125
   clear hy125; by_cases c7 : 1 + (strOfNums y125).size ≤ 9223372036854775807
   ·
    rw [if_pos c7] at H
    have c7b0 := eq_true c7
    have c7b1 : decide (1 + (strOfNums y125).size ≤ 9223372036854775807) = true := decide_eq_true c7
    try have c7b2 : (9223372036854775807 < 1 + (strOfNums y125).size) = False := eq_false (Nat.not_lt.2 c7)
    by_cases c8 : ((⟨#[2]⟩ : ByteArray) ++ (strOfNums y125)).size + a0.size ≤ 9223372036854775807
    ·
     rw [if_pos c8] at H
     have c8b0 := eq_true c8
     have c8b1 : decide (((⟨#[2]⟩ : ByteArray) ++ (strOfNums y125)).size + a0.size ≤ 9223372036854775807) = true := decide_eq_true c8
     try have c8b2 : (9223372036854775807 < ((⟨#[2]⟩ : ByteArray) ++ (strOfNums y125)).size + a0.size) = False := eq_false (Nat.not_lt.2 c8)
     by_cases c9 : (((⟨#[2]⟩ : ByteArray) ++ (strOfNums y125)) ++ a0).size + t123.size ≤ 9223372036854775807
     ·
      rw [if_pos c9] at H
      have c9b0 := eq_true c9
      have c9b1 : decide ((((⟨#[2]⟩ : ByteArray) ++ (strOfNums y125)) ++ a0).size + t123.size ≤ 9223372036854775807) = true := decide_eq_true c9
      try have c9b2 : (9223372036854775807 < (((⟨#[2]⟩ : ByteArray) ++ (strOfNums y125)) ++ a0).size + t123.size) = False := eq_false (Nat.not_lt.2 c9)
      replace H := Option.bind_eq_some_iff.mp H
      obtain ⟨t128, A100, H⟩ := H
      replace H : (some t128) = some r := H
      have A10 := Aside0.mk A100
      clear A100; obtain rfl := Option.some.inj H
      go_enter Try.func83, Try.ntmps83
      go_wp2_with (first | ((with_reducible refine gate_callee (f := 63) rfl ?_); refine goesL_ (some 9) rfl rfl Try.func63 (by kernel_rfl) rfl #[.int .i64 a1, .int .i64 7] rfl zM ?_; (with_reducible refine (oct_Put.calls k a1 7 t123 t124 _ A3.out).mono ?_); rintro e w11 ⟨rfl, hb⟩; refine ⟨_, rfl, ?_⟩; replace HB := Aside0.mk (below_step zB hb); (try clear hb); (try clear hb2); (try clear hk); (try clear hi)) | ((with_reducible refine gate_dst (N := 22) rfl ?_); (try (refine gate_guard (by rfl) ?_; dsimp only)); refine Kd.R_lit (Kd.int .u8) _ 5 ?hg (N := 22) ?hd (xs := ([((a0.size : Int)) % 256] : List Int)) (inner := [.int .u8 (((a0.size : Int)) % 256)]) (ok := fun _ => True) (okp := fun _ => True) ?hr ?hp (fun _ hk => hk) trivial (Below.refl _ _) (Nat.le_refl _) (by simp) ?_; (case hd => rfl); (case hg => rfl); (case hr => first | (go_simp; done) | (go_simp; rfl)); (case hp => exact (Reps.one (show Kd.M (Kd.int .u8) _ _ _ (((a0.size : Int)) % 256) [.int .u8 (((a0.size : Int)) % 256)] from rfl) (Reps.none _ _))); intro v126 w12 ho13 hb hg_ hnew_; clear hg_ hnew_; (first | rw [← Ny125.out] at ho13 | (simp only [Int.reduceToNat] at ho13; rw [← Ny125.out] at ho13)); have HO127 := Aside0.mk (Kd.R_lower ho13 (below_size zB)); replace HB := Aside0.mk (below_step zB hb); clear hb ho13; have hcv14 := own_string (P := Try.prog) Try.underlying39 Try.underlying5 Try.underlying9 (Kd.own_of_R HO127.out); have hcvd15 := fun n_ => own_string (P := Try.prog) Try.underlying39 Try.underlying5 Try.underlying9 (Kd.own_of_R (Kd.R_drewN HO127.out n_))) | ((with_reducible refine gate_callee (f := 93) rfl ?_); refine goesL_ (some 29) rfl rfl Try.func93 (by kernel_rfl) rfl #[.string ((((⟨#[2]⟩ : ByteArray) ++ (strOfNums y125)) ++ a0) ++ t123)] rfl zM ?_; (with_reducible refine (sha_Sum.calls k ((((⟨#[2]⟩ : ByteArray) ++ (strOfNums y125)) ++ a0) ++ t123) t128 _ A10.out).mono ?_); rintro e w16 ⟨rfl, hb⟩; refine ⟨_, rfl, ?_⟩; replace HO127 := Aside0.mk (Kd.R_below (zR HO127) hb); replace HB := Aside0.mk (below_step zB hb); (try clear hb); (try clear hb2); (try clear hk); (try clear hi)))
      go_ret
      exact ⟨zE, zB⟩
     ·
      rw [if_neg c9] at H
      exact absurd H (by simp)
    ·
     rw [if_neg c8] at H
     exact absurd H (by simp)
   ·
    rw [if_neg c7] at H
    exact absurd H (by simp)
 ·
  rw [if_neg c4] at H
  have c4b0 : (t124 == 0) = false := beq_eq_false_iff_ne.mpr c4
  have c4b1 : (t124 != 0) = true := bne_iff_ne.mpr c4
  obtain rfl := Option.some.inj H
  go_enter Try.func83, Try.ntmps83
  go_wp2_with (first | ((with_reducible refine gate_callee (f := 63) rfl ?_); refine goesL_ (some 9) rfl rfl Try.func63 (by kernel_rfl) rfl #[.int .i64 a1, .int .i64 7] rfl zM ?_; (with_reducible refine (oct_Put.calls k a1 7 t123 t124 _ A3.out).mono ?_); rintro e w17 ⟨rfl, hb⟩; refine ⟨_, rfl, ?_⟩; replace HB := Aside0.mk (below_step zB hb); (try clear hb); (try clear hb2); (try clear hk); (try clear hi)))
  go_ret
  exact ⟨zE, zB⟩
/-! ### oct_Get: function 84 -/
def oct_Get.go : List UInt8 → Int → Int
  | [], n => n
  | c :: l, n => oct_Get.go l (Go.bits .or .i64 (wrap64 (n * 256)) (wrap64 (c.toNat : Int)))
theorem oct_Get.go_nil (n : Int) : oct_Get.go [] n = n := rfl
theorem oct_Get.go_cons (c : UInt8) (l : List UInt8) (n : Int) : oct_Get.go (c :: l) n = oct_Get.go l (Go.bits .or .i64 (wrap64 (n * 256)) (wrap64 (c.toNat : Int))) := rfl
def oct_Get.f (a0 : ByteArray) : Option Int := some (if a0.size > 7 then 0 else oct_Get.go a0.data.toList 0)
set_option maxHeartbeats 1000000 in
set_option maxRecDepth 100000 in
theorem oct_Get.calls (a0 : ByteArray) (r : Int) (w : World) (h : oct_Get.f a0 = some r) :
    Calls Try.prog 84 #[.string a0] w fun e w' => e = .returned (.int .i64 r) ∧ Drawn0 w w' := by
  have h := Option.some.inj h
  by_cases hs : a0.size > 7
  · rw [if_pos hs] at h
    subst h
    have hs' : (7 : Int) < (a0.size : Int) := by omega
    go_enter Try.func84, Try.ntmps84
    go_wp2
    go_step3
    go_wp2
    try rw [Exit.noGoto_ret]
    go_ret
    exact ⟨rfl, Drawn0.refl _⟩
  · rw [if_neg hs] at h
    have hs' : ¬ (7 : Int) < (a0.size : Int) := by omega
    have HH := Aside0.mk h
    have HS : Aside0 (a0.size ≤ 7) := ⟨by omega⟩
    clear h hs
    go_enter Try.func84, Try.ntmps84
    go_wp2
    refine wp_scope_jumps 0 (fun a' w' => Drawn0 w w' ∧ ∃ (s : ByteArray) (n : Int) (u4 u5 u6 u7 u8 u9 u10 u11 u12 u13 u14 u15 u16 u17 : Value), a' = { tmps := #[.string s, undef, .int .i64 0, .int .i64 n, u4, u5, u6, u7, u8, u9, u10, u11, u12, u13, u14, u15, u16, u17], defers := [] } ∧ oct_Get.go s.data.toList n = r ∧ s.size ≤ 7) (fun a' _ => match a'.tmps.getD 0 undef with | .string s => s.size | _ => 0) rfl ?_ ?_
    · go_wp2
      go_step3
      by_cases he : a0.size = 0
      · have h1 : a0.toList = [] := bytes_nil a0 he
        have h2 : (!a0.toList.isEmpty) = false := by rw [h1]; rfl
        go_wp2
        simp only [Exit.jump]
        try rw [Exit.noGoto_ret]
        go_ret
        have hl : a0.data.toList = [] := List.eq_nil_of_length_eq_zero (by rw [Array.length_toList]; exact he)
        have hh := HH.out
        rw [hl] at hh
        exact ⟨by rw [← hh]; rfl, Drawn0.refl _⟩
      · have h0 : 0 < a0.size := by omega
        have h1 : a0.toList ≠ [] := bytes_ne a0 h0
        have h2 : (!a0.toList.isEmpty) = true := by rw [bytes_nonempty a0 h0]; rfl
        have h3 : (a0.toList == ([] : List UInt8)) = false := beq_eq_false_iff_ne.mpr h1
        go_wp2
        go_quiet (fail)
        go_wp2
        go_step3
        have hh := HH.out
        have hs7 := HS.out
        rw [list_cons a0 h0] at hh
        exact ⟨rfl, ⟨_, rfl⟩, _, _, _, _, _, _, _, _, _, _, _, _, _, _, _, _, rfl, by rw [← hh, oct_Get.go, show wrap64 (0 * 256) = 0 from by unfold wrap64; omega], by rw [size_extract_end]; omega⟩
    · rintro a' w' ⟨⟨q, rfl⟩, s, n, u4, u5, u6, u7, u8, u9, u10, u11, u12, u13, u14, u15, u16, u17, rfl, hh, hs7⟩
      have HH2 := Aside0.mk hh
      have HS2 := Aside0.mk hs7
      clear hh hs7 HH HS hs'
      by_cases he : s.size = 0
      · have h1 : s.toList = [] := bytes_nil s he
        have h2 : (!s.toList.isEmpty) = false := by rw [h1]; rfl
        go_wp2
        simp only [Exit.jump]
        try rw [Exit.noGoto_ret]
        go_ret
        have hl : s.data.toList = [] := List.eq_nil_of_length_eq_zero (by rw [Array.length_toList]; exact he)
        have hh := HH2.out
        rw [hl] at hh
        exact ⟨by rw [← hh]; rfl, ⟨_, rfl⟩⟩
      · have h0 : 0 < s.size := by have := HS2.out; omega
        have h1 : s.toList ≠ [] := bytes_ne s h0
        have h2 : (!s.toList.isEmpty) = true := by rw [bytes_nonempty s h0]; rfl
        have h3 : (s.toList == ([] : List UInt8)) = false := beq_eq_false_iff_ne.mpr h1
        go_wp2
        go_quiet (fail)
        go_wp2
        go_step3
        have hh := HH2.out
        have hs7 := HS2.out
        rw [list_cons s h0] at hh
        refine ⟨rfl, ⟨⟨_, World.drewN_drewN _ _ _⟩, _, _, _, _, _, _, _, _, _, _, _, _, _, _, _, _, rfl, by rw [← hh, oct_Get.go], by rw [size_extract_end]; omega⟩, ?_⟩
        show (s.extract 1 s.size).size < s.size
        rw [size_extract_end]
        omega
/-! ### prng_Gen_Word: function 65 -/
def prng_Gen_Word.last (k : Nat) (s0 : ByteArray) (s1 : Int) (b : ByteArray) : Option (Int × ByteArray × Int × ByteArray) :=
  if 4 * (s1.toNat % 8) + 4 ≤ b.size then (oct_Get.f (b.extract (4 * (s1.toNat % 8)) (4 * (s1.toNat % 8) + 4))).bind fun x => some (x % 4294967296, s0, s1 + 1, b) else none
def prng_Gen_Word.f (k : Nat) (s0 : ByteArray) (s1 : Int) (s2 : ByteArray) : Option (Int × ByteArray × Int × ByteArray) :=
  if 0 ≤ s1 ∧ s1 ≤ 4611686018427387904 then (if s1.toNat % 8 = 0 then (prng_Block.f k s0 (s1 / 8)).bind fun b => prng_Gen_Word.last k s0 s1 b else prng_Gen_Word.last k s0 s1 s2) else none
theorem prng_Gen_Word.mono : ∀ s0 s1 s2 k, LeO (prng_Gen_Word.f k s0 s1 s2) (prng_Gen_Word.f (k + 1) s0 s1 s2) := by
  intro s0 s1 s2 k
  have hl : ∀ b, LeO (prng_Gen_Word.last k s0 s1 b) (prng_Gen_Word.last (k + 1) s0 s1 b) := fun b => LeO.ite (LeO.refl _) (LeO.refl _)
  unfold prng_Gen_Word.f
  exact LeO.ite (LeO.ite (LeO.bind (prng_Block.mono _ _ _) (fun b => hl b)) (hl s2)) (LeO.refl _)
set_option maxHeartbeats 8000000 in
set_option maxRecDepth 100000 in
theorem prng_Gen_Word.calls (k : Nat) (g : Nat) (s0 : ByteArray) (s1 : Int) (s2 : ByteArray) (r1 : Int) (r2 : ByteArray) (r3 : Int) (r4 : ByteArray) (w0 w : World) (hI : IsS74 w0 w g s0 s1 s2) (hB : Below w0.heap.size w0 w) (h : prng_Gen_Word.f k s0 s1 s2 = some (r1, r2, r3, r4)) :
    Calls Try.prog 65 #[.pointer (some ⟨g, 0, none⟩)] w fun e w' => e = .returned (.int .u32 r1) ∧ IsS74 w0 w' g r2 r3 r4 ∧ Below w0.heap.size w0 w' ∧ KeepBut w w' g none := by
  unfold prng_Gen_Word.f at h
  split at h
  rotate_left
  · cases h
  rename_i hs
  obtain ⟨n, rfl⟩ : ∃ n : Nat, s1 = n := ⟨s1.toNat, by omega⟩
  rw [Int.toNat_natCast] at h
  have hn : n ≤ 4611686018427387904 := by omega
  obtain ⟨at_, hat⟩ : ∃ a, n % 8 = a := ⟨_, rfl⟩
  have ha8 : at_ < 8 := by omega
  have hq : (n : Int) % 8 = (at_ : Int) := by omega
  have HQ := Aside0.mk hq
  have hB0 := hB.size
  have HI := Aside0.mk hI
  have HB := Aside0.mk hB
  have HK := Aside0.mk (KeepBut.refl w g none)
  rw [hat] at h
  clear hs hI hB hat hB0
  have c0 : w.cell? ⟨g, 0, none⟩ = some (.string s0) := (blk_cell HI.out.1 0).trans rfl
  have c1 : w.cell? ⟨g, 1, none⟩ = some (.int .i64 n) := (blk_cell HI.out.1 1).trans rfl
  have c2 : w.cell? ⟨g, 2, none⟩ = some (.string s2) := (blk_cell HI.out.1 2).trans rfl
  by_cases h0 : at_ = 0
  · rw [if_pos h0] at h
    subst h0
    obtain ⟨b, hb, h⟩ := Option.bind_eq_some_iff.mp h
    unfold prng_Gen_Word.last at h
    split at h
    rotate_left
    · cases h
    rename_i hbs
    rw [Int.toNat_natCast] at hbs h
    obtain ⟨x, hx, h⟩ := Option.bind_eq_some_iff.mp h
    have h := Option.some.inj h
    simp only [Prod.mk.injEq] at h
    obtain ⟨rfl, rfl, rfl, rfl⟩ := h
    have h8 : n % 8 = 0 := by have := HQ.out; omega
    rw [h8] at hx hbs
    have hx2 : oct_Get.f (b.extract 0 4) = some x := hx
    have HX := Aside0.mk hx2
    obtain ⟨q8, hq8⟩ : ∃ q : Nat, n / 8 = q := ⟨_, rfl⟩
    have hqd : (n : Int) / 8 = (q8 : Int) := by omega
    rw [hqd] at hb
    have htd : (n : Int).tdiv 8 = (q8 : Int) := by rw [Int.tdiv_eq_ediv_of_nonneg (by omega)]; exact hqd
    have hwr : IntKind.i64.wrap (q8 : Int) = (q8 : Int) := IntWalk.i64_in _ (by omega)
    have HBL := Aside0.mk hb
    have hbz : (4 : Int) ≤ (b.size : Int) := by omega
    have hq0 : (n : Int) % 8 = 0 := HQ.out
    clear hx hx2 hb hbs h8 hq8
    have y2 := blk_frozen HI.out.1 2
    have hcut : ∀ W : World, (Instr.slice 9 (.string b) (some (.int .i64 0)) (some (.int .i64 4)) none).run Try.prog W = .ok (.string (b.extract 0 4)) W := fun W => run_slice_string W 9 b .i64 .i64 0 4 Try.underlying9 (by omega) (by omega) (by omega)
    go_enter Try.func65, Try.ntmps65
    go_wp2_with fail
    go_region_held3 (fun w' => w'.cell? ⟨g, 0, none⟩ = some (.string s0) ∧ w'.cell? ⟨g, 1, none⟩ = some (.int .i64 n)) (first | exact ⟨k0, k1⟩ | exact ⟨c0, c1⟩ | exact ⟨(blk_cell (HI4.out.set_2 b).1 0).trans rfl, (blk_cell (HI4.out.set_2 b).1 1).trans rfl⟩)
      (first | (go_at_call 83; (with_reducible refine (prng_Block.calls k s0 (q8 : Int) b _ HBL.out).mono ?_); rintro e w4 ⟨rfl, hb4⟩; have HI4 : Aside0 (IsS74 w0 w4 g s0 n s2) := ⟨by first | exact HI.out.below hb4 | exact (HI.out.drew).below hb4 | exact (HI.out.drew.drew).below hb4⟩; have HB4 : Aside0 (Below w0.heap.size w0 w4) := ⟨by first | exact below_step HB.out hb4 | exact below_step (below_drew HB.out) hb4 | exact below_step (below_drew (below_drew HB.out)) hb4⟩; have HK4 : Aside0 (KeepBut w w4 g none) := ⟨KeepBut.of_below (by first | exact hb4 | exact below_step (below_drew (Below.refl _ _)) hb4 | exact below_step (below_drew (below_drew (Below.refl _ _))) hb4) g none⟩; clear hb4; have k0 : w4.cell? ⟨g, 0, none⟩ = some (.string s0) := (blk_cell HI4.out.1 0).trans rfl; have k1 : w4.cell? ⟨g, 1, none⟩ = some (.int .i64 n) := (blk_cell HI4.out.1 1).trans rfl; have k2 : w4.cell? ⟨g, 2, none⟩ = some (.string s2) := (blk_cell HI4.out.1 2).trans rfl; have z2 := blk_frozen HI4.out.1 2))
    all_goals
      clear hqd htd hwr
      have HI5 := Aside0.mk (HI4.out.set_2 b)
      have HB5 := Aside0.mk (below_set (j := 2) (v := .string b) HB4.out HI4.out.ge)
      have HK5 := Aside0.mk (KeepBut.set_ HK4.out 2 (.string b))
      clear HI4 HB4 HK4 k0 k1 k2 z2 y2 c0 c1 c2 HI HB HK
      generalize w4.setCell ⟨g, 2, none⟩ (.string b) = w5 at *
      have c1 : w5.cell? ⟨g, 1, none⟩ = some (.int .i64 n) := (blk_cell HI5.out.1 1).trans rfl
      have z1 := blk_frozen HI5.out.1 1
      have c2 : w5.cell? ⟨g, 2, none⟩ = some (.string b) := (blk_cell HI5.out.1 2).trans rfl
      go_wp2_with fail
      refine (oct_Get.calls _ x _ HX.out).mono ?_
      rintro e w6 ⟨rfl, ⟨q, rfl⟩⟩
      go_wp2_with fail
      go_ret
      exact ⟨rfl, (HI5.out.set_1 _).drewN q, pw_below_drewN (below_set HB5.out HI5.out.ge) q, keep_drewN (KeepBut.set_ HK5.out 1 _) q⟩
  · rw [if_neg h0] at h
    unfold prng_Gen_Word.last at h
    split at h
    rotate_left
    · cases h
    rename_i hbs
    rw [Int.toNat_natCast] at hbs h
    obtain ⟨x, hx, h⟩ := Option.bind_eq_some_iff.mp h
    have h := Option.some.inj h
    simp only [Prod.mk.injEq] at h
    obtain ⟨rfl, rfl, rfl, rfl⟩ := h
    have h8 : n % 8 = at_ := by have := HQ.out; omega
    rw [h8] at hx hbs
    have HX := Aside0.mk hx
    have hbz : (4 : Int) * (at_ : Int) + 4 ≤ (s2.size : Int) := by omega
    have z1 := blk_frozen HI.out.1 1
    have hne : ((at_ : Int) == 0) = false := beq_eq_false_iff_ne.mpr (by omega)
    have ha0 : (0 : Int) ≤ (at_ : Int) := by omega
    have ha7 : (at_ : Int) ≤ 7 := by omega
    have hq0 : (n : Int) % 8 = (at_ : Int) := HQ.out
    have hcut : ∀ W : World, (Instr.slice 9 (.string s2) (some (.int .i64 (4 * (at_ : Int)))) (some (.int .i64 (4 * (at_ : Int) + 4))) none).run Try.prog W = .ok (.string (s2.extract (4 * at_) (4 * at_ + 4))) W := fun W => by
      rw [run_slice_string W 9 s2 .i64 .i64 (4 * (at_ : Int)) (4 * (at_ : Int) + 4) Try.underlying9 (by omega) (by omega) (by omega), show (4 * (at_ : Int)).toNat = 4 * at_ by omega, show (4 * (at_ : Int) + 4).toNat = 4 * at_ + 4 by omega]
    clear hx hbs h8 h0
    go_enter Try.func65, Try.ntmps65
    go_wp2_with fail
    refine (oct_Get.calls _ x _ HX.out).mono ?_
    rintro e w6 ⟨rfl, ⟨q, rfl⟩⟩
    clear hcut
    go_wp2_with fail
    go_ret
    exact ⟨rfl, (HI.out.set_1 _).drewN q, pw_below_drewN (below_set HB.out HI.out.ge) q, keep_drewN (KeepBut.set_ HK.out 1 _) q⟩
/-! ### prng_bound: function 66 -/
def prng_bound.f (a0 : Int) : Option (Int) := if a0 = 0 then (none) else (some (wrap64 (4294967296 - ((4294967296 : Int) % a0))))
set_option maxHeartbeats 8000000 in
set_option maxRecDepth 100000 in
theorem prng_bound.calls (a0 : Int) (r : Int) (w : World) (h : prng_bound.f a0 = some r) :
  Calls Try.prog 66 #[.int .i64 a0] w fun e w' => e = .returned (.int .i64 r) ∧ Drawn0 w w' := by
 have H : (if a0 = 0 then (none) else (some (wrap64 (4294967296 - ((4294967296 : Int) % a0))))) = some r := h
 clear h; by_cases c2 : a0 = 0
 ·
  rw [if_pos c2] at H
  exact absurd H (by simp)
 ·
  rw [if_neg c2] at H
  have c2b0 : (a0 == 0) = false := beq_eq_false_iff_ne.mpr c2
  have c2b1 : (a0 != 0) = true := bne_iff_ne.mpr c2
  obtain rfl := Option.some.inj H
  go_enter Try.func66, Try.ntmps66
  go_wp2
  go_ret
  exact ⟨by first | rfl | (simp; done) | (simp [*]; done), by repeat (first | exact Drawn0.refl _ | apply Drawn0.step)⟩
/-! ### prng_Gen_Below: function 51 -/
def prng_Gen_Below.l0 : Nat → Int → Int → Int → ByteArray → Int → ByteArray → Option (Int × ByteArray × Int × ByteArray)
 | 0, _, _, _, _, _, _ => none
 | k + 1, x1, x5, x13, x1000, x1001, x1002 => if x13 < 8 then ((prng_Gen_Word.f k x1000 x1001 x1002).bind fun bt130 => ((prng_bound.f x1).bind fun t134 => (if (wrap64 (bt130.1)) < t134 then (if x1 = 0 then (none) else (some (Int.tmod (wrap64 (bt130.1)) x1, bt130.2.1, bt130.2.2.1, bt130.2.2.2))) else (prng_Gen_Below.l0 k x1 (wrap64 (bt130.1)) (wrap64 (x13 + 1)) bt130.2.1 bt130.2.2.1 bt130.2.2.2)))) else (if x1 = 0 then (none) else (some (Int.tmod x5 x1, x1000, x1001, x1002)))
def prng_Gen_Below.f (k : Nat) (s0_0 : ByteArray) (s0_1 : Int) (s0_2 : ByteArray) (a1 : Int) : Option (Int × ByteArray × Int × ByteArray) := (prng_may.f a1).bind fun t129 => (if t129 = true then (prng_Gen_Below.l0 k a1 0 0 s0_0 s0_1 s0_2) else (some (0, s0_0, s0_1, s0_2)))
theorem prng_Gen_Below.mono_l : ∀ k, (∀ y0 y1 y2 y3 y4 y5, LeO (prng_Gen_Below.l0 k y0 y1 y2 y3 y4 y5) (prng_Gen_Below.l0 (k + 1) y0 y1 y2 y3 y4 y5))
 | 0 => fun _ _ _ _ _ _ r h => by simp [prng_Gen_Below.l0] at h
 | k + 1 => by
  have ih0 := prng_Gen_Below.mono_l k
  ·
   intro y0 y1 y2 y3 y4 y5
   unfold prng_Gen_Below.l0
   repeat' first | (with_reducible first | apply ih0 | apply prng_Gen_Word.mono | exact LeO.refl _ | exact LeO.none _ | refine LeO.ite ?_ ?_ | refine LeO.bind ?_ (fun _ => ?_)) | apply ih0 | apply prng_Gen_Word.mono | exact LeO.none _ | refine LeO.ite ?_ ?_ | refine LeO.bind ?_ (fun _ => ?_)
theorem prng_Gen_Below.mono : ∀ a0 a1 a2 a3 k, LeO (prng_Gen_Below.f k a0 a1 a2 a3) (prng_Gen_Below.f (k + 1) a0 a1 a2 a3) := by
 intro a0 a1 a2 a3 k
 have ih0 := prng_Gen_Below.mono_l k
 unfold prng_Gen_Below.f
 repeat' first | (with_reducible first | apply ih0 | apply prng_Gen_Word.mono | exact LeO.refl _ | exact LeO.none _ | refine LeO.ite ?_ ?_ | refine LeO.bind ?_ (fun _ => ?_)) | apply ih0 | apply prng_Gen_Word.mono | exact LeO.none _ | refine LeO.ite ?_ ?_ | refine LeO.bind ?_ (fun _ => ?_)
set_option maxHeartbeats 8000000 in
set_option maxRecDepth 100000 in
theorem prng_Gen_Below.calls (k : Nat) (g : Nat) (s0_0 : ByteArray) (s0_1 : Int) (s0_2 : ByteArray) (a1 : Int) (r1 : Int) (r2 : ByteArray) (r3 : Int) (r4 : ByteArray) (w0 w : World) (hI : IsS74 w0 w g s0_0 s0_1 s0_2) (hB : Below w0.heap.size w0 w) (h : prng_Gen_Below.f k s0_0 s0_1 s0_2 a1 = some (r1, r2, r3, r4)) :
  Calls Try.prog 51 #[.pointer (some ⟨g, 0, none⟩), .int .i64 a1] w fun e w' => e = .returned (.int .i64 r1) ∧ IsS74 w0 w' g r2 r3 r4 ∧ Below w0.heap.size w0 w' ∧ KeepBut w w' g none := by
 have HI0 := Aside0.mk hI
 have HK := Aside0.mk (KeepBut.refl w g none)
 have HL := Aside0.mk hB.size
 clear hI; have HW0 := Aside0.mk hB.size
 have HB := Aside0.mk hB
 clear hB; have H : ((prng_may.f a1).bind fun t129 => (if t129 = true then (prng_Gen_Below.l0 k a1 0 0 s0_0 s0_1 s0_2) else (some (0, s0_0, s0_1, s0_2)))) = some (r1, r2, r3, r4) := h
 clear h; replace H := Option.bind_eq_some_iff.mp H
 obtain ⟨t129, A30, H⟩ := H
 replace H : (if t129 = true then (prng_Gen_Below.l0 k a1 0 0 s0_0 s0_1 s0_2) else (some (0, s0_0, s0_1, s0_2))) = some (r1, r2, r3, r4) := H
 have A3 := Aside0.mk A30
 clear A30; by_cases c4 : t129 = true
 ·
  subst c4
  have H1 : (prng_Gen_Below.l0 k a1 0 0 s0_0 s0_1 s0_2) = some (r1, r2, r3, r4) := by rw [if_pos rfl] at H; exact H
  clear H; have H := H1; clear H1; have H' := Aside0.mk H
  clear H; go_enter Try.func51, Try.ntmps51
  go_wp2_with (first | (go_at_call 64; (with_reducible refine (prng_may.calls a1 true _ A3.out).mono ?_); rintro e w' ⟨rfl, ⟨nd, rfl⟩⟩))
  go_loopg [5, 13] k (fun kq v5 v13 w' => ∃ (x5_1 : Int) (x13_1 : Int) (x1000_1 : ByteArray) (x1001_1 : Int) (x1002_1 : ByteArray), v5 = .int .i64 x5_1 ∧ v13 = .int .i64 x13_1 ∧ Aside0 (prng_Gen_Below.l0 kq a1 x5_1 x13_1 x1000_1 x1001_1 x1002_1 = some (r1, r2, r3, r4)) ∧ Aside0 (kq ≤ k) ∧ Aside0 (IsS74 w0 w' g x1000_1 x1001_1 x1002_1) ∧ Aside0 (KeepBut w w' g none) ∧ Aside0 (Below w0.heap.size w0 w'))
  case atStart => exact ⟨(0), (0), (s0_0), (s0_1), (s0_2), zF, zF, H', ⟨Nat.le_refl _⟩, ⟨by repeat (first | (with_reducible first | exact HI0.out | apply IsS74.alloc | apply IsS74.drewN | apply IsS74.drew | apply IsS74.set_0 | apply IsS74.set_1 | apply IsS74.set_2) | exact HI0.out)⟩, ⟨by repeat (first | (with_reducible first | exact HK.out | apply KeepBut.set_ | apply keep_drewN | apply keep_drew | apply keep_alloc) | exact HK.out)⟩, ⟨by repeat (first | (with_reducible first | exact HB.out | apply below_alloc | apply pw_below_drewN | apply below_drew1 | refine below_set ?_ (IsS74.ge HI0.out)) | exact HB.out)⟩⟩
  case round =>
   clear H'
   obtain ⟨x5_1, x13_1, x1000_1, x1001_1, x1002_1, rfl, rfl, HA, HK1, HI0, HK, HB⟩ := hrel
   cases gk with
   | zero => exact absurd HA.out (by simp [prng_Gen_Below.l0])
   | succ k1 =>
    have H := HA.out; clear HA; simp only [prng_Gen_Below.l0] at H
    by_cases c5 : x13_1 < 8
    ·
     rw [if_pos c5] at H
     have c5b0 : decide (x13_1 < 8) = true := decide_eq_true c5
     clear c5; replace H := Option.bind_eq_some_iff.mp H
     obtain ⟨⟨t130, t131, t132, t133⟩, A60, H⟩ := H
     replace H : ((prng_bound.f a1).bind fun t134 => (if (wrap64 (t130)) < t134 then (if a1 = 0 then (none) else (some (Int.tmod (wrap64 (t130)) a1, t131, t132, t133))) else (prng_Gen_Below.l0 k1 a1 (wrap64 (t130)) (wrap64 (x13_1 + 1)) t131 t132 t133))) = some (r1, r2, r3, r4) := H
     have A6 := Aside0.mk A60
     clear A60; replace H := Option.bind_eq_some_iff.mp H
     obtain ⟨t134, A70, H⟩ := H
     replace H : (if (wrap64 (t130)) < t134 then (if a1 = 0 then (none) else (some (Int.tmod (wrap64 (t130)) a1, t131, t132, t133))) else (prng_Gen_Below.l0 k1 a1 (wrap64 (t130)) (wrap64 (x13_1 + 1)) t131 t132 t133)) = some (r1, r2, r3, r4) := H
     have A7 := Aside0.mk A70
     clear A70; by_cases c8 : (wrap64 (t130)) < t134
     ·
      rw [if_pos c8] at H
      have c8b0 : decide ((wrap64 (t130)) < t134) = true := decide_eq_true c8
      clear c8; by_cases c9 : a1 = 0
      ·
       rw [if_pos c9] at H
       exact absurd H (by simp)
      ·
       rw [if_neg c9] at H
       have c9b0 : (a1 == 0) = false := beq_eq_false_iff_ne.mpr c9
       have c9b1 : (a1 != 0) = true := bne_iff_ne.mpr c9
       simp only [Option.some.injEq, Prod.mk.injEq] at H
       obtain ⟨rfl, rfl, rfl, rfl⟩ := H
       go_wp2_with (first | ((with_reducible refine gate_callee (f := 65) rfl ?_); refine goesL_ (some 16) rfl rfl Try.func65 (by kernel_rfl) rfl #[.pointer (some ⟨g, 0, none⟩)] rfl zM ?_; (with_reducible refine (prng_Gen_Word.calls k1 g x1000_1 x1001_1 x1002_1 t130 t131 t132 t133 w0 _ ?side1 ?side2 A6.out).mono ?_); (case side1 => repeat (first | (with_reducible first | exact HI0.out | apply IsS74.alloc | apply IsS74.drewN | apply IsS74.drew | apply IsS74.set_0 | apply IsS74.set_1 | apply IsS74.set_2) | exact HI0.out)); (case side2 => repeat (first | (with_reducible first | exact HB.out | apply below_alloc | apply pw_below_drewN | apply below_drew1 | refine below_set ?_ (IsS74.ge HI0.out)) | exact HB.out)); rintro e w10 ⟨rfl, hi, hb, hk⟩; refine ⟨_, rfl, ?_⟩; replace HK := Aside0.mk (KeepBut.trans (by repeat (first | (with_reducible first | exact HK.out | apply KeepBut.set_ | apply keep_drewN | apply keep_drew | apply keep_alloc) | exact HK.out)) hk (.inl rfl)); replace HI0 := Aside0.mk (hi); replace HB := Aside0.mk (hb); (try clear hb); (try clear hb2); (try clear hk); (try clear hi)) | ((with_reducible refine gate_callee (f := 66) rfl ?_); refine goesL_ (some 20) rfl rfl Try.func66 (by kernel_rfl) rfl #[.int .i64 a1] rfl zM ?_; (with_reducible refine (prng_bound.calls a1 t134 _ A7.out).mono ?_); rintro e w' ⟨rfl, ⟨nd, rfl⟩⟩; refine ⟨_, rfl, ?_⟩))
       go_ret
       exact ⟨zE, by repeat (first | (with_reducible first | exact HI0.out | apply IsS74.alloc | apply IsS74.drewN | apply IsS74.drew | apply IsS74.set_0 | apply IsS74.set_1 | apply IsS74.set_2) | exact HI0.out), by repeat (first | (with_reducible first | exact HB.out | apply below_alloc | apply pw_below_drewN | apply below_drew1 | refine below_set ?_ (IsS74.ge HI0.out)) | exact HB.out), by repeat (first | (with_reducible first | exact HK.out | apply KeepBut.set_ | apply keep_drewN | apply keep_drew | apply keep_alloc) | exact HK.out)⟩
     ·
      rw [if_neg c8] at H
      have c8b0 : decide ((wrap64 (t130)) < t134) = false := decide_eq_false c8
      clear c8; have H' := Aside0.mk H
      clear H; go_wp2_with (first | ((with_reducible refine gate_callee (f := 65) rfl ?_); refine goesL_ (some 16) rfl rfl Try.func65 (by kernel_rfl) rfl #[.pointer (some ⟨g, 0, none⟩)] rfl zM ?_; (with_reducible refine (prng_Gen_Word.calls k1 g x1000_1 x1001_1 x1002_1 t130 t131 t132 t133 w0 _ ?side1 ?side2 A6.out).mono ?_); (case side1 => repeat (first | (with_reducible first | exact HI0.out | apply IsS74.alloc | apply IsS74.drewN | apply IsS74.drew | apply IsS74.set_0 | apply IsS74.set_1 | apply IsS74.set_2) | exact HI0.out)); (case side2 => repeat (first | (with_reducible first | exact HB.out | apply below_alloc | apply pw_below_drewN | apply below_drew1 | refine below_set ?_ (IsS74.ge HI0.out)) | exact HB.out)); rintro e w11 ⟨rfl, hi, hb, hk⟩; refine ⟨_, rfl, ?_⟩; replace HK := Aside0.mk (KeepBut.trans (by repeat (first | (with_reducible first | exact HK.out | apply KeepBut.set_ | apply keep_drewN | apply keep_drew | apply keep_alloc) | exact HK.out)) hk (.inl rfl)); replace HI0 := Aside0.mk (hi); replace HB := Aside0.mk (hb); (try clear hb); (try clear hb2); (try clear hk); (try clear hi)) | ((with_reducible refine gate_callee (f := 66) rfl ?_); refine goesL_ (some 20) rfl rfl Try.func66 (by kernel_rfl) rfl #[.int .i64 a1] rfl zM ?_; (with_reducible refine (prng_bound.calls a1 t134 _ A7.out).mono ?_); rintro e w' ⟨rfl, ⟨nd, rfl⟩⟩; refine ⟨_, rfl, ?_⟩))
      go_roundg k1
      case measure => have := HK1.out; omega
      case rel => exact ⟨(wrap64 (t130)), (wrap64 (x13_1 + 1)), (t131), (t132), (t133), zF, zF, H', ⟨by have := HK1.out; omega⟩, ⟨by repeat (first | (with_reducible first | exact HI0.out | apply IsS74.alloc | apply IsS74.drewN | apply IsS74.drew | apply IsS74.set_0 | apply IsS74.set_1 | apply IsS74.set_2) | exact HI0.out)⟩, ⟨by repeat (first | (with_reducible first | exact HK.out | apply KeepBut.set_ | apply keep_drewN | apply keep_drew | apply keep_alloc) | exact HK.out)⟩, ⟨by repeat (first | (with_reducible first | exact HB.out | apply below_alloc | apply pw_below_drewN | apply below_drew1 | refine below_set ?_ (IsS74.ge HI0.out)) | exact HB.out)⟩⟩
    ·
     rw [if_neg c5] at H
     have c5b0 : decide (x13_1 < 8) = false := decide_eq_false c5
     clear c5; by_cases c12 : a1 = 0
     ·
      rw [if_pos c12] at H
      exact absurd H (by simp)
     ·
      rw [if_neg c12] at H
      have c12b0 : (a1 == 0) = false := beq_eq_false_iff_ne.mpr c12
      have c12b1 : (a1 != 0) = true := bne_iff_ne.mpr c12
      simp only [Option.some.injEq, Prod.mk.injEq] at H
      obtain ⟨rfl, rfl, rfl, rfl⟩ := H
      go_wp2
      go_ret
      exact ⟨zE, by repeat (first | (with_reducible first | exact HI0.out | apply IsS74.alloc | apply IsS74.drewN | apply IsS74.drew | apply IsS74.set_0 | apply IsS74.set_1 | apply IsS74.set_2) | exact HI0.out), by repeat (first | (with_reducible first | exact HB.out | apply below_alloc | apply pw_below_drewN | apply below_drew1 | refine below_set ?_ (IsS74.ge HI0.out)) | exact HB.out), by repeat (first | (with_reducible first | exact HK.out | apply KeepBut.set_ | apply keep_drewN | apply keep_drew | apply keep_alloc) | exact HK.out)⟩
 ·
  replace c4 := Bool.eq_false_iff.mpr c4
  subst c4
  have H1 : (some (0, s0_0, s0_1, s0_2)) = some (r1, r2, r3, r4) := by rw [if_neg (show ¬ (false = true) by decide)] at H; exact H
  clear H; have H := H1; clear H1; simp only [Option.some.injEq, Prod.mk.injEq] at H
  obtain ⟨rfl, rfl, rfl, rfl⟩ := H
  go_enter Try.func51, Try.ntmps51
  go_wp2_with (first | (go_at_call 64; (with_reducible refine (prng_may.calls a1 false _ A3.out).mono ?_); rintro e w' ⟨rfl, ⟨nd, rfl⟩⟩))
  go_ret
  exact ⟨zE, by repeat (first | (with_reducible first | exact HI0.out | apply IsS74.alloc | apply IsS74.drewN | apply IsS74.drew | apply IsS74.set_0 | apply IsS74.set_1 | apply IsS74.set_2) | exact HI0.out), by repeat (first | (with_reducible first | exact HB.out | apply below_alloc | apply pw_below_drewN | apply below_drew1 | refine below_set ?_ (IsS74.ge HI0.out)) | exact HB.out), by repeat (first | (with_reducible first | exact HK.out | apply KeepBut.set_ | apply keep_drewN | apply keep_drew | apply keep_alloc) | exact HK.out)⟩
end Go.Proofs.Ytghhmnjkgnoogaa.POuterHolds
