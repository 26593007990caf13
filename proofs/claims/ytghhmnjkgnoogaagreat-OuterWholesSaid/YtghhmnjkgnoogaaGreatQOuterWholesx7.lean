-- Written by this session's own program (wip/tools/mkprint.py) over the kit's printer, with overrides.
import Derived.Test.YtghhmnjkgnoogaaGreatTOuterWholesa
import Derived.Test.YtghhmnjkgnoogaaGreatQOuterWholesx0
import Derived.Test.YtghhmnjkgnoogaaGreatQOuterWholesx4
import Derived.Test.YtghhmnjkgnoogaaGreatQOuterWholesx6
namespace Go.Proofs.YtghhmnjkgnoogaaGreat.POuterWholes
open Go.RowKit Go.Mine Go.Proofs.YtghhmnjkgnoogaaGreatW.PrintWords Go.Proofs.YtghhmnjkgnoogaaGreatW.PrintLast Go.Proofs.YtghhmnjkgnoogaaGreatW.PrintMore
attribute [local go_sem] max2_int min2_int max_two min_two max_three min_three max_four min_four   -- for this text's walks alone
set_option linter.unusedVariables false
set_option linter.unusedSimpArgs false
/-! ### sha_Hash_Sum: function 127 -/
theorem sha_Hash_Sum.stepRow {P : Program} {ops : Array Oper} {o : Oper} {a : Act} {w : World} {K : Act → World → Prop} {Q : Exit → Act → World → Prop} {E : Prop} (hg : o.guard = none) (sl x : Operand) (t : TypeId)
    (ho : o.op = .call { callee := .builtin .append, args := #[sl, x], argTypes := #[t, t] }) (base : Nat) (e : TypeId) (ht : P.underlying t = some (.slice e))
    (hinfo : (P.info? e).map (fun i => (i.zero, i.size, i.bytes)) = some (some (.int .u8 0), 1, 1)) (v : Value) (xs : List Int) (A : Option Addr) (c : Nat) (ys : List Int) (hs : a.eval sl = v) (hx : a.eval x = .slice A ys.length c)
    (hown : w.ownsRow base e 1 v xs.length (nums .u8 xs)) (hr : ReadsInt w .u8 A ys.length ys) (hA : A = none → c = 0) (hl : xs.length + ys.length ≤ 140737488355328) (hbase : base ≤ w.heap.size)
    (h : ∀ v1 w1, w1.ownsRow base e 1 v1 (xs ++ ys).length (nums .u8 (xs ++ ys)) → w.grownBy w1 v.ownBlock → K (a.put o.dst v1) w1) :
    if Region.wanted o (yielded ops a.tmps) = true then Oper.wp P o a w K Q else E := by
  have hw : Region.wanted o (yielded ops a.tmps) = true := by simp [Region.wanted, hg]
  rw [if_pos hw]
  obtain ⟨i0, hi, hzz⟩ := Option.map_eq_some_iff.1 hinfo
  simp only [Prod.mk.injEq] at hzz
  obtain ⟨hz0, hz1, hz2⟩ := hzz
  have hk : ∃ v' w', (Builtin.append_ #[t, t] o.type #[v, .slice A ys.length c]).run P w = .ok v' w' ∧ w'.ownsRow base e 1 v' (xs ++ ys).length (nums .u8 (xs ++ ys)) ∧ w.grownBy w' v.ownBlock := by
    rw [nums_append, List.length_append]
    cases A with
    | none =>
      have h0 : ys = [] := by
        cases ys with
        | nil => rfl
        | cons y ys => obtain ⟨ad, he, _⟩ := hr.2.2 (by simp); cases he
      subst h0
      have := hA rfl
      subst this
      refine ⟨v, w, run_append_owned_none (P := P) w base t o.type e i0 1 ht hi v xs.length (nums .u8 xs) hown, ?_, ⟨rfl, rfl, rfl, Nat.le_refl _, fun _ _ _ => rfl⟩⟩
      simpa [nums] using hown
    | some ad =>
      obtain ⟨v', w', hr1, h2, h3, _⟩ := run_append_own (P := P) w base t o.type e i0 (.int .u8 0) 1 1 ht hi hz0 hz1 hz2 rfl (by decide) v xs.length (nums .u8 xs) hown ad ys.length c (nums .u8 ys) (by simp [nums])
        (fun j u hj => by
          have hj' : j < ys.length := by simpa [nums] using (List.getElem?_eq_some_iff.1 hj).1
          obtain ⟨ad', he, hc⟩ := hr.2.2 (by omega)
          cases he
          rw [hc j hj']
          have e1 : (nums .u8 ys)[j]? = some (Value.int .u8 (ys.getD j 0)) := by simp [nums, List.getD, List.getElem?_eq_getElem hj']
          rw [← e1]; exact hj.symm ▸ rfl)
        (fun u hu => by
          simp only [nums, List.mem_map] at hu
          obtain ⟨y, _, rfl⟩ := hu
          rfl) (by simp only [maxLen]; omega) (by omega) hbase
      exact ⟨v', w', hr1, h2, h3⟩
  obtain ⟨v', w', hr', h2, h3⟩ := hk
  unfold Oper.wp execOp
  simp only [ho, resolve, invoke, builtin, Sem.run_bind, Sem.run_pure, Result.andThen_ok, List.map_toArray, List.map_cons, List.map_nil, hs, hx, hr']
  exact h v' w' h2 h3
theorem sha_Hash_Sum.mixE (t0 t1 t2 t3 t4 t5 t6 t7 : Int) (A0 : Option Addr) (c0 : Nat) (b : List Int) (hb : b.length = 64) (w : World) (hr : Kd.C (Kd.int .u8) w A0 64 b) (hc : 64 ≤ c0) :
    Calls Tryz.prog 132 #[.agg #[.int .u32 t0, .int .u32 t1, .int .u32 t2, .int .u32 t3, .int .u32 t4, .int .u32 t5, .int .u32 t6, .int .u32 t7], .slice A0 64 c0] w fun e w' => ∃ m0 m1 m2 m3 m4 m5 m6 m7 : Int, e = .returned (.agg #[.int .u32 m0, .int .u32 m1, .int .u32 m2, .int .u32 m3, .int .u32 m4, .int .u32 m5, .int .u32 m6, .int .u32 m7]) ∧ mixW [t0, t1, t2, t3, t4, t5, t6, t7] b = [m0, m1, m2, m3, m4, m5, m6, m7] ∧ Below w.heap.size w w' := by
  have h := sha_mix.gives t0 t1 t2 t3 t4 t5 t6 t7 A0 c0 b hb w (by rw [hb]; exact hr) (by rw [hb]; exact hc)
  rw [hb] at h
  obtain ⟨m0, m1, m2, m3, m4, m5, m6, m7, hm⟩ := eight (mixW [t0, t1, t2, t3, t4, t5, t6, t7] b) (mixW_length _ _)
  rw [hm] at h
  refine h.mono ?_
  rintro e w' ⟨rfl, hb'⟩
  exact ⟨m0, m1, m2, m3, m4, m5, m6, m7, rfl, hm, hb'⟩
set_option maxRecDepth 100000 in
set_option maxHeartbeats 4000000 in
theorem sha_Hash_Sum.gives (B g n : Nat) (t0 t1 t2 t3 t4 t5 t6 t7 : Int) (p : List Int) (v : Value) (w : World) (hg : w.heap[g]? = some (.cells #[.int .u32 t0, .int .u32 t1, .int .u32 t2, .int .u32 t3, .int .u32 t4, .int .u32 t5, .int .u32 t6, .int .u32 t7, v, .int .i64 n] 169 (0, 0))) (hn : n ≤ 65536) (hp : p.length < 64) (hown : w.ownsRow B 5 1 v p.length (nums .u8 p)) (hB : B ≤ g) (kp : Nat) (pd : ByteArray) (hpad : sha_Pad.f kp (n : Int) = some pd) (hpl : pd.size ≤ 1000) (hmod : (p ++ bytesOf pd).length % 64 = 0) :
    Calls Tryz.prog 127 #[.pointer (some ⟨g, 0, none⟩)] w fun e w' => e = .returned (.string (hsumS [t0, t1, t2, t3, t4, t5, t6, t7] p pd)) ∧ Below w.heap.size w w' := by
  obtain ⟨R, hR⟩ : ∃ R, hsumS [t0, t1, t2, t3, t4, t5, t6, t7] p pd = R := ⟨_, rfl⟩
  rw [hR]
  have HRR := Aside0.mk hR
  have HMOD := Aside0.mk hmod
  clear hR hmod
  obtain ⟨ao, cap, rfl⟩ := own_is_slice hown
  have e0 : w.cell? ⟨g, 0, none⟩ = some (.int .u32 t0) := (blk_cell hg 0).trans rfl
  have e1 : w.cell? ⟨g, 1, none⟩ = some (.int .u32 t1) := (blk_cell hg 1).trans rfl
  have e2 : w.cell? ⟨g, 2, none⟩ = some (.int .u32 t2) := (blk_cell hg 2).trans rfl
  have e3 : w.cell? ⟨g, 3, none⟩ = some (.int .u32 t3) := (blk_cell hg 3).trans rfl
  have e4 : w.cell? ⟨g, 4, none⟩ = some (.int .u32 t4) := (blk_cell hg 4).trans rfl
  have e5 : w.cell? ⟨g, 5, none⟩ = some (.int .u32 t5) := (blk_cell hg 5).trans rfl
  have e6 : w.cell? ⟨g, 6, none⟩ = some (.int .u32 t6) := (blk_cell hg 6).trans rfl
  have e7 : w.cell? ⟨g, 7, none⟩ = some (.int .u32 t7) := (blk_cell hg 7).trans rfl
  have HG := Aside0.mk hg
  have HOWN := Aside0.mk hown
  have HP := Aside0.mk hp
  have HLT : Aside0 (g < w.heap.size) := ⟨(Array.getElem?_eq_some_iff.1 hg).1⟩
  clear hg hown hp
  go_enter Tryz.func127, Tryz.ntmps127
  go_wp2_with fail
  have HXb : Aside0 ((w.alloc (.cells #[.int .u32 t0, .int .u32 t1, .int .u32 t2, .int .u32 t3, .int .u32 t4, .int .u32 t5, .int .u32 t6, .int .u32 t7] 166)).heap[w.heap.size]? = some (.cells #[.int .u32 t0, .int .u32 t1, .int .u32 t2, .int .u32 t3, .int .u32 t4, .int .u32 t5, .int .u32 t6, .int .u32 t7] 166 (0, 0))) := ⟨heap_alloc_new _ _⟩
  have HGb : Aside0 ((w.alloc (.cells #[.int .u32 t0, .int .u32 t1, .int .u32 t2, .int .u32 t3, .int .u32 t4, .int .u32 t5, .int .u32 t6, .int .u32 t7] 166)).heap[g]? = some (.cells #[.int .u32 t0, .int .u32 t1, .int .u32 t2, .int .u32 t3, .int .u32 t4, .int .u32 t5, .int .u32 t6, .int .u32 t7, .slice ao p.length cap, .int .i64 n] 169 (0, 0))) := ⟨(heap_alloc_old _ _ HLT.out).trans HG.out⟩
  have HOb : Aside0 ((w.alloc (.cells #[.int .u32 t0, .int .u32 t1, .int .u32 t2, .int .u32 t3, .int .u32 t4, .int .u32 t5, .int .u32 t6, .int .u32 t7] 166)).ownsRow B 5 1 (.slice ao p.length cap) p.length (nums .u8 p)) := ⟨own_move HOWN.out fun k hk => heap_alloc_old _ _ (own_lt HOWN.out k hk)⟩
  have HBb : Aside0 (Below w.heap.size w (w.alloc (.cells #[.int .u32 t0, .int .u32 t1, .int .u32 t2, .int .u32 t3, .int .u32 t4, .int .u32 t5, .int .u32 t6, .int .u32 t7] 166))) := ⟨below_alloc (Below.refl _ _) _⟩
  have HLb : Aside0 (w.heap.size < (w.alloc (.cells #[.int .u32 t0, .int .u32 t1, .int .u32 t2, .int .u32 t3, .int .u32 t4, .int .u32 t5, .int .u32 t6, .int .u32 t7] 166)).heap.size) := ⟨(Array.getElem?_eq_some_iff.1 HXb.out).1⟩
  clear e0 e1 e2 e3 e4 e5 e6 e7
  generalize w.alloc (.cells #[.int .u32 t0, .int .u32 t1, .int .u32 t2, .int .u32 t3, .int .u32 t4, .int .u32 t5, .int .u32 t6, .int .u32 t7] 166) = wa at *
  have c8 : wa.cell? ⟨g, 8, none⟩ = some (.slice ao p.length cap) := (blk_cell HGb.out 8).trans rfl
  have c9 : wa.cell? ⟨g, 9, none⟩ = some (.int .i64 n) := (blk_cell HGb.out 9).trans rfl
  have HPAD := Aside0.mk hpad
  have HPL := Aside0.mk hpl
  clear hpad hpl
  have HE : Aside0 ((wa.alloc (.cells #[] 5)).ownsRow w.heap.size 5 1 (.slice (some ⟨wa.heap.size, 0, none⟩) 0 0) 0 (nums .u8 [])) := ⟨⟨rfl, Or.inr ⟨wa.heap.size, 0, #[], rfl, Nat.le_of_lt HLb.out, heap_alloc_new _ _, Nat.le_refl _, by decide, rfl, rfl⟩⟩⟩
  have HGc : Aside0 ((wa.alloc (.cells #[] 5)).heap[g]? = some (.cells #[.int .u32 t0, .int .u32 t1, .int .u32 t2, .int .u32 t3, .int .u32 t4, .int .u32 t5, .int .u32 t6, .int .u32 t7, .slice ao p.length cap, .int .i64 n] 169 (0, 0))) := ⟨(heap_alloc_old _ _ (Array.getElem?_eq_some_iff.1 HGb.out).1).trans HGb.out⟩
  have HOc : Aside0 ((wa.alloc (.cells #[] 5)).ownsRow B 5 1 (.slice ao p.length cap) p.length (nums .u8 p)) := ⟨own_move HOb.out fun k hk => heap_alloc_old _ _ (own_lt HOb.out k hk)⟩
  have HAc : Aside0 (ao = none → cap = 0) := ⟨by
    rintro rfl
    rcases HOb.out.2 with ⟨h1, _⟩ | ⟨g1, c1, cu, h1, _⟩
    · injection h1
    · injection h1 with h2
      cases h2⟩
  have HXc : Aside0 ((wa.alloc (.cells #[] 5)).heap[w.heap.size]? = some (.cells #[.int .u32 t0, .int .u32 t1, .int .u32 t2, .int .u32 t3, .int .u32 t4, .int .u32 t5, .int .u32 t6, .int .u32 t7] 166 (0, 0))) := ⟨(heap_alloc_old _ _ HLb.out).trans HXb.out⟩
  have HWc : Aside0 (Below w.heap.size w (wa.alloc (.cells #[] 5))) := ⟨below_alloc HBb.out _⟩
  have HSE : Aside0 (w.heap.size ≤ (wa.alloc (.cells #[] 5)).heap.size) := ⟨Nat.le_trans (Nat.le_of_lt HLb.out) (below_alloc (Below.refl wa.heap.size wa) _).size⟩
  have d8 : (wa.alloc (.cells #[] 5)).cell? ⟨g, 8, none⟩ = some (.slice ao p.length cap) := (blk_cell HGc.out 8).trans rfl
  have d9 : (wa.alloc (.cells #[] 5)).cell? ⟨g, 9, none⟩ = some (.int .i64 n) := (blk_cell HGc.out 9).trans rfl
  rename_i Q' K hK
  have TAIL : ∀ (a1 : Option Addr) (c1 : Nat) (v3 : Value) (w3 : World), w3.ownsRow w.heap.size 5 1 v3 (p ++ bytesOf pd).length (nums .u8 (p ++ bytesOf pd)) → w3.heap[w.heap.size]? = some (.cells #[.int .u32 t0, .int .u32 t1, .int .u32 t2, .int .u32 t3, .int .u32 t4, .int .u32 t5, .int .u32 t6, .int .u32 t7] 166 (0, 0)) → Below w.heap.size w w3 → K { tmps := #[(.pointer (some ⟨g, 0, none⟩) : Value), undef, .string ⟨#[]⟩, .pointer (some ⟨w.heap.size, 0, none⟩), v3, undef, undef, undef, (.pointer (some ⟨g, 0, none⟩) : Value), .bool false, (.pointer (some ⟨g, 0, none⟩) : Value), (.pointer (some ⟨g, 0, none⟩) : Value), (.pointer (some ⟨g, 0, none⟩) : Value), .agg #[.int .u32 t0, .int .u32 t1, .int .u32 t2, .int .u32 t3, .int .u32 t4, .int .u32 t5, .int .u32 t6, .int .u32 t7], .slice (some ⟨wa.heap.size, 0, none⟩) 0 0, (.pointer (some ⟨g, 0, none⟩) : Value), (.pointer (some ⟨g, 0, none⟩) : Value), .pointer (some ⟨g, 8, none⟩), .slice ao p.length cap, .slice a1 p.length c1, (.pointer (some ⟨g, 0, none⟩) : Value), (.pointer (some ⟨g, 0, none⟩) : Value), .pointer (some ⟨g, 9, none⟩), .int .i64 n, .string pd, v3, undef, undef, undef, undef, undef, undef, undef, undef, undef, undef, undef, undef, undef, undef, undef, undef, undef, undef, undef, undef, undef, undef, undef, undef, undef, undef, undef, undef, undef, undef], defers := [] } w3 := by
    intro a1 c1 v3 w3 ho hx hb
    apply hK
    clear hK
    obtain ⟨l, hl⟩ : ∃ l, p ++ bytesOf pd = l := ⟨_, rfl⟩
    rw [hl] at ho
    obtain ⟨a3, c3, rfl⟩ := own_is_slice ho
    have HCL : Aside0 (l.length ≤ c3) := ⟨own_cap_le ho⟩
    have hne := own_ne_blk ho hx (by decide)
    have HC : Aside0 (Kd.F (Kd.int .u8) w3 (fun k => k ≠ w.heap.size) a3 l.length l) := ⟨Kd.V_F (Kd.R_V (base' := 0) (Kd.R_of_own (enc := Value.int .u8) (h1 := fun _ => rfl) ho (fun k hk e => hne (by rw [hk, e]))))⟩
    have HX := Aside0.mk hx
    have HW := Aside0.mk hb
    have HLE : Aside0 (l.length = 64 * (l.length / 64)) := ⟨by have h1 := HMOD.out; rw [hl] at h1; omega⟩
    obtain ⟨F, hF⟩ : ∃ F, foldW (l.length / 64) [t0, t1, t2, t3, t4, t5, t6, t7] l = F := ⟨_, rfl⟩
    have HF := Aside0.mk hF
    have HRF : Aside0 (strOfNums (outW F) = R) := ⟨by rw [← HRR.out, hsumS, hl, hF]⟩
    clear ho hx hb hl hne hF HE HGc HOc HAc HXc HWc HSE d8 d9 c8 c9 HXb HGb HOb HBb HLb HPAD HPL HOWN HG HLT HP HMOD HRR
    go_wp2_with fail
    go_loopg [4] (l.length / 64) (fun gg v4 wr => ∃ (a : Option Addr) (c : Nat) (l : List Int) (t0 t1 t2 t3 t4 t5 t6 t7 : Int), v4 = .slice a l.length c ∧ Aside0 (l.length = 64 * gg) ∧ Aside0 (l.length ≤ c) ∧ Aside0 (Kd.F (Kd.int .u8) wr (fun k => k ≠ w.heap.size) a l.length l) ∧ Aside0 (wr.heap[w.heap.size]? = some (.cells #[.int .u32 t0, .int .u32 t1, .int .u32 t2, .int .u32 t3, .int .u32 t4, .int .u32 t5, .int .u32 t6, .int .u32 t7] 166 (0, 0))) ∧ Aside0 (foldW gg [t0, t1, t2, t3, t4, t5, t6, t7] l = F) ∧ Aside0 (Below w.heap.size w wr))
    case atStart => exact ⟨a3, c3, l, _, _, _, _, _, _, _, _, rfl, HLE, HCL, HC, HX, HF, HW⟩
    case round =>
      clear HLE HCL HC HX HF HW
      obtain ⟨a, c, l, t0, t1, t2, t3, t4, t5, t6, t7, rfl, HLE, HCL, HC, HX, HF, HW⟩ := hrel
      have e0 : wr.cell? ⟨w.heap.size, 0, none⟩ = some (.int .u32 t0) := (blk_cell HX.out 0).trans rfl
      have e1 : wr.cell? ⟨w.heap.size, 1, none⟩ = some (.int .u32 t1) := (blk_cell HX.out 1).trans rfl
      have e2 : wr.cell? ⟨w.heap.size, 2, none⟩ = some (.int .u32 t2) := (blk_cell HX.out 2).trans rfl
      have e3 : wr.cell? ⟨w.heap.size, 3, none⟩ = some (.int .u32 t3) := (blk_cell HX.out 3).trans rfl
      have e4 : wr.cell? ⟨w.heap.size, 4, none⟩ = some (.int .u32 t4) := (blk_cell HX.out 4).trans rfl
      have e5 : wr.cell? ⟨w.heap.size, 5, none⟩ = some (.int .u32 t5) := (blk_cell HX.out 5).trans rfl
      have e6 : wr.cell? ⟨w.heap.size, 6, none⟩ = some (.int .u32 t6) := (blk_cell HX.out 6).trans rfl
      have e7 : wr.cell? ⟨w.heap.size, 7, none⟩ = some (.int .u32 t7) := (blk_cell HX.out 7).trans rfl
      cases gk with
      | zero =>
        obtain rfl : l = [] := List.eq_nil_of_length_eq_zero (by have := HLE.out; omega)
        have hF : [t0, t1, t2, t3, t4, t5, t6, t7] = F := HF.out
        subst hF
        clear HF HC HCL HLE HX
        go_wp2_with fail
        clear e0 e1 e2 e3 e4 e5 e6 e7
        go_loopg [5, 7, 36] 8 (fun gg v5 v7 v36 wr => ∃ k : Nat, v36 = .int .i64 k ∧ Aside0 (k + gg = 8) ∧ Aside0 (wr.ownsRow w.heap.size 5 1 v5 (outW ([t0, t1, t2, t3, t4, t5, t6, t7].take k)).length (nums .u8 (outW ([t0, t1, t2, t3, t4, t5, t6, t7].take k)))) ∧ Aside0 (Below w.heap.size w wr))
        case atStart => exact ⟨0, rfl, ⟨rfl⟩, ⟨own_nil _ _ _ _⟩, HW⟩
        case round =>
          obtain ⟨k, rfl, HK, HO, HB⟩ := hrel
          clear HW
          obtain hk | hk | hk | hk | hk | hk | hk | hk | hk : k = 0 ∨ k = 1 ∨ k = 2 ∨ k = 3 ∨ k = 4 ∨ k = 5 ∨ k = 6 ∨ k = 7 ∨ k = 8 := by have := HK.out; omega
          · subst hk
            obtain ⟨xs, hxs⟩ : ∃ xs, outW ([t0, t1, t2, t3, t4, t5, t6, t7].take 0) = xs := ⟨_, rfl⟩
            have HO2 := HO.out
            rw [hxs] at HO2
            obtain ⟨A5, c5, rfl⟩ := own_slice HO2
            have HOX := Aside0.mk HO2
            have HXL : Aside0 (xs.length ≤ 32) := ⟨by rw [← hxs, outW_length]; simp⟩
            have HXS := Aside0.mk hxs
            clear HO HO2 hxs
            rw [show ((0 : Nat) : Int) = 0 from rfl]
            have hix : ∀ W : World, (Instr.index 166 (.agg #[.int .u32 t0, .int .u32 t1, .int .u32 t2, .int .u32 t3, .int .u32 t4, .int .u32 t5, .int .u32 t6, .int .u32 t7]) (.int .i64 0)).run Tryz.prog W = .ok (.int .u32 t0) W := fun W => run_index_word 166 104 #[.int .u32 t0, .int .u32 t1, .int .u32 t2, .int .u32 t3, .int .u32 t4, .int .u32 t5, .int .u32 t6, .int .u32 t7] .i64 0 _ Tryz.underlying166 Tryz.underlying104 (by kernel_rfl) rfl W
            have HB4 := Aside0.mk (below_alloc HB.out (.cells (nums .u8 [t0 / 16777216 % 256, t0 / 65536 % 256, t0 / 256 % 256, t0 % 256]).toArray 5))
            have HLE : Aside0 (w.heap.size ≤ (wr.alloc (.cells (nums .u8 [t0 / 16777216 % 256, t0 / 65536 % 256, t0 / 256 % 256, t0 % 256]).toArray 5)).heap.size) := ⟨HB4.out.size⟩
            have HRD := Aside0.mk (own_reads' (own_lit wr w.heap.size 5 .u8 [t0 / 16777216 % 256, t0 / 65536 % 256, t0 / 256 % 256, t0 % 256] HB.out.size (by simp)))
            go_wp2_with ((with_reducible refine gate_builtin (b := .append) (xs := #[.tmp 39, .tmp 51]) rfl ?_); at_builtin; refine print_append_row (w0 := w) w.heap.size rfl (.tmp 39) (.tmp 51) 90 5 .u8 1 rfl Tryz.underlying90 info5 (by decide) (.slice A5 xs.length c5) xs [t0 / 16777216 % 256, t0 / 65536 % 256, t0 / 256 % 256, t0 % 256] _ 4 4 rfl rfl (own_alloc HOX.out _) HRD.out HB4.out HLE.out ?a1 ?_; (case a1 => have := HXL.out; omega); intro v1 w1 ho1 hb1 hg1 hat1; have HO9 := Aside0.mk ho1; have HB9 := Aside0.mk hb1; clear ho1 hb1 hg1 hat1)
            try go_wp2_with fail
            clear hix
            go_roundg 7
            case measure => have := HK.out; omega
            case rel => exact ⟨1, rfl, ⟨rfl⟩, ⟨by have h1 := HO9.out; rw [← HXS.out] at h1; exact h1⟩, HB9⟩
          · subst hk
            obtain ⟨xs, hxs⟩ : ∃ xs, outW ([t0, t1, t2, t3, t4, t5, t6, t7].take 1) = xs := ⟨_, rfl⟩
            have HO2 := HO.out
            rw [hxs] at HO2
            obtain ⟨A5, c5, rfl⟩ := own_slice HO2
            have HOX := Aside0.mk HO2
            have HXL : Aside0 (xs.length ≤ 32) := ⟨by rw [← hxs, outW_length]; simp⟩
            have HXS := Aside0.mk hxs
            clear HO HO2 hxs
            rw [show ((1 : Nat) : Int) = 1 from rfl]
            have hix : ∀ W : World, (Instr.index 166 (.agg #[.int .u32 t0, .int .u32 t1, .int .u32 t2, .int .u32 t3, .int .u32 t4, .int .u32 t5, .int .u32 t6, .int .u32 t7]) (.int .i64 1)).run Tryz.prog W = .ok (.int .u32 t1) W := fun W => run_index_word 166 104 #[.int .u32 t0, .int .u32 t1, .int .u32 t2, .int .u32 t3, .int .u32 t4, .int .u32 t5, .int .u32 t6, .int .u32 t7] .i64 1 _ Tryz.underlying166 Tryz.underlying104 (by kernel_rfl) rfl W
            have HB4 := Aside0.mk (below_alloc HB.out (.cells (nums .u8 [t1 / 16777216 % 256, t1 / 65536 % 256, t1 / 256 % 256, t1 % 256]).toArray 5))
            have HLE : Aside0 (w.heap.size ≤ (wr.alloc (.cells (nums .u8 [t1 / 16777216 % 256, t1 / 65536 % 256, t1 / 256 % 256, t1 % 256]).toArray 5)).heap.size) := ⟨HB4.out.size⟩
            have HRD := Aside0.mk (own_reads' (own_lit wr w.heap.size 5 .u8 [t1 / 16777216 % 256, t1 / 65536 % 256, t1 / 256 % 256, t1 % 256] HB.out.size (by simp)))
            go_wp2_with ((with_reducible refine gate_builtin (b := .append) (xs := #[.tmp 39, .tmp 51]) rfl ?_); at_builtin; refine print_append_row (w0 := w) w.heap.size rfl (.tmp 39) (.tmp 51) 90 5 .u8 1 rfl Tryz.underlying90 info5 (by decide) (.slice A5 xs.length c5) xs [t1 / 16777216 % 256, t1 / 65536 % 256, t1 / 256 % 256, t1 % 256] _ 4 4 rfl rfl (own_alloc HOX.out _) HRD.out HB4.out HLE.out ?a1 ?_; (case a1 => have := HXL.out; omega); intro v1 w1 ho1 hb1 hg1 hat1; have HO9 := Aside0.mk ho1; have HB9 := Aside0.mk hb1; clear ho1 hb1 hg1 hat1)
            try go_wp2_with fail
            clear hix
            go_roundg 6
            case measure => have := HK.out; omega
            case rel => exact ⟨2, rfl, ⟨rfl⟩, ⟨by have h1 := HO9.out; rw [← HXS.out] at h1; exact h1⟩, HB9⟩
          · subst hk
            obtain ⟨xs, hxs⟩ : ∃ xs, outW ([t0, t1, t2, t3, t4, t5, t6, t7].take 2) = xs := ⟨_, rfl⟩
            have HO2 := HO.out
            rw [hxs] at HO2
            obtain ⟨A5, c5, rfl⟩ := own_slice HO2
            have HOX := Aside0.mk HO2
            have HXL : Aside0 (xs.length ≤ 32) := ⟨by rw [← hxs, outW_length]; simp⟩
            have HXS := Aside0.mk hxs
            clear HO HO2 hxs
            rw [show ((2 : Nat) : Int) = 2 from rfl]
            have hix : ∀ W : World, (Instr.index 166 (.agg #[.int .u32 t0, .int .u32 t1, .int .u32 t2, .int .u32 t3, .int .u32 t4, .int .u32 t5, .int .u32 t6, .int .u32 t7]) (.int .i64 2)).run Tryz.prog W = .ok (.int .u32 t2) W := fun W => run_index_word 166 104 #[.int .u32 t0, .int .u32 t1, .int .u32 t2, .int .u32 t3, .int .u32 t4, .int .u32 t5, .int .u32 t6, .int .u32 t7] .i64 2 _ Tryz.underlying166 Tryz.underlying104 (by kernel_rfl) rfl W
            have HB4 := Aside0.mk (below_alloc HB.out (.cells (nums .u8 [t2 / 16777216 % 256, t2 / 65536 % 256, t2 / 256 % 256, t2 % 256]).toArray 5))
            have HLE : Aside0 (w.heap.size ≤ (wr.alloc (.cells (nums .u8 [t2 / 16777216 % 256, t2 / 65536 % 256, t2 / 256 % 256, t2 % 256]).toArray 5)).heap.size) := ⟨HB4.out.size⟩
            have HRD := Aside0.mk (own_reads' (own_lit wr w.heap.size 5 .u8 [t2 / 16777216 % 256, t2 / 65536 % 256, t2 / 256 % 256, t2 % 256] HB.out.size (by simp)))
            go_wp2_with ((with_reducible refine gate_builtin (b := .append) (xs := #[.tmp 39, .tmp 51]) rfl ?_); at_builtin; refine print_append_row (w0 := w) w.heap.size rfl (.tmp 39) (.tmp 51) 90 5 .u8 1 rfl Tryz.underlying90 info5 (by decide) (.slice A5 xs.length c5) xs [t2 / 16777216 % 256, t2 / 65536 % 256, t2 / 256 % 256, t2 % 256] _ 4 4 rfl rfl (own_alloc HOX.out _) HRD.out HB4.out HLE.out ?a1 ?_; (case a1 => have := HXL.out; omega); intro v1 w1 ho1 hb1 hg1 hat1; have HO9 := Aside0.mk ho1; have HB9 := Aside0.mk hb1; clear ho1 hb1 hg1 hat1)
            try go_wp2_with fail
            clear hix
            go_roundg 5
            case measure => have := HK.out; omega
            case rel => exact ⟨3, rfl, ⟨rfl⟩, ⟨by have h1 := HO9.out; rw [← HXS.out] at h1; exact h1⟩, HB9⟩
          · subst hk
            obtain ⟨xs, hxs⟩ : ∃ xs, outW ([t0, t1, t2, t3, t4, t5, t6, t7].take 3) = xs := ⟨_, rfl⟩
            have HO2 := HO.out
            rw [hxs] at HO2
            obtain ⟨A5, c5, rfl⟩ := own_slice HO2
            have HOX := Aside0.mk HO2
            have HXL : Aside0 (xs.length ≤ 32) := ⟨by rw [← hxs, outW_length]; simp⟩
            have HXS := Aside0.mk hxs
            clear HO HO2 hxs
            rw [show ((3 : Nat) : Int) = 3 from rfl]
            have hix : ∀ W : World, (Instr.index 166 (.agg #[.int .u32 t0, .int .u32 t1, .int .u32 t2, .int .u32 t3, .int .u32 t4, .int .u32 t5, .int .u32 t6, .int .u32 t7]) (.int .i64 3)).run Tryz.prog W = .ok (.int .u32 t3) W := fun W => run_index_word 166 104 #[.int .u32 t0, .int .u32 t1, .int .u32 t2, .int .u32 t3, .int .u32 t4, .int .u32 t5, .int .u32 t6, .int .u32 t7] .i64 3 _ Tryz.underlying166 Tryz.underlying104 (by kernel_rfl) rfl W
            have HB4 := Aside0.mk (below_alloc HB.out (.cells (nums .u8 [t3 / 16777216 % 256, t3 / 65536 % 256, t3 / 256 % 256, t3 % 256]).toArray 5))
            have HLE : Aside0 (w.heap.size ≤ (wr.alloc (.cells (nums .u8 [t3 / 16777216 % 256, t3 / 65536 % 256, t3 / 256 % 256, t3 % 256]).toArray 5)).heap.size) := ⟨HB4.out.size⟩
            have HRD := Aside0.mk (own_reads' (own_lit wr w.heap.size 5 .u8 [t3 / 16777216 % 256, t3 / 65536 % 256, t3 / 256 % 256, t3 % 256] HB.out.size (by simp)))
            go_wp2_with ((with_reducible refine gate_builtin (b := .append) (xs := #[.tmp 39, .tmp 51]) rfl ?_); at_builtin; refine print_append_row (w0 := w) w.heap.size rfl (.tmp 39) (.tmp 51) 90 5 .u8 1 rfl Tryz.underlying90 info5 (by decide) (.slice A5 xs.length c5) xs [t3 / 16777216 % 256, t3 / 65536 % 256, t3 / 256 % 256, t3 % 256] _ 4 4 rfl rfl (own_alloc HOX.out _) HRD.out HB4.out HLE.out ?a1 ?_; (case a1 => have := HXL.out; omega); intro v1 w1 ho1 hb1 hg1 hat1; have HO9 := Aside0.mk ho1; have HB9 := Aside0.mk hb1; clear ho1 hb1 hg1 hat1)
            try go_wp2_with fail
            clear hix
            go_roundg 4
            case measure => have := HK.out; omega
            case rel => exact ⟨4, rfl, ⟨rfl⟩, ⟨by have h1 := HO9.out; rw [← HXS.out] at h1; exact h1⟩, HB9⟩
          · subst hk
            obtain ⟨xs, hxs⟩ : ∃ xs, outW ([t0, t1, t2, t3, t4, t5, t6, t7].take 4) = xs := ⟨_, rfl⟩
            have HO2 := HO.out
            rw [hxs] at HO2
            obtain ⟨A5, c5, rfl⟩ := own_slice HO2
            have HOX := Aside0.mk HO2
            have HXL : Aside0 (xs.length ≤ 32) := ⟨by rw [← hxs, outW_length]; simp⟩
            have HXS := Aside0.mk hxs
            clear HO HO2 hxs
            rw [show ((4 : Nat) : Int) = 4 from rfl]
            have hix : ∀ W : World, (Instr.index 166 (.agg #[.int .u32 t0, .int .u32 t1, .int .u32 t2, .int .u32 t3, .int .u32 t4, .int .u32 t5, .int .u32 t6, .int .u32 t7]) (.int .i64 4)).run Tryz.prog W = .ok (.int .u32 t4) W := fun W => run_index_word 166 104 #[.int .u32 t0, .int .u32 t1, .int .u32 t2, .int .u32 t3, .int .u32 t4, .int .u32 t5, .int .u32 t6, .int .u32 t7] .i64 4 _ Tryz.underlying166 Tryz.underlying104 (by kernel_rfl) rfl W
            have HB4 := Aside0.mk (below_alloc HB.out (.cells (nums .u8 [t4 / 16777216 % 256, t4 / 65536 % 256, t4 / 256 % 256, t4 % 256]).toArray 5))
            have HLE : Aside0 (w.heap.size ≤ (wr.alloc (.cells (nums .u8 [t4 / 16777216 % 256, t4 / 65536 % 256, t4 / 256 % 256, t4 % 256]).toArray 5)).heap.size) := ⟨HB4.out.size⟩
            have HRD := Aside0.mk (own_reads' (own_lit wr w.heap.size 5 .u8 [t4 / 16777216 % 256, t4 / 65536 % 256, t4 / 256 % 256, t4 % 256] HB.out.size (by simp)))
            go_wp2_with ((with_reducible refine gate_builtin (b := .append) (xs := #[.tmp 39, .tmp 51]) rfl ?_); at_builtin; refine print_append_row (w0 := w) w.heap.size rfl (.tmp 39) (.tmp 51) 90 5 .u8 1 rfl Tryz.underlying90 info5 (by decide) (.slice A5 xs.length c5) xs [t4 / 16777216 % 256, t4 / 65536 % 256, t4 / 256 % 256, t4 % 256] _ 4 4 rfl rfl (own_alloc HOX.out _) HRD.out HB4.out HLE.out ?a1 ?_; (case a1 => have := HXL.out; omega); intro v1 w1 ho1 hb1 hg1 hat1; have HO9 := Aside0.mk ho1; have HB9 := Aside0.mk hb1; clear ho1 hb1 hg1 hat1)
            try go_wp2_with fail
            clear hix
            go_roundg 3
            case measure => have := HK.out; omega
            case rel => exact ⟨5, rfl, ⟨rfl⟩, ⟨by have h1 := HO9.out; rw [← HXS.out] at h1; exact h1⟩, HB9⟩
          · subst hk
            obtain ⟨xs, hxs⟩ : ∃ xs, outW ([t0, t1, t2, t3, t4, t5, t6, t7].take 5) = xs := ⟨_, rfl⟩
            have HO2 := HO.out
            rw [hxs] at HO2
            obtain ⟨A5, c5, rfl⟩ := own_slice HO2
            have HOX := Aside0.mk HO2
            have HXL : Aside0 (xs.length ≤ 32) := ⟨by rw [← hxs, outW_length]; simp⟩
            have HXS := Aside0.mk hxs
            clear HO HO2 hxs
            rw [show ((5 : Nat) : Int) = 5 from rfl]
            have hix : ∀ W : World, (Instr.index 166 (.agg #[.int .u32 t0, .int .u32 t1, .int .u32 t2, .int .u32 t3, .int .u32 t4, .int .u32 t5, .int .u32 t6, .int .u32 t7]) (.int .i64 5)).run Tryz.prog W = .ok (.int .u32 t5) W := fun W => run_index_word 166 104 #[.int .u32 t0, .int .u32 t1, .int .u32 t2, .int .u32 t3, .int .u32 t4, .int .u32 t5, .int .u32 t6, .int .u32 t7] .i64 5 _ Tryz.underlying166 Tryz.underlying104 (by kernel_rfl) rfl W
            have HB4 := Aside0.mk (below_alloc HB.out (.cells (nums .u8 [t5 / 16777216 % 256, t5 / 65536 % 256, t5 / 256 % 256, t5 % 256]).toArray 5))
            have HLE : Aside0 (w.heap.size ≤ (wr.alloc (.cells (nums .u8 [t5 / 16777216 % 256, t5 / 65536 % 256, t5 / 256 % 256, t5 % 256]).toArray 5)).heap.size) := ⟨HB4.out.size⟩
            have HRD := Aside0.mk (own_reads' (own_lit wr w.heap.size 5 .u8 [t5 / 16777216 % 256, t5 / 65536 % 256, t5 / 256 % 256, t5 % 256] HB.out.size (by simp)))
            go_wp2_with ((with_reducible refine gate_builtin (b := .append) (xs := #[.tmp 39, .tmp 51]) rfl ?_); at_builtin; refine print_append_row (w0 := w) w.heap.size rfl (.tmp 39) (.tmp 51) 90 5 .u8 1 rfl Tryz.underlying90 info5 (by decide) (.slice A5 xs.length c5) xs [t5 / 16777216 % 256, t5 / 65536 % 256, t5 / 256 % 256, t5 % 256] _ 4 4 rfl rfl (own_alloc HOX.out _) HRD.out HB4.out HLE.out ?a1 ?_; (case a1 => have := HXL.out; omega); intro v1 w1 ho1 hb1 hg1 hat1; have HO9 := Aside0.mk ho1; have HB9 := Aside0.mk hb1; clear ho1 hb1 hg1 hat1)
            try go_wp2_with fail
            clear hix
            go_roundg 2
            case measure => have := HK.out; omega
            case rel => exact ⟨6, rfl, ⟨rfl⟩, ⟨by have h1 := HO9.out; rw [← HXS.out] at h1; exact h1⟩, HB9⟩
          · subst hk
            obtain ⟨xs, hxs⟩ : ∃ xs, outW ([t0, t1, t2, t3, t4, t5, t6, t7].take 6) = xs := ⟨_, rfl⟩
            have HO2 := HO.out
            rw [hxs] at HO2
            obtain ⟨A5, c5, rfl⟩ := own_slice HO2
            have HOX := Aside0.mk HO2
            have HXL : Aside0 (xs.length ≤ 32) := ⟨by rw [← hxs, outW_length]; simp⟩
            have HXS := Aside0.mk hxs
            clear HO HO2 hxs
            rw [show ((6 : Nat) : Int) = 6 from rfl]
            have hix : ∀ W : World, (Instr.index 166 (.agg #[.int .u32 t0, .int .u32 t1, .int .u32 t2, .int .u32 t3, .int .u32 t4, .int .u32 t5, .int .u32 t6, .int .u32 t7]) (.int .i64 6)).run Tryz.prog W = .ok (.int .u32 t6) W := fun W => run_index_word 166 104 #[.int .u32 t0, .int .u32 t1, .int .u32 t2, .int .u32 t3, .int .u32 t4, .int .u32 t5, .int .u32 t6, .int .u32 t7] .i64 6 _ Tryz.underlying166 Tryz.underlying104 (by kernel_rfl) rfl W
            have HB4 := Aside0.mk (below_alloc HB.out (.cells (nums .u8 [t6 / 16777216 % 256, t6 / 65536 % 256, t6 / 256 % 256, t6 % 256]).toArray 5))
            have HLE : Aside0 (w.heap.size ≤ (wr.alloc (.cells (nums .u8 [t6 / 16777216 % 256, t6 / 65536 % 256, t6 / 256 % 256, t6 % 256]).toArray 5)).heap.size) := ⟨HB4.out.size⟩
            have HRD := Aside0.mk (own_reads' (own_lit wr w.heap.size 5 .u8 [t6 / 16777216 % 256, t6 / 65536 % 256, t6 / 256 % 256, t6 % 256] HB.out.size (by simp)))
            go_wp2_with ((with_reducible refine gate_builtin (b := .append) (xs := #[.tmp 39, .tmp 51]) rfl ?_); at_builtin; refine print_append_row (w0 := w) w.heap.size rfl (.tmp 39) (.tmp 51) 90 5 .u8 1 rfl Tryz.underlying90 info5 (by decide) (.slice A5 xs.length c5) xs [t6 / 16777216 % 256, t6 / 65536 % 256, t6 / 256 % 256, t6 % 256] _ 4 4 rfl rfl (own_alloc HOX.out _) HRD.out HB4.out HLE.out ?a1 ?_; (case a1 => have := HXL.out; omega); intro v1 w1 ho1 hb1 hg1 hat1; have HO9 := Aside0.mk ho1; have HB9 := Aside0.mk hb1; clear ho1 hb1 hg1 hat1)
            try go_wp2_with fail
            clear hix
            go_roundg 1
            case measure => have := HK.out; omega
            case rel => exact ⟨7, rfl, ⟨rfl⟩, ⟨by have h1 := HO9.out; rw [← HXS.out] at h1; exact h1⟩, HB9⟩
          · subst hk
            obtain ⟨xs, hxs⟩ : ∃ xs, outW ([t0, t1, t2, t3, t4, t5, t6, t7].take 7) = xs := ⟨_, rfl⟩
            have HO2 := HO.out
            rw [hxs] at HO2
            obtain ⟨A5, c5, rfl⟩ := own_slice HO2
            have HOX := Aside0.mk HO2
            have HXL : Aside0 (xs.length ≤ 32) := ⟨by rw [← hxs, outW_length]; simp⟩
            have HXS := Aside0.mk hxs
            clear HO HO2 hxs
            rw [show ((7 : Nat) : Int) = 7 from rfl]
            have hix : ∀ W : World, (Instr.index 166 (.agg #[.int .u32 t0, .int .u32 t1, .int .u32 t2, .int .u32 t3, .int .u32 t4, .int .u32 t5, .int .u32 t6, .int .u32 t7]) (.int .i64 7)).run Tryz.prog W = .ok (.int .u32 t7) W := fun W => run_index_word 166 104 #[.int .u32 t0, .int .u32 t1, .int .u32 t2, .int .u32 t3, .int .u32 t4, .int .u32 t5, .int .u32 t6, .int .u32 t7] .i64 7 _ Tryz.underlying166 Tryz.underlying104 (by kernel_rfl) rfl W
            have HB4 := Aside0.mk (below_alloc HB.out (.cells (nums .u8 [t7 / 16777216 % 256, t7 / 65536 % 256, t7 / 256 % 256, t7 % 256]).toArray 5))
            have HLE : Aside0 (w.heap.size ≤ (wr.alloc (.cells (nums .u8 [t7 / 16777216 % 256, t7 / 65536 % 256, t7 / 256 % 256, t7 % 256]).toArray 5)).heap.size) := ⟨HB4.out.size⟩
            have HRD := Aside0.mk (own_reads' (own_lit wr w.heap.size 5 .u8 [t7 / 16777216 % 256, t7 / 65536 % 256, t7 / 256 % 256, t7 % 256] HB.out.size (by simp)))
            go_wp2_with ((with_reducible refine gate_builtin (b := .append) (xs := #[.tmp 39, .tmp 51]) rfl ?_); at_builtin; refine print_append_row (w0 := w) w.heap.size rfl (.tmp 39) (.tmp 51) 90 5 .u8 1 rfl Tryz.underlying90 info5 (by decide) (.slice A5 xs.length c5) xs [t7 / 16777216 % 256, t7 / 65536 % 256, t7 / 256 % 256, t7 % 256] _ 4 4 rfl rfl (own_alloc HOX.out _) HRD.out HB4.out HLE.out ?a1 ?_; (case a1 => have := HXL.out; omega); intro v1 w1 ho1 hb1 hg1 hat1; have HO9 := Aside0.mk ho1; have HB9 := Aside0.mk hb1; clear ho1 hb1 hg1 hat1)
            try go_wp2_with fail
            clear hix
            go_roundg 0
            case measure => have := HK.out; omega
            case rel => exact ⟨8, rfl, ⟨rfl⟩, ⟨by have h1 := HO9.out; rw [← HXS.out] at h1; exact h1⟩, HB9⟩
          · subst hk
            rw [show ((8 : Nat) : Int) = 8 from rfl]
            have hcv := own_string (P := Tryz.prog) (src := 90) (dst := 9) Tryz.underlying90 Tryz.underlying5 Tryz.underlying9 HO.out
            rw [show outW ([t0, t1, t2, t3, t4, t5, t6, t7].take 8) = outW [t0, t1, t2, t3, t4, t5, t6, t7] from rfl, HRF.out] at hcv
            go_wp2_with fail
            go_ret
            exact ⟨rfl, HB.out⟩
      | succ d =>
        obtain ⟨n1, hn1⟩ : ∃ n1, l.length = n1 := ⟨_, rfl⟩
        have LEN := Aside0.mk hn1
        have hm : 64 ≤ n1 := by have := HLE.out; omega
        have h64 : (64 : Int) ≤ (n1 : Int) := by omega
        have hpos : (0 : Int) < (n1 : Int) := by omega
        have hcn : 64 ≤ c := by have := HCL.out; omega
        have hcz : (64 : Int) ≤ (c : Int) := by omega
        have hnc : (n1 : Int) ≤ (c : Int) := by have := HCL.out; omega
        rw [hn1]
        clear hn1
        obtain ⟨i0, hi, hzz⟩ := Option.map_eq_some_iff.1 info5
        simp only [Prod.mk.injEq] at hzz
        obtain ⟨A', hcut, hA⟩ := cut_F (P := Tryz.prog) 90 5 .i64 Tryz.underlying90 hi hzz.2.1 a n1 c 64 hm
        have HA := Aside0.mk hA
        have hcut2 : ∀ W : World, (Instr.slice 90 (.slice a n1 c) (some (.int .i64 64)) none none).run Tryz.prog W = .ok (.slice A' (n1 - 64) (c - 64)) W := hcut
        obtain ⟨b, hb⟩ : ∃ b, l.take 64 = b := ⟨_, rfl⟩
        have HBL : Aside0 (b.length = 64) := ⟨by rw [← hb, List.length_take, LEN.out]; omega⟩
        have HB64 : Aside0 (Kd.C (Kd.int .u8) wr a 64 b) := ⟨by have h1 := Kd.C_take (m := 64) (Kd.F_now HC.out) (by rw [LEN.out]; exact hm); rw [hb, HBL.out] at h1; exact h1⟩
        have HBT := Aside0.mk hb
        clear hb hA hcut hi hzz hm
        go_wp2_with fail
        go_region_with (go_at_call 132; refine (sha_Hash_Sum.mixE _ _ _ _ _ _ _ _ a c b HBL.out _ (by first | exact HB64.out | exact Kd.C_below HB64.out (Below.drew (Below.refl _ _)) | exact Kd.C_below HB64.out (pw_below_drewN (Below.refl _ _) _)) hcn).mono ?_; rintro e w4 ⟨m0, m1, m2, m3, m4, m5, m6, m7, rfl, hm, hb4⟩; have HM := Aside0.mk hm; have HX4 : Aside0 (w4.heap[w.heap.size]? = some (.cells #[.int .u32 t0, .int .u32 t1, .int .u32 t2, .int .u32 t3, .int .u32 t4, .int .u32 t5, .int .u32 t6, .int .u32 t7] 166 (0, 0))) := ⟨by first | exact blk_below HX.out hb4 | exact blk_below (blk_drew HX.out) hb4 | exact blk_below (blk_drew (blk_drew HX.out)) hb4⟩; have HC4 : Aside0 (Kd.F (Kd.int .u8) w4 (fun k => k ≠ w.heap.size) a l.length l) := ⟨by first | exact Kd.F_below HC.out hb4 | exact Kd.F_below (Kd.F_drew HC.out) hb4 | exact Kd.F_below (Kd.F_drew (Kd.F_drew HC.out)) hb4⟩; have HW4 : Aside0 (Below w.heap.size w w4) := ⟨by first | exact below_step HW.out hb4 | exact below_step (below_drew HW.out) hb4 | exact below_step (below_drew (below_drew HW.out)) hb4⟩; clear hm hb4; have k0 : w4.cell? ⟨w.heap.size, 0, none⟩ = some (.int .u32 t0) := (blk_cell HX4.out 0).trans rfl; have z0 := blk_frozen HX4.out 0; have k1 : w4.cell? ⟨w.heap.size, 1, none⟩ = some (.int .u32 t1) := (blk_cell HX4.out 1).trans rfl; have z1 := blk_frozen HX4.out 1; have k2 : w4.cell? ⟨w.heap.size, 2, none⟩ = some (.int .u32 t2) := (blk_cell HX4.out 2).trans rfl; have z2 := blk_frozen HX4.out 2; have k3 : w4.cell? ⟨w.heap.size, 3, none⟩ = some (.int .u32 t3) := (blk_cell HX4.out 3).trans rfl; have z3 := blk_frozen HX4.out 3; have k4 : w4.cell? ⟨w.heap.size, 4, none⟩ = some (.int .u32 t4) := (blk_cell HX4.out 4).trans rfl; have z4 := blk_frozen HX4.out 4; have k5 : w4.cell? ⟨w.heap.size, 5, none⟩ = some (.int .u32 t5) := (blk_cell HX4.out 5).trans rfl; have z5 := blk_frozen HX4.out 5; have k6 : w4.cell? ⟨w.heap.size, 6, none⟩ = some (.int .u32 t6) := (blk_cell HX4.out 6).trans rfl; have z6 := blk_frozen HX4.out 6; have k7 : w4.cell? ⟨w.heap.size, 7, none⟩ = some (.int .u32 t7) := (blk_cell HX4.out 7).trans rfl; have z7 := blk_frozen HX4.out 7)
        all_goals
          have bp0 := blk_put (cs' := #[.int .u32 m0, .int .u32 t1, .int .u32 t2, .int .u32 t3, .int .u32 t4, .int .u32 t5, .int .u32 t6, .int .u32 t7]) HX4.out 0 (.int .u32 m0) rfl
          have bp1 := blk_put (cs' := #[.int .u32 m0, .int .u32 m1, .int .u32 t2, .int .u32 t3, .int .u32 t4, .int .u32 t5, .int .u32 t6, .int .u32 t7]) bp0 1 (.int .u32 m1) rfl
          have bp2 := blk_put (cs' := #[.int .u32 m0, .int .u32 m1, .int .u32 m2, .int .u32 t3, .int .u32 t4, .int .u32 t5, .int .u32 t6, .int .u32 t7]) bp1 2 (.int .u32 m2) rfl
          have bp3 := blk_put (cs' := #[.int .u32 m0, .int .u32 m1, .int .u32 m2, .int .u32 m3, .int .u32 t4, .int .u32 t5, .int .u32 t6, .int .u32 t7]) bp2 3 (.int .u32 m3) rfl
          have bp4 := blk_put (cs' := #[.int .u32 m0, .int .u32 m1, .int .u32 m2, .int .u32 m3, .int .u32 m4, .int .u32 t5, .int .u32 t6, .int .u32 t7]) bp3 4 (.int .u32 m4) rfl
          have bp5 := blk_put (cs' := #[.int .u32 m0, .int .u32 m1, .int .u32 m2, .int .u32 m3, .int .u32 m4, .int .u32 m5, .int .u32 t6, .int .u32 t7]) bp4 5 (.int .u32 m5) rfl
          have bp6 := blk_put (cs' := #[.int .u32 m0, .int .u32 m1, .int .u32 m2, .int .u32 m3, .int .u32 m4, .int .u32 m5, .int .u32 m6, .int .u32 t7]) bp5 6 (.int .u32 m6) rfl
          have bp7 := blk_put (cs' := #[.int .u32 m0, .int .u32 m1, .int .u32 m2, .int .u32 m3, .int .u32 m4, .int .u32 m5, .int .u32 m6, .int .u32 m7]) bp6 7 (.int .u32 m7) rfl
          have HX5 := Aside0.mk bp7
          clear bp0 bp1 bp2 bp3 bp4 bp5 bp6 bp7
          have HC5 := Aside0.mk (Kd.F_far (Kd.F_far (Kd.F_far (Kd.F_far (Kd.F_far (Kd.F_far (Kd.F_far (Kd.F_far HC4.out (p := ⟨w.heap.size, 0, none⟩) (fun k hk => hk) (.int .u32 m0)) (p := ⟨w.heap.size, 1, none⟩) (fun k hk => hk) (.int .u32 m1)) (p := ⟨w.heap.size, 2, none⟩) (fun k hk => hk) (.int .u32 m2)) (p := ⟨w.heap.size, 3, none⟩) (fun k hk => hk) (.int .u32 m3)) (p := ⟨w.heap.size, 4, none⟩) (fun k hk => hk) (.int .u32 m4)) (p := ⟨w.heap.size, 5, none⟩) (fun k hk => hk) (.int .u32 m5)) (p := ⟨w.heap.size, 6, none⟩) (fun k hk => hk) (.int .u32 m6)) (p := ⟨w.heap.size, 7, none⟩) (fun k hk => hk) (.int .u32 m7))
          have HW5 := Aside0.mk ((below_set (below_set (below_set (below_set (below_set (below_set (below_set (below_set HW4.out (Nat.le_refl _)) (Nat.le_refl _)) (Nat.le_refl _)) (Nat.le_refl _)) (Nat.le_refl _)) (Nat.le_refl _)) (Nat.le_refl _)) (Nat.le_refl _)) : Below w.heap.size w (((((((((w4.setCell ⟨w.heap.size, 0, none⟩ (.int .u32 m0)).setCell ⟨w.heap.size, 1, none⟩ (.int .u32 m1)).setCell ⟨w.heap.size, 2, none⟩ (.int .u32 m2)).setCell ⟨w.heap.size, 3, none⟩ (.int .u32 m3)).setCell ⟨w.heap.size, 4, none⟩ (.int .u32 m4)).setCell ⟨w.heap.size, 5, none⟩ (.int .u32 m5)).setCell ⟨w.heap.size, 6, none⟩ (.int .u32 m6)).setCell ⟨w.heap.size, 7, none⟩ (.int .u32 m7))))
          clear HX4 HC4 HW4 k0 z0 k1 z1 k2 z2 k3 z3 k4 z4 k5 z5 k6 z6 k7 z7
          generalize ((((((((w4.setCell ⟨w.heap.size, 0, none⟩ (.int .u32 m0)).setCell ⟨w.heap.size, 1, none⟩ (.int .u32 m1)).setCell ⟨w.heap.size, 2, none⟩ (.int .u32 m2)).setCell ⟨w.heap.size, 3, none⟩ (.int .u32 m3)).setCell ⟨w.heap.size, 4, none⟩ (.int .u32 m4)).setCell ⟨w.heap.size, 5, none⟩ (.int .u32 m5)).setCell ⟨w.heap.size, 6, none⟩ (.int .u32 m6)).setCell ⟨w.heap.size, 7, none⟩ (.int .u32 m7)) = w5 at *
          go_wp2_with fail
          go_roundg d
          case measure => exact Nat.lt_succ_self _
          case rel => exact ⟨A', c - 64, l.drop 64, m0, m1, m2, m3, m4, m5, m6, m7, by rw [List.length_drop, LEN.out], ⟨by have h1 := HLE.out; rw [List.length_drop]; omega⟩, ⟨by have h1 := HCL.out; rw [List.length_drop]; omega⟩, ⟨by have h1 := HA.out w5 _ l (by have h2 := HCL.out; have h3 := LEN.out; omega) (by rw [← LEN.out]; exact HC5.out); rw [List.length_drop, LEN.out]; exact h1⟩, HX5, ⟨by have h1 := HF.out; rw [foldW, HBT.out, HM.out] at h1; exact h1⟩, HW5⟩
  go_region_law (first
    | (refine sha_Hash_Sum.stepRow rfl (.tmp 14) (.tmp 18) 90 rfl w.heap.size 5 Tryz.underlying90 info5 (.slice (some ⟨wa.heap.size, 0, none⟩) 0 0) [] ao cap p rfl rfl HE.out (own_reads' HOc.out) HAc.out ?l1 ?l2 ?_; (case l1 => have := HP.out; simp; omega); (case l2 => exact HSE.out); intro v1 w1 ho1 hg1; rw [List.nil_append] at ho1; obtain ⟨a1, c1, rfl⟩ := own_is_slice ho1; have HO1 := Aside0.mk ho1; have HG1 := Aside0.mk hg1; have HGd := Aside0.mk ((hg1.block g (Array.getElem?_eq_some_iff.1 HGc.out).1 (own_ne_blk HE.out HGc.out (by decide))).trans HGc.out); have d9b : w1.cell? ⟨g, 9, none⟩ = some (.int .i64 n) := (blk_cell HGd.out 9).trans rfl; have HX1 := Aside0.mk ((hg1.block w.heap.size (Array.getElem?_eq_some_iff.1 HXc.out).1 (own_ne_blk HE.out HXc.out (by decide))).trans HXc.out); have HW1 : Aside0 (Below w.heap.size w w1) := ⟨by first | exact HWc.out.grown hg1 HSE.out (fun k hk => own_base HE.out k hk) | exact (Below.drew HWc.out).grown hg1 HSE.out (fun k hk => own_base HE.out k hk) | exact (Below.drew (Below.drew HWc.out)).grown hg1 HSE.out (fun k hk => own_base HE.out k hk) | exact (Below.drew (Below.drew (Below.drew HWc.out))).grown hg1 HSE.out (fun k hk => own_base HE.out k hk)⟩; have HS1 := Aside0.mk (Nat.le_trans HSE.out hg1.size); clear ho1 hg1)
    | (go_simp; go_at_call 133; refine (sha_Pad.calls kp (n : Int) pd _ HPAD.out).mono ?_; rintro e w2 ⟨rfl, hb2⟩; have HO2 : Aside0 (w2.ownsRow w.heap.size 5 1 (.slice a1 p.length c1) p.length (nums .u8 p)) := ⟨own_move HO1.out fun k hk => hb2.block k (own_lt HO1.out k hk)⟩; have HX2 := Aside0.mk ((hb2.block w.heap.size (Array.getElem?_eq_some_iff.1 HX1.out).1).trans HX1.out); have HW2 : Aside0 (Below w.heap.size w w2) := ⟨by first | exact HW1.out.trans (hb2.mono HS1.out) | exact (Below.drew HW1.out).trans (hb2.mono HS1.out) | exact (Below.drew (Below.drew HW1.out)).trans (hb2.mono HS1.out) | exact (Below.drew (Below.drew (Below.drew HW1.out))).trans (hb2.mono HS1.out)⟩; have HS2 := Aside0.mk (Nat.le_trans HS1.out hb2.size); clear hb2)
    | (refine step_append_str rfl (.tmp 19) (.tmp 24) 90 9 rfl w.heap.size 5 Tryz.underlying90 Tryz.underlying9 info5 (.slice a1 p.length c1) p pd rfl rfl HO2.out ?l3 HS2.out ?_; (case l3 => have := HP.out; have := HPL.out; omega); intro v3 w3 ho3 hg3; have HO3 := Aside0.mk ho3; have HX3 := Aside0.mk ((hg3.block w.heap.size (Array.getElem?_eq_some_iff.1 HX2.out).1 (own_ne_blk HO2.out HX2.out (by decide))).trans HX2.out); have HW3 : Aside0 (Below w.heap.size w w3) := ⟨by first | exact HW2.out.grown hg3 HS2.out (fun k hk => own_base HO2.out k hk) | exact (Below.drew HW2.out).grown hg3 HS2.out (fun k hk => own_base HO2.out k hk) | exact (Below.drew (Below.drew HW2.out)).grown hg3 HS2.out (fun k hk => own_base HO2.out k hk) | exact (Below.drew (Below.drew (Below.drew HW2.out))).grown hg3 HS2.out (fun k hk => own_base HO2.out k hk)⟩; clear ho3 hg3))
  all_goals exact TAIL _ _ _ _ HO3.out HX3.out HW3.out
end Go.Proofs.YtghhmnjkgnoogaaGreat.POuterWholes
