-- Written by this session's own program (wip/tools/mkprint.py) over the kit's printer, with overrides.
import Derived.Test.YtghhmnjkgnoogaaTOuterHoldsa
import Derived.Test.YtghhmnjkgnoogaaQOuterHoldsx0
import Derived.Test.YtghhmnjkgnoogaaQOuterHoldsx1
import Derived.Test.YtghhmnjkgnoogaaQOuterHoldsx5
import Derived.Test.YtghhmnjkgnoogaaQOuterHoldsx6
namespace Go.Proofs.Ytghhmnjkgnoogaa.POuterHolds
open Go.RowKit Go.Mine Go.Proofs.YtghhmnjkgnoogaaW.PrintWords Go.Proofs.YtghhmnjkgnoogaaW.PrintLast Go.Proofs.YtghhmnjkgnoogaaW.PrintMore
attribute [local go_sem] max2_int min2_int max_two min_two max_three min_three max_four min_four   -- for this text's walks alone
set_option linter.unusedVariables false
set_option linter.unusedSimpArgs false
/-! ### outer_Holds: function 13 -/
/-- Do all of some rules hold. -/
def outer_Holds.all (k : Nat) (l0 : List ByteArray) (z : Int) : List (List Int) → Option Bool
  | [] => some true
  | r :: rs => (outer_sum.f k l0 r z).bind fun s => (block_Zero.f z).bind fun t => (outer_Holds.all k l0 z rs).bind fun b => some ((s.toList == t.toList) && b)
def outer_Holds.f (k : Nat) (a0_0 a0_1 a0_2 a0_3 : Int) (l0 : List ByteArray) : Option Bool :=
  (outer_Check.f a0_0 a0_1 a0_2 a0_3).bind fun c => if c = true then (if (l0.length : Int) = wrap64 (a0_1 + a0_2) then (outer_sized.f l0).bind fun s => if s = true then
    (if 0 < l0.length then (outer_rules.f k a0_0 a0_1 a0_2 a0_3).bind fun rs => outer_Holds.all k l0 ((rdOf ByteArray.empty l0 0).size : Int) rs else none) else some false else some false) else some false
theorem outer_Holds.all_mono (k : Nat) (l0 : List ByteArray) (z : Int) : ∀ rs, LeO (outer_Holds.all k l0 z rs) (outer_Holds.all (k + 1) l0 z rs)
  | [] => LeO.refl _
  | r :: rs => by
    unfold outer_Holds.all
    exact LeO.bind (outer_sum.mono _ _ _ _) (fun _ => LeO.bind (LeO.refl _) (fun _ => LeO.bind (outer_Holds.all_mono k l0 z rs) (fun _ => LeO.refl _)))
theorem outer_Holds.mono : ∀ a0_0 a0_1 a0_2 a0_3 l0 k, LeO (outer_Holds.f k a0_0 a0_1 a0_2 a0_3 l0) (outer_Holds.f (k + 1) a0_0 a0_1 a0_2 a0_3 l0) := by
  intro a0_0 a0_1 a0_2 a0_3 l0 k
  unfold outer_Holds.f
  exact LeO.bind (LeO.refl _) (fun _ => LeO.ite (LeO.ite (LeO.bind (LeO.refl _) (fun _ => LeO.ite (LeO.ite (LeO.bind (outer_rules.mono _ _ _ _ _) (fun _ => outer_Holds.all_mono _ _ _ _)) (LeO.refl _)) (LeO.refl _))) (LeO.refl _)) (LeO.refl _))
def outer_Holds.bad (k : Nat) (l0 : List ByteArray) (z : Int) (r : List Int) : Bool := ((outer_sum.f k l0 r z).getD ⟨#[]⟩).toList != ((block_Zero.f z).getD ⟨#[]⟩).toList
theorem outer_Holds.all_some (k : Nat) (l0 : List ByteArray) (z : Int) : ∀ rs b, outer_Holds.all k l0 z rs = some b → (∀ r ∈ rs, ∃ s t, outer_sum.f k l0 r z = some s ∧ block_Zero.f z = some t) ∧ b = !(rs.any (outer_Holds.bad k l0 z))
  | [], b, h => ⟨fun r hr => absurd hr (by simp), by unfold outer_Holds.all at h; rw [← Option.some.inj h]; rfl⟩
  | r :: rs, b, h => by
    unfold outer_Holds.all at h
    obtain ⟨s, hs, h⟩ := Option.bind_eq_some_iff.mp h
    obtain ⟨t, ht, h⟩ := Option.bind_eq_some_iff.mp h
    obtain ⟨b2, hb2, h⟩ := Option.bind_eq_some_iff.mp h
    obtain ⟨h1, h2⟩ := outer_Holds.all_some k l0 z rs b2 hb2
    refine ⟨fun x hx => ?_, ?_⟩
    · rcases List.mem_cons.1 hx with e | e
      · subst e; exact ⟨s, t, hs, ht⟩
      · exact h1 x e
    · rw [← Option.some.inj h, h2, List.any_cons]
      have hb : outer_Holds.bad k l0 z r = (s.toList != t.toList) := by unfold outer_Holds.bad; rw [hs, ht]; rfl
      rw [hb, Bool.not_or]
      unfold bne
      rw [Bool.not_not]
theorem outer_Holds.one {w : World} {g : Nat} {t : TypeId} {v : Value} (h : Aside0 (w.heap[g]? = some (.cells #[v] t (0, 0)))) : w.cell? ⟨g, 0, none⟩ = some v := (blk_cell h.out 0).trans rfl
theorem outer_Holds.onef {w : World} {g : Nat} {t : TypeId} {v : Value} (h : Aside0 (w.heap[g]? = some (.cells #[v] t (0, 0)))) : w.frozen? ⟨g, 0, none⟩ = false := blk_frozen h.out 0
set_option maxHeartbeats 1000000 in
theorem outer_Holds.pred (k : Nat) (l0 : List ByteArray) (z : Int) (A0 : Option Addr) (c0 : Nat) (hc0 : l0.length ≤ c0) (g1 g2 : Nat) (x : List Int) (s t : ByteArray) (hs : outer_sum.f k l0 x z = some s) (ht : block_Zero.f z = some t) (A : Option Addr) (c : Nat) (hx : x.length ≤ c) (W : World)
    (hr0 : Kd.C Kd.string W A0 l0.length l0) (hrx : Kd.C (Kd.int .i64) W A x.length x) (h1 : W.cell? ⟨g1, 0, none⟩ = some (.slice A0 l0.length c0)) (h2 : W.cell? ⟨g2, 0, none⟩ = some (.int .i64 z)) :
    Calls Try.prog 26 (#[.slice A x.length c] ++ #[.pointer (some ⟨g1, 0, none⟩), .pointer (some ⟨g2, 0, none⟩)]) W fun e w' => e = .returned (.bool (s.toList != t.toList)) ∧ Below W.heap.size W w' := by
  show Calls Try.prog 26 #[.slice A x.length c, .pointer (some ⟨g1, 0, none⟩), .pointer (some ⟨g2, 0, none⟩)] W _
  have HS := Aside0.mk hs
  have HT := Aside0.mk ht
  have HR0 := Aside0.mk hr0
  have HRX := Aside0.mk hrx
  have HC0 := Aside0.mk hc0
  have HX := Aside0.mk hx
  have HB := Aside0.mk (Below.refl W.heap.size W)
  clear hs ht hr0 hrx hc0 hx
  go_enter Try.func26, Try.ntmps26
  go_wp2_with fail
  go_region_held3 (fun w' => w'.cell? ⟨g1, 0, none⟩ = some (.slice A0 l0.length c0) ∧ w'.cell? ⟨g2, 0, none⟩ = some (.int .i64 z)) (first | go_keep | (go_split_ands; refine ⟨?_, ?_⟩ <;> exact pw_cell_below hbk (by assumption)))
    (first | (go_at_call 24; refine (outer_sum.calls k A0 c0 l0 A c x z s _ (Kd.C_below HR0.out zB) HC0.out (Kd.C_below HRX.out zB) HX.out HS.out).mono ?_; rintro e w' ⟨rfl, hbk⟩; replace HB := Aside0.mk (below_step zB hbk)) | (go_at_call 27; refine (block_Zero.calls z t _ HT.out).mono ?_; rintro e w' ⟨rfl, hbk⟩; replace HB := Aside0.mk (below_step zB hbk)))
  all_goals
    go_wp2
    go_ret
    exact ⟨by first | rfl | (simp; done), zB⟩
set_option maxHeartbeats 4000000 in
set_option maxRecDepth 100000 in
theorem outer_Holds.calls (k : Nat) (a0_0 a0_1 a0_2 a0_3 : Int) (A1 : Option Addr) (c1 : Nat) (l1 : List ByteArray) (r : Bool) (w : World) (hr1 : Kd.C Kd.string w A1 l1.length l1) (hc1 : l1.length ≤ c1) (h : outer_Holds.f k a0_0 a0_1 a0_2 a0_3 l1 = some r) :
    Calls Try.prog 13 #[.agg #[.int .i64 a0_0, .int .i64 a0_1, .int .i64 a0_2, .int .i64 a0_3], .slice A1 l1.length c1] w fun e w' => e = .returned (.bool r) ∧ Below w.heap.size w w' := by
  have hu23 := Try.underlying23
  have HR1 := Aside0.mk hr1
  have HC1 := Aside0.mk hc1
  have HB := Aside0.mk (Below.refl w.heap.size w)
  clear hr1 hc1
  unfold outer_Holds.f at h
  obtain ⟨t1, A5, h⟩ := Option.bind_eq_some_iff.mp h
  have A5 := Aside0.mk A5
  cases t1 with
  | false =>
    rw [if_neg (by decide)] at h
    obtain rfl := Option.some.inj h
    clear h
    go_enter Try.func13, Try.ntmps13
    go_wp2_with (first | ((with_reducible refine gate_dst (N := 2) rfl ?_); refine box_event ?hg (N := 2) ?hd (cs := #[.int .i64 a0_0, .int .i64 a0_1, .int .i64 a0_2, .int .i64 a0_3]) (t := 23) ?hr ?_; (case hd => rfl); (case hg => rfl); (case hr => first | (go_simp; done) | (go_simp; rfl)); intro g1 hg w2 hbox hb; have BK1 := Aside0.mk hbox; have GE1 := Aside0.mk ((zg : w.heap.size ≤ g1)); replace HB := Aside0.mk (below_step zB hb); clear hb hbox hg; obtain ⟨p0, p1, p2, p3⟩ := cZ4 BK1) | ((with_reducible refine gate_dst (N := 3) rfl ?_); refine box_event ?hg (N := 3) ?hd (cs := #[.slice A1 l1.length c1]) (t := 34) ?hr ?_; (case hd => rfl); (case hg => rfl); (case hr => first | (go_simp; done) | (go_simp; rfl)); intro g2 hg w2 hbox hb; have BK2 := Aside0.mk hbox; have GE2 := Aside0.mk ((zg : w.heap.size ≤ g2)); (try clear p0); (try clear p1); (try clear p2); (try clear p3); replace BK1 := Aside0.mk (blk_below (zk BK1) hb); replace HB := Aside0.mk (below_step zB hb); clear hb hbox hg; obtain ⟨p0, p1, p2, p3⟩ := cZ4 BK1; have q0 := outer_Holds.one BK2) | ((with_reducible refine gate_callee (f := 8) rfl ?_); refine goesL_ (some 7) rfl rfl Try.func8 (by kernel_rfl) rfl #[.agg #[.int .i64 a0_0, .int .i64 a0_1, .int .i64 a0_2, .int .i64 a0_3]] rfl zM ?_; (with_reducible refine (outer_Check.calls a0_0 a0_1 a0_2 a0_3 false _ A5.out).mono ?_); rintro e w4 ⟨rfl, hb⟩; refine ⟨_, rfl, ?_⟩; (try clear p0); (try clear p1); (try clear p2); (try clear p3); (try clear q0); replace BK1 := Aside0.mk (blk_below (zk BK1) hb); replace BK2 := Aside0.mk (blk_below (zk BK2) hb); replace HB := Aside0.mk (below_step zB hb); clear hb; obtain ⟨p0, p1, p2, p3⟩ := cZ4 BK1; have q0 := outer_Holds.one BK2))
    go_ret
    exact ⟨zE, zB⟩
  | true =>
    rw [if_pos rfl] at h
    by_cases c7 : (l1.length : Int) = wrap64 (a0_1 + a0_2)
    · rw [if_pos c7] at h
      have c7b0 : ((l1.length : Int) == wrap64 (a0_1 + a0_2)) = true := beq_iff_eq.mpr c7
      have c7b1 : ((l1.length : Int) != wrap64 (a0_1 + a0_2)) = false := bne_eq_false_iff_eq.mpr c7
      clear c7
      obtain ⟨t2, A8, h⟩ := Option.bind_eq_some_iff.mp h
      have A8 := Aside0.mk A8
      cases t2 with
      | false =>
        rw [if_neg (by decide)] at h
        obtain rfl := Option.some.inj h
        clear h
        go_enter Try.func13, Try.ntmps13
        go_wp2_with (first | ((with_reducible refine gate_dst (N := 2) rfl ?_); refine box_event ?hg (N := 2) ?hd (cs := #[.int .i64 a0_0, .int .i64 a0_1, .int .i64 a0_2, .int .i64 a0_3]) (t := 23) ?hr ?_; (case hd => rfl); (case hg => rfl); (case hr => first | (go_simp; done) | (go_simp; rfl)); intro g1 hg w2 hbox hb; have BK1 := Aside0.mk hbox; have GE1 := Aside0.mk ((zg : w.heap.size ≤ g1)); replace HB := Aside0.mk (below_step zB hb); clear hb hbox hg; obtain ⟨p0, p1, p2, p3⟩ := cZ4 BK1) | ((with_reducible refine gate_dst (N := 3) rfl ?_); refine box_event ?hg (N := 3) ?hd (cs := #[.slice A1 l1.length c1]) (t := 34) ?hr ?_; (case hd => rfl); (case hg => rfl); (case hr => first | (go_simp; done) | (go_simp; rfl)); intro g2 hg w2 hbox hb; have BK2 := Aside0.mk hbox; have GE2 := Aside0.mk ((zg : w.heap.size ≤ g2)); (try clear p0); (try clear p1); (try clear p2); (try clear p3); replace BK1 := Aside0.mk (blk_below (zk BK1) hb); replace HB := Aside0.mk (below_step zB hb); clear hb hbox hg; obtain ⟨p0, p1, p2, p3⟩ := cZ4 BK1; have q0 := outer_Holds.one BK2) | ((with_reducible refine gate_callee (f := 8) rfl ?_); refine goesL_ (some 7) rfl rfl Try.func8 (by kernel_rfl) rfl #[.agg #[.int .i64 a0_0, .int .i64 a0_1, .int .i64 a0_2, .int .i64 a0_3]] rfl zM ?_; (with_reducible refine (outer_Check.calls a0_0 a0_1 a0_2 a0_3 true _ A5.out).mono ?_); rintro e w4 ⟨rfl, hb⟩; refine ⟨_, rfl, ?_⟩; (try clear p0); (try clear p1); (try clear p2); (try clear p3); (try clear q0); replace BK1 := Aside0.mk (blk_below (zk BK1) hb); replace BK2 := Aside0.mk (blk_below (zk BK2) hb); replace HB := Aside0.mk (below_step zB hb); clear hb; obtain ⟨p0, p1, p2, p3⟩ := cZ4 BK1; have q0 := outer_Holds.one BK2) | (go_at_call 21; (with_reducible refine (outer_sized.calls _ _ l1 false _ (Kd.C_below HR1.out HB.out) HC1.out A8.out).mono ?_); rintro e w5 ⟨rfl, hb⟩; (try clear p0); (try clear p1); (try clear p2); (try clear p3); (try clear q0); replace BK1 := Aside0.mk (blk_below (zk BK1) hb); replace BK2 := Aside0.mk (blk_below (zk BK2) hb); replace HB := Aside0.mk (below_step zB hb); clear hb; obtain ⟨p0, p1, p2, p3⟩ := cZ4 BK1; have q0 := outer_Holds.one BK2))
        go_ret
        exact ⟨zE, zB⟩
      | true =>
        rw [if_pos rfl] at h
        by_cases c0 : 0 < l1.length
        · rw [if_pos c0] at h
          obtain ⟨rs, A9, h⟩ := Option.bind_eq_some_iff.mp h
          have A9 := Aside0.mk A9
          obtain ⟨ad, e1, hcell⟩ := Kd.at_string HR1.out 0 (by omega) (by omega)
          subst e1
          have h0 : w.cell? ad = some (.string (rdOf ByteArray.empty l1 0)) := by
            have h9 := hcell
            simpa [Addr.add] using h9
          have H0 := Aside0.mk h0
          have had : ad.add 0 = ad := by simp [Addr.add]
          have hz1 : decide (0 < l1.length) = true := decide_eq_true c0
          have hz2 : (0 : Int) < (l1.length : Int) := by omega
          have hz3 : (0 < l1.length) = True := eq_true c0
          clear hcell h0 c0
          generalize hs0 : rdOf ByteArray.empty l1 0 = s0 at *
          have HS0 := Aside0.mk hs0
          have HALL := Aside0.mk (outer_Holds.all_some k l1 (s0.size : Int) rs r h)
          clear h hs0
          go_enter Try.func13, Try.ntmps13
          go_upto_region 3 with (first | ((with_reducible refine gate_dst (N := 2) rfl ?_); refine box_event ?hg (N := 2) ?hd (cs := #[.int .i64 a0_0, .int .i64 a0_1, .int .i64 a0_2, .int .i64 a0_3]) (t := 23) ?hr ?_; (case hd => rfl); (case hg => rfl); (case hr => first | (go_simp; done) | (go_simp; rfl)); intro g1 hg w2 hbox hb; have BK1 := Aside0.mk hbox; have GE1 := Aside0.mk ((zg : w.heap.size ≤ g1)); replace HB := Aside0.mk (below_step zB hb); clear hb hbox hg; obtain ⟨p0, p1, p2, p3⟩ := cZ4 BK1) | ((with_reducible refine gate_dst (N := 3) rfl ?_); refine box_event ?hg (N := 3) ?hd (cs := #[.slice (some ad) l1.length c1]) (t := 34) ?hr ?_; (case hd => rfl); (case hg => rfl); (case hr => first | (go_simp; done) | (go_simp; rfl)); intro g2 hg w2 hbox hb; have BK2 := Aside0.mk hbox; have GE2 := Aside0.mk ((zg : w.heap.size ≤ g2)); (try clear p0); (try clear p1); (try clear p2); (try clear p3); replace BK1 := Aside0.mk (blk_below (zk BK1) hb); replace HB := Aside0.mk (below_step zB hb); clear hb hbox hg; obtain ⟨p0, p1, p2, p3⟩ := cZ4 BK1; have q0 := outer_Holds.one BK2) | ((with_reducible refine gate_callee (f := 8) rfl ?_); refine goesL_ (some 7) rfl rfl Try.func8 (by kernel_rfl) rfl #[.agg #[.int .i64 a0_0, .int .i64 a0_1, .int .i64 a0_2, .int .i64 a0_3]] rfl zM ?_; (with_reducible refine (outer_Check.calls a0_0 a0_1 a0_2 a0_3 true _ A5.out).mono ?_); rintro e w4 ⟨rfl, hb⟩; refine ⟨_, rfl, ?_⟩; (try clear p0); (try clear p1); (try clear p2); (try clear p3); (try clear q0); replace BK1 := Aside0.mk (blk_below (zk BK1) hb); replace BK2 := Aside0.mk (blk_below (zk BK2) hb); replace HB := Aside0.mk (below_step zB hb); clear hb; obtain ⟨p0, p1, p2, p3⟩ := cZ4 BK1; have q0 := outer_Holds.one BK2) | (go_at_call 21; (with_reducible refine (outer_sized.calls _ _ l1 true _ (Kd.C_below HR1.out HB.out) HC1.out A8.out).mono ?_); rintro e w5 ⟨rfl, hb⟩; (try clear p0); (try clear p1); (try clear p2); (try clear p3); (try clear q0); replace BK1 := Aside0.mk (blk_below (zk BK1) hb); replace BK2 := Aside0.mk (blk_below (zk BK2) hb); replace HB := Aside0.mk (below_step zB hb); clear hb; obtain ⟨p0, p1, p2, p3⟩ := cZ4 BK1; have q0 := outer_Holds.one BK2))
          have hq := pw_cell_below HB.out H0.out
          go_upto_region 4 with (first | ((with_reducible refine gate_dst (N := 5) rfl ?_); refine box_event ?hg (N := 5) ?hd (cs := #[.int .i64 0]) (t := 3) ?hr ?_; (case hd => rfl); (case hg => rfl); (case hr => first | (go_simp; done) | (go_simp; rfl)); intro g3 hg w2 hbox hb; have BK3 := Aside0.mk hbox; have GE3 := Aside0.mk ((zg : w.heap.size ≤ g3)); (try clear p0); (try clear p1); (try clear p2); (try clear p3); (try clear q0); have N13 := Aside0.mk ((by rw [hg]; exact Nat.ne_of_lt (blk_lt (zk BK1)) : g1 ≠ g3)); have N23 := Aside0.mk ((by rw [hg]; exact Nat.ne_of_lt (blk_lt (zk BK2)) : g2 ≠ g3)); replace BK1 := Aside0.mk (blk_below (zk BK1) hb); replace BK2 := Aside0.mk (blk_below (zk BK2) hb); replace HB := Aside0.mk (below_step zB hb); clear hb hbox hg; obtain ⟨p0, p1, p2, p3⟩ := cZ4 BK1; have q0 := outer_Holds.one BK2; have z0 := outer_Holds.onef BK3; have z1 := outer_Holds.one BK3))
          obtain ⟨W3, e3⟩ : ∃ W3, W3 = w2.setCell ⟨g3, 0, none⟩ (.int .i64 (s0.size : Int)) := ⟨_, rfl⟩
          rw [← e3]
          have n13 : g1 ≠ g3 := N13.out
          have n23 : g2 ≠ g3 := N23.out
          replace BK1 : Aside0 (W3.heap[g1]? = some (.cells #[.int .i64 a0_0, .int .i64 a0_1, .int .i64 a0_2, .int .i64 a0_3] 23 (0, 0))) := ⟨by rw [e3]; exact blk_far BK1.out (p := ⟨g3, 0, none⟩) n13 _⟩
          replace BK2 : Aside0 (W3.heap[g2]? = some (.cells #[.slice (some ad) l1.length c1] 34 (0, 0))) := ⟨by rw [e3]; exact blk_far BK2.out (p := ⟨g3, 0, none⟩) n23 _⟩
          replace BK3 : Aside0 (W3.heap[g3]? = some (.cells #[.int .i64 (s0.size : Int)] 3 (0, 0))) := ⟨by rw [e3]; exact blk_put (cs := #[.int .i64 0]) BK3.out 0 _ rfl⟩
          replace HB : Aside0 (Below w.heap.size w W3) := ⟨by rw [e3]; exact below_set HB.out GE3.out⟩
          clear e3 n13 n23 hq
          (try clear p0); (try clear p1); (try clear p2); (try clear p3); (try clear q0); (try clear z0); (try clear z1)
          obtain ⟨p0, p1, p2, p3⟩ := cZ4 BK1
          have q0 := outer_Holds.one BK2
          go_wp2_with (first | ((with_reducible refine gate_callee (f := 16) rfl ?_); refine goesL_ (some 29) rfl rfl Try.func16 (by kernel_rfl) rfl #[.agg #[.int .i64 a0_0, .int .i64 a0_1, .int .i64 a0_2, .int .i64 a0_3]] rfl zM ?_; (with_reducible refine (outer_rules.calls k a0_0 a0_1 a0_2 a0_3 rs _ A9.out).mono ?_); rintro e w7 ⟨v7, rfl, ho, hb⟩; refine ⟨_, rfl, ?_⟩; obtain ⟨Ar, cr, hv7, hlr, hCr⟩ := Kd.S_reads ho; subst hv7; have HCR := Aside0.mk hCr; clear ho hlr hCr; (try clear p0); (try clear p1); (try clear p2); (try clear p3); (try clear q0); replace BK1 := Aside0.mk (blk_below (zk BK1) hb); replace BK2 := Aside0.mk (blk_below (zk BK2) hb); replace BK3 := Aside0.mk (blk_below (zk BK3) hb); replace HB := Aside0.mk (below_step zB hb); clear hb) | (go_at_call 25; refine (slices_ContainsFunc_int_int.gives (outer_Holds.bad k l1 (s0.size : Int)) 26 #[.pointer (some ⟨g2, 0, none⟩), .pointer (some ⟨g3, 0, none⟩)] (enters_of Try.func26 (by kernel_rfl) rfl) Ar cr rs _ ?hp HCR.out).mono ?_; (case hp => intro W A c x hx hbW hC hl; obtain ⟨s, t, e1, e2⟩ := HALL.out.1 x hx; have hbad : outer_Holds.bad k l1 (s0.size : Int) x = (s.toList != t.toList) := (by simp only [outer_Holds.bad, e1, e2, Option.getD_some]); have hq2 := outer_Holds.pred k l1 (s0.size : Int) (some ad) c1 HC1.out g2 g3 x s t e1 e2 A c hl W (Kd.C_below (Kd.C_below HR1.out HB.out) hbW) hC (outer_Holds.one ⟨blk_below BK2.out hbW⟩) (outer_Holds.one ⟨blk_below BK3.out hbW⟩); rw [← hbad] at hq2; exact hq2); rintro e w8 ⟨rfl, hb⟩; replace HB := Aside0.mk (below_step zB hb); clear hb))
          go_ret
          have hr := HALL.out.2
          exact ⟨by rw [hr]; first | rfl | (simp; done), zB⟩
        · rw [if_neg c0] at h
          cases h
    · rw [if_neg c7] at h
      obtain rfl := Option.some.inj h
      have c7b0 : ((l1.length : Int) == wrap64 (a0_1 + a0_2)) = false := beq_eq_false_iff_ne.mpr c7
      have c7b1 : ((l1.length : Int) != wrap64 (a0_1 + a0_2)) = true := bne_iff_ne.mpr c7
      clear h c7
      go_enter Try.func13, Try.ntmps13
      go_wp2_with (first | ((with_reducible refine gate_dst (N := 2) rfl ?_); refine box_event ?hg (N := 2) ?hd (cs := #[.int .i64 a0_0, .int .i64 a0_1, .int .i64 a0_2, .int .i64 a0_3]) (t := 23) ?hr ?_; (case hd => rfl); (case hg => rfl); (case hr => first | (go_simp; done) | (go_simp; rfl)); intro g1 hg w2 hbox hb; have BK1 := Aside0.mk hbox; have GE1 := Aside0.mk ((zg : w.heap.size ≤ g1)); replace HB := Aside0.mk (below_step zB hb); clear hb hbox hg; obtain ⟨p0, p1, p2, p3⟩ := cZ4 BK1) | ((with_reducible refine gate_dst (N := 3) rfl ?_); refine box_event ?hg (N := 3) ?hd (cs := #[.slice A1 l1.length c1]) (t := 34) ?hr ?_; (case hd => rfl); (case hg => rfl); (case hr => first | (go_simp; done) | (go_simp; rfl)); intro g2 hg w2 hbox hb; have BK2 := Aside0.mk hbox; have GE2 := Aside0.mk ((zg : w.heap.size ≤ g2)); (try clear p0); (try clear p1); (try clear p2); (try clear p3); replace BK1 := Aside0.mk (blk_below (zk BK1) hb); replace HB := Aside0.mk (below_step zB hb); clear hb hbox hg; obtain ⟨p0, p1, p2, p3⟩ := cZ4 BK1; have q0 := outer_Holds.one BK2) | ((with_reducible refine gate_callee (f := 8) rfl ?_); refine goesL_ (some 7) rfl rfl Try.func8 (by kernel_rfl) rfl #[.agg #[.int .i64 a0_0, .int .i64 a0_1, .int .i64 a0_2, .int .i64 a0_3]] rfl zM ?_; (with_reducible refine (outer_Check.calls a0_0 a0_1 a0_2 a0_3 true _ A5.out).mono ?_); rintro e w4 ⟨rfl, hb⟩; refine ⟨_, rfl, ?_⟩; (try clear p0); (try clear p1); (try clear p2); (try clear p3); (try clear q0); replace BK1 := Aside0.mk (blk_below (zk BK1) hb); replace BK2 := Aside0.mk (blk_below (zk BK2) hb); replace HB := Aside0.mk (below_step zB hb); clear hb; obtain ⟨p0, p1, p2, p3⟩ := cZ4 BK1; have q0 := outer_Holds.one BK2))
      go_ret
      exact ⟨zE, zB⟩
/-! ### block_Xor: function 14 -/
def block_Xor.f (a0 : ByteArray) (a1 : ByteArray) : Option (ByteArray × Int) := if a0.size = a1.size then (if a0.size ≤ 140737488351232 then some (strOfNums (bothB .xor (bytesI a0) (bytesI a1) a0.size), 0) else none) else some (⟨#[]⟩, 1)
set_option maxHeartbeats 1000000 in
theorem block_Xor.calls (a0 : ByteArray) (a1 : ByteArray) (r1 : ByteArray) (r2 : Int) (w : World) (h : block_Xor.f a0 a1 = some (r1, r2)) :
    Calls Try.prog 14 #[.string a0, .string a1] w fun e w' => e = .returned (.tuple #[.string r1, .int .i64 r2]) ∧ Below w.heap.size w w' := by
  unfold block_Xor.f at h
  by_cases hs : a0.size = a1.size
  · rw [if_pos hs] at h
    split at h
    rotate_left
    · cases h
    rename_i hsz
    simp only [Option.some.injEq, Prod.mk.injEq] at h
    obtain ⟨h, rfl⟩ := h
    have HR := Aside0.mk h
    clear h
    obtain ⟨w1, c, hrun, hrow, hb, hc, hz⟩ := run_bytes (P := Try.prog) w 9 39 5 a0 Try.underlying9 Try.underlying39 Try.underlying5
    have HB1 := Aside0.mk hb
    have HADD := Aside0.mk (block_add.row w.heap.size w.heap.size c a0.size (bytesI a0) a1 w1 hrow (bytesI_length _) (by omega) (Nat.le_refl _) (by omega))
    have HS := Aside0.mk hs
    have t1 : ((a0.size : Int) == (a1.size : Int)) = true := by rw [hs]; simp
    have t2 : ((a0.size : Int) != (a1.size : Int)) = false := by rw [hs]; simp
    clear hb hrow hz hs
    go_enter Try.func14, Try.ntmps14
    go_wp2_with fail
    refine HADD.out.mono ?_
    rintro e w2 ⟨rfl, hrow2, hb2⟩
    have HB2 := Aside0.mk (HB1.out.trans hb2)
    have hback := hrow2.back (P := Try.prog) 39 9 Try.underlying39 Try.underlying5 Try.underlying9 a0.size c (by rw [bothB_length, bytesI_length])
    rw [HR.out] at hback
    clear hb2 hrow2
    go_wp2
    go_ret2
    exact ⟨rfl, HB2.out⟩
  · rw [if_neg hs] at h
    simp only [Option.some.injEq, Prod.mk.injEq] at h
    obtain ⟨rfl, rfl⟩ := h
    have t1 : ((a0.size : Int) == (a1.size : Int)) = false := by rw [beq_eq_false_iff_ne]; omega
    have t2 : ((a0.size : Int) != (a1.size : Int)) = true := by rw [bne_iff_ne]; omega
    clear hs
    go_enter Try.func14, Try.ntmps14
    go_wp2
    go_ret2
    exact ⟨rfl, Below.refl _ _⟩
/-! ### mosaiclaw09_OuterHolds: function 4 -/
/-- A text with its first byte turned. -/
def mosaiclaw09_OuterHolds.turn0 (s : ByteArray) : ByteArray := strOfNums ((bytesI s).set 0 (Go.bits .xor .u8 ((bytesI s).getD 0 0) 1))
def mosaiclaw09_OuterHolds.sumL (x z : List ByteArray) : Nat → Nat → List ByteArray → Option (List ByteArray)
  | 0, _, acc => some acc
  | d + 1, i, acc => if i < z.length then (block_Xor.f (x.getD i ByteArray.empty) (z.getD i ByteArray.empty)).bind fun t => if t.2 = 0 then mosaiclaw09_OuterHolds.sumL x z d (i + 1) (acc ++ [t.1]) else none else none
def mosaiclaw09_OuterHolds.rest (k : Nat) (a0_0 a0_1 a0_2 a0_3 : Int) (x z : List ByteArray) : Option Bool :=
  if 0 < z.length ∧ 0 < x.length ∧ x.length ≤ 1000000 then (if ((z.getD 0 ByteArray.empty).size : Int) = ((x.getD 0 ByteArray.empty).size : Int) then (mosaiclaw09_OuterHolds.sumL x z x.length 0 []).bind fun sm => (mosaiclaw09_awake.f k).bind fun b => if b = true then outer_Holds.f k a0_0 a0_1 a0_2 a0_3 sm else none else mosaiclaw09_awake.f k) else none
def mosaiclaw09_OuterHolds.full (k : Nat) (a0_0 a0_1 a0_2 a0_3 : Int) (l2 x : List ByteArray) : Option Bool :=
  (outer_Holds.f k a0_0 a0_1 a0_2 a0_3 x).bind fun h1 => if h1 = true then (if 0 < x.length ∧ x.length ≤ 1000000 ∧ 0 < (x.getD (x.length - 1) ByteArray.empty).size then
    (outer_Holds.f k a0_0 a0_1 a0_2 a0_3 (x.set (x.length - 1) (mosaiclaw09_OuterHolds.turn0 (x.getD (x.length - 1) ByteArray.empty)))).bind fun h2 => if h2 = true then none else
    (outer_Whole.f k a0_0 a0_1 a0_2 a0_3 l2).bind fun t => if t.2 = 0 then mosaiclaw09_OuterHolds.rest k a0_0 a0_1 a0_2 a0_3 x t.1 else mosaiclaw09_awake.f k else none) else none
def mosaiclaw09_OuterHolds.f (k : Nat) (a0_0 a0_1 a0_2 a0_3 : Int) (l1 l2 : List ByteArray) : Option Bool :=
  (mosaiclaw09_few.f k l1).bind fun b1 => if b1 = true then ((mosaiclaw09_few.f k l2).bind fun b2 => if b2 = true then ((outer_Whole.f k a0_0 a0_1 a0_2 a0_3 l1).bind fun t => if t.2 = 0 then mosaiclaw09_OuterHolds.full k a0_0 a0_1 a0_2 a0_3 l2 t.1 else (mosaiclaw09_awake.f k).bind fun b => if b = true then some ((t.1.length : Int) == 0) else none) else mosaiclaw09_awake.f k) else mosaiclaw09_awake.f k
theorem mosaiclaw09_OuterHolds.frz {w w' : World} {a : Addr} {v : Value} (hb : Below w.heap.size w w') (hc : w.cell? a = some v) (h : w.frozen? a = false) : w'.frozen? a = false := (hb.frozen (World.block_lt_of_cell? w a hc)).trans h
theorem mosaiclaw09_OuterHolds.rc {α : Type} {d : Kd α} {e base : Nat} {w : World} {ok : Nat → Prop} {A : Option Addr} {n c : Nat} {xs : List α} (h : Kd.R d e w base ok (.slice A n c) xs) : Kd.C d w A xs.length xs := (Kd.R_reads' h).2.2
theorem mosaiclaw09_OuterHolds.at_ {xs : List ByteArray} {w : World} {A : Option Addr} (h : Kd.string.C w A xs.length xs) (i : Nat) (hi : i < xs.length) : ∃ ad, A = some ad ∧ w.cell? (ad.add i) = some (.string (xs.getD i ByteArray.empty)) := by
  obtain ⟨ad, e, hc⟩ := Kd.at_string h (i : Int) (by omega) (by omega)
  refine ⟨ad, e, ?_⟩
  have h9 := hc
  simpa [rdOf] using h9
theorem mosaiclaw09_OuterHolds.mono : ∀ a0_0 a0_1 a0_2 a0_3 l1 l2 k, LeO (mosaiclaw09_OuterHolds.f k a0_0 a0_1 a0_2 a0_3 l1 l2) (mosaiclaw09_OuterHolds.f (k + 1) a0_0 a0_1 a0_2 a0_3 l1 l2) := by
  intro a0_0 a0_1 a0_2 a0_3 l1 l2 k
  unfold mosaiclaw09_OuterHolds.f mosaiclaw09_OuterHolds.full mosaiclaw09_OuterHolds.rest
  repeat' first | apply mosaiclaw09_few.mono | apply mosaiclaw09_awake.mono | apply outer_Whole.mono | apply outer_Holds.mono | exact LeO.refl _ | refine LeO.ite ?_ ?_ | refine LeO.bind ?_ (fun _ => ?_)
set_option maxHeartbeats 4000000 in
set_option maxRecDepth 100000 in
theorem mosaiclaw09_OuterHolds.calls (k : Nat) (a0_0 a0_1 a0_2 a0_3 : Int) (A1 : Option Addr) (c1 : Nat) (l1 : List ByteArray) (A2 : Option Addr) (c2 : Nat) (l2 : List ByteArray) (r : Bool) (w : World) (hr1 : Kd.C Kd.string w A1 l1.length l1) (hc1 : l1.length ≤ c1) (hr2 : Kd.C Kd.string w A2 l2.length l2) (hc2 : l2.length ≤ c2) (h : mosaiclaw09_OuterHolds.f k a0_0 a0_1 a0_2 a0_3 l1 l2 = some r) :
    Calls Try.prog 4 #[.agg #[.int .i64 a0_0, .int .i64 a0_1, .int .i64 a0_2, .int .i64 a0_3], .slice A1 l1.length c1, .slice A2 l2.length c2] w fun e w' => e = .returned (.bool r) ∧ Below w.heap.size w w' := by
  have hu23 := Try.underlying23
  have HR1 := Aside0.mk hr1
  have HC1 := Aside0.mk hc1
  have HR2 := Aside0.mk hr2
  have HC2 := Aside0.mk hc2
  have HB := Aside0.mk (Below.refl w.heap.size w)
  clear hr1 hc1 hr2 hc2
  unfold mosaiclaw09_OuterHolds.f at h
  obtain ⟨b1, AF1, h⟩ := Option.bind_eq_some_iff.mp h
  have AF1 := Aside0.mk AF1
  cases b1 with
  | false =>
    rw [if_neg (by decide)] at h
    have AW := Aside0.mk h
    clear h
    go_enter Try.func4, Try.ntmps4
    go_wp2_with (first | ((with_reducible refine gate_dst (N := 3) rfl ?_); refine box_event ?hg (N := 3) ?hd (cs := #[.int .i64 a0_0, .int .i64 a0_1, .int .i64 a0_2, .int .i64 a0_3]) (t := 23) ?hr ?_; (case hd => rfl); (case hg => rfl); (case hr => first | (go_simp; done) | (go_simp; rfl)); intro gb hg w2 hbox hb; have BK := Aside0.mk hbox; have GE := Aside0.mk ((zg : w.heap.size ≤ gb)); replace HB := Aside0.mk (below_step zB hb); clear hb hbox hg; obtain ⟨p0, p1, p2, p3⟩ := cZ4 BK) | (go_at_call 11; (with_reducible refine (mosaiclaw09_few.calls k A1 c1 l1 false _ (Kd.C_below HR1.out zB) HC1.out AF1.out).mono ?_); rintro e w3 ⟨rfl, hdz⟩; have hb := Drawn0.below hdz; clear hdz; (try clear p0); (try clear p1); (try clear p2); (try clear p3); replace BK := Aside0.mk (blk_below (zk BK) hb); replace HB := Aside0.mk (below_step zB hb); clear hb; obtain ⟨p0, p1, p2, p3⟩ := cZ4 BK) | (go_at_call 7; (with_reducible refine (mosaiclaw09_awake.calls k r _ AW.out).mono ?_); rintro e w9 ⟨rfl, hb⟩; (try clear p0); (try clear p1); (try clear p2); (try clear p3); replace BK := Aside0.mk (blk_below (zk BK) hb); replace HB := Aside0.mk (below_step zB hb); clear hb; obtain ⟨p0, p1, p2, p3⟩ := cZ4 BK))
    go_ret
    exact ⟨rfl, zB⟩
  | true =>
    rw [if_pos rfl] at h
    obtain ⟨b2, AF2, h⟩ := Option.bind_eq_some_iff.mp h
    have AF2 := Aside0.mk AF2
    cases b2 with
    | false =>
      rw [if_neg (by decide)] at h
      have AW := Aside0.mk h
      clear h
      go_enter Try.func4, Try.ntmps4
      go_wp2_with (first | ((with_reducible refine gate_dst (N := 3) rfl ?_); refine box_event ?hg (N := 3) ?hd (cs := #[.int .i64 a0_0, .int .i64 a0_1, .int .i64 a0_2, .int .i64 a0_3]) (t := 23) ?hr ?_; (case hd => rfl); (case hg => rfl); (case hr => first | (go_simp; done) | (go_simp; rfl)); intro gb hg w2 hbox hb; have BK := Aside0.mk hbox; have GE := Aside0.mk ((zg : w.heap.size ≤ gb)); replace HB := Aside0.mk (below_step zB hb); clear hb hbox hg; obtain ⟨p0, p1, p2, p3⟩ := cZ4 BK) | (go_at_call 11; (with_reducible refine (mosaiclaw09_few.calls k A1 c1 l1 true _ (Kd.C_below HR1.out zB) HC1.out AF1.out).mono ?_); rintro e w3 ⟨rfl, hdz⟩; have hb := Drawn0.below hdz; clear hdz; (try clear p0); (try clear p1); (try clear p2); (try clear p3); replace BK := Aside0.mk (blk_below (zk BK) hb); replace HB := Aside0.mk (below_step zB hb); clear hb; obtain ⟨p0, p1, p2, p3⟩ := cZ4 BK) | (go_at_call 11; (with_reducible refine (mosaiclaw09_few.calls k A2 c2 l2 false _ (Kd.C_below HR2.out zB) HC2.out AF2.out).mono ?_); rintro e w3 ⟨rfl, hdz⟩; have hb := Drawn0.below hdz; clear hdz; (try clear p0); (try clear p1); (try clear p2); (try clear p3); replace BK := Aside0.mk (blk_below (zk BK) hb); replace HB := Aside0.mk (below_step zB hb); clear hb; obtain ⟨p0, p1, p2, p3⟩ := cZ4 BK) | (go_at_call 7; (with_reducible refine (mosaiclaw09_awake.calls k r _ AW.out).mono ?_); rintro e w9 ⟨rfl, hb⟩; (try clear p0); (try clear p1); (try clear p2); (try clear p3); replace BK := Aside0.mk (blk_below (zk BK) hb); replace HB := Aside0.mk (below_step zB hb); clear hb; obtain ⟨p0, p1, p2, p3⟩ := cZ4 BK))
      go_ret
      exact ⟨rfl, zB⟩
    | true =>
      rw [if_pos rfl] at h
      obtain ⟨⟨x, ex⟩, AX, h⟩ := Option.bind_eq_some_iff.mp h
      have AX := Aside0.mk AX
      simp only at h
      by_cases hex : ex = 0
      · rw [if_pos hex] at h
        subst hex
        have HFUL_ := Aside0.mk h
        clear h
        unfold mosaiclaw09_OuterHolds.full at HFUL_
        replace HFUL_ := HFUL_.out
        obtain ⟨h1, AH1, h⟩ := Option.bind_eq_some_iff.mp HFUL_
        have AH1 := Aside0.mk AH1
        clear HFUL_
        cases h1 with
        | false => rw [if_neg (by decide)] at h; cases h
        | true =>
          rw [if_pos rfl] at h
          split at h
          rotate_left
          · cases h
          rename_i hxg
          obtain ⟨h2, AH2, h⟩ := Option.bind_eq_some_iff.mp h
          have AH2 := Aside0.mk AH2
          have HXG := Aside0.mk hxg
          cases h2 with
          | true => rw [if_pos rfl] at h; cases h
          | false =>
            rw [if_neg (by decide)] at h
            obtain ⟨⟨z, ez⟩, AZ, h⟩ := Option.bind_eq_some_iff.mp h
            have AZ := Aside0.mk AZ
            simp only at h
            have HREST := Aside0.mk h
            clear h hxg
            go_enter Try.func4, Try.ntmps4
            go_upto_region 10 with (first | ((with_reducible refine gate_dst (N := 3) rfl ?_); refine box_event ?hg (N := 3) ?hd (cs := #[.int .i64 a0_0, .int .i64 a0_1, .int .i64 a0_2, .int .i64 a0_3]) (t := 23) ?hr ?_; (case hd => rfl); (case hg => rfl); (case hr => first | (go_simp; done) | (go_simp; rfl)); intro gb hg w2 hbox hb; have BK := Aside0.mk hbox; have GE := Aside0.mk ((zg : w.heap.size ≤ gb)); replace HB := Aside0.mk (below_step zB hb); clear hb hbox hg; obtain ⟨p0, p1, p2, p3⟩ := cZ4 BK) | (go_at_call 11; (with_reducible refine (mosaiclaw09_few.calls k A1 c1 l1 true _ (Kd.C_below HR1.out zB) HC1.out AF1.out).mono ?_); rintro e w3 ⟨rfl, hdz⟩; have hb := Drawn0.below hdz; clear hdz; (try clear p0); (try clear p1); (try clear p2); (try clear p3); replace BK := Aside0.mk (blk_below (zk BK) hb); replace HB := Aside0.mk (below_step zB hb); clear hb; obtain ⟨p0, p1, p2, p3⟩ := cZ4 BK) | (go_at_call 11; (with_reducible refine (mosaiclaw09_few.calls k A2 c2 l2 true _ (Kd.C_below HR2.out zB) HC2.out AF2.out).mono ?_); rintro e w3 ⟨rfl, hdz⟩; have hb := Drawn0.below hdz; clear hdz; (try clear p0); (try clear p1); (try clear p2); (try clear p3); replace BK := Aside0.mk (blk_below (zk BK) hb); replace HB := Aside0.mk (below_step zB hb); clear hb; obtain ⟨p0, p1, p2, p3⟩ := cZ4 BK) | (go_at_call 12; (with_reducible refine (outer_Whole.calls k a0_0 a0_1 a0_2 a0_3 A1 c1 l1 x 0 _ (Kd.C_below HR1.out zB) HC1.out AX.out).mono ?_); rintro e w4 ⟨vHX, rfl, ho, hb⟩; obtain ⟨AHX, cHX, hv⟩ := Kd.R_slice ho; subst hv; replace ho := Kd.R_lower ho (below_size zB : w.heap.size ≤ _); replace BK := Aside0.mk (blk_below (zk BK) hb); replace HB := Aside0.mk (below_step zB hb); have HX := Aside0.mk ho; clear ho hb; (try clear p0); (try clear p1); (try clear p2); (try clear p3); obtain ⟨p0, p1, p2, p3⟩ := cZ4 BK) | (go_at_call 13; (with_reducible refine (outer_Holds.calls k a0_0 a0_1 a0_2 a0_3 _ _ x true _ ?side1 ?side2 AH1.out).mono ?_); (case side1 => exact zRC HX); (case side2 => exact (Kd.R_reads' HX.out).2.1); rintro e w5 ⟨rfl, hb⟩; (try clear p0); (try clear p1); (try clear p2); (try clear p3); replace HX := Aside0.mk (Kd.R_below (zR HX) hb); replace BK := Aside0.mk (blk_below (zk BK) hb); replace HB := Aside0.mk (below_step zB hb); clear hb; obtain ⟨p0, p1, p2, p3⟩ := cZ4 BK) | ((with_reducible refine gate_dst (N := 48) rfl ?_); refine Kd.R_lit Kd.string _ 9 ?hg (N := 48) ?hd (xs := ([] : List ByteArray)) (inner := []) (ok := fun _ => True) (okp := fun _ => True) ?hr ?hp (fun _ hk => hk) trivial (Below.refl _ _) (Nat.le_refl _) (by simp) ?_; (case hd => rfl); (case hg => rfl); (case hr => first | (go_simp; done) | (go_simp; rfl)); (case hp => exact (Reps.none _ _)); intro v48 w12 ho13 hb hg_ hnew_; clear hg_ hnew_; have n0_ := Aside0.mk (Kd.R_elder' (by (with_reducible repeat (first | apply Kd.R_alloc | apply Kd.R_drewN | apply Kd.R_drew)); exact HX.out) (Kd.R_base ho13) hb); have n1_ := Aside0.mk (Kd.R_lower (Kd.R_new' ho13 (Kd.R_lt (by (with_reducible repeat (first | apply Kd.R_alloc | apply Kd.R_drewN | apply Kd.R_drew)); exact HX.out))) (below_size zB)); replace BK := Aside0.mk (blk_below (zk BK) hb); replace HB := Aside0.mk (below_step zB hb); clear HX; have HX := n0_; have HY0 := n1_; clear n0_ n1_ hb ho13; (try clear p0); (try clear p1); (try clear p2); (try clear p3)) | ((with_reducible refine gate_builtin (b := .append) (xs := #[.tmp 48, .tmp 49]) rfl ?_); at_builtin; refine Kd.R_append_rows Kd.string (w0 := w) w.heap.size rfl (.tmp 48) (.tmp 49) 34 9 (.string ⟨#[]⟩) 16 rfl Try.underlying34 info9 rfl (by decide) (by omega) v48 [] x _ _ _ (fun k_ => some k_ ≠ (.slice AHX x.length cHX : Value).ownBlock) (fun _ => False) rfl rfl ?aO ?aR (fun _ _ h => h) (fun _ h => h.elim) ?aF ?aB ?aS ?aL ?_; (case aR => exact zRC HX); (case aB => exact zB); (case aF => exact (fun k_ hk => Kd.fresh' (Kd.R_lt (by (with_reducible repeat (first | apply Kd.R_alloc | apply Kd.R_drewN | apply Kd.R_drew)); exact HX.out)) k_ hk)); (case aO => exact (by (with_reducible repeat (first | apply Kd.R_alloc | apply Kd.R_drewN | apply Kd.R_drew)); exact Kd.R_mono HY0.out (fun _ hk => hk.2))); (case aS => exact (below_size zB)); (case aL => have := HXG.out; simp only [List.length_nil]; omega); intro v50 w14 ho hb hg hat; rw [List.nil_append] at ho; replace BK := Aside0.mk (blk_grown (zk BK) hg (Kd.R_ne HY0.out BK.out (by decide))); replace HX := Aside0.mk (Kd.R_after (ok := (fun _ => True)) (by (with_reducible repeat (first | apply Kd.R_alloc | apply Kd.R_drewN | apply Kd.R_drew)); exact HX.out) hg hat); have HY := Aside0.mk ho; replace HB := Aside0.mk hb; clear HY0 ho hb hg hat; obtain ⟨AY, cY, eY⟩ := Kd.R_slice HY.out; subst eY; obtain ⟨gy, cy2, eo, gby, gly, cly, hgy⟩ := Kd.R_form HY.out HXG.out.1; injection eo with ea_ en_ ec_; subst ea_; subst ec_; clear en_ hgy; have GBY := Aside0.mk gby; clear gby gly; obtain ⟨wc, cc, hrun, hrow, hbc, hcc, hsz⟩ := run_bytes (P := Try.prog) w14 9 39 5 (x.getD (x.length - 1) ByteArray.empty) Try.underlying9 Try.underlying39 Try.underlying5))
            obtain ⟨n, hn⟩ : ∃ n, n = x.length - 1 := ⟨_, rfl⟩
            have hnx : n < x.length := by have := HXG.out.1; omega
            have hw : wrap64 ((x.length : Int) - 1) = (n : Int) := by have := HXG.out; unfold wrap64; omega
            rw [hw]
            have HS0 := HXG.out.2.2
            rw [← hn] at HS0 AH2
            obtain ⟨s0, hs0⟩ : ∃ s0, s0 = x.getD n ByteArray.empty := ⟨_, rfl⟩
            rw [← hs0] at HS0 AH2
            obtain ⟨wc, cc, hrun, hrow, hbc, hcc, hsz⟩ := run_bytes (P := Try.prog) w14 9 39 5 s0 Try.underlying9 Try.underlying39 Try.underlying5
            have hj : 0 < (bytesI s0).length := by rw [bytesI_length]; exact HS0
            have hcell := hrow.cell 0 hj
            have hfr := hrow.frozen 0 hj
            obtain ⟨v0, hv0⟩ : ∃ v, v = Go.bits .xor .u8 ((bytesI s0).getD 0 0) 1 := ⟨_, rfl⟩
            have hset := hrow.set 0 hj v0
            have hback := hset.back (P := Try.prog) 39 9 Try.underlying39 Try.underlying5 Try.underlying9 s0.size cc (by rw [List.length_set, bytesI_length])
            have hb3 : Below w14.heap.size w14 (wc.setCell ⟨w14.heap.size, 0, none⟩ (.int .u8 v0)) := hbc.setCell (Nat.le_refl _) _
            obtain ⟨hyc, hyf⟩ := Kd.R_celln (⟨#[]⟩ : ByteArray) HY.out (n : Int) (by omega) (by omega)
            have hyr : rdOf (⟨#[]⟩ : ByteArray) x (n : Int) = s0 := by rw [hs0]; simp [rdOf]; rfl
            rw [hyr, Int.toNat_natCast] at hyc
            rw [Int.toNat_natCast] at hyf
            have hyc3 := pw_cell_below hb3 hyc
            have hyf3 := mosaiclaw09_OuterHolds.frz hb3 hyc hyf
            have hn0 : (0 : Int) ≤ (n : Int) := by omega
            have hn1 : (n : Int) < (x.length : Int) := by omega
            have hs1 : (0 : Int) < (s0.size : Int) := by omega
            have HBC := Aside0.mk hb3
            have HN := Aside0.mk hn
            have HNX := Aside0.mk hnx
            have HTURN : Aside0 (strOfNums ((bytesI s0).set 0 v0) = mosaiclaw09_OuterHolds.turn0 s0) := ⟨by unfold mosaiclaw09_OuterHolds.turn0; rw [hv0]⟩
            have HAH2 := AH2
            have hv1 := hv0.symm
            have HXC := Aside0.mk hs0
            clear hrow hset hbc hcc hsz hj hn hnx hw HS0 hs0 hyr hv0 AH2
            generalize (bytesI s0).getD 0 0 = b0 at *
            generalize strOfNums ((bytesI s0).set 0 v0) = s1 at *
            go_upto_region 13 with fail
            obtain ⟨W3, e3⟩ : ∃ W3, W3 = wc.setCell ⟨w14.heap.size, 0, none⟩ (.int .u8 v0) := ⟨_, rfl⟩
            rw [← e3] at HBC ⊢
            obtain ⟨W4, e4⟩ : ∃ W4, W4 = W3.setCell ⟨gy, n, none⟩ (.string s1) := ⟨_, rfl⟩
            rw [← e4]
            have ngy : gb ≠ gy := fun e => Kd.R_ne HY.out BK.out (by decide) (by rw [e]; rfl)
            have hput := (Kd.R_putg (Kd.R_below HY.out HBC.out) (n : Int) s1).1
            rw [Int.toNat_natCast] at hput
            have hyl : (x.set n s1).length = x.length := List.length_set ..
            replace HX : Aside0 (Kd.R Kd.string 9 W4 w.heap.size (fun _ => True) (.slice AHX x.length cHX) x) := ⟨by rw [e4]; exact Kd.R_mono (Kd.R_far (Kd.R_below HX.out HBC.out) (p := ⟨gy, n, none⟩) (fun k hk e => hk.2 (by rw [e]; rfl)) _) (fun _ _ => trivial)⟩
            replace BK : Aside0 (W4.heap[gb]? = some (.cells #[.int .i64 a0_0, .int .i64 a0_1, .int .i64 a0_2, .int .i64 a0_3] 23 (0, 0))) := ⟨by rw [e4]; exact blk_far (blk_below BK.out HBC.out) (p := ⟨gy, n, none⟩) ngy _⟩
            replace HB : Aside0 (Below w.heap.size w W4) := ⟨by rw [e4]; exact below_set (below_step HB.out HBC.out) GBY.out⟩
            have hcall := outer_Holds.calls k a0_0 a0_1 a0_2 a0_3 (some ⟨gy, 0, none⟩) cY (x.set n s1) false W4 (by rw [e4]; exact (Kd.R_reads' hput).2.2) (by rw [hyl]; exact (Kd.R_reads' hput).2.1) (by rw [HTURN.out]; exact HAH2.out)
            rw [hyl] at hcall
            have HCALL2 := Aside0.mk hcall
            clear hcall hput hyl ngy e4 e3 hrun hcell hfr hback hyc hyf hyc3 hyf3 hn0 hn1 hs1 hb3 hv1 HY HBC HAH2 HTURN
            (try clear p0); (try clear p1); (try clear p2); (try clear p3)
            obtain ⟨p0, p1, p2, p3⟩ := cZ4 BK
            by_cases hez : ez = 0
            · subst hez
              have h := HREST.out
              rw [if_pos rfl] at h
              unfold mosaiclaw09_OuterHolds.rest at h
              split at h
              rotate_left
              · cases h
              rename_i hzg
              have HZG := Aside0.mk hzg
              obtain ⟨z0, hz0⟩ : ∃ z0, z0 = z.getD 0 ByteArray.empty := ⟨_, rfl⟩
              obtain ⟨x0, hx0⟩ : ∃ x0, x0 = x.getD 0 ByteArray.empty := ⟨_, rfl⟩
              rw [← hz0, ← hx0] at h
              have HZ0 := Aside0.mk hz0
              have HX0 := Aside0.mk hx0
              clear hz0 hx0 hzg HREST
              by_cases hsz : (z0.size : Int) = (x0.size : Int)
              · rw [if_pos hsz] at h
                obtain ⟨sm, ASM, h⟩ := Option.bind_eq_some_iff.mp h
                have ASM := Aside0.mk ASM
                obtain ⟨b, AW, h⟩ := Option.bind_eq_some_iff.mp h
                have AW := Aside0.mk AW
                cases b with
                | false => rw [if_neg (by decide)] at h; cases h
                | true =>
                  rw [if_pos rfl] at h
                  have AH3 := Aside0.mk h
                  have e5 : ((z0.size : Int) != (x0.size : Int)) = false := bne_eq_false_iff_eq.mpr hsz
                  clear h hsz
                  go_wp2_with (first | (go_at_call 13; refine HCALL2.out.mono ?_; rintro e w5 ⟨rfl, hb⟩; clear HCALL2; (try clear p0); (try clear p1); (try clear p2); (try clear p3); replace HX := Aside0.mk (Kd.R_below (zR HX) hb); replace BK := Aside0.mk (blk_below (zk BK) hb); replace HB := Aside0.mk (below_step zB hb); clear hb; obtain ⟨p0, p1, p2, p3⟩ := cZ4 BK) | (go_at_call 12; (with_reducible refine (outer_Whole.calls k a0_0 a0_1 a0_2 a0_3 A2 c2 l2 z 0 _ (Kd.C_below HR2.out zB) HC2.out AZ.out).mono ?_); rintro e w4 ⟨vHZ, rfl, ho, hb⟩; obtain ⟨AHZ, cHZ, hv⟩ := Kd.R_slice ho; subst hv; replace ho := Kd.R_lower ho (below_size zB : w.heap.size ≤ _); replace HX := Aside0.mk (Kd.R_below (zR HX) hb); replace BK := Aside0.mk (blk_below (zk BK) hb); replace HB := Aside0.mk (below_step zB hb); have HZ := Aside0.mk ho; clear ho hb; (try clear p0); (try clear p1); (try clear p2); (try clear p3); obtain ⟨p0, p1, p2, p3⟩ := cZ4 BK; obtain ⟨adz, eAz, hz0⟩ := mosaiclaw09_OuterHolds.at_ (mosaiclaw09_OuterHolds.rc HZ.out) 0 HZG.out.1; subst eAz; obtain ⟨adx, eAx, hx0⟩ := mosaiclaw09_OuterHolds.at_ (mosaiclaw09_OuterHolds.rc HX.out) 0 HZG.out.2.1; subst eAx; have hadz : adz.add 0 = adz := (by simp [Addr.add]); have hadx : adx.add 0 = adx := (by simp [Addr.add]); rw [hadz, ← HZ0.out] at hz0; rw [hadx, ← HX0.out] at hx0; have qz0 := eq_true HZG.out.1; have qx0 := eq_true HZG.out.2.1))
                  refine start_ (n := 13) (S := fun w' => w'.cell? adz = some (.string z0) ∧ w'.cell? adx = some (.string x0)) (ds := []) #[false, false, false, false, false, false, false, false, false, false, false, false, false] (by kernel_rfl) rfl rfl ⟨hz0, hx0⟩ (fun hHeld => ?_)
                  refine pure_ (i := 0) (N := some 76) (v := ?_) (a' := ?_) #[true, false, false, false, false, false, false, false, false, false, false, false, false] rfl rfl (by kernel_rfl) (fun _ _ _ h => h) (Or.inl ⟨by rfl, ?_⟩) ?_ ?_
                  rotate_left
                  · intro w'
                    go_simp
                    with_reducible rfl
                  rotate_left
                  · simp only [Act.put, List.setIfInBounds_toArray, List.set_cons_zero, List.set_cons_succ, i64_w, i32_w]
                    rfl
                  refine pure_ (i := 1) (N := some 77) (v := ?_) (a' := ?_) #[true, true, false, false, false, false, false, false, false, false, false, false, false] rfl rfl (by kernel_rfl) (fun _ _ _ h => h) (Or.inl ⟨by rfl, ?_⟩) ?_ ?_
                  rotate_left
                  · intro w'
                    go_simp
                    with_reducible rfl
                  rotate_left
                  · simp only [Act.put, List.setIfInBounds_toArray, List.set_cons_zero, List.set_cons_succ, i64_w, i32_w]
                    rfl
                  refine pure_ (i := 2) (N := some 78) (v := ?_) (a' := ?_) #[true, true, true, false, false, false, false, false, false, false, false, false, false] rfl rfl (by kernel_rfl) (fun _ _ _ h => h) (Or.inl ⟨by rfl, ?_⟩) ?_ ?_
                  rotate_left
                  · intro w'
                    go_simp
                    with_reducible rfl
                  rotate_left
                  · simp only [Act.put, List.setIfInBounds_toArray, List.set_cons_zero, List.set_cons_succ, i64_w, i32_w]
                    rfl
                  refine pure_ (i := 3) (N := some 79) (v := ?_) (a' := ?_) #[true, true, true, true, false, false, false, false, false, false, false, false, false] rfl rfl (by kernel_rfl) (fun _ _ _ h => h) (Or.inl ⟨by rfl, ?_⟩) ?_ ?_
                  rotate_left
                  · intro w'
                    go_simp
                    with_reducible rfl
                  rotate_left
                  · simp only [Act.put, List.setIfInBounds_toArray, List.set_cons_zero, List.set_cons_succ, i64_w, i32_w]
                    rfl
                  refine pure_ (i := 4) (N := some 80) (v := ?_) (a' := ?_) #[true, true, true, true, true, false, false, false, false, false, false, false, false] rfl rfl (by kernel_rfl) (fun _ _ _ h => h) (Or.inl ⟨by rfl, ?_⟩) ?_ ?_
                  rotate_left
                  · intro w'
                    go_simp
                    with_reducible rfl
                  rotate_left
                  · simp only [Act.put, List.setIfInBounds_toArray, List.set_cons_zero, List.set_cons_succ, i64_w, i32_w]
                    rfl
                  refine pure_ (i := 7) (N := some 83) (v := ?_) (a' := ?_) #[true, true, true, true, true, false, false, true, false, false, false, false, false] rfl rfl (by kernel_rfl) (fun _ _ _ h => h) (Or.inl ⟨by rfl, ?_⟩) ?_ ?_
                  rotate_left
                  · intro w'
                    go_simp
                    with_reducible rfl
                  rotate_left
                  · simp only [Act.put, List.setIfInBounds_toArray, List.set_cons_zero, List.set_cons_succ, i64_w, i32_w]
                    rfl
                  refine pure_ (i := 8) (N := some 84) (v := ?_) (a' := ?_) #[true, true, true, true, true, false, false, true, true, false, false, false, false] rfl rfl (by kernel_rfl) (fun _ _ _ h => h) (Or.inl ⟨by rfl, ?_⟩) ?_ ?_
                  rotate_left
                  · intro w'
                    go_simp
                    with_reducible rfl
                  rotate_left
                  · simp only [Act.put, List.setIfInBounds_toArray, List.set_cons_zero, List.set_cons_succ, i64_w, i32_w]
                    rfl
                  refine take_ (i := 5) (N := some 81) (v := ?_) (a' := ?_) #[true, true, true, true, true, true, false, true, true, false, false, false, false] rfl rfl (by kernel_rfl) (fun _ _ _ h => h) (Or.inl ⟨by rfl, ?_⟩) hHeld ?_ ?_
                  rotate_left
                  · rintro w' ⟨s0, s1⟩
                    go_simp
                    with_reducible rfl
                  rotate_left
                  · simp only [Act.put, List.setIfInBounds_toArray, List.set_cons_zero, List.set_cons_succ, i64_w, i32_w]
                    rfl
                  refine pure_ (i := 6) (N := some 82) (v := ?_) (a' := ?_) #[true, true, true, true, true, true, true, true, true, false, false, false, false] rfl rfl (by kernel_rfl) (fun _ _ _ h => h) (Or.inl ⟨by rfl, ?_⟩) ?_ ?_
                  rotate_left
                  · intro w'
                    go_simp
                    with_reducible rfl
                  rotate_left
                  · simp only [Act.put, List.setIfInBounds_toArray, List.set_cons_zero, List.set_cons_succ, i64_w, i32_w]
                    rfl
                  refine take_ (i := 9) (N := some 85) (v := ?_) (a' := ?_) #[true, true, true, true, true, true, true, true, true, true, false, false, false] rfl rfl (by kernel_rfl) (fun _ _ _ h => h) (Or.inl ⟨by rfl, ?_⟩) hHeld ?_ ?_
                  rotate_left
                  · rintro w' ⟨s0, s1⟩
                    go_simp
                    with_reducible rfl
                  rotate_left
                  · simp only [Act.put, List.setIfInBounds_toArray, List.set_cons_zero, List.set_cons_succ, i64_w, i32_w]
                    rfl
                  refine pure_ (i := 10) (N := some 86) (v := ?_) (a' := ?_) #[true, true, true, true, true, true, true, true, true, true, true, false, false] rfl rfl (by kernel_rfl) (fun _ _ _ h => h) (Or.inl ⟨by rfl, ?_⟩) ?_ ?_
                  rotate_left
                  · intro w'
                    go_simp
                    with_reducible rfl
                  rotate_left
                  · simp only [Act.put, List.setIfInBounds_toArray, List.set_cons_zero, List.set_cons_succ, i64_w, i32_w]
                    rfl
                  refine pure_ (i := 11) (N := some 87) (v := ?_) (a' := ?_) #[true, true, true, true, true, true, true, true, true, true, true, true, false] rfl rfl (by kernel_rfl) (fun _ _ _ h => h) (Or.inl ⟨by rfl, ?_⟩) ?_ ?_
                  rotate_left
                  · intro w'
                    go_simp
                    with_reducible rfl
                  rotate_left
                  · simp only [Act.put, List.setIfInBounds_toArray, List.set_cons_zero, List.set_cons_succ, i64_w, i32_w]
                    rfl
                  refine pure_ (i := 12) (N := some 88) (v := ?_) (a' := ?_) #[true, true, true, true, true, true, true, true, true, true, true, true, true] rfl rfl (by kernel_rfl) (fun _ _ _ h => h) (Or.inl ⟨by rfl, ?_⟩) ?_ ?_
                  rotate_left
                  · intro w'
                    go_simp
                    with_reducible rfl
                  rotate_left
                  · simp only [Act.put, List.setIfInBounds_toArray, List.set_cons_zero, List.set_cons_succ, i64_w, i32_w]
                    rfl
                  refine done_ (by kernel_rfl) ?_
                  
                  go_wp2_with fail
                  obtain ⟨wL, ewL⟩ : ∃ W, W = w4.drew := ⟨_, rfl⟩
                  rw [← ewL]
                  have HXC : Aside0 (Kd.C Kd.string wL (some adx) x.length x) := ⟨by rw [ewL]; exact Kd.C_drew (mosaiclaw09_OuterHolds.rc HX.out)⟩
                  have HZC : Aside0 (Kd.C Kd.string wL (some adz) z.length z) := ⟨by rw [ewL]; exact Kd.C_drew (mosaiclaw09_OuterHolds.rc HZ.out)⟩
                  replace BK : Aside0 (wL.heap[gb]? = some (.cells #[.int .i64 a0_0, .int .i64 a0_1, .int .i64 a0_2, .int .i64 a0_3] 23 (0, 0))) := ⟨by rw [ewL]; exact BK.out⟩
                  have HBW : Aside0 (Below w.heap.size w wL) := ⟨by rw [ewL]; exact below_drew HB.out⟩
                  replace HB := Aside0.mk (Below.refl wL.heap.size wL)
                  have HXL := Aside0.mk HZG.out.2.2
                  clear HX HZ hz0 hx0 ewL hadz hadx qz0 qx0 e5
                  (try clear p0); (try clear p1); (try clear p2); (try clear p3)
                  go_loopg [14, 15] x.length (fun gg s14 s15 wr => ∃ (i : Nat) (acc : List ByteArray), i ≤ x.length ∧ x.length - i ≤ gg ∧ s15 = .int .i64 i ∧ acc.length = i ∧ Aside0 (mosaiclaw09_OuterHolds.sumL x z (x.length - i) i acc = some sm) ∧ Aside0 (Kd.R Kd.string 9 wr wL.heap.size (fun _ => True) s14 acc) ∧ Aside0 (Below wL.heap.size wL wr))
                  case atStart => exact ⟨0, [], Nat.zero_le _, by omega, rfl, rfl, ⟨ASM.out⟩, ⟨Kd.R_nil _ _ _ _ _⟩, HB⟩
                  case round =>
                    clear HB ASM
                    obtain ⟨i, acc, hix, hgg, rfl, hal, ASM, HS, HB⟩ := hrel
                    have hxl := HXL.out
                    by_cases hlt : i < x.length
                    · have hltz : (i : Int) < (x.length : Int) := by omega
                      obtain ⟨d, hd⟩ : ∃ d, x.length - i = d + 1 := ⟨x.length - i - 1, by omega⟩
                      have ha := ASM.out
                      rw [hd, mosaiclaw09_OuterHolds.sumL] at ha
                      split at ha
                      rotate_left
                      · cases ha
                      rename_i hiz
                      obtain ⟨⟨sx, gx⟩, AXR, ha⟩ := Option.bind_eq_some_iff.mp ha
                      simp only at ha
                      split at ha
                      rotate_left
                      · cases ha
                      rename_i hg0
                      subst hg0
                      have hd2 : d = x.length - (i + 1) := by omega
                      rw [hd2] at ha
                      have ASN := Aside0.mk ha
                      have AXR := Aside0.mk AXR
                      have hiz2 : (i : Int) < (z.length : Int) := by omega
                      obtain ⟨ad1, e1, hxi⟩ := mosaiclaw09_OuterHolds.at_ (Kd.C_below HXC.out HB.out) i hlt
                      cases e1
                      obtain ⟨ad2, e2, hzi⟩ := mosaiclaw09_OuterHolds.at_ (Kd.C_below HZC.out HB.out) i hiz
                      cases e2
                      have HAL : Aside0 (acc.length + 1 ≤ 2000000) := ⟨by omega⟩
                      have hx9 := eq_true hltz
                      have hz9 := eq_true hiz2
                      have hi9 : ((0 : Int) ≤ (i : Int)) = True := eq_true (by omega)
                      have hi8 : (i < x.length) = True := eq_true hlt
                      have hi7 : (i < z.length) = True := eq_true hiz
                      have HHD := Aside0.mk hd
                      clear ha ASM hd hd2 hiz
                      generalize x.getD i ByteArray.empty = xi at *
                      generalize z.getD i ByteArray.empty = zi at *
                      go_wp2_with fail
                      refine start_ (n := 14) (S := fun w' => w'.cell? (adx.add i) = some (.string xi) ∧ w'.cell? (adz.add i) = some (.string zi)) (ds := []) #[false, false, false, false, false, false, false, false, false, false, false, false, false, false] (by kernel_rfl) rfl rfl ⟨hxi, hzi⟩ (fun hHeld => ?_)
                      refine pure_ (i := 0) (N := some 97) (v := ?_) (a' := ?_) #[true, false, false, false, false, false, false, false, false, false, false, false, false, false] rfl rfl (by kernel_rfl) (fun _ _ _ h => h) (Or.inl ⟨by rfl, ?_⟩) ?_ ?_
                      rotate_left
                      · intro w'
                        go_simp
                        with_reducible rfl
                      rotate_left
                      · simp only [Act.put, List.setIfInBounds_toArray, List.set_cons_zero, List.set_cons_succ, i64_w, i32_w]
                        rfl
                      refine pure_ (i := 1) (N := some 98) (v := ?_) (a' := ?_) #[true, true, false, false, false, false, false, false, false, false, false, false, false, false] rfl rfl (by kernel_rfl) (fun _ _ _ h => h) (Or.inl ⟨by rfl, ?_⟩) ?_ ?_
                      rotate_left
                      · intro w'
                        go_simp
                        with_reducible rfl
                      rotate_left
                      · simp only [Act.put, List.setIfInBounds_toArray, List.set_cons_zero, List.set_cons_succ, i64_w, i32_w]
                        rfl
                      refine pure_ (i := 2) (N := some 99) (v := ?_) (a' := ?_) #[true, true, true, false, false, false, false, false, false, false, false, false, false, false] rfl rfl (by kernel_rfl) (fun _ _ _ h => h) (Or.inl ⟨by rfl, ?_⟩) ?_ ?_
                      rotate_left
                      · intro w'
                        go_simp
                        with_reducible rfl
                      rotate_left
                      · simp only [Act.put, List.setIfInBounds_toArray, List.set_cons_zero, List.set_cons_succ, i64_w, i32_w]
                        rfl
                      refine pure_ (i := 4) (N := some 101) (v := ?_) (a' := ?_) #[true, true, true, false, true, false, false, false, false, false, false, false, false, false] rfl rfl (by kernel_rfl) (fun _ _ _ h => h) (Or.inl ⟨by rfl, ?_⟩) ?_ ?_
                      rotate_left
                      · intro w'
                        go_simp
                        with_reducible rfl
                      rotate_left
                      · simp only [Act.put, List.setIfInBounds_toArray, List.set_cons_zero, List.set_cons_succ, i64_w, i32_w]
                        rfl
                      refine pure_ (i := 5) (N := some 102) (v := ?_) (a' := ?_) #[true, true, true, false, true, true, false, false, false, false, false, false, false, false] rfl rfl (by kernel_rfl) (fun _ _ _ h => h) (Or.inl ⟨by rfl, ?_⟩) ?_ ?_
                      rotate_left
                      · intro w'
                        go_simp
                        with_reducible rfl
                      rotate_left
                      · simp only [Act.put, List.setIfInBounds_toArray, List.set_cons_zero, List.set_cons_succ, i64_w, i32_w]
                        rfl
                      refine pure_ (i := 6) (N := some 103) (v := ?_) (a' := ?_) #[true, true, true, false, true, true, true, false, false, false, false, false, false, false] rfl rfl (by kernel_rfl) (fun _ _ _ h => h) (Or.inl ⟨by rfl, ?_⟩) ?_ ?_
                      rotate_left
                      · intro w'
                        go_simp
                        with_reducible rfl
                      rotate_left
                      · simp only [Act.put, List.setIfInBounds_toArray, List.set_cons_zero, List.set_cons_succ, i64_w, i32_w]
                        rfl
                      refine take_ (i := 3) (N := some 100) (v := ?_) (a' := ?_) #[true, true, true, true, true, true, true, false, false, false, false, false, false, false] rfl rfl (by kernel_rfl) (fun _ _ _ h => h) (Or.inl ⟨by rfl, ?_⟩) hHeld ?_ ?_
                      rotate_left
                      · rintro w' ⟨s0, s1⟩
                        go_simp
                        with_reducible rfl
                      rotate_left
                      · simp only [Act.put, List.setIfInBounds_toArray, List.set_cons_zero, List.set_cons_succ, i64_w, i32_w]
                        rfl
                      refine take_ (i := 7) (N := some 104) (v := ?_) (a' := ?_) #[true, true, true, true, true, true, true, true, false, false, false, false, false, false] rfl rfl (by kernel_rfl) (fun _ _ _ h => h) (Or.inl ⟨by rfl, ?_⟩) hHeld ?_ ?_
                      rotate_left
                      · rintro w' ⟨s0, s1⟩
                        go_simp
                        with_reducible rfl
                      rotate_left
                      · simp only [Act.put, List.setIfInBounds_toArray, List.set_cons_zero, List.set_cons_succ, i64_w, i32_w]
                        rfl
                      refine one_ (i := 8) (N := some 105) #[true, true, true, true, true, true, true, true, true, false, false, false, false, false] rfl rfl (by kernel_rfl) (by decide) (fun K hK => ?_)
                      refine goes_ Try.func14 (by kernel_rfl) rfl #[.string xi, .string zi] (by rfl) rfl rfl (by simp only [List.map_toArray, List.map_cons, List.map_nil]; rfl) ?_
                      with_reducible refine (block_Xor.calls xi zi sx 0 wr.drew AXR.out).mono ?_
                      rintro e w7 ⟨rfl, hbk⟩
                      refine ⟨_, rfl, ?_⟩
                      replace HS := Aside0.mk (Kd.R_below (Kd.R_drew HS.out) hbk)
                      replace HB := Aside0.mk (below_step (below_drew HB.out) hbk)
                      have hx7 := pw_cell_below hbk (show wr.drew.cell? (adx.add i) = some (.string xi) from hxi)
                      have hz7 := pw_cell_below hbk (show wr.drew.cell? (adz.add i) = some (.string zi) from hzi)
                      refine hK.out _ _ ⟨hx7, hz7⟩ (fun hHeld => ?_)
                      clear hK K
                      refine norm_ (a' := ?_) ?_ ?_
                      rotate_left
                      · show Act.put _ (some 105) _ = _
                        simp only [Act.put, List.setIfInBounds_toArray, List.set_cons_zero, List.set_cons_succ, i64_w, i32_w]
                        rfl
                      refine pure_ (i := 9) (N := some 96) (v := ?_) (a' := ?_) #[true, true, true, true, true, true, true, true, true, true, false, false, false, false] rfl rfl (by kernel_rfl) (fun _ _ _ h => h) (Or.inl ⟨by rfl, ?_⟩) ?_ ?_
                      rotate_left
                      · intro w'
                        go_simp
                        with_reducible rfl
                      rotate_left
                      · simp only [Act.put, List.setIfInBounds_toArray, List.set_cons_zero, List.set_cons_succ, i64_w, i32_w]
                        rfl
                      refine pure_ (i := 10) (N := some 106) (v := ?_) (a' := ?_) #[true, true, true, true, true, true, true, true, true, true, true, false, false, false] rfl rfl (by kernel_rfl) (fun _ _ _ h => h) (Or.inl ⟨by rfl, ?_⟩) ?_ ?_
                      rotate_left
                      · intro w'
                        go_simp
                        with_reducible rfl
                      rotate_left
                      · simp only [Act.put, List.setIfInBounds_toArray, List.set_cons_zero, List.set_cons_succ, i64_w, i32_w]
                        rfl
                      refine pure_ (i := 11) (N := some 107) (v := ?_) (a' := ?_) #[true, true, true, true, true, true, true, true, true, true, true, true, false, false] rfl rfl (by kernel_rfl) (fun _ _ _ h => h) (Or.inl ⟨by rfl, ?_⟩) ?_ ?_
                      rotate_left
                      · intro w'
                        go_simp
                        with_reducible rfl
                      rotate_left
                      · simp only [Act.put, List.setIfInBounds_toArray, List.set_cons_zero, List.set_cons_succ, i64_w, i32_w]
                        rfl
                      refine pure_ (i := 12) (N := some 16) (v := ?_) (a' := ?_) #[true, true, true, true, true, true, true, true, true, true, true, true, true, false] rfl rfl (by kernel_rfl) (fun _ _ _ h => h) (Or.inl ⟨by rfl, ?_⟩) ?_ ?_
                      rotate_left
                      · intro w'
                        go_simp
                        with_reducible rfl
                      rotate_left
                      · simp only [Act.put, List.setIfInBounds_toArray, List.set_cons_zero, List.set_cons_succ, i64_w, i32_w]
                        rfl
                      refine pure_ (i := 13) (N := some 17) (v := ?_) (a' := ?_) #[true, true, true, true, true, true, true, true, true, true, true, true, true, true] rfl rfl (by kernel_rfl) (fun _ _ _ h => h) (Or.inl ⟨by rfl, ?_⟩) ?_ ?_
                      rotate_left
                      · intro w'
                        go_simp
                        with_reducible rfl
                      rotate_left
                      · simp only [Act.put, List.setIfInBounds_toArray, List.set_cons_zero, List.set_cons_succ, i64_w, i32_w]
                        rfl
                      refine done_ (by kernel_rfl) ?_
                      
                      go_wp2_with (first | ((with_reducible refine gate_builtin (b := .append) (xs := #[.tmp 110, .tmp 112]) rfl ?_); at_builtin; refine Kd.R_append Kd.string (w0 := wL) wL.heap.size rfl (.tmp 110) (.tmp 112) 34 9 (.string ⟨#[]⟩) 16 rfl Try.underlying34 info9 rfl (by decide) (by omega) u14 acc sx [.string sx] (fun _ => True) (fun _ => False) rfl rfl ?aP (fun _ hk => hk.elim) ?aF ?aO ?aB ?aS ?aL ?_; (case aP => exact rfl); (case aB => exact zB); (case aF => exact (fun _ _ => trivial)); (case aO => exact (by (with_reducible repeat (first | apply Kd.R_alloc | apply Kd.R_drewN | apply Kd.R_drew)); exact HS.out)); (case aS => exact (below_size zB)); (case aL => have := HAL.out; omega); intro v113 w8 ho hb hg hat; replace HS := Aside0.mk ho; replace HB := Aside0.mk hb; clear ho hb hg hat))
                      go_roundg (x.length - (i + 1))
                      case measure => omega
                      case rel => exact ⟨i + 1, acc ++ [sx], by omega, by omega, by go_num, by rw [List.length_append]; simp; omega, ASN, ⟨zR HS⟩, ⟨zB⟩⟩
                    · have hltz : ¬ (i : Int) < (x.length : Int) := by omega
                      have ha := ASM.out
                      rw [show x.length - i = 0 by omega, mosaiclaw09_OuterHolds.sumL] at ha
                      obtain rfl := Option.some.inj ha
                      obtain ⟨AS, cS, eS⟩ := Kd.R_slice HS.out
                      subst eS
                      replace BK := Aside0.mk (blk_below BK.out HB.out)
                      replace HB := Aside0.mk (below_step HBW.out HB.out)
                      obtain ⟨p0, p1, p2, p3⟩ := cZ4 BK
                      clear ha ASM hix hgg hal hxl hlt HXC HZC
                      go_wp2_with (first | (go_at_call 7; (with_reducible refine (mosaiclaw09_awake.calls k true _ AW.out).mono ?_); rintro e w9 ⟨rfl, hb⟩; (try clear p0); (try clear p1); (try clear p2); (try clear p3); replace HS := Aside0.mk (Kd.R_below (zR HS) hb); replace BK := Aside0.mk (blk_below (zk BK) hb); replace HB := Aside0.mk (below_step zB hb); clear hb; obtain ⟨p0, p1, p2, p3⟩ := cZ4 BK) | (go_at_call 13; (with_reducible refine (outer_Holds.calls k a0_0 a0_1 a0_2 a0_3 _ _ acc r _ ?side1 ?side2 AH3.out).mono ?_); (case side1 => exact zRC HS); (case side2 => exact (Kd.R_reads' HS.out).2.1); rintro e w5 ⟨rfl, hb⟩; (try clear p0); (try clear p1); (try clear p2); (try clear p3); replace HS := Aside0.mk (Kd.R_below (zR HS) hb); replace BK := Aside0.mk (blk_below (zk BK) hb); replace HB := Aside0.mk (below_step zB hb); clear hb; obtain ⟨p0, p1, p2, p3⟩ := cZ4 BK))
                      go_ret
                      exact ⟨by first | rfl | (simp; done), zB⟩
              · rw [if_neg hsz] at h
                have AW := Aside0.mk h
                have e5 : ((z0.size : Int) != (x0.size : Int)) = true := bne_iff_ne.mpr hsz
                clear h hsz
                go_wp2_with (first | (go_at_call 13; refine HCALL2.out.mono ?_; rintro e w5 ⟨rfl, hb⟩; clear HCALL2; (try clear p0); (try clear p1); (try clear p2); (try clear p3); replace HX := Aside0.mk (Kd.R_below (zR HX) hb); replace BK := Aside0.mk (blk_below (zk BK) hb); replace HB := Aside0.mk (below_step zB hb); clear hb; obtain ⟨p0, p1, p2, p3⟩ := cZ4 BK) | (go_at_call 12; (with_reducible refine (outer_Whole.calls k a0_0 a0_1 a0_2 a0_3 A2 c2 l2 z 0 _ (Kd.C_below HR2.out zB) HC2.out AZ.out).mono ?_); rintro e w4 ⟨vHZ, rfl, ho, hb⟩; obtain ⟨AHZ, cHZ, hv⟩ := Kd.R_slice ho; subst hv; replace ho := Kd.R_lower ho (below_size zB : w.heap.size ≤ _); replace HX := Aside0.mk (Kd.R_below (zR HX) hb); replace BK := Aside0.mk (blk_below (zk BK) hb); replace HB := Aside0.mk (below_step zB hb); have HZ := Aside0.mk ho; clear ho hb; (try clear p0); (try clear p1); (try clear p2); (try clear p3); obtain ⟨p0, p1, p2, p3⟩ := cZ4 BK; obtain ⟨adz, eAz, hz0⟩ := mosaiclaw09_OuterHolds.at_ (mosaiclaw09_OuterHolds.rc HZ.out) 0 HZG.out.1; subst eAz; obtain ⟨adx, eAx, hx0⟩ := mosaiclaw09_OuterHolds.at_ (mosaiclaw09_OuterHolds.rc HX.out) 0 HZG.out.2.1; subst eAx; have hadz : adz.add 0 = adz := (by simp [Addr.add]); have hadx : adx.add 0 = adx := (by simp [Addr.add]); rw [hadz, ← HZ0.out] at hz0; rw [hadx, ← HX0.out] at hx0; have qz0 := eq_true HZG.out.1; have qx0 := eq_true HZG.out.2.1))
                refine start_ (n := 13) (S := fun w' => w'.cell? adz = some (.string z0) ∧ w'.cell? adx = some (.string x0)) (ds := []) #[false, false, false, false, false, false, false, false, false, false, false, false, false] (by kernel_rfl) rfl rfl ⟨hz0, hx0⟩ (fun hHeld => ?_)
                refine pure_ (i := 0) (N := some 76) (v := ?_) (a' := ?_) #[true, false, false, false, false, false, false, false, false, false, false, false, false] rfl rfl (by kernel_rfl) (fun _ _ _ h => h) (Or.inl ⟨by rfl, ?_⟩) ?_ ?_
                rotate_left
                · intro w'
                  go_simp
                  with_reducible rfl
                rotate_left
                · simp only [Act.put, List.setIfInBounds_toArray, List.set_cons_zero, List.set_cons_succ, i64_w, i32_w]
                  rfl
                refine pure_ (i := 1) (N := some 77) (v := ?_) (a' := ?_) #[true, true, false, false, false, false, false, false, false, false, false, false, false] rfl rfl (by kernel_rfl) (fun _ _ _ h => h) (Or.inl ⟨by rfl, ?_⟩) ?_ ?_
                rotate_left
                · intro w'
                  go_simp
                  with_reducible rfl
                rotate_left
                · simp only [Act.put, List.setIfInBounds_toArray, List.set_cons_zero, List.set_cons_succ, i64_w, i32_w]
                  rfl
                refine pure_ (i := 2) (N := some 78) (v := ?_) (a' := ?_) #[true, true, true, false, false, false, false, false, false, false, false, false, false] rfl rfl (by kernel_rfl) (fun _ _ _ h => h) (Or.inl ⟨by rfl, ?_⟩) ?_ ?_
                rotate_left
                · intro w'
                  go_simp
                  with_reducible rfl
                rotate_left
                · simp only [Act.put, List.setIfInBounds_toArray, List.set_cons_zero, List.set_cons_succ, i64_w, i32_w]
                  rfl
                refine pure_ (i := 3) (N := some 79) (v := ?_) (a' := ?_) #[true, true, true, true, false, false, false, false, false, false, false, false, false] rfl rfl (by kernel_rfl) (fun _ _ _ h => h) (Or.inl ⟨by rfl, ?_⟩) ?_ ?_
                rotate_left
                · intro w'
                  go_simp
                  with_reducible rfl
                rotate_left
                · simp only [Act.put, List.setIfInBounds_toArray, List.set_cons_zero, List.set_cons_succ, i64_w, i32_w]
                  rfl
                refine pure_ (i := 4) (N := some 80) (v := ?_) (a' := ?_) #[true, true, true, true, true, false, false, false, false, false, false, false, false] rfl rfl (by kernel_rfl) (fun _ _ _ h => h) (Or.inl ⟨by rfl, ?_⟩) ?_ ?_
                rotate_left
                · intro w'
                  go_simp
                  with_reducible rfl
                rotate_left
                · simp only [Act.put, List.setIfInBounds_toArray, List.set_cons_zero, List.set_cons_succ, i64_w, i32_w]
                  rfl
                refine pure_ (i := 7) (N := some 83) (v := ?_) (a' := ?_) #[true, true, true, true, true, false, false, true, false, false, false, false, false] rfl rfl (by kernel_rfl) (fun _ _ _ h => h) (Or.inl ⟨by rfl, ?_⟩) ?_ ?_
                rotate_left
                · intro w'
                  go_simp
                  with_reducible rfl
                rotate_left
                · simp only [Act.put, List.setIfInBounds_toArray, List.set_cons_zero, List.set_cons_succ, i64_w, i32_w]
                  rfl
                refine pure_ (i := 8) (N := some 84) (v := ?_) (a' := ?_) #[true, true, true, true, true, false, false, true, true, false, false, false, false] rfl rfl (by kernel_rfl) (fun _ _ _ h => h) (Or.inl ⟨by rfl, ?_⟩) ?_ ?_
                rotate_left
                · intro w'
                  go_simp
                  with_reducible rfl
                rotate_left
                · simp only [Act.put, List.setIfInBounds_toArray, List.set_cons_zero, List.set_cons_succ, i64_w, i32_w]
                  rfl
                refine take_ (i := 5) (N := some 81) (v := ?_) (a' := ?_) #[true, true, true, true, true, true, false, true, true, false, false, false, false] rfl rfl (by kernel_rfl) (fun _ _ _ h => h) (Or.inl ⟨by rfl, ?_⟩) hHeld ?_ ?_
                rotate_left
                · rintro w' ⟨s0, s1⟩
                  go_simp
                  with_reducible rfl
                rotate_left
                · simp only [Act.put, List.setIfInBounds_toArray, List.set_cons_zero, List.set_cons_succ, i64_w, i32_w]
                  rfl
                refine pure_ (i := 6) (N := some 82) (v := ?_) (a' := ?_) #[true, true, true, true, true, true, true, true, true, false, false, false, false] rfl rfl (by kernel_rfl) (fun _ _ _ h => h) (Or.inl ⟨by rfl, ?_⟩) ?_ ?_
                rotate_left
                · intro w'
                  go_simp
                  with_reducible rfl
                rotate_left
                · simp only [Act.put, List.setIfInBounds_toArray, List.set_cons_zero, List.set_cons_succ, i64_w, i32_w]
                  rfl
                refine take_ (i := 9) (N := some 85) (v := ?_) (a' := ?_) #[true, true, true, true, true, true, true, true, true, true, false, false, false] rfl rfl (by kernel_rfl) (fun _ _ _ h => h) (Or.inl ⟨by rfl, ?_⟩) hHeld ?_ ?_
                rotate_left
                · rintro w' ⟨s0, s1⟩
                  go_simp
                  with_reducible rfl
                rotate_left
                · simp only [Act.put, List.setIfInBounds_toArray, List.set_cons_zero, List.set_cons_succ, i64_w, i32_w]
                  rfl
                refine pure_ (i := 10) (N := some 86) (v := ?_) (a' := ?_) #[true, true, true, true, true, true, true, true, true, true, true, false, false] rfl rfl (by kernel_rfl) (fun _ _ _ h => h) (Or.inl ⟨by rfl, ?_⟩) ?_ ?_
                rotate_left
                · intro w'
                  go_simp
                  with_reducible rfl
                rotate_left
                · simp only [Act.put, List.setIfInBounds_toArray, List.set_cons_zero, List.set_cons_succ, i64_w, i32_w]
                  rfl
                refine pure_ (i := 11) (N := some 87) (v := ?_) (a' := ?_) #[true, true, true, true, true, true, true, true, true, true, true, true, false] rfl rfl (by kernel_rfl) (fun _ _ _ h => h) (Or.inl ⟨by rfl, ?_⟩) ?_ ?_
                rotate_left
                · intro w'
                  go_simp
                  with_reducible rfl
                rotate_left
                · simp only [Act.put, List.setIfInBounds_toArray, List.set_cons_zero, List.set_cons_succ, i64_w, i32_w]
                  rfl
                refine pure_ (i := 12) (N := some 88) (v := ?_) (a' := ?_) #[true, true, true, true, true, true, true, true, true, true, true, true, true] rfl rfl (by kernel_rfl) (fun _ _ _ h => h) (Or.inl ⟨by rfl, ?_⟩) ?_ ?_
                rotate_left
                · intro w'
                  go_simp
                  with_reducible rfl
                rotate_left
                · simp only [Act.put, List.setIfInBounds_toArray, List.set_cons_zero, List.set_cons_succ, i64_w, i32_w]
                  rfl
                refine done_ (by kernel_rfl) ?_
                
                go_wp2_with (first | (go_at_call 7; (with_reducible refine (mosaiclaw09_awake.calls k r _ AW.out).mono ?_); rintro e w9 ⟨rfl, hb⟩; (try clear p0); (try clear p1); (try clear p2); (try clear p3); replace BK := Aside0.mk (blk_below (zk BK) hb); replace HB := Aside0.mk (below_step zB hb); clear hb; obtain ⟨p0, p1, p2, p3⟩ := cZ4 BK))
                go_ret
                exact ⟨rfl, zB⟩
            · have h := HREST.out
              rw [if_neg hez] at h
              have AW := Aside0.mk h
              have e1 : (ez != 0) = true := bne_iff_ne.mpr hez
              clear h hez HREST
              go_wp2_with (first | (go_at_call 13; refine HCALL2.out.mono ?_; rintro e w5 ⟨rfl, hb⟩; clear HCALL2; (try clear p0); (try clear p1); (try clear p2); (try clear p3); replace HX := Aside0.mk (Kd.R_below (zR HX) hb); replace BK := Aside0.mk (blk_below (zk BK) hb); replace HB := Aside0.mk (below_step zB hb); clear hb; obtain ⟨p0, p1, p2, p3⟩ := cZ4 BK) | (go_at_call 12; (with_reducible refine (outer_Whole.calls k a0_0 a0_1 a0_2 a0_3 A2 c2 l2 z ez _ (Kd.C_below HR2.out zB) HC2.out AZ.out).mono ?_); rintro e w4 ⟨vHZ, rfl, ho, hb⟩; obtain ⟨AHZ, cHZ, hv⟩ := Kd.R_slice ho; subst hv; replace ho := Kd.R_lower ho (below_size zB : w.heap.size ≤ _); replace HX := Aside0.mk (Kd.R_below (zR HX) hb); replace BK := Aside0.mk (blk_below (zk BK) hb); replace HB := Aside0.mk (below_step zB hb); have HZ := Aside0.mk ho; clear ho hb; (try clear p0); (try clear p1); (try clear p2); (try clear p3); obtain ⟨p0, p1, p2, p3⟩ := cZ4 BK))
              refine start_ (n := 13) (S := fun w' => True) (ds := []) #[false, false, false, false, false, false, false, false, false, false, false, false, false] (by kernel_rfl) rfl rfl trivial (fun hHeld => ?_)
              refine pure_ (i := 0) (N := some 76) (v := ?_) (a' := ?_) #[true, false, false, false, false, false, false, false, false, false, false, false, false] rfl rfl (by kernel_rfl) (fun _ _ _ h => h) (Or.inl ⟨by rfl, ?_⟩) ?_ ?_
              rotate_left
              · intro w'
                go_simp
                with_reducible rfl
              rotate_left
              · simp only [Act.put, List.setIfInBounds_toArray, List.set_cons_zero, List.set_cons_succ, i64_w, i32_w]
                rfl
              refine pure_ (i := 1) (N := some 77) (v := ?_) (a' := ?_) #[true, true, false, false, false, false, false, false, false, false, false, false, false] rfl rfl (by kernel_rfl) (fun _ _ _ h => h) (Or.inl ⟨by rfl, ?_⟩) ?_ ?_
              rotate_left
              · intro w'
                go_simp
                with_reducible rfl
              rotate_left
              · simp only [Act.put, List.setIfInBounds_toArray, List.set_cons_zero, List.set_cons_succ, i64_w, i32_w]
                rfl
              refine pure_ (i := 2) (N := some 78) (v := ?_) (a' := ?_) #[true, true, true, false, false, false, false, false, false, false, false, false, false] rfl rfl (by kernel_rfl) (fun _ _ _ h => h) (Or.inl ⟨by rfl, ?_⟩) ?_ ?_
              rotate_left
              · intro w'
                go_simp
                with_reducible rfl
              rotate_left
              · simp only [Act.put, List.setIfInBounds_toArray, List.set_cons_zero, List.set_cons_succ, i64_w, i32_w]
                rfl
              refine pure_ (i := 3) (N := some 79) (v := undef) (a' := ?_) #[true, true, true, true, false, false, false, false, false, false, false, false, false] rfl rfl (by kernel_rfl) (fun _ _ _ h => h) (Or.inr ⟨by rfl, rfl⟩) ?_ ?_
              rotate_left
              · simp only [Act.put, List.setIfInBounds_toArray, List.set_cons_zero, List.set_cons_succ, i64_w, i32_w]
                rfl
              refine pure_ (i := 4) (N := some 80) (v := undef) (a' := ?_) #[true, true, true, true, true, false, false, false, false, false, false, false, false] rfl rfl (by kernel_rfl) (fun _ _ _ h => h) (Or.inr ⟨by rfl, rfl⟩) ?_ ?_
              rotate_left
              · simp only [Act.put, List.setIfInBounds_toArray, List.set_cons_zero, List.set_cons_succ, i64_w, i32_w]
                rfl
              refine pure_ (i := 5) (N := some 81) (v := undef) (a' := ?_) #[true, true, true, true, true, true, false, false, false, false, false, false, false] rfl rfl (by kernel_rfl) (fun _ _ _ h => h) (Or.inr ⟨by rfl, rfl⟩) ?_ ?_
              rotate_left
              · simp only [Act.put, List.setIfInBounds_toArray, List.set_cons_zero, List.set_cons_succ, i64_w, i32_w]
                rfl
              refine pure_ (i := 6) (N := some 82) (v := undef) (a' := ?_) #[true, true, true, true, true, true, true, false, false, false, false, false, false] rfl rfl (by kernel_rfl) (fun _ _ _ h => h) (Or.inr ⟨by rfl, rfl⟩) ?_ ?_
              rotate_left
              · simp only [Act.put, List.setIfInBounds_toArray, List.set_cons_zero, List.set_cons_succ, i64_w, i32_w]
                rfl
              refine pure_ (i := 7) (N := some 83) (v := undef) (a' := ?_) #[true, true, true, true, true, true, true, true, false, false, false, false, false] rfl rfl (by kernel_rfl) (fun _ _ _ h => h) (Or.inr ⟨by rfl, rfl⟩) ?_ ?_
              rotate_left
              · simp only [Act.put, List.setIfInBounds_toArray, List.set_cons_zero, List.set_cons_succ, i64_w, i32_w]
                rfl
              refine pure_ (i := 8) (N := some 84) (v := undef) (a' := ?_) #[true, true, true, true, true, true, true, true, true, false, false, false, false] rfl rfl (by kernel_rfl) (fun _ _ _ h => h) (Or.inr ⟨by rfl, rfl⟩) ?_ ?_
              rotate_left
              · simp only [Act.put, List.setIfInBounds_toArray, List.set_cons_zero, List.set_cons_succ, i64_w, i32_w]
                rfl
              refine pure_ (i := 9) (N := some 85) (v := undef) (a' := ?_) #[true, true, true, true, true, true, true, true, true, true, false, false, false] rfl rfl (by kernel_rfl) (fun _ _ _ h => h) (Or.inr ⟨by rfl, rfl⟩) ?_ ?_
              rotate_left
              · simp only [Act.put, List.setIfInBounds_toArray, List.set_cons_zero, List.set_cons_succ, i64_w, i32_w]
                rfl
              refine pure_ (i := 10) (N := some 86) (v := undef) (a' := ?_) #[true, true, true, true, true, true, true, true, true, true, true, false, false] rfl rfl (by kernel_rfl) (fun _ _ _ h => h) (Or.inr ⟨by rfl, rfl⟩) ?_ ?_
              rotate_left
              · simp only [Act.put, List.setIfInBounds_toArray, List.set_cons_zero, List.set_cons_succ, i64_w, i32_w]
                rfl
              refine pure_ (i := 11) (N := some 87) (v := undef) (a' := ?_) #[true, true, true, true, true, true, true, true, true, true, true, true, false] rfl rfl (by kernel_rfl) (fun _ _ _ h => h) (Or.inr ⟨by rfl, rfl⟩) ?_ ?_
              rotate_left
              · simp only [Act.put, List.setIfInBounds_toArray, List.set_cons_zero, List.set_cons_succ, i64_w, i32_w]
                rfl
              refine pure_ (i := 12) (N := some 88) (v := ?_) (a' := ?_) #[true, true, true, true, true, true, true, true, true, true, true, true, true] rfl rfl (by kernel_rfl) (fun _ _ _ h => h) (Or.inl ⟨by rfl, ?_⟩) ?_ ?_
              rotate_left
              · intro w'
                go_simp
                with_reducible rfl
              rotate_left
              · simp only [Act.put, List.setIfInBounds_toArray, List.set_cons_zero, List.set_cons_succ, i64_w, i32_w]
                rfl
              refine done_ (by kernel_rfl) ?_
              
              go_wp2_with (first | (go_at_call 7; (with_reducible refine (mosaiclaw09_awake.calls k r _ AW.out).mono ?_); rintro e w9 ⟨rfl, hb⟩; (try clear p0); (try clear p1); (try clear p2); (try clear p3); replace BK := Aside0.mk (blk_below (zk BK) hb); replace HB := Aside0.mk (below_step zB hb); clear hb; obtain ⟨p0, p1, p2, p3⟩ := cZ4 BK))
              go_ret
              exact ⟨rfl, zB⟩
      · rw [if_neg hex] at h
        have e1 : (ex != 0) = true := bne_iff_ne.mpr hex
        have e2 : (ex == 0) = false := beq_eq_false_iff_ne.mpr hex
        obtain ⟨b, AW, h⟩ := Option.bind_eq_some_iff.mp h
        have AW := Aside0.mk AW
        cases b with
        | false => rw [if_neg (by decide)] at h; cases h
        | true =>
          rw [if_pos rfl] at h
          obtain rfl := Option.some.inj h
          clear h hex
          go_enter Try.func4, Try.ntmps4
          go_wp2_with (first | ((with_reducible refine gate_dst (N := 3) rfl ?_); refine box_event ?hg (N := 3) ?hd (cs := #[.int .i64 a0_0, .int .i64 a0_1, .int .i64 a0_2, .int .i64 a0_3]) (t := 23) ?hr ?_; (case hd => rfl); (case hg => rfl); (case hr => first | (go_simp; done) | (go_simp; rfl)); intro gb hg w2 hbox hb; have BK := Aside0.mk hbox; have GE := Aside0.mk ((zg : w.heap.size ≤ gb)); replace HB := Aside0.mk (below_step zB hb); clear hb hbox hg; obtain ⟨p0, p1, p2, p3⟩ := cZ4 BK) | (go_at_call 11; (with_reducible refine (mosaiclaw09_few.calls k A1 c1 l1 true _ (Kd.C_below HR1.out zB) HC1.out AF1.out).mono ?_); rintro e w3 ⟨rfl, hdz⟩; have hb := Drawn0.below hdz; clear hdz; (try clear p0); (try clear p1); (try clear p2); (try clear p3); replace BK := Aside0.mk (blk_below (zk BK) hb); replace HB := Aside0.mk (below_step zB hb); clear hb; obtain ⟨p0, p1, p2, p3⟩ := cZ4 BK) | (go_at_call 11; (with_reducible refine (mosaiclaw09_few.calls k A2 c2 l2 true _ (Kd.C_below HR2.out zB) HC2.out AF2.out).mono ?_); rintro e w3 ⟨rfl, hdz⟩; have hb := Drawn0.below hdz; clear hdz; (try clear p0); (try clear p1); (try clear p2); (try clear p3); replace BK := Aside0.mk (blk_below (zk BK) hb); replace HB := Aside0.mk (below_step zB hb); clear hb; obtain ⟨p0, p1, p2, p3⟩ := cZ4 BK) | (go_at_call 12; (with_reducible refine (outer_Whole.calls k a0_0 a0_1 a0_2 a0_3 A1 c1 l1 x ex _ (Kd.C_below HR1.out zB) HC1.out AX.out).mono ?_); rintro e w4 ⟨vHX, rfl, ho, hb⟩; obtain ⟨AHX, cHX, hv⟩ := Kd.R_slice ho; subst hv; replace ho := Kd.R_lower ho (below_size zB : w.heap.size ≤ _); replace BK := Aside0.mk (blk_below (zk BK) hb); replace HB := Aside0.mk (below_step zB hb); have HX := Aside0.mk ho; clear ho hb; (try clear p0); (try clear p1); (try clear p2); (try clear p3); obtain ⟨p0, p1, p2, p3⟩ := cZ4 BK) | (go_at_call 7; (with_reducible refine (mosaiclaw09_awake.calls k true _ AW.out).mono ?_); rintro e w9 ⟨rfl, hb⟩; (try clear p0); (try clear p1); (try clear p2); (try clear p3); replace HX := Aside0.mk (Kd.R_below (zR HX) hb); replace BK := Aside0.mk (blk_below (zk BK) hb); replace HB := Aside0.mk (below_step zB hb); clear hb; obtain ⟨p0, p1, p2, p3⟩ := cZ4 BK))
          go_ret
          exact ⟨by first | rfl | (simp; done), zB⟩
def mosaiclaw09_OuterHolds.Pure : Prop := ∀ (a0_0 : Int) (a0_1 : Int) (a0_2 : Int) (a0_3 : Int) (l1 : List ByteArray) (l2 : List ByteArray), ((Lit.int .i64 a0_0).wf = true) → ((Lit.int .i64 a0_1).wf = true) → ((Lit.int .i64 a0_2).wf = true) → ((Lit.int .i64 a0_3).wf = true) → (l1.length ≤ maxLen) → (∀ y ∈ l1, y.size ≤ maxLen) → (l2.length ≤ maxLen) → (∀ y ∈ l2, y.size ≤ maxLen) → ∃ k, mosaiclaw09_OuterHolds.f k a0_0 a0_1 a0_2 a0_3 l1 l2 = some true
theorem mosaiclaw09_OuterHolds.walk (P : mosaiclaw09_OuterHolds.Pure) (a0_0 : Int) (a0_1 : Int) (a0_2 : Int) (a0_3 : Int) (A1 : Option Addr) (c1 : Nat) (l1 : List ByteArray) (A2 : Option Addr) (c2 : Nat) (l2 : List ByteArray) (w : World) (hr1 : Kd.C Kd.string w A1 l1.length l1) (hc1 : l1.length ≤ c1) (hr2 : Kd.C Kd.string w A2 l2.length l2) (hc2 : l2.length ≤ c2) (hi0_0 : (Lit.int .i64 a0_0).wf = true) (hi0_1 : (Lit.int .i64 a0_1).wf = true) (hi0_2 : (Lit.int .i64 a0_2).wf = true) (hi0_3 : (Lit.int .i64 a0_3).wf = true) (hm1 : l1.length ≤ maxLen) (hw1 : ∀ y ∈ l1, y.size ≤ maxLen) (hm2 : l2.length ≤ maxLen) (hw2 : ∀ y ∈ l2, y.size ≤ maxLen) :
    Calls Try.prog 4 #[.agg #[.int .i64 a0_0, .int .i64 a0_1, .int .i64 a0_2, .int .i64 a0_3], .slice A1 l1.length c1, .slice A2 l2.length c2] w fun e w' => e = .returned (.bool true) ∧ Below w.heap.size w w' := by
  obtain ⟨k, h⟩ := P a0_0 a0_1 a0_2 a0_3 l1 l2 hi0_0 hi0_1 hi0_2 hi0_3 hm1 hw1 hm2 hw2
  refine (mosaiclaw09_OuterHolds.calls k a0_0 a0_1 a0_2 a0_3 A1 c1 l1 A2 c2 l2 true w hr1 hc1 hr2 hc2 h).mono ?_
  rintro e w' ⟨rfl, hd⟩
  exact ⟨rfl, hd⟩
end Go.Proofs.Ytghhmnjkgnoogaa.POuterHolds
