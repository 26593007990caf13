-- Written by this session's own program (wip/tools/mkprint.py) over the kit's printer, with overrides.
import Derived.Test.YtghhmnjkgnoogaaTOuterHoldsa
import Derived.Test.YtghhmnjkgnoogaaQOuterHoldsx0
namespace Go.Proofs.Ytghhmnjkgnoogaa.POuterHolds
open Go.RowKit Go.Mine Go.Proofs.YtghhmnjkgnoogaaW.PrintWords Go.Proofs.YtghhmnjkgnoogaaW.PrintLast Go.Proofs.YtghhmnjkgnoogaaW.PrintMore
attribute [local go_sem] max2_int min2_int max_two min_two max_three min_three max_four min_four   -- for this text's walks alone
set_option linter.unusedVariables false
set_option linter.unusedSimpArgs false
/-! ### outer_in: function 19 -/
def outer_in.f (a0 : Int) (a1 : Int) (a2 : Int) : Option (Bool) := if a0 ≥ a1 then (some (decide (a0 ≤ a2))) else (some false)
set_option maxHeartbeats 8000000 in
set_option maxRecDepth 100000 in
theorem outer_in.calls (a0 : Int) (a1 : Int) (a2 : Int) (r : Bool) (w : World) (h : outer_in.f a0 a1 a2 = some r) :
  Calls Try.prog 19 #[.int .i64 a0, .int .i64 a1, .int .i64 a2] w fun e w' => e = .returned (.bool r) ∧ Drawn0 w w' := by
 have H : (if a0 ≥ a1 then (some (decide (a0 ≤ a2))) else (some false)) = some r := h
 clear h; by_cases c4 : a0 ≥ a1
 ·
  rw [if_pos c4] at H
  have c4b0 : decide (a1 ≤ a0) = true := decide_eq_true c4
  clear c4; obtain rfl := Option.some.inj H
  go_enter Try.func19, Try.ntmps19
  go_wp2
  go_ret
  exact ⟨by first | rfl | (simp; done) | (simp [*]; done), by repeat (first | exact Drawn0.refl _ | apply Drawn0.step)⟩
 ·
  rw [if_neg c4] at H
  have c4b0 : decide (a1 ≤ a0) = false := decide_eq_false c4
  clear c4; obtain rfl := Option.some.inj H
  go_enter Try.func19, Try.ntmps19
  go_wp2
  go_ret
  exact ⟨by first | rfl | (simp; done) | (simp [*]; done), by repeat (first | exact Drawn0.refl _ | apply Drawn0.step)⟩
/-! ### outer_Check: function 8 -/
def outer_Check.f (a0_0 : Int) (a0_1 : Int) (a0_2 : Int) (a0_3 : Int) : Option (Bool) := (outer_in.f a0_0 0 72057594037927935).bind fun t102 => (if t102 = true then ((outer_in.f a0_1 1 96).bind fun t103 => (if t103 = true then ((outer_in.f a0_2 1 64).bind fun t104 => (if t104 = true then ((outer_in.f a0_3 1 8).bind fun t105 => (some t105)) else (some false))) else (some false))) else (some false))
set_option maxHeartbeats 8000000 in
set_option maxRecDepth 100000 in
theorem outer_Check.calls (a0_0 : Int) (a0_1 : Int) (a0_2 : Int) (a0_3 : Int) (r : Bool) (w : World) (h : outer_Check.f a0_0 a0_1 a0_2 a0_3 = some r) :
  Calls Try.prog 8 #[.agg #[.int .i64 a0_0, .int .i64 a0_1, .int .i64 a0_2, .int .i64 a0_3]] w fun e w' => e = .returned (.bool r) ∧ Below w.heap.size w w' := by
 have hu23 := Try.underlying23; have HB := Aside0.mk (Below.refl w.heap.size w)
 have H : ((outer_in.f a0_0 0 72057594037927935).bind fun t102 => (if t102 = true then ((outer_in.f a0_1 1 96).bind fun t103 => (if t103 = true then ((outer_in.f a0_2 1 64).bind fun t104 => (if t104 = true then ((outer_in.f a0_3 1 8).bind fun t105 => (some t105)) else (some false))) else (some false))) else (some false))) = some r := h
 clear h; replace H := Option.bind_eq_some_iff.mp H
 obtain ⟨t102, A20, H⟩ := H
 replace H : (if t102 = true then ((outer_in.f a0_1 1 96).bind fun t103 => (if t103 = true then ((outer_in.f a0_2 1 64).bind fun t104 => (if t104 = true then ((outer_in.f a0_3 1 8).bind fun t105 => (some t105)) else (some false))) else (some false))) else (some false)) = some r := H
 have A2 := Aside0.mk A20
 clear A20; by_cases c3 : t102 = true
 ·
  subst c3
  have H1 : ((outer_in.f a0_1 1 96).bind fun t103 => (if t103 = true then ((outer_in.f a0_2 1 64).bind fun t104 => (if t104 = true then ((outer_in.f a0_3 1 8).bind fun t105 => (some t105)) else (some false))) else (some false))) = some r := by rw [if_pos rfl] at H; exact H
  clear H; have H := H1; clear H1; replace H := Option.bind_eq_some_iff.mp H
  obtain ⟨t103, A40, H⟩ := H
  replace H : (if t103 = true then ((outer_in.f a0_2 1 64).bind fun t104 => (if t104 = true then ((outer_in.f a0_3 1 8).bind fun t105 => (some t105)) else (some false))) else (some false)) = some r := H
  have A4 := Aside0.mk A40
  clear A40; by_cases c5 : t103 = true
  ·
   subst c5
   have H1 : ((outer_in.f a0_2 1 64).bind fun t104 => (if t104 = true then ((outer_in.f a0_3 1 8).bind fun t105 => (some t105)) else (some false))) = some r := by rw [if_pos rfl] at H; exact H
   clear H; have H := H1; clear H1; replace H := Option.bind_eq_some_iff.mp H
   obtain ⟨t104, A60, H⟩ := H
   replace H : (if t104 = true then ((outer_in.f a0_3 1 8).bind fun t105 => (some t105)) else (some false)) = some r := H
   have A6 := Aside0.mk A60
   clear A60; by_cases c7 : t104 = true
   ·
    subst c7
    have H1 : ((outer_in.f a0_3 1 8).bind fun t105 => (some t105)) = some r := by rw [if_pos rfl] at H; exact H
    clear H; have H := H1; clear H1; replace H := Option.bind_eq_some_iff.mp H
    obtain ⟨t105, A80, H⟩ := H
    replace H : (some t105) = some r := H
    have A8 := Aside0.mk A80
    clear A80; obtain rfl := Option.some.inj H
    go_enter Try.func8, Try.ntmps8
    go_wp2_with (first | ((with_reducible refine gate_dst (N := 1) rfl ?_); refine box_event ?hg (N := 1) ?hd (cs := #[.int .i64 a0_0, .int .i64 a0_1, .int .i64 a0_2, .int .i64 a0_3]) (t := 23) ?hr ?_; (case hd => rfl); (case hg => rfl); (case hr => first | (go_simp; done) | (go_simp; rfl)); intro gb101 hg w9 hbox hb; have BK101 := Aside0.mk (hbox); have GW101 := Aside0.mk ((zg : w.heap.size ≤ gb101)); have GE101 := Aside0.mk ((zg : w.heap.size ≤ gb101)); replace HB := Aside0.mk (below_step zB hb); clear hb hbox hg; obtain ⟨hcz10_0, hcz10_1, hcz10_2, hcz10_3⟩ := cZ4 BK101; obtain ⟨hfz10_0, hfz10_1, hfz10_2, hfz10_3⟩ := dZ4 BK101) | ((with_reducible refine gate_callee (f := 19) rfl ?_); refine goesL_ (some 5) rfl rfl Try.func19 (by kernel_rfl) rfl #[.int .i64 a0_0, .int .i64 0, .int .i64 72057594037927935] rfl zM ?_; (with_reducible refine (outer_in.calls a0_0 0 72057594037927935 true _ A2.out).mono ?_); rintro e w' ⟨rfl, ⟨nd, rfl⟩⟩; refine ⟨_, rfl, ?_⟩) | (go_at_call 19; (with_reducible refine (outer_in.calls a0_1 1 96 true _ A4.out).mono ?_); rintro e w' ⟨rfl, ⟨nd, rfl⟩⟩) | (go_at_call 19; (with_reducible refine (outer_in.calls a0_2 1 64 true _ A6.out).mono ?_); rintro e w' ⟨rfl, ⟨nd, rfl⟩⟩) | (go_at_call 19; (with_reducible refine (outer_in.calls a0_3 1 8 t105 _ A8.out).mono ?_); rintro e w' ⟨rfl, ⟨nd, rfl⟩⟩))
    go_ret
    exact ⟨zE, zB⟩
   ·
    replace c7 := Bool.eq_false_iff.mpr c7
    subst c7
    have H1 : (some false) = some r := by rw [if_neg (show ¬ (false = true) by decide)] at H; exact H
    clear H; have H := H1; clear H1; obtain rfl := Option.some.inj H
    go_enter Try.func8, Try.ntmps8
    go_wp2_with (first | ((with_reducible refine gate_dst (N := 1) rfl ?_); refine box_event ?hg (N := 1) ?hd (cs := #[.int .i64 a0_0, .int .i64 a0_1, .int .i64 a0_2, .int .i64 a0_3]) (t := 23) ?hr ?_; (case hd => rfl); (case hg => rfl); (case hr => first | (go_simp; done) | (go_simp; rfl)); intro gb101 hg w11 hbox hb; have BK101 := Aside0.mk (hbox); have GW101 := Aside0.mk ((zg : w.heap.size ≤ gb101)); have GE101 := Aside0.mk ((zg : w.heap.size ≤ gb101)); replace HB := Aside0.mk (below_step zB hb); clear hb hbox hg; obtain ⟨hcz12_0, hcz12_1, hcz12_2, hcz12_3⟩ := cZ4 BK101; obtain ⟨hfz12_0, hfz12_1, hfz12_2, hfz12_3⟩ := dZ4 BK101) | ((with_reducible refine gate_callee (f := 19) rfl ?_); refine goesL_ (some 5) rfl rfl Try.func19 (by kernel_rfl) rfl #[.int .i64 a0_0, .int .i64 0, .int .i64 72057594037927935] rfl zM ?_; (with_reducible refine (outer_in.calls a0_0 0 72057594037927935 true _ A2.out).mono ?_); rintro e w' ⟨rfl, ⟨nd, rfl⟩⟩; refine ⟨_, rfl, ?_⟩) | (go_at_call 19; (with_reducible refine (outer_in.calls a0_1 1 96 true _ A4.out).mono ?_); rintro e w' ⟨rfl, ⟨nd, rfl⟩⟩) | (go_at_call 19; (with_reducible refine (outer_in.calls a0_2 1 64 false _ A6.out).mono ?_); rintro e w' ⟨rfl, ⟨nd, rfl⟩⟩))
    go_ret
    exact ⟨zE, zB⟩
  ·
   replace c5 := Bool.eq_false_iff.mpr c5
   subst c5
   have H1 : (some false) = some r := by rw [if_neg (show ¬ (false = true) by decide)] at H; exact H
   clear H; have H := H1; clear H1; obtain rfl := Option.some.inj H
   go_enter Try.func8, Try.ntmps8
   go_wp2_with (first | ((with_reducible refine gate_dst (N := 1) rfl ?_); refine box_event ?hg (N := 1) ?hd (cs := #[.int .i64 a0_0, .int .i64 a0_1, .int .i64 a0_2, .int .i64 a0_3]) (t := 23) ?hr ?_; (case hd => rfl); (case hg => rfl); (case hr => first | (go_simp; done) | (go_simp; rfl)); intro gb101 hg w13 hbox hb; have BK101 := Aside0.mk (hbox); have GW101 := Aside0.mk ((zg : w.heap.size ≤ gb101)); have GE101 := Aside0.mk ((zg : w.heap.size ≤ gb101)); replace HB := Aside0.mk (below_step zB hb); clear hb hbox hg; obtain ⟨hcz14_0, hcz14_1, hcz14_2, hcz14_3⟩ := cZ4 BK101; obtain ⟨hfz14_0, hfz14_1, hfz14_2, hfz14_3⟩ := dZ4 BK101) | ((with_reducible refine gate_callee (f := 19) rfl ?_); refine goesL_ (some 5) rfl rfl Try.func19 (by kernel_rfl) rfl #[.int .i64 a0_0, .int .i64 0, .int .i64 72057594037927935] rfl zM ?_; (with_reducible refine (outer_in.calls a0_0 0 72057594037927935 true _ A2.out).mono ?_); rintro e w' ⟨rfl, ⟨nd, rfl⟩⟩; refine ⟨_, rfl, ?_⟩) | (go_at_call 19; (with_reducible refine (outer_in.calls a0_1 1 96 false _ A4.out).mono ?_); rintro e w' ⟨rfl, ⟨nd, rfl⟩⟩))
   go_ret
   exact ⟨zE, zB⟩
 ·
  replace c3 := Bool.eq_false_iff.mpr c3
  subst c3
  have H1 : (some false) = some r := by rw [if_neg (show ¬ (false = true) by decide)] at H; exact H
  clear H; have H := H1; clear H1; obtain rfl := Option.some.inj H
  go_enter Try.func8, Try.ntmps8
  go_wp2_with (first | ((with_reducible refine gate_dst (N := 1) rfl ?_); refine box_event ?hg (N := 1) ?hd (cs := #[.int .i64 a0_0, .int .i64 a0_1, .int .i64 a0_2, .int .i64 a0_3]) (t := 23) ?hr ?_; (case hd => rfl); (case hg => rfl); (case hr => first | (go_simp; done) | (go_simp; rfl)); intro gb101 hg w15 hbox hb; have BK101 := Aside0.mk (hbox); have GW101 := Aside0.mk ((zg : w.heap.size ≤ gb101)); have GE101 := Aside0.mk ((zg : w.heap.size ≤ gb101)); replace HB := Aside0.mk (below_step zB hb); clear hb hbox hg; obtain ⟨hcz16_0, hcz16_1, hcz16_2, hcz16_3⟩ := cZ4 BK101; obtain ⟨hfz16_0, hfz16_1, hfz16_2, hfz16_3⟩ := dZ4 BK101) | ((with_reducible refine gate_callee (f := 19) rfl ?_); refine goesL_ (some 5) rfl rfl Try.func19 (by kernel_rfl) rfl #[.int .i64 a0_0, .int .i64 0, .int .i64 72057594037927935] rfl zM ?_; (with_reducible refine (outer_in.calls a0_0 0 72057594037927935 false _ A2.out).mono ?_); rintro e w' ⟨rfl, ⟨nd, rfl⟩⟩; refine ⟨_, rfl, ?_⟩))
  go_ret
  exact ⟨zE, zB⟩
def IsS74 (w0 W : World) (g : Nat) (f0 : ByteArray) (f1 : Int) (f2 : ByteArray) : Prop := W.heap[g]? = some (.cells #[.string f0, .int .i64 f1, .string f2] 74 (0, 0)) ∧ w0.heap.size ≤ g
theorem IsS74.grown {w0 W : World} {g : Nat} {f0 : ByteArray} {f1 : Int} {f2 : ByteArray} {W1 : World} {row : Option Nat} (h : IsS74 w0 W g f0 f1 f2) (hw : W.grownBy W1 row) (hne : some g ≠ row) : IsS74 w0 W1 g f0 f1 f2 := by
  obtain ⟨hb, hg⟩ := h
  exact ⟨blk_grown hb hw hne, hg⟩
theorem IsS74.fresh {w0 W : World} {g : Nat} {f0 : ByteArray} {f1 : Int} {f2 : ByteArray} (h : IsS74 w0 W g f0 f1 f2) : ∀ k, W.heap.size ≤ k → k ≠ g := by
  obtain ⟨hb, hg⟩ := h
  exact Kd.freshB hb
theorem IsS74.kept {w0 W : World} {g : Nat} {f0 : ByteArray} {f1 : Int} {f2 : ByteArray} {W1 : World} {S : Nat → Prop} (h : IsS74 w0 W g f0 f1 f2) (hk : Kept W W1 S) (hne : ¬ S g) : IsS74 w0 W1 g f0 f1 f2 := by
  obtain ⟨hb, hg⟩ := h
  exact ⟨blk_kept hb hk hne, hg⟩
theorem IsS74.below {w0 W : World} {g : Nat} {f0 : ByteArray} {f1 : Int} {f2 : ByteArray} {W1 : World} (h : IsS74 w0 W g f0 f1 f2) (hw : Below W.heap.size W W1) : IsS74 w0 W1 g f0 f1 f2 := h.grown (grown_of_below hw none) (by simp)
theorem IsS74.alloc {w0 W : World} {g : Nat} {f0 : ByteArray} {f1 : Int} {f2 : ByteArray} (h : IsS74 w0 W g f0 f1 f2) (o : Obj) : IsS74 w0 (W.alloc o) g f0 f1 f2 := h.below (below_alloc (Below.refl _ _) o)
theorem IsS74.drewN {w0 W : World} {g : Nat} {f0 : ByteArray} {f1 : Int} {f2 : ByteArray} (h : IsS74 w0 W g f0 f1 f2) (m : Nat) : IsS74 w0 (W.drewN m) g f0 f1 f2 := h
theorem IsS74.drew {w0 W : World} {g : Nat} {f0 : ByteArray} {f1 : Int} {f2 : ByteArray} (h : IsS74 w0 W g f0 f1 f2) : IsS74 w0 W.drew g f0 f1 f2 := h
theorem IsS74.at_ {w0 W : World} {g : Nat} {f0 : ByteArray} {f1 : Int} {f2 : ByteArray} {w' : World} {m : Nat} (hq : W.drewN m = w') (h : IsS74 w0 W g f0 f1 f2) : IsS74 w0 w' g f0 f1 f2 := by subst hq; exact IsS74.drewN h m
theorem IsS74.apart {w0 W : World} {g : Nat} {f0 : ByteArray} {f1 : Int} {f2 : ByteArray} {α : Type} {d : Kd α} {e : Nat} {base : Nat} {ok : Nat → Prop} {v : Value} {xs : List α} (h : IsS74 w0 W g f0 f1 f2) (ho : d.R e W base ok v xs) (ht : ∀ q, q ∈ e :: d.E → q ≠ 74) : d.R e W base (fun k => ok k ∧ k ≠ g) v xs := by
  obtain ⟨hb, hg⟩ := h
  exact Kd.R_types ho hb ht
theorem IsS74.own_ne {w0 W : World} {g : Nat} {f0 : ByteArray} {f1 : Int} {f2 : ByteArray} {α : Type} {d : Kd α} {e : Nat} {base : Nat} {ok : Nat → Prop} {v : Value} {xs : List α} (h : IsS74 w0 W g f0 f1 f2) (ho : d.R e W base ok v xs) (ht : e ≠ 74) : some g ≠ v.ownBlock := by
  obtain ⟨hb, hg⟩ := h
  exact Kd.R_ne ho hb ht
theorem IsS74.lt {w0 W : World} {g : Nat} {f0 : ByteArray} {f1 : Int} {f2 : ByteArray} (h : IsS74 w0 W g f0 f1 f2) : g < W.heap.size := by
  obtain ⟨hb, hg⟩ := h
  exact blk_lt hb
theorem IsS74.ge {w0 W : World} {g : Nat} {f0 : ByteArray} {f1 : Int} {f2 : ByteArray} (h : IsS74 w0 W g f0 f1 f2) : w0.heap.size ≤ g := by
  obtain ⟨hb, hg⟩ := h
  exact hg
theorem IsS74.ne_blk {w0 W : World} {g : Nat} {f0 : ByteArray} {f1 : Int} {f2 : ByteArray} {a : Nat} {cs : Array Value} {t : TypeId} {fr : Nat × Nat} (h : IsS74 w0 W g f0 f1 f2) (hb2 : W.heap[a]? = some (.cells cs t fr)) (ht : t ≠ 74) : g ≠ a := by
  obtain ⟨hb, hg⟩ := h
  rintro rfl
  rw [hb] at hb2
  injection hb2 with hb2
  injection hb2 with _ ht2
  exact ht ht2.symm
theorem IsS74.far {w0 W : World} {g : Nat} {f0 : ByteArray} {f1 : Int} {f2 : ByteArray} {p : Addr} (h : IsS74 w0 W g f0 f1 f2) (hne : g ≠ p.block) (u : Value) : IsS74 w0 (W.setCell p u) g f0 f1 f2 := by
  obtain ⟨hb, hg⟩ := h
  exact ⟨blk_far hb hne u, hg⟩
theorem IsS74.set_0 {w0 W : World} {g : Nat} {f0 : ByteArray} {f1 : Int} {f2 : ByteArray} (h : IsS74 w0 W g f0 f1 f2) (x : ByteArray) : IsS74 w0 (W.setCell ⟨g, 0, none⟩ (.string x)) g x f1 f2 := by
  obtain ⟨hb, hg⟩ := h
  exact ⟨by simpa using blk_set hb 0 (.string x), hg⟩
theorem IsS74.set_1 {w0 W : World} {g : Nat} {f0 : ByteArray} {f1 : Int} {f2 : ByteArray} (h : IsS74 w0 W g f0 f1 f2) (x : Int) : IsS74 w0 (W.setCell ⟨g, 1, none⟩ (.int .i64 x)) g f0 x f2 := by
  obtain ⟨hb, hg⟩ := h
  exact ⟨by simpa using blk_set hb 1 (.int .i64 x), hg⟩
theorem IsS74.set_2 {w0 W : World} {g : Nat} {f0 : ByteArray} {f1 : Int} {f2 : ByteArray} (h : IsS74 w0 W g f0 f1 f2) (x : ByteArray) : IsS74 w0 (W.setCell ⟨g, 2, none⟩ (.string x)) g f0 f1 x := by
  obtain ⟨hb, hg⟩ := h
  exact ⟨by simpa using blk_set hb 2 (.string x), hg⟩
/-! ### prng_New: function 34 -/
def prng_New.f (a0 : ByteArray) : Option (ByteArray × Int × ByteArray) := if a0.size ≤ 64 then some (a0, 0, ⟨#[]⟩) else none
set_option maxHeartbeats 8000000 in
set_option maxRecDepth 100000 in
theorem prng_New.calls (a0 : ByteArray) (r1 : ByteArray) (r2 : Int) (r3 : ByteArray) (w0 w : World) (hB : Below w0.heap.size w0 w) (h : prng_New.f a0 = some (r1, r2, r3)) :
    Calls Try.prog 34 #[.string a0] w fun e w' => ∃ g_ : Nat, e = .returned (.pointer (some ⟨g_, 0, none⟩)) ∧ IsS74 w0 w' g_ r1 r2 r3 ∧ Below w0.heap.size w0 w' ∧ Below w.heap.size w w' := by
  unfold prng_New.f at h
  split at h
  rotate_left
  · cases h
  rename_i hs
  have h := Option.some.inj h
  simp only [Prod.mk.injEq] at h
  obtain ⟨rfl, rfl, rfl⟩ := h
  have hz : ¬ (64 : Int) < (a0.size : Int) := by omega
  have HB := Aside0.mk hB
  clear hB hs
  go_enter Try.func34, Try.ntmps34
  go_wp2
  go_ret
  exact ⟨w.heap.size, rfl, ⟨heap_alloc_new _ _, HB.out.size⟩, below_alloc HB.out _, below_alloc (Below.refl _ _) _⟩
/-! ### oct_To: function 47 -/
theorem oct_To.wr (w : World) :
    Calls Try.prog 47 #[] w fun e w' => e = .returned (.pointer (some ⟨w.heap.size, 0, none⟩)) ∧ IsWr 99 5 w.heap.size w.heap.size (.slice none 0 0) ⟨#[]⟩ 0 w' ∧ Below w.heap.size w w' ∧ w'.heap.size = w.heap.size + 1 := by
  go_enter Try.func47, Try.ntmps47
  go_wp2
  go_ret
  refine ⟨rfl, ⟨.pointer none, .inl rfl, Nat.le_refl _, ?_, ?_, ?_⟩, below_alloc (Below.refl _ _) _, by simp⟩
  · exact heap_alloc_new w _
  · exact ⟨rfl, .inl ⟨rfl, rfl⟩⟩
  · simp [Value.ownBlock]
/-! ### strings_Builder_copyCheck: function 81 -/
set_option maxHeartbeats 1000000 in
set_option maxRecDepth 100000 in
theorem strings_Builder_copyCheck.used (B g : Nat) (v : Value) (s : ByteArray) (er : Int) (w : World) (h : WrAt 99 5 B g (.pointer (some ⟨g, 0, none⟩)) v s er w) :
    Calls Try.prog 81 #[.pointer (some ⟨g, 0, none⟩)] w fun e w' => e = .returned (.tuple #[]) ∧ w' = w := by
  obtain ⟨j, hj, hjs⟩ := Option.map_eq_some_iff.1 (show (Try.prog.info? 90).map (·.size) = some 2 by kernel_rfl)
  have h0 := h.cell0
  go_enter Try.func81, Try.ntmps81
  go_wp2
  rw [Lib.run_neq_ptr_same w _ Try.underlying88 hj]
  go_wp2
  go_end0
  exact ⟨rfl, rfl⟩
set_option maxHeartbeats 1000000 in
set_option maxRecDepth 100000 in
theorem strings_Builder_copyCheck.fresh (B g : Nat) (v : Value) (s : ByteArray) (er : Int) (w : World) (h : WrAt 99 5 B g (.pointer none) v s er w) :
    Calls Try.prog 81 #[.pointer (some ⟨g, 0, none⟩)] w fun e w' => e = .returned (.tuple #[]) ∧ w' = w.setCell ⟨g, 0, none⟩ (.pointer (some ⟨g, 0, none⟩)) := by
  obtain ⟨j, hj, hjs⟩ := Option.map_eq_some_iff.1 (show (Try.prog.info? 90).map (·.size) = some 2 by kernel_rfl)
  have h0 := h.cell0
  have hsh := h.shape
  have hfz := h.frozen 0
  go_enter Try.func81, Try.ntmps81
  go_wp2
  rw [Lib.run_to_unsafe w ⟨g, 0, none⟩ Try.underlying88 Try.underlying128 hj (by rw [hjs]; decide) hsh (Nat.zero_lt_succ 2)]
  simp only [Result.andThen]
  rw [Oper.upon_value]
  go_wp2
  rw [run_callFunc_extern Try.func91 (by kernel_rfl) (by kernel_rfl) (by kernel_rfl) (e := Extern.AbiNoEscape.same) (by kernel_rfl)]
  rw [Lib.run_noEscape]
  simp only [Result.andThen]
  rw [Oper.upon_value]
  go_wp2
  rw [Lib.run_from_unsafe w ⟨g, 0, none⟩ Try.underlying128 Try.underlying88 hj hsh (by kernel_rfl)]
  simp only [Result.andThen]
  rw [Oper.upon_value]
  go_wp2
  go_end0
  exact ⟨rfl, rfl⟩
theorem strings_Builder_copyCheck.wr (B g : Nat) (p v : Value) (s : ByteArray) (er : Int) (w : World) (hp : p = .pointer none ∨ p = .pointer (some ⟨g, 0, none⟩)) (h : WrAt 99 5 B g p v s er w) :
    Calls Try.prog 81 #[.pointer (some ⟨g, 0, none⟩)] w fun e w' => e = .returned (.tuple #[]) ∧ WrAt 99 5 B g (.pointer (some ⟨g, 0, none⟩)) v s er w' ∧ Below B w w' ∧ Kept w w' (fun k => k = g) := by
  rcases hp with rfl | rfl
  · refine (strings_Builder_copyCheck.fresh B g v s er w h).mono ?_
    rintro e w' ⟨rfl, rfl⟩
    refine ⟨rfl, h.set0 _, (Below.refl _ _).setCell h.ge _, by simp [World.setCell], fun i hi hn => ?_⟩
    exact Below.heap_setCell _ _ _ _ hn
  · refine (strings_Builder_copyCheck.used B g v s er w h).mono ?_
    rintro e w' ⟨rfl, rfl⟩
    exact ⟨rfl, h, Below.refl _ _, Nat.le_refl _, fun _ _ _ => rfl⟩
/-! ### strings_Builder_WriteString: function 59 -/
set_option maxHeartbeats 2000000 in
set_option maxRecDepth 100000 in
theorem strings_Builder_WriteString.wr (B g : Nat) (p v : Value) (s t : ByteArray) (er : Int) (w : World) (hp : p = .pointer none ∨ p = .pointer (some ⟨g, 0, none⟩)) (h : WrAt 99 5 B g p v s er w) (hlen : s.size + t.size ≤ 140737488355328) (hBw : B ≤ w.heap.size) :
    Calls Try.prog 59 #[.pointer (some ⟨g, 0, none⟩), .string t] w fun e w' => e = .returned (.tuple #[.int .i64 t.size, .nilIface]) ∧ WrStep 99 5 B g v (s ++ t) er w w' := by
  obtain ⟨i0, hi, hz0, hz1, hz2⟩ := info_parts info5
  go_enter Try.func59, Try.ntmps59
  go_wp2_with (go_at_call 81; refine (strings_Builder_copyCheck.wr B g p v s er _ hp h).mono ?_)
  rintro e w1 ⟨rfl, h1, hb1, hk1⟩
  have c0 := h1.cell0
  have c1 := h1.cell1
  have hlt := h1.lt
  have hown := h1.2.2.1
  have hne := h1.2.2.2
  go_wp2_with (at_builtin; refine Lib.wpList_append_own_stringF _ rfl _ _ 39 9 rfl B 5 i0 Try.underlying39 Try.underlying9 hi hz0 hz1 hz2 _ _ _ rfl hown t rfl ?c3 ?c4 ?c5 ?_)
  case c3 => unfold maxLen; omega
  case c4 => omega
  case c5 => have := hb1.size; omega
  intro v' w2 hown' hgrow _
  have hsz := hb1.size
  have hb2 : w2.heap[g]? = some (.cells #[.pointer (some ⟨g, 0, none⟩), v, .int .i64 er] 99 (0, 0)) := by
    rw [hgrow.block g hlt (fun e => hne e.symm)]
    exact h1.2.1
  have d0 : w2.cell? ⟨g, 0, none⟩ = some (.pointer (some ⟨g, 0, none⟩)) := by rw [Lib.cell_of_heap hb2]; rfl
  have d1 : w2.cell? ⟨g, 1, none⟩ = some v := by rw [Lib.cell_of_heap hb2]; rfl
  have f1 : w2.frozen? ⟨g, 1, none⟩ = false := Lib.frozen_of_heap hb2 1
  obtain ⟨ao, n', cap, rfl⟩ : ∃ ao n' cap, v' = .slice ao n' cap := by
    rcases hown'.2 with ⟨hv, _⟩ | ⟨g, cap, cur, fz, hv, _⟩
    · exact ⟨_, _, _, hv⟩
    · exact ⟨_, _, _, hv⟩
  have hstr : Lib.strCells s ++ Lib.strCells t = Lib.strCells (s ++ t) := by simp [Lib.strCells, ByteArray.data_append]
  have hsize : s.size + t.size = (s ++ t).size := by rw [ByteArray.size_append]
  rw [hstr, hsize] at hown'
  have HW := Aside0.mk (WrAt.set1 (T := 99) (e := 5) h1.ge hb2 hown' (by decide))
  have HB : Aside0 (Below B w (w2.setCell ⟨g, 1, none⟩ (.slice ao n' cap))) := ⟨(hb1.grown hgrow (by omega) (fun k hk => (hown.lt k hk).1)).setCell (p := ⟨g, 1, none⟩) h1.ge _⟩
  have HK : Aside0 (Kept w (w2.setCell ⟨g, 1, none⟩ (.slice ao n' cap)) (fun k => k = g ∨ v.ownBlock = some k)) := by
    refine ⟨by have := hgrow.size; simp [World.setCell]; omega, fun i hi hn => ?_⟩
    have hig : i ≠ g := fun e => hn (.inl e)
    have hiv : some i ≠ v.ownBlock := fun e => hn (.inr e.symm)
    rw [Below.heap_setCell _ _ _ _ hig, hgrow.block i (by omega) hiv, hk1.2 i hi hig]
  clear hb1 hk1 hown hown' hgrow hb2 hstr hsize h1 h
  go_wp2
  go_ret2
  exact ⟨rfl, _, ⟨_, .inr rfl, HW.out⟩, HB.out, HK.out⟩
/-! ### strings_Builder_Len: function 60 -/
set_option maxHeartbeats 1000000 in
theorem strings_Builder_Len.wr (B g : Nat) (p v : Value) (s : ByteArray) (er : Int) (w : World) (h : WrAt 99 5 B g p v s er w) :
    Calls Try.prog 60 #[.pointer (some ⟨g, 0, none⟩)] w fun e w' => e = .returned (.int .i64 s.size) ∧ w' = w := by
  have c1 := h.cell1
  obtain ⟨ao, c, hv⟩ : ∃ ao c, v = .slice ao s.size c := by
    rcases h.2.2.1.2 with ⟨hv, hn⟩ | ⟨g', cap, cur, fz, hv, _⟩
    · exact ⟨none, 0, by rw [hv, hn]⟩
    · exact ⟨_, _, hv⟩
  rw [hv] at c1
  clear hv
  go_enter Try.func60, Try.ntmps60
  go_wp2
  go_ret
  exact ⟨rfl, rfl⟩
/-! ### oct_Writer_put: function 62 -/
set_option maxHeartbeats 1000000 in
theorem oct_Writer_put.wr (B g : Nat) (v : Value) (s t : ByteArray) (er f : Int) (w : World) (h : IsWr 99 5 B g v s er w) (hs : s.size ≤ 65536) (ht : t.size ≤ 140737488289000) (hBw : B ≤ w.heap.size) :
    Calls Try.prog 62 #[.pointer (some ⟨g, 0, none⟩), .string t, .int .i64 f] w fun e w' => e = .returned (.tuple #[]) ∧ WrStep 99 5 B g v (putS s er t f).1 (putS s er t f).2 w w' := by
  obtain ⟨p, hp, h⟩ := h
  have c2 := h.cell2
  have HW := Aside0.mk h
  have hnop : Aside0 (WrStep 99 5 B g v s er w w) := ⟨v, ⟨p, hp, h⟩, Below.refl _ _, Kept.refl _ _⟩
  unfold putS
  by_cases h1 : er = 0
  · subst h1
    rw [if_pos rfl]
    by_cases h2 : f = 0
    · subst h2
      rw [if_pos rfl]
      have HLEN := Aside0.mk (strings_Builder_Len.wr B g p v s 0 w h)
      by_cases h3 : (t.size : Int) > 65536 - (s.size : Int)
      · rw [if_pos h3]
        have h3' : 65536 - (s.size : Int) < (t.size : Int) := h3
        have hf := h.frozen 2
        have HR : Aside0 (WrStep 99 5 B g v s 2 w (w.setCell ⟨g, 2, none⟩ (.int .i64 2))) := by
          refine ⟨v, ⟨p, hp, h.set2 2⟩, (Below.refl _ _).setCell h.ge _, by simp [World.setCell], fun i hi hn => ?_⟩
          exact Below.heap_setCell _ _ _ _ (fun e => hn (.inl e))
        clear h hnop h3
        go_enter Try.func62, Try.ntmps62
        go_wp2_with (go_at_call 60; refine HLEN.out.mono ?_; rintro e w' ⟨rfl, rfl⟩)
        go_end0
        exact ⟨rfl, HR.out⟩
      · rw [if_neg h3]
        have h3' : ¬ (65536 - (s.size : Int) < (t.size : Int)) := h3
        have HWS := Aside0.mk (strings_Builder_WriteString.wr B g p v s t 0 w hp h (by omega) hBw)
        clear h hnop h3
        go_enter Try.func62, Try.ntmps62
        go_wp2_with (first | (go_at_call 60; refine HLEN.out.mono ?_; rintro e w' ⟨rfl, rfl⟩) | (go_at_call 59; refine HWS.out.mono ?_; rintro e w' ⟨rfl, HS⟩; have HSS := Aside0.mk HS; clear HS))
        go_end0
        exact ⟨rfl, HSS.out⟩
    · rw [if_neg h2]
      have t1 : (f == 0) = false := beq_eq_false_iff_ne.mpr h2
      have t2 : (f != 0) = true := bne_iff_ne.mpr h2
      have hf := h.frozen 2
      have HR : Aside0 (WrStep 99 5 B g v s f w (w.setCell ⟨g, 2, none⟩ (.int .i64 f))) := by
        refine ⟨v, ⟨p, hp, h.set2 f⟩, (Below.refl _ _).setCell h.ge _, by simp [World.setCell], fun i hi hn => ?_⟩
        exact Below.heap_setCell _ _ _ _ (fun e => hn (.inl e))
      clear h hnop h2
      go_enter Try.func62, Try.ntmps62
      go_wp2
      go_end0
      exact ⟨rfl, HR.out⟩
  · rw [if_neg h1]
    have t1 : (er == 0) = false := beq_eq_false_iff_ne.mpr h1
    have t2 : (er != 0) = true := bne_iff_ne.mpr h1
    clear h h1
    go_enter Try.func62, Try.ntmps62
    go_wp2
    go_end0
    exact ⟨rfl, hnop.out⟩
/-! ### oct_Writer_Raw: function 48 -/
theorem oct_Writer_Raw.wr (B g : Nat) (v : Value) (s t : ByteArray) (er : Int) (w : World) (h : IsWr 99 5 B g v s er w) (hs : s.size ≤ 65536) (ht : t.size ≤ 140737488289000) (hBw : B ≤ w.heap.size) :
    Calls Try.prog 48 #[.pointer (some ⟨g, 0, none⟩), .string t] w fun e w' => e = .returned (.tuple #[]) ∧ WrStep 99 5 B g v (putS s er t 0).1 (putS s er t 0).2 w w' := by
  have HP := Aside0.mk (oct_Writer_put.wr B g v s t er 0 w h hs ht hBw)
  clear h
  go_enter Try.func48, Try.ntmps48
  go_wp2_with (go_at_call 62; refine HP.out.mono ?_; rintro e w' ⟨rfl, HS⟩; have HSS := Aside0.mk HS; clear HS)
  go_end0
  exact ⟨rfl, HSS.out⟩
theorem oct_Writer_Raw.nil (t : ByteArray) (w : World) : Calls Try.prog 48 #[.pointer none, .string t] w fun e w' => e = .returned (.tuple #[]) ∧ w' = w := by
  go_enter Try.func48, Try.ntmps48
  go_wp2
  go_end0
  exact ⟨rfl, rfl⟩
/-! ### oct_Put: function 63 -/
mutual
def oct_Put.j0 : Nat → Int → Int → Bool → Option (ByteArray × Int)
 | 0, _, _, _ => none
 | k + 1, x0, x1, x8 => if x8 = true then (some ((⟨#[]⟩ : ByteArray), 1)) else (if x0 < 0 then (some ((⟨#[]⟩ : ByteArray), 8)) else (if 0 ≤ (wrap64 (8 * x1)) then (if (shr .i64 x0 (wrap64 (8 * x1))) = 0 then (oct_Put.l0 k x0 ([] : List Int) (wrap64 (x1 - 1))) else (some ((⟨#[]⟩ : ByteArray), 8))) else (none)))
def oct_Put.l0 : Nat → Int → List Int → Int → Option (ByteArray × Int)
 | 0, _, _, _ => none
 | k + 1, x0, x6, x7 => if x7 ≥ 0 then (if 0 ≤ (wrap64 (8 * x7)) then (if x6.length < 140737488355328 then (oct_Put.l0 k x0 (x6 ++ [(shr .i64 x0 (wrap64 (8 * x7))) % 256]) (wrap64 (x7 - 1))) else (none)) else (none)) else (some (strOfNums x6, 0))
end
def oct_Put.f (k : Nat) (a0 : Int) (a1 : Int) : Option (ByteArray × Int) := if a1 < 1 then (oct_Put.j0 k a0 a1 true) else (oct_Put.j0 k a0 a1 (decide (a1 > 7)))
theorem oct_Put.mono_l : ∀ k, (∀ y0 y1 y2, LeO (oct_Put.j0 k y0 y1 y2) (oct_Put.j0 (k + 1) y0 y1 y2)) ∧ (∀ y0 y1 y2, LeO (oct_Put.l0 k y0 y1 y2) (oct_Put.l0 (k + 1) y0 y1 y2))
 | 0 => ⟨fun _ _ _ r h => by simp [oct_Put.j0] at h, fun _ _ _ r h => by simp [oct_Put.l0] at h⟩
 | k + 1 => by
  obtain ⟨ih0, ih1⟩ := oct_Put.mono_l k
  refine ⟨?_, ?_⟩ <;> intros <;> (first | unfold oct_Put.j0 | unfold oct_Put.l0)
  all_goals repeat' first | (with_reducible first | apply ih0 | apply ih1 | exact LeO.refl _ | exact LeO.none _ | refine LeO.ite ?_ ?_ | refine LeO.bind ?_ (fun _ => ?_)) | apply ih0 | apply ih1 | exact LeO.none _ | refine LeO.ite ?_ ?_ | refine LeO.bind ?_ (fun _ => ?_)
theorem oct_Put.mono : ∀ a0 a1 k, LeO (oct_Put.f k a0 a1) (oct_Put.f (k + 1) a0 a1) := by
 intro a0 a1 k
 obtain ⟨ih0, ih1⟩ := oct_Put.mono_l k
 unfold oct_Put.f
 repeat' first | (with_reducible first | apply ih0 | apply ih1 | exact LeO.refl _ | exact LeO.none _ | refine LeO.ite ?_ ?_ | refine LeO.bind ?_ (fun _ => ?_)) | apply ih0 | apply ih1 | exact LeO.none _ | refine LeO.ite ?_ ?_ | refine LeO.bind ?_ (fun _ => ?_)
set_option maxHeartbeats 8000000 in
set_option maxRecDepth 100000 in
theorem oct_Put.calls (k : Nat) (a0 : Int) (a1 : Int) (r1 : ByteArray) (r2 : Int) (w : World) (h : oct_Put.f k a0 a1 = some (r1, r2)) :
  Calls Try.prog 63 #[.int .i64 a0, .int .i64 a1] w fun e w' => e = .returned (.tuple #[.string r1, .int .i64 r2]) ∧ Below w.heap.size w w' := by
 have HB := Aside0.mk (Below.refl w.heap.size w)
 have H : (if a1 < 1 then (oct_Put.j0 k a0 a1 true) else (oct_Put.j0 k a0 a1 (decide (a1 > 7)))) = some (r1, r2) := h
 clear h; have HC3 := Aside0.mk H
 clear H; go_enter Try.func63, Try.ntmps63
 go_upto_region 1 with (fail)
 go_cut [8] (fun v8 wc => ∃ (kq : Nat) (x8_2 : Bool), v8 = .bool x8_2 ∧ Aside0 (oct_Put.j0 kq a0 a1 x8_2 = some (r1, r2)) ∧ Aside0 (kq ≤ k) ∧ Aside0 (Below w.heap.size w wc))
 case first =>
  have H := HC3.out; clear HC3; by_cases c4 : a1 < 1
  ·
   rw [if_pos c4] at H
   have c4b0 : decide (a1 < 1) = true := decide_eq_true c4
   clear c4; (first | rw [c4b0] | (simp only [i64_w, i32_w]; rw [c4b0]) | skip)
   have H' := Aside0.mk H
   clear H; go_wp2
   go_meet
   case rel => exact ⟨_, (true), zF, H', ⟨by first | omega | exact Nat.le_refl _⟩, ⟨zB⟩⟩
  ·
   rw [if_neg c4] at H
   have c4b0 : decide (a1 < 1) = false := decide_eq_false c4
   clear c4; (first | rw [c4b0] | (simp only [i64_w, i32_w]; rw [c4b0]) | skip)
   have H' := Aside0.mk H
   clear H; go_wp2
   go_meet
   case rel => exact ⟨_, (decide (a1 > 7)), zF, H', ⟨by first | omega | exact Nat.le_refl _⟩, ⟨zB⟩⟩
 case rest =>
  clear HC3; obtain ⟨kq, x8_2, rfl, HA, HJ2, HB⟩ := hcut
  cases kq with
  | zero => exact absurd HA.out (by simp [oct_Put.j0])
  | succ kj2 =>
   have H := HA.out; clear HA; simp only [oct_Put.j0] at H
   by_cases c5 : x8_2 = true
   ·
    subst c5
    have H1 : (some ((⟨#[]⟩ : ByteArray), 1)) = some (r1, r2) := by rw [if_pos rfl] at H; exact H
    clear H; have H := H1; clear H1; simp only [Option.some.injEq, Prod.mk.injEq] at H
    obtain ⟨rfl, rfl⟩ := H
    go_wp2
    go_ret2
    exact ⟨zE, zB⟩
   ·
    replace c5 := Bool.eq_false_iff.mpr c5
    subst c5
    have H1 : (if a0 < 0 then (some ((⟨#[]⟩ : ByteArray), 8)) else (if 0 ≤ (wrap64 (8 * a1)) then (if (shr .i64 a0 (wrap64 (8 * a1))) = 0 then (oct_Put.l0 kj2 a0 ([] : List Int) (wrap64 (a1 - 1))) else (some ((⟨#[]⟩ : ByteArray), 8))) else (none))) = some (r1, r2) := by rw [if_neg (show ¬ (false = true) by decide)] at H; exact H
    clear H; have H := H1; clear H1; by_cases c6 : a0 < 0
    ·
     rw [if_pos c6] at H
     have c6b0 : decide (a0 < 0) = true := decide_eq_true c6
     clear c6; simp only [Option.some.injEq, Prod.mk.injEq] at H
     obtain ⟨rfl, rfl⟩ := H
     go_wp2
     go_ret2
     exact ⟨zE, zB⟩
    ·
     rw [if_neg c6] at H
     have c6b0 : decide (a0 < 0) = false := decide_eq_false c6
     clear c6; obtain ⟨ji7, hji7⟩ : ∃ j_ : Int, (wrap64 (8 * a1)) = j_ := ⟨_, rfl⟩
     replace H : (if 0 ≤ (ji7) then (if (shr .i64 a0 (ji7)) = 0 then (oct_Put.l0 kj2 a0 ([] : List Int) (wrap64 (a1 - 1))) else (some ((⟨#[]⟩ : ByteArray), 8))) else (none)) = some (r1, r2) := by first | (rw [hji7] at H; exact H) | (simp only [hji7] at H ⊢; exact H)
     have hji7w : (IntKind.i64.wrap (8 * a1)) = ji7 := (i64_w _).trans hji7
     by_cases c8 : 0 ≤ (ji7)
     ·
      rw [if_pos c8] at H
      have c8b0 := eq_true c8
      have c8b1 : decide (0 ≤ (ji7)) = true := decide_eq_true c8
      clear c8; obtain ⟨ji9, hji9⟩ : ∃ j_ : Int, (shr .i64 a0 (ji7)) = j_ := ⟨_, rfl⟩
      replace H : (if (ji9) = 0 then (oct_Put.l0 kj2 a0 ([] : List Int) (wrap64 (a1 - 1))) else (some ((⟨#[]⟩ : ByteArray), 8))) = some (r1, r2) := by first | (rw [hji9] at H; exact H) | (simp only [hji9] at H ⊢; exact H)
      have hji9_ : (a0 / 2 ^ min (ji7).toNat 64) = ji9 := hji9
      have hji9z : (ji7) ≤ 64 → (a0 / 2 ^ (ji7).toNat) = ji9 := shr_small hji9
      by_cases c10 : (ji9) = 0
      ·
       rw [if_pos c10] at H
       have c10b0 : ((ji9) == 0) = true := beq_iff_eq.mpr c10
       have c10b1 : ((ji9) != 0) = false := bne_eq_false_iff_eq.mpr c10
       clear c10; have H' := Aside0.mk H
       clear H; go_wp2
       go_loopg [6, 7] kj2 (fun kq v6 v7 w' => ∃ (x6_2 : List Int) (x7_2 : Int), v7 = .int .i64 x7_2 ∧ Aside0 (oct_Put.l0 kq a0 x6_2 x7_2 = some (r1, r2)) ∧ Aside0 (kq ≤ kj2) ∧ Aside0 (Kd.R (Kd.int .u8) 5 w' w.heap.size (fun _ => True) v6 x6_2) ∧ Aside0 (Below w.heap.size w w'))
       case atStart => exact ⟨(([] : List Int)), (wrap64 (a1 - 1)), zF, H', ⟨Nat.le_refl _⟩, ⟨by first | exact Kd.R_nil _ _ _ _ _ | exact Kd.N_nil _ _ _ _ _ | exact Kd.V_nil _ _ _ _ _ | exact Kd.Q_nil _ _ _ _ _ | exact Kd.S_nil _ _ _ _ _⟩, ⟨zB⟩⟩
       case round =>
        clear H'
        obtain ⟨x6_2, x7_2, rfl, HA, HK2, HO_6, HB⟩ := hrel
        cases gk with
        | zero => exact absurd HA.out (by simp [oct_Put.l0])
        | succ k2 =>
         have H := HA.out; clear HA; simp only [oct_Put.l0] at H
         by_cases c11 : x7_2 ≥ 0
         ·
          rw [if_pos c11] at H
          have c11b0 : decide (0 ≤ x7_2) = true := decide_eq_true c11
          clear c11; obtain ⟨ji12, hji12⟩ : ∃ j_ : Int, (wrap64 (8 * x7_2)) = j_ := ⟨_, rfl⟩
          replace H : (if 0 ≤ (ji12) then (if x6_2.length < 140737488355328 then (oct_Put.l0 k2 a0 (x6_2 ++ [(shr .i64 a0 (ji12)) % 256]) (wrap64 (x7_2 - 1))) else (none)) else (none)) = some (r1, r2) := by first | (rw [hji12] at H; exact H) | (simp only [hji12] at H ⊢; exact H)
          have hji12w : (IntKind.i64.wrap (8 * x7_2)) = ji12 := (i64_w _).trans hji12
          by_cases c13 : 0 ≤ (ji12)
          ·
           rw [if_pos c13] at H
           have c13b0 := eq_true c13
           have c13b1 : decide (0 ≤ (ji12)) = true := decide_eq_true c13
           clear c13; obtain ⟨ji14, hji14⟩ : ∃ j_ : Int, (shr .i64 a0 (ji12)) = j_ := ⟨_, rfl⟩
           replace H : (if x6_2.length < 140737488355328 then (oct_Put.l0 k2 a0 (x6_2 ++ [(ji14) % 256]) (wrap64 (x7_2 - 1))) else (none)) = some (r1, r2) := by first | (rw [hji14] at H; exact H) | (simp only [hji14] at H ⊢; exact H)
           have hji14_ : (a0 / 2 ^ min (ji12).toNat 64) = ji14 := hji14
           have hji14z : (ji12) ≤ 64 → (a0 / 2 ^ (ji12).toNat) = ji14 := shr_small hji14
           by_cases c15 : x6_2.length < 140737488355328
           ·
            rw [if_pos c15] at H
            have LMc15 := Aside0.mk c15
            clear c15; obtain ⟨y106, hy106⟩ : ∃ y_ : List Int, y_ = (x6_2 ++ [(ji14) % 256]) := ⟨_, rfl⟩
            replace H : (oct_Put.l0 k2 a0 y106 (wrap64 (x7_2 - 1))) = some (r1, r2) := by first | (rw [hy106]; with_reducible exact H) | (have H2_ := (Option.bind_some _ _).symm.trans H; rw [hy106]; with_reducible exact H2_) | (have H2_ := (Option.bind_some _ _).symm.trans H; with_reducible exact H2_) | with_reducible exact H | (rw [hy106]; exact H) | exact H
            have Ny106 := Aside0.mk hy106
            clear hy106; have H' := Aside0.mk H
            clear H; go_wp2_with (first | ((with_reducible refine gate_builtin (b := .append) (xs := #[.tmp 31, .tmp 37]) rfl ?_); at_builtin; refine Kd.R_append (Kd.int .u8) (w0 := w) w.heap.size rfl (.tmp 31) (.tmp 37) 39 5 (.int .u8 0) 1 rfl Try.underlying39 info5 rfl (by decide) (by omega) u6 x6_2 ((ji14) % 256) [.int .u8 ((ji14) % 256)] (fun _ => True) (fun _ => False) rfl rfl ?aP (fun _ hk => hk.elim) ?aF ?aO ?aB ?aS ?aL ?_; (case aP => exact rfl); (case aB => exact zB); (case aF => exact (fun _ _ => trivial)); (case aO => exact (by (with_reducible repeat (first | apply Kd.R_alloc | apply Kd.R_drewN | apply Kd.R_drew)); exact HO_6.out)); (case aS => exact (below_size zB)); (case aL => have := LMc15.out; omega); intro v107 w16 ho hb hg hat; rw [← Ny106.out] at ho; have HO108 := Aside0.mk (ho); replace HB := Aside0.mk (hb); clear HO_6; clear ho hb hg hat))
            go_roundg k2
            case measure => have := HJ2.out; have := HK2.out; omega
            case rel => exact ⟨(y106), (wrap64 (x7_2 - 1)), zF, H', ⟨by have := HJ2.out; have := HK2.out; omega⟩, ⟨zR HO108⟩, ⟨zB⟩⟩
           ·
            rw [if_neg c15] at H
            exact absurd H (by simp)
          ·
           rw [if_neg c13] at H
           exact absurd H (by simp)
         ·
          rw [if_neg c11] at H
          have c11b0 : decide (0 ≤ x7_2) = false := decide_eq_false c11
          clear c11; simp only [Option.some.injEq, Prod.mk.injEq] at H
          obtain ⟨rfl, rfl⟩ := H
          have hcv17 := own_string (P := Try.prog) Try.underlying39 Try.underlying5 Try.underlying9 (Kd.own_of_R HO_6.out)
          have hcvd18 := fun n_ => own_string (P := Try.prog) Try.underlying39 Try.underlying5 Try.underlying9 (Kd.own_of_R (Kd.R_drewN HO_6.out n_))
          go_wp2
          go_ret2
          exact ⟨by first | rfl | (simp [errW_none, errW_some] <;> rfl) | (simp only [← hji7, ← hji9]; first | rfl | (simp [errW_none, errW_some] <;> rfl)) | (simp [*, errW_none, errW_some] <;> rfl), zB⟩
      ·
       rw [if_neg c10] at H
       have c10b0 : ((ji9) == 0) = false := beq_eq_false_iff_ne.mpr c10
       have c10b1 : ((ji9) != 0) = true := bne_iff_ne.mpr c10
       simp only [Option.some.injEq, Prod.mk.injEq] at H
       obtain ⟨rfl, rfl⟩ := H
       go_wp2
       go_ret2
       exact ⟨by first | rfl | (simp [errW_none, errW_some] <;> rfl) | (simp only [← hji7, ← hji9]; first | rfl | (simp [errW_none, errW_some] <;> rfl)) | (simp [*, errW_none, errW_some] <;> rfl), zB⟩
     ·
      rw [if_neg c8] at H
      exact absurd H (by simp)
/-! ### oct_Writer_Num: function 49 -/
theorem oct_Writer_Num.wr (k : Nat) (B g : Nat) (v : Value) (s t : ByteArray) (er x y f : Int) (w : World) (h : IsWr 99 5 B g v s er w) (hp : oct_Put.f k x y = some (t, f)) (hs : s.size ≤ 65536) (ht : t.size ≤ 140737488289000) (hBw : B ≤ w.heap.size) :
    Calls Try.prog 49 #[.pointer (some ⟨g, 0, none⟩), .int .i64 x, .int .i64 y] w fun e w' => e = .returned (.tuple #[]) ∧ WrStep 99 5 B g v (putS s er t f).1 (putS s er t f).2 w w' := by
  have HP0 := Aside0.mk hp
  have HI := Aside0.mk h
  clear h hp
  go_enter Try.func49, Try.ntmps49
  go_wp2_with fail
  refine (oct_Put.calls k x y t f w HP0.out).mono ?_
  rintro e w1 ⟨rfl, hb⟩
  have HP := Aside0.mk (oct_Writer_put.wr B g v s t er f w1 (HI.out.below hb) hs ht (Nat.le_trans hBw hb.size))
  have HB := Aside0.mk hb
  clear hb
  go_wp2_with (go_at_call 62; refine HP.out.mono ?_; rintro e w' ⟨rfl, HS⟩; have HSS := Aside0.mk HS; clear HS)
  go_end0
  refine ⟨rfl, ?_⟩
  obtain ⟨v', h1, h2, h3⟩ := HSS.out
  refine ⟨v', h1, (HB.out.mono hBw).trans h2, (Kept.of_below HB.out _).then_ h3 (fun k hk => .inl hk)⟩
theorem oct_Writer_Num.nil (x y : Int) (w : World) : Calls Try.prog 49 #[.pointer none, .int .i64 x, .int .i64 y] w fun e w' => e = .returned (.tuple #[]) ∧ w' = w := by
  go_enter Try.func49, Try.ntmps49
  go_wp2
  go_end0
  exact ⟨rfl, rfl⟩
/-! ### strings_Builder_String: function 61 -/
set_option maxHeartbeats 2000000 in
set_option maxRecDepth 100000 in
theorem strings_Builder_String.some_ (B g : Nat) (p v : Value) (s : ByteArray) (er : Int) (w : World) (hp : p = .pointer none ∨ p = .pointer (some ⟨g, 0, none⟩)) (h : WrAt 99 5 B g p v s er w) (h0 : s.size ≠ 0) :
    Calls Try.prog 61 #[.pointer (some ⟨g, 0, none⟩)] w fun e w' => e = .returned (.string s) ∧ WrStep 99 5 B g v s er w w' := by
  obtain ⟨g', cap, cur, fz, rfl, hbg, hg, hfz, hnc, hcm, hcs, htake⟩ : ∃ g' cap cur fz, v = .slice (some ⟨g', 0, none⟩) s.size cap ∧ B ≤ g' ∧ w.heap[g']? = some (.cells cur 5 fz) ∧ fz.2 ≤ s.size * 1 ∧ s.size ≤ cap ∧ cap ≤ maxLen ∧ cur.size = cap * 1 ∧ cur.toList.take (s.size * 1) = Lib.strCells s := by
    rcases h.2.2.1.2 with ⟨_, hz⟩ | ⟨g', cap, cur, fz, hv, r⟩
    · exact absurd hz h0
    · exact ⟨g', cap, cur, fz, hv, r⟩
  have hl : s.data.toList.length = s.size := by rw [Array.length_toList]; rfl
  have hne : s.data.toList ≠ [] := fun e => h0 (by rw [← hl, e]; rfl)
  have c1 : w.drew.cell? ⟨g, 1, none⟩ = some (.slice (some ⟨g', 0, none⟩) s.size cap) := h.cell1
  have hSD : (Builtin.unsafeSliceData_ #[39] 120 #[.slice (some ⟨g', 0, none⟩) s.size cap]).run Try.prog w.drew = .ok (.pointer (some ⟨g', 0, none⟩)) w.drew :=
    Lib.run_unsafeSliceData_row _ _ _ _ _ _ (by omega)
  have hUS : (Builtin.unsafeString_ #[120, 3] 9 #[.pointer (some ⟨g', 0, none⟩), .int .i64 s.size]).run Try.prog w.drew = .ok (.string s) (w.drew.freeze ⟨g', 0, none⟩ s.size) := by
    have := Lib.run_unsafeString_row (P := Try.prog) w.drew 120 3 9 5 Try.underlying120 (by kernel_rfl) g' cur.size (by have hg' : w.drew.heap[g']? = some (.cells cur 5 fz) := hg; simp [World.shape?, hg']) s.data.toList hne (by rw [hl]; omega) (by rw [hl]; unfold maxLen at hcm; omega) (by
      intro j x hx
      have hh := h.2.2.1.cells (g := g') rfl j (.int .u8 x.toNat) (by simp [Lib.strCells, hx])
      exact hh)
    rw [hl] at this
    exact this
  have HW : Aside0 (WrAt 99 5 B g p (.slice (some ⟨g', 0, none⟩) s.size cap) s er (w.drew.freeze ⟨g', 0, none⟩ s.size)) := ⟨h.drew.froze⟩
  have HB : Aside0 (Below B w (w.drew.freeze ⟨g', 0, none⟩ s.size)) := ⟨Lib.below_freeze (Below.drew (Below.refl B w)) (p := ⟨g', 0, none⟩) hbg _⟩
  have HK : Aside0 (Kept w (w.drew.freeze ⟨g', 0, none⟩ s.size) (fun k => k = g ∨ (Value.slice (some ⟨g', 0, none⟩) s.size cap).ownBlock = some k)) := by
    refine ⟨HB.out.size, fun i hi hn => ?_⟩
    have hi' : g' ≠ i := fun e => hn (.inr (by rw [e]; rfl))
    unfold World.freeze
    split
    · rfl
    · simp only [Array.getElem?_modify]
      rw [if_neg hi']
      rfl
  clear h hbg hg hfz hcs htake hne hl
  go_enter Try.func61, Try.ntmps61
  go_wp2
  go_region
  all_goals (go_wp2; go_ret; exact ⟨rfl, _, ⟨_, hp, HW.out⟩, HB.out, HK.out⟩)
theorem strings_Builder_String.unsafeString_none (W : World) (q : Option Addr) : (Builtin.unsafeString_ #[120, 3] 9 #[.pointer q, .int .i64 0]).run Try.prog W = .ok (.string .empty) W := by
  cases q <;> rfl
theorem strings_Builder_String.nothing (B g : Nat) (p : Value) (er : Int) (w : World) (hp : p = .pointer none ∨ p = .pointer (some ⟨g, 0, none⟩)) (v : Value) (s : ByteArray) (h : WrAt 99 5 B g p v s er w) (hs : s.size = 0) (hBw : B ≤ w.heap.size) :
    Calls Try.prog 61 #[.pointer (some ⟨g, 0, none⟩)] w fun e w' => e = .returned (.string s) ∧ WrStep 99 5 B g v s er w w' := by
  have hes : s = ⟨#[]⟩ := by
    have : s.data.size = 0 := hs
    cases s
    simp only [ByteArray.mk.injEq]
    exact Array.eq_empty_of_size_eq_zero this
  have hUS := strings_Builder_String.unsafeString_none
  have hlt := h.lt
  have fin : ∀ w' : World, Below w.heap.size w w' → WrStep 99 5 B g v s er w w' := fun w' hb => ⟨v, ⟨p, hp, h.below hb⟩, hb.mono hBw, Kept.of_below hb _⟩
  have FIN := Aside0.mk fin
  clear fin
  rcases h.2.2.1.2 with ⟨hv, _⟩ | ⟨g', cap, cur, fz, hv, hbg, hg, _⟩
  · have c1 : w.drew.cell? ⟨g, 1, none⟩ = some (.slice none 0 0) := by have := h.cell1; rw [hv] at this; exact this
    have hSD : (Builtin.unsafeSliceData_ #[39] 120 #[.slice none 0 0]).run Try.prog w.drew = .ok (.pointer none) w.drew := rfl
    clear h hs hv
    subst hes
    go_enter Try.func61, Try.ntmps61
    go_wp2
    go_region
    all_goals (go_wp2; go_ret; exact ⟨rfl, FIN.out _ (Below.drew (Below.refl _ _))⟩)
  · rw [hs] at hv
    have c1 : w.drew.cell? ⟨g, 1, none⟩ = some (.slice (some ⟨g', 0, none⟩) 0 cap) := by have := h.cell1; rw [hv] at this; exact this
    by_cases hc0 : cap = 0
    · subst hc0
      have hSD : (Builtin.unsafeSliceData_ #[39] 120 #[.slice (some ⟨g', 0, none⟩) 0 0]).run Try.prog w.drew = .ok (.pointer (some ⟨w.drew.heap.size, 0, none⟩)) (w.drew.alloc (.view ⟨g', 0, none⟩ 5)) :=
        Lib.run_unsafeSliceData_zero w.drew _ _ 5 Try.underlying120 ⟨g', 0, none⟩ 0 (5, cur.size) (by have hg' : w.drew.heap[g']? = some (.cells cur 5 fz) := hg; simp [World.shape?, hg'])
      have c2 : (w.drew.alloc (.view ⟨g', 0, none⟩ 5)).cell? ⟨g, 1, none⟩ = some (.slice (some ⟨g', 0, none⟩) 0 0) := by
        have h2 := (h.below ((Below.refl w.heap.size w).drew.alloc (Nat.le_refl _) (.view ⟨g', 0, none⟩ 5))).cell1
        rw [hv] at h2
        exact h2
      have c3 : (w.alloc (.view ⟨g', 0, none⟩ 5)).drew.cell? ⟨g, 1, none⟩ = some (.slice (some ⟨g', 0, none⟩) 0 0) := c2
      have c0 : w.cell? ⟨g, 1, none⟩ = some (.slice (some ⟨g', 0, none⟩) 0 0) := c1
      clear h hs hv hg hbg
      subst hes
      go_enter Try.func61, Try.ntmps61
      go_wp2
      go_region
      all_goals (go_wp2; go_ret; exact ⟨rfl, FIN.out _ ((Below.drew (Below.refl _ _)).alloc (Nat.le_refl _) _)⟩)
    · have hSD : (Builtin.unsafeSliceData_ #[39] 120 #[.slice (some ⟨g', 0, none⟩) 0 cap]).run Try.prog w.drew = .ok (.pointer (some ⟨g', 0, none⟩)) w.drew :=
        Lib.run_unsafeSliceData_row _ _ _ _ _ _ hc0
      clear h hs hv hg hbg hc0
      subst hes
      go_enter Try.func61, Try.ntmps61
      go_wp2
      go_region
      all_goals (go_wp2; go_ret; exact ⟨rfl, FIN.out _ (Below.drew (Below.refl _ _))⟩)
theorem strings_Builder_String.wr (B g : Nat) (v : Value) (s : ByteArray) (er : Int) (w : World) (h : IsWr 99 5 B g v s er w) (hBw : B ≤ w.heap.size) :
    Calls Try.prog 61 #[.pointer (some ⟨g, 0, none⟩)] w fun e w' => e = .returned (.string s) ∧ WrStep 99 5 B g v s er w w' := by
  obtain ⟨p, hp, h⟩ := h
  by_cases h0 : s.size = 0
  · exact strings_Builder_String.nothing B g p er w hp v s h h0 hBw
  · exact strings_Builder_String.some_ B g p v s er w hp h h0
/-! ### oct_Writer_Bytes: function 50 -/
set_option maxHeartbeats 1000000 in
theorem oct_Writer_Bytes.wr (B g : Nat) (v : Value) (s : ByteArray) (er : Int) (w : World) (h : IsWr 99 5 B g v s er w) (hBw : B ≤ w.heap.size) :
    Calls Try.prog 50 #[.pointer (some ⟨g, 0, none⟩)] w fun e w' => e = .returned (.tuple #[.string (if er = 0 then s else ⟨#[]⟩), .int .i64 er]) ∧ WrStep 99 5 B g v s er w w' := by
  have HS := Aside0.mk (strings_Builder_String.wr B g v s er w h hBw)
  obtain ⟨p, hp, h⟩ := h
  have c2 := h.cell2
  have HD : Aside0 (∀ m, WrStep 99 5 B g v s er w (w.drewN m)) := ⟨fun m => ⟨v, ⟨p, hp, h.below (pw_below_drewN (Below.refl _ _) m)⟩, pw_below_drewN (Below.refl _ _) m, Kept.of_below (pw_below_drewN (Below.refl _ _) m) _⟩⟩
  clear h hp
  by_cases h1 : er = 0
  · subst h1
    rw [if_pos rfl]
    clear HD
    go_enter Try.func50, Try.ntmps50
    go_wp2_with (go_at_call 61; refine HS.out.mono ?_; rintro e w' ⟨rfl, HSS⟩; have HSS2 := Aside0.mk HSS; clear HSS)
    go_ret2
    exact ⟨rfl, HSS2.out⟩
  · rw [if_neg h1]
    have t1 : (er == 0) = false := beq_eq_false_iff_ne.mpr h1
    have t2 : (er != 0) = true := bne_iff_ne.mpr h1
    clear h1 HS
    go_enter Try.func50, Try.ntmps50
    go_wp2
    go_quiet (fail)
    go_wp2
    go_ret2
    exact ⟨rfl, HD.out _⟩
theorem oct_Writer_Bytes.nil (w : World) : Calls Try.prog 50 #[.pointer none] w fun e w' => e = .returned (.tuple #[.string ⟨#[]⟩, .int .i64 1]) ∧ w' = w := by
  go_enter Try.func50, Try.ntmps50
  go_wp2
  go_ret2
  exact ⟨rfl, rfl⟩
/-! ### outer_seed: function 35 -/
def outer_seed.word : ByteArray := ⟨#[111, 117, 116, 101, 114]⟩
def outer_seed.f (k : Nat) (a0_0 a0_1 a0_2 a0_3 : Int) (a1 : Int) : Option ByteArray :=
  (oct_Put.f k a0_0 7).bind fun x => (oct_Put.f k a1 2).bind fun y => if x.2 = 0 ∧ y.2 = 0 ∧ x.1.size ≤ 100 ∧ y.1.size ≤ 100 then some ((((⟨#[]⟩ : ByteArray) ++ outer_seed.word) ++ x.1) ++ y.1) else none
theorem outer_seed.mono : ∀ a0_0 a0_1 a0_2 a0_3 a1 k, LeO (outer_seed.f k a0_0 a0_1 a0_2 a0_3 a1) (outer_seed.f (k + 1) a0_0 a0_1 a0_2 a0_3 a1) := by
  intro a0_0 a0_1 a0_2 a0_3 a1 k
  unfold outer_seed.f
  exact LeO.bind (oct_Put.mono _ _ _) (fun _ => LeO.bind (oct_Put.mono _ _ _) (fun _ => LeO.refl _))
theorem outer_seed.far {B g gb : Nat} {v : Value} {s : ByteArray} {er : Int} {W w1 : World} {cs : Array Value} {t : TypeId} (hi : IsWr 99 5 B g v s er W) (hb : W.heap[gb]? = some (.cells cs t (0, 0))) (hne : gb ≠ g) (ht : t ≠ 5)
    (hk : Kept W w1 (fun k => k = g ∨ v.ownBlock = some k)) : w1.heap[gb]? = some (.cells cs t (0, 0)) := by
  obtain ⟨p, hp, h⟩ := hi
  have hlt : gb < W.heap.size := (Array.getElem?_eq_some_iff.1 hb).1
  rw [hk.2 gb hlt (by
    rintro (h1 | h1)
    · exact hne h1
    · exact Go.Lib.ownBlock_neF h.2.2.1 hb ht h1)]
  exact hb
theorem outer_seed.put_ok (s t : ByteArray) (h : s.size + t.size ≤ 65536) : putS s 0 t 0 = (s ++ t, 0) := by
  unfold putS
  rw [if_pos rfl, if_pos rfl, if_neg (by omega)]
set_option maxHeartbeats 4000000 in
set_option maxRecDepth 100000 in
theorem outer_seed.calls (k : Nat) (a0_0 a0_1 a0_2 a0_3 : Int) (a1 : Int) (r : ByteArray) (w : World) (h : outer_seed.f k a0_0 a0_1 a0_2 a0_3 a1 = some r) :
    Calls Try.prog 35 #[.agg #[.int .i64 a0_0, .int .i64 a0_1, .int .i64 a0_2, .int .i64 a0_3], .int .i64 a1] w fun e w' => e = .returned (.string r) ∧ Below w.heap.size w w' := by
  unfold outer_seed.f at h
  obtain ⟨⟨x, e1⟩, hx, g1⟩ := Option.bind_eq_some_iff.mp h
  clear h
  obtain ⟨⟨y, e2⟩, hy, g2⟩ := Option.bind_eq_some_iff.mp g1
  clear g1
  split at g2
  rotate_left
  · cases g2
  rename_i hc
  obtain ⟨h1, h2, h3, h4⟩ := hc
  simp only at h1 h2 h3 h4
  subst h1; subst h2
  have h := Option.some.inj g2
  clear g2
  have HR := Aside0.mk h
  have HX := Aside0.mk hx
  have HY := Aside0.mk hy
  have HS3 := Aside0.mk h3
  have HS4 := Aside0.mk h4
  have hbx : (w.alloc (.cells #[.int .i64 a0_0, .int .i64 a0_1, .int .i64 a0_2, .int .i64 a0_3] 23)).heap[w.heap.size]? = some (.cells #[.int .i64 a0_0, .int .i64 a0_1, .int .i64 a0_2, .int .i64 a0_3] 23 (0, 0)) := heap_alloc_new _ _
  have HBX := Aside0.mk hbx
  have HB := Aside0.mk (below_alloc (Below.refl w.heap.size w) (.cells #[.int .i64 a0_0, .int .i64 a0_1, .int .i64 a0_2, .int .i64 a0_3] 23))
  have HLT : Aside0 (w.heap.size < (w.alloc (.cells #[.int .i64 a0_0, .int .i64 a0_1, .int .i64 a0_2, .int .i64 a0_3] 23)).heap.size) := ⟨(Array.getElem?_eq_some_iff.1 hbx).1⟩
  clear h hx hy h3 h4 hbx
  go_enter Try.func35, Try.ntmps35
  go_wp2_with fail
  obtain ⟨gb, hgb⟩ : ∃ g, w.heap.size = g := ⟨_, rfl⟩
  rw [hgb] at HBX HLT
  have HGB := Aside0.mk hgb
  rw [hgb]
  clear hgb
  generalize w.alloc (.cells #[.int .i64 a0_0, .int .i64 a0_1, .int .i64 a0_2, .int .i64 a0_3] 23) = wa at *
  refine (oct_To.wr wa).mono ?_
  rintro e w8 ⟨rfl, hi8, hb8, hz8⟩
  have HI8 := Aside0.mk hi8
  have HB8 := Aside0.mk (below_step HB.out hb8)
  have HBX8 := Aside0.mk (blk_below HBX.out hb8)
  have HW8 : Aside0 (wa.heap.size ≤ w8.heap.size) := ⟨hb8.size⟩
  obtain ⟨gw, hgw⟩ : ∃ g, wa.heap.size = g := ⟨_, rfl⟩
  rw [hgw] at HI8 HLT HW8
  have HGW := Aside0.mk hgw
  rw [hgw]
  clear hi8 hb8 hz8 HB HBX hgw
  go_wp2_with fail
  refine (oct_Writer_Raw.wr gw gw _ ⟨#[]⟩ outer_seed.word 0 _ HI8.out (by decide) (by decide) HW8.out).mono ?_
  rintro e w9 ⟨rfl, v9, hi9, hb9, hk9⟩
  rw [outer_seed.put_ok _ _ (by decide)] at hi9
  have HI9 := Aside0.mk hi9
  have HBX9 := Aside0.mk (outer_seed.far HI8.out HBX8.out (Nat.ne_of_lt HLT.out) (by decide) hk9)
  have HW9 : Aside0 (gw ≤ w9.heap.size) := ⟨Nat.le_trans HW8.out hb9.size⟩
  have HB9 : Aside0 (Below w.heap.size w w9) := ⟨HB8.out.trans (hb9.mono (by rw [HGB.out]; exact Nat.le_of_lt HLT.out))⟩
  clear hi9 hb9 hk9 HI8 HBX8 HB8 HW8
  have c0 : w9.cell? ⟨gb, 0, none⟩ = some (.int .i64 a0_0) := (blk_cell HBX9.out 0).trans rfl
  go_wp2_with fail
  have z5 : ((⟨#[]⟩ : ByteArray) ++ outer_seed.word).size = 5 := by rfl
  have HZ5 := Aside0.mk z5
  clear z5
  generalize (⟨#[]⟩ : ByteArray) ++ outer_seed.word = s1 at *
  refine (oct_Writer_Num.wr k gw gw v9 s1 x 0 a0_0 7 0 _ HI9.out HX.out (by have := HZ5.out; omega) (by have := HS3.out; omega) HW9.out).mono ?_
  rintro e w10 ⟨rfl, v10, hi10, hb10, hk10⟩
  rw [outer_seed.put_ok _ _ (by have := HZ5.out; have := HS3.out; omega)] at hi10
  have HI10 := Aside0.mk hi10
  have HW10 : Aside0 (gw ≤ w10.heap.size) := ⟨Nat.le_trans HW9.out hb10.size⟩
  have HB10 : Aside0 (Below w.heap.size w w10) := ⟨HB9.out.trans (hb10.mono (by rw [HGB.out]; exact Nat.le_of_lt HLT.out))⟩
  have HZ6 : Aside0 ((s1 ++ x).size ≤ 105) := ⟨by rw [ByteArray.size_append]; have := HZ5.out; have := HS3.out; omega⟩
  clear hi10 hb10 hk10 HI9 HB9 HW9 HBX9 c0
  simp only at HI10
  generalize s1 ++ x = s2 at *
  go_wp2_with fail
  refine (oct_Writer_Num.wr k gw gw v10 s2 y 0 a1 2 0 _ HI10.out HY.out (by have := HZ6.out; omega) (by have := HS4.out; omega) HW10.out).mono ?_
  rintro e w11 ⟨rfl, v11, hi11, hb11, hk11⟩
  rw [outer_seed.put_ok _ _ (by have := HZ6.out; have := HS4.out; omega)] at hi11
  have HI11 := Aside0.mk hi11
  have HW11 : Aside0 (gw ≤ w11.heap.size) := ⟨Nat.le_trans HW10.out hb11.size⟩
  have HB11 : Aside0 (Below w.heap.size w w11) := ⟨HB10.out.trans (hb11.mono (by rw [HGB.out]; exact Nat.le_of_lt HLT.out))⟩
  clear hi11 hb11 hk11 HI10 HB10 HW10
  simp only at HI11
  generalize s2 ++ y = s3 at *
  go_wp2_with fail
  refine (oct_Writer_Bytes.wr gw gw v11 s3 0 _ HI11.out HW11.out).mono ?_
  rintro e w12 ⟨rfl, v12, hi12, hb12, hk12⟩
  have HB12 : Aside0 (Below w.heap.size w w12) := ⟨HB11.out.trans (hb12.mono (by rw [HGB.out]; exact Nat.le_of_lt HLT.out))⟩
  clear hi12 hb12 hk12 HI11 HB11 HW11
  first | rw [if_pos rfl] | rw [if_pos trivial]
  go_wp2_with fail
  go_ret
  have HRR := HR.out
  subst HRR
  exact ⟨rfl, HB12.out⟩
/-! ### prng_may: function 64 -/
def prng_may.f (a0 : Int) : Option (Bool) := if a0 ≥ 1 then (some (decide (a0 ≤ 2147483647))) else (some false)
set_option maxHeartbeats 8000000 in
set_option maxRecDepth 100000 in
theorem prng_may.calls (a0 : Int) (r : Bool) (w : World) (h : prng_may.f a0 = some r) :
  Calls Try.prog 64 #[.int .i64 a0] w fun e w' => e = .returned (.bool r) ∧ Drawn0 w w' := by
 have H : (if a0 ≥ 1 then (some (decide (a0 ≤ 2147483647))) else (some false)) = some r := h
 clear h; by_cases c2 : a0 ≥ 1
 ·
  rw [if_pos c2] at H
  have c2b0 : decide (1 ≤ a0) = true := decide_eq_true c2
  clear c2; obtain rfl := Option.some.inj H
  go_enter Try.func64, Try.ntmps64
  go_wp2
  go_ret
  exact ⟨by first | rfl | (simp; done) | (simp [*]; done), by repeat (first | exact Drawn0.refl _ | apply Drawn0.step)⟩
 ·
  rw [if_neg c2] at H
  have c2b0 : decide (1 ≤ a0) = false := decide_eq_false c2
  clear c2; obtain rfl := Option.some.inj H
  go_enter Try.func64, Try.ntmps64
  go_wp2
  go_ret
  exact ⟨by first | rfl | (simp; done) | (simp [*]; done), by repeat (first | exact Drawn0.refl _ | apply Drawn0.step)⟩
/-! ### sha_Start: function 98 -/
theorem sha_Start.gives (w : World) : Calls Try.prog 98 #[] w fun e w' => e = .returned (.agg (shaStart.map (Value.int .u32)).toArray) ∧ Below w.heap.size w w' := by
  go_enter Try.func98, Try.ntmps98
  go_wp2
  refine bodyPost_ret (v := .agg (shaStart.map (Value.int .u32)).toArray) (by simp [results, Try.results98, go_sem, shaStart]) rfl ⟨rfl, ?_⟩
  repeat (first | exact Below.refl _ _ | (refine Below.setCell ?_ (by simp) _) | (refine Below.alloc ?_ (by simp) _))
/-! ### sha_New: function 95 -/
set_option maxRecDepth 100000 in
theorem sha_New.gives (w : World) : Calls Try.prog 95 #[] w fun e w' => ∃ g : Nat, e = .returned (.pointer (some ⟨g, 0, none⟩)) ∧ w.heap.size ≤ g ∧ w'.heap[g]? = some (.cells #[.int .u32 1779033703, .int .u32 3144134277, .int .u32 1013904242, .int .u32 2773480762, .int .u32 1359893119, .int .u32 2600822924, .int .u32 528734635, .int .u32 1541459225, .slice none 0 0, .int .i64 0] 141 (0, 0)) ∧ Below w.heap.size w w' := by
  go_enter Try.func95, Try.ntmps95
  go_wp2_with fail
  refine (sha_Start.gives w).mono ?_
  rintro e w1 ⟨rfl, hb1⟩
  have HB1 := Aside0.mk hb1
  clear hb1
  simp only [shaStart, List.map_cons, List.map_nil]
  go_wp2_with fail
  go_ret
  exact ⟨w1.heap.size, rfl, HB1.out.size, heap_alloc_new _ _, below_alloc HB1.out _⟩
/-! ### bits_RotateLeft32: function 105 -/
def bits_RotateLeft32.f (a0 : Int) (a1 : Int) : Option (Int) := if 0 ≤ (Go.bits .and .u64 (IntKind.u64.wrap (a1)) 31) then (if 0 ≤ (IntKind.u64.wrap (32 - (Go.bits .and .u64 (IntKind.u64.wrap (a1)) 31))) then (some (Go.bits .or .u32 (shl .u32 a0 (Go.bits .and .u64 (IntKind.u64.wrap (a1)) 31)) (shr .u32 a0 (IntKind.u64.wrap (32 - (Go.bits .and .u64 (IntKind.u64.wrap (a1)) 31)))))) else (none)) else (none)
set_option maxHeartbeats 8000000 in
set_option maxRecDepth 100000 in
theorem bits_RotateLeft32.calls (a0 : Int) (a1 : Int) (r : Int) (w : World) (h : bits_RotateLeft32.f a0 a1 = some r) :
  Calls Try.prog 105 #[.int .u32 a0, .int .i64 a1] w fun e w' => e = .returned (.int .u32 r) ∧ Drawn0 w w' := by
 have H : (if 0 ≤ (Go.bits .and .u64 (IntKind.u64.wrap (a1)) 31) then (if 0 ≤ (IntKind.u64.wrap (32 - (Go.bits .and .u64 (IntKind.u64.wrap (a1)) 31))) then (some (Go.bits .or .u32 (shl .u32 a0 (Go.bits .and .u64 (IntKind.u64.wrap (a1)) 31)) (shr .u32 a0 (IntKind.u64.wrap (32 - (Go.bits .and .u64 (IntKind.u64.wrap (a1)) 31)))))) else (none)) else (none)) = some r := h
 clear h; obtain ⟨ji3, hji3⟩ : ∃ j_ : Int, (Go.bits .and .u64 (IntKind.u64.wrap (a1)) 31) = j_ := ⟨_, rfl⟩
 replace H : (if 0 ≤ (ji3) then (if 0 ≤ (IntKind.u64.wrap (32 - (ji3))) then (some (Go.bits .or .u32 (shl .u32 a0 (ji3)) (shr .u32 a0 (IntKind.u64.wrap (32 - (ji3)))))) else (none)) else (none)) = some r := by first | (rw [hji3] at H; exact H) | (simp only [hji3] at H ⊢; exact H)
 by_cases c4 : 0 ≤ (ji3)
 ·
  rw [if_pos c4] at H
  have c4b0 := eq_true c4
  have c4b1 : decide (0 ≤ (ji3)) = true := decide_eq_true c4
  clear c4; obtain ⟨ji5, hji5⟩ : ∃ j_ : Int, (shl .u32 a0 (ji3)) = j_ := ⟨_, rfl⟩
  replace H : (if 0 ≤ (IntKind.u64.wrap (32 - (ji3))) then (some (Go.bits .or .u32 (ji5) (shr .u32 a0 (IntKind.u64.wrap (32 - (ji3)))))) else (none)) = some r := by first | (rw [hji5] at H; exact H) | (simp only [hji5] at H ⊢; exact H)
  have hji5_ : (IntKind.u32.wrap (a0 * 2 ^ min (ji3).toNat 32)) = ji5 := hji5
  have hji5z : (ji3) ≤ 32 → (IntKind.u32.wrap (a0 * 2 ^ (ji3).toNat)) = ji5 := shl_small hji5
  obtain ⟨ji6, hji6⟩ : ∃ j_ : Int, (IntKind.u64.wrap (32 - (ji3))) = j_ := ⟨_, rfl⟩
  replace H : (if 0 ≤ (ji6) then (some (Go.bits .or .u32 (ji5) (shr .u32 a0 (ji6)))) else (none)) = some r := by first | (rw [hji6] at H; exact H) | (simp only [hji6] at H ⊢; exact H)
  by_cases c7 : 0 ≤ (ji6)
  ·
   rw [if_pos c7] at H
   have c7b0 := eq_true c7
   have c7b1 : decide (0 ≤ (ji6)) = true := decide_eq_true c7
   clear c7; obtain ⟨ji8, hji8⟩ : ∃ j_ : Int, (shr .u32 a0 (ji6)) = j_ := ⟨_, rfl⟩
   replace H : (some (Go.bits .or .u32 (ji5) (ji8))) = some r := by first | (rw [hji8] at H; exact H) | (simp only [hji8] at H ⊢; exact H)
   have hji8_ : (a0 / 2 ^ min (ji6).toNat 32) = ji8 := hji8
   have hji8z : (ji6) ≤ 32 → (a0 / 2 ^ (ji6).toNat) = ji8 := shr_small hji8
   obtain rfl := Option.some.inj H
   go_enter Try.func105, Try.ntmps105
   go_wp2
   go_ret
   exact ⟨by first | rfl | (simp; done) | (simp only [← hji3, ← hji5, ← hji6, ← hji8] <;> (first | rfl | simp)) | (simp [*]; done), by repeat (first | exact Drawn0.refl _ | apply Drawn0.step)⟩
  ·
   rw [if_neg c7] at H
   exact absurd H (by simp)
 ·
  rw [if_neg c4] at H
  exact absurd H (by simp)
/-! ### sha_rotr: function 103 -/
def sha_rotr.f (a0 : Int) (a1 : Int) : Option (Int) := (bits_RotateLeft32.f a0 (wrap64 (-a1))).bind fun t109 => (some t109)
set_option maxHeartbeats 8000000 in
set_option maxRecDepth 100000 in
theorem sha_rotr.calls (a0 : Int) (a1 : Int) (r : Int) (w : World) (h : sha_rotr.f a0 a1 = some r) :
  Calls Try.prog 103 #[.int .u32 a0, .int .i64 a1] w fun e w' => e = .returned (.int .u32 r) ∧ Drawn0 w w' := by
 have H : ((bits_RotateLeft32.f a0 (wrap64 (-a1))).bind fun t109 => (some t109)) = some r := h
 clear h; replace H := Option.bind_eq_some_iff.mp H
 obtain ⟨t109, A30, H⟩ := H
 replace H : (some t109) = some r := H
 have A3 := Aside0.mk A30
 clear A30; obtain rfl := Option.some.inj H
 go_enter Try.func103, Try.ntmps103
 go_wp2_with (first | ((with_reducible refine gate_callee (f := 105) rfl ?_); refine goesL_ (some 8) rfl rfl Try.func105 (by kernel_rfl) rfl #[.int .u32 a0, .int .i64 (wrap64 (-a1))] rfl zM ?_; (with_reducible refine (bits_RotateLeft32.calls a0 (wrap64 (-a1)) t109 _ A3.out).mono ?_); rintro e w' ⟨rfl, ⟨nd, rfl⟩⟩; refine ⟨_, rfl, ?_⟩))
 go_ret
 exact ⟨by first | rfl | (simp; done) | (simp [*]; done), by repeat (first | exact Drawn0.refl _ | apply Drawn0.step)⟩
end Go.Proofs.Ytghhmnjkgnoogaa.POuterHolds
