-- Written by this session's own program (wip/tools/mkprint.py) over the kit's printer, with overrides.
import Derived.Test.YtghhmnjkgnoogaaGreatTOuterWholesa
import Derived.Test.YtghhmnjkgnoogaaGreatQOuterWholesx0
namespace Go.Proofs.YtghhmnjkgnoogaaGreat.POuterWholes
open Go.RowKit Go.Mine Go.Proofs.YtghhmnjkgnoogaaGreatW.PrintWords Go.Proofs.YtghhmnjkgnoogaaGreatW.PrintLast Go.Proofs.YtghhmnjkgnoogaaGreatW.PrintMore
attribute [local go_sem] max2_int min2_int max_two min_two max_three min_three max_four min_four   -- for this text's walks alone
set_option linter.unusedVariables false
set_option linter.unusedSimpArgs false
/-! ### mosaiclaw09_Ref: function 6 -/
def mosaiclaw09_Ref.f (a0_0 : Int) (a0_1 : Int) (a0_2 : Int) (a0_3 : Int) : Option (Int × Int × Int × Int) := some (a0_0, a0_1, a0_2, a0_3)
set_option maxHeartbeats 8000000 in
set_option maxRecDepth 100000 in
theorem mosaiclaw09_Ref.calls (a0_0 : Int) (a0_1 : Int) (a0_2 : Int) (a0_3 : Int) (r1 : Int) (r2 : Int) (r3 : Int) (r4 : Int) (w : World) (h : mosaiclaw09_Ref.f a0_0 a0_1 a0_2 a0_3 = some (r1, r2, r3, r4)) :
  Calls Tryz.prog 6 #[.agg #[.int .i64 a0_0, .int .i64 a0_1, .int .i64 a0_2, .int .i64 a0_3]] w fun e w' => e = .returned (.agg #[.int .i64 r1, .int .i64 r2, .int .i64 r3, .int .i64 r4]) ∧ Below w.heap.size w w' := by
 have hu23 := Tryz.underlying23; have hu24 := Tryz.underlying24; have HB := Aside0.mk (Below.refl w.heap.size w)
 have H : (some (a0_0, a0_1, a0_2, a0_3)) = some (r1, r2, r3, r4) := h
 clear h; simp only [Option.some.injEq, Prod.mk.injEq] at H
 obtain ⟨rfl, rfl, rfl, rfl⟩ := H
 go_enter Tryz.func6, Tryz.ntmps6
 go_wp2_with (first | ((with_reducible refine gate_dst (N := 1) rfl ?_); refine box_event ?hg (N := 1) ?hd (cs := #[.int .i64 a0_0, .int .i64 a0_1, .int .i64 a0_2, .int .i64 a0_3]) (t := 23) ?hr ?_; (case hd => rfl); (case hg => rfl); (case hr => first | (go_simp; done) | (go_simp; rfl)); intro gb101 hg w2 hbox hb; have BK101 := Aside0.mk (hbox); have GW101 := Aside0.mk ((zg : w.heap.size ≤ gb101)); have GE101 := Aside0.mk ((zg : w.heap.size ≤ gb101)); replace HB := Aside0.mk (below_step zB hb); clear hb hbox hg) | ((with_reducible refine gate_dst (N := 2) rfl ?_); refine box_event ?hg (N := 2) ?hd (cs := #[.int .i64 0, .int .i64 0, .int .i64 0, .int .i64 0]) (t := 24) ?hr ?_; (case hd => rfl); (case hg => rfl); (case hr => first | (go_simp; done) | (go_simp; rfl)); intro gb102 hg w3 hbox hb; have n0_ := Aside0.mk (blk_below (zk BK101) hb); have n1_ := Aside0.mk (below_step zB hb); have n2_ := Aside0.mk (hbox); have n3_ := Aside0.mk ((zg : w.heap.size ≤ gb102)); have n4_ := Aside0.mk ((zg : w.heap.size ≤ gb102)); have n5_ := Aside0.mk ((by rw [hg]; exact Nat.ne_of_lt (blk_lt (zk BK101)) : gb101 ≠ gb102)); have n6_ := Aside0.mk ((by rw [hg]; exact Nat.ne_of_gt (blk_lt (zk BK101)) : gb102 ≠ gb101)); clear BK101; clear HB; have BK101 := n0_; have HB := n1_; have BK102 := n2_; have GW102 := n3_; have GE102 := n4_; have NB101_102 := n5_; have NB102_101 := n6_; clear n0_ n1_ n2_ n3_ n4_ n5_ n6_; clear hb hbox hg; have hnb4 := NB101_102.out; have hnc4 := NB102_101.out; obtain ⟨hcz5_0, hcz5_1, hcz5_2, hcz5_3⟩ := cZ4 BK101; obtain ⟨hfz5_0, hfz5_1, hfz5_2, hfz5_3⟩ := dZ4 BK101; obtain ⟨hcz6_0, hcz6_1, hcz6_2, hcz6_3⟩ := cZ4 BK102; obtain ⟨hfz6_0, hfz6_1, hfz6_2, hfz6_3⟩ := dZ4 BK102))
 refine bodyPost_ret (results_cell_row rfl _ _ gb102 24 #[.int .i64 a0_0, .int .i64 a0_1, .int .i64 a0_2, .int .i64 a0_3] (0, 0) _ rfl (by (with_reducible repeat (first | refine blk_drewN ?_ _ | refine blk_drew ?_ | refine blk_alloc ?_ _)); refine blk_put (cs := #[.int .i64 a0_0, .int .i64 a0_1, .int .i64 a0_2, .int .i64 0]) ?_ 3 _ rfl; (with_reducible repeat (first | refine blk_drewN ?_ _ | refine blk_drew ?_ | refine blk_alloc ?_ _)); refine blk_put (cs := #[.int .i64 a0_0, .int .i64 a0_1, .int .i64 0, .int .i64 0]) ?_ 2 _ rfl; (with_reducible repeat (first | refine blk_drewN ?_ _ | refine blk_drew ?_ | refine blk_alloc ?_ _)); refine blk_put (cs := #[.int .i64 a0_0, .int .i64 0, .int .i64 0, .int .i64 0]) ?_ 1 _ rfl; (with_reducible repeat (first | refine blk_drewN ?_ _ | refine blk_drew ?_ | refine blk_alloc ?_ _)); refine blk_put (cs := #[.int .i64 0, .int .i64 0, .int .i64 0, .int .i64 0]) ?_ 0 _ rfl; (with_reducible repeat (first | refine blk_drewN ?_ _ | refine blk_drew ?_ | refine blk_alloc ?_ _)); exact BK102.out) Tryz.underlying24 rfl (by kernel_rfl)) rfl ?_
 exact ⟨zE, zB⟩
/-! ### outer_in: function 26 -/
def outer_in.f (a0 : Int) (a1 : Int) (a2 : Int) : Option (Bool) := if a0 ≥ a1 then (some (decide (a0 ≤ a2))) else (some false)
set_option maxHeartbeats 8000000 in
set_option maxRecDepth 100000 in
theorem outer_in.calls (a0 : Int) (a1 : Int) (a2 : Int) (r : Bool) (w : World) (h : outer_in.f a0 a1 a2 = some r) :
  Calls Tryz.prog 26 #[.int .i64 a0, .int .i64 a1, .int .i64 a2] w fun e w' => e = .returned (.bool r) ∧ Drawn0 w w' := by
 have H : (if a0 ≥ a1 then (some (decide (a0 ≤ a2))) else (some false)) = some r := h
 clear h; by_cases c4 : a0 ≥ a1
 ·
  rw [if_pos c4] at H
  have c4b0 : decide (a1 ≤ a0) = true := decide_eq_true c4
  clear c4; obtain rfl := Option.some.inj H
  go_enter Tryz.func26, Tryz.ntmps26
  go_wp2
  go_ret
  exact ⟨by first | rfl | (simp; done) | (simp [*]; done), by repeat (first | exact Drawn0.refl _ | apply Drawn0.step)⟩
 ·
  rw [if_neg c4] at H
  have c4b0 : decide (a1 ≤ a0) = false := decide_eq_false c4
  clear c4; obtain rfl := Option.some.inj H
  go_enter Tryz.func26, Tryz.ntmps26
  go_wp2
  go_ret
  exact ⟨by first | rfl | (simp; done) | (simp [*]; done), by repeat (first | exact Drawn0.refl _ | apply Drawn0.step)⟩
/-! ### outer_Check: function 12 -/
def outer_Check.f (a0_0 : Int) (a0_1 : Int) (a0_2 : Int) (a0_3 : Int) : Option (Bool) := (outer_in.f a0_0 0 72057594037927935).bind fun t104 => (if t104 = true then ((outer_in.f a0_1 1 96).bind fun t105 => (if t105 = true then ((outer_in.f a0_2 1 64).bind fun t106 => (if t106 = true then ((outer_in.f a0_3 1 8).bind fun t107 => (some t107)) else (some false))) else (some false))) else (some false))
set_option maxHeartbeats 8000000 in
set_option maxRecDepth 100000 in
theorem outer_Check.calls (a0_0 : Int) (a0_1 : Int) (a0_2 : Int) (a0_3 : Int) (r : Bool) (w : World) (h : outer_Check.f a0_0 a0_1 a0_2 a0_3 = some r) :
  Calls Tryz.prog 12 #[.agg #[.int .i64 a0_0, .int .i64 a0_1, .int .i64 a0_2, .int .i64 a0_3]] w fun e w' => e = .returned (.bool r) ∧ Below w.heap.size w w' := by
 have hu23 := Tryz.underlying23; have HB := Aside0.mk (Below.refl w.heap.size w)
 have H : ((outer_in.f a0_0 0 72057594037927935).bind fun t104 => (if t104 = true then ((outer_in.f a0_1 1 96).bind fun t105 => (if t105 = true then ((outer_in.f a0_2 1 64).bind fun t106 => (if t106 = true then ((outer_in.f a0_3 1 8).bind fun t107 => (some t107)) else (some false))) else (some false))) else (some false))) = some r := h
 clear h; replace H := Option.bind_eq_some_iff.mp H
 obtain ⟨t104, A20, H⟩ := H
 replace H : (if t104 = true then ((outer_in.f a0_1 1 96).bind fun t105 => (if t105 = true then ((outer_in.f a0_2 1 64).bind fun t106 => (if t106 = true then ((outer_in.f a0_3 1 8).bind fun t107 => (some t107)) else (some false))) else (some false))) else (some false)) = some r := H
 have A2 := Aside0.mk A20
 clear A20; by_cases c3 : t104 = true
 ·
  subst c3
  have H1 : ((outer_in.f a0_1 1 96).bind fun t105 => (if t105 = true then ((outer_in.f a0_2 1 64).bind fun t106 => (if t106 = true then ((outer_in.f a0_3 1 8).bind fun t107 => (some t107)) else (some false))) else (some false))) = some r := by rw [if_pos rfl] at H; exact H
  clear H; have H := H1; clear H1; replace H := Option.bind_eq_some_iff.mp H
  obtain ⟨t105, A40, H⟩ := H
  replace H : (if t105 = true then ((outer_in.f a0_2 1 64).bind fun t106 => (if t106 = true then ((outer_in.f a0_3 1 8).bind fun t107 => (some t107)) else (some false))) else (some false)) = some r := H
  have A4 := Aside0.mk A40
  clear A40; by_cases c5 : t105 = true
  ·
   subst c5
   have H1 : ((outer_in.f a0_2 1 64).bind fun t106 => (if t106 = true then ((outer_in.f a0_3 1 8).bind fun t107 => (some t107)) else (some false))) = some r := by rw [if_pos rfl] at H; exact H
   clear H; have H := H1; clear H1; replace H := Option.bind_eq_some_iff.mp H
   obtain ⟨t106, A60, H⟩ := H
   replace H : (if t106 = true then ((outer_in.f a0_3 1 8).bind fun t107 => (some t107)) else (some false)) = some r := H
   have A6 := Aside0.mk A60
   clear A60; by_cases c7 : t106 = true
   ·
    subst c7
    have H1 : ((outer_in.f a0_3 1 8).bind fun t107 => (some t107)) = some r := by rw [if_pos rfl] at H; exact H
    clear H; have H := H1; clear H1; replace H := Option.bind_eq_some_iff.mp H
    obtain ⟨t107, A80, H⟩ := H
    replace H : (some t107) = some r := H
    have A8 := Aside0.mk A80
    clear A80; obtain rfl := Option.some.inj H
    go_enter Tryz.func12, Tryz.ntmps12
    go_wp2_with (first | ((with_reducible refine gate_dst (N := 1) rfl ?_); refine box_event ?hg (N := 1) ?hd (cs := #[.int .i64 a0_0, .int .i64 a0_1, .int .i64 a0_2, .int .i64 a0_3]) (t := 23) ?hr ?_; (case hd => rfl); (case hg => rfl); (case hr => first | (go_simp; done) | (go_simp; rfl)); intro gb103 hg w9 hbox hb; have BK103 := Aside0.mk (hbox); have GW103 := Aside0.mk ((zg : w.heap.size ≤ gb103)); have GE103 := Aside0.mk ((zg : w.heap.size ≤ gb103)); replace HB := Aside0.mk (below_step zB hb); clear hb hbox hg; obtain ⟨hcz10_0, hcz10_1, hcz10_2, hcz10_3⟩ := cZ4 BK103; obtain ⟨hfz10_0, hfz10_1, hfz10_2, hfz10_3⟩ := dZ4 BK103) | ((with_reducible refine gate_callee (f := 26) rfl ?_); refine goesL_ (some 5) rfl rfl Tryz.func26 (by kernel_rfl) rfl #[.int .i64 a0_0, .int .i64 0, .int .i64 72057594037927935] rfl zM ?_; (with_reducible refine (outer_in.calls a0_0 0 72057594037927935 true _ A2.out).mono ?_); rintro e w' ⟨rfl, ⟨nd, rfl⟩⟩; refine ⟨_, rfl, ?_⟩) | (go_at_call 26; (with_reducible refine (outer_in.calls a0_1 1 96 true _ A4.out).mono ?_); rintro e w' ⟨rfl, ⟨nd, rfl⟩⟩) | (go_at_call 26; (with_reducible refine (outer_in.calls a0_2 1 64 true _ A6.out).mono ?_); rintro e w' ⟨rfl, ⟨nd, rfl⟩⟩) | (go_at_call 26; (with_reducible refine (outer_in.calls a0_3 1 8 t107 _ A8.out).mono ?_); rintro e w' ⟨rfl, ⟨nd, rfl⟩⟩))
    go_ret
    exact ⟨zE, zB⟩
   ·
    replace c7 := Bool.eq_false_iff.mpr c7
    subst c7
    have H1 : (some false) = some r := by rw [if_neg (show ¬ (false = true) by decide)] at H; exact H
    clear H; have H := H1; clear H1; obtain rfl := Option.some.inj H
    go_enter Tryz.func12, Tryz.ntmps12
    go_wp2_with (first | ((with_reducible refine gate_dst (N := 1) rfl ?_); refine box_event ?hg (N := 1) ?hd (cs := #[.int .i64 a0_0, .int .i64 a0_1, .int .i64 a0_2, .int .i64 a0_3]) (t := 23) ?hr ?_; (case hd => rfl); (case hg => rfl); (case hr => first | (go_simp; done) | (go_simp; rfl)); intro gb103 hg w11 hbox hb; have BK103 := Aside0.mk (hbox); have GW103 := Aside0.mk ((zg : w.heap.size ≤ gb103)); have GE103 := Aside0.mk ((zg : w.heap.size ≤ gb103)); replace HB := Aside0.mk (below_step zB hb); clear hb hbox hg; obtain ⟨hcz12_0, hcz12_1, hcz12_2, hcz12_3⟩ := cZ4 BK103; obtain ⟨hfz12_0, hfz12_1, hfz12_2, hfz12_3⟩ := dZ4 BK103) | ((with_reducible refine gate_callee (f := 26) rfl ?_); refine goesL_ (some 5) rfl rfl Tryz.func26 (by kernel_rfl) rfl #[.int .i64 a0_0, .int .i64 0, .int .i64 72057594037927935] rfl zM ?_; (with_reducible refine (outer_in.calls a0_0 0 72057594037927935 true _ A2.out).mono ?_); rintro e w' ⟨rfl, ⟨nd, rfl⟩⟩; refine ⟨_, rfl, ?_⟩) | (go_at_call 26; (with_reducible refine (outer_in.calls a0_1 1 96 true _ A4.out).mono ?_); rintro e w' ⟨rfl, ⟨nd, rfl⟩⟩) | (go_at_call 26; (with_reducible refine (outer_in.calls a0_2 1 64 false _ A6.out).mono ?_); rintro e w' ⟨rfl, ⟨nd, rfl⟩⟩))
    go_ret
    exact ⟨zE, zB⟩
  ·
   replace c5 := Bool.eq_false_iff.mpr c5
   subst c5
   have H1 : (some false) = some r := by rw [if_neg (show ¬ (false = true) by decide)] at H; exact H
   clear H; have H := H1; clear H1; obtain rfl := Option.some.inj H
   go_enter Tryz.func12, Tryz.ntmps12
   go_wp2_with (first | ((with_reducible refine gate_dst (N := 1) rfl ?_); refine box_event ?hg (N := 1) ?hd (cs := #[.int .i64 a0_0, .int .i64 a0_1, .int .i64 a0_2, .int .i64 a0_3]) (t := 23) ?hr ?_; (case hd => rfl); (case hg => rfl); (case hr => first | (go_simp; done) | (go_simp; rfl)); intro gb103 hg w13 hbox hb; have BK103 := Aside0.mk (hbox); have GW103 := Aside0.mk ((zg : w.heap.size ≤ gb103)); have GE103 := Aside0.mk ((zg : w.heap.size ≤ gb103)); replace HB := Aside0.mk (below_step zB hb); clear hb hbox hg; obtain ⟨hcz14_0, hcz14_1, hcz14_2, hcz14_3⟩ := cZ4 BK103; obtain ⟨hfz14_0, hfz14_1, hfz14_2, hfz14_3⟩ := dZ4 BK103) | ((with_reducible refine gate_callee (f := 26) rfl ?_); refine goesL_ (some 5) rfl rfl Tryz.func26 (by kernel_rfl) rfl #[.int .i64 a0_0, .int .i64 0, .int .i64 72057594037927935] rfl zM ?_; (with_reducible refine (outer_in.calls a0_0 0 72057594037927935 true _ A2.out).mono ?_); rintro e w' ⟨rfl, ⟨nd, rfl⟩⟩; refine ⟨_, rfl, ?_⟩) | (go_at_call 26; (with_reducible refine (outer_in.calls a0_1 1 96 false _ A4.out).mono ?_); rintro e w' ⟨rfl, ⟨nd, rfl⟩⟩))
   go_ret
   exact ⟨zE, zB⟩
 ·
  replace c3 := Bool.eq_false_iff.mpr c3
  subst c3
  have H1 : (some false) = some r := by rw [if_neg (show ¬ (false = true) by decide)] at H; exact H
  clear H; have H := H1; clear H1; obtain rfl := Option.some.inj H
  go_enter Tryz.func12, Tryz.ntmps12
  go_wp2_with (first | ((with_reducible refine gate_dst (N := 1) rfl ?_); refine box_event ?hg (N := 1) ?hd (cs := #[.int .i64 a0_0, .int .i64 a0_1, .int .i64 a0_2, .int .i64 a0_3]) (t := 23) ?hr ?_; (case hd => rfl); (case hg => rfl); (case hr => first | (go_simp; done) | (go_simp; rfl)); intro gb103 hg w15 hbox hb; have BK103 := Aside0.mk (hbox); have GW103 := Aside0.mk ((zg : w.heap.size ≤ gb103)); have GE103 := Aside0.mk ((zg : w.heap.size ≤ gb103)); replace HB := Aside0.mk (below_step zB hb); clear hb hbox hg; obtain ⟨hcz16_0, hcz16_1, hcz16_2, hcz16_3⟩ := cZ4 BK103; obtain ⟨hfz16_0, hfz16_1, hfz16_2, hfz16_3⟩ := dZ4 BK103) | ((with_reducible refine gate_callee (f := 26) rfl ?_); refine goesL_ (some 5) rfl rfl Tryz.func26 (by kernel_rfl) rfl #[.int .i64 a0_0, .int .i64 0, .int .i64 72057594037927935] rfl zM ?_; (with_reducible refine (outer_in.calls a0_0 0 72057594037927935 false _ A2.out).mono ?_); rintro e w' ⟨rfl, ⟨nd, rfl⟩⟩; refine ⟨_, rfl, ?_⟩))
  go_ret
  exact ⟨zE, zB⟩
def IsS93 (w0 W : World) (g : Nat) (f0 : ByteArray) (f1 : Int) (f2 : ByteArray) : Prop := W.heap[g]? = some (.cells #[.string f0, .int .i64 f1, .string f2] 93 (0, 0)) ∧ w0.heap.size ≤ g
theorem IsS93.grown {w0 W : World} {g : Nat} {f0 : ByteArray} {f1 : Int} {f2 : ByteArray} {W1 : World} {row : Option Nat} (h : IsS93 w0 W g f0 f1 f2) (hw : W.grownBy W1 row) (hne : some g ≠ row) : IsS93 w0 W1 g f0 f1 f2 := by
  obtain ⟨hb, hg⟩ := h
  exact ⟨blk_grown hb hw hne, hg⟩
theorem IsS93.fresh {w0 W : World} {g : Nat} {f0 : ByteArray} {f1 : Int} {f2 : ByteArray} (h : IsS93 w0 W g f0 f1 f2) : ∀ k, W.heap.size ≤ k → k ≠ g := by
  obtain ⟨hb, hg⟩ := h
  exact Kd.freshB hb
theorem IsS93.kept {w0 W : World} {g : Nat} {f0 : ByteArray} {f1 : Int} {f2 : ByteArray} {W1 : World} {S : Nat → Prop} (h : IsS93 w0 W g f0 f1 f2) (hk : Kept W W1 S) (hne : ¬ S g) : IsS93 w0 W1 g f0 f1 f2 := by
  obtain ⟨hb, hg⟩ := h
  exact ⟨blk_kept hb hk hne, hg⟩
theorem IsS93.below {w0 W : World} {g : Nat} {f0 : ByteArray} {f1 : Int} {f2 : ByteArray} {W1 : World} (h : IsS93 w0 W g f0 f1 f2) (hw : Below W.heap.size W W1) : IsS93 w0 W1 g f0 f1 f2 := h.grown (grown_of_below hw none) (by simp)
theorem IsS93.alloc {w0 W : World} {g : Nat} {f0 : ByteArray} {f1 : Int} {f2 : ByteArray} (h : IsS93 w0 W g f0 f1 f2) (o : Obj) : IsS93 w0 (W.alloc o) g f0 f1 f2 := h.below (below_alloc (Below.refl _ _) o)
theorem IsS93.drewN {w0 W : World} {g : Nat} {f0 : ByteArray} {f1 : Int} {f2 : ByteArray} (h : IsS93 w0 W g f0 f1 f2) (m : Nat) : IsS93 w0 (W.drewN m) g f0 f1 f2 := h
theorem IsS93.drew {w0 W : World} {g : Nat} {f0 : ByteArray} {f1 : Int} {f2 : ByteArray} (h : IsS93 w0 W g f0 f1 f2) : IsS93 w0 W.drew g f0 f1 f2 := h
theorem IsS93.at_ {w0 W : World} {g : Nat} {f0 : ByteArray} {f1 : Int} {f2 : ByteArray} {w' : World} {m : Nat} (hq : W.drewN m = w') (h : IsS93 w0 W g f0 f1 f2) : IsS93 w0 w' g f0 f1 f2 := by subst hq; exact IsS93.drewN h m
theorem IsS93.apart {w0 W : World} {g : Nat} {f0 : ByteArray} {f1 : Int} {f2 : ByteArray} {α : Type} {d : Kd α} {e : Nat} {base : Nat} {ok : Nat → Prop} {v : Value} {xs : List α} (h : IsS93 w0 W g f0 f1 f2) (ho : d.R e W base ok v xs) (ht : ∀ q, q ∈ e :: d.E → q ≠ 93) : d.R e W base (fun k => ok k ∧ k ≠ g) v xs := by
  obtain ⟨hb, hg⟩ := h
  exact Kd.R_types ho hb ht
theorem IsS93.own_ne {w0 W : World} {g : Nat} {f0 : ByteArray} {f1 : Int} {f2 : ByteArray} {α : Type} {d : Kd α} {e : Nat} {base : Nat} {ok : Nat → Prop} {v : Value} {xs : List α} (h : IsS93 w0 W g f0 f1 f2) (ho : d.R e W base ok v xs) (ht : e ≠ 93) : some g ≠ v.ownBlock := by
  obtain ⟨hb, hg⟩ := h
  exact Kd.R_ne ho hb ht
theorem IsS93.lt {w0 W : World} {g : Nat} {f0 : ByteArray} {f1 : Int} {f2 : ByteArray} (h : IsS93 w0 W g f0 f1 f2) : g < W.heap.size := by
  obtain ⟨hb, hg⟩ := h
  exact blk_lt hb
theorem IsS93.ge {w0 W : World} {g : Nat} {f0 : ByteArray} {f1 : Int} {f2 : ByteArray} (h : IsS93 w0 W g f0 f1 f2) : w0.heap.size ≤ g := by
  obtain ⟨hb, hg⟩ := h
  exact hg
theorem IsS93.ne_blk {w0 W : World} {g : Nat} {f0 : ByteArray} {f1 : Int} {f2 : ByteArray} {a : Nat} {cs : Array Value} {t : TypeId} {fr : Nat × Nat} (h : IsS93 w0 W g f0 f1 f2) (hb2 : W.heap[a]? = some (.cells cs t fr)) (ht : t ≠ 93) : g ≠ a := by
  obtain ⟨hb, hg⟩ := h
  rintro rfl
  rw [hb] at hb2
  injection hb2 with hb2
  injection hb2 with _ ht2
  exact ht ht2.symm
theorem IsS93.far {w0 W : World} {g : Nat} {f0 : ByteArray} {f1 : Int} {f2 : ByteArray} {p : Addr} (h : IsS93 w0 W g f0 f1 f2) (hne : g ≠ p.block) (u : Value) : IsS93 w0 (W.setCell p u) g f0 f1 f2 := by
  obtain ⟨hb, hg⟩ := h
  exact ⟨blk_far hb hne u, hg⟩
theorem IsS93.set_0 {w0 W : World} {g : Nat} {f0 : ByteArray} {f1 : Int} {f2 : ByteArray} (h : IsS93 w0 W g f0 f1 f2) (x : ByteArray) : IsS93 w0 (W.setCell ⟨g, 0, none⟩ (.string x)) g x f1 f2 := by
  obtain ⟨hb, hg⟩ := h
  exact ⟨by simpa using blk_set hb 0 (.string x), hg⟩
theorem IsS93.set_1 {w0 W : World} {g : Nat} {f0 : ByteArray} {f1 : Int} {f2 : ByteArray} (h : IsS93 w0 W g f0 f1 f2) (x : Int) : IsS93 w0 (W.setCell ⟨g, 1, none⟩ (.int .i64 x)) g f0 x f2 := by
  obtain ⟨hb, hg⟩ := h
  exact ⟨by simpa using blk_set hb 1 (.int .i64 x), hg⟩
theorem IsS93.set_2 {w0 W : World} {g : Nat} {f0 : ByteArray} {f1 : Int} {f2 : ByteArray} (h : IsS93 w0 W g f0 f1 f2) (x : ByteArray) : IsS93 w0 (W.setCell ⟨g, 2, none⟩ (.string x)) g f0 f1 x := by
  obtain ⟨hb, hg⟩ := h
  exact ⟨by simpa using blk_set hb 2 (.string x), hg⟩
/-! ### prng_New: function 50 -/
def prng_New.f (a0 : ByteArray) : Option (ByteArray × Int × ByteArray) := if a0.size ≤ 64 then some (a0, 0, ⟨#[]⟩) else none
set_option maxHeartbeats 8000000 in
set_option maxRecDepth 100000 in
theorem prng_New.calls (a0 : ByteArray) (r1 : ByteArray) (r2 : Int) (r3 : ByteArray) (w0 w : World) (hB : Below w0.heap.size w0 w) (h : prng_New.f a0 = some (r1, r2, r3)) :
    Calls Tryz.prog 50 #[.string a0] w fun e w' => ∃ g_ : Nat, e = .returned (.pointer (some ⟨g_, 0, none⟩)) ∧ IsS93 w0 w' g_ r1 r2 r3 ∧ Below w0.heap.size w0 w' ∧ Below w.heap.size w w' := by
  unfold prng_New.f at h
  split at h
  rotate_left
  · cases h
  rename_i hs
  have h := Option.some.inj h
  simp only [Prod.mk.injEq] at h
  obtain ⟨rfl, rfl, rfl⟩ := h
  have hz : ¬ (64 : Int) < (a0.size : Int) := by omega
  have HB := Aside0.mk hB
  clear hB hs
  go_enter Tryz.func50, Tryz.ntmps50
  go_wp2
  go_ret
  exact ⟨w.heap.size, rfl, ⟨heap_alloc_new _ _, HB.out.size⟩, below_alloc HB.out _, below_alloc (Below.refl _ _) _⟩
/-! ### oct_To: function 67 -/
theorem oct_To.wr (w : World) :
    Calls Tryz.prog 67 #[] w fun e w' => e = .returned (.pointer (some ⟨w.heap.size, 0, none⟩)) ∧ IsWr 124 5 w.heap.size w.heap.size (.slice none 0 0) ⟨#[]⟩ 0 w' ∧ Below w.heap.size w w' ∧ w'.heap.size = w.heap.size + 1 := by
  go_enter Tryz.func67, Tryz.ntmps67
  go_wp2
  go_ret
  refine ⟨rfl, ⟨.pointer none, .inl rfl, Nat.le_refl _, ?_, ?_, ?_⟩, below_alloc (Below.refl _ _) _, by simp⟩
  · exact heap_alloc_new w _
  · exact ⟨rfl, .inl ⟨rfl, rfl⟩⟩
  · simp [Value.ownBlock]
/-! ### strings_Builder_copyCheck: function 107 -/
set_option maxHeartbeats 1000000 in
set_option maxRecDepth 100000 in
theorem strings_Builder_copyCheck.used (B g : Nat) (v : Value) (s : ByteArray) (er : Int) (w : World) (h : WrAt 124 5 B g (.pointer (some ⟨g, 0, none⟩)) v s er w) :
    Calls Tryz.prog 107 #[.pointer (some ⟨g, 0, none⟩)] w fun e w' => e = .returned (.tuple #[]) ∧ w' = w := by
  obtain ⟨j, hj, hjs⟩ := Option.map_eq_some_iff.1 (show (Tryz.prog.info? 115).map (·.size) = some 2 by kernel_rfl)
  have h0 := h.cell0
  go_enter Tryz.func107, Tryz.ntmps107
  go_wp2
  rw [Lib.run_neq_ptr_same w _ Tryz.underlying113 hj]
  go_wp2
  go_end0
  exact ⟨rfl, rfl⟩
set_option maxHeartbeats 1000000 in
set_option maxRecDepth 100000 in
theorem strings_Builder_copyCheck.fresh (B g : Nat) (v : Value) (s : ByteArray) (er : Int) (w : World) (h : WrAt 124 5 B g (.pointer none) v s er w) :
    Calls Tryz.prog 107 #[.pointer (some ⟨g, 0, none⟩)] w fun e w' => e = .returned (.tuple #[]) ∧ w' = w.setCell ⟨g, 0, none⟩ (.pointer (some ⟨g, 0, none⟩)) := by
  obtain ⟨j, hj, hjs⟩ := Option.map_eq_some_iff.1 (show (Tryz.prog.info? 115).map (·.size) = some 2 by kernel_rfl)
  have h0 := h.cell0
  have hsh := h.shape
  have hfz := h.frozen 0
  go_enter Tryz.func107, Tryz.ntmps107
  go_wp2
  rw [Lib.run_to_unsafe w ⟨g, 0, none⟩ Tryz.underlying113 Tryz.underlying153 hj (by rw [hjs]; decide) hsh (Nat.zero_lt_succ 2)]
  simp only [Result.andThen]
  rw [Oper.upon_value]
  go_wp2
  rw [run_callFunc_extern Tryz.func118 (by kernel_rfl) (by kernel_rfl) (by kernel_rfl) (e := Extern.AbiNoEscape.same) (by kernel_rfl)]
  rw [Lib.run_noEscape]
  simp only [Result.andThen]
  rw [Oper.upon_value]
  go_wp2
  rw [Lib.run_from_unsafe w ⟨g, 0, none⟩ Tryz.underlying153 Tryz.underlying113 hj hsh (by kernel_rfl)]
  simp only [Result.andThen]
  rw [Oper.upon_value]
  go_wp2
  go_end0
  exact ⟨rfl, rfl⟩
theorem strings_Builder_copyCheck.wr (B g : Nat) (p v : Value) (s : ByteArray) (er : Int) (w : World) (hp : p = .pointer none ∨ p = .pointer (some ⟨g, 0, none⟩)) (h : WrAt 124 5 B g p v s er w) :
    Calls Tryz.prog 107 #[.pointer (some ⟨g, 0, none⟩)] w fun e w' => e = .returned (.tuple #[]) ∧ WrAt 124 5 B g (.pointer (some ⟨g, 0, none⟩)) v s er w' ∧ Below B w w' ∧ Kept w w' (fun k => k = g) := by
  rcases hp with rfl | rfl
  · refine (strings_Builder_copyCheck.fresh B g v s er w h).mono ?_
    rintro e w' ⟨rfl, rfl⟩
    refine ⟨rfl, h.set0 _, (Below.refl _ _).setCell h.ge _, by simp [World.setCell], fun i hi hn => ?_⟩
    exact Below.heap_setCell _ _ _ _ hn
  · refine (strings_Builder_copyCheck.used B g v s er w h).mono ?_
    rintro e w' ⟨rfl, rfl⟩
    exact ⟨rfl, h, Below.refl _ _, Nat.le_refl _, fun _ _ _ => rfl⟩
/-! ### strings_Builder_WriteString: function 83 -/
set_option maxHeartbeats 2000000 in
set_option maxRecDepth 100000 in
theorem strings_Builder_WriteString.wr (B g : Nat) (p v : Value) (s t : ByteArray) (er : Int) (w : World) (hp : p = .pointer none ∨ p = .pointer (some ⟨g, 0, none⟩)) (h : WrAt 124 5 B g p v s er w) (hlen : s.size + t.size ≤ 140737488355328) (hBw : B ≤ w.heap.size) :
    Calls Tryz.prog 83 #[.pointer (some ⟨g, 0, none⟩), .string t] w fun e w' => e = .returned (.tuple #[.int .i64 t.size, .nilIface]) ∧ WrStep 124 5 B g v (s ++ t) er w w' := by
  obtain ⟨i0, hi, hz0, hz1, hz2⟩ := info_parts info5
  go_enter Tryz.func83, Tryz.ntmps83
  go_wp2_with (go_at_call 107; refine (strings_Builder_copyCheck.wr B g p v s er _ hp h).mono ?_)
  rintro e w1 ⟨rfl, h1, hb1, hk1⟩
  have c0 := h1.cell0
  have c1 := h1.cell1
  have hlt := h1.lt
  have hown := h1.2.2.1
  have hne := h1.2.2.2
  go_wp2_with (at_builtin; refine Lib.wpList_append_own_stringF _ rfl _ _ 90 9 rfl B 5 i0 Tryz.underlying90 Tryz.underlying9 hi hz0 hz1 hz2 _ _ _ rfl hown t rfl ?c3 ?c4 ?c5 ?_)
  case c3 => unfold maxLen; omega
  case c4 => omega
  case c5 => have := hb1.size; omega
  intro v' w2 hown' hgrow _
  have hsz := hb1.size
  have hb2 : w2.heap[g]? = some (.cells #[.pointer (some ⟨g, 0, none⟩), v, .int .i64 er] 124 (0, 0)) := by
    rw [hgrow.block g hlt (fun e => hne e.symm)]
    exact h1.2.1
  have d0 : w2.cell? ⟨g, 0, none⟩ = some (.pointer (some ⟨g, 0, none⟩)) := by rw [Lib.cell_of_heap hb2]; rfl
  have d1 : w2.cell? ⟨g, 1, none⟩ = some v := by rw [Lib.cell_of_heap hb2]; rfl
  have f1 : w2.frozen? ⟨g, 1, none⟩ = false := Lib.frozen_of_heap hb2 1
  obtain ⟨ao, n', cap, rfl⟩ : ∃ ao n' cap, v' = .slice ao n' cap := by
    rcases hown'.2 with ⟨hv, _⟩ | ⟨g, cap, cur, fz, hv, _⟩
    · exact ⟨_, _, _, hv⟩
    · exact ⟨_, _, _, hv⟩
  have hstr : Lib.strCells s ++ Lib.strCells t = Lib.strCells (s ++ t) := by simp [Lib.strCells, ByteArray.data_append]
  have hsize : s.size + t.size = (s ++ t).size := by rw [ByteArray.size_append]
  rw [hstr, hsize] at hown'
  have HW := Aside0.mk (WrAt.set1 (T := 124) (e := 5) h1.ge hb2 hown' (by decide))
  have HB : Aside0 (Below B w (w2.setCell ⟨g, 1, none⟩ (.slice ao n' cap))) := ⟨(hb1.grown hgrow (by omega) (fun k hk => (hown.lt k hk).1)).setCell (p := ⟨g, 1, none⟩) h1.ge _⟩
  have HK : Aside0 (Kept w (w2.setCell ⟨g, 1, none⟩ (.slice ao n' cap)) (fun k => k = g ∨ v.ownBlock = some k)) := by
    refine ⟨by have := hgrow.size; simp [World.setCell]; omega, fun i hi hn => ?_⟩
    have hig : i ≠ g := fun e => hn (.inl e)
    have hiv : some i ≠ v.ownBlock := fun e => hn (.inr e.symm)
    rw [Below.heap_setCell _ _ _ _ hig, hgrow.block i (by omega) hiv, hk1.2 i hi hig]
  clear hb1 hk1 hown hown' hgrow hb2 hstr hsize h1 h
  go_wp2
  go_ret2
  exact ⟨rfl, _, ⟨_, .inr rfl, HW.out⟩, HB.out, HK.out⟩
/-! ### strings_Builder_Len: function 84 -/
set_option maxHeartbeats 1000000 in
theorem strings_Builder_Len.wr (B g : Nat) (p v : Value) (s : ByteArray) (er : Int) (w : World) (h : WrAt 124 5 B g p v s er w) :
    Calls Tryz.prog 84 #[.pointer (some ⟨g, 0, none⟩)] w fun e w' => e = .returned (.int .i64 s.size) ∧ w' = w := by
  have c1 := h.cell1
  obtain ⟨ao, c, hv⟩ : ∃ ao c, v = .slice ao s.size c := by
    rcases h.2.2.1.2 with ⟨hv, hn⟩ | ⟨g', cap, cur, fz, hv, _⟩
    · exact ⟨none, 0, by rw [hv, hn]⟩
    · exact ⟨_, _, hv⟩
  rw [hv] at c1
  clear hv
  go_enter Tryz.func84, Tryz.ntmps84
  go_wp2
  go_ret
  exact ⟨rfl, rfl⟩
/-! ### oct_Writer_put: function 86 -/
set_option maxHeartbeats 1000000 in
theorem oct_Writer_put.wr (B g : Nat) (v : Value) (s t : ByteArray) (er f : Int) (w : World) (h : IsWr 124 5 B g v s er w) (hs : s.size ≤ 65536) (ht : t.size ≤ 140737488289000) (hBw : B ≤ w.heap.size) :
    Calls Tryz.prog 86 #[.pointer (some ⟨g, 0, none⟩), .string t, .int .i64 f] w fun e w' => e = .returned (.tuple #[]) ∧ WrStep 124 5 B g v (putS s er t f).1 (putS s er t f).2 w w' := by
  obtain ⟨p, hp, h⟩ := h
  have c2 := h.cell2
  have HW := Aside0.mk h
  have hnop : Aside0 (WrStep 124 5 B g v s er w w) := ⟨v, ⟨p, hp, h⟩, Below.refl _ _, Kept.refl _ _⟩
  unfold putS
  by_cases h1 : er = 0
  · subst h1
    rw [if_pos rfl]
    by_cases h2 : f = 0
    · subst h2
      rw [if_pos rfl]
      have HLEN := Aside0.mk (strings_Builder_Len.wr B g p v s 0 w h)
      by_cases h3 : (t.size : Int) > 65536 - (s.size : Int)
      · rw [if_pos h3]
        have h3' : 65536 - (s.size : Int) < (t.size : Int) := h3
        have hf := h.frozen 2
        have HR : Aside0 (WrStep 124 5 B g v s 2 w (w.setCell ⟨g, 2, none⟩ (.int .i64 2))) := by
          refine ⟨v, ⟨p, hp, h.set2 2⟩, (Below.refl _ _).setCell h.ge _, by simp [World.setCell], fun i hi hn => ?_⟩
          exact Below.heap_setCell _ _ _ _ (fun e => hn (.inl e))
        clear h hnop h3
        go_enter Tryz.func86, Tryz.ntmps86
        go_wp2_with (go_at_call 84; refine HLEN.out.mono ?_; rintro e w' ⟨rfl, rfl⟩)
        go_end0
        exact ⟨rfl, HR.out⟩
      · rw [if_neg h3]
        have h3' : ¬ (65536 - (s.size : Int) < (t.size : Int)) := h3
        have HWS := Aside0.mk (strings_Builder_WriteString.wr B g p v s t 0 w hp h (by omega) hBw)
        clear h hnop h3
        go_enter Tryz.func86, Tryz.ntmps86
        go_wp2_with (first | (go_at_call 84; refine HLEN.out.mono ?_; rintro e w' ⟨rfl, rfl⟩) | (go_at_call 83; refine HWS.out.mono ?_; rintro e w' ⟨rfl, HS⟩; have HSS := Aside0.mk HS; clear HS))
        go_end0
        exact ⟨rfl, HSS.out⟩
    · rw [if_neg h2]
      have t1 : (f == 0) = false := beq_eq_false_iff_ne.mpr h2
      have t2 : (f != 0) = true := bne_iff_ne.mpr h2
      have hf := h.frozen 2
      have HR : Aside0 (WrStep 124 5 B g v s f w (w.setCell ⟨g, 2, none⟩ (.int .i64 f))) := by
        refine ⟨v, ⟨p, hp, h.set2 f⟩, (Below.refl _ _).setCell h.ge _, by simp [World.setCell], fun i hi hn => ?_⟩
        exact Below.heap_setCell _ _ _ _ (fun e => hn (.inl e))
      clear h hnop h2
      go_enter Tryz.func86, Tryz.ntmps86
      go_wp2
      go_end0
      exact ⟨rfl, HR.out⟩
  · rw [if_neg h1]
    have t1 : (er == 0) = false := beq_eq_false_iff_ne.mpr h1
    have t2 : (er != 0) = true := bne_iff_ne.mpr h1
    clear h h1
    go_enter Tryz.func86, Tryz.ntmps86
    go_wp2
    go_end0
    exact ⟨rfl, hnop.out⟩
/-! ### oct_Writer_Raw: function 68 -/
theorem oct_Writer_Raw.wr (B g : Nat) (v : Value) (s t : ByteArray) (er : Int) (w : World) (h : IsWr 124 5 B g v s er w) (hs : s.size ≤ 65536) (ht : t.size ≤ 140737488289000) (hBw : B ≤ w.heap.size) :
    Calls Tryz.prog 68 #[.pointer (some ⟨g, 0, none⟩), .string t] w fun e w' => e = .returned (.tuple #[]) ∧ WrStep 124 5 B g v (putS s er t 0).1 (putS s er t 0).2 w w' := by
  have HP := Aside0.mk (oct_Writer_put.wr B g v s t er 0 w h hs ht hBw)
  clear h
  go_enter Tryz.func68, Tryz.ntmps68
  go_wp2_with (go_at_call 86; refine HP.out.mono ?_; rintro e w' ⟨rfl, HS⟩; have HSS := Aside0.mk HS; clear HS)
  go_end0
  exact ⟨rfl, HSS.out⟩
theorem oct_Writer_Raw.nil (t : ByteArray) (w : World) : Calls Tryz.prog 68 #[.pointer none, .string t] w fun e w' => e = .returned (.tuple #[]) ∧ w' = w := by
  go_enter Tryz.func68, Tryz.ntmps68
  go_wp2
  go_end0
  exact ⟨rfl, rfl⟩
end Go.Proofs.YtghhmnjkgnoogaaGreat.POuterWholes
