-- Written by this session's own program (wip/tools/mkprint.py) over the kit's printer, with overrides.
import Derived.Test.YtghhmnjkgnoogaaPOuterEachx0
import Derived.Test.YtghhmnjkgnoogaaPOuterEachx12
namespace Go.Proofs.Ytghhmnjkgnoogaa.POuterEach
open Go.RowKit Go.Mine Go.Proofs.YtghhmnjkgnoogaaW.PrintWords Go.Proofs.YtghhmnjkgnoogaaW.PrintLast Go.Proofs.YtghhmnjkgnoogaaW.PrintMore
attribute [local go_sem] max2_int min2_int max_two min_two max_three min_three max_four min_four   -- for this text's walks alone
set_option linter.unusedVariables false
set_option linter.unusedSimpArgs false

/-! ### block_Is: function 40 -/
def block_Is.f (a0 : ByteArray) (a1 : Int) : Option (Bool) := (block_may.f a1).bind fun t162 => (if t162 = true then (some ((a0.size : Int) == a1)) else (some false))
set_option maxHeartbeats 8000000 in
set_option maxRecDepth 100000 in
theorem block_Is.calls (a0 : ByteArray) (a1 : Int) (r : Bool) (w : World) (h : block_Is.f a0 a1 = some r) :
    Calls Try.prog 40 #[.string a0, .int .i64 a1] w fun e w' => e = .returned (.bool r) ∧ Drawn0 w w' := by
  have H : ((block_may.f a1).bind fun t162 => (if t162 = true then (some ((a0.size : Int) == a1)) else (some false))) = some r := h
  clear h
  replace H := Option.bind_eq_some_iff.mp H
  obtain ⟨t162, A30, H⟩ := H
  replace H : (if t162 = true then (some ((a0.size : Int) == a1)) else (some false)) = some r := H
  have A3 := Aside0.mk A30
  clear A30
  by_cases c4 : t162 = true
  · subst c4
    have H1 : (some ((a0.size : Int) == a1)) = some r := by rw [if_pos rfl] at H; exact H
    clear H
    have H := H1
    clear H1
    obtain rfl := Option.some.inj H
    go_enter Try.func40, Try.ntmps40
    go_wp2_with (first | ((with_reducible refine gate_callee (f := 43) rfl ?_); refine goesL_ (some 6) rfl rfl Try.func43 (by kernel_rfl) rfl #[.int .i64 a1] rfl (by (try simp only [List.map_toArray, List.map_cons, List.map_nil]); first | done | rfl | (simp only [List.length_drop, List.length_take]; rfl)) ?_; (with_reducible refine (block_may.calls a1 true _ A3.out).mono ?_); rintro e w' ⟨rfl, ⟨nd, rfl⟩⟩; refine ⟨_, rfl, ?_⟩))
    go_ret
    exact ⟨by first | rfl | (simp; done) | (simp [*]; done), by repeat (first | exact Drawn0.refl _ | apply Drawn0.step)⟩
  · replace c4 := Bool.eq_false_iff.mpr c4
    subst c4
    have H1 : (some false) = some r := by rw [if_neg (show ¬ (false = true) by decide)] at H; exact H
    clear H
    have H := H1
    clear H1
    obtain rfl := Option.some.inj H
    go_enter Try.func40, Try.ntmps40
    go_wp2_with (first | ((with_reducible refine gate_callee (f := 43) rfl ?_); refine goesL_ (some 6) rfl rfl Try.func43 (by kernel_rfl) rfl #[.int .i64 a1] rfl (by (try simp only [List.map_toArray, List.map_cons, List.map_nil]); first | done | rfl | (simp only [List.length_drop, List.length_take]; rfl)) ?_; (with_reducible refine (block_may.calls a1 false _ A3.out).mono ?_); rintro e w' ⟨rfl, ⟨nd, rfl⟩⟩; refine ⟨_, rfl, ?_⟩))
    go_ret
    exact ⟨by first | rfl | (simp; done) | (simp [*]; done), by repeat (first | exact Drawn0.refl _ | apply Drawn0.step)⟩

/-! ### outer_sized: function 21 -/
def outer_sized.okB (x : ByteArray) (n : Int) : Bool := (decide (1 ≤ n) && decide (n ≤ 64)) && ((x.size : Int) == n)
theorem outer_sized.is_ok (x : ByteArray) (n : Int) : block_Is.f x n = some (outer_sized.okB x n) := by
  unfold block_Is.f block_may.f outer_sized.okB
  by_cases h1 : n ≥ 1
  · have h1' : 1 ≤ n := h1
    rw [if_pos h1, Option.bind_some]
    by_cases h2 : n ≤ 64
    · simp [h1', h2]
    · simp [h1', h2]
  · have h1' : ¬ 1 ≤ n := h1
    rw [if_neg h1, Option.bind_some]
    simp [h1']
def outer_sized.f (l0 : List ByteArray) : Option Bool := if l0.length = 0 then some false else some (!(l0.any fun x => !(outer_sized.okB x ((l0.getD 0 ByteArray.empty).size : Int))))
theorem outer_sized.pred (s0 : ByteArray) (B : Nat) (ad : Addr) (n c : Nat) (hn : 0 < n) (w : World) (hB : B < w.heap.size) (hcell : w.cell? ⟨B, 0, none⟩ = some (.slice (some ad) n c)) (h0 : w.cell? ad = some (.string s0)) (W : World) (x : ByteArray) (hb : Below w.heap.size w W) :
    Calls Try.prog 39 (#[.string x] ++ #[.pointer (some ⟨B, 0, none⟩)]) W fun e w' => e = .returned (.bool (!(outer_sized.okB x (s0.size : Int)))) ∧ Drawn0 W w' := by
  have hc : W.cell? ⟨B, 0, none⟩ = some (.slice (some ad) n c) := (hb.cell (p := ⟨B, 0, none⟩) hB).trans hcell
  have hc0 : W.cell? ad = some (.string s0) := pw_cell_below hb h0
  clear hcell hB hb h0
  show Calls Try.prog 39 #[.string x, .pointer (some ⟨B, 0, none⟩)] W _
  have HI := Aside0.mk (outer_sized.is_ok x (s0.size : Int))
  have hnz : (0 : Int) < (n : Int) := by omega
  have had : ad.add 0 = ad := by simp [Addr.add]
  generalize outer_sized.okB x (s0.size : Int) = b at *
  go_enter Try.func39, Try.ntmps39
  go_wp2_with (go_at_call 40; refine (block_Is.calls _ _ _ _ HI.out).mono ?_; rintro e w' ⟨rfl, ⟨q, rfl⟩⟩)
  all_goals (go_ret; exact ⟨by first | rfl | (simp; done), ⟨q, rfl⟩⟩)
set_option maxHeartbeats 1000000 in
theorem outer_sized.calls (A0 : Option Addr) (c0 : Nat) (l0 : List ByteArray) (r : Bool) (w : World) (hr0 : Kd.C Kd.string w A0 l0.length l0) (hc0 : l0.length ≤ c0) (h : outer_sized.f l0 = some r) :
    Calls Try.prog 21 #[.slice A0 l0.length c0] w fun e w' => e = .returned (.bool r) ∧ Below w.heap.size w w' := by
  unfold outer_sized.f at h
  have HB : Aside0 (Below w.heap.size w (w.alloc (.cells #[.slice A0 l0.length c0] 34))) := ⟨below_alloc (Below.refl _ _) _⟩
  by_cases hl : l0.length = 0
  · rw [if_pos hl] at h
    have h := Option.some.inj h
    subst h
    have hz : ¬ (0 : Int) < (l0.length : Int) := by omega
    clear hr0 hc0 hl
    go_enter Try.func21, Try.ntmps21
    go_wp2_with fail
    go_ret
    exact ⟨by first | rfl | (simp; done), HB.out⟩
  rw [if_neg hl] at h
  have h := Option.some.inj h
  have HRES := Aside0.mk h
  obtain ⟨ad, e1, hcell⟩ := Kd.at_string hr0 0 (by omega) (by omega)
  subst e1
  have h0 : w.cell? ad = some (.string (l0.getD 0 ByteArray.empty)) := by
    have h9 := hcell
    simpa [rdOf, Addr.add] using h9
  have hbx : (w.alloc (.cells #[.slice (some ad) l0.length c0] 34)).cell? ⟨w.heap.size, 0, none⟩ = some (.slice (some ad) l0.length c0) := by simp
  have hin : w.heap.size < (w.alloc (.cells #[.slice (some ad) l0.length c0] 34)).heap.size := by simp
  have h0' := pw_cell_below HB.out h0
  have eg : ∀ args w, (callFunc 39 args).run Try.prog w = .ok (.enter 39 args) w := enters_of Try.func39 (by kernel_rfl) rfl
  have HC := Aside0.mk (slices_ContainsFunc_string_string.gives (fun x => !(outer_sized.okB x ((l0.getD 0 ByteArray.empty).size : Int))) 39 #[.pointer (some ⟨w.heap.size, 0, none⟩)] eg (some ad) c0 l0 (w.alloc (.cells #[.slice (some ad) l0.length c0] 34))
    (outer_sized.pred (l0.getD 0 ByteArray.empty) w.heap.size ad l0.length c0 (by omega) _ hin hbx h0') (Kd.C_below hr0 HB.out))
  have hz : (0 : Int) < (l0.length : Int) := by omega
  clear hr0 hc0 hl hcell h0 h0' eg hin h
  generalize l0.any (fun x => !(outer_sized.okB x ((l0.getD 0 ByteArray.empty).size : Int))) = ba at *
  go_enter Try.func21, Try.ntmps21
  go_wp2_with fail
  refine HC.out.mono ?_
  rintro e w' ⟨rfl, ⟨q2, rfl⟩⟩
  go_wp2_with fail
  go_ret
  have hr := HRES.out
  subst hr
  exact ⟨rfl, pw_below_drewN HB.out _⟩

/-! ### slices_Clone_string_string: function 22 -/
def slices_Clone_string_string.f (l0 : List ByteArray) : Option (List ByteArray) := if l0.length ≤ 1000000000 then some l0 else none
theorem slices_Clone_string_string.eqnilIn {P : Program} (w : World) (d : Nat) (t e : TypeId) (a : Option Addr) (n c n' c' : Nat) (h : P.underlying t = some (.slice e)) :
    (Op.equalIn (d + 1) t (.slice a n c) (.slice none n' c')).run P w = .ok a.isNone w := by
  cases a <;> simp [Op.equalIn, run_underlying h]
theorem slices_Clone_string_string.eqnil {P : Program} (w : World) (t e : TypeId) (a : Option Addr) (n c n' c' : Nat) (h : P.underlying t = some (.slice e)) :
    (binOp .eql t (.slice a n c) (.slice none n' c')).run P w = .ok (.bool a.isNone) w := by
  simp only [binOp]
  simp [Op.equal, Op.maxDepth, slices_Clone_string_string.eqnilIn w 9999 t e a n c n' c' h]
set_option maxHeartbeats 1000000 in
theorem slices_Clone_string_string.calls (A0 : Option Addr) (c0 : Nat) (l0 : List ByteArray) (r : List ByteArray) (w : World) (hr0 : Kd.C Kd.string w A0 l0.length l0) (hc0 : l0.length ≤ c0) (h : slices_Clone_string_string.f l0 = some r) :
    Calls Try.prog 22 #[.slice A0 l0.length c0] w fun e w' => ∃ v0_ : Value, e = .returned v0_ ∧ Kd.R Kd.string 9 w' w.heap.size (fun _ => True) v0_ r ∧ Below w.heap.size w w' := by
  unfold slices_Clone_string_string.f at h
  split at h
  rotate_left
  · cases h
  rename_i hl
  have h := Option.some.inj h
  subst h
  have q24 : ∀ (w : World) (a : Option Addr) (n c n' c' : Nat), (binOp .eql 34 (.slice a n c) (.slice none n' c')).run Try.prog w = .ok (.bool a.isNone) w := fun w a n c n' c' => slices_Clone_string_string.eqnil w _ _ a n c n' c' Try.underlying34
  cases A0 with
  | none =>
    have hnil : l0 = [] := by
      cases l0 with
      | nil => rfl
      | cons x l => obtain ⟨ad, he, _⟩ := hr0.2.2 (by simp); cases he
    subst hnil
    clear hr0 hc0 hl
    go_enter Try.func22, Try.ntmps22
    go_wp2_with fail
    go_ret
    exact ⟨_, rfl, Kd.R_nil _ _ _ _ _, Below.refl _ _⟩
  | some ad =>
    have HL := Aside0.mk hl
    have HR : Aside0 (Kd.C Kd.string (w.alloc (.cells #[] 9)) (some ad) l0.length l0) := ⟨Kd.C_below hr0 (below_alloc (Below.refl _ _) _)⟩
    have HB : Aside0 (Below w.heap.size w (w.alloc (.cells #[] 9))) := ⟨below_alloc (Below.refl _ _) _⟩
    have HO : Aside0 (Kd.R Kd.string 9 (w.alloc (.cells #[] 9)) w.heap.size (fun _ => True) (.slice (some ⟨w.heap.size, 0, none⟩) 0 0) ([] : List ByteArray)) :=
      ⟨Kd.R_of_own (enc := Value.string) (h1 := fun _ => rfl) (xs := []) ⟨rfl, Or.inr ⟨w.heap.size, 0, #[], rfl, Nat.le_refl _, heap_alloc_new _ _, Nat.le_refl _, by decide, rfl, rfl⟩⟩ (fun _ _ => trivial)⟩
    clear hr0 hc0 hl
    go_enter Try.func22, Try.ntmps22
    go_wp2_with ((with_reducible refine gate_builtin (b := .append) (xs := #[.tmp 5, .tmp 6]) rfl ?_); at_builtin; refine Kd.R_append_rows Kd.string (w0 := w) w.heap.size rfl (.tmp 5) (.tmp 6) 34 9 (.string ⟨#[]⟩) 16 rfl Try.underlying34 info9 rfl (by decide) (by decide) (.slice (some ⟨w.heap.size, 0, none⟩) 0 0) [] l0 (some ad) l0.length c0 (fun _ => True) (fun _ => False) rfl rfl HO.out HR.out (fun _ _ h => h) (fun _ h => h.elim) (fun _ _ => trivial) HB.out ?a1 ?a2 ?_; (case a1 => exact HB.out.size); (case a2 => have := HL.out; simp only [List.length_nil]; omega); intro v1 w1 ho1 hb1 hg1 hat1; have HO1 := Aside0.mk ho1; have HB1 := Aside0.mk hb1; clear ho1 hb1 hg1 hat1)
    try go_wp2_with fail
    go_ret
    exact ⟨_, rfl, by have h := HO1.out; rw [List.nil_append] at h; exact h, HB1.out⟩

/-! ### block_add: function 28 -/
set_option maxHeartbeats 1000000 in
theorem block_add.row (B g c n : Nat) (xs : List Int) (b : ByteArray) (w : World) (h : ByteRow 5 w g xs) (hn : xs.length = n) (hb : n ≤ b.size) (hB : B ≤ g) (hz : n ≤ 140737488351232) :
    Calls Try.prog 28 #[.slice (some ⟨g, 0, none⟩) n c, .string b] w fun e w' => e = .returned (.tuple #[]) ∧ ByteRow 5 w' g (bothB .xor xs (bytesI b) n) ∧ Below B w w' := by
  have HROW := Aside0.mk h
  have HN := Aside0.mk hn
  have HS := Aside0.mk hb
  have HBG := Aside0.mk hB
  clear h hn hb hB
  go_enter Try.func28, Try.ntmps28
  go_wp2_with fail
  go_loopw [4, 7] (fun _ v7 wr => ∃ k : Nat, k ≤ n ∧ v7 = .int .i64 k ∧ Aside0 (ByteRow 5 wr g (bothB .xor xs (bytesI b) k)) ∧ Aside0 (Below B w wr)) (fun _ v7 _ => n - (intOf v7).toNat)
  case atStart => exact ⟨0, Nat.zero_le _, rfl, HROW, ⟨Below.refl _ _⟩⟩
  case round =>
    obtain ⟨k, hk, rfl, HROW2, HB2⟩ := hrel
    clear HROW
    by_cases hlt : k < n
    · have hltz : (k : Int) < (n : Int) := by omega
      have hlt1 : k < b.size := by have := HS.out; omega
      have hlt1z : (k : Int) < (b.size : Int) := by omega
      have hlen : (bothB .xor xs (bytesI b) k).length = n := by rw [bothB_length, HN.out]
      have hcell := HROW2.out.cell k (by omega)
      have hfr := HROW2.out.frozen k (by omega)
      have hset := HROW2.out.set k (by omega) (Go.bits .xor .u8 ((bothB .xor xs (bytesI b) k).getD k 0) ((bytesI b).getD k 0))
      have hst : bothB .xor xs (bytesI b) (k + 1) = (bothB .xor xs (bytesI b) k).set k (Go.bits .xor .u8 ((bothB .xor xs (bytesI b) k).getD k 0) ((bytesI b).getD k 0)) := rfl
      rw [← hst, bytesI_getD b k hlt1] at hset
      have HSET := Aside0.mk hset
      clear hset hst hlen
      generalize (bothB .xor xs (bytesI b) k).getD k 0 = x at *
      go_wp2_with fail
      go_region
      all_goals
        go_wp2
        go_roundw
        case rel => exact ⟨k + 1, by omega, by go_num, ⟨HSET.out.drew⟩, ⟨(HB2.out.setCell HBG.out _).drew⟩⟩
        case measure => simp [intOf]; omega
    · have hltz : ¬ (k : Int) < (n : Int) := by omega
      have hkk : k = n := by omega
      subst hkk
      go_wp2
      first | go_end0 | ((try simp only [Exit.inBlock, Exit.then]); refine bodyPost_ret (results_none rfl _ _ _) rfl ?_)
      exact ⟨rfl, HROW2.out, HB2.out⟩

/-! ### block_Sum: function 41 -/
def block_Sum.go (n : Nat) : List Int → List ByteArray → List Int
  | x, [] => x
  | x, s :: l => block_Sum.go n (bothB .xor x (bytesI s) n) l
def block_Sum.f (l0 : List ByteArray) (a1 : Int) : Option (ByteArray × Int) :=
  (block_may.f a1).bind fun b => if b = true then (if a1 < 0 ∨ 1000000 < a1 then none else if l0.any (fun s => !((s.size : Int) == a1)) = true then some (⟨#[]⟩, 1) else some (strOfNums (block_Sum.go a1.toNat (List.replicate a1.toNat 0) l0), 0)) else some (⟨#[]⟩, 1)
theorem block_Sum.pred (n : Int) (B : Nat) (w : World) (hB : B < w.heap.size) (hcell : w.cell? ⟨B, 0, none⟩ = some (.int .i64 n)) (W : World) (x : ByteArray) (hb : Below w.heap.size w W) :
    Calls Try.prog 55 (#[.string x] ++ #[.pointer (some ⟨B, 0, none⟩)]) W fun e w' => e = .returned (.bool (!((x.size : Int) == n))) ∧ Drawn0 W w' := by
  have hc : W.cell? ⟨B, 0, none⟩ = some (.int .i64 n) := (hb.cell (p := ⟨B, 0, none⟩) hB).trans hcell
  clear hcell hB hb
  show Calls Try.prog 55 #[.string x, .pointer (some ⟨B, 0, none⟩)] W _
  go_enter Try.func55, Try.ntmps55
  go_wp2
  all_goals (go_ret; exact ⟨by first | rfl | (simp; done), ⟨0, rfl⟩⟩)
set_option maxHeartbeats 1000000 in
theorem block_Sum.calls (A0 : Option Addr) (c0 : Nat) (l0 : List ByteArray) (a1 : Int) (r1 : ByteArray) (r2 : Int) (w : World) (hr0 : Kd.C Kd.string w A0 l0.length l0) (hc0 : l0.length ≤ c0) (h : block_Sum.f l0 a1 = some (r1, r2)) :
    Calls Try.prog 41 #[.slice A0 l0.length c0, .int .i64 a1] w fun e w' => e = .returned (.tuple #[.string r1, .int .i64 r2]) ∧ Below w.heap.size w w' := by
  have HB : Aside0 (Below w.heap.size w (w.alloc (.cells #[.int .i64 a1] 3))) := ⟨below_alloc (Below.refl _ _) _⟩
  have HR := Aside0.mk (Kd.C_below hr0 HB.out)
  have hbx : (w.alloc (.cells #[.int .i64 a1] 3)).cell? ⟨w.heap.size, 0, none⟩ = some (.int .i64 a1) := by simp
  have HX := Aside0.mk hbx
  have hin : w.heap.size < (w.alloc (.cells #[.int .i64 a1] 3)).heap.size := by simp
  have HIN := Aside0.mk hin
  have eg : ∀ args w, (callFunc 55 args).run Try.prog w = .ok (.enter 55 args) w := enters_of Try.func55 (by kernel_rfl) rfl
  unfold block_Sum.f at h
  obtain ⟨bm, hm, h⟩ := Option.bind_eq_some_iff.mp h
  have HM := Aside0.mk hm
  have hlen := hr0.2.1
  have HR00 := Aside0.mk hr0
  clear hr0 hm hbx hin
  have HH := Aside0.mk h
  clear h
  go_enter Try.func41, Try.ntmps41
  go_wp2_with fail
  refine (block_may.calls _ _ _ HM.out).mono ?_
  rintro e w' ⟨rfl, ⟨q1, rfl⟩⟩
  have hin1 : w.heap.size < ((w.alloc (.cells #[.int .i64 a1] 3)).drewN q1).heap.size := HIN.out
  have hbx1 : ((w.alloc (.cells #[.int .i64 a1] 3)).drewN q1).cell? ⟨w.heap.size, 0, none⟩ = some (.int .i64 a1) := HX.out
  have HC := slices_ContainsFunc_string_string.gives (fun s => !((s.size : Int) == a1)) 55 #[.pointer (some ⟨w.heap.size, 0, none⟩)] eg A0 c0 l0 ((w.alloc (.cells #[.int .i64 a1] 3)).drewN q1)
    (block_Sum.pred a1 w.heap.size _ hin1 hbx1) (Kd.C_below HR.out (pw_below_drewN (Below.refl _ _) _))
  clear hin1 hbx1 eg
  generalize hw1 : (w.alloc (.cells #[.int .i64 a1] 3)).drewN q1 = w1 at *
  have HB1 : Aside0 (Below w.heap.size w w1) := ⟨by rw [← hw1]; exact pw_below_drewN HB.out _⟩
  have HX1 : w1.cell? ⟨w.heap.size, 0, none⟩ = some (.int .i64 a1) := by rw [← hw1]; exact HX.out
  have HRR : Aside0 (Kd.C Kd.string w1 A0 l0.length l0) := ⟨by rw [← hw1]; exact Kd.C_below HR.out (pw_below_drewN (Below.refl _ _) _)⟩
  have hsz : w.heap.size < w1.heap.size := by rw [← hw1]; exact HIN.out
  clear hw1 HB HR HX HIN HM
  cases bm with
  | false =>
    have H := HH.out
    simp only [if_neg (show ¬ (false = true) by decide), Option.some.injEq, Prod.mk.injEq] at H
    obtain ⟨rfl, rfl⟩ := H
    clear HC HH
    go_wp2
    go_ret2
    exact ⟨rfl, HB1.out⟩
  | true =>
    have H := HH.out
    rw [if_pos rfl] at H
    clear HH
    split at H
    · cases H
    rename_i hbnd
    generalize hba : l0.any (fun s => !((s.size : Int) == a1)) = ba at *
    have HANY := Aside0.mk hba
    clear hba
    have HH := Aside0.mk H
    clear H
    go_wp2_with fail
    refine HC.mono ?_
    rintro e w' ⟨rfl, ⟨q2, rfl⟩⟩
    have hsz2 : w.heap.size < (w1.drewN q2).heap.size := hsz
    have HB2 : Aside0 (Below w.heap.size w (w1.drewN q2)) := ⟨pw_below_drewN HB1.out _⟩
    have HX2 : (w1.drewN q2).cell? ⟨w.heap.size, 0, none⟩ = some (.int .i64 a1) := HX1
    have HRR2 : Aside0 (Kd.C Kd.string (w1.drewN q2) A0 l0.length l0) := ⟨Kd.C_below HRR.out (pw_below_drewN (Below.refl _ _) _)⟩
    clear HX1 HB1 HRR hsz
    generalize w1.drewN q2 = w2 at *
    cases ba with
    | true =>
      have H := HH.out
      rw [if_pos rfl] at H
      simp only [Option.some.injEq, Prod.mk.injEq] at H
      obtain ⟨rfl, rfl⟩ := H
      clear HH
      go_wp2
      go_ret2
      exact ⟨rfl, HB2.out⟩
    | false =>
      have H := HH.out
      rw [if_neg (show ¬ (false = true) by decide)] at H
      simp only [Option.some.injEq, Prod.mk.injEq] at H
      obtain ⟨H, rfl⟩ := H
      clear HH
      have HR1 := Aside0.mk H
      clear H
      obtain ⟨n, rfl⟩ : ∃ n : Nat, a1 = n := ⟨a1.toNat, by omega⟩
      rw [Int.toNat_natCast] at HR1
      have hmk := print_make_int (P := Try.prog) 39 5 (.int .u8 0) 1 Try.underlying39 info5 rfl (by decide) (n : Int) (by omega) (by rw [Int.toNat_natCast]; omega) w2
      rw [Int.toNat_natCast] at hmk
      go_wp2_with fail
      have hrow := ByteRow.made 5 w2 n
      have HROW := Aside0.mk hrow
      have HG : Aside0 (w.heap.size ≤ w2.heap.size) := ⟨HB2.out.size⟩
      have HB3 : Aside0 (Below w.heap.size w (w2.alloc (.cells (madeCells #[.int .u8 0] n) 5))) := ⟨HB2.out.alloc HG.out _⟩
      have HRR3 : Aside0 (Kd.C Kd.string (w2.alloc (.cells (madeCells #[.int .u8 0] n) 5)) A0 l0.length l0) := ⟨Kd.C_below HRR2.out (below_alloc (Below.refl _ _) _)⟩
      clear hrow HB2 HRR2 hmk HX2
      have HN : Aside0 (n ≤ 1000000) := ⟨by omega⟩
      clear hbnd HRR3
      go_loopw [8, 21] (fun _ v21 wr => ∃ (k : Nat) (x : List Int), k ≤ l0.length ∧ v21 = .int .i64 k ∧ Aside0 (ByteRow 5 wr w2.heap.size x ∧ x.length = n ∧ strOfNums (block_Sum.go n x (l0.drop k)) = r1) ∧ Aside0 (Below w.heap.size w wr)) (fun _ v21 _ => l0.length - (intOf v21).toNat)
      case atStart => exact ⟨0, _, Nat.zero_le _, rfl, ⟨HROW.out, by simp, by simpa using HR1.out⟩, HB3⟩
      case round =>
        obtain ⟨k, x, hk, rfl, HX3, HB4⟩ := hrel
        clear HROW HB3
        by_cases hlt : k < l0.length
        · have hltz : (k : Int) < (l0.length : Int) := by omega
          obtain ⟨ad, e1, hx⟩ := Kd.at_string (Kd.C_below HR00.out HB4.out) (k : Int) (by omega) hltz
          cases e1
          have hy : rdOf ByteArray.empty l0 (k : Int) = l0[k] := by simp [rdOf, hlt]
          rw [Int.toNat_natCast, hy] at hx
          have hsz3 : l0[k].size = n := by
            have h1 := List.any_eq_false.1 HANY.out l0[k] (List.getElem_mem hlt)
            simp at h1
            omega
          have hd : l0.drop k = l0[k] :: l0.drop (k + 1) := List.drop_eq_getElem_cons hlt
          have HX4 : Aside0 (ByteRow 5 wr w2.heap.size x ∧ x.length = n ∧ strOfNums (block_Sum.go n (bothB .xor x (bytesI l0[k]) n) (l0.drop (k + 1))) = r1) := ⟨HX3.out.1, HX3.out.2.1, by have h5 := HX3.out.2.2; rw [hd] at h5; exact h5⟩
          clear HX3 hy hd
          generalize l0[k] = s at *
          have HADD := Aside0.mk (block_add.row w.heap.size w2.heap.size n n x s wr HX4.out.1 HX4.out.2.1 (by omega) HG.out (by have := HN.out; omega))
          go_wp2_with fail
          refine HADD.out.mono ?_
          rintro e w5 ⟨rfl, hrow5, hb5⟩
          have HX5 : Aside0 (ByteRow 5 w5 w2.heap.size (bothB .xor x (bytesI s) n)) := ⟨hrow5⟩
          have HB5 : Aside0 (Below w.heap.size w w5) := ⟨HB4.out.trans hb5⟩
          clear hrow5 hb5 HADD
          go_wp2
          go_roundw
          case rel => exact ⟨k + 1, _, by omega, by go_num, ⟨HX5.out, by rw [bothB_length]; exact HX4.out.2.1, HX4.out.2.2⟩, HB5⟩
          case measure => simp [intOf]; omega
        · have hltz : ¬ (k : Int) < (l0.length : Int) := by omega
          have hkk : k = l0.length := by omega
          subst hkk
          have hback := HX3.out.1.back (P := Try.prog) 39 9 Try.underlying39 Try.underlying5 Try.underlying9 n n HX3.out.2.1
          have h6 := HX3.out.2.2
          rw [List.drop_length] at h6
          rw [show strOfNums x = r1 from h6] at hback
          clear h6
          go_wp2
          go_ret2
          exact ⟨rfl, HB4.out⟩

end Go.Proofs.Ytghhmnjkgnoogaa.POuterEach
