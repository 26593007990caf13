-- Written by this session's own program (wip/tools/mkprint.py) over the kit's printer, with overrides.
import Derived.Test.YtmklpmbfijljcaaPBlockGroupx0
import Derived.Test.YtmklpmbfijljcaaPBlockGroupx1
import Derived.Test.YtmklpmbfijljcaaPBlockGroupx3
namespace Go.Proofs.Ytmklpmbfijljcaa.PBlockGroup
open Go.RowKit Go.Mine Go.Proofs.YtmklpmbfijljcaaW.PrintWords Go.Proofs.YtmklpmbfijljcaaW.PrintLast Go.Proofs.YtmklpmbfijljcaaW.PrintMore
attribute [local go_sem] max2_int min2_int max_two min_two max_three min_three max_four min_four   -- for this text's walks alone
set_option linter.unusedVariables false
set_option linter.unusedSimpArgs false

/-! ### mosaiclaw07_few: function 12 -/
def mosaiclaw07_few.l0 : Nat → List ByteArray → Int → Option (Bool)
  | 0, _, _ => none
  | k + 1, x0, x3 => if x3 < (x0.length : Int) then (if 0 ≤ x3 then (if ((rdOf ByteArray.empty x0 x3).size : Int) > 200 then (some false) else (mosaiclaw07_few.l0 k x0 (wrap64 (x3 + 1)))) else (none)) else (some true)
def mosaiclaw07_few.f (k : Nat) (l0 : List ByteArray) : Option (Bool) := if (l0.length : Int) > 120 then (some false) else (mosaiclaw07_few.l0 k l0 0)
theorem mosaiclaw07_few.mono_l : ∀ k, (∀ y0 y1, LeO (mosaiclaw07_few.l0 k y0 y1) (mosaiclaw07_few.l0 (k + 1) y0 y1))
  | 0 => fun _ _ r h => by simp [mosaiclaw07_few.l0] at h
  | k + 1 => by
    have ih0 := mosaiclaw07_few.mono_l k
    · intro y0 y1
      unfold mosaiclaw07_few.l0
      repeat' first
      | (with_reducible exact ih0 _ _)
      | (with_reducible exact LeO.refl _)
      | (with_reducible exact LeO.none _)
      | (with_reducible refine LeO.ite ?_ ?_)
      | (with_reducible refine LeO.bind ?_ (fun _ => ?_))
      | exact ih0 _ _
      | exact LeO.none _
      | refine LeO.ite ?_ ?_
      | refine LeO.bind ?_ (fun _ => ?_)
theorem mosaiclaw07_few.mono : ∀ a0 k, LeO (mosaiclaw07_few.f k a0) (mosaiclaw07_few.f (k + 1) a0) := by
  intro a0 k
  have ih0 := mosaiclaw07_few.mono_l k
  unfold mosaiclaw07_few.f
  repeat' first
      | (with_reducible exact ih0 _ _)
      | (with_reducible exact LeO.refl _)
      | (with_reducible exact LeO.none _)
      | (with_reducible refine LeO.ite ?_ ?_)
      | (with_reducible refine LeO.bind ?_ (fun _ => ?_))
      | exact ih0 _ _
      | exact LeO.none _
      | refine LeO.ite ?_ ?_
      | refine LeO.bind ?_ (fun _ => ?_)
set_option maxHeartbeats 8000000 in
set_option maxRecDepth 100000 in
theorem mosaiclaw07_few.calls (k : Nat) (A0 : Option Addr) (c0 : Nat) (l0 : List ByteArray) (r : Bool) (w : World) (hr0 : Kd.C Kd.string w A0 l0.length l0) (hc0 : l0.length ≤ c0) (h : mosaiclaw07_few.f k l0 = some r) :
    Calls Try.prog 12 #[.slice A0 l0.length c0] w fun e w' => e = .returned (.bool r) ∧ Drawn0 w w' := by
  have HR0 := Aside0.mk hr0
  have HC0 := Aside0.mk hc0
  clear hr0 hc0
  have H : (if (l0.length : Int) > 120 then (some false) else (mosaiclaw07_few.l0 k l0 0)) = some r := h
  clear h
  by_cases c2 : (l0.length : Int) > 120
  · rw [if_pos c2] at H
    have c2b0 : decide (120 < (l0.length : Int)) = true := decide_eq_true c2
    have c2b1 : decide (120 < l0.length) = true := decide_eq_true (by omega)
    clear c2
    obtain rfl := Option.some.inj H
    go_enter Try.func12, Try.ntmps12
    go_wp2
    go_ret
    exact ⟨by first | rfl | (simp; done) | (simp [*]; done), by repeat (first | exact Drawn0.refl _ | apply Drawn0.step)⟩
  · rw [if_neg c2] at H
    have c2b0 : decide (120 < (l0.length : Int)) = false := decide_eq_false c2
    have c2b1 : decide (120 < l0.length) = false := decide_eq_false (by omega)
    clear c2
    have H' := Aside0.mk H
    clear H
    go_enter Try.func12, Try.ntmps12
    go_wp2
    go_loopg [3] k (fun kq v3 w' => ∃ (x3_1 : Int), v3 = .int .i64 x3_1 ∧ Aside0 (mosaiclaw07_few.l0 kq l0 x3_1 = some r) ∧ Aside0 (kq ≤ k) ∧ Drawn0 w w')
    case atStart => exact ⟨(0), (by first | rfl | (simp; done) | (simp [*]; done)), H', ⟨Nat.le_refl _⟩, by repeat (first | exact Drawn0.refl _ | apply Drawn0.step)⟩
    case round =>
      clear H'
      try clear c1
      try clear c2
      try clear c2b0
      try clear c2b1
      try clear p2
      obtain ⟨x3_1, rfl, HA, HK1, ⟨m1, rfl⟩⟩ := hrel
      cases gk with
      | zero => exact absurd HA.out (by simp [mosaiclaw07_few.l0])
      | succ k1 =>
        have H := HA.out
        clear HA
        simp only [mosaiclaw07_few.l0] at H
        by_cases c3 : x3_1 < (l0.length : Int)
        · rw [if_pos c3] at H
          have c3b0 : decide (x3_1 < (l0.length : Int)) = true := decide_eq_true c3
          clear c3
          by_cases c4 : 0 ≤ x3_1
          · rw [if_pos c4] at H
            have c4b0 : decide (0 ≤ x3_1) = true := decide_eq_true c4
            clear c4
            by_cases c5 : ((rdOf ByteArray.empty l0 x3_1).size : Int) > 200
            · rw [if_pos c5] at H
              have c5b0 : decide (200 < ((rdOf ByteArray.empty l0 x3_1).size : Int)) = true := decide_eq_true c5
              have c5b1 : decide (200 < (rdOf ByteArray.empty l0 x3_1).size) = true := decide_eq_true (by omega)
              clear c5
              obtain rfl := Option.some.inj H
              have p120 : 0 ≤ (x3_1 : Int) := of_decide_eq_true (by first | (with_reducible assumption) | assumption)
              have q120 : x3_1 < (l0.length : Int) := of_decide_eq_true (by first | (with_reducible assumption) | assumption)
              obtain ⟨ad120, e120, hx120_0⟩ := Kd.at_string HR0.out x3_1 p120 q120
              cases e120
              replace p120 := eq_true p120
              replace q120 := eq_true q120
              go_wp2
              go_ret
              exact ⟨by first | rfl | (simp; done) | (simp [*]; done), by repeat (first | exact Drawn0.refl _ | apply Drawn0.step)⟩
            · rw [if_neg c5] at H
              have c5b0 : decide (200 < ((rdOf ByteArray.empty l0 x3_1).size : Int)) = false := decide_eq_false c5
              have c5b1 : decide (200 < (rdOf ByteArray.empty l0 x3_1).size) = false := decide_eq_false (by omega)
              clear c5
              have H' := Aside0.mk H
              clear H
              have p120 : 0 ≤ (x3_1 : Int) := of_decide_eq_true (by first | (with_reducible assumption) | assumption)
              have q120 : x3_1 < (l0.length : Int) := of_decide_eq_true (by first | (with_reducible assumption) | assumption)
              obtain ⟨ad120, e120, hx120_0⟩ := Kd.at_string HR0.out x3_1 p120 q120
              cases e120
              replace p120 := eq_true p120
              replace q120 := eq_true q120
              go_wp2
              go_roundg k1
              case measure => have := HK1.out; omega
              case rel => exact ⟨(wrap64 (x3_1 + 1)), (by first | rfl | (simp; done) | (simp [*]; done)), H', ⟨by have := HK1.out; omega⟩, by repeat (first | exact Drawn0.refl _ | apply Drawn0.step)⟩
          · rw [if_neg c4] at H
            exact absurd H (by simp)
        · rw [if_neg c3] at H
          have c3b0 : decide (x3_1 < (l0.length : Int)) = false := decide_eq_false c3
          clear c3
          obtain rfl := Option.some.inj H
          go_wp2
          go_ret
          exact ⟨by first | rfl | (simp; done) | (simp [*]; done), by repeat (first | exact Drawn0.refl _ | apply Drawn0.step)⟩

/-! ### slices_ContainsFunc_string_string: function 23 -/
theorem slices_ContainsFunc_string_string.index (p : ByteArray → Bool) (g : Nat) (lb : Array Value) (eg : ∀ args w, (callFunc g args).run Try.prog w = .ok (.enter g args) w) (A0 : Option Addr) (c0 : Nat) (l0 : List ByteArray) (w : World)
    (hp : ∀ (W : World) (x : ByteArray), Below w.heap.size w W → Calls Try.prog g (#[.string x] ++ lb) W fun e w' => e = .returned (.bool (p x)) ∧ Drawn0 W w') (hr0 : Kd.C Kd.string w A0 l0.length l0) :
    Calls Try.prog 32 #[.slice A0 l0.length c0, .func (.func g) #[] lb] w fun e w' => (∃ i : Int, e = .returned (.int .i64 i) ∧ IdxOf p l0 i) ∧ Drawn0 w w' := by
  have HR0 := Aside0.mk hr0
  have hlen := hr0.2.1
  have HP : ∀ (x : ByteArray) (q : Nat), Calls Try.prog g (#[.string x] ++ lb) (w.drewN q) fun e w' => e = .returned (.bool (p x)) ∧ Drawn0 (w.drewN q) w' := fun x q => hp _ x (pw_below_drewN (Below.refl _ w) q)
  clear hr0 hp
  go_enter Try.func32, Try.ntmps32
  go_wp2
  go_loopg [5, 8] l0.length (fun gg _ s8 wr => ∃ kk q : Nat, kk ≤ l0.length ∧ l0.length - kk ≤ gg ∧ s8 = .int .i64 kk ∧ wr = w.drewN q ∧ Aside0 (∀ j, j < kk → p (l0.getD j ByteArray.empty) = false))
  case atStart => exact ⟨0, 0, Nat.zero_le _, by omega, rfl, rfl, ⟨fun j hj => absurd hj (Nat.not_lt_zero _)⟩⟩
  case round =>
    obtain ⟨kk, q, hkk, hg, rfl, rfl, A⟩ := hrel
    by_cases hlt : kk < l0.length
    · have hltz : (kk : Int) < (l0.length : Int) := by omega
      obtain ⟨ad, e1, hx⟩ := Kd.at_string HR0.out kk (by omega) hltz
      cases e1
      have hy : rdOf ByteArray.empty l0 (kk : Int) = l0.getD kk ByteArray.empty := by simp [rdOf]
      rw [Int.toNat_natCast, hy] at hx
      generalize hyy : l0.getD kk ByteArray.empty = y at hx
      have B := Aside0.mk hyy
      clear hyy hy
      have hcall := HP y
      clear HP
      cases hq : p y with
      | true =>
        rw [hq] at hcall
        have hcall2 : Aside0 (p y = true) := ⟨hq⟩
        clear hq
        go_wp2_with (go_at_fn g; refine (hcall _).mono ?_; rintro e w' ⟨rfl, ⟨q', rfl⟩⟩)
        go_ret
        refine ⟨⟨_, rfl, ?_⟩, ⟨_, rfl⟩⟩
        have hm : l0.any p = true := by
          rw [List.any_eq_true]
          refine ⟨y, ?_, hcall2.out⟩
          rw [← B.out, List.getD_eq_getElem?_getD, List.getElem?_eq_getElem hlt]
          exact List.getElem_mem hlt
        exact ⟨fun _ => hm, fun _ => by omega⟩
      | false =>
        rw [hq] at hcall
        have hcall2 : Aside0 (p y = false) := ⟨hq⟩
        clear hq
        go_wp2_with (go_at_fn g; refine (hcall _).mono ?_; rintro e w' ⟨rfl, ⟨q', rfl⟩⟩)
        go_roundg (l0.length - (kk + 1))
        case measure => omega
        case rel =>
          refine ⟨kk + 1, _, by omega, by omega, by go_num, rfl, ⟨fun j hj => ?_⟩⟩
          by_cases e : j = kk
          · subst e
            rw [B.out]; exact hcall2.out
          · exact A.out j (by omega)
    · have hltz : ¬ (kk : Int) < (l0.length : Int) := by omega
      have : kk = l0.length := by omega
      subst this
      clear HP
      go_wp2
      go_ret
      refine ⟨⟨_, rfl, ?_⟩, ⟨_, rfl⟩⟩
      have hm : l0.any p = false := by
        rw [List.any_eq_false]
        intro x hx
        obtain ⟨j, hj, rfl⟩ := List.getElem_of_mem hx
        have := A.out j hj
        rw [List.getD_eq_getElem?_getD, List.getElem?_eq_getElem hj] at this
        simpa using this
      exact ⟨fun h => absurd h (by decide), fun h => by rw [hm] at h; cases h⟩
theorem slices_ContainsFunc_string_string.gives (p : ByteArray → Bool) (g : Nat) (lb : Array Value) (eg : ∀ args w, (callFunc g args).run Try.prog w = .ok (.enter g args) w) (A0 : Option Addr) (c0 : Nat) (l0 : List ByteArray) (w : World)
    (hp : ∀ (W : World) (x : ByteArray), Below w.heap.size w W → Calls Try.prog g (#[.string x] ++ lb) W fun e w' => e = .returned (.bool (p x)) ∧ Drawn0 W w') (hr0 : Kd.C Kd.string w A0 l0.length l0) :
    Calls Try.prog 23 #[.slice A0 l0.length c0, .func (.func g) #[] lb] w fun e w' => e = .returned (.bool (l0.any p)) ∧ Drawn0 w w' := by
  have hc := slices_ContainsFunc_string_string.index p g lb eg A0 c0 l0 w hp hr0
  clear hp hr0
  unfold IdxOf at hc
  generalize l0.any p = b at *
  go_enter Try.func23, Try.ntmps23
  go_wp2_with (go_at_call 32; refine hc.mono ?_; rintro e w' ⟨⟨i, rfl, hi⟩, ⟨q, rfl⟩⟩)
  cases b with
  | true =>
    have h0 : 0 ≤ i := hi.2 rfl
    clear hi
    go_wp2
    go_ret
    exact ⟨by first | rfl | (simp [h0]; done) | (simp; omega), ⟨q, rfl⟩⟩
  | false =>
    have h0 : ¬ 0 ≤ i := fun h => by have := hi.1 h; cases this
    clear hi
    go_wp2
    go_ret
    exact ⟨by first | rfl | (simp [h0]; done) | (simp; omega), ⟨q, rfl⟩⟩

/-! ### block_Sum: function 13 -/
def block_Sum.go (n : Nat) : List Int → List ByteArray → List Int
  | x, [] => x
  | x, s :: l => block_Sum.go n (bothB .xor x (bytesI s) n) l
def block_Sum.f (l0 : List ByteArray) (a1 : Int) : Option (ByteArray × Int) :=
  (block_may.f a1).bind fun b => if b = true then (if a1 < 0 ∨ 1000000 < a1 then none else if l0.any (fun s => !((s.size : Int) == a1)) = true then some (⟨#[]⟩, 1) else some (strOfNums (block_Sum.go a1.toNat (List.replicate a1.toNat 0) l0), 0)) else some (⟨#[]⟩, 1)
theorem block_Sum.pred (n : Int) (B : Nat) (w : World) (hB : B < w.heap.size) (hcell : w.cell? ⟨B, 0, none⟩ = some (.int .i64 n)) (W : World) (x : ByteArray) (hb : Below w.heap.size w W) :
    Calls Try.prog 24 (#[.string x] ++ #[.pointer (some ⟨B, 0, none⟩)]) W fun e w' => e = .returned (.bool (!((x.size : Int) == n))) ∧ Drawn0 W w' := by
  have hc : W.cell? ⟨B, 0, none⟩ = some (.int .i64 n) := (hb.cell (p := ⟨B, 0, none⟩) hB).trans hcell
  clear hcell hB hb
  show Calls Try.prog 24 #[.string x, .pointer (some ⟨B, 0, none⟩)] W _
  go_enter Try.func24, Try.ntmps24
  go_wp2
  all_goals (go_ret; exact ⟨by first | rfl | (simp; done), ⟨0, rfl⟩⟩)
set_option maxHeartbeats 1000000 in
theorem block_Sum.calls (A0 : Option Addr) (c0 : Nat) (l0 : List ByteArray) (a1 : Int) (r1 : ByteArray) (r2 : Int) (w : World) (hr0 : Kd.C Kd.string w A0 l0.length l0) (hc0 : l0.length ≤ c0) (h : block_Sum.f l0 a1 = some (r1, r2)) :
    Calls Try.prog 13 #[.slice A0 l0.length c0, .int .i64 a1] w fun e w' => e = .returned (.tuple #[.string r1, .int .i64 r2]) ∧ Below w.heap.size w w' := by
  have HB : Aside0 (Below w.heap.size w (w.alloc (.cells #[.int .i64 a1] 3))) := ⟨below_alloc (Below.refl _ _) _⟩
  have HR := Aside0.mk (Kd.C_below hr0 HB.out)
  have hbx : (w.alloc (.cells #[.int .i64 a1] 3)).cell? ⟨w.heap.size, 0, none⟩ = some (.int .i64 a1) := by simp
  have HX := Aside0.mk hbx
  have hin : w.heap.size < (w.alloc (.cells #[.int .i64 a1] 3)).heap.size := by simp
  have HIN := Aside0.mk hin
  have eg : ∀ args w, (callFunc 24 args).run Try.prog w = .ok (.enter 24 args) w := enters_of Try.func24 (by kernel_rfl) rfl
  unfold block_Sum.f at h
  obtain ⟨bm, hm, h⟩ := Option.bind_eq_some_iff.mp h
  have HM := Aside0.mk hm
  have hlen := hr0.2.1
  have HR00 := Aside0.mk hr0
  clear hr0 hm hbx hin
  have HH := Aside0.mk h
  clear h
  go_enter Try.func13, Try.ntmps13
  go_wp2_with fail
  refine (block_may.calls _ _ _ HM.out).mono ?_
  rintro e w' ⟨rfl, ⟨q1, rfl⟩⟩
  have hin1 : w.heap.size < ((w.alloc (.cells #[.int .i64 a1] 3)).drewN q1).heap.size := HIN.out
  have hbx1 : ((w.alloc (.cells #[.int .i64 a1] 3)).drewN q1).cell? ⟨w.heap.size, 0, none⟩ = some (.int .i64 a1) := HX.out
  have HC := slices_ContainsFunc_string_string.gives (fun s => !((s.size : Int) == a1)) 24 #[.pointer (some ⟨w.heap.size, 0, none⟩)] eg A0 c0 l0 ((w.alloc (.cells #[.int .i64 a1] 3)).drewN q1)
    (block_Sum.pred a1 w.heap.size _ hin1 hbx1) (Kd.C_below HR.out (pw_below_drewN (Below.refl _ _) _))
  clear hin1 hbx1 eg
  generalize hw1 : (w.alloc (.cells #[.int .i64 a1] 3)).drewN q1 = w1 at *
  have HB1 : Aside0 (Below w.heap.size w w1) := ⟨by rw [← hw1]; exact pw_below_drewN HB.out _⟩
  have HX1 : w1.cell? ⟨w.heap.size, 0, none⟩ = some (.int .i64 a1) := by rw [← hw1]; exact HX.out
  have HRR : Aside0 (Kd.C Kd.string w1 A0 l0.length l0) := ⟨by rw [← hw1]; exact Kd.C_below HR.out (pw_below_drewN (Below.refl _ _) _)⟩
  have hsz : w.heap.size < w1.heap.size := by rw [← hw1]; exact HIN.out
  clear hw1 HB HR HX HIN HM
  cases bm with
  | false =>
    have H := HH.out
    simp only [if_neg (show ¬ (false = true) by decide), Option.some.injEq, Prod.mk.injEq] at H
    obtain ⟨rfl, rfl⟩ := H
    clear HC HH
    go_wp2
    go_ret2
    exact ⟨rfl, HB1.out⟩
  | true =>
    have H := HH.out
    rw [if_pos rfl] at H
    clear HH
    split at H
    · cases H
    rename_i hbnd
    generalize hba : l0.any (fun s => !((s.size : Int) == a1)) = ba at *
    have HANY := Aside0.mk hba
    clear hba
    have HH := Aside0.mk H
    clear H
    go_wp2_with fail
    refine HC.mono ?_
    rintro e w' ⟨rfl, ⟨q2, rfl⟩⟩
    have hsz2 : w.heap.size < (w1.drewN q2).heap.size := hsz
    have HB2 : Aside0 (Below w.heap.size w (w1.drewN q2)) := ⟨pw_below_drewN HB1.out _⟩
    have HX2 : (w1.drewN q2).cell? ⟨w.heap.size, 0, none⟩ = some (.int .i64 a1) := HX1
    have HRR2 : Aside0 (Kd.C Kd.string (w1.drewN q2) A0 l0.length l0) := ⟨Kd.C_below HRR.out (pw_below_drewN (Below.refl _ _) _)⟩
    clear HX1 HB1 HRR hsz
    generalize w1.drewN q2 = w2 at *
    cases ba with
    | true =>
      have H := HH.out
      rw [if_pos rfl] at H
      simp only [Option.some.injEq, Prod.mk.injEq] at H
      obtain ⟨rfl, rfl⟩ := H
      clear HH
      go_wp2
      go_ret2
      exact ⟨rfl, HB2.out⟩
    | false =>
      have H := HH.out
      rw [if_neg (show ¬ (false = true) by decide)] at H
      simp only [Option.some.injEq, Prod.mk.injEq] at H
      obtain ⟨H, rfl⟩ := H
      clear HH
      have HR1 := Aside0.mk H
      clear H
      obtain ⟨n, rfl⟩ : ∃ n : Nat, a1 = n := ⟨a1.toNat, by omega⟩
      rw [Int.toNat_natCast] at HR1
      have hmk := print_make_int (P := Try.prog) 45 5 (.int .u8 0) 1 Try.underlying45 info5 rfl (by decide) (n : Int) (by omega) (by rw [Int.toNat_natCast]; omega) w2
      rw [Int.toNat_natCast] at hmk
      go_wp2_with fail
      have hrow := ByteRow.made 5 w2 n
      have HROW := Aside0.mk hrow
      have HG : Aside0 (w.heap.size ≤ w2.heap.size) := ⟨HB2.out.size⟩
      have HB3 : Aside0 (Below w.heap.size w (w2.alloc (.cells (madeCells #[.int .u8 0] n) 5))) := ⟨HB2.out.alloc HG.out _⟩
      have HRR3 : Aside0 (Kd.C Kd.string (w2.alloc (.cells (madeCells #[.int .u8 0] n) 5)) A0 l0.length l0) := ⟨Kd.C_below HRR2.out (below_alloc (Below.refl _ _) _)⟩
      clear hrow HB2 HRR2 hmk HX2
      have HN : Aside0 (n ≤ 1000000) := ⟨by omega⟩
      clear hbnd HRR3
      go_loopw [8, 21] (fun _ v21 wr => ∃ (k : Nat) (x : List Int), k ≤ l0.length ∧ v21 = .int .i64 k ∧ Aside0 (ByteRow 5 wr w2.heap.size x ∧ x.length = n ∧ strOfNums (block_Sum.go n x (l0.drop k)) = r1) ∧ Aside0 (Below w.heap.size w wr)) (fun _ v21 _ => l0.length - (intOf v21).toNat)
      case atStart => exact ⟨0, _, Nat.zero_le _, rfl, ⟨HROW.out, by simp, by simpa using HR1.out⟩, HB3⟩
      case round =>
        obtain ⟨k, x, hk, rfl, HX3, HB4⟩ := hrel
        clear HROW HB3
        by_cases hlt : k < l0.length
        · have hltz : (k : Int) < (l0.length : Int) := by omega
          obtain ⟨ad, e1, hx⟩ := Kd.at_string (Kd.C_below HR00.out HB4.out) (k : Int) (by omega) hltz
          cases e1
          have hy : rdOf ByteArray.empty l0 (k : Int) = l0[k] := by simp [rdOf, hlt]
          rw [Int.toNat_natCast, hy] at hx
          have hsz3 : l0[k].size = n := by
            have h1 := List.any_eq_false.1 HANY.out l0[k] (List.getElem_mem hlt)
            simp at h1
            omega
          have hd : l0.drop k = l0[k] :: l0.drop (k + 1) := List.drop_eq_getElem_cons hlt
          have HX4 : Aside0 (ByteRow 5 wr w2.heap.size x ∧ x.length = n ∧ strOfNums (block_Sum.go n (bothB .xor x (bytesI l0[k]) n) (l0.drop (k + 1))) = r1) := ⟨HX3.out.1, HX3.out.2.1, by have h5 := HX3.out.2.2; rw [hd] at h5; exact h5⟩
          clear HX3 hy hd
          generalize l0[k] = s at *
          have HADD := Aside0.mk (block_add.row w.heap.size w2.heap.size n n x s wr HX4.out.1 HX4.out.2.1 (by omega) HG.out (by have := HN.out; omega))
          go_wp2_with fail
          refine HADD.out.mono ?_
          rintro e w5 ⟨rfl, hrow5, hb5⟩
          have HX5 : Aside0 (ByteRow 5 w5 w2.heap.size (bothB .xor x (bytesI s) n)) := ⟨hrow5⟩
          have HB5 : Aside0 (Below w.heap.size w w5) := ⟨HB4.out.trans hb5⟩
          clear hrow5 hb5 HADD
          go_wp2
          go_roundw
          case rel => exact ⟨k + 1, _, by omega, by go_num, ⟨HX5.out, by rw [bothB_length]; exact HX4.out.2.1, HX4.out.2.2⟩, HB5⟩
          case measure => simp [intOf]; omega
        · have hltz : ¬ (k : Int) < (l0.length : Int) := by omega
          have hkk : k = l0.length := by omega
          subst hkk
          have hback := HX3.out.1.back (P := Try.prog) 45 9 Try.underlying45 Try.underlying5 Try.underlying9 n n HX3.out.2.1
          have h6 := HX3.out.2.2
          rw [List.drop_length] at h6
          rw [show strOfNums x = r1 from h6] at hback
          clear h6
          go_wp2
          go_ret2
          exact ⟨rfl, HB4.out⟩

end Go.Proofs.Ytmklpmbfijljcaa.PBlockGroup
