-- Written by this session's own program (wip/tools/mkprint.py) over the kit's printer, with overrides.
import Derived.Test.YtkfilmhconpnbaaPBitsMakesx0
import Derived.Test.YtkfilmhconpnbaaPBitsMakesx1
namespace Go.Proofs.Ytkfilmhconpnbaa.PBitsMakes
open Go.RowKit Go.Mine Go.Proofs.YtkfilmhconpnbaaW.PrintWords Go.Proofs.YtkfilmhconpnbaaW.PrintLast Go.Proofs.YtkfilmhconpnbaaW.PrintMore
attribute [local go_sem] max2_int min2_int max_two min_two max_three min_three max_four min_four   -- for this text's walks alone
set_option linter.unusedVariables false
set_option linter.unusedSimpArgs false

/-! ### bits_turn: function 39 -/
def bits_turn.f (a0 : ByteArray) (a1 : Int) : Option ByteArray := if 0 ≤ a1 ∧ a1 / 8 < (a0.size : Int) ∧ a1 ≤ 9223372036854775807 then some (turnS a0 a1) else none
set_option maxHeartbeats 400000 in
theorem bits_turn.calls (a0 : ByteArray) (a1 : Int) (r : ByteArray) (w : World) (h : bits_turn.f a0 a1 = some r) :
    Calls Try.prog 39 #[.string a0, .int .i64 a1] w fun e w' => e = .returned (.string r) ∧ Below w.heap.size w w' := by
  unfold bits_turn.f at h
  split at h
  rotate_left
  · cases h
  rename_i hh
  obtain ⟨h0, h1, h2⟩ := hh
  cases h
  obtain ⟨w1, c, hrun, hrow, hb, hc, hz⟩ := run_bytes (P := Try.prog) w 9 55 5 a0 Try.underlying9 Try.underlying55 Try.underlying5
  have hj : (a1 / 8).toNat < (bytesI a0).length := by rw [bytesI_length]; omega
  have hcell := hrow.cell _ hj
  have hfr := hrow.frozen _ hj
  have hset := (hrow.set _ hj (Go.bits .xor .u8 ((bytesI a0).getD (a1 / 8).toNat 0) (2 ^ (a1 % 8).toNat % 256))).drew
  have hback := hset.back (P := Try.prog) 55 9 Try.underlying55 Try.underlying5 Try.underlying9 a0.size c (by rw [List.length_set, bytesI_length])
  have hb' : Below w.heap.size w (w1.setCell ⟨w.heap.size, (a1 / 8).toNat, none⟩ (.int .u8 (Go.bits .xor .u8 ((bytesI a0).getD (a1 / 8).toNat 0) (2 ^ (a1 % 8).toNat % 256)))).drew := (hb.setCell (Nat.le_refl _) _).drew
  have HB := Aside0.mk hb'
  clear hset hb hb' hrow
  unfold turnS
  generalize (bytesI a0).getD (a1 / 8).toNat 0 = x at *
  generalize hv : Go.bits .xor .u8 x (2 ^ (a1 % 8).toNat % 256) = v at *
  generalize hs : strOfNums ((bytesI a0).set (a1 / 8).toNat v) = r at *
  go_enter Try.func39, Try.ntmps39
  go_wp2_with fail
  go_region
  all_goals
    go_wp2
    go_ret
    exact ⟨rfl, HB.out⟩

/-! ### bits_Of: function 15 -/
def bits_Of.go : ByteArray → List Int → Option (ByteArray × Int)
  | s, [] => some (s, 0)
  | s, i :: l => (bits_Has.f s i).bind fun b => if b = true then some (⟨#[]⟩, 5) else (bits_turn.f s i).bind fun t => bits_Of.go t l
def bits_Of.f (a0 : Int) (l1 : List Int) : Option (ByteArray × Int) :=
  (bits_may.f a0).bind fun b => if b = true then (if l1.any (fun i => !(decide (0 ≤ i) && decide (i < a0))) = true then some (⟨#[]⟩, 1) else (bits_Empty.f a0).bind fun s => bits_Of.go s l1) else some (⟨#[]⟩, 1)
theorem bits_Of.pred (n : Int) (B : Nat) (w : World) (hB : B < w.heap.size) (hcell : w.cell? ⟨B, 0, none⟩ = some (.int .i64 n)) (W : World) (x : Int) (hb : Below w.heap.size w W) :
    Calls Try.prog 37 (#[.int .i64 x] ++ #[.pointer (some ⟨B, 0, none⟩)]) W fun e w' => e = .returned (.bool (!(decide (0 ≤ x) && decide (x < n)))) ∧ Drawn0 W w' := by
  have hc : W.cell? ⟨B, 0, none⟩ = some (.int .i64 n) := (hb.cell (p := ⟨B, 0, none⟩) hB).trans hcell
  clear hcell hB hb
  show Calls Try.prog 37 #[.int .i64 x, .pointer (some ⟨B, 0, none⟩)] W _
  have hin : bits_in.f n x = some (decide (0 ≤ x) && decide (x < n)) := by
    unfold bits_in.f
    by_cases h : 0 ≤ x <;> simp [h]
  have HI := Aside0.mk hin
  clear hin
  go_enter Try.func37, Try.ntmps37
  go_wp2_with (go_at_call 38; refine (bits_in.calls _ _ _ _ HI.out).mono ?_; rintro e w' ⟨rfl, ⟨q, rfl⟩⟩)
  all_goals (go_ret; exact ⟨by first | rfl | (simp; done), ⟨q, rfl⟩⟩)
set_option maxHeartbeats 1000000 in
theorem bits_Of.calls (a0 : Int) (A1 : Option Addr) (c1 : Nat) (l1 : List Int) (r1 : ByteArray) (r2 : Int) (w : World) (hr1 : Kd.C (Kd.int .i64) w A1 l1.length l1) (hc1 : l1.length ≤ c1) (h : bits_Of.f a0 l1 = some (r1, r2)) :
    Calls Try.prog 15 #[.int .i64 a0, .slice A1 l1.length c1] w fun e w' => e = .returned (.tuple #[.string r1, .int .i64 r2]) ∧ Below w.heap.size w w' := by
  have HB : Aside0 (Below w.heap.size w (w.alloc (.cells #[.int .i64 a0] 3))) := ⟨below_alloc (Below.refl _ _) _⟩
  have HR := Aside0.mk (Kd.C_below hr1 HB.out)
  have hbx : (w.alloc (.cells #[.int .i64 a0] 3)).cell? ⟨w.heap.size, 0, none⟩ = some (.int .i64 a0) := by simp
  have HX := Aside0.mk hbx
  have hin : w.heap.size < (w.alloc (.cells #[.int .i64 a0] 3)).heap.size := by simp
  have HIN := Aside0.mk hin
  have eg : ∀ args w, (callFunc 37 args).run Try.prog w = .ok (.enter 37 args) w := enters_of Try.func37 (by kernel_rfl) rfl
  unfold bits_Of.f at h
  obtain ⟨bm, hm, h⟩ := Option.bind_eq_some_iff.mp h
  have HM := Aside0.mk hm
  have hlen := hr1.2.1
  clear hr1 hm hbx hin
  have HH := Aside0.mk h
  clear h
  go_enter Try.func15, Try.ntmps15
  go_wp2_with fail
  refine (bits_may.calls _ _ _ HM.out).mono ?_
  rintro e w' ⟨rfl, ⟨q1, rfl⟩⟩
  have hin1 : w.heap.size < ((w.alloc (.cells #[.int .i64 a0] 3)).drewN q1).heap.size := HIN.out
  have hbx1 : ((w.alloc (.cells #[.int .i64 a0] 3)).drewN q1).cell? ⟨w.heap.size, 0, none⟩ = some (.int .i64 a0) := HX.out
  have HC := slices_ContainsFunc_int_int.gives (fun i => !(decide (0 ≤ i) && decide (i < a0))) 37 #[.pointer (some ⟨w.heap.size, 0, none⟩)] eg A1 c1 l1 ((w.alloc (.cells #[.int .i64 a0] 3)).drewN q1)
    (bits_Of.pred a0 w.heap.size _ hin1 hbx1) (Kd.C_below HR.out (pw_below_drewN (Below.refl _ _) _))
  clear hin1 hbx1 eg
  generalize hw1 : (w.alloc (.cells #[.int .i64 a0] 3)).drewN q1 = w1 at *
  have HB1 : Aside0 (Below w.heap.size w w1) := ⟨by rw [← hw1]; exact pw_below_drewN HB.out _⟩
  have HX1 : w1.cell? ⟨w.heap.size, 0, none⟩ = some (.int .i64 a0) := by rw [← hw1]; exact HX.out
  have HRR : Aside0 (Kd.C (Kd.int .i64) w1 A1 l1.length l1) := ⟨by rw [← hw1]; exact Kd.C_below HR.out (pw_below_drewN (Below.refl _ _) _)⟩
  have hsz : w.heap.size < w1.heap.size := by rw [← hw1]; exact HIN.out
  clear hw1 HB HR HX HIN HM
  cases bm with
  | false =>
    have H := HH.out
    simp only [if_neg (show ¬ (false = true) by decide), Option.some.injEq, Prod.mk.injEq] at H
    obtain ⟨rfl, rfl⟩ := H
    clear HC HH
    go_wp2
    go_ret2
    exact ⟨rfl, HB1.out⟩
  | true =>
    have H := HH.out
    rw [if_pos rfl] at H
    clear HH
    generalize l1.any (fun i => !(decide (0 ≤ i) && decide (i < a0))) = ba at *
    have HH := Aside0.mk H
    clear H
    go_wp2_with fail
    refine HC.mono ?_
    rintro e w' ⟨rfl, ⟨q2, rfl⟩⟩
    clear HC
    have HB2 : Aside0 (Below w.heap.size w (w1.drewN q2)) := ⟨pw_below_drewN HB1.out _⟩
    have HX2 : (w1.drewN q2).cell? ⟨w.heap.size, 0, none⟩ = some (.int .i64 a0) := HX1
    have HR2 : Aside0 (Kd.C (Kd.int .i64) (w1.drewN q2) A1 l1.length l1) := ⟨Kd.C_below HRR.out (pw_below_drewN (Below.refl _ _) _)⟩
    have hsz2 : w.heap.size < (w1.drewN q2).heap.size := hsz
    generalize w1.drewN q2 = w2 at *
    clear HB1 HX1 HRR hsz
    cases ba with
    | true =>
      have H := HH.out
      rw [if_pos rfl] at H
      simp only [Option.some.injEq, Prod.mk.injEq] at H
      obtain ⟨rfl, rfl⟩ := H
      clear HH
      go_wp2
      go_ret2
      exact ⟨rfl, HB2.out⟩
    | false =>
      have H := HH.out
      rw [if_neg (by decide)] at H
      clear HH
      obtain ⟨s0, hs0, H⟩ := Option.bind_eq_some_iff.mp H
      have HS := Aside0.mk hs0
      have HG := Aside0.mk H
      clear hs0 H
      go_wp2_with fail
      refine (bits_Empty.calls _ _ _ HS.out).mono ?_
      rintro e w3 ⟨rfl, hb3⟩
      have HB3 : Aside0 (Below w.heap.size w w3) := ⟨below_step HB2.out hb3⟩
      have HR3 : Aside0 (Kd.C (Kd.int .i64) w3 A1 l1.length l1) := ⟨Kd.C_below HR2.out hb3⟩
      clear hb3 HB2 HR2 HX2 hsz2 HS
      go_wp2
      go_loopg [6, 8, 21] l1.length (fun gg s6 _ s21 wr => ∃ (k : Nat) (s : ByteArray), k ≤ l1.length ∧ l1.length - k ≤ gg ∧ s6 = .string s ∧ s21 = .int .i64 k ∧ Aside0 (bits_Of.go s (l1.drop k) = some (r1, r2)) ∧ Aside0 (Kd.C (Kd.int .i64) wr A1 l1.length l1) ∧ Aside0 (Below w.heap.size w wr))
      case atStart => exact ⟨0, s0, Nat.zero_le _, by omega, rfl, rfl, by simpa using HG, HR3, HB3⟩
      case round =>
        obtain ⟨k, s, hk, hg, rfl, rfl, HA, HR, HB⟩ := hrel
        clear HG HR3 HB3
        by_cases hlt : k < l1.length
        · have hltz : (k : Int) < (l1.length : Int) := by omega
          obtain ⟨ad, e1, hx⟩ := Kd.at_int HR.out k (by omega) hltz
          cases e1
          have hy : rd l1 (k : Int) = l1[k] := by simp [rd, hlt]
          rw [Int.toNat_natCast, hy] at hx
          have H := HA.out
          rw [List.drop_eq_getElem_cons hlt] at H
          unfold bits_Of.go at H
          obtain ⟨b, hb, H⟩ := Option.bind_eq_some_iff.mp H
          clear HA hy
          generalize l1[k] = y at *
          have HHas := Aside0.mk hb
          clear hb
          cases b with
          | true =>
            rw [if_pos rfl] at H
            simp only [Option.some.injEq, Prod.mk.injEq] at H
            obtain ⟨rfl, rfl⟩ := H
            go_wp2_with fail
            refine (bits_Has.calls _ _ _ _ HHas.out).mono ?_
            rintro e w' ⟨rfl, ⟨q3, rfl⟩⟩
            go_wp2
            go_ret2
            exact ⟨rfl, pw_below_drewN HB.out _⟩
          | false =>
            rw [if_neg (by decide)] at H
            obtain ⟨s1, hs1, H⟩ := Option.bind_eq_some_iff.mp H
            have HT := Aside0.mk hs1
            have HA := Aside0.mk H
            clear hs1 H
            go_wp2_with fail
            refine (bits_Has.calls _ _ _ _ HHas.out).mono ?_
            rintro e w' ⟨rfl, ⟨q3, rfl⟩⟩
            go_wp2_with fail
            refine (bits_turn.calls _ _ _ _ HT.out).mono ?_
            rintro e w4 ⟨rfl, hb4⟩
            have HB4 : Aside0 (Below w.heap.size w w4) := ⟨below_step (pw_below_drewN HB.out _) hb4⟩
            have HR4 : Aside0 (Kd.C (Kd.int .i64) w4 (some ad) l1.length l1) := ⟨Kd.C_below (Kd.C_below HR.out (pw_below_drewN (Below.refl _ _) _)) hb4⟩
            clear hb4 HB HR HT HHas
            go_wp2
            go_roundg (l1.length - (k + 1))
            case measure => omega
            case rel => exact ⟨k + 1, s1, by omega, by omega, rfl, by go_num, HA, HR4, HB4⟩
        · have hltz : ¬ (k : Int) < (l1.length : Int) := by omega
          have hkk : k = l1.length := by omega
          have H := HA.out
          rw [List.drop_of_length_le (by omega)] at H
          unfold bits_Of.go at H
          simp only [Option.some.injEq, Prod.mk.injEq] at H
          obtain ⟨rfl, rfl⟩ := H
          clear HA
          subst hkk
          go_wp2
          go_ret2
          exact ⟨rfl, HB.out⟩

/-! ### bits_Full: function 24 -/
def bits_Full.f (a0 : Int) : Option ByteArray := (bits_Empty.f a0).bind fun s => if s.size ≤ 1000 then some (strOfNums (fullB a0 (bytesI s) (8 * s.size))) else none
set_option maxHeartbeats 1000000 in
theorem bits_Full.calls (a0 : Int) (r : ByteArray) (w : World) (h : bits_Full.f a0 = some r) :
    Calls Try.prog 24 #[.int .i64 a0] w fun e w' => e = .returned (.string r) ∧ Below w.heap.size w w' := by
  unfold bits_Full.f at h
  obtain ⟨s, hs, h⟩ := Option.bind_eq_some_iff.mp h
  split at h
  rotate_left
  · cases h
  rename_i hsz
  have HR := Aside0.mk (Option.some.inj h)
  have HS := Aside0.mk hs
  clear h hs
  have HCONV := fun W => run_bytes (P := Try.prog) W 9 55 5 s Try.underlying9 Try.underlying55 Try.underlying5
  go_enter Try.func24, Try.ntmps24
  go_wp2_with fail
  refine (bits_Empty.calls _ _ _ HS.out).mono ?_
  rintro e w0 ⟨rfl, hb0⟩
  obtain ⟨w1, c, hrun, hrow, hb, hc, hz⟩ := HCONV w0
  clear HCONV HS
  have HB1 : Aside0 (Below w.heap.size w w1) := ⟨below_step hb0 hb⟩
  have HW : Aside0 (w.heap.size ≤ w0.heap.size) := ⟨hb0.size⟩
  have HROW : Aside0 (ByteRow 5 w1 w0.heap.size (bytesI s)) := ⟨hrow⟩
  have HL := bytesI_length s
  have HLL := Aside0.mk HL
  clear hb0 hb hrow hz HL
  generalize w0.heap.size = g at *
  go_wp2
  go_loopw [4, 11] (fun _ v11 wr => ∃ k : Nat, k ≤ 8 * s.size ∧ v11 = .int .i64 k ∧ Aside0 (ByteRow 5 wr g (fullB a0 (bytesI s) k)) ∧ Aside0 (Below w.heap.size w wr)) (fun _ v11 _ => 8 * s.size - (intOf v11).toNat)
  case atStart => exact ⟨0, Nat.zero_le _, rfl, HROW, HB1⟩
  case round =>
    obtain ⟨k, hk, rfl, HROW2, HB2⟩ := hrel
    clear HROW HB1
    by_cases hlt : k < 8 * s.size
    · have hltz : (k : Int) < 8 * (s.size : Int) := by omega
      have hj : ((k : Int) / 8).toNat = k / 8 := by omega
      have hm : ((k : Int) % 8).toNat = k % 8 := by omega
      have hlen : (fullB a0 (bytesI s) k).length = s.size := by rw [fullB_length, HLL.out]
      by_cases hn : (k : Int) < a0
      · have hcell := HROW2.out.cell (k / 8) (by omega)
        have hfr := HROW2.out.frozen (k / 8) (by omega)
        have hset := HROW2.out.set (k / 8) (by omega) (Go.bits .or .u8 ((fullB a0 (bytesI s) k).getD (k / 8) 0) (2 ^ (k % 8) % 256))
        have hst : fullB a0 (bytesI s) (k + 1) = (fullB a0 (bytesI s) k).set (k / 8) (Go.bits .or .u8 ((fullB a0 (bytesI s) k).getD (k / 8) 0) (2 ^ (k % 8) % 256)) := by
          rw [fullB, if_pos hn]
        have HSET : Aside0 (ByteRow 5 (wr.setCell ⟨g, k / 8, none⟩ (.int .u8 (Go.bits .or .u8 ((fullB a0 (bytesI s) k).getD (k / 8) 0) (2 ^ (k % 8) % 256)))) g (fullB a0 (bytesI s) (k + 1))) := ⟨by rw [hst]; exact hset⟩
        clear hset hst hj hm hlen
        have hq0 : (k : Int) / 8 < (s.size : Int) := by omega
        generalize (fullB a0 (bytesI s) k).getD (k / 8) 0 = x at *
        generalize hv : Go.bits .or .u8 x (2 ^ (k % 8) % 256) = v at *
        have HB3 : Aside0 (Below w.heap.size w (wr.setCell ⟨g, k / 8, none⟩ (.int .u8 v)).drew) := ⟨(HB2.out.setCell HW.out _).drew⟩
        go_wp2_with fail
        go_region
        all_goals
          go_wp2
          go_roundw
          case rel => exact ⟨k + 1, by omega, by go_num, ⟨HSET.out.drew⟩, HB3⟩
          case measure => simp [intOf]; omega
      · have hst : fullB a0 (bytesI s) (k + 1) = fullB a0 (bytesI s) k := by rw [fullB, if_neg hn]
        have HSET : Aside0 (ByteRow 5 wr g (fullB a0 (bytesI s) (k + 1))) := ⟨by rw [hst]; exact HROW2.out⟩
        clear hst hj hm hlen
        go_wp2
        go_roundw
        case rel => exact ⟨k + 1, by omega, by go_num, HSET, HB2⟩
        case measure => simp [intOf]; omega
    · have hltz : ¬ (k : Int) < 8 * (s.size : Int) := by omega
      have hkk : k = 8 * s.size := by omega
      subst hkk
      have hback := HROW2.out.back (P := Try.prog) 55 9 Try.underlying55 Try.underlying5 Try.underlying9 s.size c (by rw [fullB_length, HLL.out])
      rw [HR.out] at hback
      go_wp2
      go_ret
      exact ⟨rfl, HB2.out⟩

/-! ### mosaiclaw08_awake: function 9 -/
def mosaiclaw08_awake.f (k : Nat)  : Option (Bool) := (bits_Of.f 10 (([9, 0, 3] : List Int))).bind fun bt110 => (if bt110.1.toList = ([9, 2] : List UInt8) then (if bt110.2 = 0 then ((bits_Full.f 10).bind fun t112 => (if t112.toList = ([255, 3] : List UInt8) then ((bits_Nth.f k t112 2).bind fun t113 => (some (t113 == 2))) else (some false))) else (some false)) else (some false))
theorem mosaiclaw08_awake.mono : ∀ k, LeO (mosaiclaw08_awake.f k ) (mosaiclaw08_awake.f (k + 1) ) := by
  intro  k
  unfold mosaiclaw08_awake.f
  repeat' first
      | (with_reducible exact bits_Nth.mono _ _ _)
      | (with_reducible exact LeO.refl _)
      | (with_reducible exact LeO.none _)
      | (with_reducible refine LeO.ite ?_ ?_)
      | (with_reducible refine LeO.bind ?_ (fun _ => ?_))
      | exact bits_Nth.mono _ _ _
      | exact LeO.none _
      | refine LeO.ite ?_ ?_
      | refine LeO.bind ?_ (fun _ => ?_)
set_option maxHeartbeats 8000000 in
set_option maxRecDepth 100000 in
theorem mosaiclaw08_awake.calls (k : Nat)  (r : Bool) (w : World) (h : mosaiclaw08_awake.f k  = some r) :
    Calls Try.prog 9 #[] w fun e w' => e = .returned (.bool r) ∧ Below w.heap.size w w' := by
  have HB := Aside0.mk (Below.refl w.heap.size w)
  have H : ((bits_Of.f 10 (([9, 0, 3] : List Int))).bind fun bt110 => (if bt110.1.toList = ([9, 2] : List UInt8) then (if bt110.2 = 0 then ((bits_Full.f 10).bind fun t112 => (if t112.toList = ([255, 3] : List UInt8) then ((bits_Nth.f k t112 2).bind fun t113 => (some (t113 == 2))) else (some false))) else (some false)) else (some false))) = some r := h
  clear h
  obtain ⟨y107, hy107⟩ : ∃ y_ : List Int, y_ = (([9, 0, 3] : List Int)) := ⟨_, rfl⟩
  replace H : ((bits_Of.f 10 y107).bind fun bt110 => (if bt110.1.toList = ([9, 2] : List UInt8) then (if bt110.2 = 0 then ((bits_Full.f 10).bind fun t112 => (if t112.toList = ([255, 3] : List UInt8) then ((bits_Nth.f k t112 2).bind fun t113 => (some (t113 == 2))) else (some false))) else (some false)) else (some false))) = some r := by first | (rw [hy107]; with_reducible exact H) | (have H2_ := (Option.bind_some _ _).symm.trans H; rw [hy107]; with_reducible exact H2_) | (have H2_ := (Option.bind_some _ _).symm.trans H; with_reducible exact H2_) | with_reducible exact H | (rw [hy107]; exact H) | exact H
  have Ny107 := Aside0.mk hy107
  clear hy107
  replace H := Option.bind_eq_some_iff.mp H
  obtain ⟨⟨t110, t111⟩, A10, H⟩ := H
  replace H : (if t110.toList = ([9, 2] : List UInt8) then (if t111 = 0 then ((bits_Full.f 10).bind fun t112 => (if t112.toList = ([255, 3] : List UInt8) then ((bits_Nth.f k t112 2).bind fun t113 => (some (t113 == 2))) else (some false))) else (some false)) else (some false)) = some r := H
  have A1 := Aside0.mk A10
  clear A10
  by_cases c2 : t110.toList = ([9, 2] : List UInt8)
  · rw [if_pos c2] at H
    have c2b0 : (t110.toList == ([9, 2] : List UInt8)) = true := beq_iff_eq.mpr c2
    have c2b1 : (t110.toList != ([9, 2] : List UInt8)) = false := bne_eq_false_iff_eq.mpr c2
    clear c2
    by_cases c3 : t111 = 0
    · rw [if_pos c3] at H
      have c3b0 : (t111 == 0) = true := beq_iff_eq.mpr c3
      have c3b1 : (t111 != 0) = false := bne_eq_false_iff_eq.mpr c3
      clear c3
      replace H := Option.bind_eq_some_iff.mp H
      obtain ⟨t112, A40, H⟩ := H
      replace H : (if t112.toList = ([255, 3] : List UInt8) then ((bits_Nth.f k t112 2).bind fun t113 => (some (t113 == 2))) else (some false)) = some r := H
      have A4 := Aside0.mk A40
      clear A40
      by_cases c5 : t112.toList = ([255, 3] : List UInt8)
      · rw [if_pos c5] at H
        have c5b0 : (t112.toList == ([255, 3] : List UInt8)) = true := beq_iff_eq.mpr c5
        have c5b1 : (t112.toList != ([255, 3] : List UInt8)) = false := bne_eq_false_iff_eq.mpr c5
        clear c5
        replace H := Option.bind_eq_some_iff.mp H
        obtain ⟨t113, A60, H⟩ := H
        replace H : (some (t113 == 2)) = some r := H
        have A6 := Aside0.mk A60
        clear A60
        obtain rfl := Option.some.inj H
        go_enter Try.func9, Try.ntmps9
        go_wp2_with (first | ((with_reducible refine gate_dst (N := 4) rfl ?_); refine Kd.R_lit (Kd.int .i64) _ 3 ?hg (N := 4) ?hd (xs := ([9, 0, 3] : List Int)) (inner := [.int .i64 9, .int .i64 0, .int .i64 3]) (ok := fun _ => True) (okp := fun _ => True) ?hr ?hp (fun _ hk => hk) trivial (Below.refl _ _) (Nat.le_refl _) (by simp) ?_; (case hd => rfl); (case hg => rfl); (case hr => first | (go_simp; done) | (go_simp; rfl)); (case hp => exact (Reps.one (show Kd.M (Kd.int .i64) _ _ _ 9 [.int .i64 9] from rfl) (Reps.one (show Kd.M (Kd.int .i64) _ _ _ 0 [.int .i64 0] from rfl) (Reps.one (show Kd.M (Kd.int .i64) _ _ _ 3 [.int .i64 3] from rfl) (Reps.none _ _))))); intro v108 w7 ho8 hb hg_ hnew_; clear hg_ hnew_; (first | rw [← Ny107.out] at ho8 | (simp only [Int.reduceToNat] at ho8; rw [← Ny107.out] at ho8)); have n0_ := Aside0.mk (Kd.R_lower ho8 (below_size (by repeat (first | (with_reducible first | exact HB.out | apply below_alloc | apply pw_below_drewN | apply below_drew1) | exact HB.out)))); have n1_ := Aside0.mk (below_step (by repeat (first | (with_reducible first | exact HB.out | apply below_alloc | apply pw_below_drewN | apply below_drew1) | exact HB.out)) hb); clear HB; have HO109 := n0_; have HB := n1_; clear n0_ n1_; clear hb ho8; obtain ⟨Ao9, co9, eo9⟩ := Kd.R_slice HO109.out; subst eo9) | ((with_reducible refine gate_callee (f := 15) rfl ?_); refine goesL_ (some 5) rfl rfl Try.func15 (by kernel_rfl) rfl #[.int .i64 10, .slice Ao9 y107.length co9] rfl (by (try simp only [List.map_toArray, List.map_cons, List.map_nil]); first | done | rfl | (simp only [List.length_drop, List.length_take]; rfl)) ?_; (with_reducible refine (bits_Of.calls 10 _ _ y107 t110 t111 _ ?side1 ?side2 A1.out).mono ?_); (case side1 => repeat (first | exact (Kd.R_reads' HO109.out).2.2 | (with_reducible refine Kd.C_alloc ?_ _) | (with_reducible refine Kd.C_drewN ?_ _) | (with_reducible refine Kd.C_drew ?_))); (case side2 => exact (Kd.R_reads' HO109.out).2.1); rintro e w10 ⟨rfl, hb⟩; refine ⟨_, rfl, ?_⟩; have n0_ := Aside0.mk (Kd.R_below (by (with_reducible repeat (first | apply Kd.R_alloc | apply Kd.R_drewN | apply Kd.R_drew)); exact HO109.out) hb); have n1_ := Aside0.mk (below_step (by repeat (first | (with_reducible first | exact HB.out | apply below_alloc | apply pw_below_drewN | apply below_drew1) | exact HB.out)) hb); clear HO109; clear HB; have HO109 := n0_; have HB := n1_; clear n0_ n1_; (try clear hb); (try clear hb2); (try clear hk); (try clear hi)) | (go_at_call 24; (with_reducible refine (bits_Full.calls 10 t112 _ A4.out).mono ?_); rintro e w11 ⟨rfl, hb⟩; have n0_ := Aside0.mk (Kd.R_below (by (with_reducible repeat (first | apply Kd.R_alloc | apply Kd.R_drewN | apply Kd.R_drew)); exact HO109.out) hb); have n1_ := Aside0.mk (below_step (by repeat (first | (with_reducible first | exact HB.out | apply below_alloc | apply pw_below_drewN | apply below_drew1) | exact HB.out)) hb); clear HO109; clear HB; have HO109 := n0_; have HB := n1_; clear n0_ n1_; (try clear hb); (try clear hb2); (try clear hk); (try clear hi)) | (go_at_call 13; (with_reducible refine (bits_Nth.calls k t112 2 t113 _ A6.out).mono ?_); rintro e w' ⟨rfl, ⟨nd, rfl⟩⟩))
        go_ret
        exact ⟨by first | rfl | (simp [errW_none, errW_some] <;> rfl) | (simp [*, errW_none, errW_some] <;> rfl), by repeat (first | (with_reducible first | exact HB.out | apply below_alloc | apply pw_below_drewN | apply below_drew1) | exact HB.out)⟩
      · rw [if_neg c5] at H
        have c5b0 : (t112.toList == ([255, 3] : List UInt8)) = false := beq_eq_false_iff_ne.mpr c5
        have c5b1 : (t112.toList != ([255, 3] : List UInt8)) = true := bne_iff_ne.mpr c5
        obtain rfl := Option.some.inj H
        go_enter Try.func9, Try.ntmps9
        go_wp2_with (first | ((with_reducible refine gate_dst (N := 4) rfl ?_); refine Kd.R_lit (Kd.int .i64) _ 3 ?hg (N := 4) ?hd (xs := ([9, 0, 3] : List Int)) (inner := [.int .i64 9, .int .i64 0, .int .i64 3]) (ok := fun _ => True) (okp := fun _ => True) ?hr ?hp (fun _ hk => hk) trivial (Below.refl _ _) (Nat.le_refl _) (by simp) ?_; (case hd => rfl); (case hg => rfl); (case hr => first | (go_simp; done) | (go_simp; rfl)); (case hp => exact (Reps.one (show Kd.M (Kd.int .i64) _ _ _ 9 [.int .i64 9] from rfl) (Reps.one (show Kd.M (Kd.int .i64) _ _ _ 0 [.int .i64 0] from rfl) (Reps.one (show Kd.M (Kd.int .i64) _ _ _ 3 [.int .i64 3] from rfl) (Reps.none _ _))))); intro v108 w12 ho13 hb hg_ hnew_; clear hg_ hnew_; (first | rw [← Ny107.out] at ho13 | (simp only [Int.reduceToNat] at ho13; rw [← Ny107.out] at ho13)); have n0_ := Aside0.mk (Kd.R_lower ho13 (below_size (by repeat (first | (with_reducible first | exact HB.out | apply below_alloc | apply pw_below_drewN | apply below_drew1) | exact HB.out)))); have n1_ := Aside0.mk (below_step (by repeat (first | (with_reducible first | exact HB.out | apply below_alloc | apply pw_below_drewN | apply below_drew1) | exact HB.out)) hb); clear HB; have HO109 := n0_; have HB := n1_; clear n0_ n1_; clear hb ho13; obtain ⟨Ao14, co14, eo14⟩ := Kd.R_slice HO109.out; subst eo14) | ((with_reducible refine gate_callee (f := 15) rfl ?_); refine goesL_ (some 5) rfl rfl Try.func15 (by kernel_rfl) rfl #[.int .i64 10, .slice Ao14 y107.length co14] rfl (by (try simp only [List.map_toArray, List.map_cons, List.map_nil]); first | done | rfl | (simp only [List.length_drop, List.length_take]; rfl)) ?_; (with_reducible refine (bits_Of.calls 10 _ _ y107 t110 t111 _ ?side1 ?side2 A1.out).mono ?_); (case side1 => repeat (first | exact (Kd.R_reads' HO109.out).2.2 | (with_reducible refine Kd.C_alloc ?_ _) | (with_reducible refine Kd.C_drewN ?_ _) | (with_reducible refine Kd.C_drew ?_))); (case side2 => exact (Kd.R_reads' HO109.out).2.1); rintro e w15 ⟨rfl, hb⟩; refine ⟨_, rfl, ?_⟩; have n0_ := Aside0.mk (Kd.R_below (by (with_reducible repeat (first | apply Kd.R_alloc | apply Kd.R_drewN | apply Kd.R_drew)); exact HO109.out) hb); have n1_ := Aside0.mk (below_step (by repeat (first | (with_reducible first | exact HB.out | apply below_alloc | apply pw_below_drewN | apply below_drew1) | exact HB.out)) hb); clear HO109; clear HB; have HO109 := n0_; have HB := n1_; clear n0_ n1_; (try clear hb); (try clear hb2); (try clear hk); (try clear hi)) | (go_at_call 24; (with_reducible refine (bits_Full.calls 10 t112 _ A4.out).mono ?_); rintro e w16 ⟨rfl, hb⟩; have n0_ := Aside0.mk (Kd.R_below (by (with_reducible repeat (first | apply Kd.R_alloc | apply Kd.R_drewN | apply Kd.R_drew)); exact HO109.out) hb); have n1_ := Aside0.mk (below_step (by repeat (first | (with_reducible first | exact HB.out | apply below_alloc | apply pw_below_drewN | apply below_drew1) | exact HB.out)) hb); clear HO109; clear HB; have HO109 := n0_; have HB := n1_; clear n0_ n1_; (try clear hb); (try clear hb2); (try clear hk); (try clear hi)))
        go_ret
        exact ⟨by first | rfl | (simp [errW_none, errW_some] <;> rfl) | (simp [*, errW_none, errW_some] <;> rfl), by repeat (first | (with_reducible first | exact HB.out | apply below_alloc | apply pw_below_drewN | apply below_drew1) | exact HB.out)⟩
    · rw [if_neg c3] at H
      have c3b0 : (t111 == 0) = false := beq_eq_false_iff_ne.mpr c3
      have c3b1 : (t111 != 0) = true := bne_iff_ne.mpr c3
      obtain rfl := Option.some.inj H
      go_enter Try.func9, Try.ntmps9
      go_wp2_with (first | ((with_reducible refine gate_dst (N := 4) rfl ?_); refine Kd.R_lit (Kd.int .i64) _ 3 ?hg (N := 4) ?hd (xs := ([9, 0, 3] : List Int)) (inner := [.int .i64 9, .int .i64 0, .int .i64 3]) (ok := fun _ => True) (okp := fun _ => True) ?hr ?hp (fun _ hk => hk) trivial (Below.refl _ _) (Nat.le_refl _) (by simp) ?_; (case hd => rfl); (case hg => rfl); (case hr => first | (go_simp; done) | (go_simp; rfl)); (case hp => exact (Reps.one (show Kd.M (Kd.int .i64) _ _ _ 9 [.int .i64 9] from rfl) (Reps.one (show Kd.M (Kd.int .i64) _ _ _ 0 [.int .i64 0] from rfl) (Reps.one (show Kd.M (Kd.int .i64) _ _ _ 3 [.int .i64 3] from rfl) (Reps.none _ _))))); intro v108 w17 ho18 hb hg_ hnew_; clear hg_ hnew_; (first | rw [← Ny107.out] at ho18 | (simp only [Int.reduceToNat] at ho18; rw [← Ny107.out] at ho18)); have n0_ := Aside0.mk (Kd.R_lower ho18 (below_size (by repeat (first | (with_reducible first | exact HB.out | apply below_alloc | apply pw_below_drewN | apply below_drew1) | exact HB.out)))); have n1_ := Aside0.mk (below_step (by repeat (first | (with_reducible first | exact HB.out | apply below_alloc | apply pw_below_drewN | apply below_drew1) | exact HB.out)) hb); clear HB; have HO109 := n0_; have HB := n1_; clear n0_ n1_; clear hb ho18; obtain ⟨Ao19, co19, eo19⟩ := Kd.R_slice HO109.out; subst eo19) | ((with_reducible refine gate_callee (f := 15) rfl ?_); refine goesL_ (some 5) rfl rfl Try.func15 (by kernel_rfl) rfl #[.int .i64 10, .slice Ao19 y107.length co19] rfl (by (try simp only [List.map_toArray, List.map_cons, List.map_nil]); first | done | rfl | (simp only [List.length_drop, List.length_take]; rfl)) ?_; (with_reducible refine (bits_Of.calls 10 _ _ y107 t110 t111 _ ?side1 ?side2 A1.out).mono ?_); (case side1 => repeat (first | exact (Kd.R_reads' HO109.out).2.2 | (with_reducible refine Kd.C_alloc ?_ _) | (with_reducible refine Kd.C_drewN ?_ _) | (with_reducible refine Kd.C_drew ?_))); (case side2 => exact (Kd.R_reads' HO109.out).2.1); rintro e w20 ⟨rfl, hb⟩; refine ⟨_, rfl, ?_⟩; have n0_ := Aside0.mk (Kd.R_below (by (with_reducible repeat (first | apply Kd.R_alloc | apply Kd.R_drewN | apply Kd.R_drew)); exact HO109.out) hb); have n1_ := Aside0.mk (below_step (by repeat (first | (with_reducible first | exact HB.out | apply below_alloc | apply pw_below_drewN | apply below_drew1) | exact HB.out)) hb); clear HO109; clear HB; have HO109 := n0_; have HB := n1_; clear n0_ n1_; (try clear hb); (try clear hb2); (try clear hk); (try clear hi)))
      go_ret
      exact ⟨by first | rfl | (simp [errW_none, errW_some] <;> rfl) | (simp [*, errW_none, errW_some] <;> rfl), by repeat (first | (with_reducible first | exact HB.out | apply below_alloc | apply pw_below_drewN | apply below_drew1) | exact HB.out)⟩
  · rw [if_neg c2] at H
    have c2b0 : (t110.toList == ([9, 2] : List UInt8)) = false := beq_eq_false_iff_ne.mpr c2
    have c2b1 : (t110.toList != ([9, 2] : List UInt8)) = true := bne_iff_ne.mpr c2
    obtain rfl := Option.some.inj H
    go_enter Try.func9, Try.ntmps9
    go_wp2_with (first | ((with_reducible refine gate_dst (N := 4) rfl ?_); refine Kd.R_lit (Kd.int .i64) _ 3 ?hg (N := 4) ?hd (xs := ([9, 0, 3] : List Int)) (inner := [.int .i64 9, .int .i64 0, .int .i64 3]) (ok := fun _ => True) (okp := fun _ => True) ?hr ?hp (fun _ hk => hk) trivial (Below.refl _ _) (Nat.le_refl _) (by simp) ?_; (case hd => rfl); (case hg => rfl); (case hr => first | (go_simp; done) | (go_simp; rfl)); (case hp => exact (Reps.one (show Kd.M (Kd.int .i64) _ _ _ 9 [.int .i64 9] from rfl) (Reps.one (show Kd.M (Kd.int .i64) _ _ _ 0 [.int .i64 0] from rfl) (Reps.one (show Kd.M (Kd.int .i64) _ _ _ 3 [.int .i64 3] from rfl) (Reps.none _ _))))); intro v108 w21 ho22 hb hg_ hnew_; clear hg_ hnew_; (first | rw [← Ny107.out] at ho22 | (simp only [Int.reduceToNat] at ho22; rw [← Ny107.out] at ho22)); have n0_ := Aside0.mk (Kd.R_lower ho22 (below_size (by repeat (first | (with_reducible first | exact HB.out | apply below_alloc | apply pw_below_drewN | apply below_drew1) | exact HB.out)))); have n1_ := Aside0.mk (below_step (by repeat (first | (with_reducible first | exact HB.out | apply below_alloc | apply pw_below_drewN | apply below_drew1) | exact HB.out)) hb); clear HB; have HO109 := n0_; have HB := n1_; clear n0_ n1_; clear hb ho22; obtain ⟨Ao23, co23, eo23⟩ := Kd.R_slice HO109.out; subst eo23) | ((with_reducible refine gate_callee (f := 15) rfl ?_); refine goesL_ (some 5) rfl rfl Try.func15 (by kernel_rfl) rfl #[.int .i64 10, .slice Ao23 y107.length co23] rfl (by (try simp only [List.map_toArray, List.map_cons, List.map_nil]); first | done | rfl | (simp only [List.length_drop, List.length_take]; rfl)) ?_; (with_reducible refine (bits_Of.calls 10 _ _ y107 t110 t111 _ ?side1 ?side2 A1.out).mono ?_); (case side1 => repeat (first | exact (Kd.R_reads' HO109.out).2.2 | (with_reducible refine Kd.C_alloc ?_ _) | (with_reducible refine Kd.C_drewN ?_ _) | (with_reducible refine Kd.C_drew ?_))); (case side2 => exact (Kd.R_reads' HO109.out).2.1); rintro e w24 ⟨rfl, hb⟩; refine ⟨_, rfl, ?_⟩; have n0_ := Aside0.mk (Kd.R_below (by (with_reducible repeat (first | apply Kd.R_alloc | apply Kd.R_drewN | apply Kd.R_drew)); exact HO109.out) hb); have n1_ := Aside0.mk (below_step (by repeat (first | (with_reducible first | exact HB.out | apply below_alloc | apply pw_below_drewN | apply below_drew1) | exact HB.out)) hb); clear HO109; clear HB; have HO109 := n0_; have HB := n1_; clear n0_ n1_; (try clear hb); (try clear hb2); (try clear hk); (try clear hi)))
    go_ret
    exact ⟨by first | rfl | (simp [errW_none, errW_some] <;> rfl) | (simp [*, errW_none, errW_some] <;> rfl), by repeat (first | (with_reducible first | exact HB.out | apply below_alloc | apply pw_below_drewN | apply below_drew1) | exact HB.out)⟩

end Go.Proofs.Ytkfilmhconpnbaa.PBitsMakes
