-- Written by this session's own program (wip/tools/mkprint.py) over the kit's printer, with overrides.
import Derived.Test.YtehnebddmbdnhaaTWireAparta
import Derived.Test.YtehnebddmbdnhaaQWireApartx0
import Derived.Test.YtehnebddmbdnhaaQWireApartx2
import Derived.Test.YtehnebddmbdnhaaQWireApartx3
namespace Go.Proofs.Ytehnebddmbdnhaa.PWireApart
open Go.RowKit Go.Mine Go.Proofs.YtehnebddmbdnhaaW.PrintWords Go.Proofs.YtehnebddmbdnhaaW.PrintLast Go.Proofs.YtehnebddmbdnhaaW.PrintMore
attribute [local go_sem] max2_int min2_int max_two min_two max_three min_three max_four min_four   -- for this text's walks alone
set_option linter.unusedVariables false
set_option linter.unusedSimpArgs false
/-! ### oct_Put: function 51 -/
mutual
def oct_Put.j0 : Nat → Int → Int → Bool → Option (ByteArray × Int)
 | 0, _, _, _ => none
 | k + 1, x0, x1, x8 => if x8 = true then (some ((⟨#[]⟩ : ByteArray), 1)) else (if x0 < 0 then (some ((⟨#[]⟩ : ByteArray), 8)) else (if 0 ≤ (wrap64 (8 * x1)) then (if (shr .i64 x0 (wrap64 (8 * x1))) = 0 then (oct_Put.l0 k x0 ([] : List Int) (wrap64 (x1 - 1))) else (some ((⟨#[]⟩ : ByteArray), 8))) else (none)))
def oct_Put.l0 : Nat → Int → List Int → Int → Option (ByteArray × Int)
 | 0, _, _, _ => none
 | k + 1, x0, x6, x7 => if x7 ≥ 0 then (if 0 ≤ (wrap64 (8 * x7)) then (if x6.length < 140737488355328 then (oct_Put.l0 k x0 (x6 ++ [(shr .i64 x0 (wrap64 (8 * x7))) % 256]) (wrap64 (x7 - 1))) else (none)) else (none)) else (some (strOfNums x6, 0))
end
def oct_Put.f (k : Nat) (a0 : Int) (a1 : Int) : Option (ByteArray × Int) := if a1 < 1 then (oct_Put.j0 k a0 a1 true) else (oct_Put.j0 k a0 a1 (decide (a1 > 7)))
theorem oct_Put.mono_l : ∀ k, (∀ y0 y1 y2, LeO (oct_Put.j0 k y0 y1 y2) (oct_Put.j0 (k + 1) y0 y1 y2)) ∧ (∀ y0 y1 y2, LeO (oct_Put.l0 k y0 y1 y2) (oct_Put.l0 (k + 1) y0 y1 y2))
 | 0 => ⟨fun _ _ _ r h => by simp [oct_Put.j0] at h, fun _ _ _ r h => by simp [oct_Put.l0] at h⟩
 | k + 1 => by
  obtain ⟨ih0, ih1⟩ := oct_Put.mono_l k
  refine ⟨?_, ?_⟩ <;> intros <;> (first | unfold oct_Put.j0 | unfold oct_Put.l0)
  all_goals repeat' first | (with_reducible first | apply ih0 | apply ih1 | exact LeO.refl _ | exact LeO.none _ | refine LeO.ite ?_ ?_ | refine LeO.bind ?_ (fun _ => ?_)) | apply ih0 | apply ih1 | exact LeO.none _ | refine LeO.ite ?_ ?_ | refine LeO.bind ?_ (fun _ => ?_)
theorem oct_Put.mono : ∀ a0 a1 k, LeO (oct_Put.f k a0 a1) (oct_Put.f (k + 1) a0 a1) := by
 intro a0 a1 k
 obtain ⟨ih0, ih1⟩ := oct_Put.mono_l k
 unfold oct_Put.f
 repeat' first | (with_reducible first | apply ih0 | apply ih1 | exact LeO.refl _ | exact LeO.none _ | refine LeO.ite ?_ ?_ | refine LeO.bind ?_ (fun _ => ?_)) | apply ih0 | apply ih1 | exact LeO.none _ | refine LeO.ite ?_ ?_ | refine LeO.bind ?_ (fun _ => ?_)
set_option maxHeartbeats 8000000 in
set_option maxRecDepth 100000 in
theorem oct_Put.calls (k : Nat) (a0 : Int) (a1 : Int) (r1 : ByteArray) (r2 : Int) (w : World) (h : oct_Put.f k a0 a1 = some (r1, r2)) :
  Calls Try.prog 51 #[.int .i64 a0, .int .i64 a1] w fun e w' => e = .returned (.tuple #[.string r1, .int .i64 r2]) ∧ Below w.heap.size w w' := by
 have HB := Aside0.mk (Below.refl w.heap.size w)
 have H : (if a1 < 1 then (oct_Put.j0 k a0 a1 true) else (oct_Put.j0 k a0 a1 (decide (a1 > 7)))) = some (r1, r2) := h
 clear h; have HC3 := Aside0.mk H
 clear H; go_enter Try.func51, Try.ntmps51
 go_upto_region 1 with (fail)
 go_cut [8] (fun v8 wc => ∃ (kq : Nat) (x8_2 : Bool), v8 = .bool x8_2 ∧ Aside0 (oct_Put.j0 kq a0 a1 x8_2 = some (r1, r2)) ∧ Aside0 (kq ≤ k) ∧ Aside0 (Below w.heap.size w wc))
 case first =>
  have H := HC3.out; clear HC3; by_cases c4 : a1 < 1
  ·
   rw [if_pos c4] at H
   have c4b0 : decide (a1 < 1) = true := decide_eq_true c4
   clear c4; (first | rw [c4b0] | (simp only [i64_w, i32_w]; rw [c4b0]) | skip)
   have H' := Aside0.mk H
   clear H; go_wp2
   go_meet
   case rel => exact ⟨_, (true), zF, H', ⟨by first | omega | exact Nat.le_refl _⟩, ⟨zB⟩⟩
  ·
   rw [if_neg c4] at H
   have c4b0 : decide (a1 < 1) = false := decide_eq_false c4
   clear c4; (first | rw [c4b0] | (simp only [i64_w, i32_w]; rw [c4b0]) | skip)
   have H' := Aside0.mk H
   clear H; go_wp2
   go_meet
   case rel => exact ⟨_, (decide (a1 > 7)), zF, H', ⟨by first | omega | exact Nat.le_refl _⟩, ⟨zB⟩⟩
 case rest =>
  clear HC3; obtain ⟨kq, x8_2, rfl, HA, HJ2, HB⟩ := hcut
  cases kq with
  | zero => exact absurd HA.out (by simp [oct_Put.j0])
  | succ kj2 =>
   have H := HA.out; clear HA; simp only [oct_Put.j0] at H
   by_cases c5 : x8_2 = true
   ·
    subst c5
    have H1 : (some ((⟨#[]⟩ : ByteArray), 1)) = some (r1, r2) := by rw [if_pos rfl] at H; exact H
    clear H; have H := H1; clear H1; simp only [Option.some.injEq, Prod.mk.injEq] at H
    obtain ⟨rfl, rfl⟩ := H
    go_wp2
    go_ret2
    exact ⟨zE, zB⟩
   ·
    replace c5 := Bool.eq_false_iff.mpr c5
    subst c5
    have H1 : (if a0 < 0 then (some ((⟨#[]⟩ : ByteArray), 8)) else (if 0 ≤ (wrap64 (8 * a1)) then (if (shr .i64 a0 (wrap64 (8 * a1))) = 0 then (oct_Put.l0 kj2 a0 ([] : List Int) (wrap64 (a1 - 1))) else (some ((⟨#[]⟩ : ByteArray), 8))) else (none))) = some (r1, r2) := by rw [if_neg (show ¬ (false = true) by decide)] at H; exact H
    clear H; have H := H1; clear H1; by_cases c6 : a0 < 0
    ·
     rw [if_pos c6] at H
     have c6b0 : decide (a0 < 0) = true := decide_eq_true c6
     clear c6; simp only [Option.some.injEq, Prod.mk.injEq] at H
     obtain ⟨rfl, rfl⟩ := H
     go_wp2
     go_ret2
     exact ⟨zE, zB⟩
    ·
     rw [if_neg c6] at H
     have c6b0 : decide (a0 < 0) = false := decide_eq_false c6
     clear c6; obtain ⟨ji7, hji7⟩ : ∃ j_ : Int, (wrap64 (8 * a1)) = j_ := ⟨_, rfl⟩
     replace H : (if 0 ≤ (ji7) then (if (shr .i64 a0 (ji7)) = 0 then (oct_Put.l0 kj2 a0 ([] : List Int) (wrap64 (a1 - 1))) else (some ((⟨#[]⟩ : ByteArray), 8))) else (none)) = some (r1, r2) := by first | (rw [hji7] at H; exact H) | (simp only [hji7] at H ⊢; exact H)
     have hji7w : (IntKind.i64.wrap (8 * a1)) = ji7 := (i64_w _).trans hji7
     by_cases c8 : 0 ≤ (ji7)
     ·
      rw [if_pos c8] at H
      have c8b0 := eq_true c8
      have c8b1 : decide (0 ≤ (ji7)) = true := decide_eq_true c8
      clear c8; obtain ⟨ji9, hji9⟩ : ∃ j_ : Int, (shr .i64 a0 (ji7)) = j_ := ⟨_, rfl⟩
      replace H : (if (ji9) = 0 then (oct_Put.l0 kj2 a0 ([] : List Int) (wrap64 (a1 - 1))) else (some ((⟨#[]⟩ : ByteArray), 8))) = some (r1, r2) := by first | (rw [hji9] at H; exact H) | (simp only [hji9] at H ⊢; exact H)
      have hji9_ : (a0 / 2 ^ min (ji7).toNat 64) = ji9 := hji9
      have hji9z : (ji7) ≤ 64 → (a0 / 2 ^ (ji7).toNat) = ji9 := shr_small hji9
      by_cases c10 : (ji9) = 0
      ·
       rw [if_pos c10] at H
       have c10b0 : ((ji9) == 0) = true := beq_iff_eq.mpr c10
       have c10b1 : ((ji9) != 0) = false := bne_eq_false_iff_eq.mpr c10
       clear c10; have H' := Aside0.mk H
       clear H; go_wp2
       go_loopg [6, 7] kj2 (fun kq v6 v7 w' => ∃ (x6_2 : List Int) (x7_2 : Int), v7 = .int .i64 x7_2 ∧ Aside0 (oct_Put.l0 kq a0 x6_2 x7_2 = some (r1, r2)) ∧ Aside0 (kq ≤ kj2) ∧ Aside0 (Kd.R (Kd.int .u8) 5 w' w.heap.size (fun _ => True) v6 x6_2) ∧ Aside0 (Below w.heap.size w w'))
       case atStart => exact ⟨(([] : List Int)), (wrap64 (a1 - 1)), zF, H', ⟨Nat.le_refl _⟩, ⟨by first | exact Kd.R_nil _ _ _ _ _ | exact Kd.N_nil _ _ _ _ _ | exact Kd.V_nil _ _ _ _ _ | exact Kd.Q_nil _ _ _ _ _ | exact Kd.S_nil _ _ _ _ _⟩, ⟨zB⟩⟩
       case round =>
        clear H'
        obtain ⟨x6_2, x7_2, rfl, HA, HK2, HO_6, HB⟩ := hrel
        cases gk with
        | zero => exact absurd HA.out (by simp [oct_Put.l0])
        | succ k2 =>
         have H := HA.out; clear HA; simp only [oct_Put.l0] at H
         by_cases c11 : x7_2 ≥ 0
         ·
          rw [if_pos c11] at H
          have c11b0 : decide (0 ≤ x7_2) = true := decide_eq_true c11
          clear c11; obtain ⟨ji12, hji12⟩ : ∃ j_ : Int, (wrap64 (8 * x7_2)) = j_ := ⟨_, rfl⟩
          replace H : (if 0 ≤ (ji12) then (if x6_2.length < 140737488355328 then (oct_Put.l0 k2 a0 (x6_2 ++ [(shr .i64 a0 (ji12)) % 256]) (wrap64 (x7_2 - 1))) else (none)) else (none)) = some (r1, r2) := by first | (rw [hji12] at H; exact H) | (simp only [hji12] at H ⊢; exact H)
          have hji12w : (IntKind.i64.wrap (8 * x7_2)) = ji12 := (i64_w _).trans hji12
          by_cases c13 : 0 ≤ (ji12)
          ·
           rw [if_pos c13] at H
           have c13b0 := eq_true c13
           have c13b1 : decide (0 ≤ (ji12)) = true := decide_eq_true c13
           clear c13; obtain ⟨ji14, hji14⟩ : ∃ j_ : Int, (shr .i64 a0 (ji12)) = j_ := ⟨_, rfl⟩
           replace H : (if x6_2.length < 140737488355328 then (oct_Put.l0 k2 a0 (x6_2 ++ [(ji14) % 256]) (wrap64 (x7_2 - 1))) else (none)) = some (r1, r2) := by first | (rw [hji14] at H; exact H) | (simp only [hji14] at H ⊢; exact H)
           have hji14_ : (a0 / 2 ^ min (ji12).toNat 64) = ji14 := hji14
           have hji14z : (ji12) ≤ 64 → (a0 / 2 ^ (ji12).toNat) = ji14 := shr_small hji14
           by_cases c15 : x6_2.length < 140737488355328
           ·
            rw [if_pos c15] at H
            have LMc15 := Aside0.mk c15
            clear c15; obtain ⟨y122, hy122⟩ : ∃ y_ : List Int, y_ = (x6_2 ++ [(ji14) % 256]) := ⟨_, rfl⟩
            replace H : (oct_Put.l0 k2 a0 y122 (wrap64 (x7_2 - 1))) = some (r1, r2) := by first | (rw [hy122]; with_reducible exact H) | (have H2_ := (Option.bind_some _ _).symm.trans H; rw [hy122]; with_reducible exact H2_) | (have H2_ := (Option.bind_some _ _).symm.trans H; with_reducible exact H2_) | with_reducible exact H | (rw [hy122]; exact H) | exact H
            have Ny122 := Aside0.mk hy122
            clear hy122; have H' := Aside0.mk H
            clear H; go_wp2_with (first | ((with_reducible refine gate_builtin (b := .append) (xs := #[.tmp 31, .tmp 37]) rfl ?_); at_builtin; refine Kd.R_append (Kd.int .u8) (w0 := w) w.heap.size rfl (.tmp 31) (.tmp 37) 95 5 (.int .u8 0) 1 rfl Try.underlying95 info5 rfl (by decide) (by omega) u6 x6_2 ((ji14) % 256) [.int .u8 ((ji14) % 256)] (fun _ => True) (fun _ => False) rfl rfl ?aP (fun _ hk => hk.elim) ?aF ?aO ?aB ?aS ?aL ?_; (case aP => exact rfl); (case aB => exact zB); (case aF => exact (fun _ _ => trivial)); (case aO => exact (by (with_reducible repeat (first | apply Kd.R_alloc | apply Kd.R_drewN | apply Kd.R_drew)); exact HO_6.out)); (case aS => exact (below_size zB)); (case aL => have := LMc15.out; omega); intro v123 w16 ho hb hg hat; rw [← Ny122.out] at ho; have HO124 := Aside0.mk (ho); replace HB := Aside0.mk (hb); clear HO_6; clear ho hb hg hat))
            go_roundg k2
            case measure => have := HJ2.out; have := HK2.out; omega
            case rel => exact ⟨(y122), (wrap64 (x7_2 - 1)), zF, H', ⟨by have := HJ2.out; have := HK2.out; omega⟩, ⟨zR HO124⟩, ⟨zB⟩⟩
           ·
            rw [if_neg c15] at H
            exact absurd H (by simp)
          ·
           rw [if_neg c13] at H
           exact absurd H (by simp)
         ·
          rw [if_neg c11] at H
          have c11b0 : decide (0 ≤ x7_2) = false := decide_eq_false c11
          clear c11; simp only [Option.some.injEq, Prod.mk.injEq] at H
          obtain ⟨rfl, rfl⟩ := H
          have hcv17 := own_string (P := Try.prog) Try.underlying95 Try.underlying5 Try.underlying9 (Kd.own_of_R HO_6.out)
          have hcvd18 := fun n_ => own_string (P := Try.prog) Try.underlying95 Try.underlying5 Try.underlying9 (Kd.own_of_R (Kd.R_drewN HO_6.out n_))
          go_wp2
          go_ret2
          exact ⟨by first | rfl | (simp [errW_none, errW_some] <;> rfl) | (simp only [← hji7, ← hji9]; first | rfl | (simp [errW_none, errW_some] <;> rfl)) | (simp [*, errW_none, errW_some] <;> rfl), zB⟩
      ·
       rw [if_neg c10] at H
       have c10b0 : ((ji9) == 0) = false := beq_eq_false_iff_ne.mpr c10
       have c10b1 : ((ji9) != 0) = true := bne_iff_ne.mpr c10
       simp only [Option.some.injEq, Prod.mk.injEq] at H
       obtain ⟨rfl, rfl⟩ := H
       go_wp2
       go_ret2
       exact ⟨by first | rfl | (simp [errW_none, errW_some] <;> rfl) | (simp only [← hji7, ← hji9]; first | rfl | (simp [errW_none, errW_some] <;> rfl)) | (simp [*, errW_none, errW_some] <;> rfl), zB⟩
     ·
      rw [if_neg c8] at H
      exact absurd H (by simp)
/-! ### oct_Writer_Num: function 22 -/
theorem oct_Writer_Num.wr (k : Nat) (B g : Nat) (v : Value) (s t : ByteArray) (er x y f : Int) (w : World) (h : IsWr 99 5 B g v s er w) (hp : oct_Put.f k x y = some (t, f)) (hs : s.size ≤ 65536) (ht : t.size ≤ 140737488289000) (hBw : B ≤ w.heap.size) :
    Calls Try.prog 22 #[.pointer (some ⟨g, 0, none⟩), .int .i64 x, .int .i64 y] w fun e w' => e = .returned (.tuple #[]) ∧ WrStep 99 5 B g v (putS s er t f).1 (putS s er t f).2 w w' := by
  have HP0 := Aside0.mk hp
  have HI := Aside0.mk h
  clear h hp
  go_enter Try.func22, Try.ntmps22
  go_wp2_with fail
  refine (oct_Put.calls k x y t f w HP0.out).mono ?_
  rintro e w1 ⟨rfl, hb⟩
  have HP := Aside0.mk (oct_Writer_put.wr B g v s t er f w1 (HI.out.below hb) hs ht (Nat.le_trans hBw hb.size))
  have HB := Aside0.mk hb
  clear hb
  go_wp2_with (go_at_call 50; refine HP.out.mono ?_; rintro e w' ⟨rfl, HS⟩; have HSS := Aside0.mk HS; clear HS)
  go_end0
  refine ⟨rfl, ?_⟩
  obtain ⟨v', h1, h2, h3⟩ := HSS.out
  refine ⟨v', h1, (HB.out.mono hBw).trans h2, (Kept.of_below HB.out _).then_ h3 (fun k hk => .inl hk)⟩
theorem oct_Writer_Num.nil (x y : Int) (w : World) : Calls Try.prog 22 #[.pointer none, .int .i64 x, .int .i64 y] w fun e w' => e = .returned (.tuple #[]) ∧ w' = w := by
  go_enter Try.func22, Try.ntmps22
  go_wp2
  go_end0
  exact ⟨rfl, rfl⟩
/-! ### oct_Writer_Raw: function 23 -/
theorem oct_Writer_Raw.wr (B g : Nat) (v : Value) (s t : ByteArray) (er : Int) (w : World) (h : IsWr 99 5 B g v s er w) (hs : s.size ≤ 65536) (ht : t.size ≤ 140737488289000) (hBw : B ≤ w.heap.size) :
    Calls Try.prog 23 #[.pointer (some ⟨g, 0, none⟩), .string t] w fun e w' => e = .returned (.tuple #[]) ∧ WrStep 99 5 B g v (putS s er t 0).1 (putS s er t 0).2 w w' := by
  have HP := Aside0.mk (oct_Writer_put.wr B g v s t er 0 w h hs ht hBw)
  clear h
  go_enter Try.func23, Try.ntmps23
  go_wp2_with (go_at_call 50; refine HP.out.mono ?_; rintro e w' ⟨rfl, HS⟩; have HSS := Aside0.mk HS; clear HS)
  go_end0
  exact ⟨rfl, HSS.out⟩
theorem oct_Writer_Raw.nil (t : ByteArray) (w : World) : Calls Try.prog 23 #[.pointer none, .string t] w fun e w' => e = .returned (.tuple #[]) ∧ w' = w := by
  go_enter Try.func23, Try.ntmps23
  go_wp2
  go_end0
  exact ⟨rfl, rfl⟩
/-! ### oct_Writer_Text: function 24 -/
theorem oct_Writer_Text.wr (k : Nat) (B g : Nat) (v : Value) (s t u : ByteArray) (er f : Int) (w : World) (h : IsWr 99 5 B g v s er w) (hp : oct_Put.f k (t.size : Int) 2 = some (u, f)) (hs : s.size ≤ 65536) (ht : t.size ≤ 65535) (hu : u.size ≤ 10) (hBw : B ≤ w.heap.size) :
    Calls Try.prog 24 #[.pointer (some ⟨g, 0, none⟩), .string t] w fun e w' => e = .returned (.tuple #[]) ∧ WrStep 99 5 B g v (putS s er (u ++ t) 0).1 (putS s er (u ++ t) 0).2 w w' := by
  have HP0 := Aside0.mk hp
  have HI := Aside0.mk h
  have ht2 : ¬ (65535 : Int) < (t.size : Int) := by omega
  clear h hp
  go_enter Try.func24, Try.ntmps24
  go_wp2_with fail
  refine (oct_Put.calls k _ 2 u f w HP0.out).mono ?_
  rintro e w1 ⟨rfl, hb⟩
  have HP := Aside0.mk (oct_Writer_put.wr B g v s (u ++ t) er 0 w1 (HI.out.below hb) hs (by rw [ByteArray.size_append]; omega) (Nat.le_trans hBw hb.size))
  have HB := Aside0.mk hb
  clear hb
  go_wp2_with fail
  refine HP.out.mono ?_
  rintro e w' ⟨rfl, HS⟩
  have HSS := Aside0.mk HS
  clear HS
  go_wp2
  first | go_end0 | ((try simp only [Exit.inBlock, Exit.then]); refine bodyPost_ret (results_none rfl _ _ _) rfl ?_)
  refine ⟨rfl, ?_⟩
  obtain ⟨v', h1, h2, h3⟩ := HSS.out
  refine ⟨v', h1, (HB.out.mono hBw).trans h2, (Kept.of_below HB.out _).then_ h3 (fun k hk => .inl hk)⟩
theorem oct_Writer_Text.nil (t : ByteArray) (w : World) : Calls Try.prog 24 #[.pointer none, .string t] w fun e w' => e = .returned (.tuple #[]) ∧ w' = w := by
  go_enter Try.func24, Try.ntmps24
  go_wp2
  first | go_end0 | ((try simp only [Exit.inBlock, Exit.then]); refine bodyPost_ret (results_none rfl _ _ _) rfl ?_)
  exact ⟨rfl, rfl⟩
/-! ### wire_flag: function 25 -/
def wire_flag.f (a0 : Bool) : Option (Int) := if a0 = true then (some 1) else (some 0)
set_option maxHeartbeats 8000000 in
set_option maxRecDepth 100000 in
theorem wire_flag.calls (a0 : Bool) (r : Int) (w : World) (h : wire_flag.f a0 = some r) :
  Calls Try.prog 25 #[.bool a0] w fun e w' => e = .returned (.int .i64 r) ∧ Drawn0 w w' := by
 have H : (if a0 = true then (some 1) else (some 0)) = some r := h
 clear h; by_cases c2 : a0 = true
 ·
  subst c2
  have H1 : (some 1) = some r := by rw [if_pos rfl] at H; exact H
  clear H; have H := H1; clear H1; obtain rfl := Option.some.inj H
  go_enter Try.func25, Try.ntmps25
  go_wp2
  go_ret
  exact ⟨by first | rfl | (simp; done) | (simp [*]; done), by repeat (first | exact Drawn0.refl _ | apply Drawn0.step)⟩
 ·
  replace c2 := Bool.eq_false_iff.mpr c2
  subst c2
  have H1 : (some 0) = some r := by rw [if_neg (show ¬ (false = true) by decide)] at H; exact H
  clear H; have H := H1; clear H1; obtain rfl := Option.some.inj H
  go_enter Try.func25, Try.ntmps25
  go_wp2
  go_ret
  exact ⟨by first | rfl | (simp; done) | (simp [*]; done), by repeat (first | exact Drawn0.refl _ | apply Drawn0.step)⟩
/-! ### strings_Builder_String: function 54 -/
set_option maxHeartbeats 2000000 in
set_option maxRecDepth 100000 in
theorem strings_Builder_String.some_ (B g : Nat) (p v : Value) (s : ByteArray) (er : Int) (w : World) (hp : p = .pointer none ∨ p = .pointer (some ⟨g, 0, none⟩)) (h : WrAt 99 5 B g p v s er w) (h0 : s.size ≠ 0) :
    Calls Try.prog 54 #[.pointer (some ⟨g, 0, none⟩)] w fun e w' => e = .returned (.string s) ∧ WrStep 99 5 B g v s er w w' := by
  obtain ⟨g', cap, cur, fz, rfl, hbg, hg, hfz, hnc, hcm, hcs, htake⟩ : ∃ g' cap cur fz, v = .slice (some ⟨g', 0, none⟩) s.size cap ∧ B ≤ g' ∧ w.heap[g']? = some (.cells cur 5 fz) ∧ fz.2 ≤ s.size * 1 ∧ s.size ≤ cap ∧ cap ≤ maxLen ∧ cur.size = cap * 1 ∧ cur.toList.take (s.size * 1) = Lib.strCells s := by
    rcases h.2.2.1.2 with ⟨_, hz⟩ | ⟨g', cap, cur, fz, hv, r⟩
    · exact absurd hz h0
    · exact ⟨g', cap, cur, fz, hv, r⟩
  have hl : s.data.toList.length = s.size := by rw [Array.length_toList]; rfl
  have hne : s.data.toList ≠ [] := fun e => h0 (by rw [← hl, e]; rfl)
  have c1 : w.drew.cell? ⟨g, 1, none⟩ = some (.slice (some ⟨g', 0, none⟩) s.size cap) := h.cell1
  have hSD : (Builtin.unsafeSliceData_ #[95] 126 #[.slice (some ⟨g', 0, none⟩) s.size cap]).run Try.prog w.drew = .ok (.pointer (some ⟨g', 0, none⟩)) w.drew :=
    Lib.run_unsafeSliceData_row _ _ _ _ _ _ (by omega)
  have hUS : (Builtin.unsafeString_ #[126, 3] 9 #[.pointer (some ⟨g', 0, none⟩), .int .i64 s.size]).run Try.prog w.drew = .ok (.string s) (w.drew.freeze ⟨g', 0, none⟩ s.size) := by
    have := Lib.run_unsafeString_row (P := Try.prog) w.drew 126 3 9 5 Try.underlying126 (by kernel_rfl) g' cur.size (by have hg' : w.drew.heap[g']? = some (.cells cur 5 fz) := hg; simp [World.shape?, hg']) s.data.toList hne (by rw [hl]; omega) (by rw [hl]; unfold maxLen at hcm; omega) (by
      intro j x hx
      have hh := h.2.2.1.cells (g := g') rfl j (.int .u8 x.toNat) (by simp [Lib.strCells, hx])
      exact hh)
    rw [hl] at this
    exact this
  have HW : Aside0 (WrAt 99 5 B g p (.slice (some ⟨g', 0, none⟩) s.size cap) s er (w.drew.freeze ⟨g', 0, none⟩ s.size)) := ⟨h.drew.froze⟩
  have HB : Aside0 (Below B w (w.drew.freeze ⟨g', 0, none⟩ s.size)) := ⟨Lib.below_freeze (Below.drew (Below.refl B w)) (p := ⟨g', 0, none⟩) hbg _⟩
  have HK : Aside0 (Kept w (w.drew.freeze ⟨g', 0, none⟩ s.size) (fun k => k = g ∨ (Value.slice (some ⟨g', 0, none⟩) s.size cap).ownBlock = some k)) := by
    refine ⟨HB.out.size, fun i hi hn => ?_⟩
    have hi' : g' ≠ i := fun e => hn (.inr (by rw [e]; rfl))
    unfold World.freeze
    split
    · rfl
    · simp only [Array.getElem?_modify]
      rw [if_neg hi']
      rfl
  clear h hbg hg hfz hcs htake hne hl
  go_enter Try.func54, Try.ntmps54
  go_wp2
  go_region
  all_goals (go_wp2; go_ret; exact ⟨rfl, _, ⟨_, hp, HW.out⟩, HB.out, HK.out⟩)
theorem strings_Builder_String.unsafeString_none (W : World) (q : Option Addr) : (Builtin.unsafeString_ #[126, 3] 9 #[.pointer q, .int .i64 0]).run Try.prog W = .ok (.string .empty) W := by
  cases q <;> rfl
theorem strings_Builder_String.nothing (B g : Nat) (p : Value) (er : Int) (w : World) (hp : p = .pointer none ∨ p = .pointer (some ⟨g, 0, none⟩)) (v : Value) (s : ByteArray) (h : WrAt 99 5 B g p v s er w) (hs : s.size = 0) (hBw : B ≤ w.heap.size) :
    Calls Try.prog 54 #[.pointer (some ⟨g, 0, none⟩)] w fun e w' => e = .returned (.string s) ∧ WrStep 99 5 B g v s er w w' := by
  have hes : s = ⟨#[]⟩ := by
    have : s.data.size = 0 := hs
    cases s
    simp only [ByteArray.mk.injEq]
    exact Array.eq_empty_of_size_eq_zero this
  have hUS := strings_Builder_String.unsafeString_none
  have hlt := h.lt
  have fin : ∀ w' : World, Below w.heap.size w w' → WrStep 99 5 B g v s er w w' := fun w' hb => ⟨v, ⟨p, hp, h.below hb⟩, hb.mono hBw, Kept.of_below hb _⟩
  have FIN := Aside0.mk fin
  clear fin
  rcases h.2.2.1.2 with ⟨hv, _⟩ | ⟨g', cap, cur, fz, hv, hbg, hg, _⟩
  · have c1 : w.drew.cell? ⟨g, 1, none⟩ = some (.slice none 0 0) := by have := h.cell1; rw [hv] at this; exact this
    have hSD : (Builtin.unsafeSliceData_ #[95] 126 #[.slice none 0 0]).run Try.prog w.drew = .ok (.pointer none) w.drew := rfl
    clear h hs hv
    subst hes
    go_enter Try.func54, Try.ntmps54
    go_wp2
    go_region
    all_goals (go_wp2; go_ret; exact ⟨rfl, FIN.out _ (Below.drew (Below.refl _ _))⟩)
  · rw [hs] at hv
    have c1 : w.drew.cell? ⟨g, 1, none⟩ = some (.slice (some ⟨g', 0, none⟩) 0 cap) := by have := h.cell1; rw [hv] at this; exact this
    by_cases hc0 : cap = 0
    · subst hc0
      have hSD : (Builtin.unsafeSliceData_ #[95] 126 #[.slice (some ⟨g', 0, none⟩) 0 0]).run Try.prog w.drew = .ok (.pointer (some ⟨w.drew.heap.size, 0, none⟩)) (w.drew.alloc (.view ⟨g', 0, none⟩ 5)) :=
        Lib.run_unsafeSliceData_zero w.drew _ _ 5 Try.underlying126 ⟨g', 0, none⟩ 0 (5, cur.size) (by have hg' : w.drew.heap[g']? = some (.cells cur 5 fz) := hg; simp [World.shape?, hg'])
      have c2 : (w.drew.alloc (.view ⟨g', 0, none⟩ 5)).cell? ⟨g, 1, none⟩ = some (.slice (some ⟨g', 0, none⟩) 0 0) := by
        have h2 := (h.below ((Below.refl w.heap.size w).drew.alloc (Nat.le_refl _) (.view ⟨g', 0, none⟩ 5))).cell1
        rw [hv] at h2
        exact h2
      have c3 : (w.alloc (.view ⟨g', 0, none⟩ 5)).drew.cell? ⟨g, 1, none⟩ = some (.slice (some ⟨g', 0, none⟩) 0 0) := c2
      have c0 : w.cell? ⟨g, 1, none⟩ = some (.slice (some ⟨g', 0, none⟩) 0 0) := c1
      clear h hs hv hg hbg
      subst hes
      go_enter Try.func54, Try.ntmps54
      go_wp2
      go_region
      all_goals (go_wp2; go_ret; exact ⟨rfl, FIN.out _ ((Below.drew (Below.refl _ _)).alloc (Nat.le_refl _) _)⟩)
    · have hSD : (Builtin.unsafeSliceData_ #[95] 126 #[.slice (some ⟨g', 0, none⟩) 0 cap]).run Try.prog w.drew = .ok (.pointer (some ⟨g', 0, none⟩)) w.drew :=
        Lib.run_unsafeSliceData_row _ _ _ _ _ _ hc0
      clear h hs hv hg hbg hc0
      subst hes
      go_enter Try.func54, Try.ntmps54
      go_wp2
      go_region
      all_goals (go_wp2; go_ret; exact ⟨rfl, FIN.out _ (Below.drew (Below.refl _ _))⟩)
theorem strings_Builder_String.wr (B g : Nat) (v : Value) (s : ByteArray) (er : Int) (w : World) (h : IsWr 99 5 B g v s er w) (hBw : B ≤ w.heap.size) :
    Calls Try.prog 54 #[.pointer (some ⟨g, 0, none⟩)] w fun e w' => e = .returned (.string s) ∧ WrStep 99 5 B g v s er w w' := by
  obtain ⟨p, hp, h⟩ := h
  by_cases h0 : s.size = 0
  · exact strings_Builder_String.nothing B g p er w hp v s h h0 hBw
  · exact strings_Builder_String.some_ B g p v s er w hp h h0
/-! ### oct_Writer_Bytes: function 27 -/
set_option maxHeartbeats 1000000 in
theorem oct_Writer_Bytes.wr (B g : Nat) (v : Value) (s : ByteArray) (er : Int) (w : World) (h : IsWr 99 5 B g v s er w) (hBw : B ≤ w.heap.size) :
    Calls Try.prog 27 #[.pointer (some ⟨g, 0, none⟩)] w fun e w' => e = .returned (.tuple #[.string (if er = 0 then s else ⟨#[]⟩), .int .i64 er]) ∧ WrStep 99 5 B g v s er w w' := by
  have HS := Aside0.mk (strings_Builder_String.wr B g v s er w h hBw)
  obtain ⟨p, hp, h⟩ := h
  have c2 := h.cell2
  have HD : Aside0 (∀ m, WrStep 99 5 B g v s er w (w.drewN m)) := ⟨fun m => ⟨v, ⟨p, hp, h.below (pw_below_drewN (Below.refl _ _) m)⟩, pw_below_drewN (Below.refl _ _) m, Kept.of_below (pw_below_drewN (Below.refl _ _) m) _⟩⟩
  clear h hp
  by_cases h1 : er = 0
  · subst h1
    rw [if_pos rfl]
    clear HD
    go_enter Try.func27, Try.ntmps27
    go_wp2_with (go_at_call 54; refine HS.out.mono ?_; rintro e w' ⟨rfl, HSS⟩; have HSS2 := Aside0.mk HSS; clear HSS)
    go_ret2
    exact ⟨rfl, HSS2.out⟩
  · rw [if_neg h1]
    have t1 : (er == 0) = false := beq_eq_false_iff_ne.mpr h1
    have t2 : (er != 0) = true := bne_iff_ne.mpr h1
    clear h1 HS
    go_enter Try.func27, Try.ntmps27
    go_wp2
    go_quiet (fail)
    go_wp2
    go_ret2
    exact ⟨rfl, HD.out _⟩
theorem oct_Writer_Bytes.nil (w : World) : Calls Try.prog 27 #[.pointer none] w fun e w' => e = .returned (.tuple #[.string ⟨#[]⟩, .int .i64 1]) ∧ w' = w := by
  go_enter Try.func27, Try.ntmps27
  go_wp2
  go_ret2
  exact ⟨rfl, rfl⟩
/-! ### manifest_numbers: function 53 -/
set_option maxHeartbeats 1000000 in
set_option maxRecDepth 100000 in
theorem manifest_numbers.gives (a0_0 a0_1 a0_2 a0_3 a0_4 a0_5 a0_6 : Int) (a0_7 : ByteArray) (w : World) :
    Calls Try.prog 53 #[.agg #[.int .i64 a0_0, .int .i64 a0_1, .int .i64 a0_2, .int .i64 a0_3, .int .i64 a0_4, .int .i64 a0_5, .int .i64 a0_6, .string a0_7]] w fun e w' => e = .returned (.agg #[.int .i64 a0_0, .int .i64 2, .int .i64 a0_1, .int .i64 1, .int .i64 a0_2, .int .i64 7, .int .i64 a0_3, .int .i64 2, .int .i64 a0_4, .int .i64 2, .int .i64 a0_5, .int .i64 1, .int .i64 a0_6, .int .i64 1]) ∧ Below w.heap.size w w' := by
  have hu32 := Try.underlying32
  have HB := Aside0.mk (Below.refl w.heap.size w)
  go_enter Try.func53, Try.ntmps53
  go_wp2_with (first | ((with_reducible refine gate_dst (N := 1) rfl ?_); refine box_event ?hg (N := 1) ?hd (cs := #[.int .i64 a0_0, .int .i64 a0_1, .int .i64 a0_2, .int .i64 a0_3, .int .i64 a0_4, .int .i64 a0_5, .int .i64 a0_6, .string a0_7]) (t := 32) ?hr ?_; (case hd => rfl); (case hg => rfl); (case hr => first | (go_simp; done) | (go_simp; rfl)); intro gb hg w2 hbox hb; have BK := Aside0.mk hbox; replace HB := Aside0.mk (below_step zB hb); clear hb hbox hg) | ((with_reducible refine gate_dst (N := 2) rfl ?_); refine box_event ?hg (N := 2) ?hd (cs := #[.int .i64 0, .int .i64 0, .int .i64 0, .int .i64 0, .int .i64 0, .int .i64 0, .int .i64 0, .int .i64 0, .int .i64 0, .int .i64 0, .int .i64 0, .int .i64 0, .int .i64 0, .int .i64 0]) (t := 104) ?hr ?_; (case hd => rfl); (case hg => rfl); (case hr => first | (go_simp; done) | (go_simp; rfl)); intro g2 hg w3 hbox hb; have BK2 := Aside0.mk hbox; have GE2 := Aside0.mk ((zg : w.heap.size ≤ g2)); replace BK := Aside0.mk (blk_below (zk BK) hb); replace HB := Aside0.mk (below_step zB hb); clear hb hbox hg; obtain ⟨p0, p1, p2, p3, p4, p5, p6, p7⟩ := cZ8 BK; obtain ⟨z0, z1, z2, z3, z4, z5, z6, z7, z8, z9, z10, z11, z12, z13⟩ := cZ14 BK2; obtain ⟨f0, f1, f2, f3, f4, f5, f6, f7, f8, f9, f10, f11, f12, f13⟩ := dZ14 BK2))
  obtain ⟨x0, e0⟩ : ∃ W, W = w3.setCell ⟨g2, 0, none⟩ (.int .i64 a0_0) := ⟨_, rfl⟩
  rw [← e0]
  replace BK2 : Aside0 (x0.heap[g2]? = some (.cells #[.int .i64 a0_0, .int .i64 0, .int .i64 0, .int .i64 0, .int .i64 0, .int .i64 0, .int .i64 0, .int .i64 0, .int .i64 0, .int .i64 0, .int .i64 0, .int .i64 0, .int .i64 0, .int .i64 0] 104 (0, 0))) := ⟨by rw [e0]; exact blk_put (cs := #[.int .i64 0, .int .i64 0, .int .i64 0, .int .i64 0, .int .i64 0, .int .i64 0, .int .i64 0, .int .i64 0, .int .i64 0, .int .i64 0, .int .i64 0, .int .i64 0, .int .i64 0, .int .i64 0]) BK2.out 0 _ rfl⟩
  replace HB : Aside0 (Below w.heap.size w x0) := ⟨by rw [e0]; exact below_set HB.out GE2.out⟩
  clear e0
  obtain ⟨x1, e1⟩ : ∃ W, W = x0.setCell ⟨g2, 1, none⟩ (.int .i64 2) := ⟨_, rfl⟩
  rw [← e1]
  replace BK2 : Aside0 (x1.heap[g2]? = some (.cells #[.int .i64 a0_0, .int .i64 2, .int .i64 0, .int .i64 0, .int .i64 0, .int .i64 0, .int .i64 0, .int .i64 0, .int .i64 0, .int .i64 0, .int .i64 0, .int .i64 0, .int .i64 0, .int .i64 0] 104 (0, 0))) := ⟨by rw [e1]; exact blk_put (cs := #[.int .i64 a0_0, .int .i64 0, .int .i64 0, .int .i64 0, .int .i64 0, .int .i64 0, .int .i64 0, .int .i64 0, .int .i64 0, .int .i64 0, .int .i64 0, .int .i64 0, .int .i64 0, .int .i64 0]) BK2.out 1 _ rfl⟩
  replace HB : Aside0 (Below w.heap.size w x1) := ⟨by rw [e1]; exact below_set HB.out GE2.out⟩
  clear e1
  obtain ⟨x2, e2⟩ : ∃ W, W = x1.setCell ⟨g2, 2, none⟩ (.int .i64 a0_1) := ⟨_, rfl⟩
  rw [← e2]
  replace BK2 : Aside0 (x2.heap[g2]? = some (.cells #[.int .i64 a0_0, .int .i64 2, .int .i64 a0_1, .int .i64 0, .int .i64 0, .int .i64 0, .int .i64 0, .int .i64 0, .int .i64 0, .int .i64 0, .int .i64 0, .int .i64 0, .int .i64 0, .int .i64 0] 104 (0, 0))) := ⟨by rw [e2]; exact blk_put (cs := #[.int .i64 a0_0, .int .i64 2, .int .i64 0, .int .i64 0, .int .i64 0, .int .i64 0, .int .i64 0, .int .i64 0, .int .i64 0, .int .i64 0, .int .i64 0, .int .i64 0, .int .i64 0, .int .i64 0]) BK2.out 2 _ rfl⟩
  replace HB : Aside0 (Below w.heap.size w x2) := ⟨by rw [e2]; exact below_set HB.out GE2.out⟩
  clear e2
  obtain ⟨x3, e3⟩ : ∃ W, W = x2.setCell ⟨g2, 3, none⟩ (.int .i64 1) := ⟨_, rfl⟩
  rw [← e3]
  replace BK2 : Aside0 (x3.heap[g2]? = some (.cells #[.int .i64 a0_0, .int .i64 2, .int .i64 a0_1, .int .i64 1, .int .i64 0, .int .i64 0, .int .i64 0, .int .i64 0, .int .i64 0, .int .i64 0, .int .i64 0, .int .i64 0, .int .i64 0, .int .i64 0] 104 (0, 0))) := ⟨by rw [e3]; exact blk_put (cs := #[.int .i64 a0_0, .int .i64 2, .int .i64 a0_1, .int .i64 0, .int .i64 0, .int .i64 0, .int .i64 0, .int .i64 0, .int .i64 0, .int .i64 0, .int .i64 0, .int .i64 0, .int .i64 0, .int .i64 0]) BK2.out 3 _ rfl⟩
  replace HB : Aside0 (Below w.heap.size w x3) := ⟨by rw [e3]; exact below_set HB.out GE2.out⟩
  clear e3
  obtain ⟨x4, e4⟩ : ∃ W, W = x3.setCell ⟨g2, 4, none⟩ (.int .i64 a0_2) := ⟨_, rfl⟩
  rw [← e4]
  replace BK2 : Aside0 (x4.heap[g2]? = some (.cells #[.int .i64 a0_0, .int .i64 2, .int .i64 a0_1, .int .i64 1, .int .i64 a0_2, .int .i64 0, .int .i64 0, .int .i64 0, .int .i64 0, .int .i64 0, .int .i64 0, .int .i64 0, .int .i64 0, .int .i64 0] 104 (0, 0))) := ⟨by rw [e4]; exact blk_put (cs := #[.int .i64 a0_0, .int .i64 2, .int .i64 a0_1, .int .i64 1, .int .i64 0, .int .i64 0, .int .i64 0, .int .i64 0, .int .i64 0, .int .i64 0, .int .i64 0, .int .i64 0, .int .i64 0, .int .i64 0]) BK2.out 4 _ rfl⟩
  replace HB : Aside0 (Below w.heap.size w x4) := ⟨by rw [e4]; exact below_set HB.out GE2.out⟩
  clear e4
  obtain ⟨x5, e5⟩ : ∃ W, W = x4.setCell ⟨g2, 5, none⟩ (.int .i64 7) := ⟨_, rfl⟩
  rw [← e5]
  replace BK2 : Aside0 (x5.heap[g2]? = some (.cells #[.int .i64 a0_0, .int .i64 2, .int .i64 a0_1, .int .i64 1, .int .i64 a0_2, .int .i64 7, .int .i64 0, .int .i64 0, .int .i64 0, .int .i64 0, .int .i64 0, .int .i64 0, .int .i64 0, .int .i64 0] 104 (0, 0))) := ⟨by rw [e5]; exact blk_put (cs := #[.int .i64 a0_0, .int .i64 2, .int .i64 a0_1, .int .i64 1, .int .i64 a0_2, .int .i64 0, .int .i64 0, .int .i64 0, .int .i64 0, .int .i64 0, .int .i64 0, .int .i64 0, .int .i64 0, .int .i64 0]) BK2.out 5 _ rfl⟩
  replace HB : Aside0 (Below w.heap.size w x5) := ⟨by rw [e5]; exact below_set HB.out GE2.out⟩
  clear e5
  obtain ⟨x6, e6⟩ : ∃ W, W = x5.setCell ⟨g2, 6, none⟩ (.int .i64 a0_3) := ⟨_, rfl⟩
  rw [← e6]
  replace BK2 : Aside0 (x6.heap[g2]? = some (.cells #[.int .i64 a0_0, .int .i64 2, .int .i64 a0_1, .int .i64 1, .int .i64 a0_2, .int .i64 7, .int .i64 a0_3, .int .i64 0, .int .i64 0, .int .i64 0, .int .i64 0, .int .i64 0, .int .i64 0, .int .i64 0] 104 (0, 0))) := ⟨by rw [e6]; exact blk_put (cs := #[.int .i64 a0_0, .int .i64 2, .int .i64 a0_1, .int .i64 1, .int .i64 a0_2, .int .i64 7, .int .i64 0, .int .i64 0, .int .i64 0, .int .i64 0, .int .i64 0, .int .i64 0, .int .i64 0, .int .i64 0]) BK2.out 6 _ rfl⟩
  replace HB : Aside0 (Below w.heap.size w x6) := ⟨by rw [e6]; exact below_set HB.out GE2.out⟩
  clear e6
  obtain ⟨x7, e7⟩ : ∃ W, W = x6.setCell ⟨g2, 7, none⟩ (.int .i64 2) := ⟨_, rfl⟩
  rw [← e7]
  replace BK2 : Aside0 (x7.heap[g2]? = some (.cells #[.int .i64 a0_0, .int .i64 2, .int .i64 a0_1, .int .i64 1, .int .i64 a0_2, .int .i64 7, .int .i64 a0_3, .int .i64 2, .int .i64 0, .int .i64 0, .int .i64 0, .int .i64 0, .int .i64 0, .int .i64 0] 104 (0, 0))) := ⟨by rw [e7]; exact blk_put (cs := #[.int .i64 a0_0, .int .i64 2, .int .i64 a0_1, .int .i64 1, .int .i64 a0_2, .int .i64 7, .int .i64 a0_3, .int .i64 0, .int .i64 0, .int .i64 0, .int .i64 0, .int .i64 0, .int .i64 0, .int .i64 0]) BK2.out 7 _ rfl⟩
  replace HB : Aside0 (Below w.heap.size w x7) := ⟨by rw [e7]; exact below_set HB.out GE2.out⟩
  clear e7
  obtain ⟨x8, e8⟩ : ∃ W, W = x7.setCell ⟨g2, 8, none⟩ (.int .i64 a0_4) := ⟨_, rfl⟩
  rw [← e8]
  replace BK2 : Aside0 (x8.heap[g2]? = some (.cells #[.int .i64 a0_0, .int .i64 2, .int .i64 a0_1, .int .i64 1, .int .i64 a0_2, .int .i64 7, .int .i64 a0_3, .int .i64 2, .int .i64 a0_4, .int .i64 0, .int .i64 0, .int .i64 0, .int .i64 0, .int .i64 0] 104 (0, 0))) := ⟨by rw [e8]; exact blk_put (cs := #[.int .i64 a0_0, .int .i64 2, .int .i64 a0_1, .int .i64 1, .int .i64 a0_2, .int .i64 7, .int .i64 a0_3, .int .i64 2, .int .i64 0, .int .i64 0, .int .i64 0, .int .i64 0, .int .i64 0, .int .i64 0]) BK2.out 8 _ rfl⟩
  replace HB : Aside0 (Below w.heap.size w x8) := ⟨by rw [e8]; exact below_set HB.out GE2.out⟩
  clear e8
  obtain ⟨x9, e9⟩ : ∃ W, W = x8.setCell ⟨g2, 9, none⟩ (.int .i64 2) := ⟨_, rfl⟩
  rw [← e9]
  replace BK2 : Aside0 (x9.heap[g2]? = some (.cells #[.int .i64 a0_0, .int .i64 2, .int .i64 a0_1, .int .i64 1, .int .i64 a0_2, .int .i64 7, .int .i64 a0_3, .int .i64 2, .int .i64 a0_4, .int .i64 2, .int .i64 0, .int .i64 0, .int .i64 0, .int .i64 0] 104 (0, 0))) := ⟨by rw [e9]; exact blk_put (cs := #[.int .i64 a0_0, .int .i64 2, .int .i64 a0_1, .int .i64 1, .int .i64 a0_2, .int .i64 7, .int .i64 a0_3, .int .i64 2, .int .i64 a0_4, .int .i64 0, .int .i64 0, .int .i64 0, .int .i64 0, .int .i64 0]) BK2.out 9 _ rfl⟩
  replace HB : Aside0 (Below w.heap.size w x9) := ⟨by rw [e9]; exact below_set HB.out GE2.out⟩
  clear e9
  obtain ⟨x10, e10⟩ : ∃ W, W = x9.setCell ⟨g2, 10, none⟩ (.int .i64 a0_5) := ⟨_, rfl⟩
  rw [← e10]
  replace BK2 : Aside0 (x10.heap[g2]? = some (.cells #[.int .i64 a0_0, .int .i64 2, .int .i64 a0_1, .int .i64 1, .int .i64 a0_2, .int .i64 7, .int .i64 a0_3, .int .i64 2, .int .i64 a0_4, .int .i64 2, .int .i64 a0_5, .int .i64 0, .int .i64 0, .int .i64 0] 104 (0, 0))) := ⟨by rw [e10]; exact blk_put (cs := #[.int .i64 a0_0, .int .i64 2, .int .i64 a0_1, .int .i64 1, .int .i64 a0_2, .int .i64 7, .int .i64 a0_3, .int .i64 2, .int .i64 a0_4, .int .i64 2, .int .i64 0, .int .i64 0, .int .i64 0, .int .i64 0]) BK2.out 10 _ rfl⟩
  replace HB : Aside0 (Below w.heap.size w x10) := ⟨by rw [e10]; exact below_set HB.out GE2.out⟩
  clear e10
  obtain ⟨x11, e11⟩ : ∃ W, W = x10.setCell ⟨g2, 11, none⟩ (.int .i64 1) := ⟨_, rfl⟩
  rw [← e11]
  replace BK2 : Aside0 (x11.heap[g2]? = some (.cells #[.int .i64 a0_0, .int .i64 2, .int .i64 a0_1, .int .i64 1, .int .i64 a0_2, .int .i64 7, .int .i64 a0_3, .int .i64 2, .int .i64 a0_4, .int .i64 2, .int .i64 a0_5, .int .i64 1, .int .i64 0, .int .i64 0] 104 (0, 0))) := ⟨by rw [e11]; exact blk_put (cs := #[.int .i64 a0_0, .int .i64 2, .int .i64 a0_1, .int .i64 1, .int .i64 a0_2, .int .i64 7, .int .i64 a0_3, .int .i64 2, .int .i64 a0_4, .int .i64 2, .int .i64 a0_5, .int .i64 0, .int .i64 0, .int .i64 0]) BK2.out 11 _ rfl⟩
  replace HB : Aside0 (Below w.heap.size w x11) := ⟨by rw [e11]; exact below_set HB.out GE2.out⟩
  clear e11
  obtain ⟨x12, e12⟩ : ∃ W, W = x11.setCell ⟨g2, 12, none⟩ (.int .i64 a0_6) := ⟨_, rfl⟩
  rw [← e12]
  replace BK2 : Aside0 (x12.heap[g2]? = some (.cells #[.int .i64 a0_0, .int .i64 2, .int .i64 a0_1, .int .i64 1, .int .i64 a0_2, .int .i64 7, .int .i64 a0_3, .int .i64 2, .int .i64 a0_4, .int .i64 2, .int .i64 a0_5, .int .i64 1, .int .i64 a0_6, .int .i64 0] 104 (0, 0))) := ⟨by rw [e12]; exact blk_put (cs := #[.int .i64 a0_0, .int .i64 2, .int .i64 a0_1, .int .i64 1, .int .i64 a0_2, .int .i64 7, .int .i64 a0_3, .int .i64 2, .int .i64 a0_4, .int .i64 2, .int .i64 a0_5, .int .i64 1, .int .i64 0, .int .i64 0]) BK2.out 12 _ rfl⟩
  replace HB : Aside0 (Below w.heap.size w x12) := ⟨by rw [e12]; exact below_set HB.out GE2.out⟩
  clear e12
  obtain ⟨x13, e13⟩ : ∃ W, W = x12.setCell ⟨g2, 13, none⟩ (.int .i64 1) := ⟨_, rfl⟩
  rw [← e13]
  replace BK2 : Aside0 (x13.heap[g2]? = some (.cells #[.int .i64 a0_0, .int .i64 2, .int .i64 a0_1, .int .i64 1, .int .i64 a0_2, .int .i64 7, .int .i64 a0_3, .int .i64 2, .int .i64 a0_4, .int .i64 2, .int .i64 a0_5, .int .i64 1, .int .i64 a0_6, .int .i64 1] 104 (0, 0))) := ⟨by rw [e13]; exact blk_put (cs := #[.int .i64 a0_0, .int .i64 2, .int .i64 a0_1, .int .i64 1, .int .i64 a0_2, .int .i64 7, .int .i64 a0_3, .int .i64 2, .int .i64 a0_4, .int .i64 2, .int .i64 a0_5, .int .i64 1, .int .i64 a0_6, .int .i64 0]) BK2.out 13 _ rfl⟩
  replace HB : Aside0 (Below w.heap.size w x13) := ⟨by rw [e13]; exact below_set HB.out GE2.out⟩
  clear e13
  refine bodyPost_ret (results_cell_row rfl _ _ g2 104 #[.int .i64 a0_0, .int .i64 2, .int .i64 a0_1, .int .i64 1, .int .i64 a0_2, .int .i64 7, .int .i64 a0_3, .int .i64 2, .int .i64 a0_4, .int .i64 2, .int .i64 a0_5, .int .i64 1, .int .i64 a0_6, .int .i64 1] (0, 0) _ rfl BK2.out Try.underlying104 rfl (by kernel_rfl)) rfl ?_
  exact ⟨rfl, HB.out⟩
/-! ### manifest_Text: function 26 -/
def manifest_Text.word : ByteArray := ⟨#[109, 111, 115, 49]⟩
def manifest_Text.puts (k : Nat) : List (Int × Int) → ByteArray → Option ByteArray
  | [], s => some s
  | (x, y) :: l, s => (oct_Put.f k x y).bind fun t => if t.2 = 0 ∧ t.1.size ≤ 100 then manifest_Text.puts k l (s ++ t.1) else none
def manifest_Text.f (k : Nat) (a0_0 : Int) (a0_1 : Int) (a0_2 : Int) (a0_3 : Int) (a0_4 : Int) (a0_5 : Int) (a0_6 : Int) (a0_7 : ByteArray) : Option ByteArray :=
  (manifest_Check.f k a0_0 a0_1 a0_2 a0_3 a0_4 a0_5 a0_6 a0_7).bind fun c => if c = true then (if a0_7.size ≤ 100 then (manifest_Text.puts k [(a0_0, 2), (a0_1, 1), (a0_2, 7), (a0_3, 2), (a0_4, 2), (a0_5, 1), (a0_6, 1)] ((⟨#[]⟩ : ByteArray) ++ manifest_Text.word)).bind fun s => some (s ++ a0_7) else none) else some (⟨#[]⟩ : ByteArray)
theorem manifest_Text.puts_mono (k : Nat) : ∀ l s, LeO (manifest_Text.puts k l s) (manifest_Text.puts (k + 1) l s)
  | [], _ => LeO.refl _
  | (x, y) :: l, s => by
    unfold manifest_Text.puts
    exact LeO.bind (oct_Put.mono _ _ _) (fun _ => LeO.ite (manifest_Text.puts_mono k l _) (LeO.refl _))
theorem manifest_Text.mono : ∀ a0_0 a0_1 a0_2 a0_3 a0_4 a0_5 a0_6 a0_7 k, LeO (manifest_Text.f k a0_0 a0_1 a0_2 a0_3 a0_4 a0_5 a0_6 a0_7) (manifest_Text.f (k + 1) a0_0 a0_1 a0_2 a0_3 a0_4 a0_5 a0_6 a0_7) := by
  intro a0_0 a0_1 a0_2 a0_3 a0_4 a0_5 a0_6 a0_7 k
  unfold manifest_Text.f
  exact LeO.bind (manifest_Check.mono _ _ _ _ _ _ _ _ _) (fun _ => LeO.ite (LeO.ite (LeO.bind (manifest_Text.puts_mono _ _ _) (fun _ => LeO.refl _)) (LeO.refl _)) (LeO.refl _))
theorem manifest_Text.far {B g gb : Nat} {v : Value} {s : ByteArray} {er : Int} {W w1 : World} {cs : Array Value} {t : TypeId} (hi : IsWr 99 5 B g v s er W) (hb : W.heap[gb]? = some (.cells cs t (0, 0))) (hne : gb ≠ g) (ht : t ≠ 5)
    (hk : Kept W w1 (fun k => k = g ∨ v.ownBlock = some k)) : w1.heap[gb]? = some (.cells cs t (0, 0)) := by
  obtain ⟨p, hp, h⟩ := hi
  have hlt : gb < W.heap.size := (Array.getElem?_eq_some_iff.1 hb).1
  rw [hk.2 gb hlt (by
    rintro (h1 | h1)
    · exact hne h1
    · exact Go.Lib.ownBlock_neF h.2.2.1 hb ht h1)]
  exact hb
theorem manifest_Text.put_ok (s t : ByteArray) (h : s.size + t.size ≤ 65536) : putS s 0 t 0 = (s ++ t, 0) := by
  unfold putS
  rw [if_pos rfl, if_pos rfl, if_neg (by omega)]
set_option maxHeartbeats 4000000 in
set_option maxRecDepth 100000 in
theorem manifest_Text.calls (k : Nat) (a0_0 : Int) (a0_1 : Int) (a0_2 : Int) (a0_3 : Int) (a0_4 : Int) (a0_5 : Int) (a0_6 : Int) (a0_7 : ByteArray) (r : ByteArray) (w : World) (h : manifest_Text.f k a0_0 a0_1 a0_2 a0_3 a0_4 a0_5 a0_6 a0_7 = some r) :
    Calls Try.prog 26 #[.agg #[.int .i64 a0_0, .int .i64 a0_1, .int .i64 a0_2, .int .i64 a0_3, .int .i64 a0_4, .int .i64 a0_5, .int .i64 a0_6, .string a0_7]] w fun e w' => e = .returned (.string r) ∧ Below w.heap.size w w' := by
  have hu32 := Try.underlying32
  have HB := Aside0.mk (Below.refl w.heap.size w)
  unfold manifest_Text.f at h
  obtain ⟨c, HC, h⟩ := Option.bind_eq_some_iff.mp h
  have HC := Aside0.mk HC
  cases c with
  | false =>
    rw [if_neg (by decide)] at h
    obtain rfl := Option.some.inj h
    clear h
    go_enter Try.func26, Try.ntmps26
    go_wp2_with (first | ((with_reducible refine gate_dst (N := 1) rfl ?_); refine box_event ?hg (N := 1) ?hd (cs := #[.int .i64 a0_0, .int .i64 a0_1, .int .i64 a0_2, .int .i64 a0_3, .int .i64 a0_4, .int .i64 a0_5, .int .i64 a0_6, .string a0_7]) (t := 32) ?hr ?_; (case hd => rfl); (case hg => rfl); (case hr => first | (go_simp; done) | (go_simp; rfl)); intro gb hg w2 hbox hb; have BK := Aside0.mk hbox; replace HB := Aside0.mk (below_step zB hb); clear hb hbox hg; obtain ⟨p0, p1, p2, p3, p4, p5, p6, p7⟩ := cZ8 BK) | (go_at_call 52; (with_reducible refine (manifest_Check.calls k a0_0 a0_1 a0_2 a0_3 a0_4 a0_5 a0_6 a0_7 false _ HC.out).mono ?_); rintro e w5 ⟨rfl, hb⟩; clear p0 p1 p2 p3 p4 p5 p6 p7; replace BK := Aside0.mk (blk_below (zk BK) hb); replace HB := Aside0.mk (below_step zB hb); clear hb; obtain ⟨p0, p1, p2, p3, p4, p5, p6, p7⟩ := cZ8 BK))
    go_ret
    exact ⟨rfl, zB⟩
  | true =>
    rw [if_pos rfl] at h
    split at h
    rotate_left
    · cases h
    rename_i hrs
    have HRS := Aside0.mk hrs
    obtain ⟨fin, HP, h⟩ := Option.bind_eq_some_iff.mp h
    have HP := Aside0.mk HP
    obtain rfl := Option.some.inj h
    clear h hrs
    go_enter Try.func26, Try.ntmps26
    go_wp2_with (first | ((with_reducible refine gate_dst (N := 1) rfl ?_); refine box_event ?hg (N := 1) ?hd (cs := #[.int .i64 a0_0, .int .i64 a0_1, .int .i64 a0_2, .int .i64 a0_3, .int .i64 a0_4, .int .i64 a0_5, .int .i64 a0_6, .string a0_7]) (t := 32) ?hr ?_; (case hd => rfl); (case hg => rfl); (case hr => first | (go_simp; done) | (go_simp; rfl)); intro gb hg w2 hbox hb; have BK := Aside0.mk hbox; replace HB := Aside0.mk (below_step zB hb); clear hb hbox hg; obtain ⟨p0, p1, p2, p3, p4, p5, p6, p7⟩ := cZ8 BK) | (go_at_call 52; (with_reducible refine (manifest_Check.calls k a0_0 a0_1 a0_2 a0_3 a0_4 a0_5 a0_6 a0_7 true _ HC.out).mono ?_); rintro e w5 ⟨rfl, hb⟩; clear p0 p1 p2 p3 p4 p5 p6 p7; replace BK := Aside0.mk (blk_below (zk BK) hb); replace HB := Aside0.mk (below_step zB hb); clear hb; obtain ⟨p0, p1, p2, p3, p4, p5, p6, p7⟩ := cZ8 BK) | (go_at_call 21; refine (oct_To.wr w5).mono ?_; rintro e w8 ⟨rfl, hi, hb, hz⟩; have HI := Aside0.mk hi; have HLT := Aside0.mk (blk_lt BK.out); clear p0 p1 p2 p3 p4 p5 p6 p7; replace BK := Aside0.mk (blk_below (zk BK) hb); have HW : Aside0 (w5.heap.size ≤ w8.heap.size) := ⟨hb.size⟩; have HWW : Aside0 (w.heap.size ≤ w5.heap.size) := ⟨HB.out.size⟩; replace HB := Aside0.mk (below_step zB hb); clear hi hb hz; obtain ⟨p0, p1, p2, p3, p4, p5, p6, p7⟩ := cZ8 BK) | (go_at_call 23; refine Calls.mono (oct_Writer_Raw.wr w5.heap.size w5.heap.size _ ⟨#[]⟩ manifest_Text.word 0 _ HI.out (by decide) (by decide) HW.out) ?_; rintro e w9 ⟨rfl, v9, hi, hb, hk⟩; rw [manifest_Text.put_ok _ _ (by decide)] at hi; clear p0 p1 p2 p3 p4 p5 p6 p7; have HI0 := HI; clear HI; have HI := Aside0.mk hi; replace BK := Aside0.mk (manifest_Text.far HI0.out BK.out (Nat.ne_of_lt HLT.out) (by decide) hk); replace HW : Aside0 (w5.heap.size ≤ w9.heap.size) := ⟨Nat.le_trans HW.out hb.size⟩; replace HB : Aside0 (Below w.heap.size w w9) := ⟨HB.out.trans (hb.mono HWW.out)⟩; clear hi hb hk HI0; obtain ⟨p0, p1, p2, p3, p4, p5, p6, p7⟩ := cZ8 BK) | (go_at_call 53; refine (manifest_numbers.gives a0_0 a0_1 a0_2 a0_3 a0_4 a0_5 a0_6 a0_7 _).mono ?_; rintro e w10 ⟨rfl, hb⟩; clear p0 p1 p2 p3 p4 p5 p6 p7; replace HI := Aside0.mk (HI.out.below hb); replace BK := Aside0.mk (blk_below (zk BK) hb); replace HW : Aside0 (w5.heap.size ≤ w10.heap.size) := ⟨Nat.le_trans HW.out hb.size⟩; replace HB := Aside0.mk (below_step zB hb); clear hb))
    have hix0 : ∀ W : World, (Instr.index 104 (.agg #[.int .i64 a0_0, .int .i64 2, .int .i64 a0_1, .int .i64 1, .int .i64 a0_2, .int .i64 7, .int .i64 a0_3, .int .i64 2, .int .i64 a0_4, .int .i64 2, .int .i64 a0_5, .int .i64 1, .int .i64 a0_6, .int .i64 1]) (.int .i64 0)).run Try.prog W = .ok (.agg #[.int .i64 a0_0, .int .i64 2]) W := fun W => by kernel_rfl
    have hix1 : ∀ W : World, (Instr.index 104 (.agg #[.int .i64 a0_0, .int .i64 2, .int .i64 a0_1, .int .i64 1, .int .i64 a0_2, .int .i64 7, .int .i64 a0_3, .int .i64 2, .int .i64 a0_4, .int .i64 2, .int .i64 a0_5, .int .i64 1, .int .i64 a0_6, .int .i64 1]) (.int .i64 1)).run Try.prog W = .ok (.agg #[.int .i64 a0_1, .int .i64 1]) W := fun W => by kernel_rfl
    have hix2 : ∀ W : World, (Instr.index 104 (.agg #[.int .i64 a0_0, .int .i64 2, .int .i64 a0_1, .int .i64 1, .int .i64 a0_2, .int .i64 7, .int .i64 a0_3, .int .i64 2, .int .i64 a0_4, .int .i64 2, .int .i64 a0_5, .int .i64 1, .int .i64 a0_6, .int .i64 1]) (.int .i64 2)).run Try.prog W = .ok (.agg #[.int .i64 a0_2, .int .i64 7]) W := fun W => by kernel_rfl
    have hix3 : ∀ W : World, (Instr.index 104 (.agg #[.int .i64 a0_0, .int .i64 2, .int .i64 a0_1, .int .i64 1, .int .i64 a0_2, .int .i64 7, .int .i64 a0_3, .int .i64 2, .int .i64 a0_4, .int .i64 2, .int .i64 a0_5, .int .i64 1, .int .i64 a0_6, .int .i64 1]) (.int .i64 3)).run Try.prog W = .ok (.agg #[.int .i64 a0_3, .int .i64 2]) W := fun W => by kernel_rfl
    have hix4 : ∀ W : World, (Instr.index 104 (.agg #[.int .i64 a0_0, .int .i64 2, .int .i64 a0_1, .int .i64 1, .int .i64 a0_2, .int .i64 7, .int .i64 a0_3, .int .i64 2, .int .i64 a0_4, .int .i64 2, .int .i64 a0_5, .int .i64 1, .int .i64 a0_6, .int .i64 1]) (.int .i64 4)).run Try.prog W = .ok (.agg #[.int .i64 a0_4, .int .i64 2]) W := fun W => by kernel_rfl
    have hix5 : ∀ W : World, (Instr.index 104 (.agg #[.int .i64 a0_0, .int .i64 2, .int .i64 a0_1, .int .i64 1, .int .i64 a0_2, .int .i64 7, .int .i64 a0_3, .int .i64 2, .int .i64 a0_4, .int .i64 2, .int .i64 a0_5, .int .i64 1, .int .i64 a0_6, .int .i64 1]) (.int .i64 5)).run Try.prog W = .ok (.agg #[.int .i64 a0_5, .int .i64 1]) W := fun W => by kernel_rfl
    have hix6 : ∀ W : World, (Instr.index 104 (.agg #[.int .i64 a0_0, .int .i64 2, .int .i64 a0_1, .int .i64 1, .int .i64 a0_2, .int .i64 7, .int .i64 a0_3, .int .i64 2, .int .i64 a0_4, .int .i64 2, .int .i64 a0_5, .int .i64 1, .int .i64 a0_6, .int .i64 1]) (.int .i64 6)).run Try.prog W = .ok (.agg #[.int .i64 a0_6, .int .i64 1]) W := fun W => by kernel_rfl
    go_loopg [16] 7 (fun gg s16 wr => ∃ (i : Nat) (s : ByteArray) (v : Value), i ≤ 7 ∧ 7 - i ≤ gg ∧ s16 = .int .i64 i ∧ Aside0 (manifest_Text.puts k ([(a0_0, 2), (a0_1, 1), (a0_2, 7), (a0_3, 2), (a0_4, 2), (a0_5, 1), (a0_6, 1)].drop i) s = some fin) ∧ Aside0 (s.size ≤ 4 + 100 * i) ∧ Aside0 (IsWr 99 5 w5.heap.size w5.heap.size v s 0 wr) ∧ Aside0 (wr.heap[gb]? = some (.cells #[.int .i64 a0_0, .int .i64 a0_1, .int .i64 a0_2, .int .i64 a0_3, .int .i64 a0_4, .int .i64 a0_5, .int .i64 a0_6, .string a0_7] 32 (0, 0))) ∧ Aside0 (w5.heap.size ≤ wr.heap.size) ∧ Aside0 (Below w.heap.size w wr))
    case atStart => exact ⟨0, _, v9, by omega, by omega, rfl, HP, ⟨by decide⟩, HI, BK, HW, HB⟩
    case round =>
      clear HP HI BK HW HB
      obtain ⟨i, s, v, hi7, hgg, rfl, HP, HSZ, HI, BK, HW, HB⟩ := hrel
      by_cases hlt : i < 7
      · have hi : i = 0 ∨ i = 1 ∨ i = 2 ∨ i = 3 ∨ i = 4 ∨ i = 5 ∨ i = 6 := by omega
        rcases hi with rfl | rfl | rfl | rfl | rfl | rfl | rfl
        · have hp := HP.out
          simp only [List.drop_succ_cons, List.drop_zero] at hp
          rw [manifest_Text.puts] at hp
          obtain ⟨⟨t, ft⟩, HPT, hp⟩ := Option.bind_eq_some_iff.mp hp
          have HPT := Aside0.mk HPT
          split at hp
          rotate_left
          · cases hp
          rename_i hg
          obtain ⟨hg1, hg2⟩ := hg
          simp only at hg1 hg2 hp
          subst hg1
          have HPN := Aside0.mk hp
          have HTS := Aside0.mk hg2
          have HSS : Aside0 (s.size + t.size ≤ 65536) := ⟨by have := HSZ.out; omega⟩
          clear hp hg2 HP hi7 hlt
          go_wp2_with (first | (go_at_call 22; refine Calls.mono (oct_Writer_Num.wr k w5.heap.size w5.heap.size v s t 0 _ _ 0 _ (HI.out.below (below_alloc (Below.refl _ _) _)) HPT.out ?hs ?ht ?hB) ?_; (case hs => have := HSS.out; omega); (case ht => have := HSS.out; omega); (case hB => exact Nat.le_trans HW.out (below_alloc (Below.refl _ _) _).size); rintro e w12 ⟨rfl, v2, hi, hb, hk⟩; rw [manifest_Text.put_ok _ _ HSS.out] at hi; replace BK := Aside0.mk (manifest_Text.far (HI.out.below (below_alloc (Below.refl _ _) _)) (blk_alloc BK.out _) (Nat.ne_of_lt HLT.out) (by decide) hk); replace HI := Aside0.mk hi; replace HW : Aside0 (w5.heap.size ≤ w12.heap.size) := ⟨Nat.le_trans (Nat.le_trans HW.out (below_alloc (Below.refl _ _) _).size) hb.size⟩; replace HB : Aside0 (Below w.heap.size w w12) := ⟨(below_alloc HB.out _).trans (hb.mono HWW.out)⟩; clear hi hb hk))
          go_roundg (gk - 1)
          case measure => omega
          case rel => exact ⟨1, s ++ t, v2, by omega, by omega, by go_num, ⟨HPN.out⟩, ⟨by rw [ByteArray.size_append]; have := HSZ.out; have := HTS.out; omega⟩, HI, BK, HW, HB⟩
        · have hp := HP.out
          simp only [List.drop_succ_cons, List.drop_zero] at hp
          rw [manifest_Text.puts] at hp
          obtain ⟨⟨t, ft⟩, HPT, hp⟩ := Option.bind_eq_some_iff.mp hp
          have HPT := Aside0.mk HPT
          split at hp
          rotate_left
          · cases hp
          rename_i hg
          obtain ⟨hg1, hg2⟩ := hg
          simp only at hg1 hg2 hp
          subst hg1
          have HPN := Aside0.mk hp
          have HTS := Aside0.mk hg2
          have HSS : Aside0 (s.size + t.size ≤ 65536) := ⟨by have := HSZ.out; omega⟩
          clear hp hg2 HP hi7 hlt
          go_wp2_with (first | (go_at_call 22; refine Calls.mono (oct_Writer_Num.wr k w5.heap.size w5.heap.size v s t 0 _ _ 0 _ (HI.out.below (below_alloc (Below.refl _ _) _)) HPT.out ?hs ?ht ?hB) ?_; (case hs => have := HSS.out; omega); (case ht => have := HSS.out; omega); (case hB => exact Nat.le_trans HW.out (below_alloc (Below.refl _ _) _).size); rintro e w12 ⟨rfl, v2, hi, hb, hk⟩; rw [manifest_Text.put_ok _ _ HSS.out] at hi; replace BK := Aside0.mk (manifest_Text.far (HI.out.below (below_alloc (Below.refl _ _) _)) (blk_alloc BK.out _) (Nat.ne_of_lt HLT.out) (by decide) hk); replace HI := Aside0.mk hi; replace HW : Aside0 (w5.heap.size ≤ w12.heap.size) := ⟨Nat.le_trans (Nat.le_trans HW.out (below_alloc (Below.refl _ _) _).size) hb.size⟩; replace HB : Aside0 (Below w.heap.size w w12) := ⟨(below_alloc HB.out _).trans (hb.mono HWW.out)⟩; clear hi hb hk))
          go_roundg (gk - 1)
          case measure => omega
          case rel => exact ⟨2, s ++ t, v2, by omega, by omega, by go_num, ⟨HPN.out⟩, ⟨by rw [ByteArray.size_append]; have := HSZ.out; have := HTS.out; omega⟩, HI, BK, HW, HB⟩
        · have hp := HP.out
          simp only [List.drop_succ_cons, List.drop_zero] at hp
          rw [manifest_Text.puts] at hp
          obtain ⟨⟨t, ft⟩, HPT, hp⟩ := Option.bind_eq_some_iff.mp hp
          have HPT := Aside0.mk HPT
          split at hp
          rotate_left
          · cases hp
          rename_i hg
          obtain ⟨hg1, hg2⟩ := hg
          simp only at hg1 hg2 hp
          subst hg1
          have HPN := Aside0.mk hp
          have HTS := Aside0.mk hg2
          have HSS : Aside0 (s.size + t.size ≤ 65536) := ⟨by have := HSZ.out; omega⟩
          clear hp hg2 HP hi7 hlt
          go_wp2_with (first | (go_at_call 22; refine Calls.mono (oct_Writer_Num.wr k w5.heap.size w5.heap.size v s t 0 _ _ 0 _ (HI.out.below (below_alloc (Below.refl _ _) _)) HPT.out ?hs ?ht ?hB) ?_; (case hs => have := HSS.out; omega); (case ht => have := HSS.out; omega); (case hB => exact Nat.le_trans HW.out (below_alloc (Below.refl _ _) _).size); rintro e w12 ⟨rfl, v2, hi, hb, hk⟩; rw [manifest_Text.put_ok _ _ HSS.out] at hi; replace BK := Aside0.mk (manifest_Text.far (HI.out.below (below_alloc (Below.refl _ _) _)) (blk_alloc BK.out _) (Nat.ne_of_lt HLT.out) (by decide) hk); replace HI := Aside0.mk hi; replace HW : Aside0 (w5.heap.size ≤ w12.heap.size) := ⟨Nat.le_trans (Nat.le_trans HW.out (below_alloc (Below.refl _ _) _).size) hb.size⟩; replace HB : Aside0 (Below w.heap.size w w12) := ⟨(below_alloc HB.out _).trans (hb.mono HWW.out)⟩; clear hi hb hk))
          go_roundg (gk - 1)
          case measure => omega
          case rel => exact ⟨3, s ++ t, v2, by omega, by omega, by go_num, ⟨HPN.out⟩, ⟨by rw [ByteArray.size_append]; have := HSZ.out; have := HTS.out; omega⟩, HI, BK, HW, HB⟩
        · have hp := HP.out
          simp only [List.drop_succ_cons, List.drop_zero] at hp
          rw [manifest_Text.puts] at hp
          obtain ⟨⟨t, ft⟩, HPT, hp⟩ := Option.bind_eq_some_iff.mp hp
          have HPT := Aside0.mk HPT
          split at hp
          rotate_left
          · cases hp
          rename_i hg
          obtain ⟨hg1, hg2⟩ := hg
          simp only at hg1 hg2 hp
          subst hg1
          have HPN := Aside0.mk hp
          have HTS := Aside0.mk hg2
          have HSS : Aside0 (s.size + t.size ≤ 65536) := ⟨by have := HSZ.out; omega⟩
          clear hp hg2 HP hi7 hlt
          go_wp2_with (first | (go_at_call 22; refine Calls.mono (oct_Writer_Num.wr k w5.heap.size w5.heap.size v s t 0 _ _ 0 _ (HI.out.below (below_alloc (Below.refl _ _) _)) HPT.out ?hs ?ht ?hB) ?_; (case hs => have := HSS.out; omega); (case ht => have := HSS.out; omega); (case hB => exact Nat.le_trans HW.out (below_alloc (Below.refl _ _) _).size); rintro e w12 ⟨rfl, v2, hi, hb, hk⟩; rw [manifest_Text.put_ok _ _ HSS.out] at hi; replace BK := Aside0.mk (manifest_Text.far (HI.out.below (below_alloc (Below.refl _ _) _)) (blk_alloc BK.out _) (Nat.ne_of_lt HLT.out) (by decide) hk); replace HI := Aside0.mk hi; replace HW : Aside0 (w5.heap.size ≤ w12.heap.size) := ⟨Nat.le_trans (Nat.le_trans HW.out (below_alloc (Below.refl _ _) _).size) hb.size⟩; replace HB : Aside0 (Below w.heap.size w w12) := ⟨(below_alloc HB.out _).trans (hb.mono HWW.out)⟩; clear hi hb hk))
          go_roundg (gk - 1)
          case measure => omega
          case rel => exact ⟨4, s ++ t, v2, by omega, by omega, by go_num, ⟨HPN.out⟩, ⟨by rw [ByteArray.size_append]; have := HSZ.out; have := HTS.out; omega⟩, HI, BK, HW, HB⟩
        · have hp := HP.out
          simp only [List.drop_succ_cons, List.drop_zero] at hp
          rw [manifest_Text.puts] at hp
          obtain ⟨⟨t, ft⟩, HPT, hp⟩ := Option.bind_eq_some_iff.mp hp
          have HPT := Aside0.mk HPT
          split at hp
          rotate_left
          · cases hp
          rename_i hg
          obtain ⟨hg1, hg2⟩ := hg
          simp only at hg1 hg2 hp
          subst hg1
          have HPN := Aside0.mk hp
          have HTS := Aside0.mk hg2
          have HSS : Aside0 (s.size + t.size ≤ 65536) := ⟨by have := HSZ.out; omega⟩
          clear hp hg2 HP hi7 hlt
          go_wp2_with (first | (go_at_call 22; refine Calls.mono (oct_Writer_Num.wr k w5.heap.size w5.heap.size v s t 0 _ _ 0 _ (HI.out.below (below_alloc (Below.refl _ _) _)) HPT.out ?hs ?ht ?hB) ?_; (case hs => have := HSS.out; omega); (case ht => have := HSS.out; omega); (case hB => exact Nat.le_trans HW.out (below_alloc (Below.refl _ _) _).size); rintro e w12 ⟨rfl, v2, hi, hb, hk⟩; rw [manifest_Text.put_ok _ _ HSS.out] at hi; replace BK := Aside0.mk (manifest_Text.far (HI.out.below (below_alloc (Below.refl _ _) _)) (blk_alloc BK.out _) (Nat.ne_of_lt HLT.out) (by decide) hk); replace HI := Aside0.mk hi; replace HW : Aside0 (w5.heap.size ≤ w12.heap.size) := ⟨Nat.le_trans (Nat.le_trans HW.out (below_alloc (Below.refl _ _) _).size) hb.size⟩; replace HB : Aside0 (Below w.heap.size w w12) := ⟨(below_alloc HB.out _).trans (hb.mono HWW.out)⟩; clear hi hb hk))
          go_roundg (gk - 1)
          case measure => omega
          case rel => exact ⟨5, s ++ t, v2, by omega, by omega, by go_num, ⟨HPN.out⟩, ⟨by rw [ByteArray.size_append]; have := HSZ.out; have := HTS.out; omega⟩, HI, BK, HW, HB⟩
        · have hp := HP.out
          simp only [List.drop_succ_cons, List.drop_zero] at hp
          rw [manifest_Text.puts] at hp
          obtain ⟨⟨t, ft⟩, HPT, hp⟩ := Option.bind_eq_some_iff.mp hp
          have HPT := Aside0.mk HPT
          split at hp
          rotate_left
          · cases hp
          rename_i hg
          obtain ⟨hg1, hg2⟩ := hg
          simp only at hg1 hg2 hp
          subst hg1
          have HPN := Aside0.mk hp
          have HTS := Aside0.mk hg2
          have HSS : Aside0 (s.size + t.size ≤ 65536) := ⟨by have := HSZ.out; omega⟩
          clear hp hg2 HP hi7 hlt
          go_wp2_with (first | (go_at_call 22; refine Calls.mono (oct_Writer_Num.wr k w5.heap.size w5.heap.size v s t 0 _ _ 0 _ (HI.out.below (below_alloc (Below.refl _ _) _)) HPT.out ?hs ?ht ?hB) ?_; (case hs => have := HSS.out; omega); (case ht => have := HSS.out; omega); (case hB => exact Nat.le_trans HW.out (below_alloc (Below.refl _ _) _).size); rintro e w12 ⟨rfl, v2, hi, hb, hk⟩; rw [manifest_Text.put_ok _ _ HSS.out] at hi; replace BK := Aside0.mk (manifest_Text.far (HI.out.below (below_alloc (Below.refl _ _) _)) (blk_alloc BK.out _) (Nat.ne_of_lt HLT.out) (by decide) hk); replace HI := Aside0.mk hi; replace HW : Aside0 (w5.heap.size ≤ w12.heap.size) := ⟨Nat.le_trans (Nat.le_trans HW.out (below_alloc (Below.refl _ _) _).size) hb.size⟩; replace HB : Aside0 (Below w.heap.size w w12) := ⟨(below_alloc HB.out _).trans (hb.mono HWW.out)⟩; clear hi hb hk))
          go_roundg (gk - 1)
          case measure => omega
          case rel => exact ⟨6, s ++ t, v2, by omega, by omega, by go_num, ⟨HPN.out⟩, ⟨by rw [ByteArray.size_append]; have := HSZ.out; have := HTS.out; omega⟩, HI, BK, HW, HB⟩
        · have hp := HP.out
          simp only [List.drop_succ_cons, List.drop_zero] at hp
          rw [manifest_Text.puts] at hp
          obtain ⟨⟨t, ft⟩, HPT, hp⟩ := Option.bind_eq_some_iff.mp hp
          have HPT := Aside0.mk HPT
          split at hp
          rotate_left
          · cases hp
          rename_i hg
          obtain ⟨hg1, hg2⟩ := hg
          simp only at hg1 hg2 hp
          subst hg1
          have HPN := Aside0.mk hp
          have HTS := Aside0.mk hg2
          have HSS : Aside0 (s.size + t.size ≤ 65536) := ⟨by have := HSZ.out; omega⟩
          clear hp hg2 HP hi7 hlt
          go_wp2_with (first | (go_at_call 22; refine Calls.mono (oct_Writer_Num.wr k w5.heap.size w5.heap.size v s t 0 _ _ 0 _ (HI.out.below (below_alloc (Below.refl _ _) _)) HPT.out ?hs ?ht ?hB) ?_; (case hs => have := HSS.out; omega); (case ht => have := HSS.out; omega); (case hB => exact Nat.le_trans HW.out (below_alloc (Below.refl _ _) _).size); rintro e w12 ⟨rfl, v2, hi, hb, hk⟩; rw [manifest_Text.put_ok _ _ HSS.out] at hi; replace BK := Aside0.mk (manifest_Text.far (HI.out.below (below_alloc (Below.refl _ _) _)) (blk_alloc BK.out _) (Nat.ne_of_lt HLT.out) (by decide) hk); replace HI := Aside0.mk hi; replace HW : Aside0 (w5.heap.size ≤ w12.heap.size) := ⟨Nat.le_trans (Nat.le_trans HW.out (below_alloc (Below.refl _ _) _).size) hb.size⟩; replace HB : Aside0 (Below w.heap.size w w12) := ⟨(below_alloc HB.out _).trans (hb.mono HWW.out)⟩; clear hi hb hk))
          go_roundg (gk - 1)
          case measure => omega
          case rel => exact ⟨7, s ++ t, v2, by omega, by omega, by go_num, ⟨HPN.out⟩, ⟨by rw [ByteArray.size_append]; have := HSZ.out; have := HTS.out; omega⟩, HI, BK, HW, HB⟩
      · obtain rfl : i = 7 := by omega
        have hp := HP.out
        simp only [List.drop_succ_cons, List.drop_zero, List.drop_nil] at hp
        rw [manifest_Text.puts] at hp
        obtain rfl := Option.some.inj hp
        clear hp HP hgg
        have h77 : ¬ (7 : Int) < 7 := by omega
        obtain ⟨p0, p1, p2, p3, p4, p5, p6, p7⟩ := cZ8 BK
        go_wp2_with (first | (go_at_call 23; refine Calls.mono (oct_Writer_Raw.wr w5.heap.size w5.heap.size v s a0_7 0 _ HI.out ?hs ?ht HW.out) ?_; (case hs => have := HSZ.out; omega); (case ht => have := HRS.out; omega); rintro e w13 ⟨rfl, v3, hi, hb, hk⟩; rw [manifest_Text.put_ok _ _ (by have := HSZ.out; have := HRS.out; omega)] at hi; replace HI := Aside0.mk hi; replace HW : Aside0 (w5.heap.size ≤ w13.heap.size) := ⟨Nat.le_trans HW.out hb.size⟩; replace HB : Aside0 (Below w.heap.size w w13) := ⟨HB.out.trans (hb.mono HWW.out)⟩; clear hi hb hk p0 p1 p2 p3 p4 p5 p6 p7 BK) | (go_at_call 27; refine Calls.mono (oct_Writer_Bytes.wr w5.heap.size w5.heap.size v3 (s ++ a0_7) 0 _ HI.out HW.out) ?_; rintro e w14 ⟨rfl, v4, hi, hb, hk⟩; rw [if_pos rfl]; replace HB : Aside0 (Below w.heap.size w w14) := ⟨HB.out.trans (hb.mono HWW.out)⟩; clear hi hb hk))
        go_ret
        exact ⟨rfl, HB.out⟩
end Go.Proofs.Ytehnebddmbdnhaa.PWireApart
