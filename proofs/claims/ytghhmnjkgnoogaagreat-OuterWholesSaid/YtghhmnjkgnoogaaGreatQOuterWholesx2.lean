-- Written by this session's own program (wip/tools/mkprint.py) over the kit's printer, with overrides.
import Derived.Test.YtghhmnjkgnoogaaGreatTOuterWholesa
import Derived.Test.YtghhmnjkgnoogaaGreatQOuterWholesx0
import Derived.Test.YtghhmnjkgnoogaaGreatQOuterWholesx1
namespace Go.Proofs.YtghhmnjkgnoogaaGreat.POuterWholes
open Go.RowKit Go.Mine Go.Proofs.YtghhmnjkgnoogaaGreatW.PrintWords Go.Proofs.YtghhmnjkgnoogaaGreatW.PrintLast Go.Proofs.YtghhmnjkgnoogaaGreatW.PrintMore
attribute [local go_sem] max2_int min2_int max_two min_two max_three min_three max_four min_four   -- for this text's walks alone
set_option linter.unusedVariables false
set_option linter.unusedSimpArgs false
/-! ### oct_Put: function 87 -/
mutual
def oct_Put.j0 : Nat → Int → Int → Bool → Option (ByteArray × Int)
 | 0, _, _, _ => none
 | k + 1, x0, x1, x8 => if x8 = true then (some ((⟨#[]⟩ : ByteArray), 1)) else (if x0 < 0 then (some ((⟨#[]⟩ : ByteArray), 8)) else (if 0 ≤ (wrap64 (8 * x1)) then (if (shr .i64 x0 (wrap64 (8 * x1))) = 0 then (oct_Put.l0 k x0 ([] : List Int) (wrap64 (x1 - 1))) else (some ((⟨#[]⟩ : ByteArray), 8))) else (none)))
def oct_Put.l0 : Nat → Int → List Int → Int → Option (ByteArray × Int)
 | 0, _, _, _ => none
 | k + 1, x0, x6, x7 => if x7 ≥ 0 then (if 0 ≤ (wrap64 (8 * x7)) then (if x6.length < 140737488355328 then (oct_Put.l0 k x0 (x6 ++ [(shr .i64 x0 (wrap64 (8 * x7))) % 256]) (wrap64 (x7 - 1))) else (none)) else (none)) else (some (strOfNums x6, 0))
end
def oct_Put.f (k : Nat) (a0 : Int) (a1 : Int) : Option (ByteArray × Int) := if a1 < 1 then (oct_Put.j0 k a0 a1 true) else (oct_Put.j0 k a0 a1 (decide (a1 > 7)))
theorem oct_Put.mono_l : ∀ k, (∀ y0 y1 y2, LeO (oct_Put.j0 k y0 y1 y2) (oct_Put.j0 (k + 1) y0 y1 y2)) ∧ (∀ y0 y1 y2, LeO (oct_Put.l0 k y0 y1 y2) (oct_Put.l0 (k + 1) y0 y1 y2))
 | 0 => ⟨fun _ _ _ r h => by simp [oct_Put.j0] at h, fun _ _ _ r h => by simp [oct_Put.l0] at h⟩
 | k + 1 => by
  obtain ⟨ih0, ih1⟩ := oct_Put.mono_l k
  refine ⟨?_, ?_⟩
  ·
   intro y0 y1 y2
   unfold oct_Put.j0
   repeat' first
   | (with_reducible exact ih0 _ _ _)
   | (with_reducible exact ih1 _ _ _)
   | (with_reducible exact LeO.refl _)
   | (with_reducible exact LeO.none _)
   | (with_reducible refine LeO.ite ?_ ?_)
   | (with_reducible refine LeO.bind ?_ (fun _ => ?_))
   | exact ih0 _ _ _
   | exact ih1 _ _ _
   | exact LeO.none _
   | refine LeO.ite ?_ ?_
   | refine LeO.bind ?_ (fun _ => ?_)
  ·
   intro y0 y1 y2
   unfold oct_Put.l0
   repeat' first
   | (with_reducible exact ih0 _ _ _)
   | (with_reducible exact ih1 _ _ _)
   | (with_reducible exact LeO.refl _)
   | (with_reducible exact LeO.none _)
   | (with_reducible refine LeO.ite ?_ ?_)
   | (with_reducible refine LeO.bind ?_ (fun _ => ?_))
   | exact ih0 _ _ _
   | exact ih1 _ _ _
   | exact LeO.none _
   | refine LeO.ite ?_ ?_
   | refine LeO.bind ?_ (fun _ => ?_)
theorem oct_Put.mono : ∀ a0 a1 k, LeO (oct_Put.f k a0 a1) (oct_Put.f (k + 1) a0 a1) := by
 intro a0 a1 k
 obtain ⟨ih0, ih1⟩ := oct_Put.mono_l k
 unfold oct_Put.f
 repeat' first
   | (with_reducible exact ih0 _ _ _)
   | (with_reducible exact ih1 _ _ _)
   | (with_reducible exact LeO.refl _)
   | (with_reducible exact LeO.none _)
   | (with_reducible refine LeO.ite ?_ ?_)
   | (with_reducible refine LeO.bind ?_ (fun _ => ?_))
   | exact ih0 _ _ _
   | exact ih1 _ _ _
   | exact LeO.none _
   | refine LeO.ite ?_ ?_
   | refine LeO.bind ?_ (fun _ => ?_)
set_option maxHeartbeats 8000000 in
set_option maxRecDepth 100000 in
theorem oct_Put.calls (k : Nat) (a0 : Int) (a1 : Int) (r1 : ByteArray) (r2 : Int) (w : World) (h : oct_Put.f k a0 a1 = some (r1, r2)) :
  Calls Tryz.prog 87 #[.int .i64 a0, .int .i64 a1] w fun e w' => e = .returned (.tuple #[.string r1, .int .i64 r2]) ∧ Below w.heap.size w w' := by
 have HB := Aside0.mk (Below.refl w.heap.size w)
 have H : (if a1 < 1 then (oct_Put.j0 k a0 a1 true) else (oct_Put.j0 k a0 a1 (decide (a1 > 7)))) = some (r1, r2) := h
 clear h; have HC3 := Aside0.mk H
 clear H; go_enter Tryz.func87, Tryz.ntmps87
 go_upto_region 1 with (fail)
 go_cut [8] (fun v8 wc => ∃ (kq : Nat) (x8_2 : Bool), v8 = .bool x8_2 ∧ Aside0 (oct_Put.j0 kq a0 a1 x8_2 = some (r1, r2)) ∧ Aside0 (kq ≤ k) ∧ Aside0 (Below w.heap.size w wc))
 case first =>
  have H := HC3.out; clear HC3; by_cases c4 : a1 < 1
  ·
   rw [if_pos c4] at H
   have c4b0 : decide (a1 < 1) = true := decide_eq_true c4
   clear c4; (first | rw [c4b0] | (simp only [i64_w, i32_w]; rw [c4b0]) | skip)
   have H' := Aside0.mk H
   clear H; go_wp2
   go_meet
   case rel => exact ⟨_, (true), zF, H', ⟨by first | omega | exact Nat.le_refl _⟩, ⟨zB⟩⟩
  ·
   rw [if_neg c4] at H
   have c4b0 : decide (a1 < 1) = false := decide_eq_false c4
   clear c4; (first | rw [c4b0] | (simp only [i64_w, i32_w]; rw [c4b0]) | skip)
   have H' := Aside0.mk H
   clear H; go_wp2
   go_meet
   case rel => exact ⟨_, (decide (a1 > 7)), zF, H', ⟨by first | omega | exact Nat.le_refl _⟩, ⟨zB⟩⟩
 case rest =>
  clear HC3; (try clear p2); (try clear c4); (try clear c4b0); obtain ⟨kq, x8_2, rfl, HA, HJ2, HB⟩ := hcut
  cases kq with
  | zero => exact absurd HA.out (by simp [oct_Put.j0])
  | succ kj2 =>
   have H := HA.out; clear HA; simp only [oct_Put.j0] at H
   by_cases c5 : x8_2 = true
   ·
    subst c5
    have H1 : (some ((⟨#[]⟩ : ByteArray), 1)) = some (r1, r2) := by rw [if_pos rfl] at H; exact H
    clear H; have H := H1; clear H1; simp only [Option.some.injEq, Prod.mk.injEq] at H
    obtain ⟨rfl, rfl⟩ := H
    go_wp2
    go_ret2
    exact ⟨zE, zB⟩
   ·
    replace c5 := Bool.eq_false_iff.mpr c5
    subst c5
    have H1 : (if a0 < 0 then (some ((⟨#[]⟩ : ByteArray), 8)) else (if 0 ≤ (wrap64 (8 * a1)) then (if (shr .i64 a0 (wrap64 (8 * a1))) = 0 then (oct_Put.l0 kj2 a0 ([] : List Int) (wrap64 (a1 - 1))) else (some ((⟨#[]⟩ : ByteArray), 8))) else (none))) = some (r1, r2) := by rw [if_neg (show ¬ (false = true) by decide)] at H; exact H
    clear H; have H := H1; clear H1; by_cases c6 : a0 < 0
    ·
     rw [if_pos c6] at H
     have c6b0 : decide (a0 < 0) = true := decide_eq_true c6
     clear c6; simp only [Option.some.injEq, Prod.mk.injEq] at H
     obtain ⟨rfl, rfl⟩ := H
     go_wp2
     go_ret2
     exact ⟨zE, zB⟩
    ·
     rw [if_neg c6] at H
     have c6b0 : decide (a0 < 0) = false := decide_eq_false c6
     clear c6; obtain ⟨ji7, hji7⟩ : ∃ j_ : Int, (wrap64 (8 * a1)) = j_ := ⟨_, rfl⟩
     replace H : (if 0 ≤ (ji7) then (if (shr .i64 a0 (ji7)) = 0 then (oct_Put.l0 kj2 a0 ([] : List Int) (wrap64 (a1 - 1))) else (some ((⟨#[]⟩ : ByteArray), 8))) else (none)) = some (r1, r2) := by first | (rw [hji7] at H; exact H) | (simp only [hji7] at H ⊢; exact H)
     have hji7w : (IntKind.i64.wrap (8 * a1)) = ji7 := (i64_w _).trans hji7
     by_cases c8 : 0 ≤ (ji7)
     ·
      rw [if_pos c8] at H
      have c8b0 := eq_true c8
      have c8b1 : decide (0 ≤ (ji7)) = true := decide_eq_true c8
      clear c8; obtain ⟨ji9, hji9⟩ : ∃ j_ : Int, (shr .i64 a0 (ji7)) = j_ := ⟨_, rfl⟩
      replace H : (if (ji9) = 0 then (oct_Put.l0 kj2 a0 ([] : List Int) (wrap64 (a1 - 1))) else (some ((⟨#[]⟩ : ByteArray), 8))) = some (r1, r2) := by first | (rw [hji9] at H; exact H) | (simp only [hji9] at H ⊢; exact H)
      have hji9_ : (a0 / 2 ^ min (ji7).toNat 64) = ji9 := hji9
      have hji9z : (ji7) ≤ 64 → (a0 / 2 ^ (ji7).toNat) = ji9 := shr_small hji9
      by_cases c10 : (ji9) = 0
      ·
       rw [if_pos c10] at H
       have c10b0 : ((ji9) == 0) = true := beq_iff_eq.mpr c10
       have c10b1 : ((ji9) != 0) = false := bne_eq_false_iff_eq.mpr c10
       clear c10; have H' := Aside0.mk H
       clear H; go_wp2
       go_loopg [6, 7] kj2 (fun kq v6 v7 w' => ∃ (x6_2 : List Int) (x7_2 : Int), v7 = .int .i64 x7_2 ∧ Aside0 (oct_Put.l0 kq a0 x6_2 x7_2 = some (r1, r2)) ∧ Aside0 (kq ≤ kj2) ∧ Aside0 (Kd.R (Kd.int .u8) 5 w' w.heap.size (fun _ => True) v6 x6_2) ∧ Aside0 (Below w.heap.size w w'))
       case atStart => exact ⟨(([] : List Int)), (wrap64 (a1 - 1)), zF, H', ⟨Nat.le_refl _⟩, ⟨by first | exact Kd.R_nil _ _ _ _ _ | exact Kd.N_nil _ _ _ _ _ | exact Kd.V_nil _ _ _ _ _ | exact Kd.Q_nil _ _ _ _ _ | exact Kd.S_nil _ _ _ _ _⟩, ⟨zB⟩⟩
       case round =>
        clear H'
        (try clear c1); (try clear p2); (try clear c4); (try clear c4b0); (try clear c5); (try clear c6); (try clear c6b0); (try clear p6); (try clear c8); (try clear c8b0); (try clear c8b1); (try clear c10); (try clear c10b0); (try clear c10b1); (try clear p2); obtain ⟨x6_2, x7_2, rfl, HA, HK2, HO_6, HB⟩ := hrel
        cases gk with
        | zero => exact absurd HA.out (by simp [oct_Put.l0])
        | succ k2 =>
         have H := HA.out; clear HA; simp only [oct_Put.l0] at H
         by_cases c11 : x7_2 ≥ 0
         ·
          rw [if_pos c11] at H
          have c11b0 : decide (0 ≤ x7_2) = true := decide_eq_true c11
          clear c11; obtain ⟨ji12, hji12⟩ : ∃ j_ : Int, (wrap64 (8 * x7_2)) = j_ := ⟨_, rfl⟩
          replace H : (if 0 ≤ (ji12) then (if x6_2.length < 140737488355328 then (oct_Put.l0 k2 a0 (x6_2 ++ [(shr .i64 a0 (ji12)) % 256]) (wrap64 (x7_2 - 1))) else (none)) else (none)) = some (r1, r2) := by first | (rw [hji12] at H; exact H) | (simp only [hji12] at H ⊢; exact H)
          have hji12w : (IntKind.i64.wrap (8 * x7_2)) = ji12 := (i64_w _).trans hji12
          by_cases c13 : 0 ≤ (ji12)
          ·
           rw [if_pos c13] at H
           have c13b0 := eq_true c13
           have c13b1 : decide (0 ≤ (ji12)) = true := decide_eq_true c13
           clear c13; obtain ⟨ji14, hji14⟩ : ∃ j_ : Int, (shr .i64 a0 (ji12)) = j_ := ⟨_, rfl⟩
           replace H : (if x6_2.length < 140737488355328 then (oct_Put.l0 k2 a0 (x6_2 ++ [(ji14) % 256]) (wrap64 (x7_2 - 1))) else (none)) = some (r1, r2) := by first | (rw [hji14] at H; exact H) | (simp only [hji14] at H ⊢; exact H)
           have hji14_ : (a0 / 2 ^ min (ji12).toNat 64) = ji14 := hji14
           have hji14z : (ji12) ≤ 64 → (a0 / 2 ^ (ji12).toNat) = ji14 := shr_small hji14
           by_cases c15 : x6_2.length < 140737488355328
           ·
            rw [if_pos c15] at H
            have LMc15 := Aside0.mk c15
            clear c15; obtain ⟨y108, hy108⟩ : ∃ y_ : List Int, y_ = (x6_2 ++ [(ji14) % 256]) := ⟨_, rfl⟩
            replace H : (oct_Put.l0 k2 a0 y108 (wrap64 (x7_2 - 1))) = some (r1, r2) := by first | (rw [hy108]; with_reducible exact H) | (have H2_ := (Option.bind_some _ _).symm.trans H; rw [hy108]; with_reducible exact H2_) | (have H2_ := (Option.bind_some _ _).symm.trans H; with_reducible exact H2_) | with_reducible exact H | (rw [hy108]; exact H) | exact H
            have Ny108 := Aside0.mk hy108
            clear hy108; have H' := Aside0.mk H
            clear H; go_wp2_with (first | ((with_reducible refine gate_builtin (b := .append) (xs := #[.tmp 31, .tmp 37]) rfl ?_); at_builtin; refine Kd.R_append (Kd.int .u8) (w0 := w) w.heap.size rfl (.tmp 31) (.tmp 37) 90 5 (.int .u8 0) 1 rfl Tryz.underlying90 info5 rfl (by decide) (by omega) u6 x6_2 ((ji14) % 256) [.int .u8 ((ji14) % 256)] (fun _ => True) (fun _ => False) rfl rfl ?aP (fun _ hk => hk.elim) ?aF ?aO ?aB ?aS ?aL ?_; (case aP => exact rfl); (case aB => exact zB); (case aF => exact (fun _ _ => trivial)); (case aO => exact (by (with_reducible repeat (first | apply Kd.R_alloc | apply Kd.R_drewN | apply Kd.R_drew)); exact HO_6.out)); (case aS => exact (below_size zB)); (case aL => have := LMc15.out; omega); intro v109 w16 ho hb hg hat; rw [← Ny108.out] at ho; have HO110 := Aside0.mk (ho); replace HB := Aside0.mk (hb); clear HO_6; clear ho hb hg hat))
            go_roundg k2
            case measure => have := HJ2.out; have := HK2.out; omega
            case rel => exact ⟨(y108), (wrap64 (x7_2 - 1)), zF, H', ⟨by have := HJ2.out; have := HK2.out; omega⟩, ⟨zR HO110⟩, ⟨zB⟩⟩
           ·
            rw [if_neg c15] at H
            exact absurd H (by simp)
          ·
           rw [if_neg c13] at H
           exact absurd H (by simp)
         ·
          rw [if_neg c11] at H
          have c11b0 : decide (0 ≤ x7_2) = false := decide_eq_false c11
          clear c11; simp only [Option.some.injEq, Prod.mk.injEq] at H
          obtain ⟨rfl, rfl⟩ := H
          have hcv17 := own_string (P := Tryz.prog) Tryz.underlying90 Tryz.underlying5 Tryz.underlying9 (Kd.own_of_R HO_6.out)
          have hcvd18 := fun n_ => own_string (P := Tryz.prog) Tryz.underlying90 Tryz.underlying5 Tryz.underlying9 (Kd.own_of_R (Kd.R_drewN HO_6.out n_))
          go_wp2
          go_ret2
          exact ⟨by first | rfl | (simp [errW_none, errW_some] <;> rfl) | (simp only [← hji7, ← hji9]; first | rfl | (simp [errW_none, errW_some] <;> rfl)) | (simp [*, errW_none, errW_some] <;> rfl), zB⟩
      ·
       rw [if_neg c10] at H
       have c10b0 : ((ji9) == 0) = false := beq_eq_false_iff_ne.mpr c10
       have c10b1 : ((ji9) != 0) = true := bne_iff_ne.mpr c10
       simp only [Option.some.injEq, Prod.mk.injEq] at H
       obtain ⟨rfl, rfl⟩ := H
       go_wp2
       go_ret2
       exact ⟨by first | rfl | (simp [errW_none, errW_some] <;> rfl) | (simp only [← hji7, ← hji9]; first | rfl | (simp [errW_none, errW_some] <;> rfl)) | (simp [*, errW_none, errW_some] <;> rfl), zB⟩
     ·
      rw [if_neg c8] at H
      exact absurd H (by simp)
/-! ### oct_Writer_Num: function 69 -/
theorem oct_Writer_Num.wr (k : Nat) (B g : Nat) (v : Value) (s t : ByteArray) (er x y f : Int) (w : World) (h : IsWr 124 5 B g v s er w) (hp : oct_Put.f k x y = some (t, f)) (hs : s.size ≤ 65536) (ht : t.size ≤ 140737488289000) (hBw : B ≤ w.heap.size) :
    Calls Tryz.prog 69 #[.pointer (some ⟨g, 0, none⟩), .int .i64 x, .int .i64 y] w fun e w' => e = .returned (.tuple #[]) ∧ WrStep 124 5 B g v (putS s er t f).1 (putS s er t f).2 w w' := by
  have HP0 := Aside0.mk hp
  have HI := Aside0.mk h
  clear h hp
  go_enter Tryz.func69, Tryz.ntmps69
  go_wp2_with fail
  refine (oct_Put.calls k x y t f w HP0.out).mono ?_
  rintro e w1 ⟨rfl, hb⟩
  have HP := Aside0.mk (oct_Writer_put.wr B g v s t er f w1 (HI.out.below hb) hs ht (Nat.le_trans hBw hb.size))
  have HB := Aside0.mk hb
  clear hb
  go_wp2_with (go_at_call 86; refine HP.out.mono ?_; rintro e w' ⟨rfl, HS⟩; have HSS := Aside0.mk HS; clear HS)
  go_end0
  refine ⟨rfl, ?_⟩
  obtain ⟨v', h1, h2, h3⟩ := HSS.out
  refine ⟨v', h1, (HB.out.mono hBw).trans h2, (Kept.of_below HB.out _).then_ h3 (fun k hk => .inl hk)⟩
theorem oct_Writer_Num.nil (x y : Int) (w : World) : Calls Tryz.prog 69 #[.pointer none, .int .i64 x, .int .i64 y] w fun e w' => e = .returned (.tuple #[]) ∧ w' = w := by
  go_enter Tryz.func69, Tryz.ntmps69
  go_wp2
  go_end0
  exact ⟨rfl, rfl⟩
/-! ### strings_Builder_String: function 85 -/
set_option maxHeartbeats 2000000 in
set_option maxRecDepth 100000 in
theorem strings_Builder_String.some_ (B g : Nat) (p v : Value) (s : ByteArray) (er : Int) (w : World) (hp : p = .pointer none ∨ p = .pointer (some ⟨g, 0, none⟩)) (h : WrAt 124 5 B g p v s er w) (h0 : s.size ≠ 0) :
    Calls Tryz.prog 85 #[.pointer (some ⟨g, 0, none⟩)] w fun e w' => e = .returned (.string s) ∧ WrStep 124 5 B g v s er w w' := by
  obtain ⟨g', cap, cur, fz, rfl, hbg, hg, hfz, hnc, hcm, hcs, htake⟩ : ∃ g' cap cur fz, v = .slice (some ⟨g', 0, none⟩) s.size cap ∧ B ≤ g' ∧ w.heap[g']? = some (.cells cur 5 fz) ∧ fz.2 ≤ s.size * 1 ∧ s.size ≤ cap ∧ cap ≤ maxLen ∧ cur.size = cap * 1 ∧ cur.toList.take (s.size * 1) = Lib.strCells s := by
    rcases h.2.2.1.2 with ⟨_, hz⟩ | ⟨g', cap, cur, fz, hv, r⟩
    · exact absurd hz h0
    · exact ⟨g', cap, cur, fz, hv, r⟩
  have hl : s.data.toList.length = s.size := by rw [Array.length_toList]; rfl
  have hne : s.data.toList ≠ [] := fun e => h0 (by rw [← hl, e]; rfl)
  have c1 : w.drew.cell? ⟨g, 1, none⟩ = some (.slice (some ⟨g', 0, none⟩) s.size cap) := h.cell1
  have hSD : (Builtin.unsafeSliceData_ #[90] 145 #[.slice (some ⟨g', 0, none⟩) s.size cap]).run Tryz.prog w.drew = .ok (.pointer (some ⟨g', 0, none⟩)) w.drew :=
    Lib.run_unsafeSliceData_row _ _ _ _ _ _ (by omega)
  have hUS : (Builtin.unsafeString_ #[145, 3] 9 #[.pointer (some ⟨g', 0, none⟩), .int .i64 s.size]).run Tryz.prog w.drew = .ok (.string s) (w.drew.freeze ⟨g', 0, none⟩ s.size) := by
    have := Lib.run_unsafeString_row (P := Tryz.prog) w.drew 145 3 9 5 Tryz.underlying145 (by kernel_rfl) g' cur.size (by have hg' : w.drew.heap[g']? = some (.cells cur 5 fz) := hg; simp [World.shape?, hg']) s.data.toList hne (by rw [hl]; omega) (by rw [hl]; unfold maxLen at hcm; omega) (by
      intro j x hx
      have hh := h.2.2.1.cells (g := g') rfl j (.int .u8 x.toNat) (by simp [Lib.strCells, hx])
      exact hh)
    rw [hl] at this
    exact this
  have HW : Aside0 (WrAt 124 5 B g p (.slice (some ⟨g', 0, none⟩) s.size cap) s er (w.drew.freeze ⟨g', 0, none⟩ s.size)) := ⟨h.drew.froze⟩
  have HB : Aside0 (Below B w (w.drew.freeze ⟨g', 0, none⟩ s.size)) := ⟨Lib.below_freeze (Below.drew (Below.refl B w)) (p := ⟨g', 0, none⟩) hbg _⟩
  have HK : Aside0 (Kept w (w.drew.freeze ⟨g', 0, none⟩ s.size) (fun k => k = g ∨ (Value.slice (some ⟨g', 0, none⟩) s.size cap).ownBlock = some k)) := by
    refine ⟨HB.out.size, fun i hi hn => ?_⟩
    have hi' : g' ≠ i := fun e => hn (.inr (by rw [e]; rfl))
    unfold World.freeze
    split
    · rfl
    · simp only [Array.getElem?_modify]
      rw [if_neg hi']
      rfl
  clear h hbg hg hfz hcs htake hne hl
  go_enter Tryz.func85, Tryz.ntmps85
  go_wp2
  go_region
  all_goals (go_wp2; go_ret; exact ⟨rfl, _, ⟨_, hp, HW.out⟩, HB.out, HK.out⟩)
theorem strings_Builder_String.unsafeString_none (W : World) (q : Option Addr) : (Builtin.unsafeString_ #[145, 3] 9 #[.pointer q, .int .i64 0]).run Tryz.prog W = .ok (.string .empty) W := by
  cases q <;> rfl
theorem strings_Builder_String.nothing (B g : Nat) (p : Value) (er : Int) (w : World) (hp : p = .pointer none ∨ p = .pointer (some ⟨g, 0, none⟩)) (v : Value) (s : ByteArray) (h : WrAt 124 5 B g p v s er w) (hs : s.size = 0) (hBw : B ≤ w.heap.size) :
    Calls Tryz.prog 85 #[.pointer (some ⟨g, 0, none⟩)] w fun e w' => e = .returned (.string s) ∧ WrStep 124 5 B g v s er w w' := by
  have hes : s = ⟨#[]⟩ := by
    have : s.data.size = 0 := hs
    cases s
    simp only [ByteArray.mk.injEq]
    exact Array.eq_empty_of_size_eq_zero this
  have hUS := strings_Builder_String.unsafeString_none
  have hlt := h.lt
  have fin : ∀ w' : World, Below w.heap.size w w' → WrStep 124 5 B g v s er w w' := fun w' hb => ⟨v, ⟨p, hp, h.below hb⟩, hb.mono hBw, Kept.of_below hb _⟩
  have FIN := Aside0.mk fin
  clear fin
  rcases h.2.2.1.2 with ⟨hv, _⟩ | ⟨g', cap, cur, fz, hv, hbg, hg, _⟩
  · have c1 : w.drew.cell? ⟨g, 1, none⟩ = some (.slice none 0 0) := by have := h.cell1; rw [hv] at this; exact this
    have hSD : (Builtin.unsafeSliceData_ #[90] 145 #[.slice none 0 0]).run Tryz.prog w.drew = .ok (.pointer none) w.drew := rfl
    clear h hs hv
    subst hes
    go_enter Tryz.func85, Tryz.ntmps85
    go_wp2
    go_region
    all_goals (go_wp2; go_ret; exact ⟨rfl, FIN.out _ (Below.drew (Below.refl _ _))⟩)
  · rw [hs] at hv
    have c1 : w.drew.cell? ⟨g, 1, none⟩ = some (.slice (some ⟨g', 0, none⟩) 0 cap) := by have := h.cell1; rw [hv] at this; exact this
    by_cases hc0 : cap = 0
    · subst hc0
      have hSD : (Builtin.unsafeSliceData_ #[90] 145 #[.slice (some ⟨g', 0, none⟩) 0 0]).run Tryz.prog w.drew = .ok (.pointer (some ⟨w.drew.heap.size, 0, none⟩)) (w.drew.alloc (.view ⟨g', 0, none⟩ 5)) :=
        Lib.run_unsafeSliceData_zero w.drew _ _ 5 Tryz.underlying145 ⟨g', 0, none⟩ 0 (5, cur.size) (by have hg' : w.drew.heap[g']? = some (.cells cur 5 fz) := hg; simp [World.shape?, hg'])
      have c2 : (w.drew.alloc (.view ⟨g', 0, none⟩ 5)).cell? ⟨g, 1, none⟩ = some (.slice (some ⟨g', 0, none⟩) 0 0) := by
        have h2 := (h.below ((Below.refl w.heap.size w).drew.alloc (Nat.le_refl _) (.view ⟨g', 0, none⟩ 5))).cell1
        rw [hv] at h2
        exact h2
      have c3 : (w.alloc (.view ⟨g', 0, none⟩ 5)).drew.cell? ⟨g, 1, none⟩ = some (.slice (some ⟨g', 0, none⟩) 0 0) := c2
      have c0 : w.cell? ⟨g, 1, none⟩ = some (.slice (some ⟨g', 0, none⟩) 0 0) := c1
      clear h hs hv hg hbg
      subst hes
      go_enter Tryz.func85, Tryz.ntmps85
      go_wp2
      go_region
      all_goals (go_wp2; go_ret; exact ⟨rfl, FIN.out _ ((Below.drew (Below.refl _ _)).alloc (Nat.le_refl _) _)⟩)
    · have hSD : (Builtin.unsafeSliceData_ #[90] 145 #[.slice (some ⟨g', 0, none⟩) 0 cap]).run Tryz.prog w.drew = .ok (.pointer (some ⟨g', 0, none⟩)) w.drew :=
        Lib.run_unsafeSliceData_row _ _ _ _ _ _ hc0
      clear h hs hv hg hbg hc0
      subst hes
      go_enter Tryz.func85, Tryz.ntmps85
      go_wp2
      go_region
      all_goals (go_wp2; go_ret; exact ⟨rfl, FIN.out _ (Below.drew (Below.refl _ _))⟩)
theorem strings_Builder_String.wr (B g : Nat) (v : Value) (s : ByteArray) (er : Int) (w : World) (h : IsWr 124 5 B g v s er w) (hBw : B ≤ w.heap.size) :
    Calls Tryz.prog 85 #[.pointer (some ⟨g, 0, none⟩)] w fun e w' => e = .returned (.string s) ∧ WrStep 124 5 B g v s er w w' := by
  obtain ⟨p, hp, h⟩ := h
  by_cases h0 : s.size = 0
  · exact strings_Builder_String.nothing B g p er w hp v s h h0 hBw
  · exact strings_Builder_String.some_ B g p v s er w hp h h0
/-! ### oct_Writer_Bytes: function 70 -/
set_option maxHeartbeats 1000000 in
theorem oct_Writer_Bytes.wr (B g : Nat) (v : Value) (s : ByteArray) (er : Int) (w : World) (h : IsWr 124 5 B g v s er w) (hBw : B ≤ w.heap.size) :
    Calls Tryz.prog 70 #[.pointer (some ⟨g, 0, none⟩)] w fun e w' => e = .returned (.tuple #[.string (if er = 0 then s else ⟨#[]⟩), .int .i64 er]) ∧ WrStep 124 5 B g v s er w w' := by
  have HS := Aside0.mk (strings_Builder_String.wr B g v s er w h hBw)
  obtain ⟨p, hp, h⟩ := h
  have c2 := h.cell2
  have HD : Aside0 (∀ m, WrStep 124 5 B g v s er w (w.drewN m)) := ⟨fun m => ⟨v, ⟨p, hp, h.below (pw_below_drewN (Below.refl _ _) m)⟩, pw_below_drewN (Below.refl _ _) m, Kept.of_below (pw_below_drewN (Below.refl _ _) m) _⟩⟩
  clear h hp
  by_cases h1 : er = 0
  · subst h1
    rw [if_pos rfl]
    clear HD
    go_enter Tryz.func70, Tryz.ntmps70
    go_wp2_with (go_at_call 85; refine HS.out.mono ?_; rintro e w' ⟨rfl, HSS⟩; have HSS2 := Aside0.mk HSS; clear HSS)
    go_ret2
    exact ⟨rfl, HSS2.out⟩
  · rw [if_neg h1]
    have t1 : (er == 0) = false := beq_eq_false_iff_ne.mpr h1
    have t2 : (er != 0) = true := bne_iff_ne.mpr h1
    clear h1 HS
    go_enter Tryz.func70, Tryz.ntmps70
    go_wp2
    go_quiet (fail)
    go_wp2
    go_ret2
    exact ⟨rfl, HD.out _⟩
theorem oct_Writer_Bytes.nil (w : World) : Calls Tryz.prog 70 #[.pointer none] w fun e w' => e = .returned (.tuple #[.string ⟨#[]⟩, .int .i64 1]) ∧ w' = w := by
  go_enter Tryz.func70, Tryz.ntmps70
  go_wp2
  go_ret2
  exact ⟨rfl, rfl⟩
end Go.Proofs.YtghhmnjkgnoogaaGreat.POuterWholes
