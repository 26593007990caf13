-- Written by this session's own program (wip/tools/mkprint.py) over the kit's printer, with overrides.
import Derived.Test.YtghhmnjkgnoogaaGreatTOuterWholesa
import Derived.Test.YtghhmnjkgnoogaaGreatQOuterWholesx0
import Derived.Test.YtghhmnjkgnoogaaGreatQOuterWholesx13
namespace Go.Proofs.YtghhmnjkgnoogaaGreat.POuterWholes
open Go.RowKit Go.Mine Go.Proofs.YtghhmnjkgnoogaaGreatW.PrintWords Go.Proofs.YtghhmnjkgnoogaaGreatW.PrintLast Go.Proofs.YtghhmnjkgnoogaaGreatW.PrintMore
attribute [local go_sem] max2_int min2_int max_two min_two max_three min_three max_four min_four   -- for this text's walks alone
set_option linter.unusedVariables false
set_option linter.unusedSimpArgs false
/-! ### block_add: function 79 -/
set_option maxHeartbeats 1000000 in
theorem block_add.row (B g c n : Nat) (xs : List Int) (b : ByteArray) (w : World) (h : ByteRow 5 w g xs) (hn : xs.length = n) (hb : n ≤ b.size) (hB : B ≤ g) (hz : n ≤ 140737488351232) :
    Calls Tryz.prog 79 #[.slice (some ⟨g, 0, none⟩) n c, .string b] w fun e w' => e = .returned (.tuple #[]) ∧ ByteRow 5 w' g (bothB .xor xs (bytesI b) n) ∧ Below B w w' := by
  have HROW := Aside0.mk h
  have HN := Aside0.mk hn
  have HS := Aside0.mk hb
  have HBG := Aside0.mk hB
  clear h hn hb hB
  go_enter Tryz.func79, Tryz.ntmps79
  go_wp2_with fail
  go_loopw [4, 7] (fun _ v7 wr => ∃ k : Nat, k ≤ n ∧ v7 = .int .i64 k ∧ Aside0 (ByteRow 5 wr g (bothB .xor xs (bytesI b) k)) ∧ Aside0 (Below B w wr)) (fun _ v7 _ => n - (intOf v7).toNat)
  case atStart => exact ⟨0, Nat.zero_le _, rfl, HROW, ⟨Below.refl _ _⟩⟩
  case round =>
    obtain ⟨k, hk, rfl, HROW2, HB2⟩ := hrel
    clear HROW
    by_cases hlt : k < n
    · have hltz : (k : Int) < (n : Int) := by omega
      have hlt1 : k < b.size := by have := HS.out; omega
      have hlt1z : (k : Int) < (b.size : Int) := by omega
      have hlen : (bothB .xor xs (bytesI b) k).length = n := by rw [bothB_length, HN.out]
      have hcell := HROW2.out.cell k (by omega)
      have hfr := HROW2.out.frozen k (by omega)
      have hset := HROW2.out.set k (by omega) (Go.bits .xor .u8 ((bothB .xor xs (bytesI b) k).getD k 0) ((bytesI b).getD k 0))
      have hst : bothB .xor xs (bytesI b) (k + 1) = (bothB .xor xs (bytesI b) k).set k (Go.bits .xor .u8 ((bothB .xor xs (bytesI b) k).getD k 0) ((bytesI b).getD k 0)) := rfl
      rw [← hst, bytesI_getD b k hlt1] at hset
      have HSET := Aside0.mk hset
      clear hset hst hlen
      generalize (bothB .xor xs (bytesI b) k).getD k 0 = x at *
      go_wp2_with fail
      go_region
      all_goals
        go_wp2
        go_roundw
        case rel => exact ⟨k + 1, by omega, by go_num, ⟨HSET.out.drew⟩, ⟨(HB2.out.setCell HBG.out _).drew⟩⟩
        case measure => simp [intOf]; omega
    · have hltz : ¬ (k : Int) < (n : Int) := by omega
      have hkk : k = n := by omega
      subst hkk
      go_wp2
      first | go_end0 | ((try simp only [Exit.inBlock, Exit.then]); refine bodyPost_ret (results_none rfl _ _ _) rfl ?_)
      exact ⟨rfl, HROW2.out, HB2.out⟩
/-! ### block_Sum: function 59 -/
def block_Sum.go (n : Nat) : List Int → List ByteArray → List Int
  | x, [] => x
  | x, s :: l => block_Sum.go n (bothB .xor x (bytesI s) n) l
def block_Sum.f (l0 : List ByteArray) (a1 : Int) : Option (ByteArray × Int) :=
  (block_may.f a1).bind fun b => if b = true then (if a1 < 0 ∨ 1000000 < a1 then none else if l0.any (fun s => !((s.size : Int) == a1)) = true then some (⟨#[]⟩, 1) else some (strOfNums (block_Sum.go a1.toNat (List.replicate a1.toNat 0) l0), 0)) else some (⟨#[]⟩, 1)
theorem block_Sum.pred (n : Int) (B : Nat) (w : World) (hB : B < w.heap.size) (hcell : w.cell? ⟨B, 0, none⟩ = some (.int .i64 n)) (W : World) (x : ByteArray) (hb : Below w.heap.size w W) :
    Calls Tryz.prog 78 (#[.string x] ++ #[.pointer (some ⟨B, 0, none⟩)]) W fun e w' => e = .returned (.bool (!((x.size : Int) == n))) ∧ Drawn0 W w' := by
  have hc : W.cell? ⟨B, 0, none⟩ = some (.int .i64 n) := (hb.cell (p := ⟨B, 0, none⟩) hB).trans hcell
  clear hcell hB hb
  show Calls Tryz.prog 78 #[.string x, .pointer (some ⟨B, 0, none⟩)] W _
  go_enter Tryz.func78, Tryz.ntmps78
  go_wp2
  all_goals (go_ret; exact ⟨by first | rfl | (simp; done), ⟨0, rfl⟩⟩)
set_option maxHeartbeats 1000000 in
theorem block_Sum.calls (A0 : Option Addr) (c0 : Nat) (l0 : List ByteArray) (a1 : Int) (r1 : ByteArray) (r2 : Int) (w : World) (hr0 : Kd.C Kd.string w A0 l0.length l0) (hc0 : l0.length ≤ c0) (h : block_Sum.f l0 a1 = some (r1, r2)) :
    Calls Tryz.prog 59 #[.slice A0 l0.length c0, .int .i64 a1] w fun e w' => e = .returned (.tuple #[.string r1, .int .i64 r2]) ∧ Below w.heap.size w w' := by
  have HB : Aside0 (Below w.heap.size w (w.alloc (.cells #[.int .i64 a1] 3))) := ⟨below_alloc (Below.refl _ _) _⟩
  have HR := Aside0.mk (Kd.C_below hr0 HB.out)
  have hbx : (w.alloc (.cells #[.int .i64 a1] 3)).cell? ⟨w.heap.size, 0, none⟩ = some (.int .i64 a1) := by simp
  have HX := Aside0.mk hbx
  have hin : w.heap.size < (w.alloc (.cells #[.int .i64 a1] 3)).heap.size := by simp
  have HIN := Aside0.mk hin
  have eg : ∀ args w, (callFunc 78 args).run Tryz.prog w = .ok (.enter 78 args) w := enters_of Tryz.func78 (by kernel_rfl) rfl
  unfold block_Sum.f at h
  obtain ⟨bm, hm, h⟩ := Option.bind_eq_some_iff.mp h
  have HM := Aside0.mk hm
  have hlen := hr0.2.1
  have HR00 := Aside0.mk hr0
  clear hr0 hm hbx hin
  have HH := Aside0.mk h
  clear h
  go_enter Tryz.func59, Tryz.ntmps59
  go_wp2_with fail
  refine (block_may.calls _ _ _ HM.out).mono ?_
  rintro e w' ⟨rfl, ⟨q1, rfl⟩⟩
  have hin1 : w.heap.size < ((w.alloc (.cells #[.int .i64 a1] 3)).drewN q1).heap.size := HIN.out
  have hbx1 : ((w.alloc (.cells #[.int .i64 a1] 3)).drewN q1).cell? ⟨w.heap.size, 0, none⟩ = some (.int .i64 a1) := HX.out
  have HC := slices_ContainsFunc_string_string.gives (fun s => !((s.size : Int) == a1)) 78 #[.pointer (some ⟨w.heap.size, 0, none⟩)] eg A0 c0 l0 ((w.alloc (.cells #[.int .i64 a1] 3)).drewN q1)
    (block_Sum.pred a1 w.heap.size _ hin1 hbx1) (Kd.C_below HR.out (pw_below_drewN (Below.refl _ _) _))
  clear hin1 hbx1 eg
  generalize hw1 : (w.alloc (.cells #[.int .i64 a1] 3)).drewN q1 = w1 at *
  have HB1 : Aside0 (Below w.heap.size w w1) := ⟨by rw [← hw1]; exact pw_below_drewN HB.out _⟩
  have HX1 : w1.cell? ⟨w.heap.size, 0, none⟩ = some (.int .i64 a1) := by rw [← hw1]; exact HX.out
  have HRR : Aside0 (Kd.C Kd.string w1 A0 l0.length l0) := ⟨by rw [← hw1]; exact Kd.C_below HR.out (pw_below_drewN (Below.refl _ _) _)⟩
  have hsz : w.heap.size < w1.heap.size := by rw [← hw1]; exact HIN.out
  clear hw1 HB HR HX HIN HM
  cases bm with
  | false =>
    have H := HH.out
    simp only [if_neg (show ¬ (false = true) by decide), Option.some.injEq, Prod.mk.injEq] at H
    obtain ⟨rfl, rfl⟩ := H
    clear HC HH
    go_wp2
    go_ret2
    exact ⟨rfl, HB1.out⟩
  | true =>
    have H := HH.out
    rw [if_pos rfl] at H
    clear HH
    split at H
    · cases H
    rename_i hbnd
    generalize hba : l0.any (fun s => !((s.size : Int) == a1)) = ba at *
    have HANY := Aside0.mk hba
    clear hba
    have HH := Aside0.mk H
    clear H
    go_wp2_with fail
    refine HC.mono ?_
    rintro e w' ⟨rfl, ⟨q2, rfl⟩⟩
    have hsz2 : w.heap.size < (w1.drewN q2).heap.size := hsz
    have HB2 : Aside0 (Below w.heap.size w (w1.drewN q2)) := ⟨pw_below_drewN HB1.out _⟩
    have HX2 : (w1.drewN q2).cell? ⟨w.heap.size, 0, none⟩ = some (.int .i64 a1) := HX1
    have HRR2 : Aside0 (Kd.C Kd.string (w1.drewN q2) A0 l0.length l0) := ⟨Kd.C_below HRR.out (pw_below_drewN (Below.refl _ _) _)⟩
    clear HX1 HB1 HRR hsz
    generalize w1.drewN q2 = w2 at *
    cases ba with
    | true =>
      have H := HH.out
      rw [if_pos rfl] at H
      simp only [Option.some.injEq, Prod.mk.injEq] at H
      obtain ⟨rfl, rfl⟩ := H
      clear HH
      go_wp2
      go_ret2
      exact ⟨rfl, HB2.out⟩
    | false =>
      have H := HH.out
      rw [if_neg (show ¬ (false = true) by decide)] at H
      simp only [Option.some.injEq, Prod.mk.injEq] at H
      obtain ⟨H, rfl⟩ := H
      clear HH
      have HR1 := Aside0.mk H
      clear H
      obtain ⟨n, rfl⟩ : ∃ n : Nat, a1 = n := ⟨a1.toNat, by omega⟩
      rw [Int.toNat_natCast] at HR1
      have hmk := print_make_int (P := Tryz.prog) 90 5 (.int .u8 0) 1 Tryz.underlying90 info5 rfl (by decide) (n : Int) (by omega) (by rw [Int.toNat_natCast]; omega) w2
      rw [Int.toNat_natCast] at hmk
      go_wp2_with fail
      have hrow := ByteRow.made 5 w2 n
      have HROW := Aside0.mk hrow
      have HG : Aside0 (w.heap.size ≤ w2.heap.size) := ⟨HB2.out.size⟩
      have HB3 : Aside0 (Below w.heap.size w (w2.alloc (.cells (madeCells #[.int .u8 0] n) 5))) := ⟨HB2.out.alloc HG.out _⟩
      have HRR3 : Aside0 (Kd.C Kd.string (w2.alloc (.cells (madeCells #[.int .u8 0] n) 5)) A0 l0.length l0) := ⟨Kd.C_below HRR2.out (below_alloc (Below.refl _ _) _)⟩
      clear hrow HB2 HRR2 hmk HX2
      have HN : Aside0 (n ≤ 1000000) := ⟨by omega⟩
      clear hbnd HRR3
      go_loopw [8, 21] (fun _ v21 wr => ∃ (k : Nat) (x : List Int), k ≤ l0.length ∧ v21 = .int .i64 k ∧ Aside0 (ByteRow 5 wr w2.heap.size x ∧ x.length = n ∧ strOfNums (block_Sum.go n x (l0.drop k)) = r1) ∧ Aside0 (Below w.heap.size w wr)) (fun _ v21 _ => l0.length - (intOf v21).toNat)
      case atStart => exact ⟨0, _, Nat.zero_le _, rfl, ⟨HROW.out, by simp, by simpa using HR1.out⟩, HB3⟩
      case round =>
        obtain ⟨k, x, hk, rfl, HX3, HB4⟩ := hrel
        clear HROW HB3
        by_cases hlt : k < l0.length
        · have hltz : (k : Int) < (l0.length : Int) := by omega
          obtain ⟨ad, e1, hx⟩ := Kd.at_string (Kd.C_below HR00.out HB4.out) (k : Int) (by omega) hltz
          cases e1
          have hy : rdOf ByteArray.empty l0 (k : Int) = l0[k] := by simp [rdOf, hlt]
          rw [Int.toNat_natCast, hy] at hx
          have hsz3 : l0[k].size = n := by
            have h1 := List.any_eq_false.1 HANY.out l0[k] (List.getElem_mem hlt)
            simp at h1
            omega
          have hd : l0.drop k = l0[k] :: l0.drop (k + 1) := List.drop_eq_getElem_cons hlt
          have HX4 : Aside0 (ByteRow 5 wr w2.heap.size x ∧ x.length = n ∧ strOfNums (block_Sum.go n (bothB .xor x (bytesI l0[k]) n) (l0.drop (k + 1))) = r1) := ⟨HX3.out.1, HX3.out.2.1, by have h5 := HX3.out.2.2; rw [hd] at h5; exact h5⟩
          clear HX3 hy hd
          generalize l0[k] = s at *
          have HADD := Aside0.mk (block_add.row w.heap.size w2.heap.size n n x s wr HX4.out.1 HX4.out.2.1 (by omega) HG.out (by have := HN.out; omega))
          go_wp2_with fail
          refine HADD.out.mono ?_
          rintro e w5 ⟨rfl, hrow5, hb5⟩
          have HX5 : Aside0 (ByteRow 5 w5 w2.heap.size (bothB .xor x (bytesI s) n)) := ⟨hrow5⟩
          have HB5 : Aside0 (Below w.heap.size w w5) := ⟨HB4.out.trans hb5⟩
          clear hrow5 hb5 HADD
          go_wp2
          go_roundw
          case rel => exact ⟨k + 1, _, by omega, by go_num, ⟨HX5.out, by rw [bothB_length]; exact HX4.out.2.1, HX4.out.2.2⟩, HB5⟩
          case measure => simp [intOf]; omega
        · have hltz : ¬ (k : Int) < (l0.length : Int) := by omega
          have hkk : k = l0.length := by omega
          subst hkk
          have hback := HX3.out.1.back (P := Tryz.prog) 90 9 Tryz.underlying90 Tryz.underlying5 Tryz.underlying9 n n HX3.out.2.1
          have h6 := HX3.out.2.2
          rw [List.drop_length] at h6
          rw [show strOfNums x = r1 from h6] at hback
          clear h6
          go_wp2
          go_ret2
          exact ⟨rfl, HB4.out⟩
/-! ### outer_sum: function 37 -/
def outer_sum.l0 : Nat → List ByteArray → Int → List ByteArray → List Int → Int → Int → Option (ByteArray)
 | 0, _, _, _, _, _, _ => none
 | k + 1, x0, x2, x7, x12, x13, x14 => if x14 < x13 then (if 0 ≤ x14 then (if x14 < (x12.length : Int) then (if 0 ≤ (rd x12 x14) then (if (rd x12 x14) < (x0.length : Int) then (if x7.length < 8796093022208 then (outer_sum.l0 k x0 x2 (x7 ++ [rdOf ByteArray.empty x0 (rd x12 x14)]) x12 x13 (wrap64 (x14 + 1))) else (none)) else (none)) else (none)) else (none)) else (none)) else ((block_Sum.f x7 x2).bind fun bt172 => (some bt172.1))
def outer_sum.f (k : Nat) (l0 : List ByteArray) (l1 : List Int) (a2 : Int) : Option (ByteArray) := outer_sum.l0 k l0 a2 ([] : List ByteArray) l1 (l1.length : Int) 0
theorem outer_sum.mono_l : ∀ k, (∀ y0 y1 y2 y3 y4 y5, LeO (outer_sum.l0 k y0 y1 y2 y3 y4 y5) (outer_sum.l0 (k + 1) y0 y1 y2 y3 y4 y5))
 | 0 => fun _ _ _ _ _ _ r h => by simp [outer_sum.l0] at h
 | k + 1 => by
  have ih0 := outer_sum.mono_l k
  ·
   intro y0 y1 y2 y3 y4 y5
   unfold outer_sum.l0
   repeat' first
   | (with_reducible exact ih0 _ _ _ _ _ _)
   | (with_reducible exact LeO.refl _)
   | (with_reducible exact LeO.none _)
   | (with_reducible refine LeO.ite ?_ ?_)
   | (with_reducible refine LeO.bind ?_ (fun _ => ?_))
   | exact ih0 _ _ _ _ _ _
   | exact LeO.none _
   | refine LeO.ite ?_ ?_
   | refine LeO.bind ?_ (fun _ => ?_)
theorem outer_sum.mono : ∀ a0 a1 a2 k, LeO (outer_sum.f k a0 a1 a2) (outer_sum.f (k + 1) a0 a1 a2) := by
 intro a0 a1 a2 k
 have ih0 := outer_sum.mono_l k
 unfold outer_sum.f
 repeat' first
   | (with_reducible exact ih0 _ _ _ _ _ _)
   | (with_reducible exact LeO.refl _)
   | (with_reducible exact LeO.none _)
   | (with_reducible refine LeO.ite ?_ ?_)
   | (with_reducible refine LeO.bind ?_ (fun _ => ?_))
   | exact ih0 _ _ _ _ _ _
   | exact LeO.none _
   | refine LeO.ite ?_ ?_
   | refine LeO.bind ?_ (fun _ => ?_)
set_option maxHeartbeats 8000000 in
set_option maxRecDepth 100000 in
theorem outer_sum.calls (k : Nat) (A0 : Option Addr) (c0 : Nat) (l0 : List ByteArray) (A1 : Option Addr) (c1 : Nat) (l1 : List Int) (a2 : Int) (r : ByteArray) (w : World) (hr0 : Kd.C Kd.string w A0 l0.length l0) (hc0 : l0.length ≤ c0) (hr1 : Kd.C (Kd.int .i64) w A1 l1.length l1) (hc1 : l1.length ≤ c1) (h : outer_sum.f k l0 l1 a2 = some r) :
  Calls Tryz.prog 37 #[.slice A0 l0.length c0, .slice A1 l1.length c1, .int .i64 a2] w fun e w' => e = .returned (.string r) ∧ Below w.heap.size w w' := by
 have HR0 := Aside0.mk hr0
 have HC0 := Aside0.mk hc0
 clear hr0 hc0; have HR1 := Aside0.mk hr1
 have HC1 := Aside0.mk hc1
 clear hr1 hc1; have HB := Aside0.mk (Below.refl w.heap.size w)
 have H : (outer_sum.l0 k l0 a2 ([] : List ByteArray) l1 (l1.length : Int) 0) = some r := h
 clear h; have H' := Aside0.mk H
 clear H; go_enter Tryz.func37, Tryz.ntmps37
 go_wp2
 go_loopg [7, 14] k (fun kq v7 v14 w' => ∃ (x7_1 : List ByteArray) (x14_1 : Int), v14 = .int .i64 x14_1 ∧ Aside0 (outer_sum.l0 kq l0 a2 x7_1 l1 (l1.length : Int) x14_1 = some r) ∧ Aside0 (kq ≤ k) ∧ Aside0 (Kd.R Kd.string 9 w' w.heap.size (fun _ => True) v7 x7_1) ∧ Aside0 (Below w.heap.size w w'))
 case atStart => exact ⟨(([] : List ByteArray)), (0), zF, H', ⟨Nat.le_refl _⟩, ⟨by first | exact Kd.R_nil _ _ _ _ _ | exact Kd.N_nil _ _ _ _ _ | exact Kd.V_nil _ _ _ _ _ | exact Kd.Q_nil _ _ _ _ _ | exact Kd.S_nil _ _ _ _ _⟩, ⟨zB⟩⟩
 case round =>
  clear H'
  (try clear c1); (try clear p2); (try clear c3); obtain ⟨x7_1, x14_1, rfl, HA, HK1, HO_7, HB⟩ := hrel
  cases gk with
  | zero => exact absurd HA.out (by simp [outer_sum.l0])
  | succ k1 =>
   have H := HA.out; clear HA; simp only [outer_sum.l0] at H
   by_cases c4 : x14_1 < (l1.length : Int)
   ·
    rw [if_pos c4] at H
    have c4b0 : decide (x14_1 < (l1.length : Int)) = true := decide_eq_true c4
    clear c4; by_cases c5 : 0 ≤ x14_1
    ·
     rw [if_pos c5] at H
     have c5b0 : decide (0 ≤ x14_1) = true := decide_eq_true c5
     clear c5; by_cases c6 : x14_1 < (l1.length : Int)
     ·
      rw [if_pos c6] at H
      have c6b0 : decide (x14_1 < (l1.length : Int)) = true := decide_eq_true c6
      clear c6; by_cases c7 : 0 ≤ (rd l1 x14_1)
      ·
       rw [if_pos c7] at H
       have c7b0 : decide (0 ≤ (rd l1 x14_1)) = true := decide_eq_true c7
       clear c7; by_cases c8 : (rd l1 x14_1) < (l0.length : Int)
       ·
        rw [if_pos c8] at H
        have c8b0 : decide ((rd l1 x14_1) < (l0.length : Int)) = true := decide_eq_true c8
        clear c8; by_cases c9 : x7_1.length < 8796093022208
        ·
         rw [if_pos c9] at H
         have LMc9 := Aside0.mk c9
         clear c9; obtain ⟨y169, hy169⟩ : ∃ y_ : List ByteArray, y_ = (x7_1 ++ [rdOf ByteArray.empty l0 (rd l1 x14_1)]) := ⟨_, rfl⟩
         replace H : (outer_sum.l0 k1 l0 a2 y169 l1 (l1.length : Int) (wrap64 (x14_1 + 1))) = some r := by first | (rw [hy169]; with_reducible exact H) | (have H2_ := (Option.bind_some _ _).symm.trans H; rw [hy169]; with_reducible exact H2_) | (have H2_ := (Option.bind_some _ _).symm.trans H; with_reducible exact H2_) | with_reducible exact H | (rw [hy169]; exact H) | exact H
         have Ny169 := Aside0.mk hy169
         clear hy169; have H' := Aside0.mk H
         clear H; have p167 : 0 ≤ (x14_1 : Int) := of_decide_eq_true zA
         have q167 : x14_1 < (l1.length : Int) := of_decide_eq_true zA
         obtain ⟨ad167, e167, hx167_0⟩ := Kd.at_int HR1.out x14_1 p167 q167
         cases e167
         (try replace hx167_0 := (HB.out.cell (World.block_lt_of_cell? w _ hx167_0)).trans hx167_0)
         replace p167 := eq_true p167
         replace q167 := eq_true q167
         have p168 : 0 ≤ ((rd l1 x14_1) : Int) := of_decide_eq_true zA
         have q168 : (rd l1 x14_1) < (l0.length : Int) := of_decide_eq_true zA
         obtain ⟨ad168, e168, hx168_0⟩ := Kd.at_string HR0.out (rd l1 x14_1) p168 q168
         cases e168
         (try replace hx168_0 := (HB.out.cell (World.block_lt_of_cell? w _ hx168_0)).trans hx168_0)
         replace p168 := eq_true p168
         replace q168 := eq_true q168
         go_wp2_with (first | ((with_reducible refine gate_builtin (b := .append) (xs := #[.tmp 18, .tmp 23]) rfl ?_); at_builtin; refine Kd.R_append Kd.string (w0 := w) w.heap.size rfl (.tmp 18) (.tmp 23) 41 9 (.string ⟨#[]⟩) 16 rfl Tryz.underlying41 info9 rfl (by decide) (by omega) u7 x7_1 (rdOf ByteArray.empty l0 (rd l1 x14_1)) [.string (rdOf ByteArray.empty l0 (rd l1 x14_1))] (fun _ => True) (fun _ => False) rfl rfl ?aP (fun _ hk => hk.elim) ?aF ?aO ?aB ?aS ?aL ?_; (case aP => exact rfl); (case aB => exact zB); (case aF => exact (fun _ _ => trivial)); (case aO => exact (by (with_reducible repeat (first | apply Kd.R_alloc | apply Kd.R_drewN | apply Kd.R_drew)); exact HO_7.out)); (case aS => exact (below_size zB)); (case aL => have := LMc9.out; omega); intro v170 w10 ho hb hg hat; rw [← Ny169.out] at ho; have HO171 := Aside0.mk (ho); replace HB := Aside0.mk (hb); clear HO_7; clear ho hb hg hat))
         go_roundg k1
         case measure => have := HK1.out; omega
         case rel => exact ⟨(y169), (wrap64 (x14_1 + 1)), zF, H', ⟨by have := HK1.out; omega⟩, ⟨zR HO171⟩, ⟨zB⟩⟩
        ·
         rw [if_neg c9] at H
         exact absurd H (by simp)
       ·
        rw [if_neg c8] at H
        exact absurd H (by simp)
      ·
       rw [if_neg c7] at H
       exact absurd H (by simp)
     ·
      rw [if_neg c6] at H
      exact absurd H (by simp)
    ·
     rw [if_neg c5] at H
     exact absurd H (by simp)
   ·
    rw [if_neg c4] at H
    have c4b0 : decide (x14_1 < (l1.length : Int)) = false := decide_eq_false c4
    clear c4; replace H := Option.bind_eq_some_iff.mp H
    obtain ⟨⟨t172, t173⟩, A110, H⟩ := H
    replace H : (some t172) = some r := H
    have A11 := Aside0.mk A110
    clear A110; obtain rfl := Option.some.inj H
    obtain ⟨Ao12, co12, eo12⟩ := Kd.R_slice HO_7.out
    subst eo12
    go_wp2_with (first | ((with_reducible refine gate_callee (f := 59) rfl ?_); refine goesL_ (some 29) rfl rfl Tryz.func59 (by kernel_rfl) rfl #[.slice Ao12 x7_1.length co12, .int .i64 a2] rfl zM ?_; (with_reducible refine (block_Sum.calls _ _ x7_1 a2 t172 t173 _ ?side1 ?side2 A11.out).mono ?_); (case side1 => repeat (first | exact (Kd.R_reads' HO_7.out).2.2 | (with_reducible refine Kd.C_alloc ?_ _) | (with_reducible refine Kd.C_drewN ?_ _) | (with_reducible refine Kd.C_drew ?_))); (case side2 => exact (Kd.R_reads' HO_7.out).2.1); rintro e w13 ⟨rfl, hb⟩; refine ⟨_, rfl, ?_⟩; replace HO_7 := Aside0.mk (Kd.R_below (zR HO_7) hb); replace HB := Aside0.mk (below_step zB hb); (try clear hb); (try clear hb2); (try clear hk); (try clear hi)))
    go_ret
    exact ⟨zE, zB⟩
end Go.Proofs.YtghhmnjkgnoogaaGreat.POuterWholes
