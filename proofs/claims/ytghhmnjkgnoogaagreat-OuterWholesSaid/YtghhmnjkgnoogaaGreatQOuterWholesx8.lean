-- Written by this session's own program (wip/tools/mkprint.py) over the kit's printer, with overrides.
import Derived.Test.YtghhmnjkgnoogaaGreatTOuterWholesa
import Derived.Test.YtghhmnjkgnoogaaGreatQOuterWholesx0
import Derived.Test.YtghhmnjkgnoogaaGreatQOuterWholesx1
import Derived.Test.YtghhmnjkgnoogaaGreatQOuterWholesx2
import Derived.Test.YtghhmnjkgnoogaaGreatQOuterWholesx3
import Derived.Test.YtghhmnjkgnoogaaGreatQOuterWholesx5
import Derived.Test.YtghhmnjkgnoogaaGreatQOuterWholesx6
import Derived.Test.YtghhmnjkgnoogaaGreatQOuterWholesx7
namespace Go.Proofs.YtghhmnjkgnoogaaGreat.POuterWholes
open Go.RowKit Go.Mine Go.Proofs.YtghhmnjkgnoogaaGreatW.PrintWords Go.Proofs.YtghhmnjkgnoogaaGreatW.PrintLast Go.Proofs.YtghhmnjkgnoogaaGreatW.PrintMore
attribute [local go_sem] max2_int min2_int max_two min_two max_three min_three max_four min_four   -- for this text's walks alone
set_option linter.unusedVariables false
set_option linter.unusedSimpArgs false
/-! ### sha_Sum: function 120 -/
/-- The state and the part behind the first bytes. -/
def sha_Sum.go (s : ByteArray) : List Int × List Int := hashGo (s.size + 1) shaStart [] s
def sha_Sum.f (k : Nat) (s : ByteArray) : Option ByteArray :=
  if 65536 < s.size then some ⟨#[]⟩ else (sha_Pad.f k (s.size : Int)).bind fun pd => if pd.size ≤ 1000 ∧ ((sha_Sum.go s).2 ++ bytesOf pd).length % 64 = 0 then some (hsumS (sha_Sum.go s).1 (sha_Sum.go s).2 pd) else none
theorem sha_Sum.mono : ∀ a0 k, LeO (sha_Sum.f k a0) (sha_Sum.f (k + 1) a0) := by
  intro a0 k
  unfold sha_Sum.f
  exact LeO.ite (LeO.refl _) (LeO.bind (sha_Pad.mono _ _) (fun _ => LeO.refl _))
theorem sha_Sum.long (g : Nat) (s : ByteArray) (w : World) (hc : w.cell? ⟨g, 9, none⟩ = some (.int .i64 0)) (hs : 65536 < s.size) :
    Calls Tryz.prog 126 #[.pointer (some ⟨g, 0, none⟩), .string s] w fun e w' => e = .returned (.int .i64 2) ∧ w = w' := by
  have hz : (65536 : Int) < (s.size : Int) := by omega
  clear hs
  go_enter Tryz.func126, Tryz.ntmps126
  go_wp2_with fail
  refine wp_scope_jumps 0 (fun _ _ => False) (fun _ _ => 0) rfl ?_ ?_
  · go_wp2_with fail
    (try simp only [Exit.jump])
    (try rw [Exit.noGoto_ret])
    go_ret
    exact ⟨rfl, rfl⟩
  · intro a0 wr h
    exact h.elim
set_option maxHeartbeats 1000000 in
theorem sha_Sum.calls (k : Nat) (s : ByteArray) (r : ByteArray) (w : World) (h : sha_Sum.f k s = some r) : Calls Tryz.prog 120 #[.string s] w fun e w' => e = .returned (.string r) ∧ Below w.heap.size w w' := by
  unfold sha_Sum.f at h
  by_cases hs : 65536 < s.size
  · rw [if_pos hs] at h
    have h := Option.some.inj h
    subst h
    have HS := Aside0.mk hs
    clear hs
    go_enter Tryz.func120, Tryz.ntmps120
    go_wp2_with fail
    refine (sha_New.gives w).mono ?_
    rintro e w1 ⟨g, rfl, hg, hblk, hb1⟩
    have HB1 := Aside0.mk hb1
    have c9 : w1.cell? ⟨g, 9, none⟩ = some (.int .i64 0) := (blk_cell hblk 9).trans rfl
    have HL := Aside0.mk (sha_Sum.long g s w1 c9 HS.out)
    clear hblk hb1 hg c9
    go_wp2_with fail
    refine HL.out.mono ?_
    rintro e w2 ⟨rfl, rfl⟩
    clear HL
    go_wp2_with fail
    go_ret
    exact ⟨rfl, HB1.out⟩
  rw [if_neg hs] at h
  obtain ⟨pd, hpd, h⟩ := Option.bind_eq_some_iff.mp h
  split at h
  rotate_left
  · cases h
  rename_i hc
  have h := Option.some.inj h
  have HR := Aside0.mk h
  have HPD := Aside0.mk hpd
  have HC := Aside0.mk hc
  have HS : Aside0 (s.size ≤ 65536) := ⟨by omega⟩
  clear h hpd hc hs
  go_enter Tryz.func120, Tryz.ntmps120
  go_wp2_with fail
  refine (sha_New.gives w).mono ?_
  rintro e w1 ⟨g, rfl, hg, hblk, hb1⟩
  have HB1 := Aside0.mk hb1
  have HW := Aside0.mk (sha_Hash_Write.gives w.heap.size g _ _ _ _ _ _ _ _ s w1 hblk HS.out hg)
  have HG := Aside0.mk hg
  clear hblk hb1 hg
  go_wp2_with fail
  refine HW.out.mono ?_
  rintro e w2 ⟨rfl, t0, t1, t2, t3, t4, t5, t6, t7, p, v, hblk, hgo, hpl, hown, hb2⟩
  have HB2 := Aside0.mk (HB1.out.trans hb2)
  have hgo2 : sha_Sum.go s = ([t0, t1, t2, t3, t4, t5, t6, t7], p) := hgo
  have HC2 := HC.out
  rw [hgo2] at HC2
  have HRR := HR.out
  rw [hgo2] at HRR
  have HH := Aside0.mk (sha_Hash_Sum.gives w.heap.size g s.size t0 t1 t2 t3 t4 t5 t6 t7 p v w2 hblk HS.out hpl hown HG.out k pd HPD.out HC2.1 HC2.2)
  have HRS := Aside0.mk HRR
  clear hblk hgo hpl hown hb2 hgo2 HC2 HRR HW HB1 HC HR HG
  go_wp2_with fail
  refine HH.out.mono ?_
  rintro e w3 ⟨rfl, hb3⟩
  have HB3 := Aside0.mk (below_step HB2.out hb3)
  clear hb3 HH HB2
  rw [HRS.out]
  go_wp2_with fail
  go_ret
  exact ⟨rfl, HB3.out⟩
/-! ### prng_Block: function 109 -/
def prng_Block.f (k : Nat) (a0 : ByteArray) (a1 : Int) : Option (ByteArray) := (oct_Put.f k a1 7).bind fun bt125 => (if bt125.2 = 0 then (if (a0.size : Int) > 64 then (some (⟨#[]⟩ : ByteArray)) else ((some (([((a0.size : Int)) % 256] : List Int) : List Int)).bind fun y127 => (if 1 + (strOfNums y127).size ≤ 9223372036854775807 then (if ((⟨#[2]⟩ : ByteArray) ++ (strOfNums y127)).size + a0.size ≤ 9223372036854775807 then (if (((⟨#[2]⟩ : ByteArray) ++ (strOfNums y127)) ++ a0).size + bt125.1.size ≤ 9223372036854775807 then ((sha_Sum.f k ((((⟨#[2]⟩ : ByteArray) ++ (strOfNums y127)) ++ a0) ++ bt125.1)).bind fun t130 => (some t130)) else (none)) else (none)) else (none)))) else (some (⟨#[]⟩ : ByteArray)))
theorem prng_Block.mono : ∀ a0 a1 k, LeO (prng_Block.f k a0 a1) (prng_Block.f (k + 1) a0 a1) := by
 intro a0 a1 k
 unfold prng_Block.f
 repeat' first
   | (with_reducible exact oct_Put.mono _ _ _)
   | (with_reducible exact sha_Sum.mono _ _)
   | (with_reducible exact LeO.refl _)
   | (with_reducible exact LeO.none _)
   | (with_reducible refine LeO.ite ?_ ?_)
   | (with_reducible refine LeO.bind ?_ (fun _ => ?_))
   | exact oct_Put.mono _ _ _
   | exact sha_Sum.mono _ _
   | exact LeO.none _
   | refine LeO.ite ?_ ?_
   | refine LeO.bind ?_ (fun _ => ?_)
set_option maxHeartbeats 8000000 in
set_option maxRecDepth 100000 in
theorem prng_Block.calls (k : Nat) (a0 : ByteArray) (a1 : Int) (r : ByteArray) (w : World) (h : prng_Block.f k a0 a1 = some r) :
  Calls Tryz.prog 109 #[.string a0, .int .i64 a1] w fun e w' => e = .returned (.string r) ∧ Below w.heap.size w w' := by
 have HB := Aside0.mk (Below.refl w.heap.size w)
 have H : ((oct_Put.f k a1 7).bind fun bt125 => (if bt125.2 = 0 then (if (a0.size : Int) > 64 then (some (⟨#[]⟩ : ByteArray)) else ((some (([((a0.size : Int)) % 256] : List Int) : List Int)).bind fun y127 => (if 1 + (strOfNums y127).size ≤ 9223372036854775807 then (if ((⟨#[2]⟩ : ByteArray) ++ (strOfNums y127)).size + a0.size ≤ 9223372036854775807 then (if (((⟨#[2]⟩ : ByteArray) ++ (strOfNums y127)) ++ a0).size + bt125.1.size ≤ 9223372036854775807 then ((sha_Sum.f k ((((⟨#[2]⟩ : ByteArray) ++ (strOfNums y127)) ++ a0) ++ bt125.1)).bind fun t130 => (some t130)) else (none)) else (none)) else (none)))) else (some (⟨#[]⟩ : ByteArray)))) = some r := h
 clear h; replace H := Option.bind_eq_some_iff.mp H
 obtain ⟨⟨t125, t126⟩, A30, H⟩ := H
 replace H : (if t126 = 0 then (if (a0.size : Int) > 64 then (some (⟨#[]⟩ : ByteArray)) else ((some (([((a0.size : Int)) % 256] : List Int) : List Int)).bind fun y127 => (if 1 + (strOfNums y127).size ≤ 9223372036854775807 then (if ((⟨#[2]⟩ : ByteArray) ++ (strOfNums y127)).size + a0.size ≤ 9223372036854775807 then (if (((⟨#[2]⟩ : ByteArray) ++ (strOfNums y127)) ++ a0).size + t125.size ≤ 9223372036854775807 then ((sha_Sum.f k ((((⟨#[2]⟩ : ByteArray) ++ (strOfNums y127)) ++ a0) ++ t125)).bind fun t130 => (some t130)) else (none)) else (none)) else (none)))) else (some (⟨#[]⟩ : ByteArray))) = some r := H
 have A3 := Aside0.mk A30
 clear A30; by_cases c4 : t126 = 0
 ·
  rw [if_pos c4] at H
  have c4b0 : (t126 == 0) = true := beq_iff_eq.mpr c4
  have c4b1 : (t126 != 0) = false := bne_eq_false_iff_eq.mpr c4
  clear c4; by_cases c5 : (a0.size : Int) > 64
  ·
   rw [if_pos c5] at H
   have c5b0 : decide (64 < (a0.size : Int)) = true := decide_eq_true c5
   have c5b1 : decide (64 < a0.size) = true := decide_eq_true (by omega)
   clear c5; obtain rfl := Option.some.inj H
   go_enter Tryz.func109, Tryz.ntmps109
   go_wp2_with (first | ((with_reducible refine gate_callee (f := 87) rfl ?_); refine goesL_ (some 9) rfl rfl Tryz.func87 (by kernel_rfl) rfl #[.int .i64 a1, .int .i64 7] rfl zM ?_; (with_reducible refine (oct_Put.calls k a1 7 t125 t126 _ A3.out).mono ?_); rintro e w6 ⟨rfl, hb⟩; refine ⟨_, rfl, ?_⟩; replace HB := Aside0.mk (below_step zB hb); (try clear hb); (try clear hb2); (try clear hk); (try clear hi)))
   go_ret
   exact ⟨zE, zB⟩
  ·
   rw [if_neg c5] at H
   have c5b0 : decide (64 < (a0.size : Int)) = false := decide_eq_false c5
   have c5b1 : decide (64 < a0.size) = false := decide_eq_false (by omega)
   clear c5; obtain ⟨y127, hy127⟩ : ∃ y_ : List Int, y_ = (([((a0.size : Int)) % 256] : List Int)) := ⟨_, rfl⟩
   replace H : (if 1 + (strOfNums y127).size ≤ 9223372036854775807 then (if ((⟨#[2]⟩ : ByteArray) ++ (strOfNums y127)).size + a0.size ≤ 9223372036854775807 then (if (((⟨#[2]⟩ : ByteArray) ++ (strOfNums y127)) ++ a0).size + t125.size ≤ 9223372036854775807 then ((sha_Sum.f k ((((⟨#[2]⟩ : ByteArray) ++ (strOfNums y127)) ++ a0) ++ t125)).bind fun t130 => (some t130)) else (none)) else (none)) else (none)) = some r := by first | (rw [hy127]; with_reducible exact H) | (have H2_ := (Option.bind_some _ _).symm.trans H; rw [hy127]; with_reducible exact H2_) | (have H2_ := (Option.bind_some _ _).symm.trans H; with_reducible exact H2_) | with_reducible exact H | (rw [hy127]; exact H) | exact H
   have Ny127 := Aside0.mk hy127
   clear hy127; by_cases c7 : 1 + (strOfNums y127).size ≤ 9223372036854775807
   ·
    rw [if_pos c7] at H
    have c7b0 := eq_true c7
    have c7b1 : decide (1 + (strOfNums y127).size ≤ 9223372036854775807) = true := decide_eq_true c7
    try have c7b2 : (9223372036854775807 < 1 + (strOfNums y127).size) = False := eq_false (Nat.not_lt.2 c7)
    by_cases c8 : ((⟨#[2]⟩ : ByteArray) ++ (strOfNums y127)).size + a0.size ≤ 9223372036854775807
    ·
     rw [if_pos c8] at H
     have c8b0 := eq_true c8
     have c8b1 : decide (((⟨#[2]⟩ : ByteArray) ++ (strOfNums y127)).size + a0.size ≤ 9223372036854775807) = true := decide_eq_true c8
     try have c8b2 : (9223372036854775807 < ((⟨#[2]⟩ : ByteArray) ++ (strOfNums y127)).size + a0.size) = False := eq_false (Nat.not_lt.2 c8)
     by_cases c9 : (((⟨#[2]⟩ : ByteArray) ++ (strOfNums y127)) ++ a0).size + t125.size ≤ 9223372036854775807
     ·
      rw [if_pos c9] at H
      have c9b0 := eq_true c9
      have c9b1 : decide ((((⟨#[2]⟩ : ByteArray) ++ (strOfNums y127)) ++ a0).size + t125.size ≤ 9223372036854775807) = true := decide_eq_true c9
      try have c9b2 : (9223372036854775807 < (((⟨#[2]⟩ : ByteArray) ++ (strOfNums y127)) ++ a0).size + t125.size) = False := eq_false (Nat.not_lt.2 c9)
      replace H := Option.bind_eq_some_iff.mp H
      obtain ⟨t130, A100, H⟩ := H
      replace H : (some t130) = some r := H
      have A10 := Aside0.mk A100
      clear A100; obtain rfl := Option.some.inj H
      go_enter Tryz.func109, Tryz.ntmps109
      go_wp2_with (first | ((with_reducible refine gate_callee (f := 87) rfl ?_); refine goesL_ (some 9) rfl rfl Tryz.func87 (by kernel_rfl) rfl #[.int .i64 a1, .int .i64 7] rfl zM ?_; (with_reducible refine (oct_Put.calls k a1 7 t125 t126 _ A3.out).mono ?_); rintro e w11 ⟨rfl, hb⟩; refine ⟨_, rfl, ?_⟩; replace HB := Aside0.mk (below_step zB hb); (try clear hb); (try clear hb2); (try clear hk); (try clear hi)) | ((with_reducible refine gate_dst (N := 22) rfl ?_); (try (refine gate_guard (by rfl) ?_; dsimp only)); refine Kd.R_lit (Kd.int .u8) _ 5 ?hg (N := 22) ?hd (xs := ([((a0.size : Int)) % 256] : List Int)) (inner := [.int .u8 (((a0.size : Int)) % 256)]) (ok := fun _ => True) (okp := fun _ => True) ?hr ?hp (fun _ hk => hk) trivial (Below.refl _ _) (Nat.le_refl _) (by simp) ?_; (case hd => rfl); (case hg => rfl); (case hr => first | (go_simp; done) | (go_simp; rfl)); (case hp => exact (Reps.one (show Kd.M (Kd.int .u8) _ _ _ (((a0.size : Int)) % 256) [.int .u8 (((a0.size : Int)) % 256)] from rfl) (Reps.none _ _))); intro v128 w12 ho13 hb hg_ hnew_; clear hg_ hnew_; (first | rw [← Ny127.out] at ho13 | (simp only [Int.reduceToNat] at ho13; rw [← Ny127.out] at ho13)); have HO129 := Aside0.mk (Kd.R_lower ho13 (below_size zB)); replace HB := Aside0.mk (below_step zB hb); clear hb ho13; have hcv14 := own_string (P := Tryz.prog) Tryz.underlying90 Tryz.underlying5 Tryz.underlying9 (Kd.own_of_R HO129.out); have hcvd15 := fun n_ => own_string (P := Tryz.prog) Tryz.underlying90 Tryz.underlying5 Tryz.underlying9 (Kd.own_of_R (Kd.R_drewN HO129.out n_))) | ((with_reducible refine gate_callee (f := 120) rfl ?_); refine goesL_ (some 29) rfl rfl Tryz.func120 (by kernel_rfl) rfl #[.string ((((⟨#[2]⟩ : ByteArray) ++ (strOfNums y127)) ++ a0) ++ t125)] rfl zM ?_; (with_reducible refine (sha_Sum.calls k ((((⟨#[2]⟩ : ByteArray) ++ (strOfNums y127)) ++ a0) ++ t125) t130 _ A10.out).mono ?_); rintro e w16 ⟨rfl, hb⟩; refine ⟨_, rfl, ?_⟩; replace HO129 := Aside0.mk (Kd.R_below (zR HO129) hb); replace HB := Aside0.mk (below_step zB hb); (try clear hb); (try clear hb2); (try clear hk); (try clear hi)))
      go_ret
      exact ⟨zE, zB⟩
     ·
      rw [if_neg c9] at H
      exact absurd H (by simp)
    ·
     rw [if_neg c8] at H
     exact absurd H (by simp)
   ·
    rw [if_neg c7] at H
    exact absurd H (by simp)
 ·
  rw [if_neg c4] at H
  have c4b0 : (t126 == 0) = false := beq_eq_false_iff_ne.mpr c4
  have c4b1 : (t126 != 0) = true := bne_iff_ne.mpr c4
  obtain rfl := Option.some.inj H
  go_enter Tryz.func109, Tryz.ntmps109
  go_wp2_with (first | ((with_reducible refine gate_callee (f := 87) rfl ?_); refine goesL_ (some 9) rfl rfl Tryz.func87 (by kernel_rfl) rfl #[.int .i64 a1, .int .i64 7] rfl zM ?_; (with_reducible refine (oct_Put.calls k a1 7 t125 t126 _ A3.out).mono ?_); rintro e w17 ⟨rfl, hb⟩; refine ⟨_, rfl, ?_⟩; replace HB := Aside0.mk (below_step zB hb); (try clear hb); (try clear hb2); (try clear hk); (try clear hi)))
  go_ret
  exact ⟨zE, zB⟩
/-! ### oct_Get: function 110 -/
def oct_Get.go : List UInt8 → Int → Int
  | [], n => n
  | c :: l, n => oct_Get.go l (Go.bits .or .i64 (wrap64 (n * 256)) (wrap64 (c.toNat : Int)))
theorem oct_Get.go_nil (n : Int) : oct_Get.go [] n = n := rfl
theorem oct_Get.go_cons (c : UInt8) (l : List UInt8) (n : Int) : oct_Get.go (c :: l) n = oct_Get.go l (Go.bits .or .i64 (wrap64 (n * 256)) (wrap64 (c.toNat : Int))) := rfl
def oct_Get.f (a0 : ByteArray) : Option Int := some (if a0.size > 7 then 0 else oct_Get.go a0.data.toList 0)
set_option maxHeartbeats 1000000 in
set_option maxRecDepth 100000 in
theorem oct_Get.calls (a0 : ByteArray) (r : Int) (w : World) (h : oct_Get.f a0 = some r) :
    Calls Tryz.prog 110 #[.string a0] w fun e w' => e = .returned (.int .i64 r) ∧ Drawn0 w w' := by
  have h := Option.some.inj h
  by_cases hs : a0.size > 7
  · rw [if_pos hs] at h
    subst h
    have hs' : (7 : Int) < (a0.size : Int) := by omega
    go_enter Tryz.func110, Tryz.ntmps110
    go_wp2
    go_step3
    go_wp2
    try rw [Exit.noGoto_ret]
    go_ret
    exact ⟨rfl, Drawn0.refl _⟩
  · rw [if_neg hs] at h
    have hs' : ¬ (7 : Int) < (a0.size : Int) := by omega
    have HH := Aside0.mk h
    have HS : Aside0 (a0.size ≤ 7) := ⟨by omega⟩
    clear h hs
    go_enter Tryz.func110, Tryz.ntmps110
    go_wp2
    refine wp_scope_jumps 0 (fun a' w' => Drawn0 w w' ∧ ∃ (s : ByteArray) (n : Int) (u4 u5 u6 u7 u8 u9 u10 u11 u12 u13 u14 u15 u16 u17 : Value), a' = { tmps := #[.string s, undef, .int .i64 0, .int .i64 n, u4, u5, u6, u7, u8, u9, u10, u11, u12, u13, u14, u15, u16, u17], defers := [] } ∧ oct_Get.go s.data.toList n = r ∧ s.size ≤ 7) (fun a' _ => match a'.tmps.getD 0 undef with | .string s => s.size | _ => 0) rfl ?_ ?_
    · go_wp2
      go_step3
      by_cases he : a0.size = 0
      · have h1 : a0.toList = [] := bytes_nil a0 he
        have h2 : (!a0.toList.isEmpty) = false := by rw [h1]; rfl
        go_wp2
        simp only [Exit.jump]
        try rw [Exit.noGoto_ret]
        go_ret
        have hl : a0.data.toList = [] := List.eq_nil_of_length_eq_zero (by rw [Array.length_toList]; exact he)
        have hh := HH.out
        rw [hl] at hh
        exact ⟨by rw [← hh]; rfl, Drawn0.refl _⟩
      · have h0 : 0 < a0.size := by omega
        have h1 : a0.toList ≠ [] := bytes_ne a0 h0
        have h2 : (!a0.toList.isEmpty) = true := by rw [bytes_nonempty a0 h0]; rfl
        have h3 : (a0.toList == ([] : List UInt8)) = false := beq_eq_false_iff_ne.mpr h1
        go_wp2
        go_quiet (fail)
        go_wp2
        go_step3
        have hh := HH.out
        have hs7 := HS.out
        rw [list_cons a0 h0] at hh
        exact ⟨rfl, ⟨_, rfl⟩, _, _, _, _, _, _, _, _, _, _, _, _, _, _, _, _, rfl, by rw [← hh, oct_Get.go, show wrap64 (0 * 256) = 0 from by unfold wrap64; omega], by rw [size_extract_end]; omega⟩
    · rintro a' w' ⟨⟨q, rfl⟩, s, n, u4, u5, u6, u7, u8, u9, u10, u11, u12, u13, u14, u15, u16, u17, rfl, hh, hs7⟩
      have HH2 := Aside0.mk hh
      have HS2 := Aside0.mk hs7
      clear hh hs7 HH HS hs'
      by_cases he : s.size = 0
      · have h1 : s.toList = [] := bytes_nil s he
        have h2 : (!s.toList.isEmpty) = false := by rw [h1]; rfl
        go_wp2
        simp only [Exit.jump]
        try rw [Exit.noGoto_ret]
        go_ret
        have hl : s.data.toList = [] := List.eq_nil_of_length_eq_zero (by rw [Array.length_toList]; exact he)
        have hh := HH2.out
        rw [hl] at hh
        exact ⟨by rw [← hh]; rfl, ⟨_, rfl⟩⟩
      · have h0 : 0 < s.size := by have := HS2.out; omega
        have h1 : s.toList ≠ [] := bytes_ne s h0
        have h2 : (!s.toList.isEmpty) = true := by rw [bytes_nonempty s h0]; rfl
        have h3 : (s.toList == ([] : List UInt8)) = false := beq_eq_false_iff_ne.mpr h1
        go_wp2
        go_quiet (fail)
        go_wp2
        go_step3
        have hh := HH2.out
        have hs7 := HS2.out
        rw [list_cons s h0] at hh
        refine ⟨rfl, ⟨⟨_, World.drewN_drewN _ _ _⟩, _, _, _, _, _, _, _, _, _, _, _, _, _, _, _, _, rfl, by rw [← hh, oct_Get.go], by rw [size_extract_end]; omega⟩, ?_⟩
        show (s.extract 1 s.size).size < s.size
        rw [size_extract_end]
        omega
/-! ### prng_Gen_Word: function 89 -/
def prng_Gen_Word.last (k : Nat) (s0 : ByteArray) (s1 : Int) (b : ByteArray) : Option (Int × ByteArray × Int × ByteArray) :=
  if 4 * (s1.toNat % 8) + 4 ≤ b.size then (oct_Get.f (b.extract (4 * (s1.toNat % 8)) (4 * (s1.toNat % 8) + 4))).bind fun x => some (x % 4294967296, s0, s1 + 1, b) else none
def prng_Gen_Word.f (k : Nat) (s0 : ByteArray) (s1 : Int) (s2 : ByteArray) : Option (Int × ByteArray × Int × ByteArray) :=
  if 0 ≤ s1 ∧ s1 ≤ 4611686018427387904 then (if s1.toNat % 8 = 0 then (prng_Block.f k s0 (s1 / 8)).bind fun b => prng_Gen_Word.last k s0 s1 b else prng_Gen_Word.last k s0 s1 s2) else none
theorem prng_Gen_Word.mono : ∀ s0 s1 s2 k, LeO (prng_Gen_Word.f k s0 s1 s2) (prng_Gen_Word.f (k + 1) s0 s1 s2) := by
  intro s0 s1 s2 k
  have hl : ∀ b, LeO (prng_Gen_Word.last k s0 s1 b) (prng_Gen_Word.last (k + 1) s0 s1 b) := fun b => LeO.ite (LeO.refl _) (LeO.refl _)
  unfold prng_Gen_Word.f
  exact LeO.ite (LeO.ite (LeO.bind (prng_Block.mono _ _ _) (fun b => hl b)) (hl s2)) (LeO.refl _)
set_option maxHeartbeats 8000000 in
set_option maxRecDepth 100000 in
theorem prng_Gen_Word.calls (k : Nat) (g : Nat) (s0 : ByteArray) (s1 : Int) (s2 : ByteArray) (r1 : Int) (r2 : ByteArray) (r3 : Int) (r4 : ByteArray) (w0 w : World) (hI : IsS93 w0 w g s0 s1 s2) (hB : Below w0.heap.size w0 w) (h : prng_Gen_Word.f k s0 s1 s2 = some (r1, r2, r3, r4)) :
    Calls Tryz.prog 89 #[.pointer (some ⟨g, 0, none⟩)] w fun e w' => e = .returned (.int .u32 r1) ∧ IsS93 w0 w' g r2 r3 r4 ∧ Below w0.heap.size w0 w' ∧ KeepBut w w' g none := by
  unfold prng_Gen_Word.f at h
  split at h
  rotate_left
  · cases h
  rename_i hs
  obtain ⟨n, rfl⟩ : ∃ n : Nat, s1 = n := ⟨s1.toNat, by omega⟩
  rw [Int.toNat_natCast] at h
  have hn : n ≤ 4611686018427387904 := by omega
  obtain ⟨at_, hat⟩ : ∃ a, n % 8 = a := ⟨_, rfl⟩
  have ha8 : at_ < 8 := by omega
  have hq : (n : Int) % 8 = (at_ : Int) := by omega
  have HQ := Aside0.mk hq
  have hB0 := hB.size
  have HI := Aside0.mk hI
  have HB := Aside0.mk hB
  have HK := Aside0.mk (KeepBut.refl w g none)
  rw [hat] at h
  clear hs hI hB hat hB0
  have c0 : w.cell? ⟨g, 0, none⟩ = some (.string s0) := (blk_cell HI.out.1 0).trans rfl
  have c1 : w.cell? ⟨g, 1, none⟩ = some (.int .i64 n) := (blk_cell HI.out.1 1).trans rfl
  have c2 : w.cell? ⟨g, 2, none⟩ = some (.string s2) := (blk_cell HI.out.1 2).trans rfl
  by_cases h0 : at_ = 0
  · rw [if_pos h0] at h
    subst h0
    obtain ⟨b, hb, h⟩ := Option.bind_eq_some_iff.mp h
    unfold prng_Gen_Word.last at h
    split at h
    rotate_left
    · cases h
    rename_i hbs
    rw [Int.toNat_natCast] at hbs h
    obtain ⟨x, hx, h⟩ := Option.bind_eq_some_iff.mp h
    have h := Option.some.inj h
    simp only [Prod.mk.injEq] at h
    obtain ⟨rfl, rfl, rfl, rfl⟩ := h
    have h8 : n % 8 = 0 := by have := HQ.out; omega
    rw [h8] at hx hbs
    have hx2 : oct_Get.f (b.extract 0 4) = some x := hx
    have HX := Aside0.mk hx2
    obtain ⟨q8, hq8⟩ : ∃ q : Nat, n / 8 = q := ⟨_, rfl⟩
    have hqd : (n : Int) / 8 = (q8 : Int) := by omega
    rw [hqd] at hb
    have htd : (n : Int).tdiv 8 = (q8 : Int) := by rw [Int.tdiv_eq_ediv_of_nonneg (by omega)]; exact hqd
    have hwr : IntKind.i64.wrap (q8 : Int) = (q8 : Int) := IntWalk.i64_in _ (by omega)
    have HBL := Aside0.mk hb
    have hbz : (4 : Int) ≤ (b.size : Int) := by omega
    have hq0 : (n : Int) % 8 = 0 := HQ.out
    clear hx hx2 hb hbs h8 hq8
    have y2 := blk_frozen HI.out.1 2
    have hcut : ∀ W : World, (Instr.slice 9 (.string b) (some (.int .i64 0)) (some (.int .i64 4)) none).run Tryz.prog W = .ok (.string (b.extract 0 4)) W := fun W => run_slice_string W 9 b .i64 .i64 0 4 Tryz.underlying9 (by omega) (by omega) (by omega)
    go_enter Tryz.func89, Tryz.ntmps89
    go_wp2_with fail
    go_region_held3 (fun w' => w'.cell? ⟨g, 0, none⟩ = some (.string s0) ∧ w'.cell? ⟨g, 1, none⟩ = some (.int .i64 n)) (first | exact ⟨k0, k1⟩ | exact ⟨c0, c1⟩ | exact ⟨(blk_cell (HI4.out.set_2 b).1 0).trans rfl, (blk_cell (HI4.out.set_2 b).1 1).trans rfl⟩)
      (first | (go_at_call 109; (with_reducible refine (prng_Block.calls k s0 (q8 : Int) b _ HBL.out).mono ?_); rintro e w4 ⟨rfl, hb4⟩; have HI4 : Aside0 (IsS93 w0 w4 g s0 n s2) := ⟨by first | exact HI.out.below hb4 | exact (HI.out.drew).below hb4 | exact (HI.out.drew.drew).below hb4⟩; have HB4 : Aside0 (Below w0.heap.size w0 w4) := ⟨by first | exact below_step HB.out hb4 | exact below_step (below_drew HB.out) hb4 | exact below_step (below_drew (below_drew HB.out)) hb4⟩; have HK4 : Aside0 (KeepBut w w4 g none) := ⟨KeepBut.of_below (by first | exact hb4 | exact below_step (below_drew (Below.refl _ _)) hb4 | exact below_step (below_drew (below_drew (Below.refl _ _))) hb4) g none⟩; clear hb4; have k0 : w4.cell? ⟨g, 0, none⟩ = some (.string s0) := (blk_cell HI4.out.1 0).trans rfl; have k1 : w4.cell? ⟨g, 1, none⟩ = some (.int .i64 n) := (blk_cell HI4.out.1 1).trans rfl; have k2 : w4.cell? ⟨g, 2, none⟩ = some (.string s2) := (blk_cell HI4.out.1 2).trans rfl; have z2 := blk_frozen HI4.out.1 2))
    all_goals
      clear hqd htd hwr
      have HI5 := Aside0.mk (HI4.out.set_2 b)
      have HB5 := Aside0.mk (below_set (j := 2) (v := .string b) HB4.out HI4.out.ge)
      have HK5 := Aside0.mk (KeepBut.set_ HK4.out 2 (.string b))
      clear HI4 HB4 HK4 k0 k1 k2 z2 y2 c0 c1 c2 HI HB HK
      generalize w4.setCell ⟨g, 2, none⟩ (.string b) = w5 at *
      have c1 : w5.cell? ⟨g, 1, none⟩ = some (.int .i64 n) := (blk_cell HI5.out.1 1).trans rfl
      have z1 := blk_frozen HI5.out.1 1
      have c2 : w5.cell? ⟨g, 2, none⟩ = some (.string b) := (blk_cell HI5.out.1 2).trans rfl
      go_wp2_with fail
      refine (oct_Get.calls _ x _ HX.out).mono ?_
      rintro e w6 ⟨rfl, ⟨q, rfl⟩⟩
      go_wp2_with fail
      go_ret
      exact ⟨rfl, (HI5.out.set_1 _).drewN q, pw_below_drewN (below_set HB5.out HI5.out.ge) q, keep_drewN (KeepBut.set_ HK5.out 1 _) q⟩
  · rw [if_neg h0] at h
    unfold prng_Gen_Word.last at h
    split at h
    rotate_left
    · cases h
    rename_i hbs
    rw [Int.toNat_natCast] at hbs h
    obtain ⟨x, hx, h⟩ := Option.bind_eq_some_iff.mp h
    have h := Option.some.inj h
    simp only [Prod.mk.injEq] at h
    obtain ⟨rfl, rfl, rfl, rfl⟩ := h
    have h8 : n % 8 = at_ := by have := HQ.out; omega
    rw [h8] at hx hbs
    have HX := Aside0.mk hx
    have hbz : (4 : Int) * (at_ : Int) + 4 ≤ (s2.size : Int) := by omega
    have z1 := blk_frozen HI.out.1 1
    have hne : ((at_ : Int) == 0) = false := beq_eq_false_iff_ne.mpr (by omega)
    have ha0 : (0 : Int) ≤ (at_ : Int) := by omega
    have ha7 : (at_ : Int) ≤ 7 := by omega
    have hq0 : (n : Int) % 8 = (at_ : Int) := HQ.out
    have hcut : ∀ W : World, (Instr.slice 9 (.string s2) (some (.int .i64 (4 * (at_ : Int)))) (some (.int .i64 (4 * (at_ : Int) + 4))) none).run Tryz.prog W = .ok (.string (s2.extract (4 * at_) (4 * at_ + 4))) W := fun W => by
      rw [run_slice_string W 9 s2 .i64 .i64 (4 * (at_ : Int)) (4 * (at_ : Int) + 4) Tryz.underlying9 (by omega) (by omega) (by omega), show (4 * (at_ : Int)).toNat = 4 * at_ by omega, show (4 * (at_ : Int) + 4).toNat = 4 * at_ + 4 by omega]
    clear hx hbs h8 h0
    go_enter Tryz.func89, Tryz.ntmps89
    go_wp2_with fail
    refine (oct_Get.calls _ x _ HX.out).mono ?_
    rintro e w6 ⟨rfl, ⟨q, rfl⟩⟩
    clear hcut
    go_wp2_with fail
    go_ret
    exact ⟨rfl, (HI.out.set_1 _).drewN q, pw_below_drewN (below_set HB.out HI.out.ge) q, keep_drewN (KeepBut.set_ HK.out 1 _) q⟩
end Go.Proofs.YtghhmnjkgnoogaaGreat.POuterWholes
