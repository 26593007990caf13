-- Written by this session's own program (wip/tools/mkprint.py) over the kit's printer, with overrides.
import Derived.Test.YtghhmnjkgnoogaaGreatTOuterWholesa
import Derived.Test.YtghhmnjkgnoogaaGreatQOuterWholesx0
import Derived.Test.YtghhmnjkgnoogaaGreatQOuterWholesx4
namespace Go.Proofs.YtghhmnjkgnoogaaGreat.POuterWholes
open Go.RowKit Go.Mine Go.Proofs.YtghhmnjkgnoogaaGreatW.PrintWords Go.Proofs.YtghhmnjkgnoogaaGreatW.PrintLast Go.Proofs.YtghhmnjkgnoogaaGreatW.PrintMore
attribute [local go_sem] max2_int min2_int max_two min_two max_three min_three max_four min_four   -- for this text's walks alone
set_option linter.unusedVariables false
set_option linter.unusedSimpArgs false
/-! ### sha_Hash_Write: function 126 -/
theorem sha_Hash_Write.mixE (t0 t1 t2 t3 t4 t5 t6 t7 : Int) (A0 : Option Addr) (c0 : Nat) (b : List Int) (hb : b.length = 64) (w : World) (hr : Kd.C (Kd.int .u8) w A0 64 b) (hc : 64 ≤ c0) :
    Calls Tryz.prog 132 #[.agg #[.int .u32 t0, .int .u32 t1, .int .u32 t2, .int .u32 t3, .int .u32 t4, .int .u32 t5, .int .u32 t6, .int .u32 t7], .slice A0 64 c0] w fun e w' => ∃ m0 m1 m2 m3 m4 m5 m6 m7 : Int, e = .returned (.agg #[.int .u32 m0, .int .u32 m1, .int .u32 m2, .int .u32 m3, .int .u32 m4, .int .u32 m5, .int .u32 m6, .int .u32 m7]) ∧ mixW [t0, t1, t2, t3, t4, t5, t6, t7] b = [m0, m1, m2, m3, m4, m5, m6, m7] ∧ Below w.heap.size w w' := by
  have h := sha_mix.gives t0 t1 t2 t3 t4 t5 t6 t7 A0 c0 b hb w (by rw [hb]; exact hr) (by rw [hb]; exact hc)
  rw [hb] at h
  obtain ⟨m0, m1, m2, m3, m4, m5, m6, m7, hm⟩ := eight (mixW [t0, t1, t2, t3, t4, t5, t6, t7] b) (mixW_length _ _)
  rw [hm] at h
  refine h.mono ?_
  rintro e w' ⟨rfl, hb'⟩
  exact ⟨m0, m1, m2, m3, m4, m5, m6, m7, rfl, hm, hb'⟩
set_option maxRecDepth 100000 in
set_option maxHeartbeats 4000000 in
theorem sha_Hash_Write.gives (B g : Nat) (s0 s1 s2 s3 s4 s5 s6 s7 : Int) (s : ByteArray) (w : World) (hg : w.heap[g]? = some (.cells #[.int .u32 s0, .int .u32 s1, .int .u32 s2, .int .u32 s3, .int .u32 s4, .int .u32 s5, .int .u32 s6, .int .u32 s7, .slice none 0 0, .int .i64 0] 169 (0, 0))) (hs : s.size ≤ 65536) (hB : B ≤ g) :
    Calls Tryz.prog 126 #[.pointer (some ⟨g, 0, none⟩), .string s] w fun e w' => e = .returned (.int .i64 0) ∧ ∃ (t0 t1 t2 t3 t4 t5 t6 t7 : Int) (p : List Int) (v : Value), w'.heap[g]? = some (.cells #[.int .u32 t0, .int .u32 t1, .int .u32 t2, .int .u32 t3, .int .u32 t4, .int .u32 t5, .int .u32 t6, .int .u32 t7, v, .int .i64 s.size] 169 (0, 0)) ∧ hashGo (s.size + 1) [s0, s1, s2, s3, s4, s5, s6, s7] [] s = ([t0, t1, t2, t3, t4, t5, t6, t7], p) ∧ p.length < 64 ∧ w'.ownsRow B 5 1 v p.length (nums .u8 p) ∧ Below B w w' := by
  have HS := Aside0.mk hs
  have HB := Aside0.mk hB
  have hsz : ¬ (65536 : Int) < (s.size : Int) := by omega
  have c9 : w.cell? ⟨g, 9, none⟩ = some (.int .i64 0) := (blk_cell hg 9).trans rfl
  have f9 : w.frozen? ⟨g, 9, none⟩ = false := blk_frozen hg 9
  have HG := Aside0.mk (blk_put hg 9 (.int .i64 s.size) rfl)
  generalize hF : hashGo (s.size + 1) [s0, s1, s2, s3, s4, s5, s6, s7] [] s = F at *
  have HF := Aside0.mk hF
  have HLT : Aside0 (g < w.heap.size) := ⟨(Array.getElem?_eq_some_iff.1 hg).1⟩
  have HOWN := Aside0.mk (World.ownsRow_nil (w.setCell ⟨g, 9, none⟩ (.int .i64 s.size)) B 5 1)
  have HBEL : Aside0 (Below B w (w.setCell ⟨g, 9, none⟩ (.int .i64 s.size))) := ⟨(Below.refl B w).setCell hB _⟩
  clear hF hs hB hg
  obtain ⟨N, hN⟩ : ∃ N, N = s.size := ⟨_, rfl⟩
  go_enter Tryz.func126, Tryz.ntmps126
  go_wp2_with fail
  refine wp_scope_jumps 0 (fun a' w' => ∃ (s : ByteArray) (t0 t1 t2 t3 t4 t5 t6 t7 : Int) (p : List Int) (v : Value) (d : Nat) (u2 u3 u5 u6 u7 u8 u9 u10 u11 u12 u13 u14 u15 u16 u17 u18 u19 u20 u21 u22 u23 u24 u25 u26 u27 u28 u29 u30 u31 u32 u33 u34 u35 u36 u37 u38 u39 u40 u41 u42 u43 u44 u45 u46 u47 u48 u49 u50 u51 u52 u53 u54 u55 u56 u57 u58 u59 u60 u61 u62 u63 u64 u65 u66 u67 u68 u69 u70 u71 u72 u73 u74 u75 : Value), a' = { tmps := #[.pointer (some ⟨g, 0, none⟩), .string s, u2, u3, .int .i64 0, u5, u6, u7, u8, u9, u10, u11, u12, u13, u14, u15, u16, u17, u18, u19, u20, u21, u22, u23, u24, u25, u26, u27, u28, u29, u30, u31, u32, u33, u34, u35, u36, u37, u38, u39, u40, u41, u42, u43, u44, u45, u46, u47, u48, u49, u50, u51, u52, u53, u54, u55, u56, u57, u58, u59, u60, u61, u62, u63, u64, u65, u66, u67, u68, u69, u70, u71, u72, u73, u74, u75], defers := [] } ∧ Aside0 (w'.heap[g]? = some (.cells #[.int .u32 t0, .int .u32 t1, .int .u32 t2, .int .u32 t3, .int .u32 t4, .int .u32 t5, .int .u32 t6, .int .u32 t7, v, .int .i64 (N : Int)] 169 (0, 0))) ∧ Aside0 (hashGo d [t0, t1, t2, t3, t4, t5, t6, t7] p s = F) ∧ Aside0 (p.length < 64) ∧ Aside0 (w'.ownsRow B 5 1 v p.length (nums .u8 p)) ∧ Aside0 (Below B w w') ∧ Aside0 (s.size < d) ∧ Aside0 (s.size ≤ 65536)) (fun a' _ => match a'.tmps.getD 1 undef with | .string s => s.size | _ => 0) rfl ?_ ?_
  · go_wp2_with fail
    generalize w.setCell ⟨g, 9, none⟩ (.int .i64 s.size) = wr at *
    obtain ⟨p, hp⟩ : ∃ p : List Int, p = [] := ⟨_, rfl⟩
    obtain ⟨ao, hao⟩ : ∃ p : Option Addr, p = none := ⟨_, rfl⟩
    obtain ⟨cap, hcap⟩ : ∃ p : Nat, p = 0 := ⟨_, rfl⟩
    have HOWN2 : Aside0 (wr.ownsRow B 5 1 (.slice ao p.length cap) p.length (nums .u8 p)) := ⟨by rw [hp, hao, hcap]; exact HOWN.out⟩
    have HG2 : Aside0 (wr.heap[g]? = some (.cells #[.int .u32 s0, .int .u32 s1, .int .u32 s2, .int .u32 s3, .int .u32 s4, .int .u32 s5, .int .u32 s6, .int .u32 s7, .slice ao p.length cap, .int .i64 (N : Int)] 169 (0, 0))) := ⟨by rw [hp, hao, hcap, hN]; exact HG.out⟩
    have HGO : Aside0 (hashGo (s.size + 1) [s0, s1, s2, s3, s4, s5, s6, s7] p s = F) := ⟨by rw [hp]; exact HF.out⟩
    have HP : Aside0 (p.length < 64) := ⟨by rw [hp]; decide⟩
    have HSD : Aside0 (s.size < s.size + 1) := ⟨Nat.lt_succ_self _⟩
    have HBW : Aside0 (B ≤ wr.heap.size) := ⟨Nat.le_of_lt (Nat.lt_of_le_of_lt HB.out (Array.getElem?_eq_some_iff.1 HG2.out).1)⟩
    have HN : Aside0 (N = s.size) := ⟨hN⟩
    clear hp hao hcap hN HOWN HG HF hsz c9 f9
    have e0 : wr.cell? ⟨g, 0, none⟩ = some (.int .u32 s0) := (blk_cell HG2.out 0).trans rfl
    have e1 : wr.cell? ⟨g, 1, none⟩ = some (.int .u32 s1) := (blk_cell HG2.out 1).trans rfl
    have e2 : wr.cell? ⟨g, 2, none⟩ = some (.int .u32 s2) := (blk_cell HG2.out 2).trans rfl
    have e3 : wr.cell? ⟨g, 3, none⟩ = some (.int .u32 s3) := (blk_cell HG2.out 3).trans rfl
    have e4 : wr.cell? ⟨g, 4, none⟩ = some (.int .u32 s4) := (blk_cell HG2.out 4).trans rfl
    have e5 : wr.cell? ⟨g, 5, none⟩ = some (.int .u32 s5) := (blk_cell HG2.out 5).trans rfl
    have e6 : wr.cell? ⟨g, 6, none⟩ = some (.int .u32 s6) := (blk_cell HG2.out 6).trans rfl
    have e7 : wr.cell? ⟨g, 7, none⟩ = some (.int .u32 s7) := (blk_cell HG2.out 7).trans rfl
    have c8 : wr.cell? ⟨g, 8, none⟩ = some (.slice ao p.length cap) := (blk_cell HG2.out 8).trans rfl
    have f8 := blk_frozen HG2.out 8
    have hp1 : p.length < 64 := HP.out
    have hs1 : s.size ≤ 65536 := HS.out
    by_cases hk : 64 ≤ p.length + s.size
    · have HK := Aside0.mk hk
      have m1 : (64 : Int) - (p.length : Int) ≤ (s.size : Int) := by omega
      have m2 : ¬ ((s.size : Int) < 64 - (p.length : Int)) := by omega
      have m3 : (0 : Int) ≤ 64 - (p.length : Int) := by omega
      have m4 : (p.length : Int) ≤ 64 := by omega
      have LEN : Aside0 ((p ++ bytesOf (s.extract 0 (64 - p.length))).length = 64) := ⟨by rw [List.length_append, bytesOf_length, ByteArray.size_extract]; omega⟩
      obtain ⟨p2, hp2⟩ : ∃ p2, p ++ bytesOf (s.extract 0 (64 - p.length)) = p2 := ⟨_, rfl⟩
      have HP2 := Aside0.mk hp2
      clear hp2
      rw [HP2.out] at LEN
      go_step3
      go_wp2_with fail
      go_region_law (refine step_append_str rfl (.tmp 40) (.tmp 43) 90 9 rfl B 5 Tryz.underlying90 Tryz.underlying9 info5 (.slice ao p.length cap) p (s.extract 0 (64 - p.length)) rfl rfl HOWN2.out ?l1 HBW.out ?_; (case l1 => rw [ByteArray.size_extract]; omega); intro v1 w1 ho1 hg1; rw [HP2.out, LEN.out] at ho1; obtain ⟨a1, c1, rfl⟩ := own_is_slice ho1; have HO1 := Aside0.mk ho1; have HGR := Aside0.mk hg1; have HG3 : Aside0 (w1.heap[g]? = some (.cells #[.int .u32 s0, .int .u32 s1, .int .u32 s2, .int .u32 s3, .int .u32 s4, .int .u32 s5, .int .u32 s6, .int .u32 s7, .slice ao p.length cap, .int .i64 (N : Int)] 169 (0, 0))) := ⟨(hg1.block g (Array.getElem?_eq_some_iff.1 HG2.out).1 (own_ne_blk HOWN2.out HG2.out (by decide))).trans HG2.out⟩; have c8b : w1.cell? ⟨g, 8, none⟩ = some (.slice ao p.length cap) := (blk_cell HG3.out 8).trans rfl; have f8b := blk_frozen HG3.out 8; clear ho1 hg1)
      have HG4 := Aside0.mk (blk_put HG3.out 8 (.slice a1 64 c1) rfl)
      have hne4 := own_ne_blk HO1.out HG3.out (by decide)
      have HO4 : Aside0 ((w1.setCell ⟨g, 8, none⟩ (.slice a1 64 c1)).ownsRow B 5 1 (.slice a1 64 c1) 64 (nums .u8 p2)) := ⟨own_move HO1.out fun k hk => Below.heap_setCell _ _ _ _ (fun e => hne4 (by rw [hk, e]))⟩
      have HB4 : Aside0 (Below B w (w1.setCell ⟨g, 8, none⟩ (.slice a1 64 c1))) := ⟨((Below.drew HBEL.out).grown HGR.out HBW.out (fun k hk => own_base HOWN2.out k hk)).setCell HB.out _⟩
      clear e0 e1 e2 e3 e4 e5 e6 e7 c8 f8 c8b f8b HG3 HO1 HGR HOWN2 HG2 hne4 HBEL HBW
      generalize w1.setCell ⟨g, 8, none⟩ (.slice a1 64 c1) = wa at *
      have e0 : wa.cell? ⟨g, 0, none⟩ = some (.int .u32 s0) := (blk_cell HG4.out 0).trans rfl
      have e1 : wa.cell? ⟨g, 1, none⟩ = some (.int .u32 s1) := (blk_cell HG4.out 1).trans rfl
      have e2 : wa.cell? ⟨g, 2, none⟩ = some (.int .u32 s2) := (blk_cell HG4.out 2).trans rfl
      have e3 : wa.cell? ⟨g, 3, none⟩ = some (.int .u32 s3) := (blk_cell HG4.out 3).trans rfl
      have e4 : wa.cell? ⟨g, 4, none⟩ = some (.int .u32 s4) := (blk_cell HG4.out 4).trans rfl
      have e5 : wa.cell? ⟨g, 5, none⟩ = some (.int .u32 s5) := (blk_cell HG4.out 5).trans rfl
      have e6 : wa.cell? ⟨g, 6, none⟩ = some (.int .u32 s6) := (blk_cell HG4.out 6).trans rfl
      have e7 : wa.cell? ⟨g, 7, none⟩ = some (.int .u32 s7) := (blk_cell HG4.out 7).trans rfl
      have c8 : wa.cell? ⟨g, 8, none⟩ = some (.slice a1 64 c1) := (blk_cell HG4.out 8).trans rfl
      have hlt2 : (64 : Int) - (p.length : Int) ≤ (s.size : Int) := by omega
      go_wp2_with fail
      go_region_with (go_at_call 132; refine (sha_Hash_Write.mixE _ _ _ _ _ _ _ _ a1 c1 p2 LEN.out wa.drew (Kd.C_below (Kd.C_of_reads (d := (0 : Int)) (h1 := fun _ => rfl) (own_reads' HO4.out)) (Below.drew (Below.refl _ _))) (own_cap_le HO4.out)).mono ?_; rintro e w3 ⟨m0, m1, m2, m3, m4, m5, m6, m7, rfl, hm, hb3⟩; have HM := Aside0.mk hm; have HG5 := Aside0.mk (blk_below (blk_drew HG4.out) hb3); have HB3 := Aside0.mk hb3; clear hm hb3; have k0 : w3.cell? ⟨g, 0, none⟩ = some (.int .u32 s0) := (blk_cell HG5.out 0).trans rfl; have z0 := blk_frozen HG5.out 0; have k1 : w3.cell? ⟨g, 1, none⟩ = some (.int .u32 s1) := (blk_cell HG5.out 1).trans rfl; have z1 := blk_frozen HG5.out 1; have k2 : w3.cell? ⟨g, 2, none⟩ = some (.int .u32 s2) := (blk_cell HG5.out 2).trans rfl; have z2 := blk_frozen HG5.out 2; have k3 : w3.cell? ⟨g, 3, none⟩ = some (.int .u32 s3) := (blk_cell HG5.out 3).trans rfl; have z3 := blk_frozen HG5.out 3; have k4 : w3.cell? ⟨g, 4, none⟩ = some (.int .u32 s4) := (blk_cell HG5.out 4).trans rfl; have z4 := blk_frozen HG5.out 4; have k5 : w3.cell? ⟨g, 5, none⟩ = some (.int .u32 s5) := (blk_cell HG5.out 5).trans rfl; have z5 := blk_frozen HG5.out 5; have k6 : w3.cell? ⟨g, 6, none⟩ = some (.int .u32 s6) := (blk_cell HG5.out 6).trans rfl; have z6 := blk_frozen HG5.out 6; have k7 : w3.cell? ⟨g, 7, none⟩ = some (.int .u32 s7) := (blk_cell HG5.out 7).trans rfl; have z7 := blk_frozen HG5.out 7)
      all_goals
        have bp0 := blk_put (cs' := #[.int .u32 m0, .int .u32 s1, .int .u32 s2, .int .u32 s3, .int .u32 s4, .int .u32 s5, .int .u32 s6, .int .u32 s7, .slice a1 64 c1, .int .i64 (N : Int)]) HG5.out 0 (.int .u32 m0) rfl
        have bp1 := blk_put (cs' := #[.int .u32 m0, .int .u32 m1, .int .u32 s2, .int .u32 s3, .int .u32 s4, .int .u32 s5, .int .u32 s6, .int .u32 s7, .slice a1 64 c1, .int .i64 (N : Int)]) bp0 1 (.int .u32 m1) rfl
        have bp2 := blk_put (cs' := #[.int .u32 m0, .int .u32 m1, .int .u32 m2, .int .u32 s3, .int .u32 s4, .int .u32 s5, .int .u32 s6, .int .u32 s7, .slice a1 64 c1, .int .i64 (N : Int)]) bp1 2 (.int .u32 m2) rfl
        have bp3 := blk_put (cs' := #[.int .u32 m0, .int .u32 m1, .int .u32 m2, .int .u32 m3, .int .u32 s4, .int .u32 s5, .int .u32 s6, .int .u32 s7, .slice a1 64 c1, .int .i64 (N : Int)]) bp2 3 (.int .u32 m3) rfl
        have bp4 := blk_put (cs' := #[.int .u32 m0, .int .u32 m1, .int .u32 m2, .int .u32 m3, .int .u32 m4, .int .u32 s5, .int .u32 s6, .int .u32 s7, .slice a1 64 c1, .int .i64 (N : Int)]) bp3 4 (.int .u32 m4) rfl
        have bp5 := blk_put (cs' := #[.int .u32 m0, .int .u32 m1, .int .u32 m2, .int .u32 m3, .int .u32 m4, .int .u32 m5, .int .u32 s6, .int .u32 s7, .slice a1 64 c1, .int .i64 (N : Int)]) bp4 5 (.int .u32 m5) rfl
        have bp6 := blk_put (cs' := #[.int .u32 m0, .int .u32 m1, .int .u32 m2, .int .u32 m3, .int .u32 m4, .int .u32 m5, .int .u32 m6, .int .u32 s7, .slice a1 64 c1, .int .i64 (N : Int)]) bp5 6 (.int .u32 m6) rfl
        have bp7 := blk_put (cs' := #[.int .u32 m0, .int .u32 m1, .int .u32 m2, .int .u32 m3, .int .u32 m4, .int .u32 m5, .int .u32 m6, .int .u32 m7, .slice a1 64 c1, .int .i64 (N : Int)]) bp6 7 (.int .u32 m7) rfl
        have HG6 := Aside0.mk bp7
        clear bp0 bp1 bp2 bp3 bp4 bp5 bp6 bp7
        have hne5 := own_ne_blk HO4.out HG4.out (by decide)
        have HBWA : Aside0 (B ≤ wa.heap.size) := ⟨Nat.le_of_lt (Nat.lt_of_le_of_lt HB.out (Array.getElem?_eq_some_iff.1 HG4.out).1)⟩
        have HO6 : Aside0 (((((((((w3.setCell ⟨g, 0, none⟩ (.int .u32 m0)).setCell ⟨g, 1, none⟩ (.int .u32 m1)).setCell ⟨g, 2, none⟩ (.int .u32 m2)).setCell ⟨g, 3, none⟩ (.int .u32 m3)).setCell ⟨g, 4, none⟩ (.int .u32 m4)).setCell ⟨g, 5, none⟩ (.int .u32 m5)).setCell ⟨g, 6, none⟩ (.int .u32 m6)).setCell ⟨g, 7, none⟩ (.int .u32 m7)).ownsRow B 5 1 (.slice a1 64 c1) 64 (nums .u8 p2)) := ⟨own_move HO4.out fun k hk => (have hkg : k ≠ g := fun e => hne5 (by rw [hk, e]); ((Below.heap_setCell _ _ _ _ hkg).trans ((Below.heap_setCell _ _ _ _ hkg).trans ((Below.heap_setCell _ _ _ _ hkg).trans ((Below.heap_setCell _ _ _ _ hkg).trans ((Below.heap_setCell _ _ _ _ hkg).trans ((Below.heap_setCell _ _ _ _ hkg).trans ((Below.heap_setCell _ _ _ _ hkg).trans ((Below.heap_setCell _ _ _ _ hkg).trans (HB3.out.block k (own_lt HO4.out k hk)))))))))))⟩
        have HB6 : Aside0 (Below B w ((((((((w3.setCell ⟨g, 0, none⟩ (.int .u32 m0)).setCell ⟨g, 1, none⟩ (.int .u32 m1)).setCell ⟨g, 2, none⟩ (.int .u32 m2)).setCell ⟨g, 3, none⟩ (.int .u32 m3)).setCell ⟨g, 4, none⟩ (.int .u32 m4)).setCell ⟨g, 5, none⟩ (.int .u32 m5)).setCell ⟨g, 6, none⟩ (.int .u32 m6)).setCell ⟨g, 7, none⟩ (.int .u32 m7))) := ⟨((((((((((Below.drew HB4.out).trans (HB3.out.mono HBWA.out)).setCell HB.out _).setCell HB.out _).setCell HB.out _).setCell HB.out _).setCell HB.out _).setCell HB.out _).setCell HB.out _).setCell HB.out _)⟩
        clear k0 z0 k1 z1 k2 z2 k3 z3 k4 z4 k5 z5 k6 z6 k7 z7 HG5 HG4 HO4 HB4 HB3 hne5 HBWA e0 e1 e2 e3 e4 e5 e6 e7
        clear c8
        generalize ((((((((w3.setCell ⟨g, 0, none⟩ (.int .u32 m0)).setCell ⟨g, 1, none⟩ (.int .u32 m1)).setCell ⟨g, 2, none⟩ (.int .u32 m2)).setCell ⟨g, 3, none⟩ (.int .u32 m3)).setCell ⟨g, 4, none⟩ (.int .u32 m4)).setCell ⟨g, 5, none⟩ (.int .u32 m5)).setCell ⟨g, 6, none⟩ (.int .u32 m6)).setCell ⟨g, 7, none⟩ (.int .u32 m7)) = wb at HG6 HO6 HB6 ⊢
        obtain ⟨g', rfl⟩ := own_some HO6.out (by decide)
        have c8 : wb.cell? ⟨g, 8, none⟩ = some (.slice (some ⟨g', 0, none⟩) 64 c1) := (blk_cell HG6.out 8).trans rfl
        have f8 := blk_frozen HG6.out 8
        go_wp2_with fail
        have HG7 := Aside0.mk (blk_put (cs' := #[.int .u32 m0, .int .u32 m1, .int .u32 m2, .int .u32 m3, .int .u32 m4, .int .u32 m5, .int .u32 m6, .int .u32 m7, .slice (some ⟨g', 0, none⟩) 0 c1, .int .i64 (N : Int)]) HG6.out 8 (.slice (some ⟨g', 0, none⟩) 0 c1) rfl)
        have hne6 := own_ne_blk HO6.out HG6.out (by decide)
        have HO7 : Aside0 ((wb.setCell ⟨g, 8, none⟩ (.slice (some ⟨g', 0, none⟩) 0 c1)).ownsRow B 5 1 (.slice (some ⟨g', 0, none⟩) 0 c1) ([] : List Int).length (nums .u8 [])) := ⟨own_move (own_zero HO6.out) fun k hk' => Below.heap_setCell _ _ _ _ (fun e => hne6 (by have e2 : k = g := e; rw [← e2]; exact hk'.symm))⟩
        have HB7 : Aside0 (Below B w (wb.setCell ⟨g, 8, none⟩ (.slice (some ⟨g', 0, none⟩) 0 c1))) := ⟨HB6.out.setCell HB.out _⟩
        have HGO2 : Aside0 (hashGo s.size [m0, m1, m2, m3, m4, m5, m6, m7] [] (s.extract (64 - p.length) s.size) = F) := ⟨by rw [← HGO.out, hashGo, if_pos HK.out, HP2.out, HM.out]⟩
        have HSD2 : Aside0 ((s.extract (64 - p.length) s.size).size < s.size) := ⟨by have := HK.out; have := HP.out; have := HSD.out; rw [ByteArray.size_extract]; omega⟩
        have HS2 : Aside0 ((s.extract (64 - p.length) s.size).size ≤ 65536) := ⟨by have := HS.out; rw [ByteArray.size_extract]; omega⟩
        go_step3
        exact ⟨rfl, ⟨s.extract (64 - p.length) s.size, m0, m1, m2, m3, m4, m5, m6, m7, [], _, s.size, _, _, _, _, _, _, _, _, _, _, _, _, _, _, _, _, _, _, _, _, _, _, _, _, _, _, _, _, _, _, _, _, _, _, _, _, _, _, _, _, _, _, _, _, _, _, _, _, _, _, _, _, _, _, _, _, _, _, _, _, _, _, _, _, _, _, _, _, _, _, _, _, _, rfl, HG7, HGO2, ⟨by decide⟩, HO7, HB7, HSD2, HS2⟩⟩
    · have HK := Aside0.mk hk
      have b1 : ¬ ((64 : Int) - (p.length : Int) ≤ (s.size : Int)) := by omega
      have b2 : (s.size : Int) < 64 - (p.length : Int) := by omega
      have b3 : (s.size : Int) ≤ 64 - (p.length : Int) := by omega
      obtain ⟨n2, hn2⟩ : ∃ n2, (p ++ bytesOf s).length = n2 := ⟨_, rfl⟩
      have HN2 : Aside0 (n2 < 64) := ⟨by rw [← hn2, List.length_append, bytesOf_length]; omega⟩
      have LEN := Aside0.mk hn2
      clear hn2
      have b4 : ((n2 : Int) == 64) = false := beq_eq_false_iff_ne.mpr (by have := HN2.out; omega)
      go_step3
      go_wp2_with fail
      go_region_law (refine step_append_str rfl (.tmp 40) (.tmp 43) 90 9 rfl B 5 Tryz.underlying90 Tryz.underlying9 info5 (.slice ao p.length cap) p s rfl rfl HOWN2.out ?l1 HBW.out ?_; (case l1 => omega); intro v1 w1 ho1 hg1; rw [LEN.out] at ho1; obtain ⟨a1, c1, rfl⟩ := own_is_slice ho1; have HO1 := Aside0.mk ho1; have HGR := Aside0.mk hg1; have HG3 : Aside0 (w1.heap[g]? = some (.cells #[.int .u32 s0, .int .u32 s1, .int .u32 s2, .int .u32 s3, .int .u32 s4, .int .u32 s5, .int .u32 s6, .int .u32 s7, .slice ao p.length cap, .int .i64 (N : Int)] 169 (0, 0))) := ⟨(hg1.block g (Array.getElem?_eq_some_iff.1 HG2.out).1 (own_ne_blk HOWN2.out HG2.out (by decide))).trans HG2.out⟩; have c8b : w1.cell? ⟨g, 8, none⟩ = some (.slice ao p.length cap) := (blk_cell HG3.out 8).trans rfl; have f8b := blk_frozen HG3.out 8; clear ho1 hg1)
      have HG4 := Aside0.mk (blk_put (cs' := #[.int .u32 s0, .int .u32 s1, .int .u32 s2, .int .u32 s3, .int .u32 s4, .int .u32 s5, .int .u32 s6, .int .u32 s7, .slice a1 n2 c1, .int .i64 (N : Int)]) HG3.out 8 (.slice a1 n2 c1) rfl)
      have hne4 := own_ne_blk HO1.out HG3.out (by decide)
      have HO4 : Aside0 ((w1.setCell ⟨g, 8, none⟩ (.slice a1 n2 c1)).ownsRow B 5 1 (.slice a1 n2 c1) n2 (nums .u8 (p ++ bytesOf s))) := ⟨own_move HO1.out fun k hk => Below.heap_setCell _ _ _ _ (fun e => hne4 (by rw [hk, e]))⟩
      have HB4 : Aside0 (Below B w (w1.setCell ⟨g, 8, none⟩ (.slice a1 n2 c1))) := ⟨((Below.drew HBEL.out).grown HGR.out HBW.out (fun k hk => own_base HOWN2.out k hk)).setCell HB.out _⟩
      clear e0 e1 e2 e3 e4 e5 e6 e7 c8 f8 c8b f8b HG3 HO1 HGR HOWN2 HG2 hne4 HBEL HBW
      generalize w1.setCell ⟨g, 8, none⟩ (.slice a1 n2 c1) = wa at *
      have c8 : wa.cell? ⟨g, 8, none⟩ = some (.slice a1 n2 c1) := (blk_cell HG4.out 8).trans rfl
      have b5 : (s.size : Int) ≤ (s.size : Int) := Int.le_refl _
      go_wp2_with fail
      (try simp only [Exit.jump])
      (try rw [Exit.noGoto_ret])
      go_ret
      refine ⟨rfl, s0, s1, s2, s3, s4, s5, s6, s7, p ++ bytesOf s, .slice a1 n2 c1, ?_, ?_, ?_, ?_, HB4.out⟩
      · rw [← HN.out]; exact HG4.out
      · rw [← HGO.out, hashGo, if_neg HK.out]
      · have h1 := LEN.out; have h2 := HN2.out; omega
      · have h1 := HO4.out; have h2 := LEN.out; rw [h2]; exact h1
  · have HN : Aside0 (N = s.size) := ⟨hN⟩
    clear hN HOWN HBEL HG HF HS hsz c9 f9
    rintro a0 wr ⟨s, t0, t1, t2, t3, t4, t5, t6, t7, p, v, d, u2, u3, u5, u6, u7, u8, u9, u10, u11, u12, u13, u14, u15, u16, u17, u18, u19, u20, u21, u22, u23, u24, u25, u26, u27, u28, u29, u30, u31, u32, u33, u34, u35, u36, u37, u38, u39, u40, u41, u42, u43, u44, u45, u46, u47, u48, u49, u50, u51, u52, u53, u54, u55, u56, u57, u58, u59, u60, u61, u62, u63, u64, u65, u66, u67, u68, u69, u70, u71, u72, u73, u74, u75, rfl, HG2, HGO, HP, HOWN2, HBEL, HSD, HS⟩
    obtain ⟨ao, cap, rfl⟩ := own_is_slice HOWN2.out
    have HBW : Aside0 (B ≤ wr.heap.size) := ⟨Nat.le_of_lt (Nat.lt_of_le_of_lt HB.out (Array.getElem?_eq_some_iff.1 HG2.out).1)⟩
    have e0 : wr.cell? ⟨g, 0, none⟩ = some (.int .u32 t0) := (blk_cell HG2.out 0).trans rfl
    have e1 : wr.cell? ⟨g, 1, none⟩ = some (.int .u32 t1) := (blk_cell HG2.out 1).trans rfl
    have e2 : wr.cell? ⟨g, 2, none⟩ = some (.int .u32 t2) := (blk_cell HG2.out 2).trans rfl
    have e3 : wr.cell? ⟨g, 3, none⟩ = some (.int .u32 t3) := (blk_cell HG2.out 3).trans rfl
    have e4 : wr.cell? ⟨g, 4, none⟩ = some (.int .u32 t4) := (blk_cell HG2.out 4).trans rfl
    have e5 : wr.cell? ⟨g, 5, none⟩ = some (.int .u32 t5) := (blk_cell HG2.out 5).trans rfl
    have e6 : wr.cell? ⟨g, 6, none⟩ = some (.int .u32 t6) := (blk_cell HG2.out 6).trans rfl
    have e7 : wr.cell? ⟨g, 7, none⟩ = some (.int .u32 t7) := (blk_cell HG2.out 7).trans rfl
    have c8 : wr.cell? ⟨g, 8, none⟩ = some (.slice ao p.length cap) := (blk_cell HG2.out 8).trans rfl
    have f8 := blk_frozen HG2.out 8
    have hp1 : p.length < 64 := HP.out
    have hs1 : s.size ≤ 65536 := HS.out
    obtain ⟨d, rfl⟩ : ∃ d', d = d' + 1 := ⟨d - 1, by have := HSD.out; omega⟩
    by_cases hk : 64 ≤ p.length + s.size
    · have HK := Aside0.mk hk
      have m1 : (64 : Int) - (p.length : Int) ≤ (s.size : Int) := by omega
      have m2 : ¬ ((s.size : Int) < 64 - (p.length : Int)) := by omega
      have m3 : (0 : Int) ≤ 64 - (p.length : Int) := by omega
      have m4 : (p.length : Int) ≤ 64 := by omega
      have LEN : Aside0 ((p ++ bytesOf (s.extract 0 (64 - p.length))).length = 64) := ⟨by rw [List.length_append, bytesOf_length, ByteArray.size_extract]; omega⟩
      obtain ⟨p2, hp2⟩ : ∃ p2, p ++ bytesOf (s.extract 0 (64 - p.length)) = p2 := ⟨_, rfl⟩
      have HP2 := Aside0.mk hp2
      clear hp2
      rw [HP2.out] at LEN
      go_wp2_with fail
      go_region_law (refine step_append_str rfl (.tmp 40) (.tmp 43) 90 9 rfl B 5 Tryz.underlying90 Tryz.underlying9 info5 (.slice ao p.length cap) p (s.extract 0 (64 - p.length)) rfl rfl HOWN2.out ?l1 HBW.out ?_; (case l1 => rw [ByteArray.size_extract]; omega); intro v1 w1 ho1 hg1; rw [HP2.out, LEN.out] at ho1; obtain ⟨a1, c1, rfl⟩ := own_is_slice ho1; have HO1 := Aside0.mk ho1; have HGR := Aside0.mk hg1; have HG3 : Aside0 (w1.heap[g]? = some (.cells #[.int .u32 t0, .int .u32 t1, .int .u32 t2, .int .u32 t3, .int .u32 t4, .int .u32 t5, .int .u32 t6, .int .u32 t7, .slice ao p.length cap, .int .i64 (N : Int)] 169 (0, 0))) := ⟨(hg1.block g (Array.getElem?_eq_some_iff.1 HG2.out).1 (own_ne_blk HOWN2.out HG2.out (by decide))).trans HG2.out⟩; have c8b : w1.cell? ⟨g, 8, none⟩ = some (.slice ao p.length cap) := (blk_cell HG3.out 8).trans rfl; have f8b := blk_frozen HG3.out 8; clear ho1 hg1)
      have HG4 := Aside0.mk (blk_put HG3.out 8 (.slice a1 64 c1) rfl)
      have hne4 := own_ne_blk HO1.out HG3.out (by decide)
      have HO4 : Aside0 ((w1.setCell ⟨g, 8, none⟩ (.slice a1 64 c1)).ownsRow B 5 1 (.slice a1 64 c1) 64 (nums .u8 p2)) := ⟨own_move HO1.out fun k hk => Below.heap_setCell _ _ _ _ (fun e => hne4 (by rw [hk, e]))⟩
      have HB4 : Aside0 (Below B w (w1.setCell ⟨g, 8, none⟩ (.slice a1 64 c1))) := ⟨((Below.drew HBEL.out).grown HGR.out HBW.out (fun k hk => own_base HOWN2.out k hk)).setCell HB.out _⟩
      clear e0 e1 e2 e3 e4 e5 e6 e7 c8 f8 c8b f8b HG3 HO1 HGR HOWN2 HG2 hne4 HBEL HBW
      generalize w1.setCell ⟨g, 8, none⟩ (.slice a1 64 c1) = wa at *
      have e0 : wa.cell? ⟨g, 0, none⟩ = some (.int .u32 t0) := (blk_cell HG4.out 0).trans rfl
      have e1 : wa.cell? ⟨g, 1, none⟩ = some (.int .u32 t1) := (blk_cell HG4.out 1).trans rfl
      have e2 : wa.cell? ⟨g, 2, none⟩ = some (.int .u32 t2) := (blk_cell HG4.out 2).trans rfl
      have e3 : wa.cell? ⟨g, 3, none⟩ = some (.int .u32 t3) := (blk_cell HG4.out 3).trans rfl
      have e4 : wa.cell? ⟨g, 4, none⟩ = some (.int .u32 t4) := (blk_cell HG4.out 4).trans rfl
      have e5 : wa.cell? ⟨g, 5, none⟩ = some (.int .u32 t5) := (blk_cell HG4.out 5).trans rfl
      have e6 : wa.cell? ⟨g, 6, none⟩ = some (.int .u32 t6) := (blk_cell HG4.out 6).trans rfl
      have e7 : wa.cell? ⟨g, 7, none⟩ = some (.int .u32 t7) := (blk_cell HG4.out 7).trans rfl
      have c8 : wa.cell? ⟨g, 8, none⟩ = some (.slice a1 64 c1) := (blk_cell HG4.out 8).trans rfl
      have hlt2 : (64 : Int) - (p.length : Int) ≤ (s.size : Int) := by omega
      go_wp2_with fail
      go_region_with (go_at_call 132; refine (sha_Hash_Write.mixE _ _ _ _ _ _ _ _ a1 c1 p2 LEN.out wa.drew (Kd.C_below (Kd.C_of_reads (d := (0 : Int)) (h1 := fun _ => rfl) (own_reads' HO4.out)) (Below.drew (Below.refl _ _))) (own_cap_le HO4.out)).mono ?_; rintro e w3 ⟨m0, m1, m2, m3, m4, m5, m6, m7, rfl, hm, hb3⟩; have HM := Aside0.mk hm; have HG5 := Aside0.mk (blk_below (blk_drew HG4.out) hb3); have HB3 := Aside0.mk hb3; clear hm hb3; have k0 : w3.cell? ⟨g, 0, none⟩ = some (.int .u32 t0) := (blk_cell HG5.out 0).trans rfl; have z0 := blk_frozen HG5.out 0; have k1 : w3.cell? ⟨g, 1, none⟩ = some (.int .u32 t1) := (blk_cell HG5.out 1).trans rfl; have z1 := blk_frozen HG5.out 1; have k2 : w3.cell? ⟨g, 2, none⟩ = some (.int .u32 t2) := (blk_cell HG5.out 2).trans rfl; have z2 := blk_frozen HG5.out 2; have k3 : w3.cell? ⟨g, 3, none⟩ = some (.int .u32 t3) := (blk_cell HG5.out 3).trans rfl; have z3 := blk_frozen HG5.out 3; have k4 : w3.cell? ⟨g, 4, none⟩ = some (.int .u32 t4) := (blk_cell HG5.out 4).trans rfl; have z4 := blk_frozen HG5.out 4; have k5 : w3.cell? ⟨g, 5, none⟩ = some (.int .u32 t5) := (blk_cell HG5.out 5).trans rfl; have z5 := blk_frozen HG5.out 5; have k6 : w3.cell? ⟨g, 6, none⟩ = some (.int .u32 t6) := (blk_cell HG5.out 6).trans rfl; have z6 := blk_frozen HG5.out 6; have k7 : w3.cell? ⟨g, 7, none⟩ = some (.int .u32 t7) := (blk_cell HG5.out 7).trans rfl; have z7 := blk_frozen HG5.out 7)
      all_goals
        have bp0 := blk_put (cs' := #[.int .u32 m0, .int .u32 t1, .int .u32 t2, .int .u32 t3, .int .u32 t4, .int .u32 t5, .int .u32 t6, .int .u32 t7, .slice a1 64 c1, .int .i64 (N : Int)]) HG5.out 0 (.int .u32 m0) rfl
        have bp1 := blk_put (cs' := #[.int .u32 m0, .int .u32 m1, .int .u32 t2, .int .u32 t3, .int .u32 t4, .int .u32 t5, .int .u32 t6, .int .u32 t7, .slice a1 64 c1, .int .i64 (N : Int)]) bp0 1 (.int .u32 m1) rfl
        have bp2 := blk_put (cs' := #[.int .u32 m0, .int .u32 m1, .int .u32 m2, .int .u32 t3, .int .u32 t4, .int .u32 t5, .int .u32 t6, .int .u32 t7, .slice a1 64 c1, .int .i64 (N : Int)]) bp1 2 (.int .u32 m2) rfl
        have bp3 := blk_put (cs' := #[.int .u32 m0, .int .u32 m1, .int .u32 m2, .int .u32 m3, .int .u32 t4, .int .u32 t5, .int .u32 t6, .int .u32 t7, .slice a1 64 c1, .int .i64 (N : Int)]) bp2 3 (.int .u32 m3) rfl
        have bp4 := blk_put (cs' := #[.int .u32 m0, .int .u32 m1, .int .u32 m2, .int .u32 m3, .int .u32 m4, .int .u32 t5, .int .u32 t6, .int .u32 t7, .slice a1 64 c1, .int .i64 (N : Int)]) bp3 4 (.int .u32 m4) rfl
        have bp5 := blk_put (cs' := #[.int .u32 m0, .int .u32 m1, .int .u32 m2, .int .u32 m3, .int .u32 m4, .int .u32 m5, .int .u32 t6, .int .u32 t7, .slice a1 64 c1, .int .i64 (N : Int)]) bp4 5 (.int .u32 m5) rfl
        have bp6 := blk_put (cs' := #[.int .u32 m0, .int .u32 m1, .int .u32 m2, .int .u32 m3, .int .u32 m4, .int .u32 m5, .int .u32 m6, .int .u32 t7, .slice a1 64 c1, .int .i64 (N : Int)]) bp5 6 (.int .u32 m6) rfl
        have bp7 := blk_put (cs' := #[.int .u32 m0, .int .u32 m1, .int .u32 m2, .int .u32 m3, .int .u32 m4, .int .u32 m5, .int .u32 m6, .int .u32 m7, .slice a1 64 c1, .int .i64 (N : Int)]) bp6 7 (.int .u32 m7) rfl
        have HG6 := Aside0.mk bp7
        clear bp0 bp1 bp2 bp3 bp4 bp5 bp6 bp7
        have hne5 := own_ne_blk HO4.out HG4.out (by decide)
        have HBWA : Aside0 (B ≤ wa.heap.size) := ⟨Nat.le_of_lt (Nat.lt_of_le_of_lt HB.out (Array.getElem?_eq_some_iff.1 HG4.out).1)⟩
        have HO6 : Aside0 (((((((((w3.setCell ⟨g, 0, none⟩ (.int .u32 m0)).setCell ⟨g, 1, none⟩ (.int .u32 m1)).setCell ⟨g, 2, none⟩ (.int .u32 m2)).setCell ⟨g, 3, none⟩ (.int .u32 m3)).setCell ⟨g, 4, none⟩ (.int .u32 m4)).setCell ⟨g, 5, none⟩ (.int .u32 m5)).setCell ⟨g, 6, none⟩ (.int .u32 m6)).setCell ⟨g, 7, none⟩ (.int .u32 m7)).ownsRow B 5 1 (.slice a1 64 c1) 64 (nums .u8 p2)) := ⟨own_move HO4.out fun k hk => (have hkg : k ≠ g := fun e => hne5 (by rw [hk, e]); ((Below.heap_setCell _ _ _ _ hkg).trans ((Below.heap_setCell _ _ _ _ hkg).trans ((Below.heap_setCell _ _ _ _ hkg).trans ((Below.heap_setCell _ _ _ _ hkg).trans ((Below.heap_setCell _ _ _ _ hkg).trans ((Below.heap_setCell _ _ _ _ hkg).trans ((Below.heap_setCell _ _ _ _ hkg).trans ((Below.heap_setCell _ _ _ _ hkg).trans (HB3.out.block k (own_lt HO4.out k hk)))))))))))⟩
        have HB6 : Aside0 (Below B w ((((((((w3.setCell ⟨g, 0, none⟩ (.int .u32 m0)).setCell ⟨g, 1, none⟩ (.int .u32 m1)).setCell ⟨g, 2, none⟩ (.int .u32 m2)).setCell ⟨g, 3, none⟩ (.int .u32 m3)).setCell ⟨g, 4, none⟩ (.int .u32 m4)).setCell ⟨g, 5, none⟩ (.int .u32 m5)).setCell ⟨g, 6, none⟩ (.int .u32 m6)).setCell ⟨g, 7, none⟩ (.int .u32 m7))) := ⟨((((((((((Below.drew HB4.out).trans (HB3.out.mono HBWA.out)).setCell HB.out _).setCell HB.out _).setCell HB.out _).setCell HB.out _).setCell HB.out _).setCell HB.out _).setCell HB.out _).setCell HB.out _)⟩
        clear k0 z0 k1 z1 k2 z2 k3 z3 k4 z4 k5 z5 k6 z6 k7 z7 HG5 HG4 HO4 HB4 HB3 hne5 HBWA e0 e1 e2 e3 e4 e5 e6 e7
        clear c8
        generalize ((((((((w3.setCell ⟨g, 0, none⟩ (.int .u32 m0)).setCell ⟨g, 1, none⟩ (.int .u32 m1)).setCell ⟨g, 2, none⟩ (.int .u32 m2)).setCell ⟨g, 3, none⟩ (.int .u32 m3)).setCell ⟨g, 4, none⟩ (.int .u32 m4)).setCell ⟨g, 5, none⟩ (.int .u32 m5)).setCell ⟨g, 6, none⟩ (.int .u32 m6)).setCell ⟨g, 7, none⟩ (.int .u32 m7)) = wb at HG6 HO6 HB6 ⊢
        obtain ⟨g', rfl⟩ := own_some HO6.out (by decide)
        have c8 : wb.cell? ⟨g, 8, none⟩ = some (.slice (some ⟨g', 0, none⟩) 64 c1) := (blk_cell HG6.out 8).trans rfl
        have f8 := blk_frozen HG6.out 8
        go_wp2_with fail
        have HG7 := Aside0.mk (blk_put (cs' := #[.int .u32 m0, .int .u32 m1, .int .u32 m2, .int .u32 m3, .int .u32 m4, .int .u32 m5, .int .u32 m6, .int .u32 m7, .slice (some ⟨g', 0, none⟩) 0 c1, .int .i64 (N : Int)]) HG6.out 8 (.slice (some ⟨g', 0, none⟩) 0 c1) rfl)
        have hne6 := own_ne_blk HO6.out HG6.out (by decide)
        have HO7 : Aside0 ((wb.setCell ⟨g, 8, none⟩ (.slice (some ⟨g', 0, none⟩) 0 c1)).ownsRow B 5 1 (.slice (some ⟨g', 0, none⟩) 0 c1) ([] : List Int).length (nums .u8 [])) := ⟨own_move (own_zero HO6.out) fun k hk' => Below.heap_setCell _ _ _ _ (fun e => hne6 (by have e2 : k = g := e; rw [← e2]; exact hk'.symm))⟩
        have HB7 : Aside0 (Below B w (wb.setCell ⟨g, 8, none⟩ (.slice (some ⟨g', 0, none⟩) 0 c1))) := ⟨HB6.out.setCell HB.out _⟩
        have HGO2 : Aside0 (hashGo d [m0, m1, m2, m3, m4, m5, m6, m7] [] (s.extract (64 - p.length) s.size) = F) := ⟨by rw [← HGO.out, hashGo, if_pos HK.out, HP2.out, HM.out]⟩
        have HSD2 : Aside0 ((s.extract (64 - p.length) s.size).size < d) := ⟨by have := HK.out; have := HP.out; have := HSD.out; rw [ByteArray.size_extract]; omega⟩
        have HS2 : Aside0 ((s.extract (64 - p.length) s.size).size ≤ 65536) := ⟨by have := HS.out; rw [ByteArray.size_extract]; omega⟩
        go_step3
        refine ⟨rfl, ⟨s.extract (64 - p.length) s.size, m0, m1, m2, m3, m4, m5, m6, m7, [], _, d, _, _, _, _, _, _, _, _, _, _, _, _, _, _, _, _, _, _, _, _, _, _, _, _, _, _, _, _, _, _, _, _, _, _, _, _, _, _, _, _, _, _, _, _, _, _, _, _, _, _, _, _, _, _, _, _, _, _, _, _, _, _, _, _, _, _, _, _, _, _, _, _, _, rfl, HG7, HGO2, ⟨by decide⟩, HO7, HB7, HSD2, HS2⟩, ?_⟩
        show (s.extract (64 - p.length) s.size).size < s.size
        have := HK.out
        have := HP.out
        rw [ByteArray.size_extract]
        omega
    · have HK := Aside0.mk hk
      have b1 : ¬ ((64 : Int) - (p.length : Int) ≤ (s.size : Int)) := by omega
      have b2 : (s.size : Int) < 64 - (p.length : Int) := by omega
      have b3 : (s.size : Int) ≤ 64 - (p.length : Int) := by omega
      obtain ⟨n2, hn2⟩ : ∃ n2, (p ++ bytesOf s).length = n2 := ⟨_, rfl⟩
      have HN2 : Aside0 (n2 < 64) := ⟨by rw [← hn2, List.length_append, bytesOf_length]; omega⟩
      have LEN := Aside0.mk hn2
      clear hn2
      have b4 : ((n2 : Int) == 64) = false := beq_eq_false_iff_ne.mpr (by have := HN2.out; omega)
      go_wp2_with fail
      go_region_law (refine step_append_str rfl (.tmp 40) (.tmp 43) 90 9 rfl B 5 Tryz.underlying90 Tryz.underlying9 info5 (.slice ao p.length cap) p s rfl rfl HOWN2.out ?l1 HBW.out ?_; (case l1 => omega); intro v1 w1 ho1 hg1; rw [LEN.out] at ho1; obtain ⟨a1, c1, rfl⟩ := own_is_slice ho1; have HO1 := Aside0.mk ho1; have HGR := Aside0.mk hg1; have HG3 : Aside0 (w1.heap[g]? = some (.cells #[.int .u32 t0, .int .u32 t1, .int .u32 t2, .int .u32 t3, .int .u32 t4, .int .u32 t5, .int .u32 t6, .int .u32 t7, .slice ao p.length cap, .int .i64 (N : Int)] 169 (0, 0))) := ⟨(hg1.block g (Array.getElem?_eq_some_iff.1 HG2.out).1 (own_ne_blk HOWN2.out HG2.out (by decide))).trans HG2.out⟩; have c8b : w1.cell? ⟨g, 8, none⟩ = some (.slice ao p.length cap) := (blk_cell HG3.out 8).trans rfl; have f8b := blk_frozen HG3.out 8; clear ho1 hg1)
      have HG4 := Aside0.mk (blk_put (cs' := #[.int .u32 t0, .int .u32 t1, .int .u32 t2, .int .u32 t3, .int .u32 t4, .int .u32 t5, .int .u32 t6, .int .u32 t7, .slice a1 n2 c1, .int .i64 (N : Int)]) HG3.out 8 (.slice a1 n2 c1) rfl)
      have hne4 := own_ne_blk HO1.out HG3.out (by decide)
      have HO4 : Aside0 ((w1.setCell ⟨g, 8, none⟩ (.slice a1 n2 c1)).ownsRow B 5 1 (.slice a1 n2 c1) n2 (nums .u8 (p ++ bytesOf s))) := ⟨own_move HO1.out fun k hk => Below.heap_setCell _ _ _ _ (fun e => hne4 (by rw [hk, e]))⟩
      have HB4 : Aside0 (Below B w (w1.setCell ⟨g, 8, none⟩ (.slice a1 n2 c1))) := ⟨((Below.drew HBEL.out).grown HGR.out HBW.out (fun k hk => own_base HOWN2.out k hk)).setCell HB.out _⟩
      clear e0 e1 e2 e3 e4 e5 e6 e7 c8 f8 c8b f8b HG3 HO1 HGR HOWN2 HG2 hne4 HBEL HBW
      generalize w1.setCell ⟨g, 8, none⟩ (.slice a1 n2 c1) = wa at *
      have c8 : wa.cell? ⟨g, 8, none⟩ = some (.slice a1 n2 c1) := (blk_cell HG4.out 8).trans rfl
      have b5 : (s.size : Int) ≤ (s.size : Int) := Int.le_refl _
      go_wp2_with fail
      (try simp only [Exit.jump])
      (try rw [Exit.noGoto_ret])
      go_ret
      refine ⟨rfl, t0, t1, t2, t3, t4, t5, t6, t7, p ++ bytesOf s, .slice a1 n2 c1, ?_, ?_, ?_, ?_, HB4.out⟩
      · rw [← HN.out]; exact HG4.out
      · rw [← HGO.out, hashGo, if_neg HK.out]
      · have h1 := LEN.out; have h2 := HN2.out; omega
      · have h1 := HO4.out; have h2 := LEN.out; rw [h2]; exact h1
end Go.Proofs.YtghhmnjkgnoogaaGreat.POuterWholes
