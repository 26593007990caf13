-- Written by this session's own program (wip/tools/mkprint.py) over the kit's printer, with overrides.
import Derived.Test.YtghhmnjkgnoogaaGreatTOuterWholesa
import Derived.Test.YtghhmnjkgnoogaaGreatQOuterWholesx0
import Derived.Test.YtghhmnjkgnoogaaGreatQOuterWholesx1
import Derived.Test.YtghhmnjkgnoogaaGreatQOuterWholesx3
import Derived.Test.YtghhmnjkgnoogaaGreatQOuterWholesx9
namespace Go.Proofs.YtghhmnjkgnoogaaGreat.POuterWholes
open Go.RowKit Go.Mine Go.Proofs.YtghhmnjkgnoogaaGreatW.PrintWords Go.Proofs.YtghhmnjkgnoogaaGreatW.PrintLast Go.Proofs.YtghhmnjkgnoogaaGreatW.PrintMore
attribute [local go_sem] max2_int min2_int max_two min_two max_three min_three max_four min_four   -- for this text's walks alone
set_option linter.unusedVariables false
set_option linter.unusedSimpArgs false
/-! ### outer_joins: function 27 -/
open Go.Shelf in
def outer_joins.lays_ren : Go.Shelf.Ren := ⟨fun | 189 => 53 | 125 => 73 | 257 => 72 | 128 => 100 | 129 => 101 | 294 => 91 | 295 => 92 | 296 => 93 | 297 => 94 | 298 => 95 | 299 => 96 | 216 => 97 | 300 => 98 | 301 => 99 | 328 => 111 | 329 => 112 | 330 => 113 | 331 => 114 | 332 => 115 | 215 => 116 | 343 => 121 | n => n, fun | 28 => 26 | 3 => 3 | 46 => 102 | 0 => 0 | 51 => 104 | 53 => 139 | 4 => 4 | 183 => 130 | 182 => 129 | 131 => 135 | 5 => 5 | 9 => 9 | 218 => 146 | 222 => 150 | 228 => 156 | 229 => 157 | n => n, fun | n => n⟩
open Go.Shelf in
theorem outer_joins.lays : Go.Proofs.Lays.n189 Tryz.prog outer_joins.lays_ren := {
  mixed := by kernel_rfl
  f125 := Tryz.func73.trans (congrArg some (by kernel_rfl))
  f128 := Tryz.func100.trans (congrArg some (by kernel_rfl))
  f129 := Tryz.func101.trans (congrArg some (by kernel_rfl))
  f189 := Tryz.func53.trans (congrArg some (by kernel_rfl))
  f215 := Tryz.func116.trans (congrArg some (by kernel_rfl))
  f216 := Tryz.func97.trans (congrArg some (by kernel_rfl))
  f257 := Tryz.func72.trans (congrArg some (by kernel_rfl))
  f294 := Tryz.func91.trans (congrArg some (by kernel_rfl))
  f295 := Tryz.func92.trans (congrArg some (by kernel_rfl))
  f296 := Tryz.func93.trans (congrArg some (by kernel_rfl))
  f297 := Tryz.func94.trans (congrArg some (by kernel_rfl))
  f298 := Tryz.func95.trans (congrArg some (by kernel_rfl))
  f299 := Tryz.func96.trans (congrArg some (by kernel_rfl))
  f300 := Tryz.func98.trans (congrArg some (by kernel_rfl))
  f301 := Tryz.func99.trans (congrArg some (by kernel_rfl))
  f328 := Tryz.func111.trans (congrArg some (by kernel_rfl))
  f329 := Tryz.func112.trans (congrArg some (by kernel_rfl))
  f330 := Tryz.func113.trans (congrArg some (by kernel_rfl))
  f331 := Tryz.func114.trans (congrArg some (by kernel_rfl))
  f332 := Tryz.func115.trans (congrArg some (by kernel_rfl))
  f343 := Tryz.func121.trans (congrArg some (by kernel_rfl))
  t0 := Tryz.underlying0
  a0 := Tryz.isAgg0
  z0 := Tryz.sizeOf0
  v0 := Tryz.zeroValue0
  t3 := Tryz.underlying3
  a3 := Tryz.isAgg3
  z3 := Tryz.sizeOf3
  v3 := Tryz.zeroValue3
  t4 := Tryz.underlying4
  a4 := Tryz.isAgg4
  z4 := Tryz.sizeOf4
  v4 := Tryz.zeroValue4
  t5 := Tryz.underlying5
  a5 := Tryz.isAgg5
  z5 := Tryz.sizeOf5
  v5 := Tryz.zeroValue5
  t9 := Tryz.underlying9
  a9 := Tryz.isAgg9
  z9 := Tryz.sizeOf9
  v9 := Tryz.zeroValue9
  t28 := Tryz.underlying26
  a28 := Tryz.isAgg26
  z28 := Tryz.sizeOf26
  v28 := Tryz.zeroValue26
  t46 := Tryz.underlying102
  a46 := Tryz.isAgg102
  z46 := Tryz.sizeOf102
  v46 := Tryz.zeroValue102
  t51 := Tryz.underlying104
  a51 := Tryz.isAgg104
  z51 := Tryz.sizeOf104
  v51 := Tryz.zeroValue104
  t53 := Tryz.underlying139
  a53 := Tryz.isAgg139
  z53 := Tryz.sizeOf139
  v53 := Tryz.zeroValue139
  t131 := Tryz.underlying135
  a131 := Tryz.isAgg135
  z131 := Tryz.sizeOf135
  v131 := Tryz.zeroValue135
  t182 := Tryz.underlying129
  a182 := Tryz.isAgg129
  z182 := Tryz.sizeOf129
  v182 := Tryz.zeroValue129
  t183 := Tryz.underlying130
  a183 := Tryz.isAgg130
  z183 := Tryz.sizeOf130
  v183 := Tryz.zeroValue130
  t218 := Tryz.underlying146
  a218 := Tryz.isAgg146
  z218 := Tryz.sizeOf146
  v218 := Tryz.zeroValue146
  t222 := Tryz.underlying150
  a222 := Tryz.isAgg150
  z222 := Tryz.sizeOf150
  v222 := Tryz.zeroValue150
  t228 := Tryz.underlying156
  a228 := Tryz.isAgg156
  z228 := Tryz.sizeOf156
  v228 := Tryz.zeroValue156
  t229 := Tryz.underlying157
  a229 := Tryz.isAgg157
  z229 := Tryz.sizeOf157
  v229 := Tryz.zeroValue157 }
def outer_joins.sort (l : List Int) : List Int := l.mergeSort fun x y => decide (x ≤ y)
def outer_joins.f (k : Nat) (a0_0 a0_1 a0_2 a0_3 : Int) (a1 : Int) : Option (List Int) :=
  if 0 ≤ a0_2 ∧ a0_2 ≤ 4096 ∧ 0 ≤ a0_3 ∧ a0_3 ≤ 4096 then (outer_seed.f k a0_0 a0_1 a0_2 a0_3 a1).bind fun s => if s.size ≤ 64 then
    (prng_Gen_Pick.go k a0_2.toNat (min a0_3.toNat a0_2.toNat) 0 (prng_Gen_Pick.iota a0_2.toNat) s 0 ⟨#[]⟩).bind fun r => some (outer_joins.sort (r.1.take (min a0_3.toNat a0_2.toNat))) else none else none
theorem outer_joins.mono : ∀ a0_0 a0_1 a0_2 a0_3 a1 k, LeO (outer_joins.f k a0_0 a0_1 a0_2 a0_3 a1) (outer_joins.f (k + 1) a0_0 a0_1 a0_2 a0_3 a1) := by
  intro a0_0 a0_1 a0_2 a0_3 a1 k
  unfold outer_joins.f
  exact LeO.ite (LeO.bind (outer_seed.mono _ _ _ _ _ _) (fun _ => LeO.ite (LeO.bind (prng_Gen_Pick.go_mono _ _ _ _ _ _ _ _) (fun _ => LeO.refl _)) (LeO.refl _))) (LeO.refl _)
theorem outer_joins.sorted (b M : Nat) (lf : List Int) (w : World) (hR : prng_Gen_Pick.Row w b lf) (hM : M ≤ lf.length) (hl : lf.length ≤ 4096) :
    Calls Tryz.prog 53 #[.slice (some ⟨b, 0, none⟩) M M] w fun e w' => e = .returned (.tuple #[]) ∧ prng_Gen_Pick.Row w' b (outer_joins.sort (lf.take M) ++ lf.drop M) ∧ w.grownBy w' (some b) := by
  have hlen : (lf.take M).length = M := by rw [List.length_take]; omega
  have hH : Go.Sort.Holds (Value.int .i64) w b 0 (lf.take M).toArray := holds_of_blockI hR (by
    rw [hlen, ← List.map_take])
  have h := Go.Proofs.Any.slices_Sort_int outer_joins.lays b 0 M (lf.take M) w hH hR.lt (by omega)
  rw [hlen] at h
  refine h.mono ?_
  rintro e w' ⟨rfl, n, os, rfl⟩
  have hls : (outer_joins.sort (lf.take M)).length = M := by rw [outer_joins.sort, List.length_mergeSort, hlen]
  refine ⟨rfl, ?_, grownBy_sortedI _⟩
  have h2 := heap_sortedI (n := n) (os := os) (outer_joins.sort (lf.take M)).toArray hR
  unfold prng_Gen_Pick.Row
  refine h2.trans ?_
  congr 2
  apply Array.ext'
  apply List.ext_getElem
  · simp [Go.Sort.putCells, hls]
    omega
  · intro i h1 h2
    have h3 : i < lf.length := by simpa [Go.Sort.putCells] using h1
    simp only [Go.Sort.putCells, Array.getElem_toList, Array.getElem_mapIdx, List.getElem_toArray, List.getElem_map, List.size_toArray, Nat.zero_le, true_and, Nat.zero_add, Nat.sub_zero, hls]
    by_cases hi : i < M
    · rw [if_pos hi, List.getElem_append_left (by rw [hls]; exact hi)]
      simp [hls, hi]
    · rw [if_neg hi, List.getElem_append_right (by rw [hls]; omega), List.getElem_drop]
      congr 2
      rw [hls]
      omega
theorem outer_joins.view (b M B : Nat) (l : List Int) (w : World) (hR : prng_Gen_Pick.Row w b l) (hM : M ≤ l.length) (hl : l.length ≤ 4096) (hB : B ≤ b) : Kd.QC (Kd.int .i64) 3 w B (fun _ => True) (.slice (some ⟨b, 0, none⟩) M M) (l.take M) := by
  have ho : w.ownsRow B 3 1 (.slice (some ⟨b, 0, none⟩) l.length l.length) l.length (nums .i64 l) :=
    ⟨by simp [nums], .inr ⟨b, l.length, _, rfl, hB, hR, Nat.le_refl _, by simp only [maxLen]; omega, by simp, by simp [nums, List.take_of_length_le]⟩⟩
  exact Kd.QC_cut (Go.Proofs.YtghhmnjkgnoogaaGreatW.PrintWords.Kd.Q_of_R (Go.Proofs.YtghhmnjkgnoogaaGreatW.PrintWords.Kd.R_of_own (enc := Value.int .i64) (h1 := fun _ => rfl) (ok := fun _ => True) ho (fun _ _ => trivial))) hM (Nat.le_refl _)
set_option maxHeartbeats 4000000 in
set_option maxRecDepth 100000 in
theorem outer_joins.calls (k : Nat) (a0_0 a0_1 a0_2 a0_3 : Int) (a1 : Int) (r : List Int) (w : World) (h : outer_joins.f k a0_0 a0_1 a0_2 a0_3 a1 = some r) :
    Calls Tryz.prog 27 #[.agg #[.int .i64 a0_0, .int .i64 a0_1, .int .i64 a0_2, .int .i64 a0_3], .int .i64 a1] w fun e w' => ∃ v0_ : Value, e = .returned v0_ ∧ Kd.QC (Kd.int .i64) 3 w' w.heap.size (fun _ => True) v0_ r ∧ Below w.heap.size w w' := by
  unfold outer_joins.f at h
  split at h
  rotate_left
  · cases h
  rename_i hc
  obtain ⟨h1, h2, h3, h4⟩ := hc
  obtain ⟨N, rfl⟩ : ∃ n : Nat, a0_2 = n := ⟨a0_2.toNat, by omega⟩
  obtain ⟨Q, rfl⟩ : ∃ n : Nat, a0_3 = n := ⟨a0_3.toNat, by omega⟩
  rw [Int.toNat_natCast, Int.toNat_natCast] at h
  obtain ⟨s, hs, h⟩ := Option.bind_eq_some_iff.mp h
  split at h
  rotate_left
  · cases h
  rename_i hsz
  obtain ⟨⟨lf, q0, q1, q2⟩, hgo, h⟩ := Option.bind_eq_some_iff.mp h
  have h := Option.some.inj h
  simp only at h
  obtain ⟨M, hM⟩ : ∃ M, min Q N = M := ⟨_, rfl⟩
  rw [hM] at h hgo
  have hMN : M ≤ N := by omega
  have hll : lf.length = N := by rw [prng_Gen_Pick.go_length k N M _ _ _ _ _ _ hgo, prng_Gen_Pick.iota_length]
  have HRES := Aside0.mk h
  have HS := Aside0.mk hs
  have HSZ := Aside0.mk hsz
  have HGO := Aside0.mk hgo
  have HLL := Aside0.mk hll
  have HMN := Aside0.mk hMN
  have HN : Aside0 (N ≤ 4096) := ⟨by omega⟩
  have HNEW : Aside0 (prng_New.f s = some (s, 0, ⟨#[]⟩)) := ⟨by unfold prng_New.f; rw [if_pos hsz]⟩
  have hbx : (w.alloc (.cells #[.int .i64 a0_0, .int .i64 a0_1, .int .i64 N, .int .i64 Q] 23)).heap[w.heap.size]? = some (.cells #[.int .i64 a0_0, .int .i64 a0_1, .int .i64 N, .int .i64 Q] 23 (0, 0)) := heap_alloc_new _ _
  have HBX := Aside0.mk hbx
  have HB := Aside0.mk (below_alloc (Below.refl w.heap.size w) (.cells #[.int .i64 a0_0, .int .i64 a0_1, .int .i64 N, .int .i64 Q] 23))
  clear h hs hsz hgo hll hMN h1 h2 h3 h4 hbx
  by_cases hQN : N < Q
  all_goals
    first
    | (have hq : (N : Int) < (Q : Int) := by omega
       obtain rfl : N = M := by omega)
    | (have hq : ¬ (N : Int) < (Q : Int) := by omega
       obtain rfl : Q = M := by omega)
    clear hM
  all_goals
    obtain ⟨gb, hgb⟩ : ∃ g, w.heap.size = g := ⟨_, rfl⟩
    rw [hgb] at HBX
    have HGB := Aside0.mk hgb
    have c0 : (w.alloc (.cells #[.int .i64 a0_0, .int .i64 a0_1, .int .i64 N, .int .i64 Q] 23)).cell? ⟨gb, 0, none⟩ = some (.int .i64 a0_0) := (blk_cell HBX.out 0).trans rfl
    have c1 : (w.alloc (.cells #[.int .i64 a0_0, .int .i64 a0_1, .int .i64 N, .int .i64 Q] 23)).cell? ⟨gb, 1, none⟩ = some (.int .i64 a0_1) := (blk_cell HBX.out 1).trans rfl
    have c2 : (w.alloc (.cells #[.int .i64 a0_0, .int .i64 a0_1, .int .i64 N, .int .i64 Q] 23)).cell? ⟨gb, 2, none⟩ = some (.int .i64 N) := (blk_cell HBX.out 2).trans rfl
    have c3 : (w.alloc (.cells #[.int .i64 a0_0, .int .i64 a0_1, .int .i64 N, .int .i64 Q] 23)).cell? ⟨gb, 3, none⟩ = some (.int .i64 Q) := (blk_cell HBX.out 3).trans rfl
    clear hgb
    go_enter Tryz.func27, Tryz.ntmps27
    go_wp2_with fail
    rw [HGB.out]
    generalize w.alloc (.cells #[.int .i64 a0_0, .int .i64 a0_1, .int .i64 N, .int .i64 Q] 23) = wa at *
  · refine start_ (n := 13) (S := fun w' => w'.cell? ⟨gb, 0, none⟩ = some (.int .i64 a0_0) ∧ w'.cell? ⟨gb, 1, none⟩ = some (.int .i64 a0_1) ∧ w'.cell? ⟨gb, 2, none⟩ = some (.int .i64 N) ∧ w'.cell? ⟨gb, 3, none⟩ = some (.int .i64 Q)) (ds := []) #[false, false, false, false, false, false, false, false, false, false, false, false, false] (by kernel_rfl) rfl rfl ⟨c0, c1, c2, c3⟩ (fun hHeld => ?_)
    refine pure_ (i := 1) (N := some 7) (v := ?_) (a' := ?_) #[false, true, false, false, false, false, false, false, false, false, false, false, false] rfl rfl (by kernel_rfl) (fun _ _ _ h => h) (Or.inl ⟨by rfl, ?_⟩) ?_ ?_
    rotate_left
    · intro w'
      go_simp
      with_reducible rfl
    rotate_left
    · simp only [Act.put, List.setIfInBounds_toArray, List.set_cons_zero, List.set_cons_succ, i64_w, i32_w]
      rfl
    refine pure_ (i := 4) (N := some 10) (v := ?_) (a' := ?_) #[false, true, false, false, true, false, false, false, false, false, false, false, false] rfl rfl (by kernel_rfl) (fun _ _ _ h => h) (Or.inl ⟨by rfl, ?_⟩) ?_ ?_
    rotate_left
    · intro w'
      go_simp
      with_reducible rfl
    rotate_left
    · simp only [Act.put, List.setIfInBounds_toArray, List.set_cons_zero, List.set_cons_succ, i64_w, i32_w]
      rfl
    refine pure_ (i := 6) (N := some 12) (v := ?_) (a' := ?_) #[false, true, false, false, true, false, true, false, false, false, false, false, false] rfl rfl (by kernel_rfl) (fun _ _ _ h => h) (Or.inl ⟨by rfl, ?_⟩) ?_ ?_
    rotate_left
    · intro w'
      go_simp
      with_reducible rfl
    rotate_left
    · simp only [Act.put, List.setIfInBounds_toArray, List.set_cons_zero, List.set_cons_succ, i64_w, i32_w]
      rfl
    refine pure_ (i := 8) (N := some 14) (v := ?_) (a' := ?_) #[false, true, false, false, true, false, true, false, true, false, false, false, false] rfl rfl (by kernel_rfl) (fun _ _ _ h => h) (Or.inl ⟨by rfl, ?_⟩) ?_ ?_
    rotate_left
    · intro w'
      go_simp
      with_reducible rfl
    rotate_left
    · simp only [Act.put, List.setIfInBounds_toArray, List.set_cons_zero, List.set_cons_succ, i64_w, i32_w]
      rfl
    refine take_ (i := 0) (N := some 6) (v := ?_) (a' := ?_) #[true, true, false, false, true, false, true, false, true, false, false, false, false] rfl rfl (by kernel_rfl) (fun _ _ _ h => h) (Or.inl ⟨by rfl, ?_⟩) hHeld ?_ ?_
    rotate_left
    · rintro w' ⟨s0, s1, s2, s3⟩
      go_simp
      with_reducible rfl
    rotate_left
    · simp only [Act.put, List.setIfInBounds_toArray, List.set_cons_zero, List.set_cons_succ, i64_w, i32_w]
      rfl
    refine take_ (i := 5) (N := some 11) (v := ?_) (a' := ?_) #[true, true, false, false, true, true, true, false, true, false, false, false, false] rfl rfl (by kernel_rfl) (fun _ _ _ h => h) (Or.inl ⟨by rfl, ?_⟩) hHeld ?_ ?_
    rotate_left
    · rintro w' ⟨s0, s1, s2, s3⟩
      go_simp
      with_reducible rfl
    rotate_left
    · simp only [Act.put, List.setIfInBounds_toArray, List.set_cons_zero, List.set_cons_succ, i64_w, i32_w]
      rfl
    refine take_ (i := 7) (N := some 13) (v := ?_) (a' := ?_) #[true, true, false, false, true, true, true, true, true, false, false, false, false] rfl rfl (by kernel_rfl) (fun _ _ _ h => h) (Or.inl ⟨by rfl, ?_⟩) hHeld ?_ ?_
    rotate_left
    · rintro w' ⟨s0, s1, s2, s3⟩
      go_simp
      with_reducible rfl
    rotate_left
    · simp only [Act.put, List.setIfInBounds_toArray, List.set_cons_zero, List.set_cons_succ, i64_w, i32_w]
      rfl
    refine take_ (i := 9) (N := some 15) (v := ?_) (a' := ?_) #[true, true, false, false, true, true, true, true, true, true, false, false, false] rfl rfl (by kernel_rfl) (fun _ _ _ h => h) (Or.inl ⟨by rfl, ?_⟩) hHeld ?_ ?_
    rotate_left
    · rintro w' ⟨s0, s1, s2, s3⟩
      go_simp
      with_reducible rfl
    rotate_left
    · simp only [Act.put, List.setIfInBounds_toArray, List.set_cons_zero, List.set_cons_succ, i64_w, i32_w]
      rfl
    refine pure_ (i := 10) (N := some 16) (v := ?_) (a' := ?_) #[true, true, false, false, true, true, true, true, true, true, true, false, false] rfl rfl (by kernel_rfl) (fun _ _ _ h => h) (Or.inl ⟨by rfl, ?_⟩) ?_ ?_
    rotate_left
    · intro w'
      go_simp
      with_reducible rfl
    rotate_left
    · simp only [Act.put, List.setIfInBounds_toArray, List.set_cons_zero, List.set_cons_succ, i64_w, i32_w]
      rfl
    refine one_ (i := 2) (N := some 8) #[true, true, true, false, true, true, true, true, true, true, true, false, false] rfl rfl (by kernel_rfl) (by decide) (fun K hK => ?_)
    refine goes_ Tryz.func51 (by kernel_rfl) rfl #[.agg #[.int .i64 a0_0, .int .i64 a0_1, .int .i64 N, .int .i64 Q], .int .i64 a1] (by rfl) rfl rfl (by simp only [List.map_toArray, List.map_cons, List.map_nil]; rfl) ?_
    with_reducible refine (outer_seed.calls k a0_0 a0_1 N Q a1 s _ HS.out).mono ?_
    rintro e w3 ⟨rfl, hb3⟩
    refine ⟨_, rfl, ?_⟩
    have HB3 := Aside0.mk (below_step (below_drew HB.out) hb3)
    have HX3 := Aside0.mk (blk_below (blk_drew HBX.out) hb3)
    clear hb3
    refine hK.out _ _ ⟨(blk_cell HX3.out 0).trans rfl, (blk_cell HX3.out 1).trans rfl, (blk_cell HX3.out 2).trans rfl, (blk_cell HX3.out 3).trans rfl⟩ (fun hHeld => ?_)
    clear hK K
    refine norm_ (a' := ?_) ?_ ?_
    rotate_left
    · show Act.put _ (some 8) _ = _
      simp only [Act.put, List.setIfInBounds_toArray, List.set_cons_zero, List.set_cons_succ, i64_w, i32_w]
      rfl
    refine one_ (i := 3) (N := some 9) #[true, true, true, true, true, true, true, true, true, true, true, false, false] rfl rfl (by kernel_rfl) (by decide) (fun K hK => ?_)
    refine goes_ Tryz.func50 (by kernel_rfl) rfl #[.string s] (by rfl) rfl rfl (by simp only [List.map_toArray, List.map_cons, List.map_nil]; rfl) ?_
    with_reducible refine (prng_New.calls s s 0 ⟨#[]⟩ w _ HB3.out HNEW.out).mono ?_
    rintro e w4 ⟨g, rfl, hI4, hb4, hb5⟩
    refine ⟨_, rfl, ?_⟩
    have HI4 := Aside0.mk hI4
    have HB4 := Aside0.mk hb4
    have HX4 := Aside0.mk (blk_below HX3.out hb5)
    clear hI4 hb4 hb5
    refine hK.out _ _ ⟨(blk_cell HX4.out 0).trans rfl, (blk_cell HX4.out 1).trans rfl, (blk_cell HX4.out 2).trans rfl, (blk_cell HX4.out 3).trans rfl⟩ (fun hHeld => ?_)
    clear hK K
    refine norm_ (a' := ?_) ?_ ?_
    rotate_left
    · show Act.put _ (some 9) _ = _
      simp only [Act.put, List.setIfInBounds_toArray, List.set_cons_zero, List.set_cons_succ, i64_w, i32_w]
      rfl
    refine one_ (i := 11) (N := some 17) #[true, true, true, true, true, true, true, true, true, true, true, true, false] rfl rfl (by kernel_rfl) (by decide) (fun K hK => ?_)
    refine goes_ Tryz.func52 (by kernel_rfl) rfl #[.pointer (some ⟨g, 0, none⟩), .int .i64 N, .int .i64 N] (by rfl) rfl rfl (by simp only [List.map_toArray, List.map_cons, List.map_nil]; rfl) ?_
    with_reducible refine (prng_Gen_Pick.gives k N N g s 0 ⟨#[]⟩ HN.out HMN.out lf q0 q1 q2 HGO.out w _ HI4.out HB4.out).mono ?_
    rintro e w6 ⟨b, rfl, hR6, hge6, hI6, hb6, hk6⟩
    refine ⟨_, rfl, ?_⟩
    have HR6 := Aside0.mk hR6
    have HGE6 : Aside0 (w.heap.size ≤ b) := ⟨Nat.le_trans HB4.out.size hge6⟩
    have HB6 := Aside0.mk hb6
    have HX6 := Aside0.mk (hk6.blk HX4.out (Ne.symm (HI4.out.ne_blk HX4.out (by decide))) (by simp))
    clear hR6 hge6 hI6 hb6 hk6
    refine hK.out _ _ ⟨(blk_cell HX6.out 0).trans rfl, (blk_cell HX6.out 1).trans rfl, (blk_cell HX6.out 2).trans rfl, (blk_cell HX6.out 3).trans rfl⟩ (fun hHeld => ?_)
    clear hK K
    refine norm_ (a' := ?_) ?_ ?_
    rotate_left
    · show Act.put _ (some 17) _ = _
      simp only [Act.put, List.setIfInBounds_toArray, List.set_cons_zero, List.set_cons_succ, i64_w, i32_w]
      rfl
    refine pure_ (i := 12) (N := some 5) (v := ?_) (a' := ?_) #[true, true, true, true, true, true, true, true, true, true, true, true, true] rfl rfl (by kernel_rfl) (fun _ _ _ h => h) (Or.inl ⟨by rfl, ?_⟩) ?_ ?_
    rotate_left
    · intro w'
      go_simp
      with_reducible rfl
    rotate_left
    · simp only [Act.put, List.setIfInBounds_toArray, List.set_cons_zero, List.set_cons_succ, i64_w, i32_w]
      rfl
    refine done_ (by kernel_rfl) ?_
    
    go_wp2_with fail
    refine (outer_joins.sorted b N lf w6 HR6.out (by have h1 := HMN.out; have h2 := HLL.out; omega) (by have h1 := HN.out; have h2 := HLL.out; omega)).mono ?_
    rintro e w7 ⟨rfl, hR7, hg7⟩
    have HR7 := Aside0.mk hR7
    have HG7 := Aside0.mk hg7
    clear hR7 hg7
    go_wp2_with fail
    go_ret
    have hls : (outer_joins.sort (lf.take N)).length = N := by rw [outer_joins.sort, List.length_mergeSort, List.length_take]; have h1 := HMN.out; have h2 := HLL.out; omega
    refine ⟨_, rfl, ?_, HB6.out.grown HG7.out HB6.out.size (fun k hk => by have h1 := HGE6.out; have h2 : b = k := (by simpa using hk); rw [← h2]; exact h1)⟩
    have hv := outer_joins.view b N w.heap.size (outer_joins.sort (lf.take N) ++ lf.drop N) w7 HR7.out (by rw [List.length_append, hls]; omega) (by rw [List.length_append, hls, List.length_drop]; have h1 := HN.out; have h2 := HLL.out; have h3 := HMN.out; omega) HGE6.out
    have hr := HRES.out
    have htk : (outer_joins.sort (lf.take N) ++ lf.drop N).take N = outer_joins.sort (lf.take N) := by
      rw [List.take_append_of_le_length (by omega), List.take_of_length_le (by omega)]
    rw [htk, hr] at hv
    exact hv
  · refine start_ (n := 13) (S := fun w' => w'.cell? ⟨gb, 0, none⟩ = some (.int .i64 a0_0) ∧ w'.cell? ⟨gb, 1, none⟩ = some (.int .i64 a0_1) ∧ w'.cell? ⟨gb, 2, none⟩ = some (.int .i64 N) ∧ w'.cell? ⟨gb, 3, none⟩ = some (.int .i64 Q)) (ds := []) #[false, false, false, false, false, false, false, false, false, false, false, false, false] (by kernel_rfl) rfl rfl ⟨c0, c1, c2, c3⟩ (fun hHeld => ?_)
    refine pure_ (i := 1) (N := some 7) (v := ?_) (a' := ?_) #[false, true, false, false, false, false, false, false, false, false, false, false, false] rfl rfl (by kernel_rfl) (fun _ _ _ h => h) (Or.inl ⟨by rfl, ?_⟩) ?_ ?_
    rotate_left
    · intro w'
      go_simp
      with_reducible rfl
    rotate_left
    · simp only [Act.put, List.setIfInBounds_toArray, List.set_cons_zero, List.set_cons_succ, i64_w, i32_w]
      rfl
    refine pure_ (i := 4) (N := some 10) (v := ?_) (a' := ?_) #[false, true, false, false, true, false, false, false, false, false, false, false, false] rfl rfl (by kernel_rfl) (fun _ _ _ h => h) (Or.inl ⟨by rfl, ?_⟩) ?_ ?_
    rotate_left
    · intro w'
      go_simp
      with_reducible rfl
    rotate_left
    · simp only [Act.put, List.setIfInBounds_toArray, List.set_cons_zero, List.set_cons_succ, i64_w, i32_w]
      rfl
    refine pure_ (i := 6) (N := some 12) (v := ?_) (a' := ?_) #[false, true, false, false, true, false, true, false, false, false, false, false, false] rfl rfl (by kernel_rfl) (fun _ _ _ h => h) (Or.inl ⟨by rfl, ?_⟩) ?_ ?_
    rotate_left
    · intro w'
      go_simp
      with_reducible rfl
    rotate_left
    · simp only [Act.put, List.setIfInBounds_toArray, List.set_cons_zero, List.set_cons_succ, i64_w, i32_w]
      rfl
    refine pure_ (i := 8) (N := some 14) (v := ?_) (a' := ?_) #[false, true, false, false, true, false, true, false, true, false, false, false, false] rfl rfl (by kernel_rfl) (fun _ _ _ h => h) (Or.inl ⟨by rfl, ?_⟩) ?_ ?_
    rotate_left
    · intro w'
      go_simp
      with_reducible rfl
    rotate_left
    · simp only [Act.put, List.setIfInBounds_toArray, List.set_cons_zero, List.set_cons_succ, i64_w, i32_w]
      rfl
    refine take_ (i := 0) (N := some 6) (v := ?_) (a' := ?_) #[true, true, false, false, true, false, true, false, true, false, false, false, false] rfl rfl (by kernel_rfl) (fun _ _ _ h => h) (Or.inl ⟨by rfl, ?_⟩) hHeld ?_ ?_
    rotate_left
    · rintro w' ⟨s0, s1, s2, s3⟩
      go_simp
      with_reducible rfl
    rotate_left
    · simp only [Act.put, List.setIfInBounds_toArray, List.set_cons_zero, List.set_cons_succ, i64_w, i32_w]
      rfl
    refine take_ (i := 5) (N := some 11) (v := ?_) (a' := ?_) #[true, true, false, false, true, true, true, false, true, false, false, false, false] rfl rfl (by kernel_rfl) (fun _ _ _ h => h) (Or.inl ⟨by rfl, ?_⟩) hHeld ?_ ?_
    rotate_left
    · rintro w' ⟨s0, s1, s2, s3⟩
      go_simp
      with_reducible rfl
    rotate_left
    · simp only [Act.put, List.setIfInBounds_toArray, List.set_cons_zero, List.set_cons_succ, i64_w, i32_w]
      rfl
    refine take_ (i := 7) (N := some 13) (v := ?_) (a' := ?_) #[true, true, false, false, true, true, true, true, true, false, false, false, false] rfl rfl (by kernel_rfl) (fun _ _ _ h => h) (Or.inl ⟨by rfl, ?_⟩) hHeld ?_ ?_
    rotate_left
    · rintro w' ⟨s0, s1, s2, s3⟩
      go_simp
      with_reducible rfl
    rotate_left
    · simp only [Act.put, List.setIfInBounds_toArray, List.set_cons_zero, List.set_cons_succ, i64_w, i32_w]
      rfl
    refine take_ (i := 9) (N := some 15) (v := ?_) (a' := ?_) #[true, true, false, false, true, true, true, true, true, true, false, false, false] rfl rfl (by kernel_rfl) (fun _ _ _ h => h) (Or.inl ⟨by rfl, ?_⟩) hHeld ?_ ?_
    rotate_left
    · rintro w' ⟨s0, s1, s2, s3⟩
      go_simp
      with_reducible rfl
    rotate_left
    · simp only [Act.put, List.setIfInBounds_toArray, List.set_cons_zero, List.set_cons_succ, i64_w, i32_w]
      rfl
    refine pure_ (i := 10) (N := some 16) (v := ?_) (a' := ?_) #[true, true, false, false, true, true, true, true, true, true, true, false, false] rfl rfl (by kernel_rfl) (fun _ _ _ h => h) (Or.inl ⟨by rfl, ?_⟩) ?_ ?_
    rotate_left
    · intro w'
      go_simp
      with_reducible rfl
    rotate_left
    · simp only [Act.put, List.setIfInBounds_toArray, List.set_cons_zero, List.set_cons_succ, i64_w, i32_w]
      rfl
    refine one_ (i := 2) (N := some 8) #[true, true, true, false, true, true, true, true, true, true, true, false, false] rfl rfl (by kernel_rfl) (by decide) (fun K hK => ?_)
    refine goes_ Tryz.func51 (by kernel_rfl) rfl #[.agg #[.int .i64 a0_0, .int .i64 a0_1, .int .i64 N, .int .i64 Q], .int .i64 a1] (by rfl) rfl rfl (by simp only [List.map_toArray, List.map_cons, List.map_nil]; rfl) ?_
    with_reducible refine (outer_seed.calls k a0_0 a0_1 N Q a1 s _ HS.out).mono ?_
    rintro e w3 ⟨rfl, hb3⟩
    refine ⟨_, rfl, ?_⟩
    have HB3 := Aside0.mk (below_step (below_drew HB.out) hb3)
    have HX3 := Aside0.mk (blk_below (blk_drew HBX.out) hb3)
    clear hb3
    refine hK.out _ _ ⟨(blk_cell HX3.out 0).trans rfl, (blk_cell HX3.out 1).trans rfl, (blk_cell HX3.out 2).trans rfl, (blk_cell HX3.out 3).trans rfl⟩ (fun hHeld => ?_)
    clear hK K
    refine norm_ (a' := ?_) ?_ ?_
    rotate_left
    · show Act.put _ (some 8) _ = _
      simp only [Act.put, List.setIfInBounds_toArray, List.set_cons_zero, List.set_cons_succ, i64_w, i32_w]
      rfl
    refine one_ (i := 3) (N := some 9) #[true, true, true, true, true, true, true, true, true, true, true, false, false] rfl rfl (by kernel_rfl) (by decide) (fun K hK => ?_)
    refine goes_ Tryz.func50 (by kernel_rfl) rfl #[.string s] (by rfl) rfl rfl (by simp only [List.map_toArray, List.map_cons, List.map_nil]; rfl) ?_
    with_reducible refine (prng_New.calls s s 0 ⟨#[]⟩ w _ HB3.out HNEW.out).mono ?_
    rintro e w4 ⟨g, rfl, hI4, hb4, hb5⟩
    refine ⟨_, rfl, ?_⟩
    have HI4 := Aside0.mk hI4
    have HB4 := Aside0.mk hb4
    have HX4 := Aside0.mk (blk_below HX3.out hb5)
    clear hI4 hb4 hb5
    refine hK.out _ _ ⟨(blk_cell HX4.out 0).trans rfl, (blk_cell HX4.out 1).trans rfl, (blk_cell HX4.out 2).trans rfl, (blk_cell HX4.out 3).trans rfl⟩ (fun hHeld => ?_)
    clear hK K
    refine norm_ (a' := ?_) ?_ ?_
    rotate_left
    · show Act.put _ (some 9) _ = _
      simp only [Act.put, List.setIfInBounds_toArray, List.set_cons_zero, List.set_cons_succ, i64_w, i32_w]
      rfl
    refine one_ (i := 11) (N := some 17) #[true, true, true, true, true, true, true, true, true, true, true, true, false] rfl rfl (by kernel_rfl) (by decide) (fun K hK => ?_)
    refine goes_ Tryz.func52 (by kernel_rfl) rfl #[.pointer (some ⟨g, 0, none⟩), .int .i64 N, .int .i64 Q] (by rfl) rfl rfl (by simp only [List.map_toArray, List.map_cons, List.map_nil]; rfl) ?_
    with_reducible refine (prng_Gen_Pick.gives k N Q g s 0 ⟨#[]⟩ HN.out HMN.out lf q0 q1 q2 HGO.out w _ HI4.out HB4.out).mono ?_
    rintro e w6 ⟨b, rfl, hR6, hge6, hI6, hb6, hk6⟩
    refine ⟨_, rfl, ?_⟩
    have HR6 := Aside0.mk hR6
    have HGE6 : Aside0 (w.heap.size ≤ b) := ⟨Nat.le_trans HB4.out.size hge6⟩
    have HB6 := Aside0.mk hb6
    have HX6 := Aside0.mk (hk6.blk HX4.out (Ne.symm (HI4.out.ne_blk HX4.out (by decide))) (by simp))
    clear hR6 hge6 hI6 hb6 hk6
    refine hK.out _ _ ⟨(blk_cell HX6.out 0).trans rfl, (blk_cell HX6.out 1).trans rfl, (blk_cell HX6.out 2).trans rfl, (blk_cell HX6.out 3).trans rfl⟩ (fun hHeld => ?_)
    clear hK K
    refine norm_ (a' := ?_) ?_ ?_
    rotate_left
    · show Act.put _ (some 17) _ = _
      simp only [Act.put, List.setIfInBounds_toArray, List.set_cons_zero, List.set_cons_succ, i64_w, i32_w]
      rfl
    refine pure_ (i := 12) (N := some 5) (v := ?_) (a' := ?_) #[true, true, true, true, true, true, true, true, true, true, true, true, true] rfl rfl (by kernel_rfl) (fun _ _ _ h => h) (Or.inl ⟨by rfl, ?_⟩) ?_ ?_
    rotate_left
    · intro w'
      go_simp
      with_reducible rfl
    rotate_left
    · simp only [Act.put, List.setIfInBounds_toArray, List.set_cons_zero, List.set_cons_succ, i64_w, i32_w]
      rfl
    refine done_ (by kernel_rfl) ?_
    
    go_wp2_with fail
    refine (outer_joins.sorted b Q lf w6 HR6.out (by have h1 := HMN.out; have h2 := HLL.out; omega) (by have h1 := HN.out; have h2 := HLL.out; omega)).mono ?_
    rintro e w7 ⟨rfl, hR7, hg7⟩
    have HR7 := Aside0.mk hR7
    have HG7 := Aside0.mk hg7
    clear hR7 hg7
    go_wp2_with fail
    go_ret
    have hls : (outer_joins.sort (lf.take Q)).length = Q := by rw [outer_joins.sort, List.length_mergeSort, List.length_take]; have h1 := HMN.out; have h2 := HLL.out; omega
    refine ⟨_, rfl, ?_, HB6.out.grown HG7.out HB6.out.size (fun k hk => by have h1 := HGE6.out; have h2 : b = k := (by simpa using hk); rw [← h2]; exact h1)⟩
    have hv := outer_joins.view b Q w.heap.size (outer_joins.sort (lf.take Q) ++ lf.drop Q) w7 HR7.out (by rw [List.length_append, hls]; omega) (by rw [List.length_append, hls, List.length_drop]; have h1 := HN.out; have h2 := HLL.out; have h3 := HMN.out; omega) HGE6.out
    have hr := HRES.out
    have htk : (outer_joins.sort (lf.take Q) ++ lf.drop Q).take Q = outer_joins.sort (lf.take Q) := by
      rw [List.take_append_of_le_length (by omega), List.take_of_length_le (by omega)]
    rw [htk, hr] at hv
    exact hv
end Go.Proofs.YtghhmnjkgnoogaaGreat.POuterWholes
