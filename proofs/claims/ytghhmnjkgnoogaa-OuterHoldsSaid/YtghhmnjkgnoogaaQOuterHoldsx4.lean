-- Written by this session's own program (wip/tools/mkprint.py) over the kit's printer, with overrides.
import Derived.Test.YtghhmnjkgnoogaaTOuterHoldsa
import Derived.Test.YtghhmnjkgnoogaaQOuterHoldsx0
import Derived.Test.YtghhmnjkgnoogaaQOuterHoldsx1
import Derived.Test.YtghhmnjkgnoogaaQOuterHoldsx3
namespace Go.Proofs.Ytghhmnjkgnoogaa.POuterHolds
open Go.RowKit Go.Mine Go.Proofs.YtghhmnjkgnoogaaW.PrintWords Go.Proofs.YtghhmnjkgnoogaaW.PrintLast Go.Proofs.YtghhmnjkgnoogaaW.PrintMore
attribute [local go_sem] max2_int min2_int max_two min_two max_three min_three max_four min_four   -- for this text's walks alone
set_option linter.unusedVariables false
set_option linter.unusedSimpArgs false
/-! ### prng_Gen_Pick: function 36 -/
/-- Two places exchanged. -/
def prng_Gen_Pick.swap (l : List Int) (i j : Nat) : List Int := (l.set i (l.getD j 0)).set j (l.getD i 0)
theorem prng_Gen_Pick.swap_length (l : List Int) (i j : Nat) : (prng_Gen_Pick.swap l i j).length = l.length := by simp [prng_Gen_Pick.swap]
def prng_Gen_Pick.go (k n : Nat) : Nat → Nat → List Int → ByteArray → Int → ByteArray → Option (List Int × ByteArray × Int × ByteArray)
  | 0, _, l, s0, s1, s2 => some (l, s0, s1, s2)
  | d + 1, i, l, s0, s1, s2 => (prng_Gen_Below.f k s0 s1 s2 ((n : Int) - (i : Int))).bind fun r => if 0 ≤ r.1 ∧ r.1 < (n : Int) - (i : Int) then prng_Gen_Pick.go k n d (i + 1) (prng_Gen_Pick.swap l i (i + r.1.toNat)) r.2.1 r.2.2.1 r.2.2.2 else none
def prng_Gen_Pick.iota (n : Nat) : List Int := (List.range n).map fun (i : Nat) => (i : Int)
theorem prng_Gen_Pick.iota_length (n : Nat) : (prng_Gen_Pick.iota n).length = n := by simp [prng_Gen_Pick.iota]
def prng_Gen_Pick.part (n t : Nat) : List Int := (prng_Gen_Pick.iota n).take t ++ List.replicate (n - t) 0
theorem prng_Gen_Pick.part_length (n t : Nat) (h : t ≤ n) : (prng_Gen_Pick.part n t).length = n := by
  rw [prng_Gen_Pick.part, List.length_append, List.length_take, prng_Gen_Pick.iota_length, List.length_replicate]
  omega
theorem prng_Gen_Pick.part_zero (n : Nat) : prng_Gen_Pick.part n 0 = List.replicate n 0 := by simp [prng_Gen_Pick.part]
theorem prng_Gen_Pick.part_all (n : Nat) : prng_Gen_Pick.part n n = prng_Gen_Pick.iota n := by
  rw [prng_Gen_Pick.part, List.take_of_length_le (by rw [prng_Gen_Pick.iota_length]; omega)]
  simp
theorem prng_Gen_Pick.part_set (n t : Nat) (h : t < n) : (prng_Gen_Pick.part n t).set t (t : Int) = prng_Gen_Pick.part n (t + 1) := by
  have h1 : ((prng_Gen_Pick.iota n).take t).length = t := by rw [List.length_take, prng_Gen_Pick.iota_length]; omega
  have h2 : List.replicate (n - t) (0 : Int) = 0 :: List.replicate (n - (t + 1)) 0 := by
    rw [show n - t = (n - (t + 1)) + 1 by omega]; rfl
  have h3 : t < (prng_Gen_Pick.iota n).length := by rw [prng_Gen_Pick.iota_length]; exact h
  have h4 : (prng_Gen_Pick.iota n)[t] = (t : Int) := by simp [prng_Gen_Pick.iota]
  rw [prng_Gen_Pick.part, prng_Gen_Pick.part, List.set_append_right _ _ (by omega), h1, Nat.sub_self, h2, List.set_cons_zero, List.take_succ_eq_append_getElem h3, h4, List.append_assoc]
  rfl
theorem prng_Gen_Pick.go_length (k n : Nat) (d : Nat) : ∀ (i : Nat) (l : List Int) (s0 : ByteArray) (s1 : Int) (s2 : ByteArray) (r : List Int × ByteArray × Int × ByteArray), prng_Gen_Pick.go k n d i l s0 s1 s2 = some r → r.1.length = l.length := by
  induction d with
  | zero => intro i l s0 s1 s2 r h; rw [prng_Gen_Pick.go] at h; cases h; rfl
  | succ d ih =>
    intro i l s0 s1 s2 r h
    rw [prng_Gen_Pick.go] at h
    obtain ⟨b, _, h⟩ := Option.bind_eq_some_iff.mp h
    split at h
    · rw [ih _ _ _ _ _ _ h, prng_Gen_Pick.swap_length]
    · cases h
theorem prng_Gen_Pick.go_mono (k n : Nat) (d : Nat) : ∀ (i : Nat) (l : List Int) (s0 : ByteArray) (s1 : Int) (s2 : ByteArray), LeO (prng_Gen_Pick.go k n d i l s0 s1 s2) (prng_Gen_Pick.go (k + 1) n d i l s0 s1 s2) := by
  induction d with
  | zero => intro i l s0 s1 s2; exact LeO.refl _
  | succ d ih =>
    intro i l s0 s1 s2
    rw [prng_Gen_Pick.go, prng_Gen_Pick.go]
    exact LeO.bind (prng_Gen_Below.mono _ _ _ _ _) (fun r => LeO.ite (ih _ _ _ _ _) (LeO.refl _))
def prng_Gen_Pick.Row (w : World) (g : Nat) (xs : List Int) : Prop := w.heap[g]? = some (.cells (xs.map (Value.int .i64)).toArray 3 (0, 0))
section
variable {w w1 : World} {g : Nat} {xs : List Int}
theorem prng_Gen_Pick.Row.lt (h : prng_Gen_Pick.Row w g xs) : g < w.heap.size := (Array.getElem?_eq_some_iff.1 h).1
theorem prng_Gen_Pick.Row.cell (h : prng_Gen_Pick.Row w g xs) (j : Nat) (hj : j < xs.length) : w.cell? ⟨g, j, none⟩ = some (.int .i64 (xs.getD j 0)) := by
  unfold prng_Gen_Pick.Row at h
  simp [World.cell?, h, hj, List.getD_eq_getElem?_getD]
theorem prng_Gen_Pick.Row.frozen (h : prng_Gen_Pick.Row w g xs) (j : Nat) : w.frozen? ⟨g, j, none⟩ = false := by
  unfold prng_Gen_Pick.Row at h
  simp [World.frozen?, h]
theorem prng_Gen_Pick.Row.same (h : prng_Gen_Pick.Row w g xs) (hs : w1.heap[g]? = w.heap[g]?) : prng_Gen_Pick.Row w1 g xs := hs.trans h
theorem prng_Gen_Pick.Row.set (h : prng_Gen_Pick.Row w g xs) (j : Nat) (v : Int) : prng_Gen_Pick.Row (w.setCell ⟨g, j, none⟩ (.int .i64 v)) g (xs.set j v) := by
  unfold prng_Gen_Pick.Row at h ⊢
  simp only [World.setCell]
  rw [Array.getElem?_modify]
  simp [h]
end
theorem prng_Gen_Pick.keep_new {w w1 : World} {g b : Nat} (h : KeepBut w w1 g none) (hb : w.heap.size = b) (j : Nat) (u : Value) : KeepBut w (w1.setCell ⟨b, j, none⟩ u) g none :=
  ⟨by have := h.1; simpa [World.setCell] using this, fun i hi h1 h2 => (Below.heap_setCell _ _ _ _ (by show i ≠ b; omega)).trans (h.2 i hi h1 h2)⟩
theorem prng_Gen_Pick.made (w : World) (n : Nat) : prng_Gen_Pick.Row (w.alloc (.cells (madeCells #[.int .i64 0] n) 3)) w.heap.size (List.replicate n 0) := by
  unfold prng_Gen_Pick.Row
  rw [heap_alloc_new]
  congr 2
  apply Array.ext'
  apply List.ext_getElem
  · simp [madeCells]
  · intro i h1 h2
    simp [madeCells, Nat.mod_one]
set_option maxHeartbeats 4000000 in
set_option maxRecDepth 100000 in
theorem prng_Gen_Pick.gives (k n m g : Nat) (s0 : ByteArray) (s1 : Int) (s2 : ByteArray) (hn : n ≤ 4096) (hm : m ≤ n) (lf : List Int) (q0 : ByteArray) (q1 : Int) (q2 : ByteArray) (hgo : prng_Gen_Pick.go k n m 0 (prng_Gen_Pick.iota n) s0 s1 s2 = some (lf, q0, q1, q2))
    (w0 w : World) (hI : IsS74 w0 w g s0 s1 s2) (hB : Below w0.heap.size w0 w) :
    Calls Try.prog 36 #[.pointer (some ⟨g, 0, none⟩), .int .i64 n, .int .i64 m] w fun e w' => ∃ b : Nat, e = .returned (.slice (some ⟨b, 0, none⟩) m m) ∧ prng_Gen_Pick.Row w' b lf ∧ w.heap.size ≤ b ∧ IsS74 w0 w' g q0 q1 q2 ∧ Below w0.heap.size w0 w' ∧ KeepBut w w' g none := by
  have HGO := Aside0.mk hgo
  have HI := Aside0.mk hI
  have HB := Aside0.mk hB
  clear hgo hI hB
  have y1 : ¬ (n : Int) < 0 := by omega
  have y2 : ¬ (4096 : Int) < (n : Int) := by omega
  have y3 : ¬ (m : Int) < 0 := by omega
  have y4 : ¬ (n : Int) < (m : Int) := by omega
  have hmk := print_make_int (P := Try.prog) 30 3 (.int .i64 0) 8 Try.underlying30 info3 rfl (by decide) (n : Int) (by omega) (by rw [Int.toNat_natCast]; omega) w
  rw [Int.toNat_natCast] at hmk
  have HROW : Aside0 (prng_Gen_Pick.Row (w.alloc (.cells (madeCells #[.int .i64 0] n) 3)) w.heap.size (prng_Gen_Pick.part n 0)) := ⟨by rw [prng_Gen_Pick.part_zero]; exact prng_Gen_Pick.made w n⟩
  have HB1 : Aside0 (Below w0.heap.size w0 (w.alloc (.cells (madeCells #[.int .i64 0] n) 3))) := ⟨below_alloc HB.out _⟩
  have HI1 : Aside0 (IsS74 w0 (w.alloc (.cells (madeCells #[.int .i64 0] n) 3)) g s0 s1 s2) := ⟨HI.out.alloc _⟩
  have HK1 : Aside0 (KeepBut w (w.alloc (.cells (madeCells #[.int .i64 0] n) 3)) g none) := ⟨keep_alloc (KeepBut.refl w g none) _⟩
  have HNE : Aside0 (g ≠ w.heap.size) := ⟨Nat.ne_of_lt HI.out.lt⟩
  have HGE : Aside0 (w0.heap.size ≤ w.heap.size) := ⟨HB.out.size⟩
  go_enter Try.func36, Try.ntmps36
  go_wp2_with fail
  clear hmk y1 y2 y3 y4 HI HB
  obtain ⟨bq, hbq⟩ : ∃ b, w.heap.size = b := ⟨_, rfl⟩
  rw [hbq] at HROW HNE HGE
  have HBQ := Aside0.mk hbq
  rw [hbq]
  clear hbq
  generalize w.alloc (.cells (madeCells #[.int .i64 0] n) 3) = wa at *
  go_loopw [8, 33] (fun _ v33 wr => ∃ t : Nat, t ≤ n ∧ v33 = .int .i64 t ∧ Aside0 (prng_Gen_Pick.Row wr bq (prng_Gen_Pick.part n t)) ∧ Aside0 (Below w0.heap.size w0 wr) ∧ Aside0 (IsS74 w0 wr g s0 s1 s2) ∧ Aside0 (KeepBut w wr g none)) (fun _ v33 _ => n - (intOf v33).toNat)
  case atStart => exact ⟨0, Nat.zero_le _, rfl, HROW, HB1, HI1, HK1⟩
  case round =>
    obtain ⟨t, ht, rfl, HR, HBr, HIr, HKr⟩ := hrel
    clear HROW HB1 HI1 HK1
    by_cases hlt : t < n
    · have hz : (t : Int) < (n : Int) := by omega
      have c1 := HR.out.cell t (by rw [prng_Gen_Pick.part_length n t ht]; exact hlt)
      have f1 := HR.out.frozen t
      go_wp2_with fail
      go_roundw
      case rel => exact ⟨t + 1, by omega, by go_num, ⟨by rw [← prng_Gen_Pick.part_set n t hlt]; exact HR.out.set t _⟩, ⟨below_set HBr.out HGE.out⟩, ⟨HIr.out.far HNE.out _⟩, ⟨prng_Gen_Pick.keep_new HKr.out HBQ.out _ _⟩⟩
      case measure => simp [intOf]; omega
    · have hz : ¬ (t : Int) < (n : Int) := by omega
      obtain rfl : t = n := by omega
      have HR2 := HR.out
      rw [prng_Gen_Pick.part_all] at HR2
      have HRA := Aside0.mk HR2
      clear HR HR2 hlt
      go_wp2_with fail
      go_loopg [9, 10, 42] m (fun gg v9 v10 v42 wr => ∃ (i : Nat) (l : List Int) (s0 : ByteArray) (s1 : Int) (s2 : ByteArray), v42 = .int .i64 i ∧ Aside0 (i + gg = m) ∧ Aside0 (l.length = t) ∧ Aside0 (prng_Gen_Pick.go k t gg i l s0 s1 s2 = some (lf, q0, q1, q2)) ∧ Aside0 (prng_Gen_Pick.Row wr bq l) ∧ Aside0 (Below w0.heap.size w0 wr) ∧ Aside0 (IsS74 w0 wr g s0 s1 s2) ∧ Aside0 (KeepBut w wr g none))
      case atStart => exact ⟨0, prng_Gen_Pick.iota t, s0, s1, s2, rfl, ⟨by omega⟩, ⟨prng_Gen_Pick.iota_length t⟩, HGO, HRA, HBr, HIr, HKr⟩
      case round =>
        obtain ⟨i, l, s0, s1, s2, rfl, HIM, HLEN, HG, HR, HB, HI, HK⟩ := hrel
        clear HGO HRA HBr HIr HKr
        cases gk with
        | zero =>
          have h9 := HG.out
          rw [prng_Gen_Pick.go] at h9
          have h9 := Option.some.inj h9
          simp only [Prod.mk.injEq] at h9
          obtain ⟨rfl, rfl, rfl, rfl⟩ := h9
          obtain rfl : i = m := by have := HIM.out; omega
          have hin : (i : Int) ≤ (t : Int) := by omega
          have hi0 : (0 : Int) ≤ (i : Int) := by omega
          have hii : (i : Int) ≤ (i : Int) := by omega
          clear HG HIM HLEN
          go_wp2_with fail
          go_ret
          exact ⟨bq, rfl, HR.out, by rw [HBQ.out]; exact Nat.le_refl _, HI.out, HB.out, HK.out⟩
        | succ d =>
          have hi : i < m := by have := HIM.out; omega
          have hiz : (i : Int) < (m : Int) := by omega
          have h9 := HG.out
          rw [prng_Gen_Pick.go] at h9
          obtain ⟨⟨x, p0, p1, p2⟩, hbel, h9⟩ := Option.bind_eq_some_iff.mp h9
          split at h9
          rotate_left
          · cases h9
          rename_i hx
          simp only at hx h9
          obtain ⟨y, rfl⟩ : ∃ y : Nat, x = y := ⟨x.toNat, by omega⟩
          rw [Int.toNat_natCast] at h9
          obtain ⟨j, hj⟩ : ∃ j, i + y = j := ⟨_, rfl⟩
          rw [hj] at h9
          have hjz : (i : Int) + (y : Int) = (j : Int) := by omega
          have hjt : j < t := by omega
          have hjtz : (j : Int) < (t : Int) := by omega
          have hitz : (i : Int) < (t : Int) := by omega
          have hj0 : (0 : Int) ≤ (j : Int) := by omega
          have hi0 : (0 : Int) ≤ (i : Int) := by omega
          have HBEL := Aside0.mk hbel
          have HNX := Aside0.mk h9
          have HJT := Aside0.mk hjt
          clear hbel h9 HG hj hjt hx
          go_wp2_with fail
          refine (prng_Gen_Below.calls k g s0 s1 s2 _ y p0 p1 p2 w0 _ HI.out HB.out HBEL.out).mono ?_
          rintro e w5 ⟨rfl, hI5, hb5, hk5⟩
          have HI5 := Aside0.mk hI5
          have HB5 := Aside0.mk hb5
          have HR5 : Aside0 (prng_Gen_Pick.Row w5 bq l) := ⟨HR.out.same (hk5.2 bq HR.out.lt (Ne.symm HNE.out) (by simp))⟩
          have HK5 : Aside0 (KeepBut w w5 g none) := ⟨HK.out.trans hk5 (.inl rfl)⟩
          clear hI5 hb5 hk5 HI HB HR HK
          have ci := HR5.out.cell i (by have := HLEN.out; omega)
          have cj := HR5.out.cell j (by have := HLEN.out; have := HJT.out; omega)
          have fi := HR5.out.frozen i
          have fj := HR5.out.frozen j
          generalize hli : l.getD i 0 = li at ci
          generalize hlj : l.getD j 0 = lj at cj
          have HLI := Aside0.mk hli
          have HLJ := Aside0.mk hlj
          clear hli hlj
          by_cases hij : i = j
          · subst hij
            have elj : lj = li := by rw [← HLI.out, ← HLJ.out]
            subst elj
            go_wp2_with fail
            go_region
            all_goals
              go_wp2_with fail
              go_roundg d
              case measure => exact Nat.lt_succ_self _
              case rel =>
                refine ⟨i + 1, prng_Gen_Pick.swap l i i, p0, p1, p2, by go_num, ⟨by have := HIM.out; omega⟩, ⟨by rw [prng_Gen_Pick.swap_length]; exact HLEN.out⟩, HNX, ⟨?_⟩, ⟨below_drew (below_set (below_set HB5.out HGE.out) HGE.out)⟩, ⟨((HI5.out.far HNE.out _).far HNE.out _).drew⟩, ⟨keep_drew (prng_Gen_Pick.keep_new (prng_Gen_Pick.keep_new HK5.out HBQ.out _ _) HBQ.out _ _)⟩⟩
                unfold prng_Gen_Pick.swap
                rw [HLI.out]
                exact (HR5.out.set i _).set i _
          · have hji : j ≠ i := fun e => hij e.symm
            go_wp2_with fail
            go_region
            all_goals
              go_wp2_with fail
              go_roundg d
              case measure => exact Nat.lt_succ_self _
              case rel =>
                refine ⟨i + 1, prng_Gen_Pick.swap l i j, p0, p1, p2, by go_num, ⟨by have := HIM.out; omega⟩, ⟨by rw [prng_Gen_Pick.swap_length]; exact HLEN.out⟩, HNX, ⟨?_⟩, ⟨below_drew (below_set (below_set HB5.out HGE.out) HGE.out)⟩, ⟨((HI5.out.far HNE.out _).far HNE.out _).drew⟩, ⟨keep_drew (prng_Gen_Pick.keep_new (prng_Gen_Pick.keep_new HK5.out HBQ.out _ _) HBQ.out _ _)⟩⟩
                unfold prng_Gen_Pick.swap
                rw [HLI.out, HLJ.out]
                first
                | exact (HR5.out.set i _).set j _
                | (rw [List.set_comm _ _ hij]; exact (HR5.out.set j _).set i _)
/-! ### outer_joins: function 20 -/
open Go.Shelf in
def outer_joins.lays_ren : Go.Shelf.Ren := ⟨fun | 189 => 37 | 125 => 53 | 257 => 52 | 128 => 76 | 129 => 77 | 294 => 67 | 295 => 68 | 296 => 69 | 297 => 70 | 298 => 71 | 299 => 72 | 216 => 73 | 300 => 74 | 301 => 75 | 328 => 85 | 329 => 86 | 330 => 87 | 331 => 88 | 332 => 89 | 215 => 90 | 343 => 94 | n => n, fun | 28 => 30 | 3 => 3 | 46 => 83 | 0 => 0 | 51 => 102 | 53 => 115 | 4 => 4 | 183 => 106 | 182 => 105 | 131 => 111 | 5 => 5 | 9 => 9 | 218 => 122 | 222 => 126 | 228 => 132 | 229 => 133 | n => n, fun | n => n⟩
open Go.Shelf in
theorem outer_joins.lays : Go.Proofs.Lays.n189 Try.prog outer_joins.lays_ren := {
  mixed := by kernel_rfl
  f125 := Try.func53.trans (congrArg some (by kernel_rfl))
  f128 := Try.func76.trans (congrArg some (by kernel_rfl))
  f129 := Try.func77.trans (congrArg some (by kernel_rfl))
  f189 := Try.func37.trans (congrArg some (by kernel_rfl))
  f215 := Try.func90.trans (congrArg some (by kernel_rfl))
  f216 := Try.func73.trans (congrArg some (by kernel_rfl))
  f257 := Try.func52.trans (congrArg some (by kernel_rfl))
  f294 := Try.func67.trans (congrArg some (by kernel_rfl))
  f295 := Try.func68.trans (congrArg some (by kernel_rfl))
  f296 := Try.func69.trans (congrArg some (by kernel_rfl))
  f297 := Try.func70.trans (congrArg some (by kernel_rfl))
  f298 := Try.func71.trans (congrArg some (by kernel_rfl))
  f299 := Try.func72.trans (congrArg some (by kernel_rfl))
  f300 := Try.func74.trans (congrArg some (by kernel_rfl))
  f301 := Try.func75.trans (congrArg some (by kernel_rfl))
  f328 := Try.func85.trans (congrArg some (by kernel_rfl))
  f329 := Try.func86.trans (congrArg some (by kernel_rfl))
  f330 := Try.func87.trans (congrArg some (by kernel_rfl))
  f331 := Try.func88.trans (congrArg some (by kernel_rfl))
  f332 := Try.func89.trans (congrArg some (by kernel_rfl))
  f343 := Try.func94.trans (congrArg some (by kernel_rfl))
  t0 := Try.underlying0
  a0 := Try.isAgg0
  z0 := Try.sizeOf0
  v0 := Try.zeroValue0
  t3 := Try.underlying3
  a3 := Try.isAgg3
  z3 := Try.sizeOf3
  v3 := Try.zeroValue3
  t4 := Try.underlying4
  a4 := Try.isAgg4
  z4 := Try.sizeOf4
  v4 := Try.zeroValue4
  t5 := Try.underlying5
  a5 := Try.isAgg5
  z5 := Try.sizeOf5
  v5 := Try.zeroValue5
  t9 := Try.underlying9
  a9 := Try.isAgg9
  z9 := Try.sizeOf9
  v9 := Try.zeroValue9
  t28 := Try.underlying30
  a28 := Try.isAgg30
  z28 := Try.sizeOf30
  v28 := Try.zeroValue30
  t46 := Try.underlying83
  a46 := Try.isAgg83
  z46 := Try.sizeOf83
  v46 := Try.zeroValue83
  t51 := Try.underlying102
  a51 := Try.isAgg102
  z51 := Try.sizeOf102
  v51 := Try.zeroValue102
  t53 := Try.underlying115
  a53 := Try.isAgg115
  z53 := Try.sizeOf115
  v53 := Try.zeroValue115
  t131 := Try.underlying111
  a131 := Try.isAgg111
  z131 := Try.sizeOf111
  v131 := Try.zeroValue111
  t182 := Try.underlying105
  a182 := Try.isAgg105
  z182 := Try.sizeOf105
  v182 := Try.zeroValue105
  t183 := Try.underlying106
  a183 := Try.isAgg106
  z183 := Try.sizeOf106
  v183 := Try.zeroValue106
  t218 := Try.underlying122
  a218 := Try.isAgg122
  z218 := Try.sizeOf122
  v218 := Try.zeroValue122
  t222 := Try.underlying126
  a222 := Try.isAgg126
  z222 := Try.sizeOf126
  v222 := Try.zeroValue126
  t228 := Try.underlying132
  a228 := Try.isAgg132
  z228 := Try.sizeOf132
  v228 := Try.zeroValue132
  t229 := Try.underlying133
  a229 := Try.isAgg133
  z229 := Try.sizeOf133
  v229 := Try.zeroValue133 }
def outer_joins.sort (l : List Int) : List Int := l.mergeSort fun x y => decide (x ≤ y)
def outer_joins.f (k : Nat) (a0_0 a0_1 a0_2 a0_3 : Int) (a1 : Int) : Option (List Int) :=
  if 0 ≤ a0_2 ∧ a0_2 ≤ 4096 ∧ 0 ≤ a0_3 ∧ a0_3 ≤ 4096 then (outer_seed.f k a0_0 a0_1 a0_2 a0_3 a1).bind fun s => if s.size ≤ 64 then
    (prng_Gen_Pick.go k a0_2.toNat (min a0_3.toNat a0_2.toNat) 0 (prng_Gen_Pick.iota a0_2.toNat) s 0 ⟨#[]⟩).bind fun r => some (outer_joins.sort (r.1.take (min a0_3.toNat a0_2.toNat))) else none else none
theorem outer_joins.mono : ∀ a0_0 a0_1 a0_2 a0_3 a1 k, LeO (outer_joins.f k a0_0 a0_1 a0_2 a0_3 a1) (outer_joins.f (k + 1) a0_0 a0_1 a0_2 a0_3 a1) := by
  intro a0_0 a0_1 a0_2 a0_3 a1 k
  unfold outer_joins.f
  exact LeO.ite (LeO.bind (outer_seed.mono _ _ _ _ _ _) (fun _ => LeO.ite (LeO.bind (prng_Gen_Pick.go_mono _ _ _ _ _ _ _ _) (fun _ => LeO.refl _)) (LeO.refl _))) (LeO.refl _)
theorem outer_joins.sorted (b M : Nat) (lf : List Int) (w : World) (hR : prng_Gen_Pick.Row w b lf) (hM : M ≤ lf.length) (hl : lf.length ≤ 4096) :
    Calls Try.prog 37 #[.slice (some ⟨b, 0, none⟩) M M] w fun e w' => e = .returned (.tuple #[]) ∧ prng_Gen_Pick.Row w' b (outer_joins.sort (lf.take M) ++ lf.drop M) ∧ w.grownBy w' (some b) := by
  have hlen : (lf.take M).length = M := by rw [List.length_take]; omega
  have hH : Go.Sort.Holds (Value.int .i64) w b 0 (lf.take M).toArray := holds_of_blockI hR (by
    rw [hlen, ← List.map_take])
  have h := Go.Proofs.Any.slices_Sort_int outer_joins.lays b 0 M (lf.take M) w hH hR.lt (by omega)
  rw [hlen] at h
  refine h.mono ?_
  rintro e w' ⟨rfl, n, os, rfl⟩
  have hls : (outer_joins.sort (lf.take M)).length = M := by rw [outer_joins.sort, List.length_mergeSort, hlen]
  refine ⟨rfl, ?_, grownBy_sortedI _⟩
  have h2 := heap_sortedI (n := n) (os := os) (outer_joins.sort (lf.take M)).toArray hR
  unfold prng_Gen_Pick.Row
  refine h2.trans ?_
  congr 2
  apply Array.ext'
  apply List.ext_getElem
  · simp [Go.Sort.putCells, hls]
    omega
  · intro i h1 h2
    have h3 : i < lf.length := by simpa [Go.Sort.putCells] using h1
    simp only [Go.Sort.putCells, Array.getElem_toList, Array.getElem_mapIdx, List.getElem_toArray, List.getElem_map, List.size_toArray, Nat.zero_le, true_and, Nat.zero_add, Nat.sub_zero, hls]
    by_cases hi : i < M
    · rw [if_pos hi, List.getElem_append_left (by rw [hls]; exact hi)]
      simp [hls, hi]
    · rw [if_neg hi, List.getElem_append_right (by rw [hls]; omega), List.getElem_drop]
      congr 2
      rw [hls]
      omega
theorem outer_joins.view (b M B : Nat) (l : List Int) (w : World) (hR : prng_Gen_Pick.Row w b l) (hM : M ≤ l.length) (hl : l.length ≤ 4096) (hB : B ≤ b) : Kd.QC (Kd.int .i64) 3 w B (fun _ => True) (.slice (some ⟨b, 0, none⟩) M M) (l.take M) := by
  have ho : w.ownsRow B 3 1 (.slice (some ⟨b, 0, none⟩) l.length l.length) l.length (nums .i64 l) :=
    ⟨by simp [nums], .inr ⟨b, l.length, _, rfl, hB, hR, Nat.le_refl _, by simp only [maxLen]; omega, by simp, by simp [nums, List.take_of_length_le]⟩⟩
  exact Kd.QC_cut (Go.Proofs.YtghhmnjkgnoogaaW.PrintWords.Kd.Q_of_R (Go.Proofs.YtghhmnjkgnoogaaW.PrintWords.Kd.R_of_own (enc := Value.int .i64) (h1 := fun _ => rfl) (ok := fun _ => True) ho (fun _ _ => trivial))) hM (Nat.le_refl _)
set_option maxHeartbeats 4000000 in
set_option maxRecDepth 100000 in
theorem outer_joins.calls (k : Nat) (a0_0 a0_1 a0_2 a0_3 : Int) (a1 : Int) (r : List Int) (w : World) (h : outer_joins.f k a0_0 a0_1 a0_2 a0_3 a1 = some r) :
    Calls Try.prog 20 #[.agg #[.int .i64 a0_0, .int .i64 a0_1, .int .i64 a0_2, .int .i64 a0_3], .int .i64 a1] w fun e w' => ∃ v0_ : Value, e = .returned v0_ ∧ Kd.QC (Kd.int .i64) 3 w' w.heap.size (fun _ => True) v0_ r ∧ Below w.heap.size w w' := by
  unfold outer_joins.f at h
  split at h
  rotate_left
  · cases h
  rename_i hc
  obtain ⟨h1, h2, h3, h4⟩ := hc
  obtain ⟨N, rfl⟩ : ∃ n : Nat, a0_2 = n := ⟨a0_2.toNat, by omega⟩
  obtain ⟨Q, rfl⟩ : ∃ n : Nat, a0_3 = n := ⟨a0_3.toNat, by omega⟩
  rw [Int.toNat_natCast, Int.toNat_natCast] at h
  obtain ⟨s, hs, h⟩ := Option.bind_eq_some_iff.mp h
  split at h
  rotate_left
  · cases h
  rename_i hsz
  obtain ⟨⟨lf, q0, q1, q2⟩, hgo, h⟩ := Option.bind_eq_some_iff.mp h
  have h := Option.some.inj h
  simp only at h
  obtain ⟨M, hM⟩ : ∃ M, min Q N = M := ⟨_, rfl⟩
  rw [hM] at h hgo
  have hMN : M ≤ N := by omega
  have hll : lf.length = N := by rw [prng_Gen_Pick.go_length k N M _ _ _ _ _ _ hgo, prng_Gen_Pick.iota_length]
  have HRES := Aside0.mk h
  have HS := Aside0.mk hs
  have HSZ := Aside0.mk hsz
  have HGO := Aside0.mk hgo
  have HLL := Aside0.mk hll
  have HMN := Aside0.mk hMN
  have HN : Aside0 (N ≤ 4096) := ⟨by omega⟩
  have HNEW : Aside0 (prng_New.f s = some (s, 0, ⟨#[]⟩)) := ⟨by unfold prng_New.f; rw [if_pos hsz]⟩
  have hbx : (w.alloc (.cells #[.int .i64 a0_0, .int .i64 a0_1, .int .i64 N, .int .i64 Q] 23)).heap[w.heap.size]? = some (.cells #[.int .i64 a0_0, .int .i64 a0_1, .int .i64 N, .int .i64 Q] 23 (0, 0)) := heap_alloc_new _ _
  have HBX := Aside0.mk hbx
  have HB := Aside0.mk (below_alloc (Below.refl w.heap.size w) (.cells #[.int .i64 a0_0, .int .i64 a0_1, .int .i64 N, .int .i64 Q] 23))
  clear h hs hsz hgo hll hMN h1 h2 h3 h4 hbx
  by_cases hQN : N < Q
  all_goals
    first
    | (have hq : (N : Int) < (Q : Int) := by omega
       obtain rfl : N = M := by omega)
    | (have hq : ¬ (N : Int) < (Q : Int) := by omega
       obtain rfl : Q = M := by omega)
    clear hM
  all_goals
    obtain ⟨gb, hgb⟩ : ∃ g, w.heap.size = g := ⟨_, rfl⟩
    rw [hgb] at HBX
    have HGB := Aside0.mk hgb
    have c0 : (w.alloc (.cells #[.int .i64 a0_0, .int .i64 a0_1, .int .i64 N, .int .i64 Q] 23)).cell? ⟨gb, 0, none⟩ = some (.int .i64 a0_0) := (blk_cell HBX.out 0).trans rfl
    have c1 : (w.alloc (.cells #[.int .i64 a0_0, .int .i64 a0_1, .int .i64 N, .int .i64 Q] 23)).cell? ⟨gb, 1, none⟩ = some (.int .i64 a0_1) := (blk_cell HBX.out 1).trans rfl
    have c2 : (w.alloc (.cells #[.int .i64 a0_0, .int .i64 a0_1, .int .i64 N, .int .i64 Q] 23)).cell? ⟨gb, 2, none⟩ = some (.int .i64 N) := (blk_cell HBX.out 2).trans rfl
    have c3 : (w.alloc (.cells #[.int .i64 a0_0, .int .i64 a0_1, .int .i64 N, .int .i64 Q] 23)).cell? ⟨gb, 3, none⟩ = some (.int .i64 Q) := (blk_cell HBX.out 3).trans rfl
    clear hgb
    go_enter Try.func20, Try.ntmps20
    go_wp2_with fail
    rw [HGB.out]
    generalize w.alloc (.cells #[.int .i64 a0_0, .int .i64 a0_1, .int .i64 N, .int .i64 Q] 23) = wa at *
  · refine start_ (n := 13) (S := fun w' => w'.cell? ⟨gb, 0, none⟩ = some (.int .i64 a0_0) ∧ w'.cell? ⟨gb, 1, none⟩ = some (.int .i64 a0_1) ∧ w'.cell? ⟨gb, 2, none⟩ = some (.int .i64 N) ∧ w'.cell? ⟨gb, 3, none⟩ = some (.int .i64 Q)) (ds := []) #[false, false, false, false, false, false, false, false, false, false, false, false, false] (by kernel_rfl) rfl rfl ⟨c0, c1, c2, c3⟩ (fun hHeld => ?_)
    refine pure_ (i := 1) (N := some 7) (v := ?_) (a' := ?_) #[false, true, false, false, false, false, false, false, false, false, false, false, false] rfl rfl (by kernel_rfl) (fun _ _ _ h => h) (Or.inl ⟨by rfl, ?_⟩) ?_ ?_
    rotate_left
    · intro w'
      go_simp
      with_reducible rfl
    rotate_left
    · simp only [Act.put, List.setIfInBounds_toArray, List.set_cons_zero, List.set_cons_succ, i64_w, i32_w]
      rfl
    refine pure_ (i := 4) (N := some 10) (v := ?_) (a' := ?_) #[false, true, false, false, true, false, false, false, false, false, false, false, false] rfl rfl (by kernel_rfl) (fun _ _ _ h => h) (Or.inl ⟨by rfl, ?_⟩) ?_ ?_
    rotate_left
    · intro w'
      go_simp
      with_reducible rfl
    rotate_left
    · simp only [Act.put, List.setIfInBounds_toArray, List.set_cons_zero, List.set_cons_succ, i64_w, i32_w]
      rfl
    refine pure_ (i := 6) (N := some 12) (v := ?_) (a' := ?_) #[false, true, false, false, true, false, true, false, false, false, false, false, false] rfl rfl (by kernel_rfl) (fun _ _ _ h => h) (Or.inl ⟨by rfl, ?_⟩) ?_ ?_
    rotate_left
    · intro w'
      go_simp
      with_reducible rfl
    rotate_left
    · simp only [Act.put, List.setIfInBounds_toArray, List.set_cons_zero, List.set_cons_succ, i64_w, i32_w]
      rfl
    refine pure_ (i := 8) (N := some 14) (v := ?_) (a' := ?_) #[false, true, false, false, true, false, true, false, true, false, false, false, false] rfl rfl (by kernel_rfl) (fun _ _ _ h => h) (Or.inl ⟨by rfl, ?_⟩) ?_ ?_
    rotate_left
    · intro w'
      go_simp
      with_reducible rfl
    rotate_left
    · simp only [Act.put, List.setIfInBounds_toArray, List.set_cons_zero, List.set_cons_succ, i64_w, i32_w]
      rfl
    refine take_ (i := 0) (N := some 6) (v := ?_) (a' := ?_) #[true, true, false, false, true, false, true, false, true, false, false, false, false] rfl rfl (by kernel_rfl) (fun _ _ _ h => h) (Or.inl ⟨by rfl, ?_⟩) hHeld ?_ ?_
    rotate_left
    · rintro w' ⟨s0, s1, s2, s3⟩
      go_simp
      with_reducible rfl
    rotate_left
    · simp only [Act.put, List.setIfInBounds_toArray, List.set_cons_zero, List.set_cons_succ, i64_w, i32_w]
      rfl
    refine take_ (i := 5) (N := some 11) (v := ?_) (a' := ?_) #[true, true, false, false, true, true, true, false, true, false, false, false, false] rfl rfl (by kernel_rfl) (fun _ _ _ h => h) (Or.inl ⟨by rfl, ?_⟩) hHeld ?_ ?_
    rotate_left
    · rintro w' ⟨s0, s1, s2, s3⟩
      go_simp
      with_reducible rfl
    rotate_left
    · simp only [Act.put, List.setIfInBounds_toArray, List.set_cons_zero, List.set_cons_succ, i64_w, i32_w]
      rfl
    refine take_ (i := 7) (N := some 13) (v := ?_) (a' := ?_) #[true, true, false, false, true, true, true, true, true, false, false, false, false] rfl rfl (by kernel_rfl) (fun _ _ _ h => h) (Or.inl ⟨by rfl, ?_⟩) hHeld ?_ ?_
    rotate_left
    · rintro w' ⟨s0, s1, s2, s3⟩
      go_simp
      with_reducible rfl
    rotate_left
    · simp only [Act.put, List.setIfInBounds_toArray, List.set_cons_zero, List.set_cons_succ, i64_w, i32_w]
      rfl
    refine take_ (i := 9) (N := some 15) (v := ?_) (a' := ?_) #[true, true, false, false, true, true, true, true, true, true, false, false, false] rfl rfl (by kernel_rfl) (fun _ _ _ h => h) (Or.inl ⟨by rfl, ?_⟩) hHeld ?_ ?_
    rotate_left
    · rintro w' ⟨s0, s1, s2, s3⟩
      go_simp
      with_reducible rfl
    rotate_left
    · simp only [Act.put, List.setIfInBounds_toArray, List.set_cons_zero, List.set_cons_succ, i64_w, i32_w]
      rfl
    refine pure_ (i := 10) (N := some 16) (v := ?_) (a' := ?_) #[true, true, false, false, true, true, true, true, true, true, true, false, false] rfl rfl (by kernel_rfl) (fun _ _ _ h => h) (Or.inl ⟨by rfl, ?_⟩) ?_ ?_
    rotate_left
    · intro w'
      go_simp
      with_reducible rfl
    rotate_left
    · simp only [Act.put, List.setIfInBounds_toArray, List.set_cons_zero, List.set_cons_succ, i64_w, i32_w]
      rfl
    refine one_ (i := 2) (N := some 8) #[true, true, true, false, true, true, true, true, true, true, true, false, false] rfl rfl (by kernel_rfl) (by decide) (fun K hK => ?_)
    refine goes_ Try.func35 (by kernel_rfl) rfl #[.agg #[.int .i64 a0_0, .int .i64 a0_1, .int .i64 N, .int .i64 Q], .int .i64 a1] (by rfl) rfl rfl (by simp only [List.map_toArray, List.map_cons, List.map_nil]; rfl) ?_
    with_reducible refine (outer_seed.calls k a0_0 a0_1 N Q a1 s _ HS.out).mono ?_
    rintro e w3 ⟨rfl, hb3⟩
    refine ⟨_, rfl, ?_⟩
    have HB3 := Aside0.mk (below_step (below_drew HB.out) hb3)
    have HX3 := Aside0.mk (blk_below (blk_drew HBX.out) hb3)
    clear hb3
    refine hK.out _ _ ⟨(blk_cell HX3.out 0).trans rfl, (blk_cell HX3.out 1).trans rfl, (blk_cell HX3.out 2).trans rfl, (blk_cell HX3.out 3).trans rfl⟩ (fun hHeld => ?_)
    clear hK K
    refine norm_ (a' := ?_) ?_ ?_
    rotate_left
    · show Act.put _ (some 8) _ = _
      simp only [Act.put, List.setIfInBounds_toArray, List.set_cons_zero, List.set_cons_succ, i64_w, i32_w]
      rfl
    refine one_ (i := 3) (N := some 9) #[true, true, true, true, true, true, true, true, true, true, true, false, false] rfl rfl (by kernel_rfl) (by decide) (fun K hK => ?_)
    refine goes_ Try.func34 (by kernel_rfl) rfl #[.string s] (by rfl) rfl rfl (by simp only [List.map_toArray, List.map_cons, List.map_nil]; rfl) ?_
    with_reducible refine (prng_New.calls s s 0 ⟨#[]⟩ w _ HB3.out HNEW.out).mono ?_
    rintro e w4 ⟨g, rfl, hI4, hb4, hb5⟩
    refine ⟨_, rfl, ?_⟩
    have HI4 := Aside0.mk hI4
    have HB4 := Aside0.mk hb4
    have HX4 := Aside0.mk (blk_below HX3.out hb5)
    clear hI4 hb4 hb5
    refine hK.out _ _ ⟨(blk_cell HX4.out 0).trans rfl, (blk_cell HX4.out 1).trans rfl, (blk_cell HX4.out 2).trans rfl, (blk_cell HX4.out 3).trans rfl⟩ (fun hHeld => ?_)
    clear hK K
    refine norm_ (a' := ?_) ?_ ?_
    rotate_left
    · show Act.put _ (some 9) _ = _
      simp only [Act.put, List.setIfInBounds_toArray, List.set_cons_zero, List.set_cons_succ, i64_w, i32_w]
      rfl
    refine one_ (i := 11) (N := some 17) #[true, true, true, true, true, true, true, true, true, true, true, true, false] rfl rfl (by kernel_rfl) (by decide) (fun K hK => ?_)
    refine goes_ Try.func36 (by kernel_rfl) rfl #[.pointer (some ⟨g, 0, none⟩), .int .i64 N, .int .i64 N] (by rfl) rfl rfl (by simp only [List.map_toArray, List.map_cons, List.map_nil]; rfl) ?_
    with_reducible refine (prng_Gen_Pick.gives k N N g s 0 ⟨#[]⟩ HN.out HMN.out lf q0 q1 q2 HGO.out w _ HI4.out HB4.out).mono ?_
    rintro e w6 ⟨b, rfl, hR6, hge6, hI6, hb6, hk6⟩
    refine ⟨_, rfl, ?_⟩
    have HR6 := Aside0.mk hR6
    have HGE6 : Aside0 (w.heap.size ≤ b) := ⟨Nat.le_trans HB4.out.size hge6⟩
    have HB6 := Aside0.mk hb6
    have HX6 := Aside0.mk (hk6.blk HX4.out (Ne.symm (HI4.out.ne_blk HX4.out (by decide))) (by simp))
    clear hR6 hge6 hI6 hb6 hk6
    refine hK.out _ _ ⟨(blk_cell HX6.out 0).trans rfl, (blk_cell HX6.out 1).trans rfl, (blk_cell HX6.out 2).trans rfl, (blk_cell HX6.out 3).trans rfl⟩ (fun hHeld => ?_)
    clear hK K
    refine norm_ (a' := ?_) ?_ ?_
    rotate_left
    · show Act.put _ (some 17) _ = _
      simp only [Act.put, List.setIfInBounds_toArray, List.set_cons_zero, List.set_cons_succ, i64_w, i32_w]
      rfl
    refine pure_ (i := 12) (N := some 5) (v := ?_) (a' := ?_) #[true, true, true, true, true, true, true, true, true, true, true, true, true] rfl rfl (by kernel_rfl) (fun _ _ _ h => h) (Or.inl ⟨by rfl, ?_⟩) ?_ ?_
    rotate_left
    · intro w'
      go_simp
      with_reducible rfl
    rotate_left
    · simp only [Act.put, List.setIfInBounds_toArray, List.set_cons_zero, List.set_cons_succ, i64_w, i32_w]
      rfl
    refine done_ (by kernel_rfl) ?_
    
    go_wp2_with fail
    refine (outer_joins.sorted b N lf w6 HR6.out (by have h1 := HMN.out; have h2 := HLL.out; omega) (by have h1 := HN.out; have h2 := HLL.out; omega)).mono ?_
    rintro e w7 ⟨rfl, hR7, hg7⟩
    have HR7 := Aside0.mk hR7
    have HG7 := Aside0.mk hg7
    clear hR7 hg7
    go_wp2_with fail
    go_ret
    have hls : (outer_joins.sort (lf.take N)).length = N := by rw [outer_joins.sort, List.length_mergeSort, List.length_take]; have h1 := HMN.out; have h2 := HLL.out; omega
    refine ⟨_, rfl, ?_, HB6.out.grown HG7.out HB6.out.size (fun k hk => by have h1 := HGE6.out; have h2 : b = k := (by simpa using hk); rw [← h2]; exact h1)⟩
    have hv := outer_joins.view b N w.heap.size (outer_joins.sort (lf.take N) ++ lf.drop N) w7 HR7.out (by rw [List.length_append, hls]; omega) (by rw [List.length_append, hls, List.length_drop]; have h1 := HN.out; have h2 := HLL.out; have h3 := HMN.out; omega) HGE6.out
    have hr := HRES.out
    have htk : (outer_joins.sort (lf.take N) ++ lf.drop N).take N = outer_joins.sort (lf.take N) := by
      rw [List.take_append_of_le_length (by omega), List.take_of_length_le (by omega)]
    rw [htk, hr] at hv
    exact hv
  · refine start_ (n := 13) (S := fun w' => w'.cell? ⟨gb, 0, none⟩ = some (.int .i64 a0_0) ∧ w'.cell? ⟨gb, 1, none⟩ = some (.int .i64 a0_1) ∧ w'.cell? ⟨gb, 2, none⟩ = some (.int .i64 N) ∧ w'.cell? ⟨gb, 3, none⟩ = some (.int .i64 Q)) (ds := []) #[false, false, false, false, false, false, false, false, false, false, false, false, false] (by kernel_rfl) rfl rfl ⟨c0, c1, c2, c3⟩ (fun hHeld => ?_)
    refine pure_ (i := 1) (N := some 7) (v := ?_) (a' := ?_) #[false, true, false, false, false, false, false, false, false, false, false, false, false] rfl rfl (by kernel_rfl) (fun _ _ _ h => h) (Or.inl ⟨by rfl, ?_⟩) ?_ ?_
    rotate_left
    · intro w'
      go_simp
      with_reducible rfl
    rotate_left
    · simp only [Act.put, List.setIfInBounds_toArray, List.set_cons_zero, List.set_cons_succ, i64_w, i32_w]
      rfl
    refine pure_ (i := 4) (N := some 10) (v := ?_) (a' := ?_) #[false, true, false, false, true, false, false, false, false, false, false, false, false] rfl rfl (by kernel_rfl) (fun _ _ _ h => h) (Or.inl ⟨by rfl, ?_⟩) ?_ ?_
    rotate_left
    · intro w'
      go_simp
      with_reducible rfl
    rotate_left
    · simp only [Act.put, List.setIfInBounds_toArray, List.set_cons_zero, List.set_cons_succ, i64_w, i32_w]
      rfl
    refine pure_ (i := 6) (N := some 12) (v := ?_) (a' := ?_) #[false, true, false, false, true, false, true, false, false, false, false, false, false] rfl rfl (by kernel_rfl) (fun _ _ _ h => h) (Or.inl ⟨by rfl, ?_⟩) ?_ ?_
    rotate_left
    · intro w'
      go_simp
      with_reducible rfl
    rotate_left
    · simp only [Act.put, List.setIfInBounds_toArray, List.set_cons_zero, List.set_cons_succ, i64_w, i32_w]
      rfl
    refine pure_ (i := 8) (N := some 14) (v := ?_) (a' := ?_) #[false, true, false, false, true, false, true, false, true, false, false, false, false] rfl rfl (by kernel_rfl) (fun _ _ _ h => h) (Or.inl ⟨by rfl, ?_⟩) ?_ ?_
    rotate_left
    · intro w'
      go_simp
      with_reducible rfl
    rotate_left
    · simp only [Act.put, List.setIfInBounds_toArray, List.set_cons_zero, List.set_cons_succ, i64_w, i32_w]
      rfl
    refine take_ (i := 0) (N := some 6) (v := ?_) (a' := ?_) #[true, true, false, false, true, false, true, false, true, false, false, false, false] rfl rfl (by kernel_rfl) (fun _ _ _ h => h) (Or.inl ⟨by rfl, ?_⟩) hHeld ?_ ?_
    rotate_left
    · rintro w' ⟨s0, s1, s2, s3⟩
      go_simp
      with_reducible rfl
    rotate_left
    · simp only [Act.put, List.setIfInBounds_toArray, List.set_cons_zero, List.set_cons_succ, i64_w, i32_w]
      rfl
    refine take_ (i := 5) (N := some 11) (v := ?_) (a' := ?_) #[true, true, false, false, true, true, true, false, true, false, false, false, false] rfl rfl (by kernel_rfl) (fun _ _ _ h => h) (Or.inl ⟨by rfl, ?_⟩) hHeld ?_ ?_
    rotate_left
    · rintro w' ⟨s0, s1, s2, s3⟩
      go_simp
      with_reducible rfl
    rotate_left
    · simp only [Act.put, List.setIfInBounds_toArray, List.set_cons_zero, List.set_cons_succ, i64_w, i32_w]
      rfl
    refine take_ (i := 7) (N := some 13) (v := ?_) (a' := ?_) #[true, true, false, false, true, true, true, true, true, false, false, false, false] rfl rfl (by kernel_rfl) (fun _ _ _ h => h) (Or.inl ⟨by rfl, ?_⟩) hHeld ?_ ?_
    rotate_left
    · rintro w' ⟨s0, s1, s2, s3⟩
      go_simp
      with_reducible rfl
    rotate_left
    · simp only [Act.put, List.setIfInBounds_toArray, List.set_cons_zero, List.set_cons_succ, i64_w, i32_w]
      rfl
    refine take_ (i := 9) (N := some 15) (v := ?_) (a' := ?_) #[true, true, false, false, true, true, true, true, true, true, false, false, false] rfl rfl (by kernel_rfl) (fun _ _ _ h => h) (Or.inl ⟨by rfl, ?_⟩) hHeld ?_ ?_
    rotate_left
    · rintro w' ⟨s0, s1, s2, s3⟩
      go_simp
      with_reducible rfl
    rotate_left
    · simp only [Act.put, List.setIfInBounds_toArray, List.set_cons_zero, List.set_cons_succ, i64_w, i32_w]
      rfl
    refine pure_ (i := 10) (N := some 16) (v := ?_) (a' := ?_) #[true, true, false, false, true, true, true, true, true, true, true, false, false] rfl rfl (by kernel_rfl) (fun _ _ _ h => h) (Or.inl ⟨by rfl, ?_⟩) ?_ ?_
    rotate_left
    · intro w'
      go_simp
      with_reducible rfl
    rotate_left
    · simp only [Act.put, List.setIfInBounds_toArray, List.set_cons_zero, List.set_cons_succ, i64_w, i32_w]
      rfl
    refine one_ (i := 2) (N := some 8) #[true, true, true, false, true, true, true, true, true, true, true, false, false] rfl rfl (by kernel_rfl) (by decide) (fun K hK => ?_)
    refine goes_ Try.func35 (by kernel_rfl) rfl #[.agg #[.int .i64 a0_0, .int .i64 a0_1, .int .i64 N, .int .i64 Q], .int .i64 a1] (by rfl) rfl rfl (by simp only [List.map_toArray, List.map_cons, List.map_nil]; rfl) ?_
    with_reducible refine (outer_seed.calls k a0_0 a0_1 N Q a1 s _ HS.out).mono ?_
    rintro e w3 ⟨rfl, hb3⟩
    refine ⟨_, rfl, ?_⟩
    have HB3 := Aside0.mk (below_step (below_drew HB.out) hb3)
    have HX3 := Aside0.mk (blk_below (blk_drew HBX.out) hb3)
    clear hb3
    refine hK.out _ _ ⟨(blk_cell HX3.out 0).trans rfl, (blk_cell HX3.out 1).trans rfl, (blk_cell HX3.out 2).trans rfl, (blk_cell HX3.out 3).trans rfl⟩ (fun hHeld => ?_)
    clear hK K
    refine norm_ (a' := ?_) ?_ ?_
    rotate_left
    · show Act.put _ (some 8) _ = _
      simp only [Act.put, List.setIfInBounds_toArray, List.set_cons_zero, List.set_cons_succ, i64_w, i32_w]
      rfl
    refine one_ (i := 3) (N := some 9) #[true, true, true, true, true, true, true, true, true, true, true, false, false] rfl rfl (by kernel_rfl) (by decide) (fun K hK => ?_)
    refine goes_ Try.func34 (by kernel_rfl) rfl #[.string s] (by rfl) rfl rfl (by simp only [List.map_toArray, List.map_cons, List.map_nil]; rfl) ?_
    with_reducible refine (prng_New.calls s s 0 ⟨#[]⟩ w _ HB3.out HNEW.out).mono ?_
    rintro e w4 ⟨g, rfl, hI4, hb4, hb5⟩
    refine ⟨_, rfl, ?_⟩
    have HI4 := Aside0.mk hI4
    have HB4 := Aside0.mk hb4
    have HX4 := Aside0.mk (blk_below HX3.out hb5)
    clear hI4 hb4 hb5
    refine hK.out _ _ ⟨(blk_cell HX4.out 0).trans rfl, (blk_cell HX4.out 1).trans rfl, (blk_cell HX4.out 2).trans rfl, (blk_cell HX4.out 3).trans rfl⟩ (fun hHeld => ?_)
    clear hK K
    refine norm_ (a' := ?_) ?_ ?_
    rotate_left
    · show Act.put _ (some 9) _ = _
      simp only [Act.put, List.setIfInBounds_toArray, List.set_cons_zero, List.set_cons_succ, i64_w, i32_w]
      rfl
    refine one_ (i := 11) (N := some 17) #[true, true, true, true, true, true, true, true, true, true, true, true, false] rfl rfl (by kernel_rfl) (by decide) (fun K hK => ?_)
    refine goes_ Try.func36 (by kernel_rfl) rfl #[.pointer (some ⟨g, 0, none⟩), .int .i64 N, .int .i64 Q] (by rfl) rfl rfl (by simp only [List.map_toArray, List.map_cons, List.map_nil]; rfl) ?_
    with_reducible refine (prng_Gen_Pick.gives k N Q g s 0 ⟨#[]⟩ HN.out HMN.out lf q0 q1 q2 HGO.out w _ HI4.out HB4.out).mono ?_
    rintro e w6 ⟨b, rfl, hR6, hge6, hI6, hb6, hk6⟩
    refine ⟨_, rfl, ?_⟩
    have HR6 := Aside0.mk hR6
    have HGE6 : Aside0 (w.heap.size ≤ b) := ⟨Nat.le_trans HB4.out.size hge6⟩
    have HB6 := Aside0.mk hb6
    have HX6 := Aside0.mk (hk6.blk HX4.out (Ne.symm (HI4.out.ne_blk HX4.out (by decide))) (by simp))
    clear hR6 hge6 hI6 hb6 hk6
    refine hK.out _ _ ⟨(blk_cell HX6.out 0).trans rfl, (blk_cell HX6.out 1).trans rfl, (blk_cell HX6.out 2).trans rfl, (blk_cell HX6.out 3).trans rfl⟩ (fun hHeld => ?_)
    clear hK K
    refine norm_ (a' := ?_) ?_ ?_
    rotate_left
    · show Act.put _ (some 17) _ = _
      simp only [Act.put, List.setIfInBounds_toArray, List.set_cons_zero, List.set_cons_succ, i64_w, i32_w]
      rfl
    refine pure_ (i := 12) (N := some 5) (v := ?_) (a' := ?_) #[true, true, true, true, true, true, true, true, true, true, true, true, true] rfl rfl (by kernel_rfl) (fun _ _ _ h => h) (Or.inl ⟨by rfl, ?_⟩) ?_ ?_
    rotate_left
    · intro w'
      go_simp
      with_reducible rfl
    rotate_left
    · simp only [Act.put, List.setIfInBounds_toArray, List.set_cons_zero, List.set_cons_succ, i64_w, i32_w]
      rfl
    refine done_ (by kernel_rfl) ?_
    
    go_wp2_with fail
    refine (outer_joins.sorted b Q lf w6 HR6.out (by have h1 := HMN.out; have h2 := HLL.out; omega) (by have h1 := HN.out; have h2 := HLL.out; omega)).mono ?_
    rintro e w7 ⟨rfl, hR7, hg7⟩
    have HR7 := Aside0.mk hR7
    have HG7 := Aside0.mk hg7
    clear hR7 hg7
    go_wp2_with fail
    go_ret
    have hls : (outer_joins.sort (lf.take Q)).length = Q := by rw [outer_joins.sort, List.length_mergeSort, List.length_take]; have h1 := HMN.out; have h2 := HLL.out; omega
    refine ⟨_, rfl, ?_, HB6.out.grown HG7.out HB6.out.size (fun k hk => by have h1 := HGE6.out; have h2 : b = k := (by simpa using hk); rw [← h2]; exact h1)⟩
    have hv := outer_joins.view b Q w.heap.size (outer_joins.sort (lf.take Q) ++ lf.drop Q) w7 HR7.out (by rw [List.length_append, hls]; omega) (by rw [List.length_append, hls, List.length_drop]; have h1 := HN.out; have h2 := HLL.out; have h3 := HMN.out; omega) HGE6.out
    have hr := HRES.out
    have htk : (outer_joins.sort (lf.take Q) ++ lf.drop Q).take Q = outer_joins.sort (lf.take Q) := by
      rw [List.take_append_of_le_length (by omega), List.take_of_length_le (by omega)]
    rw [htk, hr] at hv
    exact hv
/-! ### outer_members: function 23 -/
mutual
def outer_members.l0 : Nat → List (List Int) → Int → Int → Int → Int → Int → Int → Option ((List (List Int)))
 | 0, _, _, _, _, _, _, _ => none
 | k + 1, x3, x11, x12, x136000, x136001, x136002, x136003 => if x12 < x11 then ((outer_joins.f k x136000 x136001 x136002 x136003 x12).bind fun t139 => (outer_members.l1 k x3 x12 x11 x12 t139 (t139.length : Int) 0 x136000 x136001 x136002 x136003)) else (some x3)
def outer_members.l1 : Nat → List (List Int) → Int → Int → Int → List Int → Int → Int → Int → Int → Int → Int → Option ((List (List Int)))
 | 0, _, _, _, _, _, _, _, _, _, _, _ => none
 | k + 1, x3, x4, x11, x12, x17, x18, x19, x136000, x136001, x136002, x136003 => if x19 < x18 then (if 0 ≤ x19 then (if x19 < (x17.length : Int) then (if 0 ≤ (rd x17 x19) then (if (rd x17 x19) < (x3.length : Int) then (if (rd_L3 x3 (rd x17 x19)).length < 17592186044416 then (outer_members.l1 k (x3.set ((rd x17 x19) : Int).toNat ((rd_L3 x3 (rd x17 x19)) ++ [x4])) x4 x11 x12 x17 x18 (wrap64 (x19 + 1)) x136000 x136001 x136002 x136003) else (none)) else (none)) else (none)) else (none)) else (none)) else (outer_members.l0 k x3 x11 (wrap64 (x12 + 1)) x136000 x136001 x136002 x136003)
end
def outer_members.f (k : Nat) (a0_0 : Int) (a0_1 : Int) (a0_2 : Int) (a0_3 : Int) : Option ((List (List Int))) := if 0 ≤ a0_2 then (if (a0_2 : Int).toNat ≤ 11728124029610 then (outer_members.l0 k (List.replicate (a0_2 : Int).toNat []) a0_1 0 a0_0 a0_1 a0_2 a0_3) else (none)) else (none)
theorem outer_members.mono_l : ∀ k, (∀ y0 y1 y2 y3 y4 y5 y6, LeO (outer_members.l0 k y0 y1 y2 y3 y4 y5 y6) (outer_members.l0 (k + 1) y0 y1 y2 y3 y4 y5 y6)) ∧ (∀ y0 y1 y2 y3 y4 y5 y6 y7 y8 y9 y10, LeO (outer_members.l1 k y0 y1 y2 y3 y4 y5 y6 y7 y8 y9 y10) (outer_members.l1 (k + 1) y0 y1 y2 y3 y4 y5 y6 y7 y8 y9 y10))
 | 0 => ⟨fun _ _ _ _ _ _ _ r h => by simp [outer_members.l0] at h, fun _ _ _ _ _ _ _ _ _ _ _ r h => by simp [outer_members.l1] at h⟩
 | k + 1 => by
  obtain ⟨ih0, ih1⟩ := outer_members.mono_l k
  refine ⟨?_, ?_⟩ <;> intros <;> (first | unfold outer_members.l0 | unfold outer_members.l1)
  all_goals repeat' first | (with_reducible first | apply ih0 | apply ih1 | apply outer_joins.mono | exact LeO.refl _ | exact LeO.none _ | refine LeO.ite ?_ ?_ | refine LeO.bind ?_ (fun _ => ?_)) | apply ih0 | apply ih1 | apply outer_joins.mono | exact LeO.none _ | refine LeO.ite ?_ ?_ | refine LeO.bind ?_ (fun _ => ?_)
theorem outer_members.mono : ∀ a0 a1 a2 a3 k, LeO (outer_members.f k a0 a1 a2 a3) (outer_members.f (k + 1) a0 a1 a2 a3) := by
 intro a0 a1 a2 a3 k
 obtain ⟨ih0, ih1⟩ := outer_members.mono_l k
 unfold outer_members.f
 repeat' first | (with_reducible first | apply ih0 | apply ih1 | apply outer_joins.mono | exact LeO.refl _ | exact LeO.none _ | refine LeO.ite ?_ ?_ | refine LeO.bind ?_ (fun _ => ?_)) | apply ih0 | apply ih1 | apply outer_joins.mono | exact LeO.none _ | refine LeO.ite ?_ ?_ | refine LeO.bind ?_ (fun _ => ?_)
set_option maxHeartbeats 8000000 in
set_option maxRecDepth 100000 in
theorem outer_members.calls (k : Nat) (a0_0 : Int) (a0_1 : Int) (a0_2 : Int) (a0_3 : Int) (r : List (List Int)) (w : World) (h : outer_members.f k a0_0 a0_1 a0_2 a0_3 = some r) :
  Calls Try.prog 23 #[.agg #[.int .i64 a0_0, .int .i64 a0_1, .int .i64 a0_2, .int .i64 a0_3]] w fun e w' => ∃ v0_ : Value, e = .returned (v0_) ∧ Kd.S (Kd.slice 3 (Kd.int .i64)) 30 w' w.heap.size (fun _ => True) v0_ r ∧ Below w.heap.size w w' := by
 have hu23 := Try.underlying23; have HB := Aside0.mk (Below.refl w.heap.size w)
 have H : (if 0 ≤ a0_2 then (if (a0_2 : Int).toNat ≤ 11728124029610 then (outer_members.l0 k (List.replicate (a0_2 : Int).toNat []) a0_1 0 a0_0 a0_1 a0_2 a0_3) else (none)) else (none)) = some r := h
 clear h; by_cases c2 : 0 ≤ a0_2
 ·
  rw [if_pos c2] at H
  have c2b0 := eq_true c2
  have c2b1 : decide (0 ≤ a0_2) = true := decide_eq_true c2
  clear c2; by_cases c3 : (a0_2 : Int).toNat ≤ 11728124029610
  ·
   rw [if_pos c3] at H
   have c3b0 := eq_true c3
   have c3b1 : decide ((a0_2 : Int).toNat ≤ 11728124029610) = true := decide_eq_true c3
   clear c3; obtain ⟨y136, hy136⟩ : ∃ y_ : List (List Int), y_ = (List.replicate (a0_2 : Int).toNat []) := ⟨_, rfl⟩
   replace H : (outer_members.l0 k y136 a0_1 0 a0_0 a0_1 a0_2 a0_3) = some r := by first | (rw [hy136]; with_reducible exact H) | (have H2_ := (Option.bind_some _ _).symm.trans H; rw [hy136]; with_reducible exact H2_) | (have H2_ := (Option.bind_some _ _).symm.trans H; with_reducible exact H2_) | with_reducible exact H | (rw [hy136]; exact H) | exact H
   have Ny136 := Aside0.mk hy136
   clear hy136; have H' := Aside0.mk H
   clear H; go_enter Try.func23, Try.ntmps23
   go_wp2_with (first | ((with_reducible refine gate_dst (N := 1) rfl ?_); refine box_event ?hg (N := 1) ?hd (cs := #[.int .i64 a0_0, .int .i64 a0_1, .int .i64 a0_2, .int .i64 a0_3]) (t := 23) ?hr ?_; (case hd => rfl); (case hg => rfl); (case hr => first | (go_simp; done) | (go_simp; rfl)); intro gb135 hg w4 hbox hb; have BK135 := Aside0.mk (hbox); have GW135 := Aside0.mk ((zg : w.heap.size ≤ gb135)); have GE135 := Aside0.mk ((zg : w.heap.size ≤ gb135)); replace HB := Aside0.mk (below_step zB hb); clear hb hbox hg; obtain ⟨hcz5_0, hcz5_1, hcz5_2, hcz5_3⟩ := cZ4 BK135; obtain ⟨hfz5_0, hfz5_1, hfz5_2, hfz5_3⟩ := dZ4 BK135) | ((with_reducible refine gate_dst (N := 9) rfl ?_); refine Kd.S_make (Kd.slice 3 (Kd.int .i64)) _ 30 rfl (N := 9) rfl 24 _ _ rfl a0_2 rfl rfl Try.underlying24 (.slice none 0 0) 24 info30 rfl (by decide) (by omega) [] (ok := fun _ => True) (okp := fun _ => True) ⟨_, rfl, Kd.R_nil _ _ _ _ _⟩ (fun _ hk => hk) trivial (of_decide_eq_true zA) (Nat.le_trans (Nat.mul_le_mul_right _ (of_decide_eq_true zA : a0_2.toNat ≤ 11728124029610)) (by omega)) (Below.refl _ _) (Nat.le_refl _) ?_; intro v137 w6 ho7 hb hg_ hnew_; clear hg_ hnew_; (first | rw [← Ny136.out] at ho7 | (simp only [Int.reduceToNat] at ho7; rw [← Ny136.out] at ho7)); have HO138 := Aside0.mk (Kd.S_lower ho7 (below_size zB)); replace BK135 := Aside0.mk (blk_below (zk BK135) hb); replace HB := Aside0.mk (below_step zB hb); clear hb ho7; obtain ⟨hcz8_0, hcz8_1, hcz8_2, hcz8_3⟩ := cZ4 BK135; obtain ⟨hfz8_0, hfz8_1, hfz8_2, hfz8_3⟩ := dZ4 BK135))
   go_loopg [12] k (fun kq v12 w' => ∃ (x3_1 : List (List Int)) (x12_1 : Int), v12 = .int .i64 x12_1 ∧ Aside0 (outer_members.l0 kq x3_1 a0_1 x12_1 a0_0 a0_1 a0_2 a0_3 = some r) ∧ Aside0 (kq ≤ k) ∧ Aside0 (Kd.S (Kd.slice 3 (Kd.int .i64)) 30 w' w.heap.size (fun _ => True) v137 x3_1) ∧ Aside0 (w'.heap[gb135]? = some (.cells #[.int .i64 a0_0, .int .i64 a0_1, .int .i64 a0_2, .int .i64 a0_3] 23 (0, 0))) ∧ Aside0 (Below w.heap.size w w'))
   case atStart => exact ⟨(y136), (0), zF, H', ⟨Nat.le_refl _⟩, ⟨zS HO138⟩, ⟨zk BK135⟩, ⟨zB⟩⟩
   case round =>
    clear H'
    obtain ⟨x3_1, x12_1, rfl, HA, HK1, HO_3, BK135, HB⟩ := hrel
    cases gk with
    | zero => exact absurd HA.out (by simp [outer_members.l0])
    | succ k1 =>
     have H := HA.out; clear HA; simp only [outer_members.l0] at H
     by_cases c9 : x12_1 < a0_1
     ·
      rw [if_pos c9] at H
      have c9b0 : decide (x12_1 < a0_1) = true := decide_eq_true c9
      clear c9; replace H := Option.bind_eq_some_iff.mp H
      obtain ⟨t139, A100, H⟩ := H
      replace H : (outer_members.l1 k1 x3_1 x12_1 a0_1 x12_1 t139 (t139.length : Int) 0 a0_0 a0_1 a0_2 a0_3) = some r := H
      have A10 := Aside0.mk A100
      clear A100; have H' := Aside0.mk H
      clear H; obtain ⟨hcz11_0, hcz11_1, hcz11_2, hcz11_3⟩ := cZ4 BK135
      obtain ⟨hfz11_0, hfz11_1, hfz11_2, hfz11_3⟩ := dZ4 BK135; go_wp2_with (first | ((with_reducible refine gate_callee (f := 20) rfl ?_); refine goesL_ (some 17) rfl rfl Try.func20 (by kernel_rfl) rfl #[.agg #[.int .i64 a0_0, .int .i64 a0_1, .int .i64 a0_2, .int .i64 a0_3], .int .i64 x12_1] rfl zM ?_; (with_reducible refine (outer_joins.calls k1 a0_0 a0_1 a0_2 a0_3 x12_1 t139 _ A10.out).mono ?_); rintro e w12 ⟨v140, rfl, ho0, hb⟩; refine ⟨_, rfl, ?_⟩; replace HO_3 := Aside0.mk (Kd.S_elder' (by (with_reducible repeat (first | apply Kd.S_alloc | apply Kd.S_drewN | apply Kd.S_drew)); exact HO_3.out) (Kd.QC_base ho0) hb); have HO141 := Aside0.mk (Kd.QC_lower ho0 (below_size zB)); replace BK135 := Aside0.mk (blk_below (zk BK135) hb); replace HB := Aside0.mk (below_step zB hb); (try clear hb); (try clear hb2); (try clear hk); (try clear hi); (try clear ho0); obtain ⟨Ao13, co13, eo13, _⟩ := Kd.QC_slice HO141.out; subst eo13))
      go_loopg [19] k1 (fun kq v19 w' => ∃ (x3_2 : List (List Int)) (x19_2 : Int), v19 = .int .i64 x19_2 ∧ Aside0 (outer_members.l1 kq x3_2 x12_1 a0_1 x12_1 t139 (t139.length : Int) x19_2 a0_0 a0_1 a0_2 a0_3 = some r) ∧ Aside0 (kq ≤ k1) ∧ Aside0 (Kd.S (Kd.slice 3 (Kd.int .i64)) 30 w' w.heap.size (fun k_ => some k_ ≠ ((.slice Ao13 t139.length co13) : Value).ownBlock) v137 x3_2) ∧ Aside0 (Kd.QC (Kd.int .i64) 3 w' w.heap.size (fun _ => True) (.slice Ao13 t139.length co13) t139) ∧ Aside0 (w'.heap[gb135]? = some (.cells #[.int .i64 a0_0, .int .i64 a0_1, .int .i64 a0_2, .int .i64 a0_3] 23 (0, 0))) ∧ Aside0 (Below w.heap.size w w'))
      case atStart => exact ⟨(x3_1), (0), zF, H', ⟨Nat.le_refl _⟩, ⟨by (with_reducible repeat (first | apply Kd.S_alloc | apply Kd.S_drewN | apply Kd.S_drew)); exact Kd.S_mono HO_3.out (fun _ hk => hk.2)⟩, ⟨zQC HO141⟩, ⟨zk BK135⟩, ⟨zB⟩⟩
      case round =>
       clear H'
       obtain ⟨x3_2, x19_2, rfl, HA, HK2, HO_3, HO_17, BK135, HB⟩ := hrel
       cases gk with
       | zero => exact absurd HA.out (by simp [outer_members.l1])
       | succ k2 =>
        have H := HA.out; clear HA; simp only [outer_members.l1] at H
        by_cases c14 : x19_2 < (t139.length : Int)
        ·
         rw [if_pos c14] at H
         have c14b0 : decide (x19_2 < (t139.length : Int)) = true := decide_eq_true c14
         clear c14; by_cases c15 : 0 ≤ x19_2
         ·
          rw [if_pos c15] at H
          have c15b0 : decide (0 ≤ x19_2) = true := decide_eq_true c15
          clear c15; by_cases c16 : x19_2 < (t139.length : Int)
          ·
           rw [if_pos c16] at H
           have c16b0 : decide (x19_2 < (t139.length : Int)) = true := decide_eq_true c16
           clear c16; by_cases c17 : 0 ≤ (rd t139 x19_2)
           ·
            rw [if_pos c17] at H
            have c17b0 : decide (0 ≤ (rd t139 x19_2)) = true := decide_eq_true c17
            clear c17; by_cases c18 : (rd t139 x19_2) < (x3_2.length : Int)
            ·
             rw [if_pos c18] at H
             have c18b0 : decide ((rd t139 x19_2) < (x3_2.length : Int)) = true := decide_eq_true c18
             clear c18; by_cases c19 : (rd_L3 x3_2 (rd t139 x19_2)).length < 17592186044416
             ·
              rw [if_pos c19] at H
              have LMc19 := Aside0.mk c19
              clear c19; obtain ⟨y144, hy144⟩ : ∃ y_ : List Int, y_ = ((rd_L3 x3_2 (rd t139 x19_2)) ++ [x12_1]) := ⟨_, rfl⟩
              replace H : (outer_members.l1 k2 (x3_2.set ((rd t139 x19_2) : Int).toNat y144) x12_1 a0_1 x12_1 t139 (t139.length : Int) (wrap64 (x19_2 + 1)) a0_0 a0_1 a0_2 a0_3) = some r := by first | (rw [hy144]; with_reducible exact H) | (have H2_ := (Option.bind_some _ _).symm.trans H; rw [hy144]; with_reducible exact H2_) | (have H2_ := (Option.bind_some _ _).symm.trans H; with_reducible exact H2_) | with_reducible exact H | (rw [hy144]; exact H) | exact H
              have Ny144 := Aside0.mk hy144
              clear hy144; obtain ⟨y147, hy147⟩ : ∃ y_ : List (List Int), y_ = (x3_2.set ((rd t139 x19_2) : Int).toNat y144) := ⟨_, rfl⟩
              replace H : (outer_members.l1 k2 y147 x12_1 a0_1 x12_1 t139 (t139.length : Int) (wrap64 (x19_2 + 1)) a0_0 a0_1 a0_2 a0_3) = some r := by first | (rw [hy147]; with_reducible exact H) | (have H2_ := (Option.bind_some _ _).symm.trans H; rw [hy147]; with_reducible exact H2_) | (have H2_ := (Option.bind_some _ _).symm.trans H; with_reducible exact H2_) | with_reducible exact H | (rw [hy147]; exact H) | exact H
              have Ny147 := Aside0.mk hy147
              clear hy147; have H' := Aside0.mk H
              clear H; have p142 : 0 ≤ (x19_2 : Int) := of_decide_eq_true zA
              have q142 : x19_2 < (t139.length : Int) := of_decide_eq_true zA
              obtain ⟨ad142, e142, hx142_0⟩ := Kd.at_int (Kd.QC_reads' HO_17.out).2.2 x19_2 p142 q142
              cases e142
              replace p142 := eq_true p142
              replace q142 := eq_true q142
              obtain ⟨Ao21, co21, eo21⟩ := Kd.S_slice HO_3.out
              subst eo21
              have p143 : 0 ≤ ((rd t139 x19_2) : Int) := of_decide_eq_true zA
              have q143 : (rd t139 x19_2) < (x3_2.length : Int) := of_decide_eq_true zA
              obtain ⟨ad143, A143_0, c143_0, e143, hx143_0, hl143_0, hi143_0⟩ := at_L3 (Kd.S_reads' HO_3.out).2.2 (rd t139 x19_2) p143 q143
              cases e143
              obtain ⟨ce143, hce143, hMe143, hcc143⟩ := Kd.S_get HO_3.out [] (rd t139 x19_2) p143 (by first | exact q143 | exact of_decide_eq_true zA | (have e_ := (Kd.S_reads' HO_3.out).1; omega))
              obtain ⟨ve143_0, rfl, ge143_0⟩ := hMe143
              have hv143_0 := hcc143 0 _ rfl
              rw [Nat.add_zero, show ((Kd.slice 3 (Kd.int .i64))).sz = 1 from rfl, Nat.mul_one] at hv143_0
              replace hv143_0 := Option.some.inj (hv143_0.symm.trans hx143_0)
              rw [hv143_0] at ge143_0
              have HL143_0 := Aside0.mk (show Kd.R (Kd.int .i64) 3 _ _ _ _ (rd_L3 x3_2 (rd t139 x19_2)) from ge143_0)
              clear hv143_0 ge143_0; have HX143_0 := Aside0.mk hx143_0
              clear hcc143 hce143; have HR143_0 := Aside0.mk hi143_0
              have HC143_0 := Aside0.mk hl143_0
              clear hi143_0 hl143_0; replace p143 := eq_true p143
              replace q143 := eq_true q143
              obtain ⟨go22, co22, eo22, gb22, gl22, cl22, HG22⟩ := Kd.S_form HO_3.out (by have h_ : ((rd t139 x19_2) : Int) < ((x3_2.length : Int) : Int) := of_decide_eq_true zA; have h2_ : 0 ≤ ((rd t139 x19_2) : Int) := (of_decide_eq_true zA); omega)
              (first | cases eo22 | (injection eo22 with ea_ en_ ec_; (first | subst ea_ | (injection ea_ with ea_; subst ea_)); subst ec_; clear en_))
              have GB22 := Aside0.mk gb22
              have GG22 := Aside0.mk HG22
              clear gb22 gl22 HG22; (first | simp only [add_plain] at hx143_0 | skip)
              obtain ⟨oki22, ce22, hcl22, hM22, hcc22, _, _, hH22⟩ := Kd.S_elem HO_3.out [] ((rd t139 x19_2) : Int) (of_decide_eq_true zA) (by have h_ : ((rd t139 x19_2) : Int) < ((x3_2.length : Int) : Int) := of_decide_eq_true zA; first | exact h_ | (have e_ := (Kd.S_reads' HO_3.out).1; omega) | simpa using h_)
              obtain ⟨ve22_0, rfl, ge22_0⟩ := hM22
              have hv22 := hcc22 0 _ rfl
              have hX22 := HX143_0.out; (try simp only [add_plain] at hX22)
              (try simp only [Nat.add_zero] at hv22)
              (try rw [show ((Kd.slice 3 (Kd.int .i64))).sz = 1 from rfl, Nat.mul_one] at hv22)
              replace hv22 := Option.some.inj (hv22.symm.trans hX22)
              subst hv22
              clear hX22 hcc22 hcl22; have UU22 := Aside0.mk (show Kd.R (Kd.int .i64) 3 _ w.heap.size oki22 (.slice A143_0 (rd_L3 x3_2 (rd t139 x19_2)).length c143_0) (rd_L3 x3_2 (rd t139 x19_2)) from ge22_0)
              have HH22 := Aside0.mk hH22
              have HN22 := Aside0.mk (Kd.S_reads' HO_3.out).1
              clear hH22 ge22_0; go_wp2_with (first | ((with_reducible refine gate_builtin (b := .append) (xs := #[.tmp 28, .tmp 30]) rfl ?_); at_builtin; refine Kd.R_append (Kd.int .i64) (w0 := w) w.heap.size rfl (.tmp 28) (.tmp 30) 30 3 (.int .i64 0) 8 rfl Try.underlying30 info3 rfl (by decide) (by omega) (.slice A143_0 (rd_L3 x3_2 (rd t139 x19_2)).length c143_0) (rd_L3 x3_2 (rd t139 x19_2)) x12_1 [.int .i64 x12_1] (fun k_ => oki22 k_ ∨ ((fun k_ => some k_ ≠ (.slice (some ad142) t139.length co13 : Value).ownBlock)) k_ ∧ wr.heap.size ≤ k_) (fun _ => False) rfl rfl ?aP (fun _ hk => hk.elim) ?aF ?aO ?aB ?aS ?aL ?_; (case aP => exact rfl); (case aB => exact zB); (case aF => exact (fun k_ hk => .inr ⟨Kd.fresh' (Kd.QC_lt (by (with_reducible repeat (first | apply Kd.QC_alloc | apply Kd.QC_drewN | apply Kd.QC_drew)); exact HO_17.out)) k_ hk, hk⟩)); (case aO => exact (by (with_reducible repeat (first | apply Kd.R_alloc | apply Kd.R_drewN | apply Kd.R_drew)); exact Kd.R_mono UU22.out (fun _ hk => .inl hk))); (case aS => exact (below_size zB)); (case aL => have := LMc19.out; omega); intro v145 w23 ho hb hg hat; rw [← Ny144.out] at ho; replace HO_17 := Aside0.mk (Kd.QC_grown2 (by (with_reducible repeat (first | apply Kd.QC_alloc | apply Kd.QC_drewN | apply Kd.QC_drew)); exact HO_17.out) rfl hg (fun k_ e_ => (HL143_0.out.1 k_ e_).1)); replace BK135 := Aside0.mk (blk_grown (zk BK135) hg (Kd.R_ne HL143_0.out BK135.out (by decide))); replace HH22 := Aside0.mk (Kd.H_grown (Kd.H_widen (by repeat (first | exact HH22.out | refine Kd.H_alloc ?_ _ | refine Kd.H_drewN ?_ _ | refine Kd.H_drew ?_))) hg (fun k_ e_ => .inl (UU22.out.1 k_ e_))); have HO146 := Aside0.mk (ho); replace HB := Aside0.mk (hb); clear HO_3 UU22 HL143_0; clear ho hb hg hat; have p20 : 0 ≤ ((rd t139 x19_2) : Int) := of_decide_eq_true zA; have q20 : ((rd t139 x19_2) : Int) < ((x3_2.length : Int) : Int) := of_decide_eq_true zA; replace p20 := eq_true p20; replace q20 := eq_true q20; obtain ⟨Ao26, co26, eo26⟩ := Kd.R_slice HO146.out; subst eo26; obtain ⟨_, _, hraw24, _, _, hcc24, _⟩ := Kd.H_raw HH22.out (of_decide_eq_true zA) (by have h_ : ((rd t139 x19_2) : Int) < ((x3_2.length : Int) : Int) := of_decide_eq_true zA; first | exact h_ | (have e_ := (HN22.out); omega) | simpa using h_); obtain ⟨_, hfr24⟩ := Kd.H_at HH22.out (of_decide_eq_true zA) (by have h_ : ((rd t139 x19_2) : Int) < ((x3_2.length : Int) : Int) := of_decide_eq_true zA; first | exact h_ | (have e_ := (HN22.out); omega) | simpa using h_); have hx24_0 := hcc24 0 _ rfl; have hf24_0 := hfr24 0; (try simp only [Nat.add_zero] at hx24_0 hf24_0); (try rw [show ((Kd.slice 3 (Kd.int .i64))).sz = 1 from rfl, Nat.mul_one] at hx24_0); (try rw [show ((Kd.slice 3 (Kd.int .i64))).sz = 1 from rfl, Nat.mul_one] at hf24_0); have HP24 := Kd.S_seg0 HH22.out (of_decide_eq_true zA) (by have h_ : ((rd t139 x19_2) : Int) < ((x3_2.length : Int) : Int) := of_decide_eq_true zA; first | exact h_ | (have e_ := (HN22.out); omega) | simpa using h_) (seg := [.slice Ao26 y144.length co26]) (j := 0) (show 1 ≤ 1 from by decide) (x' := y144) (Kd.M_row HO146.out) (fun _ hk => hk); (try simp only [show ((Kd.slice 3 (Kd.int .i64))).sz = 1 from rfl, Nat.mul_one, Nat.add_zero] at HP24); clear hcc24 hfr24) | ((with_reducible refine gate_store (t := 30) (p := 32) rfl ?_); refine store_event (t := 30) (p := 32) (v := ?vo_w25) (w1 := (w23.setCell ⟨go22, ((rd t139 x19_2) : Int).toNat, none⟩ (.slice Ao26 y144.length co26))) ?hg ?ho ?hn ?hr ?_; (case ho => rfl); (case hg => rfl); (case hn => rfl); (case hr => first | (go_simp; done) | (go_simp; rfl)); intro w25 hw; have hg : w23.grownBy w25 (some go22) := (by rw [hw]; exact HP24.2); have hp_ : Kd.S (Kd.slice 3 (Kd.int .i64)) 30 w25 w.heap.size (fun k_ => some k_ ≠ (.slice (some ad142) t139.length co13 : Value).ownBlock) (.slice (some ⟨go22, 0, none⟩) x3_2.length co21) y147 := (by rw [hw, Ny147.out]; exact HP24.1); clear HP24; replace HO_17 := Aside0.mk (Kd.QC_over' (v := (.slice (some ⟨go22, 0, none⟩) x3_2.length co21)) (by (with_reducible repeat (first | apply Kd.QC_alloc | apply Kd.QC_drewN | apply Kd.QC_drew)); exact HO_17.out) (Kd.R_typed hraw24) (by decide) hg); replace BK135 := Aside0.mk (blk_grown (zk BK135) hg (Kd.R_ne hraw24 BK135.out (by decide))); have HO_3 := Aside0.mk (hp_); replace HB := Aside0.mk ((by rw [hw]; exact below_set HB.out GB22.out : Below w.heap.size w w25)); clear HO146 HH22; clear hg hw hp_ hraw24))
              go_roundg k2
              case measure => have := HK1.out; have := HK2.out; omega
              case rel => exact ⟨(y147), (wrap64 (x19_2 + 1)), zF, H', ⟨by have := HK1.out; have := HK2.out; omega⟩, ⟨zS HO_3⟩, ⟨zQC HO_17⟩, ⟨zk BK135⟩, ⟨zB⟩⟩
             ·
              rw [if_neg c19] at H
              exact absurd H (by simp)
            ·
             rw [if_neg c18] at H
             exact absurd H (by simp)
           ·
            rw [if_neg c17] at H
            exact absurd H (by simp)
          ·
           rw [if_neg c16] at H
           exact absurd H (by simp)
         ·
          rw [if_neg c15] at H
          exact absurd H (by simp)
        ·
         rw [if_neg c14] at H
         have c14b0 : decide (x19_2 < (t139.length : Int)) = false := decide_eq_false c14
         clear c14; have H' := Aside0.mk H
         clear H; go_wp2
         go_roundg k2
         case measure => have := HK1.out; have := HK2.out; omega
         case rel => exact ⟨(x3_2), (wrap64 (x12_1 + 1)), zF, H', ⟨by have := HK1.out; have := HK2.out; omega⟩, ⟨by (with_reducible repeat (first | apply Kd.S_alloc | apply Kd.S_drewN | apply Kd.S_drew)); exact Kd.S_mono HO_3.out (fun _ hk => trivial)⟩, ⟨zk BK135⟩, ⟨zB⟩⟩
     ·
      rw [if_neg c9] at H
      have c9b0 : decide (x12_1 < a0_1) = false := decide_eq_false c9
      clear c9; obtain rfl := Option.some.inj H
      go_wp2
      go_ret
      exact ⟨_, zE, by (with_reducible repeat (first | apply Kd.S_alloc | apply Kd.S_drewN | apply Kd.S_drew)); exact HO_3.out, zB⟩
  ·
   rw [if_neg c3] at H
   exact absurd H (by simp)
 ·
  rw [if_neg c2] at H
  exact absurd H (by simp)
end Go.Proofs.Ytghhmnjkgnoogaa.POuterHolds
