-- Written by this session's own program (wip/tools/mkprint.py) over the kit's printer, with overrides.
import Derived.Test.YtghhmnjkgnoogaaGreatTOuterWholesa
import Derived.Test.YtghhmnjkgnoogaaGreatQOuterWholesx0
import Derived.Test.YtghhmnjkgnoogaaGreatQOuterWholesx1
import Derived.Test.YtghhmnjkgnoogaaGreatQOuterWholesx12
import Derived.Test.YtghhmnjkgnoogaaGreatQOuterWholesx13
import Derived.Test.YtghhmnjkgnoogaaGreatQOuterWholesx14
namespace Go.Proofs.YtghhmnjkgnoogaaGreat.POuterWholes
open Go.RowKit Go.Mine Go.Proofs.YtghhmnjkgnoogaaGreatW.PrintWords Go.Proofs.YtghhmnjkgnoogaaGreatW.PrintLast Go.Proofs.YtghhmnjkgnoogaaGreatW.PrintMore
attribute [local go_sem] max2_int min2_int max_two min_two max_three min_three max_four min_four   -- for this text's walks alone
set_option linter.unusedVariables false
set_option linter.unusedSimpArgs false
/-! ### slices_ContainsFunc_int_int: function 40 -/
theorem slices_ContainsFunc_int_int.index (p : List Int → Bool) (g : Nat) (lb : Array Value) (eg : ∀ args w, (callFunc g args).run Tryz.prog w = .ok (.enter g args) w) (A0 : Option Addr) (c0 : Nat) (l0 : List (List Int)) (w : World)
    (hp : ∀ (W : World) (A : Option Addr) (c : Nat) (x : List Int), x ∈ l0 → Below w.heap.size w W → Kd.C (Kd.int .i64) W A x.length x → x.length ≤ c → Calls Tryz.prog g (#[.slice A x.length c] ++ lb) W fun e w' => e = .returned (.bool (p x)) ∧ Below W.heap.size W w') (hr0 : Kd.C (Kd.slice 3 (Kd.int .i64)) w A0 l0.length l0) :
    Calls Tryz.prog 62 #[.slice A0 l0.length c0, .func (.func g) #[] lb] w fun e w' => (∃ i : Int, e = .returned (.int .i64 i) ∧ IdxOf p l0 i) ∧ Below w.heap.size w w' := by
  have HR0 := Aside0.mk hr0
  have hlen := hr0.2.1
  have HP := Aside0.mk hp
  have HB := Aside0.mk (Below.refl w.heap.size w)
  clear hr0 hp
  go_enter Tryz.func62, Tryz.ntmps62
  go_wp2
  go_loopg [5, 8] l0.length (fun gg _ s8 wr => ∃ kk : Nat, kk ≤ l0.length ∧ l0.length - kk ≤ gg ∧ s8 = .int .i64 kk ∧ Aside0 (Below w.heap.size w wr) ∧ Aside0 (∀ j, j < kk → p (l0.getD j []) = false))
  case atStart => exact ⟨0, Nat.zero_le _, by omega, rfl, HB, ⟨fun j hj => absurd hj (Nat.not_lt_zero _)⟩⟩
  case round =>
    clear HB
    obtain ⟨kk, hkk, hg, rfl, HB, A⟩ := hrel
    by_cases hlt : kk < l0.length
    · have hltz : (kk : Int) < (l0.length : Int) := by omega
      obtain ⟨ad, A1, c1, e1, hx, hl1, hi1⟩ := at_L3 (Kd.C_below HR0.out HB.out) kk (by omega) hltz
      cases e1
      have hy : rd_L3 l0 (kk : Int) = l0.getD kk [] := by simp [rd_L3]
      have hmem : l0.getD kk [] ∈ l0 := by
        rw [List.getD_eq_getElem?_getD, List.getElem?_eq_getElem hlt]
        exact List.getElem_mem hlt
      rw [Int.toNat_natCast] at hx
      rw [hy] at hx hl1 hi1
      generalize hyy : l0.getD kk [] = y at *
      have B := Aside0.mk hyy
      have hcall := HP.out _ A1 c1 y hmem HB.out hi1 hl1
      have HM := Aside0.mk hmem
      clear hyy hy hmem hl1 hi1 HP
      cases hq : p y with
      | true =>
        rw [hq] at hcall
        have hcall2 : Aside0 (p y = true) := ⟨hq⟩
        clear hq
        go_wp2_with (go_at_fn g; refine hcall.mono ?_; rintro e w' ⟨rfl, hb⟩)
        go_ret
        refine ⟨⟨_, rfl, ?_⟩, below_step HB.out hb⟩
        have hm : l0.any p = true := by
          rw [List.any_eq_true]
          exact ⟨y, HM.out, hcall2.out⟩
        exact ⟨fun _ => hm, fun _ => by omega⟩
      | false =>
        rw [hq] at hcall
        have hcall2 : Aside0 (p y = false) := ⟨hq⟩
        clear hq
        go_wp2_with (go_at_fn g; refine hcall.mono ?_; rintro e w' ⟨rfl, hb⟩)
        go_roundg (l0.length - (kk + 1))
        case measure => omega
        case rel =>
          refine ⟨kk + 1, by omega, by omega, by go_num, ⟨below_step HB.out hb⟩, ⟨fun j hj => ?_⟩⟩
          by_cases e : j = kk
          · subst e
            rw [B.out]; exact hcall2.out
          · exact A.out j (by omega)
    · have hltz : ¬ (kk : Int) < (l0.length : Int) := by omega
      have : kk = l0.length := by omega
      subst this
      clear HP
      go_wp2
      go_ret
      refine ⟨⟨_, rfl, ?_⟩, HB.out⟩
      have hm : l0.any p = false := by
        rw [List.any_eq_false]
        intro x hx
        obtain ⟨j, hj, rfl⟩ := List.getElem_of_mem hx
        have := A.out j hj
        rw [List.getD_eq_getElem?_getD, List.getElem?_eq_getElem hj] at this
        simpa using this
      exact ⟨fun h => absurd h (by decide), fun h => by rw [hm] at h; cases h⟩
theorem slices_ContainsFunc_int_int.gives (p : List Int → Bool) (g : Nat) (lb : Array Value) (eg : ∀ args w, (callFunc g args).run Tryz.prog w = .ok (.enter g args) w) (A0 : Option Addr) (c0 : Nat) (l0 : List (List Int)) (w : World)
    (hp : ∀ (W : World) (A : Option Addr) (c : Nat) (x : List Int), x ∈ l0 → Below w.heap.size w W → Kd.C (Kd.int .i64) W A x.length x → x.length ≤ c → Calls Tryz.prog g (#[.slice A x.length c] ++ lb) W fun e w' => e = .returned (.bool (p x)) ∧ Below W.heap.size W w') (hr0 : Kd.C (Kd.slice 3 (Kd.int .i64)) w A0 l0.length l0) :
    Calls Tryz.prog 40 #[.slice A0 l0.length c0, .func (.func g) #[] lb] w fun e w' => e = .returned (.bool (l0.any p)) ∧ Below w.heap.size w w' := by
  have hc := slices_ContainsFunc_int_int.index p g lb eg A0 c0 l0 w hp hr0
  clear hp hr0
  unfold IdxOf at hc
  generalize l0.any p = b at *
  go_enter Tryz.func40, Tryz.ntmps40
  go_wp2_with (go_at_call 62; refine hc.mono ?_; rintro e w' ⟨⟨i, rfl, hi⟩, hb⟩)
  cases b with
  | true =>
    have h0 : 0 ≤ i := hi.2 rfl
    clear hi
    go_wp2
    go_ret
    exact ⟨by first | rfl | (simp [h0]; done) | (simp; omega), hb⟩
  | false =>
    have h0 : ¬ 0 ≤ i := fun h => by have := hi.1 h; cases this
    clear hi
    go_wp2
    go_ret
    exact ⟨by first | rfl | (simp [h0]; done) | (simp; omega), hb⟩
/-! ### strings_Repeat: function 64 -/
open Go.Shelf in
def strings_Repeat.lays_ren : Go.Shelf.Ren := ⟨fun | 105 => 64 | 212 => 80 | 99 => 81 | 165 => 82 | 166 => 83 | 170 => 84 | 169 => 85 | 263 => 104 | 264 => 105 | 206 => 106 | 240 => 107 | 241 => 108 | 276 => 118 | 277 => 119 | n => n, fun | 9 => 9 | 3 => 3 | 4 => 4 | 20 => 20 | 0 => 0 | 46 => 102 | 109 => 110 | 5 => 5 | 72 => 115 | 76 => 119 | 51 => 104 | 146 => 141 | 53 => 139 | 148 => 143 | 70 => 113 | 37 => 90 | 75 => 118 | 127 => 145 | 164 => 153 | 80 => 122 | n => n, fun | n => n⟩
open Go.Shelf in
theorem strings_Repeat.lays : Go.Proofs.Lays.n105 Tryz.prog strings_Repeat.lays_ren := {
  mixed := by kernel_rfl
  f99 := Tryz.func81.trans (congrArg some (by kernel_rfl))
  f105 := Tryz.func64.trans (congrArg some (by kernel_rfl))
  f165 := Tryz.func82.trans (congrArg some (by kernel_rfl))
  f166 := Tryz.func83.trans (congrArg some (by kernel_rfl))
  f169 := Tryz.func85.trans (congrArg some (by kernel_rfl))
  f170 := Tryz.func84.trans (congrArg some (by kernel_rfl))
  f206 := Tryz.func106.trans (congrArg some (by kernel_rfl))
  f212 := Tryz.func80.trans (congrArg some (by kernel_rfl))
  f240 := Tryz.func107.trans (congrArg some (by kernel_rfl))
  f241 := Tryz.func108.trans (congrArg some (by kernel_rfl))
  f263 := Tryz.func104.trans (congrArg some (by kernel_rfl))
  f264 := Tryz.func105.trans (congrArg some (by kernel_rfl))
  f276 := Tryz.func118.trans (congrArg some (by kernel_rfl))
  f277 := Tryz.func119.trans (congrArg some (by kernel_rfl))
  t0 := Tryz.underlying0
  a0 := Tryz.isAgg0
  z0 := Tryz.sizeOf0
  v0 := Tryz.zeroValue0
  t3 := Tryz.underlying3
  a3 := Tryz.isAgg3
  z3 := Tryz.sizeOf3
  v3 := Tryz.zeroValue3
  t4 := Tryz.underlying4
  a4 := Tryz.isAgg4
  z4 := Tryz.sizeOf4
  v4 := Tryz.zeroValue4
  t5 := Tryz.underlying5
  a5 := Tryz.isAgg5
  z5 := Tryz.sizeOf5
  v5 := Tryz.zeroValue5
  t9 := Tryz.underlying9
  a9 := Tryz.isAgg9
  z9 := Tryz.sizeOf9
  v9 := Tryz.zeroValue9
  t20 := Tryz.underlying20
  a20 := Tryz.isAgg20
  z20 := Tryz.sizeOf20
  v20 := Tryz.zeroValue20
  t37 := Tryz.underlying90
  a37 := Tryz.isAgg90
  z37 := Tryz.sizeOf90
  v37 := Tryz.zeroValue90
  t46 := Tryz.underlying102
  a46 := Tryz.isAgg102
  z46 := Tryz.sizeOf102
  v46 := Tryz.zeroValue102
  t51 := Tryz.underlying104
  a51 := Tryz.isAgg104
  z51 := Tryz.sizeOf104
  v51 := Tryz.zeroValue104
  t53 := Tryz.underlying139
  a53 := Tryz.isAgg139
  z53 := Tryz.sizeOf139
  v53 := Tryz.zeroValue139
  t70 := Tryz.underlying113
  a70 := Tryz.isAgg113
  z70 := Tryz.sizeOf113
  v70 := Tryz.zeroValue113
  t72 := Tryz.underlying115
  a72 := Tryz.isAgg115
  z72 := Tryz.sizeOf115
  v72 := Tryz.zeroValue115
  t75 := Tryz.underlying118
  a75 := Tryz.isAgg118
  z75 := Tryz.sizeOf118
  v75 := Tryz.zeroValue118
  t76 := Tryz.underlying119
  a76 := Tryz.isAgg119
  z76 := Tryz.sizeOf119
  v76 := Tryz.zeroValue119
  t109 := Tryz.underlying110
  a109 := Tryz.isAgg110
  z109 := Tryz.sizeOf110
  v109 := Tryz.zeroValue110
  t127 := Tryz.underlying145
  a127 := Tryz.isAgg145
  z127 := Tryz.sizeOf145
  v127 := Tryz.zeroValue145
  t146 := Tryz.underlying141
  a146 := Tryz.isAgg141
  z146 := Tryz.sizeOf141
  v146 := Tryz.zeroValue141
  t148 := Tryz.underlying143
  a148 := Tryz.isAgg143
  z148 := Tryz.sizeOf143
  v148 := Tryz.zeroValue143
  t164 := Tryz.underlying153
  a164 := Tryz.isAgg153
  z164 := Tryz.sizeOf153
  v164 := Tryz.zeroValue153 }
open Go.Shelf in
theorem strings_Repeat.extra : Builder.Extra Tryz.prog strings_Repeat.lays_ren where
  sizeBuilder := by kernel_rfl
  liesBuilder := by kernel_rfl
  t5 := Tryz.underlying5
  a5 := Tryz.isAgg5
  z5 := Tryz.sizeOf5
  v5 := Tryz.zeroValue5
  infoByte := by kernel_rfl
  cellsByte := by kernel_rfl
  sizeByte := by kernel_rfl
  neB5 := by decide
def strings_Repeat.f (a0 : ByteArray) (a1 : Int) : Option ByteArray := if 0 ≤ a1 ∧ a1 ≤ 9223372036854775807 ∧ a0.size * a1.toNat ≤ 140737488355328 then some ⟨(Lib.repeatL a0.data.toList a1.toNat).toArray⟩ else none
theorem strings_Repeat.calls (a0 : ByteArray) (a1 : Int) (r : ByteArray) (w : World) (h : strings_Repeat.f a0 a1 = some r) :
    Calls Tryz.prog 64 #[.string a0, .int .i64 a1] w fun e w' => e = .returned (.string r) ∧ Below w.heap.size w w' := by
  unfold strings_Repeat.f at h
  split at h
  rotate_left
  · cases h
  rename_i hb
  obtain ⟨b1, b2, b3⟩ := hb
  cases h
  obtain ⟨c, rfl⟩ := Int.eq_ofNat_of_zero_le b1
  rw [Int.toNat_natCast] at b3 ⊢
  exact Any.strings_Repeat strings_Repeat.lays strings_Repeat.extra a0 c w (by omega) b3
/-! ### block_Zero: function 42 -/
def block_Zero.f (a0 : Int) : Option (ByteArray) := (block_may.f a0).bind fun t396 => (if t396 = true then ((strings_Repeat.f (⟨#[0]⟩ : ByteArray) a0).bind fun t397 => (some t397)) else (some (⟨#[]⟩ : ByteArray)))
set_option maxHeartbeats 8000000 in
set_option maxRecDepth 100000 in
theorem block_Zero.calls (a0 : Int) (r : ByteArray) (w : World) (h : block_Zero.f a0 = some r) :
  Calls Tryz.prog 42 #[.int .i64 a0] w fun e w' => e = .returned (.string r) ∧ Below w.heap.size w w' := by
 have HB := Aside0.mk (Below.refl w.heap.size w)
 have H : ((block_may.f a0).bind fun t396 => (if t396 = true then ((strings_Repeat.f (⟨#[0]⟩ : ByteArray) a0).bind fun t397 => (some t397)) else (some (⟨#[]⟩ : ByteArray)))) = some r := h
 clear h; replace H := Option.bind_eq_some_iff.mp H
 obtain ⟨t396, A20, H⟩ := H
 replace H : (if t396 = true then ((strings_Repeat.f (⟨#[0]⟩ : ByteArray) a0).bind fun t397 => (some t397)) else (some (⟨#[]⟩ : ByteArray))) = some r := H
 have A2 := Aside0.mk A20
 clear A20; by_cases c3 : t396 = true
 ·
  subst c3
  have H1 : ((strings_Repeat.f (⟨#[0]⟩ : ByteArray) a0).bind fun t397 => (some t397)) = some r := by rw [if_pos rfl] at H; exact H
  clear H; have H := H1; clear H1; replace H := Option.bind_eq_some_iff.mp H
  obtain ⟨t397, A40, H⟩ := H
  replace H : (some t397) = some r := H
  have A4 := Aside0.mk A40
  clear A40; obtain rfl := Option.some.inj H
  go_enter Tryz.func42, Tryz.ntmps42
  go_wp2_with (first | ((with_reducible refine gate_callee (f := 63) rfl ?_); refine goesL_ (some 4) rfl rfl Tryz.func63 (by kernel_rfl) rfl #[.int .i64 a0] rfl zM ?_; (with_reducible refine (block_may.calls a0 true _ A2.out).mono ?_); rintro e w' ⟨rfl, ⟨nd, rfl⟩⟩; refine ⟨_, rfl, ?_⟩) | ((with_reducible refine gate_callee (f := 64) rfl ?_); refine goesL_ (some 7) rfl rfl Tryz.func64 (by kernel_rfl) rfl #[.string (⟨#[0]⟩ : ByteArray), .int .i64 a0] rfl zM ?_; (with_reducible refine (strings_Repeat.calls (⟨#[0]⟩ : ByteArray) a0 t397 _ A4.out).mono ?_); rintro e w5 ⟨rfl, hb⟩; refine ⟨_, rfl, ?_⟩; replace HB := Aside0.mk (below_step zB hb); (try clear hb); (try clear hb2); (try clear hk); (try clear hi)))
  go_ret
  exact ⟨zE, zB⟩
 ·
  replace c3 := Bool.eq_false_iff.mpr c3
  subst c3
  have H1 : (some (⟨#[]⟩ : ByteArray)) = some r := by rw [if_neg (show ¬ (false = true) by decide)] at H; exact H
  clear H; have H := H1; clear H1; obtain rfl := Option.some.inj H
  go_enter Tryz.func42, Tryz.ntmps42
  go_wp2_with (first | ((with_reducible refine gate_callee (f := 63) rfl ?_); refine goesL_ (some 4) rfl rfl Tryz.func63 (by kernel_rfl) rfl #[.int .i64 a0] rfl zM ?_; (with_reducible refine (block_may.calls a0 false _ A2.out).mono ?_); rintro e w' ⟨rfl, ⟨nd, rfl⟩⟩; refine ⟨_, rfl, ?_⟩))
  go_ret
  exact ⟨zE, zB⟩
/-! ### outer_Holds: function 22 -/
/-- Do all of some rules hold. -/
def outer_Holds.all (k : Nat) (l0 : List ByteArray) (z : Int) : List (List Int) → Option Bool
  | [] => some true
  | r :: rs => (outer_sum.f k l0 r z).bind fun s => (block_Zero.f z).bind fun t => (outer_Holds.all k l0 z rs).bind fun b => some ((s.toList == t.toList) && b)
def outer_Holds.f (k : Nat) (a0_0 a0_1 a0_2 a0_3 : Int) (l0 : List ByteArray) : Option Bool :=
  (outer_Check.f a0_0 a0_1 a0_2 a0_3).bind fun c => if c = true then (if (l0.length : Int) = wrap64 (a0_1 + a0_2) then (outer_sized.f l0).bind fun s => if s = true then
    (if 0 < l0.length then (outer_rules.f k a0_0 a0_1 a0_2 a0_3).bind fun rs => outer_Holds.all k l0 ((rdOf ByteArray.empty l0 0).size : Int) rs else none) else some false else some false) else some false
theorem outer_Holds.all_mono (k : Nat) (l0 : List ByteArray) (z : Int) : ∀ rs, LeO (outer_Holds.all k l0 z rs) (outer_Holds.all (k + 1) l0 z rs)
  | [] => LeO.refl _
  | r :: rs => by
    unfold outer_Holds.all
    exact LeO.bind (outer_sum.mono _ _ _ _) (fun _ => LeO.bind (LeO.refl _) (fun _ => LeO.bind (outer_Holds.all_mono k l0 z rs) (fun _ => LeO.refl _)))
theorem outer_Holds.mono : ∀ a0_0 a0_1 a0_2 a0_3 l0 k, LeO (outer_Holds.f k a0_0 a0_1 a0_2 a0_3 l0) (outer_Holds.f (k + 1) a0_0 a0_1 a0_2 a0_3 l0) := by
  intro a0_0 a0_1 a0_2 a0_3 l0 k
  unfold outer_Holds.f
  exact LeO.bind (LeO.refl _) (fun _ => LeO.ite (LeO.ite (LeO.bind (LeO.refl _) (fun _ => LeO.ite (LeO.ite (LeO.bind (outer_rules.mono _ _ _ _ _) (fun _ => outer_Holds.all_mono _ _ _ _)) (LeO.refl _)) (LeO.refl _))) (LeO.refl _)) (LeO.refl _))
def outer_Holds.bad (k : Nat) (l0 : List ByteArray) (z : Int) (r : List Int) : Bool := ((outer_sum.f k l0 r z).getD ⟨#[]⟩).toList != ((block_Zero.f z).getD ⟨#[]⟩).toList
theorem outer_Holds.all_some (k : Nat) (l0 : List ByteArray) (z : Int) : ∀ rs b, outer_Holds.all k l0 z rs = some b → (∀ r ∈ rs, ∃ s t, outer_sum.f k l0 r z = some s ∧ block_Zero.f z = some t) ∧ b = !(rs.any (outer_Holds.bad k l0 z))
  | [], b, h => ⟨fun r hr => absurd hr (by simp), by unfold outer_Holds.all at h; rw [← Option.some.inj h]; rfl⟩
  | r :: rs, b, h => by
    unfold outer_Holds.all at h
    obtain ⟨s, hs, h⟩ := Option.bind_eq_some_iff.mp h
    obtain ⟨t, ht, h⟩ := Option.bind_eq_some_iff.mp h
    obtain ⟨b2, hb2, h⟩ := Option.bind_eq_some_iff.mp h
    obtain ⟨h1, h2⟩ := outer_Holds.all_some k l0 z rs b2 hb2
    refine ⟨fun x hx => ?_, ?_⟩
    · rcases List.mem_cons.1 hx with e | e
      · subst e; exact ⟨s, t, hs, ht⟩
      · exact h1 x e
    · rw [← Option.some.inj h, h2, List.any_cons]
      have hb : outer_Holds.bad k l0 z r = (s.toList != t.toList) := by unfold outer_Holds.bad; rw [hs, ht]; rfl
      rw [hb, Bool.not_or]
      unfold bne
      rw [Bool.not_not]
theorem outer_Holds.one {w : World} {g : Nat} {t : TypeId} {v : Value} (h : Aside0 (w.heap[g]? = some (.cells #[v] t (0, 0)))) : w.cell? ⟨g, 0, none⟩ = some v := (blk_cell h.out 0).trans rfl
theorem outer_Holds.onef {w : World} {g : Nat} {t : TypeId} {v : Value} (h : Aside0 (w.heap[g]? = some (.cells #[v] t (0, 0)))) : w.frozen? ⟨g, 0, none⟩ = false := blk_frozen h.out 0
set_option maxHeartbeats 1000000 in
theorem outer_Holds.pred (k : Nat) (l0 : List ByteArray) (z : Int) (A0 : Option Addr) (c0 : Nat) (hc0 : l0.length ≤ c0) (g1 g2 : Nat) (x : List Int) (s t : ByteArray) (hs : outer_sum.f k l0 x z = some s) (ht : block_Zero.f z = some t) (A : Option Addr) (c : Nat) (hx : x.length ≤ c) (W : World)
    (hr0 : Kd.C Kd.string W A0 l0.length l0) (hrx : Kd.C (Kd.int .i64) W A x.length x) (h1 : W.cell? ⟨g1, 0, none⟩ = some (.slice A0 l0.length c0)) (h2 : W.cell? ⟨g2, 0, none⟩ = some (.int .i64 z)) :
    Calls Tryz.prog 41 (#[.slice A x.length c] ++ #[.pointer (some ⟨g1, 0, none⟩), .pointer (some ⟨g2, 0, none⟩)]) W fun e w' => e = .returned (.bool (s.toList != t.toList)) ∧ Below W.heap.size W w' := by
  show Calls Tryz.prog 41 #[.slice A x.length c, .pointer (some ⟨g1, 0, none⟩), .pointer (some ⟨g2, 0, none⟩)] W _
  have HS := Aside0.mk hs
  have HT := Aside0.mk ht
  have HR0 := Aside0.mk hr0
  have HRX := Aside0.mk hrx
  have HC0 := Aside0.mk hc0
  have HX := Aside0.mk hx
  have HB := Aside0.mk (Below.refl W.heap.size W)
  clear hs ht hr0 hrx hc0 hx
  go_enter Tryz.func41, Tryz.ntmps41
  go_wp2_with fail
  go_region_held3 (fun w' => w'.cell? ⟨g1, 0, none⟩ = some (.slice A0 l0.length c0) ∧ w'.cell? ⟨g2, 0, none⟩ = some (.int .i64 z)) (first | go_keep | (go_split_ands; refine ⟨?_, ?_⟩ <;> exact pw_cell_below hbk (by assumption)))
    (first | (go_at_call 37; refine (outer_sum.calls k A0 c0 l0 A c x z s _ (Kd.C_below HR0.out zB) HC0.out (Kd.C_below HRX.out zB) HX.out HS.out).mono ?_; rintro e w' ⟨rfl, hbk⟩; replace HB := Aside0.mk (below_step zB hbk)) | (go_at_call 42; refine (block_Zero.calls z t _ HT.out).mono ?_; rintro e w' ⟨rfl, hbk⟩; replace HB := Aside0.mk (below_step zB hbk)))
  all_goals
    go_wp2
    go_ret
    exact ⟨by first | rfl | (simp; done), zB⟩
set_option maxHeartbeats 4000000 in
set_option maxRecDepth 100000 in
theorem outer_Holds.calls (k : Nat) (a0_0 a0_1 a0_2 a0_3 : Int) (A1 : Option Addr) (c1 : Nat) (l1 : List ByteArray) (r : Bool) (w : World) (hr1 : Kd.C Kd.string w A1 l1.length l1) (hc1 : l1.length ≤ c1) (h : outer_Holds.f k a0_0 a0_1 a0_2 a0_3 l1 = some r) :
    Calls Tryz.prog 22 #[.agg #[.int .i64 a0_0, .int .i64 a0_1, .int .i64 a0_2, .int .i64 a0_3], .slice A1 l1.length c1] w fun e w' => e = .returned (.bool r) ∧ Below w.heap.size w w' := by
  have hu23 := Tryz.underlying23
  have HR1 := Aside0.mk hr1
  have HC1 := Aside0.mk hc1
  have HB := Aside0.mk (Below.refl w.heap.size w)
  clear hr1 hc1
  unfold outer_Holds.f at h
  obtain ⟨t1, A5, h⟩ := Option.bind_eq_some_iff.mp h
  have A5 := Aside0.mk A5
  cases t1 with
  | false =>
    rw [if_neg (by decide)] at h
    obtain rfl := Option.some.inj h
    clear h
    go_enter Tryz.func22, Tryz.ntmps22
    go_wp2_with (first | ((with_reducible refine gate_dst (N := 2) rfl ?_); refine box_event ?hg (N := 2) ?hd (cs := #[.int .i64 a0_0, .int .i64 a0_1, .int .i64 a0_2, .int .i64 a0_3]) (t := 23) ?hr ?_; (case hd => rfl); (case hg => rfl); (case hr => first | (go_simp; done) | (go_simp; rfl)); intro g1 hg w2 hbox hb; have BK1 := Aside0.mk hbox; have GE1 := Aside0.mk ((zg : w.heap.size ≤ g1)); replace HB := Aside0.mk (below_step zB hb); clear hb hbox hg; obtain ⟨p0, p1, p2, p3⟩ := cZ4 BK1) | ((with_reducible refine gate_dst (N := 3) rfl ?_); refine box_event ?hg (N := 3) ?hd (cs := #[.slice A1 l1.length c1]) (t := 41) ?hr ?_; (case hd => rfl); (case hg => rfl); (case hr => first | (go_simp; done) | (go_simp; rfl)); intro g2 hg w2 hbox hb; have BK2 := Aside0.mk hbox; have GE2 := Aside0.mk ((zg : w.heap.size ≤ g2)); (try clear p0); (try clear p1); (try clear p2); (try clear p3); replace BK1 := Aside0.mk (blk_below (zk BK1) hb); replace HB := Aside0.mk (below_step zB hb); clear hb hbox hg; obtain ⟨p0, p1, p2, p3⟩ := cZ4 BK1; have q0 := outer_Holds.one BK2) | ((with_reducible refine gate_callee (f := 12) rfl ?_); refine goesL_ (some 7) rfl rfl Tryz.func12 (by kernel_rfl) rfl #[.agg #[.int .i64 a0_0, .int .i64 a0_1, .int .i64 a0_2, .int .i64 a0_3]] rfl zM ?_; (with_reducible refine (outer_Check.calls a0_0 a0_1 a0_2 a0_3 false _ A5.out).mono ?_); rintro e w4 ⟨rfl, hb⟩; refine ⟨_, rfl, ?_⟩; (try clear p0); (try clear p1); (try clear p2); (try clear p3); (try clear q0); replace BK1 := Aside0.mk (blk_below (zk BK1) hb); replace BK2 := Aside0.mk (blk_below (zk BK2) hb); replace HB := Aside0.mk (below_step zB hb); clear hb; obtain ⟨p0, p1, p2, p3⟩ := cZ4 BK1; have q0 := outer_Holds.one BK2))
    go_ret
    exact ⟨zE, zB⟩
  | true =>
    rw [if_pos rfl] at h
    by_cases c7 : (l1.length : Int) = wrap64 (a0_1 + a0_2)
    · rw [if_pos c7] at h
      have c7b0 : ((l1.length : Int) == wrap64 (a0_1 + a0_2)) = true := beq_iff_eq.mpr c7
      have c7b1 : ((l1.length : Int) != wrap64 (a0_1 + a0_2)) = false := bne_eq_false_iff_eq.mpr c7
      clear c7
      obtain ⟨t2, A8, h⟩ := Option.bind_eq_some_iff.mp h
      have A8 := Aside0.mk A8
      cases t2 with
      | false =>
        rw [if_neg (by decide)] at h
        obtain rfl := Option.some.inj h
        clear h
        go_enter Tryz.func22, Tryz.ntmps22
        go_wp2_with (first | ((with_reducible refine gate_dst (N := 2) rfl ?_); refine box_event ?hg (N := 2) ?hd (cs := #[.int .i64 a0_0, .int .i64 a0_1, .int .i64 a0_2, .int .i64 a0_3]) (t := 23) ?hr ?_; (case hd => rfl); (case hg => rfl); (case hr => first | (go_simp; done) | (go_simp; rfl)); intro g1 hg w2 hbox hb; have BK1 := Aside0.mk hbox; have GE1 := Aside0.mk ((zg : w.heap.size ≤ g1)); replace HB := Aside0.mk (below_step zB hb); clear hb hbox hg; obtain ⟨p0, p1, p2, p3⟩ := cZ4 BK1) | ((with_reducible refine gate_dst (N := 3) rfl ?_); refine box_event ?hg (N := 3) ?hd (cs := #[.slice A1 l1.length c1]) (t := 41) ?hr ?_; (case hd => rfl); (case hg => rfl); (case hr => first | (go_simp; done) | (go_simp; rfl)); intro g2 hg w2 hbox hb; have BK2 := Aside0.mk hbox; have GE2 := Aside0.mk ((zg : w.heap.size ≤ g2)); (try clear p0); (try clear p1); (try clear p2); (try clear p3); replace BK1 := Aside0.mk (blk_below (zk BK1) hb); replace HB := Aside0.mk (below_step zB hb); clear hb hbox hg; obtain ⟨p0, p1, p2, p3⟩ := cZ4 BK1; have q0 := outer_Holds.one BK2) | ((with_reducible refine gate_callee (f := 12) rfl ?_); refine goesL_ (some 7) rfl rfl Tryz.func12 (by kernel_rfl) rfl #[.agg #[.int .i64 a0_0, .int .i64 a0_1, .int .i64 a0_2, .int .i64 a0_3]] rfl zM ?_; (with_reducible refine (outer_Check.calls a0_0 a0_1 a0_2 a0_3 true _ A5.out).mono ?_); rintro e w4 ⟨rfl, hb⟩; refine ⟨_, rfl, ?_⟩; (try clear p0); (try clear p1); (try clear p2); (try clear p3); (try clear q0); replace BK1 := Aside0.mk (blk_below (zk BK1) hb); replace BK2 := Aside0.mk (blk_below (zk BK2) hb); replace HB := Aside0.mk (below_step zB hb); clear hb; obtain ⟨p0, p1, p2, p3⟩ := cZ4 BK1; have q0 := outer_Holds.one BK2) | (go_at_call 35; (with_reducible refine (outer_sized.calls _ _ l1 false _ (Kd.C_below HR1.out HB.out) HC1.out A8.out).mono ?_); rintro e w5 ⟨rfl, hb⟩; (try clear p0); (try clear p1); (try clear p2); (try clear p3); (try clear q0); replace BK1 := Aside0.mk (blk_below (zk BK1) hb); replace BK2 := Aside0.mk (blk_below (zk BK2) hb); replace HB := Aside0.mk (below_step zB hb); clear hb; obtain ⟨p0, p1, p2, p3⟩ := cZ4 BK1; have q0 := outer_Holds.one BK2))
        go_ret
        exact ⟨zE, zB⟩
      | true =>
        rw [if_pos rfl] at h
        by_cases c0 : 0 < l1.length
        · rw [if_pos c0] at h
          obtain ⟨rs, A9, h⟩ := Option.bind_eq_some_iff.mp h
          have A9 := Aside0.mk A9
          obtain ⟨ad, e1, hcell⟩ := Kd.at_string HR1.out 0 (by omega) (by omega)
          subst e1
          have h0 : w.cell? ad = some (.string (rdOf ByteArray.empty l1 0)) := by
            have h9 := hcell
            simpa [Addr.add] using h9
          have H0 := Aside0.mk h0
          have had : ad.add 0 = ad := by simp [Addr.add]
          have hz1 : decide (0 < l1.length) = true := decide_eq_true c0
          have hz2 : (0 : Int) < (l1.length : Int) := by omega
          have hz3 : (0 < l1.length) = True := eq_true c0
          clear hcell h0 c0
          generalize hs0 : rdOf ByteArray.empty l1 0 = s0 at *
          have HS0 := Aside0.mk hs0
          have HALL := Aside0.mk (outer_Holds.all_some k l1 (s0.size : Int) rs r h)
          clear h hs0
          go_enter Tryz.func22, Tryz.ntmps22
          go_upto_region 3 with (first | ((with_reducible refine gate_dst (N := 2) rfl ?_); refine box_event ?hg (N := 2) ?hd (cs := #[.int .i64 a0_0, .int .i64 a0_1, .int .i64 a0_2, .int .i64 a0_3]) (t := 23) ?hr ?_; (case hd => rfl); (case hg => rfl); (case hr => first | (go_simp; done) | (go_simp; rfl)); intro g1 hg w2 hbox hb; have BK1 := Aside0.mk hbox; have GE1 := Aside0.mk ((zg : w.heap.size ≤ g1)); replace HB := Aside0.mk (below_step zB hb); clear hb hbox hg; obtain ⟨p0, p1, p2, p3⟩ := cZ4 BK1) | ((with_reducible refine gate_dst (N := 3) rfl ?_); refine box_event ?hg (N := 3) ?hd (cs := #[.slice (some ad) l1.length c1]) (t := 41) ?hr ?_; (case hd => rfl); (case hg => rfl); (case hr => first | (go_simp; done) | (go_simp; rfl)); intro g2 hg w2 hbox hb; have BK2 := Aside0.mk hbox; have GE2 := Aside0.mk ((zg : w.heap.size ≤ g2)); (try clear p0); (try clear p1); (try clear p2); (try clear p3); replace BK1 := Aside0.mk (blk_below (zk BK1) hb); replace HB := Aside0.mk (below_step zB hb); clear hb hbox hg; obtain ⟨p0, p1, p2, p3⟩ := cZ4 BK1; have q0 := outer_Holds.one BK2) | ((with_reducible refine gate_callee (f := 12) rfl ?_); refine goesL_ (some 7) rfl rfl Tryz.func12 (by kernel_rfl) rfl #[.agg #[.int .i64 a0_0, .int .i64 a0_1, .int .i64 a0_2, .int .i64 a0_3]] rfl zM ?_; (with_reducible refine (outer_Check.calls a0_0 a0_1 a0_2 a0_3 true _ A5.out).mono ?_); rintro e w4 ⟨rfl, hb⟩; refine ⟨_, rfl, ?_⟩; (try clear p0); (try clear p1); (try clear p2); (try clear p3); (try clear q0); replace BK1 := Aside0.mk (blk_below (zk BK1) hb); replace BK2 := Aside0.mk (blk_below (zk BK2) hb); replace HB := Aside0.mk (below_step zB hb); clear hb; obtain ⟨p0, p1, p2, p3⟩ := cZ4 BK1; have q0 := outer_Holds.one BK2) | (go_at_call 35; (with_reducible refine (outer_sized.calls _ _ l1 true _ (Kd.C_below HR1.out HB.out) HC1.out A8.out).mono ?_); rintro e w5 ⟨rfl, hb⟩; (try clear p0); (try clear p1); (try clear p2); (try clear p3); (try clear q0); replace BK1 := Aside0.mk (blk_below (zk BK1) hb); replace BK2 := Aside0.mk (blk_below (zk BK2) hb); replace HB := Aside0.mk (below_step zB hb); clear hb; obtain ⟨p0, p1, p2, p3⟩ := cZ4 BK1; have q0 := outer_Holds.one BK2))
          have hq := pw_cell_below HB.out H0.out
          go_upto_region 4 with (first | ((with_reducible refine gate_dst (N := 5) rfl ?_); refine box_event ?hg (N := 5) ?hd (cs := #[.int .i64 0]) (t := 3) ?hr ?_; (case hd => rfl); (case hg => rfl); (case hr => first | (go_simp; done) | (go_simp; rfl)); intro g3 hg w2 hbox hb; have BK3 := Aside0.mk hbox; have GE3 := Aside0.mk ((zg : w.heap.size ≤ g3)); (try clear p0); (try clear p1); (try clear p2); (try clear p3); (try clear q0); have N13 := Aside0.mk ((by rw [hg]; exact Nat.ne_of_lt (blk_lt (zk BK1)) : g1 ≠ g3)); have N23 := Aside0.mk ((by rw [hg]; exact Nat.ne_of_lt (blk_lt (zk BK2)) : g2 ≠ g3)); replace BK1 := Aside0.mk (blk_below (zk BK1) hb); replace BK2 := Aside0.mk (blk_below (zk BK2) hb); replace HB := Aside0.mk (below_step zB hb); clear hb hbox hg; obtain ⟨p0, p1, p2, p3⟩ := cZ4 BK1; have q0 := outer_Holds.one BK2; have z0 := outer_Holds.onef BK3; have z1 := outer_Holds.one BK3))
          obtain ⟨W3, e3⟩ : ∃ W3, W3 = w2.setCell ⟨g3, 0, none⟩ (.int .i64 (s0.size : Int)) := ⟨_, rfl⟩
          rw [← e3]
          have n13 : g1 ≠ g3 := N13.out
          have n23 : g2 ≠ g3 := N23.out
          replace BK1 : Aside0 (W3.heap[g1]? = some (.cells #[.int .i64 a0_0, .int .i64 a0_1, .int .i64 a0_2, .int .i64 a0_3] 23 (0, 0))) := ⟨by rw [e3]; exact blk_far BK1.out (p := ⟨g3, 0, none⟩) n13 _⟩
          replace BK2 : Aside0 (W3.heap[g2]? = some (.cells #[.slice (some ad) l1.length c1] 41 (0, 0))) := ⟨by rw [e3]; exact blk_far BK2.out (p := ⟨g3, 0, none⟩) n23 _⟩
          replace BK3 : Aside0 (W3.heap[g3]? = some (.cells #[.int .i64 (s0.size : Int)] 3 (0, 0))) := ⟨by rw [e3]; exact blk_put (cs := #[.int .i64 0]) BK3.out 0 _ rfl⟩
          replace HB : Aside0 (Below w.heap.size w W3) := ⟨by rw [e3]; exact below_set HB.out GE3.out⟩
          clear e3 n13 n23 hq
          (try clear p0); (try clear p1); (try clear p2); (try clear p3); (try clear q0); (try clear z0); (try clear z1)
          obtain ⟨p0, p1, p2, p3⟩ := cZ4 BK1
          have q0 := outer_Holds.one BK2
          go_wp2_with (first | ((with_reducible refine gate_callee (f := 29) rfl ?_); refine goesL_ (some 29) rfl rfl Tryz.func29 (by kernel_rfl) rfl #[.agg #[.int .i64 a0_0, .int .i64 a0_1, .int .i64 a0_2, .int .i64 a0_3]] rfl zM ?_; (with_reducible refine (outer_rules.calls k a0_0 a0_1 a0_2 a0_3 rs _ A9.out).mono ?_); rintro e w7 ⟨v7, rfl, ho, hb⟩; refine ⟨_, rfl, ?_⟩; obtain ⟨Ar, cr, hv7, hlr, hCr⟩ := Kd.S_reads ho; subst hv7; have HCR := Aside0.mk hCr; clear ho hlr hCr; (try clear p0); (try clear p1); (try clear p2); (try clear p3); (try clear q0); replace BK1 := Aside0.mk (blk_below (zk BK1) hb); replace BK2 := Aside0.mk (blk_below (zk BK2) hb); replace BK3 := Aside0.mk (blk_below (zk BK3) hb); replace HB := Aside0.mk (below_step zB hb); clear hb) | (go_at_call 40; refine (slices_ContainsFunc_int_int.gives (outer_Holds.bad k l1 (s0.size : Int)) 41 #[.pointer (some ⟨g2, 0, none⟩), .pointer (some ⟨g3, 0, none⟩)] (enters_of Tryz.func41 (by kernel_rfl) rfl) Ar cr rs _ ?hp HCR.out).mono ?_; (case hp => intro W A c x hx hbW hC hl; obtain ⟨s, t, e1, e2⟩ := HALL.out.1 x hx; have hbad : outer_Holds.bad k l1 (s0.size : Int) x = (s.toList != t.toList) := (by simp only [outer_Holds.bad, e1, e2, Option.getD_some]); have hq2 := outer_Holds.pred k l1 (s0.size : Int) (some ad) c1 HC1.out g2 g3 x s t e1 e2 A c hl W (Kd.C_below (Kd.C_below HR1.out HB.out) hbW) hC (outer_Holds.one ⟨blk_below BK2.out hbW⟩) (outer_Holds.one ⟨blk_below BK3.out hbW⟩); rw [← hbad] at hq2; exact hq2); rintro e w8 ⟨rfl, hb⟩; replace HB := Aside0.mk (below_step zB hb); clear hb))
          go_ret
          have hr := HALL.out.2
          exact ⟨by rw [hr]; first | rfl | (simp; done), zB⟩
        · rw [if_neg c0] at h
          cases h
    · rw [if_neg c7] at h
      obtain rfl := Option.some.inj h
      have c7b0 : ((l1.length : Int) == wrap64 (a0_1 + a0_2)) = false := beq_eq_false_iff_ne.mpr c7
      have c7b1 : ((l1.length : Int) != wrap64 (a0_1 + a0_2)) = true := bne_iff_ne.mpr c7
      clear h c7
      go_enter Tryz.func22, Tryz.ntmps22
      go_wp2_with (first | ((with_reducible refine gate_dst (N := 2) rfl ?_); refine box_event ?hg (N := 2) ?hd (cs := #[.int .i64 a0_0, .int .i64 a0_1, .int .i64 a0_2, .int .i64 a0_3]) (t := 23) ?hr ?_; (case hd => rfl); (case hg => rfl); (case hr => first | (go_simp; done) | (go_simp; rfl)); intro g1 hg w2 hbox hb; have BK1 := Aside0.mk hbox; have GE1 := Aside0.mk ((zg : w.heap.size ≤ g1)); replace HB := Aside0.mk (below_step zB hb); clear hb hbox hg; obtain ⟨p0, p1, p2, p3⟩ := cZ4 BK1) | ((with_reducible refine gate_dst (N := 3) rfl ?_); refine box_event ?hg (N := 3) ?hd (cs := #[.slice A1 l1.length c1]) (t := 41) ?hr ?_; (case hd => rfl); (case hg => rfl); (case hr => first | (go_simp; done) | (go_simp; rfl)); intro g2 hg w2 hbox hb; have BK2 := Aside0.mk hbox; have GE2 := Aside0.mk ((zg : w.heap.size ≤ g2)); (try clear p0); (try clear p1); (try clear p2); (try clear p3); replace BK1 := Aside0.mk (blk_below (zk BK1) hb); replace HB := Aside0.mk (below_step zB hb); clear hb hbox hg; obtain ⟨p0, p1, p2, p3⟩ := cZ4 BK1; have q0 := outer_Holds.one BK2) | ((with_reducible refine gate_callee (f := 12) rfl ?_); refine goesL_ (some 7) rfl rfl Tryz.func12 (by kernel_rfl) rfl #[.agg #[.int .i64 a0_0, .int .i64 a0_1, .int .i64 a0_2, .int .i64 a0_3]] rfl zM ?_; (with_reducible refine (outer_Check.calls a0_0 a0_1 a0_2 a0_3 true _ A5.out).mono ?_); rintro e w4 ⟨rfl, hb⟩; refine ⟨_, rfl, ?_⟩; (try clear p0); (try clear p1); (try clear p2); (try clear p3); (try clear q0); replace BK1 := Aside0.mk (blk_below (zk BK1) hb); replace BK2 := Aside0.mk (blk_below (zk BK2) hb); replace HB := Aside0.mk (below_step zB hb); clear hb; obtain ⟨p0, p1, p2, p3⟩ := cZ4 BK1; have q0 := outer_Holds.one BK2))
      go_ret
      exact ⟨zE, zB⟩
end Go.Proofs.YtghhmnjkgnoogaaGreat.POuterWholes
