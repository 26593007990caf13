-- Written by this session's own program (wip/tools/mkprint.py) over the kit's printer, with overrides.
import Derived.Test.YtmebebpnogemdaaPOctBackx0
import Derived.Test.YtmebebpnogemdaaPOctBackx1
import Derived.Test.YtmebebpnogemdaaPOctBackx2
import Derived.Test.YtmebebpnogemdaaPOctBackx3
import Derived.Test.YtmebebpnogemdaaPOctBackx4
namespace Go.Proofs.Ytmebebpnogemdaa.POctBack
open Go.RowKit Go.Mine Go.Proofs.YtmebebpnogemdaaW.PrintWords Go.Proofs.YtmebebpnogemdaaW.PrintLast Go.Proofs.YtmebebpnogemdaaW.PrintMore
attribute [local go_sem] max2_int min2_int max_two min_two max_three min_three max_four min_four   -- for this text's walks alone
set_option linter.unusedVariables false
set_option linter.unusedSimpArgs false

/-! ### mosaiclaw02_OctBack: function 9 -/
/-- One field more: what is written, and what was kept. -/
def mosaiclaw02_OctBack.step (k : Nat) (x : S37) (s : ByteArray) (l : List S37) : Option (ByteArray × List S37) :=
  if (x.f3.size : Int) > 300 ∨ x.f0 < 0 ∨ x.f0 > 2 then some (s, l)
  else if x.f0 = 0 then (oct_Put.f k x.f1 x.f2).bind fun r => if r.2 = 0 then (if r.1.size ≤ 100 ∧ s.size + r.1.size ≤ 65536 then some (s ++ r.1, l ++ [x]) else none) else some (s, l)
  else if x.f0 = 1 then (oct_Put.f k (x.f3.size : Int) 2).bind fun r => if r.1.size ≤ 10 ∧ s.size + (r.1 ++ x.f3).size ≤ 65536 then some (s ++ (r.1 ++ x.f3), l ++ [x]) else none
  else if s.size + x.f3.size ≤ 65536 then some (s ++ x.f3, l ++ [x]) else none
def mosaiclaw02_OctBack.go (k : Nat) (l0 : List S37) : Nat → Nat → ByteArray → List S37 → Option (ByteArray × List S37)
  | 0, i, s, l => if i < l0.length ∧ i < 30 then none else some (s, l)
  | d + 1, i, s, l => if i < l0.length ∧ i < 30 then (mosaiclaw02_OctBack.step k (rd_T37 l0 (i : Int)) s l).bind fun r => mosaiclaw02_OctBack.go k l0 d (i + 1) r.1 r.2 else some (s, l)
/-- One field read. -/
def mosaiclaw02_OctBack.rstep (k : Nat) (x : S37) (q : ByteArray) : Option ByteArray :=
  if x.f0 = 0 then (oct_Reader_Num.f k q 0 x.f2).bind fun r => if r.1 = x.f1 ∧ r.2.2 = 0 then some r.2.1 else none
  else if x.f0 = 1 then (oct_Reader_Text.f q 0).bind fun r => if r.1 = x.f3 ∧ r.2.2 = 0 then some r.2.1 else none
  else if x.f0 = 2 then (oct_Reader_Raw.f q 0 (x.f3.size : Int)).bind fun r => if r.1 = x.f3 ∧ r.2.2 = 0 then some r.2.1 else none
  else none
def mosaiclaw02_OctBack.rgo (k : Nat) : List S37 → ByteArray → Option ByteArray
  | [], q => some q
  | x :: l, q => (mosaiclaw02_OctBack.rstep k x q).bind fun q => mosaiclaw02_OctBack.rgo k l q
def mosaiclaw02_OctBack.f (k : Nat) (l0 : List S37) (a1 : ByteArray) : Option Bool :=
  if (a1.size : Int) > 2000 then some true
  else (mosaiclaw02_OctBack.go k l0 30 0 ⟨#[]⟩ []).bind fun r => if r.2.length ≤ 1000 ∧ r.1.size ≤ 65536 then (mosaiclaw02_OctBack.rgo k r.2 (r.1 ++ a1)).bind fun q => if q = a1 ∧ oct_Reader_Rest.f a1 0 = some (a1, ⟨#[]⟩, 0) ∧ oct_Reader_End.f ⟨#[]⟩ 0 = some (0, ⟨#[]⟩, 0) then some true else none else none
theorem mosaiclaw02_OctBack.far {B g gb : Nat} {v : Value} {s : ByteArray} {er : Int} {W w1 : World} {cs : Array Value} {t : TypeId} (hi : IsWr 64 5 B g v s er W) (hb : W.heap[gb]? = some (.cells cs t (0, 0))) (hne : gb ≠ g) (ht : t ≠ 5)
    (hk : Kept W w1 (fun k => k = g ∨ v.ownBlock = some k)) : w1.heap[gb]? = some (.cells cs t (0, 0)) := by
  obtain ⟨p, hp, h⟩ := hi
  have hlt : gb < W.heap.size := (Array.getElem?_eq_some_iff.1 hb).1
  rw [hk.2 gb hlt (by
    rintro (h1 | h1)
    · exact hne h1
    · exact Go.Lib.ownBlock_neF h.2.2.1 hb ht h1)]
  exact hb
/-- The row that was kept, beside a writer's step. -/
theorem mosaiclaw02_OctBack.rowfar {B g n : Nat} {v vk : Value} {s : ByteArray} {er : Int} {W w1 : World} {cs : List Value} (hi : IsWr 64 5 B g v s er W) (ho : W.ownsRow B 37 4 vk n cs)
    (hk : Kept W w1 (fun k => k = g ∨ v.ownBlock = some k)) : w1.ownsRow B 37 4 vk n cs := by
  refine own_move ho fun k hk2 => ?_
  obtain ⟨cells, hc⟩ := own_typed ho k hk2
  have hlt : k < W.heap.size := (Array.getElem?_eq_some_iff.1 hc).1
  obtain ⟨p, hp, h⟩ := hi
  refine hk.2 k hlt ?_
  rintro (h1 | h1)
  · subst h1
    have h2 := h.2.1
    rw [hc] at h2
    injection h2 with h2
    injection h2 with _ h2
    exact absurd h2 (by decide)
  · exact Go.Lib.ownBlock_neF h.2.2.1 hc (by decide) h1
/-- A writer beside a grown row of another type. -/
theorem mosaiclaw02_OctBack.wrfar {B g n : Nat} {v vk : Value} {s : ByteArray} {er : Int} {W w1 : World} {cs : List Value} (hi : IsWr 64 5 B g v s er W) (ho : W.ownsRow B 37 4 vk n cs)
    (hg : W.grownBy w1 vk.ownBlock) : IsWr 64 5 B g v s er w1 := by
  obtain ⟨p, hp, h⟩ := hi
  refine ⟨p, hp, h.same fun k hk => ?_⟩
  have hlt : k < W.heap.size := hk.elim (fun e => e ▸ h.lt) (fun e => h.own_lt k e)
  refine hg.block k hlt fun e => ?_
  obtain ⟨cells, hc⟩ := own_typed ho k e.symm
  rcases hk with h1 | h1
  · subst h1
    have h2 := h.2.1
    rw [hc] at h2
    injection h2 with h2
    injection h2 with _ h2
    exact absurd h2 (by decide)
  · exact Go.Lib.ownBlock_neF h.2.2.1 hc (by decide) h1
theorem mosaiclaw02_OctBack.put_ok (s t : ByteArray) (h : s.size + t.size ≤ 65536) : putS s 0 t 0 = (s ++ t, 0) := by
  unfold putS
  rw [if_pos rfl, if_pos rfl, if_neg (by omega)]
theorem mosaiclaw02_OctBack.ne_rd {w W : World} {gr gb : Nat} {q : ByteArray} {er : Int} {cs : Array Value} (hi : IsS70 w W gr q er) (hb : W.heap[gb]? = some (.cells cs 37 (0, 0))) : gb ≠ gr := by
  rintro rfl
  have h2 := hi.1
  rw [hb] at h2
  injection h2 with h2
  injection h2 with _ h2
  exact absurd h2 (by decide)
theorem mosaiclaw02_OctBack.keptblk {W W0 w1 : World} {g gb : Nat} {o : Obj} (hb : W.heap[gb]? = some o) (hk : KeepBut W0 w1 g none) (hne : gb ≠ g) (hW : W0.heap = W.heap := by rfl) : w1.heap[gb]? = some o := by
  have hlt : gb < W0.heap.size := by rw [hW]; exact (Array.getElem?_eq_some_iff.1 hb).1
  rw [hk.2 gb hlt hne (by simp), hW]
  exact hb
theorem mosaiclaw02_OctBack.keptrow {W W0 w1 w : World} {g B n : Nat} {q : ByteArray} {er : Int} {v : Value} {cs : List Value} (ho : W.ownsRow B 37 4 v n cs) (hk : KeepBut W0 w1 g none) (hi : IsS70 w W g q er) (hW : W0.heap = W.heap := by rfl) : w1.ownsRow B 37 4 v n cs := by
  refine own_move ho fun k hk2 => ?_
  obtain ⟨cells, hc⟩ := own_typed ho k hk2
  rw [mosaiclaw02_OctBack.keptblk hc hk (mosaiclaw02_OctBack.ne_rd hi hc) hW, hc]
def mosaiclaw02_OctBack.fc (x : S37) : List Value := [.int .i64 x.f0, .int .i64 x.f1, .int .i64 x.f2, .string x.f3]
def mosaiclaw02_OctBack.fcs : List S37 → List Value
  | [] => []
  | x :: l => mosaiclaw02_OctBack.fc x ++ mosaiclaw02_OctBack.fcs l
theorem mosaiclaw02_OctBack.fcs_snoc (l : List S37) (x : S37) : mosaiclaw02_OctBack.fcs (l ++ [x]) = mosaiclaw02_OctBack.fcs l ++ mosaiclaw02_OctBack.fc x := by
  induction l with
  | nil => simp [mosaiclaw02_OctBack.fcs]
  | cons y l ih => simp only [List.cons_append, mosaiclaw02_OctBack.fcs, ih, List.append_assoc]
theorem mosaiclaw02_OctBack.reps' (w : World) (l : List S37) : ∀ (a : List S37) (ca : List Value), Reps (k37.K w) 4 a ca → Reps (k37.K w) 4 (a ++ l) (ca ++ mosaiclaw02_OctBack.fcs l) := by
  induction l with
  | nil => intro a ca h; simpa [mosaiclaw02_OctBack.fcs] using h
  | cons x l ih =>
    intro a ca h
    have h2 := ih (a ++ [x]) (ca ++ mosaiclaw02_OctBack.fc x) (h.snoc (k37_mk w x) rfl)
    rw [List.append_assoc, List.append_assoc] at h2
    exact h2
theorem mosaiclaw02_OctBack.reps (w : World) (l : List S37) : Reps (k37.K w) 4 l (mosaiclaw02_OctBack.fcs l) := by
  have h := mosaiclaw02_OctBack.reps' w l [] [] (Reps.none _ _)
  simpa using h
theorem mosaiclaw02_OctBack.reads {w : World} {B c : Nat} {A : Option Addr} {l : List S37} (h : w.ownsRow B 37 4 (.slice A l.length c) l.length (mosaiclaw02_OctBack.fcs l)) : Kd.C k37 w A l.length l := by
  obtain ⟨A', c', he, hr⟩ := own_reads_row h (mosaiclaw02_OctBack.reps w l) rfl
  injection he with h1 h2 h3
  subst h1
  exact hr
theorem mosaiclaw02_OctBack.mono (a : List S37) : True := trivial
set_option maxHeartbeats 20000000 in
set_option maxRecDepth 100000 in
theorem mosaiclaw02_OctBack.calls (k : Nat) (A0 : Option Addr) (c0 : Nat) (l0 : List S37) (a1 : ByteArray) (r : Bool) (w : World) (hr0 : Kd.C k37 w A0 l0.length l0) (hc0 : l0.length ≤ c0) (h : mosaiclaw02_OctBack.f k l0 a1 = some r) :
    Calls Try.prog 9 #[.slice A0 l0.length c0, .string a1] w fun e w' => e = .returned (.bool r) ∧ Below w.heap.size w w' := by
  unfold mosaiclaw02_OctBack.f at h
  have hlen := hr0.2.1
  have HR0 := Aside0.mk hr0
  clear hr0
  by_cases hA : (a1.size : Int) > 2000
  · rw [if_pos hA] at h
    have h := Option.some.inj h
    subst h
    have hz : (2000 : Int) < (a1.size : Int) := hA
    clear hA
    go_enter Try.func9, Try.ntmps9
    go_wp2_with fail
    refine (oct_To.wr w).mono ?_
    rintro e w8 ⟨rfl, hi8, hb8, hz8⟩
    have HB8 := Aside0.mk hb8
    clear hi8 hb8 hz8
    go_wp2_with fail
    refine (mosaiclaw02_awake.calls true _ rfl).mono ?_
    rintro e w10 ⟨rfl, hb10⟩
    have HB10 := Aside0.mk (below_step HB8.out hb10)
    clear hb10 HB8
    go_wp2_with fail
    refine (mosaiclaw02_awake.calls true _ rfl).mono ?_
    rintro e w11 ⟨rfl, hb11⟩
    have HB11 := Aside0.mk (below_step HB10.out hb11)
    clear hb11 HB10
    go_wp2_with fail
    go_ret
    exact ⟨rfl, HB11.out⟩
  rw [if_neg hA] at h
  have hz : ¬ (2000 : Int) < (a1.size : Int) := hA
  clear hA
  obtain ⟨⟨sf, lf⟩, hgo, h⟩ := Option.bind_eq_some_iff.mp h
  split at h
  rotate_left
  · cases h
  rename_i hbd
  obtain ⟨q, hq, h⟩ := Option.bind_eq_some_iff.mp h
  split at h
  rotate_left
  · cases h
  rename_i hend
  have h := Option.some.inj h
  subst h
  have HGO := Aside0.mk hgo
  have HBD := Aside0.mk hbd
  have HQ := Aside0.mk hq
  have HEND := Aside0.mk hend
  clear hgo hbd hq hend
  go_enter Try.func9, Try.ntmps9
  go_wp2_with fail
  refine (oct_To.wr w).mono ?_
  rintro e w8 ⟨rfl, hi8, hb8, hz8⟩
  have HI8 := Aside0.mk hi8
  have HB8 := Aside0.mk hb8
  clear hi8 hb8 hz8
  go_wp2_with fail
  refine (mosaiclaw02_awake.calls true _ rfl).mono ?_
  rintro e w10 ⟨rfl, hb10⟩
  have HI10 : Aside0 (IsWr 64 5 w.heap.size w.heap.size (.slice none 0 0) ⟨#[]⟩ 0 w10) := ⟨HI8.out.below hb10⟩
  have HB10 : Aside0 (Below w.heap.size w w10) := ⟨below_step HB8.out hb10⟩
  clear hb10 HI8 HB8
  go_wp2_with fail
  go_loopg [6, 7, 9, 10] 30 (fun kq v6 v7 v9 v10 wr => ∃ (d i : Nat) (s : ByteArray) (l : List S37) (v : Value), v7 = .int .i64 i ∧ Aside0 (d ≤ kq) ∧ Aside0 (i ≤ 30) ∧ Aside0 (mosaiclaw02_OctBack.go k l0 d i s l = some (sf, lf)) ∧ Aside0 (IsWr 64 5 w.heap.size w.heap.size v s 0 wr) ∧ Aside0 (wr.ownsRow w.heap.size 37 4 v6 l.length (mosaiclaw02_OctBack.fcs l)) ∧ Aside0 (s.size ≤ 65536 ∧ l.length ≤ i) ∧ Aside0 (Below w.heap.size w wr))
  case atStart => exact ⟨30, 0, ⟨#[]⟩, [], _, rfl, ⟨Nat.le_refl _⟩, ⟨by omega⟩, HGO, HI10, ⟨own_nil _ _ _ _⟩, ⟨by decide, by decide⟩, HB10⟩
  case round =>
    obtain ⟨d, i, s, l, v, rfl, HD, HI30, HGO2, HI, HOW, HS, HB⟩ := hrel
    clear HGO HI10 HB10
    by_cases hlt : i < l0.length ∧ i < 30
    · obtain ⟨d, rfl⟩ : ∃ d', d = d' + 1 := by
        cases d with
        | zero => have h9 := HGO2.out; rw [mosaiclaw02_OctBack.go, if_pos hlt] at h9; cases h9
        | succ d => exact ⟨d, rfl⟩
      have h9 := HGO2.out
      rw [mosaiclaw02_OctBack.go, if_pos hlt] at h9
      obtain ⟨⟨s2, l2⟩, hst, h9⟩ := Option.bind_eq_some_iff.mp h9
      have HNEXT := Aside0.mk h9
      clear h9 HGO2
      obtain ⟨hl, h40⟩ := hlt
      have hlz : (i : Int) < (l0.length : Int) := by omega
      have h40z : (i : Int) < 30 := by omega
      obtain ⟨ad, e1, q0, q1, q2, q3⟩ := at_T37 (Kd.C_below HR0.out HB.out) (i : Int) (by omega) (by omega)
      subst e1
      rw [Int.toNat_natCast] at q0 q1 q2 q3
      generalize rd_T37 l0 (i : Int) = x at *
      obtain ⟨A6, c6, rfl⟩ := own_slice HOW.out
      have hbx : (wr.alloc (.cells #[.int .i64 x.f0, .int .i64 x.f1, .int .i64 x.f2, .string x.f3] 37)).heap[wr.heap.size]? = some (.cells #[.int .i64 x.f0, .int .i64 x.f1, .int .i64 x.f2, .string x.f3] 37 (0, 0)) := heap_alloc_new _ _
      have HBX := Aside0.mk hbx
      have HI3 := Aside0.mk (HI.out.below (below_alloc (Below.refl wr.heap.size wr) (.cells #[.int .i64 x.f0, .int .i64 x.f1, .int .i64 x.f2, .string x.f3] 37)))
      have HOW3 := Aside0.mk (own_alloc HOW.out (.cells #[.int .i64 x.f0, .int .i64 x.f1, .int .i64 x.f2, .string x.f3] 37))
      have HB3 := Aside0.mk (below_alloc HB.out (.cells #[.int .i64 x.f0, .int .i64 x.f1, .int .i64 x.f2, .string x.f3] 37))
      have HGX : Aside0 (w.heap.size < wr.heap.size) := ⟨(HI.out.choose_spec.2).lt⟩
      clear hbx HI HOW
      unfold mosaiclaw02_OctBack.step at hst
      by_cases hx1 : (x.f3.size : Int) > 300
      · rw [if_pos (.inl hx1)] at hst
        have h9 := Option.some.inj hst
        obtain ⟨rfl, rfl⟩ := Prod.mk.inj h9
        clear hst h9
        have hx1z : (300 : Int) < (x.f3.size : Int) := hx1
        go_wp2_with fail
        go_roundg d
        case measure => have := HD.out; omega
        case rel => exact ⟨d, i + 1, s, l, _, by go_num, ⟨Nat.le_refl _⟩, ⟨by omega⟩, HNEXT, HI3, HOW3, ⟨HS.out.1, by have := HS.out.2; omega⟩, HB3⟩
      have hx1z : ¬ (300 : Int) < (x.f3.size : Int) := hx1
      by_cases hx2 : x.f0 < 0
      · rw [if_pos (.inr (.inl hx2))] at hst
        have h9 := Option.some.inj hst
        obtain ⟨rfl, rfl⟩ := Prod.mk.inj h9
        clear hst h9
        go_wp2_with fail
        go_roundg d
        case measure => have := HD.out; omega
        case rel => exact ⟨d, i + 1, s, l, _, by go_num, ⟨Nat.le_refl _⟩, ⟨by omega⟩, HNEXT, HI3, HOW3, ⟨HS.out.1, by have := HS.out.2; omega⟩, HB3⟩
      by_cases hx3 : x.f0 > 2
      · rw [if_pos (.inr (.inr hx3))] at hst
        have h9 := Option.some.inj hst
        obtain ⟨rfl, rfl⟩ := Prod.mk.inj h9
        clear hst h9
        have hx3z : (2 : Int) < x.f0 := hx3
        go_wp2_with fail
        go_roundg d
        case measure => have := HD.out; omega
        case rel => exact ⟨d, i + 1, s, l, _, by go_num, ⟨Nat.le_refl _⟩, ⟨by omega⟩, HNEXT, HI3, HOW3, ⟨HS.out.1, by have := HS.out.2; omega⟩, HB3⟩
      have hx3z : ¬ (2 : Int) < x.f0 := hx3
      rw [if_neg (by omega)] at hst
      have HXL : Aside0 (x.f3.size ≤ 300) := ⟨by omega⟩
      by_cases h0 : x.f0 = 0
      · rw [if_pos h0] at hst
        obtain ⟨⟨t, f⟩, hput, hst⟩ := Option.bind_eq_some_iff.mp hst
        have HP := Aside0.mk hput
        have y0 : (x.f0 == 0) = true := by rw [h0]; rfl
        clear h0 hput
        by_cases hf : f = 0
        · rw [if_pos hf] at hst
          subst hf
          split at hst
          rotate_left
          · cases hst
          rename_i hc
          have HC := Aside0.mk hc
          clear hc
          have h9 := Option.some.inj hst
          obtain ⟨rfl, rfl⟩ := Prod.mk.inj h9
          clear hst h9
          go_wp2_with fail
          refine (oct_Put.calls k _ _ t 0 _ HP.out).mono ?_
          rintro e w11 ⟨rfl, hb11⟩
          have HBX4 := Aside0.mk (blk_below HBX.out hb11)
          have HI4 := Aside0.mk (HI3.out.below hb11)
          have HOW4 := Aside0.mk (pw_own_below HOW3.out hb11)
          have HB4 := Aside0.mk (below_step HB3.out hb11)
          clear hb11 HBX HI3 HOW3 HB3
          have x1 : w11.cell? ⟨wr.heap.size, 1, none⟩ = some (.int .i64 x.f1) := (blk_cell HBX4.out 1).trans rfl
          have x2 : w11.cell? ⟨wr.heap.size, 2, none⟩ = some (.int .i64 x.f2) := (blk_cell HBX4.out 2).trans rfl
          have x3 : w11.cell? ⟨wr.heap.size, 3, none⟩ = some (.string x.f3) := (blk_cell HBX4.out 3).trans rfl
          go_wp2_with fail
          refine (oct_Writer_Num.wr k _ _ v s t 0 x.f1 x.f2 0 _ HI4.out HP.out HS.out.1 (by have := HC.out.1; omega) (by have := HB4.out.size; exact this)).mono ?_
          rintro e w12 ⟨rfl, v', hi12, hb12, hk12⟩
          have HBX5 := Aside0.mk (mosaiclaw02_OctBack.far HI4.out HBX4.out (Nat.ne_of_gt HGX.out) (by decide) hk12)
          have HOW5 := Aside0.mk (mosaiclaw02_OctBack.rowfar HI4.out HOW4.out hk12)
          rw [mosaiclaw02_OctBack.put_ok s _ HC.out.2] at hi12
          have HI5 := Aside0.mk hi12
          have HB5 := Aside0.mk (HB4.out.trans hb12)
          clear hi12 hb12 hk12 HI4 HBX4 HOW4 HB4 x1 x2 x3
          have x0 : w12.cell? ⟨wr.heap.size, 0, none⟩ = some (.int .i64 x.f0) := (blk_cell HBX5.out 0).trans rfl
          have x1 : w12.cell? ⟨wr.heap.size, 1, none⟩ = some (.int .i64 x.f1) := (blk_cell HBX5.out 1).trans rfl
          have x2 : w12.cell? ⟨wr.heap.size, 2, none⟩ = some (.int .i64 x.f2) := (blk_cell HBX5.out 2).trans rfl
          have x3 : w12.cell? ⟨wr.heap.size, 3, none⟩ = some (.string x.f3) := (blk_cell HBX5.out 3).trans rfl
          have HLE : Aside0 (w.heap.size ≤ w12.heap.size) := ⟨HB5.out.size⟩
          go_wp2_with ((with_reducible refine gate_builtin (b := .append) (xs := #[.tmp 83, .tmp 85]) rfl ?_); at_builtin; refine print_append_cells (w0 := w) w.heap.size rfl (.tmp 83) (.tmp 85) 33 37 _ 4 40 rfl Try.underlying33 info37 rfl (by decide) (by decide) (.slice A6 l.length c6) l.length (mosaiclaw02_OctBack.fcs l) [.int .i64 x.f0, .int .i64 x.f1, .int .i64 x.f2, .string x.f3] rfl rfl rfl ?a1 HOW5.out HB5.out HLE.out ?a3 ?_; (case a1 => intro u hu; simp only [List.mem_cons, List.not_mem_nil, or_false] at hu; rcases hu with rfl | rfl | rfl | rfl <;> rfl); (case a3 => have := HS.out.2; have := HI30.out; omega); intro v1 w1 ho1 hb1 hg1 hat1)
          have HI6 := Aside0.mk (mosaiclaw02_OctBack.wrfar HI5.out HOW5.out hg1)
          have HB6 := Aside0.mk hb1
          have HO6 : Aside0 (w1.ownsRow w.heap.size 37 4 v1 (l ++ [x]).length (mosaiclaw02_OctBack.fcs (l ++ [x]))) := ⟨by rw [mosaiclaw02_OctBack.fcs_snoc, List.length_append]; exact ho1⟩
          clear ho1 hb1 hg1 hat1 x0 x1 x2 x3 HI5 HOW5 HB5 HBX5 HLE
          try go_wp2_with fail
          go_roundg d
          case measure => have := HD.out; omega
          case rel => exact ⟨d, i + 1, _, l ++ [x], _, by go_num, ⟨Nat.le_refl _⟩, ⟨by omega⟩, HNEXT, HI6, HO6, ⟨by have := HC.out; rw [ByteArray.size_append]; omega, by have := HS.out.2; rw [List.length_append]; simp; omega⟩, HB6⟩
        · rw [if_neg hf] at hst
          have h9 := Option.some.inj hst
          obtain ⟨rfl, rfl⟩ := Prod.mk.inj h9
          clear hst h9
          have t2 : (f != 0) = true := bne_iff_ne.mpr hf
          clear hf
          go_wp2_with fail
          refine (oct_Put.calls k _ _ t f _ HP.out).mono ?_
          rintro e w11 ⟨rfl, hb11⟩
          have HI4 := Aside0.mk (HI3.out.below hb11)
          have HOW4 := Aside0.mk (pw_own_below HOW3.out hb11)
          have HB4 := Aside0.mk (below_step HB3.out hb11)
          clear hb11 HBX HI3 HOW3 HB3
          go_wp2_with fail
          go_roundg d
          case measure => have := HD.out; omega
          case rel => exact ⟨d, i + 1, s, l, _, by go_num, ⟨Nat.le_refl _⟩, ⟨by omega⟩, HNEXT, HI4, HOW4, ⟨HS.out.1, by have := HS.out.2; omega⟩, HB4⟩
      rw [if_neg h0] at hst
      have y0 : (x.f0 == 0) = false := beq_eq_false_iff_ne.mpr h0
      clear h0
      by_cases h1 : x.f0 = 1
      · rw [if_pos h1] at hst
        obtain ⟨⟨t, f⟩, hput, hst⟩ := Option.bind_eq_some_iff.mp hst
        have HP := Aside0.mk hput
        have y1 : (x.f0 == 1) = true := by rw [h1]; rfl
        clear h1 hput
        split at hst
        rotate_left
        · cases hst
        rename_i hc
        have HC := Aside0.mk hc
        clear hc
        have h9 := Option.some.inj hst
        obtain ⟨rfl, rfl⟩ := Prod.mk.inj h9
        clear hst h9
        have HBX4 := HBX
        have HI4 := HI3
        have HOW4 := HOW3
        have HB4 := HB3
        clear HBX HI3 HOW3 HB3
        go_wp2_with fail
        refine (oct_Writer_Text.wr k _ _ v s x.f3 t 0 f _ HI4.out HP.out HS.out.1 (by have := HXL.out; omega) HC.out.1 (by have := HB4.out.size; exact this)).mono ?_
        rintro e w12 ⟨rfl, v', hi12, hb12, hk12⟩
        have HBX5 := Aside0.mk (mosaiclaw02_OctBack.far HI4.out HBX4.out (Nat.ne_of_gt HGX.out) (by decide) hk12)
        have HOW5 := Aside0.mk (mosaiclaw02_OctBack.rowfar HI4.out HOW4.out hk12)
        rw [mosaiclaw02_OctBack.put_ok s _ HC.out.2] at hi12
        have HI5 := Aside0.mk hi12
        have HB5 := Aside0.mk (HB4.out.trans hb12)
        clear hi12 hb12 hk12 HI4 HBX4 HOW4 HB4
        have x0 : w12.cell? ⟨wr.heap.size, 0, none⟩ = some (.int .i64 x.f0) := (blk_cell HBX5.out 0).trans rfl
        have x1 : w12.cell? ⟨wr.heap.size, 1, none⟩ = some (.int .i64 x.f1) := (blk_cell HBX5.out 1).trans rfl
        have x2 : w12.cell? ⟨wr.heap.size, 2, none⟩ = some (.int .i64 x.f2) := (blk_cell HBX5.out 2).trans rfl
        have x3 : w12.cell? ⟨wr.heap.size, 3, none⟩ = some (.string x.f3) := (blk_cell HBX5.out 3).trans rfl
        have HLE : Aside0 (w.heap.size ≤ w12.heap.size) := ⟨HB5.out.size⟩
        go_wp2_with ((with_reducible refine gate_builtin (b := .append) (xs := #[.tmp 83, .tmp 85]) rfl ?_); at_builtin; refine print_append_cells (w0 := w) w.heap.size rfl (.tmp 83) (.tmp 85) 33 37 _ 4 40 rfl Try.underlying33 info37 rfl (by decide) (by decide) (.slice A6 l.length c6) l.length (mosaiclaw02_OctBack.fcs l) [.int .i64 x.f0, .int .i64 x.f1, .int .i64 x.f2, .string x.f3] rfl rfl rfl ?a1 HOW5.out HB5.out HLE.out ?a3 ?_; (case a1 => intro u hu; simp only [List.mem_cons, List.not_mem_nil, or_false] at hu; rcases hu with rfl | rfl | rfl | rfl <;> rfl); (case a3 => have := HS.out.2; have := HI30.out; omega); intro v1 w1 ho1 hb1 hg1 hat1)
        have HI6 := Aside0.mk (mosaiclaw02_OctBack.wrfar HI5.out HOW5.out hg1)
        have HB6 := Aside0.mk hb1
        have HO6 : Aside0 (w1.ownsRow w.heap.size 37 4 v1 (l ++ [x]).length (mosaiclaw02_OctBack.fcs (l ++ [x]))) := ⟨by rw [mosaiclaw02_OctBack.fcs_snoc, List.length_append]; exact ho1⟩
        clear ho1 hb1 hg1 hat1 x0 x1 x2 x3 HI5 HOW5 HB5 HBX5 HLE
        try go_wp2_with fail
        go_roundg d
        case measure => have := HD.out; omega
        case rel => exact ⟨d, i + 1, _, l ++ [x], _, by go_num, ⟨Nat.le_refl _⟩, ⟨by omega⟩, HNEXT, HI6, HO6, ⟨by have := HC.out; rw [ByteArray.size_append]; omega, by have := HS.out.2; rw [List.length_append]; simp; omega⟩, HB6⟩
      rw [if_neg h1] at hst
      have y1 : (x.f0 == 1) = false := beq_eq_false_iff_ne.mpr h1
      clear h1
      split at hst
      rotate_left
      · cases hst
      rename_i hc
      have HC : Aside0 (True ∧ s.size + x.f3.size ≤ 65536) := ⟨trivial, hc⟩
      clear hc
      have h9 := Option.some.inj hst
      obtain ⟨rfl, rfl⟩ := Prod.mk.inj h9
      clear hst h9
      have HBX4 := HBX
      have HI4 := HI3
      have HOW4 := HOW3
      have HB4 := HB3
      clear HBX HI3 HOW3 HB3
      go_wp2_with fail
      refine (oct_Writer_Raw.wr _ _ v s x.f3 0 _ HI4.out HS.out.1 (by have := HXL.out; omega) (by have := HB4.out.size; exact this)).mono ?_
      rintro e w12 ⟨rfl, v', hi12, hb12, hk12⟩
      have HBX5 := Aside0.mk (mosaiclaw02_OctBack.far HI4.out HBX4.out (Nat.ne_of_gt HGX.out) (by decide) hk12)
      have HOW5 := Aside0.mk (mosaiclaw02_OctBack.rowfar HI4.out HOW4.out hk12)
      rw [mosaiclaw02_OctBack.put_ok s _ HC.out.2] at hi12
      have HI5 := Aside0.mk hi12
      have HB5 := Aside0.mk (HB4.out.trans hb12)
      clear hi12 hb12 hk12 HI4 HBX4 HOW4 HB4
      have x0 : w12.cell? ⟨wr.heap.size, 0, none⟩ = some (.int .i64 x.f0) := (blk_cell HBX5.out 0).trans rfl
      have x1 : w12.cell? ⟨wr.heap.size, 1, none⟩ = some (.int .i64 x.f1) := (blk_cell HBX5.out 1).trans rfl
      have x2 : w12.cell? ⟨wr.heap.size, 2, none⟩ = some (.int .i64 x.f2) := (blk_cell HBX5.out 2).trans rfl
      have x3 : w12.cell? ⟨wr.heap.size, 3, none⟩ = some (.string x.f3) := (blk_cell HBX5.out 3).trans rfl
      have HLE : Aside0 (w.heap.size ≤ w12.heap.size) := ⟨HB5.out.size⟩
      go_wp2_with ((with_reducible refine gate_builtin (b := .append) (xs := #[.tmp 83, .tmp 85]) rfl ?_); at_builtin; refine print_append_cells (w0 := w) w.heap.size rfl (.tmp 83) (.tmp 85) 33 37 _ 4 40 rfl Try.underlying33 info37 rfl (by decide) (by decide) (.slice A6 l.length c6) l.length (mosaiclaw02_OctBack.fcs l) [.int .i64 x.f0, .int .i64 x.f1, .int .i64 x.f2, .string x.f3] rfl rfl rfl ?a1 HOW5.out HB5.out HLE.out ?a3 ?_; (case a1 => intro u hu; simp only [List.mem_cons, List.not_mem_nil, or_false] at hu; rcases hu with rfl | rfl | rfl | rfl <;> rfl); (case a3 => have := HS.out.2; have := HI30.out; omega); intro v1 w1 ho1 hb1 hg1 hat1)
      have HI6 := Aside0.mk (mosaiclaw02_OctBack.wrfar HI5.out HOW5.out hg1)
      have HB6 := Aside0.mk hb1
      have HO6 : Aside0 (w1.ownsRow w.heap.size 37 4 v1 (l ++ [x]).length (mosaiclaw02_OctBack.fcs (l ++ [x]))) := ⟨by rw [mosaiclaw02_OctBack.fcs_snoc, List.length_append]; exact ho1⟩
      clear ho1 hb1 hg1 hat1 x0 x1 x2 x3 HI5 HOW5 HB5 HBX5 HLE
      try go_wp2_with fail
      go_roundg d
      case measure => have := HD.out; omega
      case rel => exact ⟨d, i + 1, _, l ++ [x], _, by go_num, ⟨Nat.le_refl _⟩, ⟨by omega⟩, HNEXT, HI6, HO6, ⟨by have := HC.out; rw [ByteArray.size_append]; omega, by have := HS.out.2; rw [List.length_append]; simp; omega⟩, HB6⟩
    · have h9 : (s, l) = (sf, lf) := by
        have h9 := HGO2.out
        cases d with
        | zero => rw [mosaiclaw02_OctBack.go, if_neg hlt] at h9; exact Option.some.inj h9
        | succ d => rw [mosaiclaw02_OctBack.go, if_neg hlt] at h9; exact Option.some.inj h9
      obtain ⟨h9a, h9b⟩ := Prod.mk.inj h9
      subst h9a
      subst h9b
      clear h9 HGO2
      obtain ⟨A6, c6, rfl⟩ := own_slice HOW.out
      have e0 : w.heap.size ≤ wr.heap.size := HB.out.size
      have HY := Aside0.mk (oct_Writer_Bytes.wr w.heap.size w.heap.size v s 0 wr HI.out e0)
      clear e0
      by_cases hl : i < l0.length
      all_goals
        first
        | (have hlz : (i : Int) < (l0.length : Int) := by omega
           have h40z : ¬ (i : Int) < 30 := by omega)
        | (have hlz : ¬ (i : Int) < (l0.length : Int) := by omega)
        clear hlt hl
        go_wp2_with fail
        refine HY.out.mono ?_
        rintro e w12 ⟨rfl, v12, hi12, hb12, hk12⟩
        rw [if_pos trivial]
        have HOW2 := Aside0.mk (mosaiclaw02_OctBack.rowfar HI.out HOW.out hk12)
        have HB2 := Aside0.mk (HB.out.trans hb12)
        clear hi12 hb12 hk12 HY HI HOW HB
        have hsz := HBD.out.2
        go_wp2_with fail
        refine (oct_From.calls (s ++ a1) (s ++ a1) 0 w _ HB2.out rfl).mono ?_
        rintro e w13 ⟨gr, rfl, hI13, hb13, hb14⟩
        have HI := Aside0.mk hI13
        have HB := Aside0.mk hb13
        have HOW := Aside0.mk (pw_own_below HOW2.out hb14)
        clear hI13 hb13 hb14 HOW2 HB2
        go_wp2_with fail
        go_loopg [14, 15] l.length (fun kq v14 v15 wr => ∃ (j : Nat) (q1 : ByteArray), v14 = .int .i64 j ∧ Aside0 (j ≤ l.length ∧ l.length - j ≤ kq) ∧ Aside0 (mosaiclaw02_OctBack.rgo k (l.drop j) q1 = some q) ∧ Aside0 (IsS70 w wr gr q1 0) ∧ Aside0 (wr.ownsRow w.heap.size 37 4 (.slice A6 l.length c6) l.length (mosaiclaw02_OctBack.fcs l)) ∧ Aside0 (Below w.heap.size w wr))
        case atStart => exact ⟨0, s ++ a1, rfl, ⟨Nat.zero_le _, by omega⟩, HQ, HI, HOW, HB⟩
        case round =>
          obtain ⟨j, q1, rfl, HJ, HG, HI2, HOW2, HB2⟩ := hrel
          clear HI HOW HB HQ
          by_cases hlt : j < l.length
          · have hltz : (j : Int) < (l.length : Int) := by omega
            have hlb := HBD.out.1
            obtain ⟨ad, e1, q0, q1', q2', q3⟩ := at_T37 (mosaiclaw02_OctBack.reads HOW2.out) (j : Int) (by omega) hltz
            subst e1
            rw [Int.toNat_natCast] at q0 q1' q2' q3
            have hy : rd_T37 l (j : Int) = l[j] := by simp [rd_T37, hlt]
            have h9 := HG.out
            rw [List.drop_eq_getElem_cons hlt, ← hy, mosaiclaw02_OctBack.rgo] at h9
            obtain ⟨q9, h8, h9⟩ := Option.bind_eq_some_iff.mp h9
            have HNX := Aside0.mk h9
            clear h9 HG hy
            generalize rd_T37 l (j : Int) = x at *
            unfold mosaiclaw02_OctBack.rstep at h8
            by_cases h0 : x.f0 = 0
            · rw [if_pos h0] at h8
              rw [h0] at q0
              clear h0
              have hbx : (wr.alloc (.cells #[.int .i64 0, .int .i64 x.f1, .int .i64 x.f2, .string x.f3] 37)).heap[wr.heap.size]? = some (.cells #[.int .i64 0, .int .i64 x.f1, .int .i64 x.f2, .string x.f3] 37 (0, 0)) := heap_alloc_new _ _
              have HBX := Aside0.mk hbx
              have HI3 := Aside0.mk (HI2.out.alloc (.cells #[.int .i64 0, .int .i64 x.f1, .int .i64 x.f2, .string x.f3] 37))
              have HOW3 := Aside0.mk (own_alloc HOW2.out (.cells #[.int .i64 0, .int .i64 x.f1, .int .i64 x.f2, .string x.f3] 37))
              have HB3 := Aside0.mk (below_alloc HB2.out (.cells #[.int .i64 0, .int .i64 x.f1, .int .i64 x.f2, .string x.f3] 37))
              clear hbx HI2 HOW2 HB2
              obtain ⟨⟨y, q2, e2⟩, hrn, h8⟩ := Option.bind_eq_some_iff.mp h8
              split at h8
              rotate_left
              · cases h8
              rename_i hc
              obtain ⟨hc1, hc2⟩ := hc
              simp only at hc1 hc2
              subst hc1
              subst hc2
              have h7 := Option.some.inj h8
              simp only at h7
              subst h7
              have HN := Aside0.mk hrn
              clear hrn h8
              go_wp2_with fail
              generalize wr.alloc (.cells #[.int .i64 0, .int .i64 x.f1, .int .i64 x.f2, .string x.f3] 37) = wa at *
              have x0 : wa.cell? ⟨wr.heap.size, 0, none⟩ = some (.int .i64 0) := (blk_cell HBX.out 0).trans rfl
              have x1 : wa.cell? ⟨wr.heap.size, 1, none⟩ = some (.int .i64 x.f1) := (blk_cell HBX.out 1).trans rfl
              have x2 : wa.cell? ⟨wr.heap.size, 2, none⟩ = some (.int .i64 x.f2) := (blk_cell HBX.out 2).trans rfl
              have x3 : wa.cell? ⟨wr.heap.size, 3, none⟩ = some (.string x.f3) := (blk_cell HBX.out 3).trans rfl
              refine start_ (n := 39) (S := fun w' => w'.cell? ⟨wr.heap.size, 0, none⟩ = some (.int .i64 0) ∧ w'.cell? ⟨wr.heap.size, 1, none⟩ = some (.int .i64 x.f1) ∧ w'.cell? ⟨wr.heap.size, 2, none⟩ = some (.int .i64 x.f2) ∧ w'.cell? ⟨wr.heap.size, 3, none⟩ = some (.string x.f3)) (ds := []) #[false, false, false, false, false, false, false, false, false, false, false, false, false, false, false, false, false, false, false, false, false, false, false, false, false, false, false, false, false, false, false, false, false, false, false, false, false, false, false] (by kernel_rfl) rfl rfl ⟨x0, x1, x2, x3⟩ (fun hHeld => ?_)
              refine pure_ (i := 0) (N := some 112) (v := ?_) (a' := ?_) #[true, false, false, false, false, false, false, false, false, false, false, false, false, false, false, false, false, false, false, false, false, false, false, false, false, false, false, false, false, false, false, false, false, false, false, false, false, false, false] rfl rfl (by kernel_rfl) (fun _ _ _ h => h) (Or.inl ⟨by rfl, ?_⟩) ?_ ?_
              rotate_left
              · intro w'
                go_simp
                with_reducible rfl
              rotate_left
              · simp only [Act.put, List.setIfInBounds_toArray, List.set_cons_zero, List.set_cons_succ, i64_w, i32_w]
                rfl
              refine take_ (i := 1) (N := some 113) (v := ?_) (a' := ?_) #[true, true, false, false, false, false, false, false, false, false, false, false, false, false, false, false, false, false, false, false, false, false, false, false, false, false, false, false, false, false, false, false, false, false, false, false, false, false, false] rfl rfl (by kernel_rfl) (fun _ _ _ h => h) (Or.inl ⟨by rfl, ?_⟩) hHeld ?_ ?_
              rotate_left
              · rintro w' ⟨s0, s1, s2, s3⟩
                go_simp
                with_reducible rfl
              rotate_left
              · simp only [Act.put, List.setIfInBounds_toArray, List.set_cons_zero, List.set_cons_succ, i64_w, i32_w]
                rfl
              refine pure_ (i := 2) (N := some 114) (v := ?_) (a' := ?_) #[true, true, true, false, false, false, false, false, false, false, false, false, false, false, false, false, false, false, false, false, false, false, false, false, false, false, false, false, false, false, false, false, false, false, false, false, false, false, false] rfl rfl (by kernel_rfl) (fun _ _ _ h => h) (Or.inl ⟨by rfl, ?_⟩) ?_ ?_
              rotate_left
              · intro w'
                go_simp
                with_reducible rfl
              rotate_left
              · simp only [Act.put, List.setIfInBounds_toArray, List.set_cons_zero, List.set_cons_succ, i64_w, i32_w]
                rfl
              refine pure_ (i := 3) (N := some 115) (v := ?_) (a' := ?_) #[true, true, true, true, false, false, false, false, false, false, false, false, false, false, false, false, false, false, false, false, false, false, false, false, false, false, false, false, false, false, false, false, false, false, false, false, false, false, false] rfl rfl (by kernel_rfl) (fun _ _ _ h => h) (Or.inl ⟨by rfl, ?_⟩) ?_ ?_
              rotate_left
              · intro w'
                go_simp
                with_reducible rfl
              rotate_left
              · simp only [Act.put, List.setIfInBounds_toArray, List.set_cons_zero, List.set_cons_succ, i64_w, i32_w]
                rfl
              refine pure_ (i := 4) (N := some 116) (v := ?_) (a' := ?_) #[true, true, true, true, true, false, false, false, false, false, false, false, false, false, false, false, false, false, false, false, false, false, false, false, false, false, false, false, false, false, false, false, false, false, false, false, false, false, false] rfl rfl (by kernel_rfl) (fun _ _ _ h => h) (Or.inl ⟨by rfl, ?_⟩) ?_ ?_
              rotate_left
              · intro w'
                go_simp
                with_reducible rfl
              rotate_left
              · simp only [Act.put, List.setIfInBounds_toArray, List.set_cons_zero, List.set_cons_succ, i64_w, i32_w]
                rfl
              refine pure_ (i := 5) (N := some 117) (v := ?_) (a' := ?_) #[true, true, true, true, true, true, false, false, false, false, false, false, false, false, false, false, false, false, false, false, false, false, false, false, false, false, false, false, false, false, false, false, false, false, false, false, false, false, false] rfl rfl (by kernel_rfl) (fun _ _ _ h => h) (Or.inl ⟨by rfl, ?_⟩) ?_ ?_
              rotate_left
              · intro w'
                go_simp
                with_reducible rfl
              rotate_left
              · simp only [Act.put, List.setIfInBounds_toArray, List.set_cons_zero, List.set_cons_succ, i64_w, i32_w]
                rfl
              refine pure_ (i := 8) (N := some 120) (v := ?_) (a' := ?_) #[true, true, true, true, true, true, false, false, true, false, false, false, false, false, false, false, false, false, false, false, false, false, false, false, false, false, false, false, false, false, false, false, false, false, false, false, false, false, false] rfl rfl (by kernel_rfl) (fun _ _ _ h => h) (Or.inl ⟨by rfl, ?_⟩) ?_ ?_
              rotate_left
              · intro w'
                go_simp
                with_reducible rfl
              rotate_left
              · simp only [Act.put, List.setIfInBounds_toArray, List.set_cons_zero, List.set_cons_succ, i64_w, i32_w]
                rfl
              refine take_ (i := 6) (N := some 118) (v := ?_) (a' := ?_) #[true, true, true, true, true, true, true, false, true, false, false, false, false, false, false, false, false, false, false, false, false, false, false, false, false, false, false, false, false, false, false, false, false, false, false, false, false, false, false] rfl rfl (by kernel_rfl) (fun _ _ _ h => h) (Or.inl ⟨by rfl, ?_⟩) hHeld ?_ ?_
              rotate_left
              · rintro w' ⟨s0, s1, s2, s3⟩
                go_simp
                with_reducible rfl
              rotate_left
              · simp only [Act.put, List.setIfInBounds_toArray, List.set_cons_zero, List.set_cons_succ, i64_w, i32_w]
                rfl
              refine take_ (i := 9) (N := some 121) (v := ?_) (a' := ?_) #[true, true, true, true, true, true, true, false, true, true, false, false, false, false, false, false, false, false, false, false, false, false, false, false, false, false, false, false, false, false, false, false, false, false, false, false, false, false, false] rfl rfl (by kernel_rfl) (fun _ _ _ h => h) (Or.inl ⟨by rfl, ?_⟩) hHeld ?_ ?_
              rotate_left
              · rintro w' ⟨s0, s1, s2, s3⟩
                go_simp
                with_reducible rfl
              rotate_left
              · simp only [Act.put, List.setIfInBounds_toArray, List.set_cons_zero, List.set_cons_succ, i64_w, i32_w]
                rfl
              refine one_ (i := 7) (N := some 119) #[true, true, true, true, true, true, true, true, true, true, false, false, false, false, false, false, false, false, false, false, false, false, false, false, false, false, false, false, false, false, false, false, false, false, false, false, false, false, false] rfl rfl (by kernel_rfl) (by decide) (fun K hK => ?_)
              refine goes_ Try.func24 (by kernel_rfl) rfl #[.pointer (some ⟨gr, 0, none⟩), .int .i64 x.f2] (by rfl) rfl rfl (by simp only [List.map_toArray, List.map_cons, List.map_nil]; rfl) ?_
              with_reducible refine (oct_Reader_Num.calls k gr q1 0 x.f2 x.f1 q2 0 w _ HI3.out.drew (below_drew HB3.out) HN.out).mono ?_
              rintro e w5 ⟨rfl, hI5, hb5, hk5⟩
              refine ⟨_, rfl, ?_⟩
              have HI5 := Aside0.mk hI5
              have HB5 := Aside0.mk hb5
              have HBX5 := Aside0.mk (mosaiclaw02_OctBack.keptblk HBX.out hk5 (mosaiclaw02_OctBack.ne_rd HI3.out HBX.out))
              have HOW5 := Aside0.mk (mosaiclaw02_OctBack.keptrow HOW3.out hk5 HI3.out)
              clear hI5 hb5 hk5
              refine hK.out _ _ ⟨(blk_cell HBX5.out 0).trans rfl, (blk_cell HBX5.out 1).trans rfl, (blk_cell HBX5.out 2).trans rfl, (blk_cell HBX5.out 3).trans rfl⟩ (fun hHeld => ?_)
              clear hK K
              refine norm_ (a' := ?_) ?_ ?_
              rotate_left
              · show Act.put _ (some 119) _ = _
                simp only [Act.put, List.setIfInBounds_toArray, List.set_cons_zero, List.set_cons_succ, i64_w, i32_w]
                rfl
              refine pure_ (i := 10) (N := some 122) (v := ?_) (a' := ?_) #[true, true, true, true, true, true, true, true, true, true, true, false, false, false, false, false, false, false, false, false, false, false, false, false, false, false, false, false, false, false, false, false, false, false, false, false, false, false, false] rfl rfl (by kernel_rfl) (fun _ _ _ h => h) (Or.inl ⟨by rfl, ?_⟩) ?_ ?_
              rotate_left
              · intro w'
                go_simp
                with_reducible rfl
              rotate_left
              · simp only [Act.put, List.setIfInBounds_toArray, List.set_cons_zero, List.set_cons_succ, i64_w, i32_w]
                rfl
              refine pure_ (i := 11) (N := some 123) (v := ?_) (a' := ?_) #[true, true, true, true, true, true, true, true, true, true, true, true, false, false, false, false, false, false, false, false, false, false, false, false, false, false, false, false, false, false, false, false, false, false, false, false, false, false, false] rfl rfl (by kernel_rfl) (fun _ _ _ h => h) (Or.inl ⟨by rfl, ?_⟩) ?_ ?_
              rotate_left
              · intro w'
                go_simp
                with_reducible rfl
              rotate_left
              · simp only [Act.put, List.setIfInBounds_toArray, List.set_cons_zero, List.set_cons_succ, i64_w, i32_w]
                rfl
              refine pure_ (i := 12) (N := some 124) (v := ?_) (a' := ?_) #[true, true, true, true, true, true, true, true, true, true, true, true, true, false, false, false, false, false, false, false, false, false, false, false, false, false, false, false, false, false, false, false, false, false, false, false, false, false, false] rfl rfl (by kernel_rfl) (fun _ _ _ h => h) (Or.inl ⟨by rfl, ?_⟩) ?_ ?_
              rotate_left
              · intro w'
                go_simp
                with_reducible rfl
              rotate_left
              · simp only [Act.put, List.setIfInBounds_toArray, List.set_cons_zero, List.set_cons_succ, i64_w, i32_w]
                rfl
              refine pure_ (i := 13) (N := some 125) (v := ?_) (a' := ?_) #[true, true, true, true, true, true, true, true, true, true, true, true, true, true, false, false, false, false, false, false, false, false, false, false, false, false, false, false, false, false, false, false, false, false, false, false, false, false, false] rfl rfl (by kernel_rfl) (fun _ _ _ h => h) (Or.inl ⟨by rfl, ?_⟩) ?_ ?_
              rotate_left
              · intro w'
                go_simp
                with_reducible rfl
              rotate_left
              · simp only [Act.put, List.setIfInBounds_toArray, List.set_cons_zero, List.set_cons_succ, i64_w, i32_w]
                rfl
              refine take_ (i := 14) (N := some 126) (v := ?_) (a' := ?_) #[true, true, true, true, true, true, true, true, true, true, true, true, true, true, true, false, false, false, false, false, false, false, false, false, false, false, false, false, false, false, false, false, false, false, false, false, false, false, false] rfl rfl (by kernel_rfl) (fun _ _ _ h => h) (Or.inl ⟨by rfl, ?_⟩) hHeld ?_ ?_
              rotate_left
              · rintro w' ⟨s0, s1, s2, s3⟩
                go_simp
                with_reducible rfl
              rotate_left
              · simp only [Act.put, List.setIfInBounds_toArray, List.set_cons_zero, List.set_cons_succ, i64_w, i32_w]
                rfl
              refine pure_ (i := 15) (N := some 127) (v := ?_) (a' := ?_) #[true, true, true, true, true, true, true, true, true, true, true, true, true, true, true, true, false, false, false, false, false, false, false, false, false, false, false, false, false, false, false, false, false, false, false, false, false, false, false] rfl rfl (by kernel_rfl) (fun _ _ _ h => h) (Or.inl ⟨by rfl, ?_⟩) ?_ ?_
              rotate_left
              · intro w'
                go_simp
                with_reducible rfl
              rotate_left
              · simp only [Act.put, List.setIfInBounds_toArray, List.set_cons_zero, List.set_cons_succ, i64_w, i32_w]
                rfl
              refine pure_ (i := 16) (N := some 128) (v := ?_) (a' := ?_) #[true, true, true, true, true, true, true, true, true, true, true, true, true, true, true, true, true, false, false, false, false, false, false, false, false, false, false, false, false, false, false, false, false, false, false, false, false, false, false] rfl rfl (by kernel_rfl) (fun _ _ _ h => h) (Or.inl ⟨by rfl, ?_⟩) ?_ ?_
              rotate_left
              · intro w'
                go_simp
                with_reducible rfl
              rotate_left
              · simp only [Act.put, List.setIfInBounds_toArray, List.set_cons_zero, List.set_cons_succ, i64_w, i32_w]
                rfl
              refine pure_ (i := 17) (N := some 129) (v := undef) (a' := ?_) #[true, true, true, true, true, true, true, true, true, true, true, true, true, true, true, true, true, true, false, false, false, false, false, false, false, false, false, false, false, false, false, false, false, false, false, false, false, false, false] rfl rfl (by kernel_rfl) (fun _ _ _ h => h) (Or.inr ⟨by rfl, rfl⟩) ?_ ?_
              rotate_left
              · simp only [Act.put, List.setIfInBounds_toArray, List.set_cons_zero, List.set_cons_succ, i64_w, i32_w]
                rfl
              refine pure_ (i := 18) (N := some 130) (v := undef) (a' := ?_) #[true, true, true, true, true, true, true, true, true, true, true, true, true, true, true, true, true, true, true, false, false, false, false, false, false, false, false, false, false, false, false, false, false, false, false, false, false, false, false] rfl rfl (by kernel_rfl) (fun _ _ _ h => h) (Or.inr ⟨by rfl, rfl⟩) ?_ ?_
              rotate_left
              · simp only [Act.put, List.setIfInBounds_toArray, List.set_cons_zero, List.set_cons_succ, i64_w, i32_w]
                rfl
              refine pure_ (i := 19) (N := some 131) (v := undef) (a' := ?_) #[true, true, true, true, true, true, true, true, true, true, true, true, true, true, true, true, true, true, true, true, false, false, false, false, false, false, false, false, false, false, false, false, false, false, false, false, false, false, false] rfl rfl (by kernel_rfl) (fun _ _ _ h => h) (Or.inr ⟨by rfl, rfl⟩) ?_ ?_
              rotate_left
              · simp only [Act.put, List.setIfInBounds_toArray, List.set_cons_zero, List.set_cons_succ, i64_w, i32_w]
                rfl
              refine pure_ (i := 20) (N := some 132) (v := undef) (a' := ?_) #[true, true, true, true, true, true, true, true, true, true, true, true, true, true, true, true, true, true, true, true, true, false, false, false, false, false, false, false, false, false, false, false, false, false, false, false, false, false, false] rfl rfl (by kernel_rfl) (fun _ _ _ h => h) (Or.inr ⟨by rfl, rfl⟩) ?_ ?_
              rotate_left
              · simp only [Act.put, List.setIfInBounds_toArray, List.set_cons_zero, List.set_cons_succ, i64_w, i32_w]
                rfl
              refine pure_ (i := 21) (N := some 133) (v := undef) (a' := ?_) #[true, true, true, true, true, true, true, true, true, true, true, true, true, true, true, true, true, true, true, true, true, true, false, false, false, false, false, false, false, false, false, false, false, false, false, false, false, false, false] rfl rfl (by kernel_rfl) (fun _ _ _ h => h) (Or.inr ⟨by rfl, rfl⟩) ?_ ?_
              rotate_left
              · simp only [Act.put, List.setIfInBounds_toArray, List.set_cons_zero, List.set_cons_succ, i64_w, i32_w]
                rfl
              refine pure_ (i := 22) (N := some 134) (v := ?_) (a' := ?_) #[true, true, true, true, true, true, true, true, true, true, true, true, true, true, true, true, true, true, true, true, true, true, true, false, false, false, false, false, false, false, false, false, false, false, false, false, false, false, false] rfl rfl (by kernel_rfl) (fun _ _ _ h => h) (Or.inl ⟨by rfl, ?_⟩) ?_ ?_
              rotate_left
              · intro w'
                go_simp
                with_reducible rfl
              rotate_left
              · simp only [Act.put, List.setIfInBounds_toArray, List.set_cons_zero, List.set_cons_succ, i64_w, i32_w]
                rfl
              refine pure_ (i := 23) (N := some 135) (v := ?_) (a' := ?_) #[true, true, true, true, true, true, true, true, true, true, true, true, true, true, true, true, true, true, true, true, true, true, true, true, false, false, false, false, false, false, false, false, false, false, false, false, false, false, false] rfl rfl (by kernel_rfl) (fun _ _ _ h => h) (Or.inl ⟨by rfl, ?_⟩) ?_ ?_
              rotate_left
              · intro w'
                go_simp
                with_reducible rfl
              rotate_left
              · simp only [Act.put, List.setIfInBounds_toArray, List.set_cons_zero, List.set_cons_succ, i64_w, i32_w]
                rfl
              refine pure_ (i := 24) (N := some 136) (v := ?_) (a' := ?_) #[true, true, true, true, true, true, true, true, true, true, true, true, true, true, true, true, true, true, true, true, true, true, true, true, true, false, false, false, false, false, false, false, false, false, false, false, false, false, false] rfl rfl (by kernel_rfl) (fun _ _ _ h => h) (Or.inl ⟨by rfl, ?_⟩) ?_ ?_
              rotate_left
              · intro w'
                go_simp
                with_reducible rfl
              rotate_left
              · simp only [Act.put, List.setIfInBounds_toArray, List.set_cons_zero, List.set_cons_succ, i64_w, i32_w]
                rfl
              refine pure_ (i := 25) (N := some 137) (v := ?_) (a' := ?_) #[true, true, true, true, true, true, true, true, true, true, true, true, true, true, true, true, true, true, true, true, true, true, true, true, true, true, false, false, false, false, false, false, false, false, false, false, false, false, false] rfl rfl (by kernel_rfl) (fun _ _ _ h => h) (Or.inl ⟨by rfl, ?_⟩) ?_ ?_
              rotate_left
              · intro w'
                go_simp
                with_reducible rfl
              rotate_left
              · simp only [Act.put, List.setIfInBounds_toArray, List.set_cons_zero, List.set_cons_succ, i64_w, i32_w]
                rfl
              refine take_ (i := 26) (N := some 138) (v := ?_) (a' := ?_) #[true, true, true, true, true, true, true, true, true, true, true, true, true, true, true, true, true, true, true, true, true, true, true, true, true, true, true, false, false, false, false, false, false, false, false, false, false, false, false] rfl rfl (by kernel_rfl) (fun _ _ _ h => h) (Or.inl ⟨by rfl, ?_⟩) hHeld ?_ ?_
              rotate_left
              · rintro w' ⟨s0, s1, s2, s3⟩
                go_simp
                with_reducible rfl
              rotate_left
              · simp only [Act.put, List.setIfInBounds_toArray, List.set_cons_zero, List.set_cons_succ, i64_w, i32_w]
                rfl
              refine pure_ (i := 27) (N := some 139) (v := ?_) (a' := ?_) #[true, true, true, true, true, true, true, true, true, true, true, true, true, true, true, true, true, true, true, true, true, true, true, true, true, true, true, true, false, false, false, false, false, false, false, false, false, false, false] rfl rfl (by kernel_rfl) (fun _ _ _ h => h) (Or.inl ⟨by rfl, ?_⟩) ?_ ?_
              rotate_left
              · intro w'
                go_simp
                with_reducible rfl
              rotate_left
              · simp only [Act.put, List.setIfInBounds_toArray, List.set_cons_zero, List.set_cons_succ, i64_w, i32_w]
                rfl
              refine pure_ (i := 28) (N := some 140) (v := ?_) (a' := ?_) #[true, true, true, true, true, true, true, true, true, true, true, true, true, true, true, true, true, true, true, true, true, true, true, true, true, true, true, true, true, false, false, false, false, false, false, false, false, false, false] rfl rfl (by kernel_rfl) (fun _ _ _ h => h) (Or.inl ⟨by rfl, ?_⟩) ?_ ?_
              rotate_left
              · intro w'
                go_simp
                with_reducible rfl
              rotate_left
              · simp only [Act.put, List.setIfInBounds_toArray, List.set_cons_zero, List.set_cons_succ, i64_w, i32_w]
                rfl
              refine pure_ (i := 29) (N := some 141) (v := undef) (a' := ?_) #[true, true, true, true, true, true, true, true, true, true, true, true, true, true, true, true, true, true, true, true, true, true, true, true, true, true, true, true, true, true, false, false, false, false, false, false, false, false, false] rfl rfl (by kernel_rfl) (fun _ _ _ h => h) (Or.inr ⟨by rfl, rfl⟩) ?_ ?_
              rotate_left
              · simp only [Act.put, List.setIfInBounds_toArray, List.set_cons_zero, List.set_cons_succ, i64_w, i32_w]
                rfl
              refine pure_ (i := 30) (N := some 142) (v := undef) (a' := ?_) #[true, true, true, true, true, true, true, true, true, true, true, true, true, true, true, true, true, true, true, true, true, true, true, true, true, true, true, true, true, true, true, false, false, false, false, false, false, false, false] rfl rfl (by kernel_rfl) (fun _ _ _ h => h) (Or.inr ⟨by rfl, rfl⟩) ?_ ?_
              rotate_left
              · simp only [Act.put, List.setIfInBounds_toArray, List.set_cons_zero, List.set_cons_succ, i64_w, i32_w]
                rfl
              refine pure_ (i := 31) (N := some 143) (v := undef) (a' := ?_) #[true, true, true, true, true, true, true, true, true, true, true, true, true, true, true, true, true, true, true, true, true, true, true, true, true, true, true, true, true, true, true, true, false, false, false, false, false, false, false] rfl rfl (by kernel_rfl) (fun _ _ _ h => h) (Or.inr ⟨by rfl, rfl⟩) ?_ ?_
              rotate_left
              · simp only [Act.put, List.setIfInBounds_toArray, List.set_cons_zero, List.set_cons_succ, i64_w, i32_w]
                rfl
              refine pure_ (i := 32) (N := some 144) (v := undef) (a' := ?_) #[true, true, true, true, true, true, true, true, true, true, true, true, true, true, true, true, true, true, true, true, true, true, true, true, true, true, true, true, true, true, true, true, true, false, false, false, false, false, false] rfl rfl (by kernel_rfl) (fun _ _ _ h => h) (Or.inr ⟨by rfl, rfl⟩) ?_ ?_
              rotate_left
              · simp only [Act.put, List.setIfInBounds_toArray, List.set_cons_zero, List.set_cons_succ, i64_w, i32_w]
                rfl
              refine pure_ (i := 33) (N := some 145) (v := undef) (a' := ?_) #[true, true, true, true, true, true, true, true, true, true, true, true, true, true, true, true, true, true, true, true, true, true, true, true, true, true, true, true, true, true, true, true, true, true, false, false, false, false, false] rfl rfl (by kernel_rfl) (fun _ _ _ h => h) (Or.inr ⟨by rfl, rfl⟩) ?_ ?_
              rotate_left
              · simp only [Act.put, List.setIfInBounds_toArray, List.set_cons_zero, List.set_cons_succ, i64_w, i32_w]
                rfl
              refine pure_ (i := 34) (N := some 146) (v := undef) (a' := ?_) #[true, true, true, true, true, true, true, true, true, true, true, true, true, true, true, true, true, true, true, true, true, true, true, true, true, true, true, true, true, true, true, true, true, true, true, false, false, false, false] rfl rfl (by kernel_rfl) (fun _ _ _ h => h) (Or.inr ⟨by rfl, rfl⟩) ?_ ?_
              rotate_left
              · simp only [Act.put, List.setIfInBounds_toArray, List.set_cons_zero, List.set_cons_succ, i64_w, i32_w]
                rfl
              refine pure_ (i := 35) (N := some 147) (v := undef) (a' := ?_) #[true, true, true, true, true, true, true, true, true, true, true, true, true, true, true, true, true, true, true, true, true, true, true, true, true, true, true, true, true, true, true, true, true, true, true, true, false, false, false] rfl rfl (by kernel_rfl) (fun _ _ _ h => h) (Or.inr ⟨by rfl, rfl⟩) ?_ ?_
              rotate_left
              · simp only [Act.put, List.setIfInBounds_toArray, List.set_cons_zero, List.set_cons_succ, i64_w, i32_w]
                rfl
              refine pure_ (i := 36) (N := some 148) (v := undef) (a' := ?_) #[true, true, true, true, true, true, true, true, true, true, true, true, true, true, true, true, true, true, true, true, true, true, true, true, true, true, true, true, true, true, true, true, true, true, true, true, true, false, false] rfl rfl (by kernel_rfl) (fun _ _ _ h => h) (Or.inr ⟨by rfl, rfl⟩) ?_ ?_
              rotate_left
              · simp only [Act.put, List.setIfInBounds_toArray, List.set_cons_zero, List.set_cons_succ, i64_w, i32_w]
                rfl
              refine pure_ (i := 37) (N := some 149) (v := ?_) (a' := ?_) #[true, true, true, true, true, true, true, true, true, true, true, true, true, true, true, true, true, true, true, true, true, true, true, true, true, true, true, true, true, true, true, true, true, true, true, true, true, true, false] rfl rfl (by kernel_rfl) (fun _ _ _ h => h) (Or.inl ⟨by rfl, ?_⟩) ?_ ?_
              rotate_left
              · intro w'
                go_simp
                with_reducible rfl
              rotate_left
              · simp only [Act.put, List.setIfInBounds_toArray, List.set_cons_zero, List.set_cons_succ, i64_w, i32_w]
                rfl
              refine pure_ (i := 38) (N := some 150) (v := ?_) (a' := ?_) #[true, true, true, true, true, true, true, true, true, true, true, true, true, true, true, true, true, true, true, true, true, true, true, true, true, true, true, true, true, true, true, true, true, true, true, true, true, true, true] rfl rfl (by kernel_rfl) (fun _ _ _ h => h) (Or.inl ⟨by rfl, ?_⟩) ?_ ?_
              rotate_left
              · intro w'
                go_simp
                with_reducible rfl
              rotate_left
              · simp only [Act.put, List.setIfInBounds_toArray, List.set_cons_zero, List.set_cons_succ, i64_w, i32_w]
                rfl
              refine done_ (by kernel_rfl) ?_
              
              go_wp2_with fail
              go_roundg (l.length - (j + 1))
              case measure => have := HJ.out; omega
              case rel => exact ⟨j + 1, q2, by go_num, ⟨by omega, by omega⟩, HNX, HI5, HOW5, HB5⟩
            rw [if_neg h0] at h8
            clear h0
            by_cases h1 : x.f0 = 1
            · rw [if_pos h1] at h8
              rw [h1] at q0
              clear h1
              have hbx : (wr.alloc (.cells #[.int .i64 1, .int .i64 x.f1, .int .i64 x.f2, .string x.f3] 37)).heap[wr.heap.size]? = some (.cells #[.int .i64 1, .int .i64 x.f1, .int .i64 x.f2, .string x.f3] 37 (0, 0)) := heap_alloc_new _ _
              have HBX := Aside0.mk hbx
              have HI3 := Aside0.mk (HI2.out.alloc (.cells #[.int .i64 1, .int .i64 x.f1, .int .i64 x.f2, .string x.f3] 37))
              have HOW3 := Aside0.mk (own_alloc HOW2.out (.cells #[.int .i64 1, .int .i64 x.f1, .int .i64 x.f2, .string x.f3] 37))
              have HB3 := Aside0.mk (below_alloc HB2.out (.cells #[.int .i64 1, .int .i64 x.f1, .int .i64 x.f2, .string x.f3] 37))
              clear hbx HI2 HOW2 HB2
              obtain ⟨⟨y, q2, e2⟩, hrn, h8⟩ := Option.bind_eq_some_iff.mp h8
              split at h8
              rotate_left
              · cases h8
              rename_i hc
              obtain ⟨hc1, hc2⟩ := hc
              simp only at hc1 hc2
              subst hc1
              subst hc2
              have h7 := Option.some.inj h8
              simp only at h7
              subst h7
              have HN := Aside0.mk hrn
              clear hrn h8
              go_wp2_with fail
              generalize wr.alloc (.cells #[.int .i64 1, .int .i64 x.f1, .int .i64 x.f2, .string x.f3] 37) = wa at *
              have x0 : wa.cell? ⟨wr.heap.size, 0, none⟩ = some (.int .i64 1) := (blk_cell HBX.out 0).trans rfl
              have x1 : wa.cell? ⟨wr.heap.size, 1, none⟩ = some (.int .i64 x.f1) := (blk_cell HBX.out 1).trans rfl
              have x2 : wa.cell? ⟨wr.heap.size, 2, none⟩ = some (.int .i64 x.f2) := (blk_cell HBX.out 2).trans rfl
              have x3 : wa.cell? ⟨wr.heap.size, 3, none⟩ = some (.string x.f3) := (blk_cell HBX.out 3).trans rfl
              refine start_ (n := 39) (S := fun w' => w'.cell? ⟨wr.heap.size, 0, none⟩ = some (.int .i64 1) ∧ w'.cell? ⟨wr.heap.size, 1, none⟩ = some (.int .i64 x.f1) ∧ w'.cell? ⟨wr.heap.size, 2, none⟩ = some (.int .i64 x.f2) ∧ w'.cell? ⟨wr.heap.size, 3, none⟩ = some (.string x.f3)) (ds := []) #[false, false, false, false, false, false, false, false, false, false, false, false, false, false, false, false, false, false, false, false, false, false, false, false, false, false, false, false, false, false, false, false, false, false, false, false, false, false, false] (by kernel_rfl) rfl rfl ⟨x0, x1, x2, x3⟩ (fun hHeld => ?_)
              refine pure_ (i := 0) (N := some 112) (v := ?_) (a' := ?_) #[true, false, false, false, false, false, false, false, false, false, false, false, false, false, false, false, false, false, false, false, false, false, false, false, false, false, false, false, false, false, false, false, false, false, false, false, false, false, false] rfl rfl (by kernel_rfl) (fun _ _ _ h => h) (Or.inl ⟨by rfl, ?_⟩) ?_ ?_
              rotate_left
              · intro w'
                go_simp
                with_reducible rfl
              rotate_left
              · simp only [Act.put, List.setIfInBounds_toArray, List.set_cons_zero, List.set_cons_succ, i64_w, i32_w]
                rfl
              refine take_ (i := 1) (N := some 113) (v := ?_) (a' := ?_) #[true, true, false, false, false, false, false, false, false, false, false, false, false, false, false, false, false, false, false, false, false, false, false, false, false, false, false, false, false, false, false, false, false, false, false, false, false, false, false] rfl rfl (by kernel_rfl) (fun _ _ _ h => h) (Or.inl ⟨by rfl, ?_⟩) hHeld ?_ ?_
              rotate_left
              · rintro w' ⟨s0, s1, s2, s3⟩
                go_simp
                with_reducible rfl
              rotate_left
              · simp only [Act.put, List.setIfInBounds_toArray, List.set_cons_zero, List.set_cons_succ, i64_w, i32_w]
                rfl
              refine pure_ (i := 2) (N := some 114) (v := ?_) (a' := ?_) #[true, true, true, false, false, false, false, false, false, false, false, false, false, false, false, false, false, false, false, false, false, false, false, false, false, false, false, false, false, false, false, false, false, false, false, false, false, false, false] rfl rfl (by kernel_rfl) (fun _ _ _ h => h) (Or.inl ⟨by rfl, ?_⟩) ?_ ?_
              rotate_left
              · intro w'
                go_simp
                with_reducible rfl
              rotate_left
              · simp only [Act.put, List.setIfInBounds_toArray, List.set_cons_zero, List.set_cons_succ, i64_w, i32_w]
                rfl
              refine pure_ (i := 3) (N := some 115) (v := ?_) (a' := ?_) #[true, true, true, true, false, false, false, false, false, false, false, false, false, false, false, false, false, false, false, false, false, false, false, false, false, false, false, false, false, false, false, false, false, false, false, false, false, false, false] rfl rfl (by kernel_rfl) (fun _ _ _ h => h) (Or.inl ⟨by rfl, ?_⟩) ?_ ?_
              rotate_left
              · intro w'
                go_simp
                with_reducible rfl
              rotate_left
              · simp only [Act.put, List.setIfInBounds_toArray, List.set_cons_zero, List.set_cons_succ, i64_w, i32_w]
                rfl
              refine pure_ (i := 4) (N := some 116) (v := undef) (a' := ?_) #[true, true, true, true, true, false, false, false, false, false, false, false, false, false, false, false, false, false, false, false, false, false, false, false, false, false, false, false, false, false, false, false, false, false, false, false, false, false, false] rfl rfl (by kernel_rfl) (fun _ _ _ h => h) (Or.inr ⟨by rfl, rfl⟩) ?_ ?_
              rotate_left
              · simp only [Act.put, List.setIfInBounds_toArray, List.set_cons_zero, List.set_cons_succ, i64_w, i32_w]
                rfl
              refine pure_ (i := 5) (N := some 117) (v := undef) (a' := ?_) #[true, true, true, true, true, true, false, false, false, false, false, false, false, false, false, false, false, false, false, false, false, false, false, false, false, false, false, false, false, false, false, false, false, false, false, false, false, false, false] rfl rfl (by kernel_rfl) (fun _ _ _ h => h) (Or.inr ⟨by rfl, rfl⟩) ?_ ?_
              rotate_left
              · simp only [Act.put, List.setIfInBounds_toArray, List.set_cons_zero, List.set_cons_succ, i64_w, i32_w]
                rfl
              refine pure_ (i := 6) (N := some 118) (v := undef) (a' := ?_) #[true, true, true, true, true, true, true, false, false, false, false, false, false, false, false, false, false, false, false, false, false, false, false, false, false, false, false, false, false, false, false, false, false, false, false, false, false, false, false] rfl rfl (by kernel_rfl) (fun _ _ _ h => h) (Or.inr ⟨by rfl, rfl⟩) ?_ ?_
              rotate_left
              · simp only [Act.put, List.setIfInBounds_toArray, List.set_cons_zero, List.set_cons_succ, i64_w, i32_w]
                rfl
              refine pure_ (i := 7) (N := some 119) (v := undef) (a' := ?_) #[true, true, true, true, true, true, true, true, false, false, false, false, false, false, false, false, false, false, false, false, false, false, false, false, false, false, false, false, false, false, false, false, false, false, false, false, false, false, false] rfl rfl (by kernel_rfl) (fun _ _ _ h => h) (Or.inr ⟨by rfl, rfl⟩) ?_ ?_
              rotate_left
              · simp only [Act.put, List.setIfInBounds_toArray, List.set_cons_zero, List.set_cons_succ, i64_w, i32_w]
                rfl
              refine pure_ (i := 8) (N := some 120) (v := undef) (a' := ?_) #[true, true, true, true, true, true, true, true, true, false, false, false, false, false, false, false, false, false, false, false, false, false, false, false, false, false, false, false, false, false, false, false, false, false, false, false, false, false, false] rfl rfl (by kernel_rfl) (fun _ _ _ h => h) (Or.inr ⟨by rfl, rfl⟩) ?_ ?_
              rotate_left
              · simp only [Act.put, List.setIfInBounds_toArray, List.set_cons_zero, List.set_cons_succ, i64_w, i32_w]
                rfl
              refine pure_ (i := 9) (N := some 121) (v := undef) (a' := ?_) #[true, true, true, true, true, true, true, true, true, true, false, false, false, false, false, false, false, false, false, false, false, false, false, false, false, false, false, false, false, false, false, false, false, false, false, false, false, false, false] rfl rfl (by kernel_rfl) (fun _ _ _ h => h) (Or.inr ⟨by rfl, rfl⟩) ?_ ?_
              rotate_left
              · simp only [Act.put, List.setIfInBounds_toArray, List.set_cons_zero, List.set_cons_succ, i64_w, i32_w]
                rfl
              refine pure_ (i := 10) (N := some 122) (v := undef) (a' := ?_) #[true, true, true, true, true, true, true, true, true, true, true, false, false, false, false, false, false, false, false, false, false, false, false, false, false, false, false, false, false, false, false, false, false, false, false, false, false, false, false] rfl rfl (by kernel_rfl) (fun _ _ _ h => h) (Or.inr ⟨by rfl, rfl⟩) ?_ ?_
              rotate_left
              · simp only [Act.put, List.setIfInBounds_toArray, List.set_cons_zero, List.set_cons_succ, i64_w, i32_w]
                rfl
              refine pure_ (i := 11) (N := some 123) (v := ?_) (a' := ?_) #[true, true, true, true, true, true, true, true, true, true, true, true, false, false, false, false, false, false, false, false, false, false, false, false, false, false, false, false, false, false, false, false, false, false, false, false, false, false, false] rfl rfl (by kernel_rfl) (fun _ _ _ h => h) (Or.inl ⟨by rfl, ?_⟩) ?_ ?_
              rotate_left
              · intro w'
                go_simp
                with_reducible rfl
              rotate_left
              · simp only [Act.put, List.setIfInBounds_toArray, List.set_cons_zero, List.set_cons_succ, i64_w, i32_w]
                rfl
              refine pure_ (i := 12) (N := some 124) (v := ?_) (a' := ?_) #[true, true, true, true, true, true, true, true, true, true, true, true, true, false, false, false, false, false, false, false, false, false, false, false, false, false, false, false, false, false, false, false, false, false, false, false, false, false, false] rfl rfl (by kernel_rfl) (fun _ _ _ h => h) (Or.inl ⟨by rfl, ?_⟩) ?_ ?_
              rotate_left
              · intro w'
                go_simp
                with_reducible rfl
              rotate_left
              · simp only [Act.put, List.setIfInBounds_toArray, List.set_cons_zero, List.set_cons_succ, i64_w, i32_w]
                rfl
              refine pure_ (i := 13) (N := some 125) (v := ?_) (a' := ?_) #[true, true, true, true, true, true, true, true, true, true, true, true, true, true, false, false, false, false, false, false, false, false, false, false, false, false, false, false, false, false, false, false, false, false, false, false, false, false, false] rfl rfl (by kernel_rfl) (fun _ _ _ h => h) (Or.inl ⟨by rfl, ?_⟩) ?_ ?_
              rotate_left
              · intro w'
                go_simp
                with_reducible rfl
              rotate_left
              · simp only [Act.put, List.setIfInBounds_toArray, List.set_cons_zero, List.set_cons_succ, i64_w, i32_w]
                rfl
              refine take_ (i := 14) (N := some 126) (v := ?_) (a' := ?_) #[true, true, true, true, true, true, true, true, true, true, true, true, true, true, true, false, false, false, false, false, false, false, false, false, false, false, false, false, false, false, false, false, false, false, false, false, false, false, false] rfl rfl (by kernel_rfl) (fun _ _ _ h => h) (Or.inl ⟨by rfl, ?_⟩) hHeld ?_ ?_
              rotate_left
              · rintro w' ⟨s0, s1, s2, s3⟩
                go_simp
                with_reducible rfl
              rotate_left
              · simp only [Act.put, List.setIfInBounds_toArray, List.set_cons_zero, List.set_cons_succ, i64_w, i32_w]
                rfl
              refine pure_ (i := 15) (N := some 127) (v := ?_) (a' := ?_) #[true, true, true, true, true, true, true, true, true, true, true, true, true, true, true, true, false, false, false, false, false, false, false, false, false, false, false, false, false, false, false, false, false, false, false, false, false, false, false] rfl rfl (by kernel_rfl) (fun _ _ _ h => h) (Or.inl ⟨by rfl, ?_⟩) ?_ ?_
              rotate_left
              · intro w'
                go_simp
                with_reducible rfl
              rotate_left
              · simp only [Act.put, List.setIfInBounds_toArray, List.set_cons_zero, List.set_cons_succ, i64_w, i32_w]
                rfl
              refine pure_ (i := 16) (N := some 128) (v := ?_) (a' := ?_) #[true, true, true, true, true, true, true, true, true, true, true, true, true, true, true, true, true, false, false, false, false, false, false, false, false, false, false, false, false, false, false, false, false, false, false, false, false, false, false] rfl rfl (by kernel_rfl) (fun _ _ _ h => h) (Or.inl ⟨by rfl, ?_⟩) ?_ ?_
              rotate_left
              · intro w'
                go_simp
                with_reducible rfl
              rotate_left
              · simp only [Act.put, List.setIfInBounds_toArray, List.set_cons_zero, List.set_cons_succ, i64_w, i32_w]
                rfl
              refine pure_ (i := 17) (N := some 129) (v := ?_) (a' := ?_) #[true, true, true, true, true, true, true, true, true, true, true, true, true, true, true, true, true, true, false, false, false, false, false, false, false, false, false, false, false, false, false, false, false, false, false, false, false, false, false] rfl rfl (by kernel_rfl) (fun _ _ _ h => h) (Or.inl ⟨by rfl, ?_⟩) ?_ ?_
              rotate_left
              · intro w'
                go_simp
                with_reducible rfl
              rotate_left
              · simp only [Act.put, List.setIfInBounds_toArray, List.set_cons_zero, List.set_cons_succ, i64_w, i32_w]
                rfl
              refine pure_ (i := 19) (N := some 131) (v := ?_) (a' := ?_) #[true, true, true, true, true, true, true, true, true, true, true, true, true, true, true, true, true, true, false, true, false, false, false, false, false, false, false, false, false, false, false, false, false, false, false, false, false, false, false] rfl rfl (by kernel_rfl) (fun _ _ _ h => h) (Or.inl ⟨by rfl, ?_⟩) ?_ ?_
              rotate_left
              · intro w'
                go_simp
                with_reducible rfl
              rotate_left
              · simp only [Act.put, List.setIfInBounds_toArray, List.set_cons_zero, List.set_cons_succ, i64_w, i32_w]
                rfl
              refine take_ (i := 20) (N := some 132) (v := ?_) (a' := ?_) #[true, true, true, true, true, true, true, true, true, true, true, true, true, true, true, true, true, true, false, true, true, false, false, false, false, false, false, false, false, false, false, false, false, false, false, false, false, false, false] rfl rfl (by kernel_rfl) (fun _ _ _ h => h) (Or.inl ⟨by rfl, ?_⟩) hHeld ?_ ?_
              rotate_left
              · rintro w' ⟨s0, s1, s2, s3⟩
                go_simp
                with_reducible rfl
              rotate_left
              · simp only [Act.put, List.setIfInBounds_toArray, List.set_cons_zero, List.set_cons_succ, i64_w, i32_w]
                rfl
              refine one_ (i := 18) (N := some 130) #[true, true, true, true, true, true, true, true, true, true, true, true, true, true, true, true, true, true, true, true, true, false, false, false, false, false, false, false, false, false, false, false, false, false, false, false, false, false, false] rfl rfl (by kernel_rfl) (by decide) (fun K hK => ?_)
              refine goes_ Try.func26 (by kernel_rfl) rfl #[.pointer (some ⟨gr, 0, none⟩)] (by rfl) rfl rfl (by simp only [List.map_toArray, List.map_cons, List.map_nil]; rfl) ?_
              with_reducible refine (oct_Reader_Text.calls gr q1 0 x.f3 q2 0 w _ HI3.out.drew (below_drew HB3.out) HN.out).mono ?_
              rintro e w5 ⟨rfl, hI5, hb5, hk5⟩
              refine ⟨_, rfl, ?_⟩
              have HI5 := Aside0.mk hI5
              have HB5 := Aside0.mk hb5
              have HBX5 := Aside0.mk (mosaiclaw02_OctBack.keptblk HBX.out hk5 (mosaiclaw02_OctBack.ne_rd HI3.out HBX.out))
              have HOW5 := Aside0.mk (mosaiclaw02_OctBack.keptrow HOW3.out hk5 HI3.out)
              clear hI5 hb5 hk5
              refine hK.out _ _ ⟨(blk_cell HBX5.out 0).trans rfl, (blk_cell HBX5.out 1).trans rfl, (blk_cell HBX5.out 2).trans rfl, (blk_cell HBX5.out 3).trans rfl⟩ (fun hHeld => ?_)
              clear hK K
              refine norm_ (a' := ?_) ?_ ?_
              rotate_left
              · show Act.put _ (some 130) _ = _
                simp only [Act.put, List.setIfInBounds_toArray, List.set_cons_zero, List.set_cons_succ, i64_w, i32_w]
                rfl
              refine pure_ (i := 21) (N := some 133) (v := ?_) (a' := ?_) #[true, true, true, true, true, true, true, true, true, true, true, true, true, true, true, true, true, true, true, true, true, true, false, false, false, false, false, false, false, false, false, false, false, false, false, false, false, false, false] rfl rfl (by kernel_rfl) (fun _ _ _ h => h) (Or.inl ⟨by rfl, ?_⟩) ?_ ?_
              rotate_left
              · intro w'
                go_simp
                with_reducible rfl
              rotate_left
              · simp only [Act.put, List.setIfInBounds_toArray, List.set_cons_zero, List.set_cons_succ, i64_w, i32_w]
                rfl
              refine pure_ (i := 22) (N := some 134) (v := ?_) (a' := ?_) #[true, true, true, true, true, true, true, true, true, true, true, true, true, true, true, true, true, true, true, true, true, true, true, false, false, false, false, false, false, false, false, false, false, false, false, false, false, false, false] rfl rfl (by kernel_rfl) (fun _ _ _ h => h) (Or.inl ⟨by rfl, ?_⟩) ?_ ?_
              rotate_left
              · intro w'
                go_simp
                with_reducible rfl
              rotate_left
              · simp only [Act.put, List.setIfInBounds_toArray, List.set_cons_zero, List.set_cons_succ, i64_w, i32_w]
                rfl
              refine pure_ (i := 23) (N := some 135) (v := ?_) (a' := ?_) #[true, true, true, true, true, true, true, true, true, true, true, true, true, true, true, true, true, true, true, true, true, true, true, true, false, false, false, false, false, false, false, false, false, false, false, false, false, false, false] rfl rfl (by kernel_rfl) (fun _ _ _ h => h) (Or.inl ⟨by rfl, ?_⟩) ?_ ?_
              rotate_left
              · intro w'
                go_simp
                with_reducible rfl
              rotate_left
              · simp only [Act.put, List.setIfInBounds_toArray, List.set_cons_zero, List.set_cons_succ, i64_w, i32_w]
                rfl
              refine pure_ (i := 24) (N := some 136) (v := ?_) (a' := ?_) #[true, true, true, true, true, true, true, true, true, true, true, true, true, true, true, true, true, true, true, true, true, true, true, true, true, false, false, false, false, false, false, false, false, false, false, false, false, false, false] rfl rfl (by kernel_rfl) (fun _ _ _ h => h) (Or.inl ⟨by rfl, ?_⟩) ?_ ?_
              rotate_left
              · intro w'
                go_simp
                with_reducible rfl
              rotate_left
              · simp only [Act.put, List.setIfInBounds_toArray, List.set_cons_zero, List.set_cons_succ, i64_w, i32_w]
                rfl
              refine pure_ (i := 25) (N := some 137) (v := ?_) (a' := ?_) #[true, true, true, true, true, true, true, true, true, true, true, true, true, true, true, true, true, true, true, true, true, true, true, true, true, true, false, false, false, false, false, false, false, false, false, false, false, false, false] rfl rfl (by kernel_rfl) (fun _ _ _ h => h) (Or.inl ⟨by rfl, ?_⟩) ?_ ?_
              rotate_left
              · intro w'
                go_simp
                with_reducible rfl
              rotate_left
              · simp only [Act.put, List.setIfInBounds_toArray, List.set_cons_zero, List.set_cons_succ, i64_w, i32_w]
                rfl
              refine take_ (i := 26) (N := some 138) (v := ?_) (a' := ?_) #[true, true, true, true, true, true, true, true, true, true, true, true, true, true, true, true, true, true, true, true, true, true, true, true, true, true, true, false, false, false, false, false, false, false, false, false, false, false, false] rfl rfl (by kernel_rfl) (fun _ _ _ h => h) (Or.inl ⟨by rfl, ?_⟩) hHeld ?_ ?_
              rotate_left
              · rintro w' ⟨s0, s1, s2, s3⟩
                go_simp
                with_reducible rfl
              rotate_left
              · simp only [Act.put, List.setIfInBounds_toArray, List.set_cons_zero, List.set_cons_succ, i64_w, i32_w]
                rfl
              refine pure_ (i := 27) (N := some 139) (v := ?_) (a' := ?_) #[true, true, true, true, true, true, true, true, true, true, true, true, true, true, true, true, true, true, true, true, true, true, true, true, true, true, true, true, false, false, false, false, false, false, false, false, false, false, false] rfl rfl (by kernel_rfl) (fun _ _ _ h => h) (Or.inl ⟨by rfl, ?_⟩) ?_ ?_
              rotate_left
              · intro w'
                go_simp
                with_reducible rfl
              rotate_left
              · simp only [Act.put, List.setIfInBounds_toArray, List.set_cons_zero, List.set_cons_succ, i64_w, i32_w]
                rfl
              refine pure_ (i := 28) (N := some 140) (v := ?_) (a' := ?_) #[true, true, true, true, true, true, true, true, true, true, true, true, true, true, true, true, true, true, true, true, true, true, true, true, true, true, true, true, true, false, false, false, false, false, false, false, false, false, false] rfl rfl (by kernel_rfl) (fun _ _ _ h => h) (Or.inl ⟨by rfl, ?_⟩) ?_ ?_
              rotate_left
              · intro w'
                go_simp
                with_reducible rfl
              rotate_left
              · simp only [Act.put, List.setIfInBounds_toArray, List.set_cons_zero, List.set_cons_succ, i64_w, i32_w]
                rfl
              refine pure_ (i := 29) (N := some 141) (v := undef) (a' := ?_) #[true, true, true, true, true, true, true, true, true, true, true, true, true, true, true, true, true, true, true, true, true, true, true, true, true, true, true, true, true, true, false, false, false, false, false, false, false, false, false] rfl rfl (by kernel_rfl) (fun _ _ _ h => h) (Or.inr ⟨by rfl, rfl⟩) ?_ ?_
              rotate_left
              · simp only [Act.put, List.setIfInBounds_toArray, List.set_cons_zero, List.set_cons_succ, i64_w, i32_w]
                rfl
              refine pure_ (i := 30) (N := some 142) (v := undef) (a' := ?_) #[true, true, true, true, true, true, true, true, true, true, true, true, true, true, true, true, true, true, true, true, true, true, true, true, true, true, true, true, true, true, true, false, false, false, false, false, false, false, false] rfl rfl (by kernel_rfl) (fun _ _ _ h => h) (Or.inr ⟨by rfl, rfl⟩) ?_ ?_
              rotate_left
              · simp only [Act.put, List.setIfInBounds_toArray, List.set_cons_zero, List.set_cons_succ, i64_w, i32_w]
                rfl
              refine pure_ (i := 31) (N := some 143) (v := undef) (a' := ?_) #[true, true, true, true, true, true, true, true, true, true, true, true, true, true, true, true, true, true, true, true, true, true, true, true, true, true, true, true, true, true, true, true, false, false, false, false, false, false, false] rfl rfl (by kernel_rfl) (fun _ _ _ h => h) (Or.inr ⟨by rfl, rfl⟩) ?_ ?_
              rotate_left
              · simp only [Act.put, List.setIfInBounds_toArray, List.set_cons_zero, List.set_cons_succ, i64_w, i32_w]
                rfl
              refine pure_ (i := 32) (N := some 144) (v := undef) (a' := ?_) #[true, true, true, true, true, true, true, true, true, true, true, true, true, true, true, true, true, true, true, true, true, true, true, true, true, true, true, true, true, true, true, true, true, false, false, false, false, false, false] rfl rfl (by kernel_rfl) (fun _ _ _ h => h) (Or.inr ⟨by rfl, rfl⟩) ?_ ?_
              rotate_left
              · simp only [Act.put, List.setIfInBounds_toArray, List.set_cons_zero, List.set_cons_succ, i64_w, i32_w]
                rfl
              refine pure_ (i := 33) (N := some 145) (v := undef) (a' := ?_) #[true, true, true, true, true, true, true, true, true, true, true, true, true, true, true, true, true, true, true, true, true, true, true, true, true, true, true, true, true, true, true, true, true, true, false, false, false, false, false] rfl rfl (by kernel_rfl) (fun _ _ _ h => h) (Or.inr ⟨by rfl, rfl⟩) ?_ ?_
              rotate_left
              · simp only [Act.put, List.setIfInBounds_toArray, List.set_cons_zero, List.set_cons_succ, i64_w, i32_w]
                rfl
              refine pure_ (i := 34) (N := some 146) (v := undef) (a' := ?_) #[true, true, true, true, true, true, true, true, true, true, true, true, true, true, true, true, true, true, true, true, true, true, true, true, true, true, true, true, true, true, true, true, true, true, true, false, false, false, false] rfl rfl (by kernel_rfl) (fun _ _ _ h => h) (Or.inr ⟨by rfl, rfl⟩) ?_ ?_
              rotate_left
              · simp only [Act.put, List.setIfInBounds_toArray, List.set_cons_zero, List.set_cons_succ, i64_w, i32_w]
                rfl
              refine pure_ (i := 35) (N := some 147) (v := undef) (a' := ?_) #[true, true, true, true, true, true, true, true, true, true, true, true, true, true, true, true, true, true, true, true, true, true, true, true, true, true, true, true, true, true, true, true, true, true, true, true, false, false, false] rfl rfl (by kernel_rfl) (fun _ _ _ h => h) (Or.inr ⟨by rfl, rfl⟩) ?_ ?_
              rotate_left
              · simp only [Act.put, List.setIfInBounds_toArray, List.set_cons_zero, List.set_cons_succ, i64_w, i32_w]
                rfl
              refine pure_ (i := 36) (N := some 148) (v := undef) (a' := ?_) #[true, true, true, true, true, true, true, true, true, true, true, true, true, true, true, true, true, true, true, true, true, true, true, true, true, true, true, true, true, true, true, true, true, true, true, true, true, false, false] rfl rfl (by kernel_rfl) (fun _ _ _ h => h) (Or.inr ⟨by rfl, rfl⟩) ?_ ?_
              rotate_left
              · simp only [Act.put, List.setIfInBounds_toArray, List.set_cons_zero, List.set_cons_succ, i64_w, i32_w]
                rfl
              refine pure_ (i := 37) (N := some 149) (v := ?_) (a' := ?_) #[true, true, true, true, true, true, true, true, true, true, true, true, true, true, true, true, true, true, true, true, true, true, true, true, true, true, true, true, true, true, true, true, true, true, true, true, true, true, false] rfl rfl (by kernel_rfl) (fun _ _ _ h => h) (Or.inl ⟨by rfl, ?_⟩) ?_ ?_
              rotate_left
              · intro w'
                go_simp
                with_reducible rfl
              rotate_left
              · simp only [Act.put, List.setIfInBounds_toArray, List.set_cons_zero, List.set_cons_succ, i64_w, i32_w]
                rfl
              refine pure_ (i := 38) (N := some 150) (v := ?_) (a' := ?_) #[true, true, true, true, true, true, true, true, true, true, true, true, true, true, true, true, true, true, true, true, true, true, true, true, true, true, true, true, true, true, true, true, true, true, true, true, true, true, true] rfl rfl (by kernel_rfl) (fun _ _ _ h => h) (Or.inl ⟨by rfl, ?_⟩) ?_ ?_
              rotate_left
              · intro w'
                go_simp
                with_reducible rfl
              rotate_left
              · simp only [Act.put, List.setIfInBounds_toArray, List.set_cons_zero, List.set_cons_succ, i64_w, i32_w]
                rfl
              refine done_ (by kernel_rfl) ?_
              
              go_wp2_with fail
              go_roundg (l.length - (j + 1))
              case measure => have := HJ.out; omega
              case rel => exact ⟨j + 1, q2, by go_num, ⟨by omega, by omega⟩, HNX, HI5, HOW5, HB5⟩
            rw [if_neg h1] at h8
            clear h1
            by_cases h2 : x.f0 = 2
            · rw [if_pos h2] at h8
              rw [h2] at q0
              clear h2
              have hbx : (wr.alloc (.cells #[.int .i64 2, .int .i64 x.f1, .int .i64 x.f2, .string x.f3] 37)).heap[wr.heap.size]? = some (.cells #[.int .i64 2, .int .i64 x.f1, .int .i64 x.f2, .string x.f3] 37 (0, 0)) := heap_alloc_new _ _
              have HBX := Aside0.mk hbx
              have HI3 := Aside0.mk (HI2.out.alloc (.cells #[.int .i64 2, .int .i64 x.f1, .int .i64 x.f2, .string x.f3] 37))
              have HOW3 := Aside0.mk (own_alloc HOW2.out (.cells #[.int .i64 2, .int .i64 x.f1, .int .i64 x.f2, .string x.f3] 37))
              have HB3 := Aside0.mk (below_alloc HB2.out (.cells #[.int .i64 2, .int .i64 x.f1, .int .i64 x.f2, .string x.f3] 37))
              clear hbx HI2 HOW2 HB2
              obtain ⟨⟨y, q2, e2⟩, hrn, h8⟩ := Option.bind_eq_some_iff.mp h8
              split at h8
              rotate_left
              · cases h8
              rename_i hc
              obtain ⟨hc1, hc2⟩ := hc
              simp only at hc1 hc2
              subst hc1
              subst hc2
              have h7 := Option.some.inj h8
              simp only at h7
              subst h7
              have HN := Aside0.mk hrn
              clear hrn h8
              go_wp2_with fail
              generalize wr.alloc (.cells #[.int .i64 2, .int .i64 x.f1, .int .i64 x.f2, .string x.f3] 37) = wa at *
              have x0 : wa.cell? ⟨wr.heap.size, 0, none⟩ = some (.int .i64 2) := (blk_cell HBX.out 0).trans rfl
              have x1 : wa.cell? ⟨wr.heap.size, 1, none⟩ = some (.int .i64 x.f1) := (blk_cell HBX.out 1).trans rfl
              have x2 : wa.cell? ⟨wr.heap.size, 2, none⟩ = some (.int .i64 x.f2) := (blk_cell HBX.out 2).trans rfl
              have x3 : wa.cell? ⟨wr.heap.size, 3, none⟩ = some (.string x.f3) := (blk_cell HBX.out 3).trans rfl
              refine start_ (n := 39) (S := fun w' => w'.cell? ⟨wr.heap.size, 0, none⟩ = some (.int .i64 2) ∧ w'.cell? ⟨wr.heap.size, 1, none⟩ = some (.int .i64 x.f1) ∧ w'.cell? ⟨wr.heap.size, 2, none⟩ = some (.int .i64 x.f2) ∧ w'.cell? ⟨wr.heap.size, 3, none⟩ = some (.string x.f3)) (ds := []) #[false, false, false, false, false, false, false, false, false, false, false, false, false, false, false, false, false, false, false, false, false, false, false, false, false, false, false, false, false, false, false, false, false, false, false, false, false, false, false] (by kernel_rfl) rfl rfl ⟨x0, x1, x2, x3⟩ (fun hHeld => ?_)
              refine pure_ (i := 0) (N := some 112) (v := ?_) (a' := ?_) #[true, false, false, false, false, false, false, false, false, false, false, false, false, false, false, false, false, false, false, false, false, false, false, false, false, false, false, false, false, false, false, false, false, false, false, false, false, false, false] rfl rfl (by kernel_rfl) (fun _ _ _ h => h) (Or.inl ⟨by rfl, ?_⟩) ?_ ?_
              rotate_left
              · intro w'
                go_simp
                with_reducible rfl
              rotate_left
              · simp only [Act.put, List.setIfInBounds_toArray, List.set_cons_zero, List.set_cons_succ, i64_w, i32_w]
                rfl
              refine take_ (i := 1) (N := some 113) (v := ?_) (a' := ?_) #[true, true, false, false, false, false, false, false, false, false, false, false, false, false, false, false, false, false, false, false, false, false, false, false, false, false, false, false, false, false, false, false, false, false, false, false, false, false, false] rfl rfl (by kernel_rfl) (fun _ _ _ h => h) (Or.inl ⟨by rfl, ?_⟩) hHeld ?_ ?_
              rotate_left
              · rintro w' ⟨s0, s1, s2, s3⟩
                go_simp
                with_reducible rfl
              rotate_left
              · simp only [Act.put, List.setIfInBounds_toArray, List.set_cons_zero, List.set_cons_succ, i64_w, i32_w]
                rfl
              refine pure_ (i := 2) (N := some 114) (v := ?_) (a' := ?_) #[true, true, true, false, false, false, false, false, false, false, false, false, false, false, false, false, false, false, false, false, false, false, false, false, false, false, false, false, false, false, false, false, false, false, false, false, false, false, false] rfl rfl (by kernel_rfl) (fun _ _ _ h => h) (Or.inl ⟨by rfl, ?_⟩) ?_ ?_
              rotate_left
              · intro w'
                go_simp
                with_reducible rfl
              rotate_left
              · simp only [Act.put, List.setIfInBounds_toArray, List.set_cons_zero, List.set_cons_succ, i64_w, i32_w]
                rfl
              refine pure_ (i := 3) (N := some 115) (v := ?_) (a' := ?_) #[true, true, true, true, false, false, false, false, false, false, false, false, false, false, false, false, false, false, false, false, false, false, false, false, false, false, false, false, false, false, false, false, false, false, false, false, false, false, false] rfl rfl (by kernel_rfl) (fun _ _ _ h => h) (Or.inl ⟨by rfl, ?_⟩) ?_ ?_
              rotate_left
              · intro w'
                go_simp
                with_reducible rfl
              rotate_left
              · simp only [Act.put, List.setIfInBounds_toArray, List.set_cons_zero, List.set_cons_succ, i64_w, i32_w]
                rfl
              refine pure_ (i := 4) (N := some 116) (v := undef) (a' := ?_) #[true, true, true, true, true, false, false, false, false, false, false, false, false, false, false, false, false, false, false, false, false, false, false, false, false, false, false, false, false, false, false, false, false, false, false, false, false, false, false] rfl rfl (by kernel_rfl) (fun _ _ _ h => h) (Or.inr ⟨by rfl, rfl⟩) ?_ ?_
              rotate_left
              · simp only [Act.put, List.setIfInBounds_toArray, List.set_cons_zero, List.set_cons_succ, i64_w, i32_w]
                rfl
              refine pure_ (i := 5) (N := some 117) (v := undef) (a' := ?_) #[true, true, true, true, true, true, false, false, false, false, false, false, false, false, false, false, false, false, false, false, false, false, false, false, false, false, false, false, false, false, false, false, false, false, false, false, false, false, false] rfl rfl (by kernel_rfl) (fun _ _ _ h => h) (Or.inr ⟨by rfl, rfl⟩) ?_ ?_
              rotate_left
              · simp only [Act.put, List.setIfInBounds_toArray, List.set_cons_zero, List.set_cons_succ, i64_w, i32_w]
                rfl
              refine pure_ (i := 6) (N := some 118) (v := undef) (a' := ?_) #[true, true, true, true, true, true, true, false, false, false, false, false, false, false, false, false, false, false, false, false, false, false, false, false, false, false, false, false, false, false, false, false, false, false, false, false, false, false, false] rfl rfl (by kernel_rfl) (fun _ _ _ h => h) (Or.inr ⟨by rfl, rfl⟩) ?_ ?_
              rotate_left
              · simp only [Act.put, List.setIfInBounds_toArray, List.set_cons_zero, List.set_cons_succ, i64_w, i32_w]
                rfl
              refine pure_ (i := 7) (N := some 119) (v := undef) (a' := ?_) #[true, true, true, true, true, true, true, true, false, false, false, false, false, false, false, false, false, false, false, false, false, false, false, false, false, false, false, false, false, false, false, false, false, false, false, false, false, false, false] rfl rfl (by kernel_rfl) (fun _ _ _ h => h) (Or.inr ⟨by rfl, rfl⟩) ?_ ?_
              rotate_left
              · simp only [Act.put, List.setIfInBounds_toArray, List.set_cons_zero, List.set_cons_succ, i64_w, i32_w]
                rfl
              refine pure_ (i := 8) (N := some 120) (v := undef) (a' := ?_) #[true, true, true, true, true, true, true, true, true, false, false, false, false, false, false, false, false, false, false, false, false, false, false, false, false, false, false, false, false, false, false, false, false, false, false, false, false, false, false] rfl rfl (by kernel_rfl) (fun _ _ _ h => h) (Or.inr ⟨by rfl, rfl⟩) ?_ ?_
              rotate_left
              · simp only [Act.put, List.setIfInBounds_toArray, List.set_cons_zero, List.set_cons_succ, i64_w, i32_w]
                rfl
              refine pure_ (i := 9) (N := some 121) (v := undef) (a' := ?_) #[true, true, true, true, true, true, true, true, true, true, false, false, false, false, false, false, false, false, false, false, false, false, false, false, false, false, false, false, false, false, false, false, false, false, false, false, false, false, false] rfl rfl (by kernel_rfl) (fun _ _ _ h => h) (Or.inr ⟨by rfl, rfl⟩) ?_ ?_
              rotate_left
              · simp only [Act.put, List.setIfInBounds_toArray, List.set_cons_zero, List.set_cons_succ, i64_w, i32_w]
                rfl
              refine pure_ (i := 10) (N := some 122) (v := undef) (a' := ?_) #[true, true, true, true, true, true, true, true, true, true, true, false, false, false, false, false, false, false, false, false, false, false, false, false, false, false, false, false, false, false, false, false, false, false, false, false, false, false, false] rfl rfl (by kernel_rfl) (fun _ _ _ h => h) (Or.inr ⟨by rfl, rfl⟩) ?_ ?_
              rotate_left
              · simp only [Act.put, List.setIfInBounds_toArray, List.set_cons_zero, List.set_cons_succ, i64_w, i32_w]
                rfl
              refine pure_ (i := 11) (N := some 123) (v := ?_) (a' := ?_) #[true, true, true, true, true, true, true, true, true, true, true, true, false, false, false, false, false, false, false, false, false, false, false, false, false, false, false, false, false, false, false, false, false, false, false, false, false, false, false] rfl rfl (by kernel_rfl) (fun _ _ _ h => h) (Or.inl ⟨by rfl, ?_⟩) ?_ ?_
              rotate_left
              · intro w'
                go_simp
                with_reducible rfl
              rotate_left
              · simp only [Act.put, List.setIfInBounds_toArray, List.set_cons_zero, List.set_cons_succ, i64_w, i32_w]
                rfl
              refine pure_ (i := 12) (N := some 124) (v := ?_) (a' := ?_) #[true, true, true, true, true, true, true, true, true, true, true, true, true, false, false, false, false, false, false, false, false, false, false, false, false, false, false, false, false, false, false, false, false, false, false, false, false, false, false] rfl rfl (by kernel_rfl) (fun _ _ _ h => h) (Or.inl ⟨by rfl, ?_⟩) ?_ ?_
              rotate_left
              · intro w'
                go_simp
                with_reducible rfl
              rotate_left
              · simp only [Act.put, List.setIfInBounds_toArray, List.set_cons_zero, List.set_cons_succ, i64_w, i32_w]
                rfl
              refine pure_ (i := 13) (N := some 125) (v := ?_) (a' := ?_) #[true, true, true, true, true, true, true, true, true, true, true, true, true, true, false, false, false, false, false, false, false, false, false, false, false, false, false, false, false, false, false, false, false, false, false, false, false, false, false] rfl rfl (by kernel_rfl) (fun _ _ _ h => h) (Or.inl ⟨by rfl, ?_⟩) ?_ ?_
              rotate_left
              · intro w'
                go_simp
                with_reducible rfl
              rotate_left
              · simp only [Act.put, List.setIfInBounds_toArray, List.set_cons_zero, List.set_cons_succ, i64_w, i32_w]
                rfl
              refine take_ (i := 14) (N := some 126) (v := ?_) (a' := ?_) #[true, true, true, true, true, true, true, true, true, true, true, true, true, true, true, false, false, false, false, false, false, false, false, false, false, false, false, false, false, false, false, false, false, false, false, false, false, false, false] rfl rfl (by kernel_rfl) (fun _ _ _ h => h) (Or.inl ⟨by rfl, ?_⟩) hHeld ?_ ?_
              rotate_left
              · rintro w' ⟨s0, s1, s2, s3⟩
                go_simp
                with_reducible rfl
              rotate_left
              · simp only [Act.put, List.setIfInBounds_toArray, List.set_cons_zero, List.set_cons_succ, i64_w, i32_w]
                rfl
              refine pure_ (i := 15) (N := some 127) (v := ?_) (a' := ?_) #[true, true, true, true, true, true, true, true, true, true, true, true, true, true, true, true, false, false, false, false, false, false, false, false, false, false, false, false, false, false, false, false, false, false, false, false, false, false, false] rfl rfl (by kernel_rfl) (fun _ _ _ h => h) (Or.inl ⟨by rfl, ?_⟩) ?_ ?_
              rotate_left
              · intro w'
                go_simp
                with_reducible rfl
              rotate_left
              · simp only [Act.put, List.setIfInBounds_toArray, List.set_cons_zero, List.set_cons_succ, i64_w, i32_w]
                rfl
              refine pure_ (i := 16) (N := some 128) (v := ?_) (a' := ?_) #[true, true, true, true, true, true, true, true, true, true, true, true, true, true, true, true, true, false, false, false, false, false, false, false, false, false, false, false, false, false, false, false, false, false, false, false, false, false, false] rfl rfl (by kernel_rfl) (fun _ _ _ h => h) (Or.inl ⟨by rfl, ?_⟩) ?_ ?_
              rotate_left
              · intro w'
                go_simp
                with_reducible rfl
              rotate_left
              · simp only [Act.put, List.setIfInBounds_toArray, List.set_cons_zero, List.set_cons_succ, i64_w, i32_w]
                rfl
              refine pure_ (i := 17) (N := some 129) (v := undef) (a' := ?_) #[true, true, true, true, true, true, true, true, true, true, true, true, true, true, true, true, true, true, false, false, false, false, false, false, false, false, false, false, false, false, false, false, false, false, false, false, false, false, false] rfl rfl (by kernel_rfl) (fun _ _ _ h => h) (Or.inr ⟨by rfl, rfl⟩) ?_ ?_
              rotate_left
              · simp only [Act.put, List.setIfInBounds_toArray, List.set_cons_zero, List.set_cons_succ, i64_w, i32_w]
                rfl
              refine pure_ (i := 18) (N := some 130) (v := undef) (a' := ?_) #[true, true, true, true, true, true, true, true, true, true, true, true, true, true, true, true, true, true, true, false, false, false, false, false, false, false, false, false, false, false, false, false, false, false, false, false, false, false, false] rfl rfl (by kernel_rfl) (fun _ _ _ h => h) (Or.inr ⟨by rfl, rfl⟩) ?_ ?_
              rotate_left
              · simp only [Act.put, List.setIfInBounds_toArray, List.set_cons_zero, List.set_cons_succ, i64_w, i32_w]
                rfl
              refine pure_ (i := 19) (N := some 131) (v := undef) (a' := ?_) #[true, true, true, true, true, true, true, true, true, true, true, true, true, true, true, true, true, true, true, true, false, false, false, false, false, false, false, false, false, false, false, false, false, false, false, false, false, false, false] rfl rfl (by kernel_rfl) (fun _ _ _ h => h) (Or.inr ⟨by rfl, rfl⟩) ?_ ?_
              rotate_left
              · simp only [Act.put, List.setIfInBounds_toArray, List.set_cons_zero, List.set_cons_succ, i64_w, i32_w]
                rfl
              refine pure_ (i := 20) (N := some 132) (v := undef) (a' := ?_) #[true, true, true, true, true, true, true, true, true, true, true, true, true, true, true, true, true, true, true, true, true, false, false, false, false, false, false, false, false, false, false, false, false, false, false, false, false, false, false] rfl rfl (by kernel_rfl) (fun _ _ _ h => h) (Or.inr ⟨by rfl, rfl⟩) ?_ ?_
              rotate_left
              · simp only [Act.put, List.setIfInBounds_toArray, List.set_cons_zero, List.set_cons_succ, i64_w, i32_w]
                rfl
              refine pure_ (i := 21) (N := some 133) (v := undef) (a' := ?_) #[true, true, true, true, true, true, true, true, true, true, true, true, true, true, true, true, true, true, true, true, true, true, false, false, false, false, false, false, false, false, false, false, false, false, false, false, false, false, false] rfl rfl (by kernel_rfl) (fun _ _ _ h => h) (Or.inr ⟨by rfl, rfl⟩) ?_ ?_
              rotate_left
              · simp only [Act.put, List.setIfInBounds_toArray, List.set_cons_zero, List.set_cons_succ, i64_w, i32_w]
                rfl
              refine pure_ (i := 22) (N := some 134) (v := ?_) (a' := ?_) #[true, true, true, true, true, true, true, true, true, true, true, true, true, true, true, true, true, true, true, true, true, true, true, false, false, false, false, false, false, false, false, false, false, false, false, false, false, false, false] rfl rfl (by kernel_rfl) (fun _ _ _ h => h) (Or.inl ⟨by rfl, ?_⟩) ?_ ?_
              rotate_left
              · intro w'
                go_simp
                with_reducible rfl
              rotate_left
              · simp only [Act.put, List.setIfInBounds_toArray, List.set_cons_zero, List.set_cons_succ, i64_w, i32_w]
                rfl
              refine pure_ (i := 23) (N := some 135) (v := ?_) (a' := ?_) #[true, true, true, true, true, true, true, true, true, true, true, true, true, true, true, true, true, true, true, true, true, true, true, true, false, false, false, false, false, false, false, false, false, false, false, false, false, false, false] rfl rfl (by kernel_rfl) (fun _ _ _ h => h) (Or.inl ⟨by rfl, ?_⟩) ?_ ?_
              rotate_left
              · intro w'
                go_simp
                with_reducible rfl
              rotate_left
              · simp only [Act.put, List.setIfInBounds_toArray, List.set_cons_zero, List.set_cons_succ, i64_w, i32_w]
                rfl
              refine pure_ (i := 24) (N := some 136) (v := ?_) (a' := ?_) #[true, true, true, true, true, true, true, true, true, true, true, true, true, true, true, true, true, true, true, true, true, true, true, true, true, false, false, false, false, false, false, false, false, false, false, false, false, false, false] rfl rfl (by kernel_rfl) (fun _ _ _ h => h) (Or.inl ⟨by rfl, ?_⟩) ?_ ?_
              rotate_left
              · intro w'
                go_simp
                with_reducible rfl
              rotate_left
              · simp only [Act.put, List.setIfInBounds_toArray, List.set_cons_zero, List.set_cons_succ, i64_w, i32_w]
                rfl
              refine pure_ (i := 25) (N := some 137) (v := ?_) (a' := ?_) #[true, true, true, true, true, true, true, true, true, true, true, true, true, true, true, true, true, true, true, true, true, true, true, true, true, true, false, false, false, false, false, false, false, false, false, false, false, false, false] rfl rfl (by kernel_rfl) (fun _ _ _ h => h) (Or.inl ⟨by rfl, ?_⟩) ?_ ?_
              rotate_left
              · intro w'
                go_simp
                with_reducible rfl
              rotate_left
              · simp only [Act.put, List.setIfInBounds_toArray, List.set_cons_zero, List.set_cons_succ, i64_w, i32_w]
                rfl
              refine take_ (i := 26) (N := some 138) (v := ?_) (a' := ?_) #[true, true, true, true, true, true, true, true, true, true, true, true, true, true, true, true, true, true, true, true, true, true, true, true, true, true, true, false, false, false, false, false, false, false, false, false, false, false, false] rfl rfl (by kernel_rfl) (fun _ _ _ h => h) (Or.inl ⟨by rfl, ?_⟩) hHeld ?_ ?_
              rotate_left
              · rintro w' ⟨s0, s1, s2, s3⟩
                go_simp
                with_reducible rfl
              rotate_left
              · simp only [Act.put, List.setIfInBounds_toArray, List.set_cons_zero, List.set_cons_succ, i64_w, i32_w]
                rfl
              refine pure_ (i := 27) (N := some 139) (v := ?_) (a' := ?_) #[true, true, true, true, true, true, true, true, true, true, true, true, true, true, true, true, true, true, true, true, true, true, true, true, true, true, true, true, false, false, false, false, false, false, false, false, false, false, false] rfl rfl (by kernel_rfl) (fun _ _ _ h => h) (Or.inl ⟨by rfl, ?_⟩) ?_ ?_
              rotate_left
              · intro w'
                go_simp
                with_reducible rfl
              rotate_left
              · simp only [Act.put, List.setIfInBounds_toArray, List.set_cons_zero, List.set_cons_succ, i64_w, i32_w]
                rfl
              refine pure_ (i := 28) (N := some 140) (v := ?_) (a' := ?_) #[true, true, true, true, true, true, true, true, true, true, true, true, true, true, true, true, true, true, true, true, true, true, true, true, true, true, true, true, true, false, false, false, false, false, false, false, false, false, false] rfl rfl (by kernel_rfl) (fun _ _ _ h => h) (Or.inl ⟨by rfl, ?_⟩) ?_ ?_
              rotate_left
              · intro w'
                go_simp
                with_reducible rfl
              rotate_left
              · simp only [Act.put, List.setIfInBounds_toArray, List.set_cons_zero, List.set_cons_succ, i64_w, i32_w]
                rfl
              refine pure_ (i := 29) (N := some 141) (v := ?_) (a' := ?_) #[true, true, true, true, true, true, true, true, true, true, true, true, true, true, true, true, true, true, true, true, true, true, true, true, true, true, true, true, true, true, false, false, false, false, false, false, false, false, false] rfl rfl (by kernel_rfl) (fun _ _ _ h => h) (Or.inl ⟨by rfl, ?_⟩) ?_ ?_
              rotate_left
              · intro w'
                go_simp
                with_reducible rfl
              rotate_left
              · simp only [Act.put, List.setIfInBounds_toArray, List.set_cons_zero, List.set_cons_succ, i64_w, i32_w]
                rfl
              refine pure_ (i := 30) (N := some 142) (v := ?_) (a' := ?_) #[true, true, true, true, true, true, true, true, true, true, true, true, true, true, true, true, true, true, true, true, true, true, true, true, true, true, true, true, true, true, true, false, false, false, false, false, false, false, false] rfl rfl (by kernel_rfl) (fun _ _ _ h => h) (Or.inl ⟨by rfl, ?_⟩) ?_ ?_
              rotate_left
              · intro w'
                go_simp
                with_reducible rfl
              rotate_left
              · simp only [Act.put, List.setIfInBounds_toArray, List.set_cons_zero, List.set_cons_succ, i64_w, i32_w]
                rfl
              refine pure_ (i := 34) (N := some 146) (v := ?_) (a' := ?_) #[true, true, true, true, true, true, true, true, true, true, true, true, true, true, true, true, true, true, true, true, true, true, true, true, true, true, true, true, true, true, true, false, false, false, true, false, false, false, false] rfl rfl (by kernel_rfl) (fun _ _ _ h => h) (Or.inl ⟨by rfl, ?_⟩) ?_ ?_
              rotate_left
              · intro w'
                go_simp
                with_reducible rfl
              rotate_left
              · simp only [Act.put, List.setIfInBounds_toArray, List.set_cons_zero, List.set_cons_succ, i64_w, i32_w]
                rfl
              refine take_ (i := 31) (N := some 143) (v := ?_) (a' := ?_) #[true, true, true, true, true, true, true, true, true, true, true, true, true, true, true, true, true, true, true, true, true, true, true, true, true, true, true, true, true, true, true, true, false, false, true, false, false, false, false] rfl rfl (by kernel_rfl) (fun _ _ _ h => h) (Or.inl ⟨by rfl, ?_⟩) hHeld ?_ ?_
              rotate_left
              · rintro w' ⟨s0, s1, s2, s3⟩
                go_simp
                with_reducible rfl
              rotate_left
              · simp only [Act.put, List.setIfInBounds_toArray, List.set_cons_zero, List.set_cons_succ, i64_w, i32_w]
                rfl
              refine pure_ (i := 32) (N := some 144) (v := ?_) (a' := ?_) #[true, true, true, true, true, true, true, true, true, true, true, true, true, true, true, true, true, true, true, true, true, true, true, true, true, true, true, true, true, true, true, true, true, false, true, false, false, false, false] rfl rfl (by kernel_rfl) (fun _ _ _ h => h) (Or.inl ⟨by rfl, ?_⟩) ?_ ?_
              rotate_left
              · intro w'
                go_simp
                with_reducible rfl
              rotate_left
              · simp only [Act.put, List.setIfInBounds_toArray, List.set_cons_zero, List.set_cons_succ, i64_w, i32_w]
                rfl
              refine take_ (i := 35) (N := some 147) (v := ?_) (a' := ?_) #[true, true, true, true, true, true, true, true, true, true, true, true, true, true, true, true, true, true, true, true, true, true, true, true, true, true, true, true, true, true, true, true, true, false, true, true, false, false, false] rfl rfl (by kernel_rfl) (fun _ _ _ h => h) (Or.inl ⟨by rfl, ?_⟩) hHeld ?_ ?_
              rotate_left
              · rintro w' ⟨s0, s1, s2, s3⟩
                go_simp
                with_reducible rfl
              rotate_left
              · simp only [Act.put, List.setIfInBounds_toArray, List.set_cons_zero, List.set_cons_succ, i64_w, i32_w]
                rfl
              refine one_ (i := 33) (N := some 145) #[true, true, true, true, true, true, true, true, true, true, true, true, true, true, true, true, true, true, true, true, true, true, true, true, true, true, true, true, true, true, true, true, true, true, true, true, false, false, false] rfl rfl (by kernel_rfl) (by decide) (fun K hK => ?_)
              refine goes_ Try.func28 (by kernel_rfl) rfl #[.pointer (some ⟨gr, 0, none⟩), .int .i64 (x.f3.size : Int)] (by rfl) rfl rfl (by simp only [List.map_toArray, List.map_cons, List.map_nil]; rfl) ?_
              with_reducible refine (oct_Reader_Raw.calls gr q1 0 (x.f3.size : Int) x.f3 q2 0 w _ HI3.out.drew (below_drew HB3.out) HN.out).mono ?_
              rintro e w5 ⟨rfl, hI5, hb5, hk5⟩
              refine ⟨_, rfl, ?_⟩
              have HI5 := Aside0.mk hI5
              have HB5 := Aside0.mk hb5
              have HBX5 := Aside0.mk (mosaiclaw02_OctBack.keptblk HBX.out hk5 (mosaiclaw02_OctBack.ne_rd HI3.out HBX.out))
              have HOW5 := Aside0.mk (mosaiclaw02_OctBack.keptrow HOW3.out hk5 HI3.out)
              clear hI5 hb5 hk5
              refine hK.out _ _ ⟨(blk_cell HBX5.out 0).trans rfl, (blk_cell HBX5.out 1).trans rfl, (blk_cell HBX5.out 2).trans rfl, (blk_cell HBX5.out 3).trans rfl⟩ (fun hHeld => ?_)
              clear hK K
              refine norm_ (a' := ?_) ?_ ?_
              rotate_left
              · show Act.put _ (some 145) _ = _
                simp only [Act.put, List.setIfInBounds_toArray, List.set_cons_zero, List.set_cons_succ, i64_w, i32_w]
                rfl
              refine pure_ (i := 36) (N := some 148) (v := ?_) (a' := ?_) #[true, true, true, true, true, true, true, true, true, true, true, true, true, true, true, true, true, true, true, true, true, true, true, true, true, true, true, true, true, true, true, true, true, true, true, true, true, false, false] rfl rfl (by kernel_rfl) (fun _ _ _ h => h) (Or.inl ⟨by rfl, ?_⟩) ?_ ?_
              rotate_left
              · intro w'
                go_simp
                with_reducible rfl
              rotate_left
              · simp only [Act.put, List.setIfInBounds_toArray, List.set_cons_zero, List.set_cons_succ, i64_w, i32_w]
                rfl
              refine pure_ (i := 37) (N := some 149) (v := ?_) (a' := ?_) #[true, true, true, true, true, true, true, true, true, true, true, true, true, true, true, true, true, true, true, true, true, true, true, true, true, true, true, true, true, true, true, true, true, true, true, true, true, true, false] rfl rfl (by kernel_rfl) (fun _ _ _ h => h) (Or.inl ⟨by rfl, ?_⟩) ?_ ?_
              rotate_left
              · intro w'
                go_simp
                with_reducible rfl
              rotate_left
              · simp only [Act.put, List.setIfInBounds_toArray, List.set_cons_zero, List.set_cons_succ, i64_w, i32_w]
                rfl
              refine pure_ (i := 38) (N := some 150) (v := ?_) (a' := ?_) #[true, true, true, true, true, true, true, true, true, true, true, true, true, true, true, true, true, true, true, true, true, true, true, true, true, true, true, true, true, true, true, true, true, true, true, true, true, true, true] rfl rfl (by kernel_rfl) (fun _ _ _ h => h) (Or.inl ⟨by rfl, ?_⟩) ?_ ?_
              rotate_left
              · intro w'
                go_simp
                with_reducible rfl
              rotate_left
              · simp only [Act.put, List.setIfInBounds_toArray, List.set_cons_zero, List.set_cons_succ, i64_w, i32_w]
                rfl
              refine done_ (by kernel_rfl) ?_
              
              go_wp2_with fail
              go_roundg (l.length - (j + 1))
              case measure => have := HJ.out; omega
              case rel => exact ⟨j + 1, q2, by go_num, ⟨by omega, by omega⟩, HNX, HI5, HOW5, HB5⟩
            · rw [if_neg h2] at h8
              cases h8
          · have hltz : ¬ (j : Int) < (l.length : Int) := by omega
            have h9 := HG.out
            rw [List.drop_of_length_le (by omega), mosaiclaw02_OctBack.rgo] at h9
            have h9 := Option.some.inj h9
            obtain ⟨hq1, hrest, hend⟩ := HEND.out
            rw [hq1] at h9
            subst h9
            have HRE := Aside0.mk hrest
            have HEE := Aside0.mk hend
            clear hq1 hrest hend HEND HG
            go_wp2_with fail
            refine (oct_Reader_Err.calls gr q1 0 0 q1 0 w _ HI2.out HB2.out rfl).mono ?_
            rintro e w5 ⟨rfl, hI5, hb5, hk5⟩
            have HI5 := Aside0.mk hI5
            have HB5 := Aside0.mk hb5
            clear hI5 hb5 hk5
            go_wp2_with fail
            refine (oct_Reader_Left.calls gr q1 0 (q1.size : Int) q1 0 w _ HI5.out HB5.out rfl).mono ?_
            rintro e w6 ⟨rfl, hI6, hb6, hk6⟩
            have HI6 := Aside0.mk hI6
            have HB6 := Aside0.mk hb6
            clear hI6 hb6 hk6
            go_wp2_with fail
            refine (oct_Reader_Rest.calls gr q1 0 q1 ⟨#[]⟩ 0 w _ HI6.out HB6.out HRE.out).mono ?_
            rintro e w7 ⟨rfl, hI7, hb7, hk7⟩
            have HI7 := Aside0.mk hI7
            have HB7 := Aside0.mk hb7
            clear hI7 hb7 hk7
            go_wp2_with fail
            refine (oct_Reader_End.calls gr ⟨#[]⟩ 0 0 ⟨#[]⟩ 0 w _ HI7.out HB7.out HEE.out).mono ?_
            rintro e w8 ⟨rfl, hI8, hb8, hk8⟩
            have HB8 := Aside0.mk hb8
            clear hI8 hb8 hk8
            go_wp2_with fail
            go_ret
            exact ⟨by first | rfl | (simp; done), HB8.out⟩


/-- THE ONE PURE STATEMENT of mosaiclaw02_OctBack: yours. -/
def mosaiclaw02_OctBack.Pure : Prop := ∀ (l0 : List (S37)) (a1 : ByteArray), (l0.length ≤ maxLen) → (∀ y ∈ l0, ((Lit.int .i64 y.f0).wf = true) ∧ (((Lit.int .i64 y.f1).wf = true) ∧ (((Lit.int .i64 y.f2).wf = true) ∧ (y.f3.size ≤ maxLen)))) → (a1.size ≤ 140737488351232) → ∃ k, mosaiclaw02_OctBack.f k l0 a1 = some true
theorem mosaiclaw02_OctBack.walk (P : mosaiclaw02_OctBack.Pure) (A0 : Option Addr) (c0 : Nat) (l0 : List (S37)) (a1 : ByteArray) (w : World) (hr0 : Kd.C k37 w A0 l0.length l0) (hc0 : l0.length ≤ c0) (hm0 : l0.length ≤ maxLen) (hw0 : ∀ y ∈ l0, ((Lit.int .i64 y.f0).wf = true) ∧ (((Lit.int .i64 y.f1).wf = true) ∧ (((Lit.int .i64 y.f2).wf = true) ∧ (y.f3.size ≤ maxLen)))) (hs1 : a1.size ≤ 140737488351232) :
    Calls Try.prog 9 #[.slice A0 l0.length c0, .string a1] w fun e w' => e = .returned (.bool true) ∧ Below w.heap.size w w' := by
  obtain ⟨k, h⟩ := P l0 a1 hm0 hw0 hs1
  refine (mosaiclaw02_OctBack.calls k A0 c0 l0 a1 true w hr0 hc0 h).mono ?_
  rintro e w' ⟨rfl, hd⟩
  exact ⟨rfl, hd⟩
end Go.Proofs.Ytmebebpnogemdaa.POctBack
