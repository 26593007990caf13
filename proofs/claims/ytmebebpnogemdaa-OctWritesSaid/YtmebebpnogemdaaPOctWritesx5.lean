-- Written by this session's own program (wip/tools/mkprint.py) over the kit's printer, with overrides.
import Derived.Test.YtmebebpnogemdaaPOctWritesx0
import Derived.Test.YtmebebpnogemdaaPOctWritesx1
import Derived.Test.YtmebebpnogemdaaPOctWritesx2
import Derived.Test.YtmebebpnogemdaaPOctWritesx3
import Derived.Test.YtmebebpnogemdaaPOctWritesx4
namespace Go.Proofs.Ytmebebpnogemdaa.POctWrites
open Go.RowKit Go.Mine Go.Proofs.YtmebebpnogemdaaW.PrintWords Go.Proofs.YtmebebpnogemdaaW.PrintLast Go.Proofs.YtmebebpnogemdaaW.PrintMore
attribute [local go_sem] max2_int min2_int max_two min_two max_three min_three max_four min_four   -- for this text's walks alone
set_option linter.unusedVariables false
set_option linter.unusedSimpArgs false

/-! ### mosaiclaw02_OctWrites: function 5 -/
/-- One field more: the program's writer and the document's, if both do the same. -/
def mosaiclaw02_OctWrites.step (k : Nat) (x : S37) (s : ByteArray) (er : Int) : Option (ByteArray × Int) :=
  if (x.f3.size : Int) > 70000 then some (s, er)
  else if x.f0 = 0 then (oct_Put.f k x.f1 x.f2).bind fun r => if r.1.size ≤ 100 ∧ (putS s er r.1 r.2).1.size ≤ 65536 ∧ mosaicref02_Writer_Num.f k s er x.f1 x.f2 = some (putS s er r.1 r.2) then some (putS s er r.1 r.2) else none
  else if x.f0 = 1 then (if (x.f3.size : Int) > 65535 then (if (putS s er ⟨#[]⟩ 2).1.size ≤ 65536 ∧ mosaicref02_Writer_Text.f k s er x.f3 = some (putS s er ⟨#[]⟩ 2) then some (putS s er ⟨#[]⟩ 2) else none)
    else (oct_Put.f k (x.f3.size : Int) 2).bind fun r => if r.1.size ≤ 10 ∧ (putS s er (r.1 ++ x.f3) 0).1.size ≤ 65536 ∧ mosaicref02_Writer_Text.f k s er x.f3 = some (putS s er (r.1 ++ x.f3) 0) then some (putS s er (r.1 ++ x.f3) 0) else none)
  else if x.f0 = 2 then (if (putS s er x.f3 0).1.size ≤ 65536 ∧ mosaicref02_Writer_Raw.f s er x.f3 = some (putS s er x.f3 0) then some (putS s er x.f3 0) else none)
  else some (s, er)
/-- The fields from the i-th on, the first d of them. -/
def mosaiclaw02_OctWrites.go (k : Nat) (l : List S37) : Nat → Nat → ByteArray → Int → Option (ByteArray × Int)
  | 0, i, s, er => if i < l.length ∧ i < 40 then none else some (s, er)
  | d + 1, i, s, er => if i < l.length ∧ i < 40 then (mosaiclaw02_OctWrites.step k (rd_T37 l (i : Int)) s er).bind fun r => mosaiclaw02_OctWrites.go k l d (i + 1) r.1 r.2 else some (s, er)
def mosaiclaw02_OctWrites.f (k : Nat) (l0 : List S37) : Option Bool := (mosaiclaw02_OctWrites.go k l0 40 0 ⟨#[]⟩ 0).bind fun _ => some true
/-- A block of another type is as it was behind a writer's step. -/
theorem mosaiclaw02_OctWrites.far {B g gb : Nat} {v : Value} {s : ByteArray} {er : Int} {W w1 : World} {cs : Array Value} {t : TypeId} (hi : IsWr 64 5 B g v s er W) (hb : W.heap[gb]? = some (.cells cs t (0, 0))) (hne : gb ≠ g) (ht : t ≠ 5)
    (hk : Kept W w1 (fun k => k = g ∨ v.ownBlock = some k)) : w1.heap[gb]? = some (.cells cs t (0, 0)) := by
  obtain ⟨p, hp, h⟩ := hi
  have hlt : gb < W.heap.size := (Array.getElem?_eq_some_iff.1 hb).1
  rw [hk.2 gb hlt (by
    rintro (h1 | h1)
    · exact hne h1
    · exact Go.Lib.ownBlock_neF h.2.2.1 hb ht h1)]
  exact hb
/-- A writer beside a store into a block of another type. -/
theorem mosaiclaw02_OctWrites.beside {B g gb j : Nat} {v u : Value} {s : ByteArray} {er : Int} {W : World} {cs : Array Value} {t : TypeId} (hi : IsWr 64 5 B g v s er W) (hb : W.heap[gb]? = some (.cells cs t (0, 0))) (hne : gb ≠ g) (ht : t ≠ 5) :
    IsWr 64 5 B g v s er (W.setCell ⟨gb, j, none⟩ u) := by
  obtain ⟨p, hp, h⟩ := hi
  refine ⟨p, hp, h.same fun k hk => Below.heap_setCell _ _ _ _ ?_⟩
  rintro rfl
  rcases hk with h1 | h1
  · exact hne h1
  · exact Go.Lib.ownBlock_neF h.2.2.1 hb ht h1
theorem mosaiclaw02_OctWrites.mono (a : List S37) : True := trivial
set_option maxHeartbeats 2000000 in
set_option maxRecDepth 100000 in
theorem mosaiclaw02_OctWrites.calls (k : Nat) (A0 : Option Addr) (c0 : Nat) (l0 : List S37) (r : Bool) (w : World) (hr0 : Kd.C k37 w A0 l0.length l0) (hc0 : l0.length ≤ c0) (h : mosaiclaw02_OctWrites.f k l0 = some r) :
    Calls Try.prog 5 #[.slice A0 l0.length c0] w fun e w' => e = .returned (.bool r) ∧ Below w.heap.size w w' := by
  unfold mosaiclaw02_OctWrites.f at h
  obtain ⟨⟨sf, ef⟩, hgo, h⟩ := Option.bind_eq_some_iff.mp h
  have h := Option.some.inj h
  subst h
  have HGO := Aside0.mk hgo
  have HR0 := Aside0.mk hr0
  have hlen := hr0.2.1
  clear hgo hr0
  go_enter Try.func5, Try.ntmps5
  go_wp2_with fail
  refine (oct_To.wr w).mono ?_
  rintro e w8 ⟨rfl, hi8, hb8, hz8⟩
  have HI8 := Aside0.mk hi8
  have HB8 := Aside0.mk hb8
  have HZ8 := Aside0.mk hz8
  clear hi8 hb8 hz8
  go_wp2_with fail
  refine (mosaiclaw02_awake.calls true _ rfl).mono ?_
  rintro e w10 ⟨rfl, hb10⟩
  have hbk : (w8.alloc (.cells #[.string (⟨#[]⟩ : ByteArray), .int .i64 0] 35)).heap[w8.heap.size]? = some (.cells #[.string (⟨#[]⟩ : ByteArray), .int .i64 0] 35 (0, 0)) := heap_alloc_new _ _
  have HBK : Aside0 (w10.heap[w8.heap.size]? = some (.cells #[.string (⟨#[]⟩ : ByteArray), .int .i64 0] 35 (0, 0))) := ⟨by rw [hb10.block _ (by simp)]; exact hbk⟩
  have HI10 : Aside0 (IsWr 64 5 w.heap.size w.heap.size (.slice none 0 0) ⟨#[]⟩ 0 w10) := ⟨(HI8.out.below (below_alloc (Below.refl _ _) _)).below hb10⟩
  have HB10 : Aside0 (Below w.heap.size w w10) := ⟨below_step (below_alloc HB8.out _) hb10⟩
  have HG : Aside0 (w.heap.size < w8.heap.size) := ⟨by have := HZ8.out; omega⟩
  clear hb10 HI8 HB8 HZ8 hbk
  generalize w8.heap.size = gr at *
  go_wp2_with fail
  go_loopg [5] 40 (fun kq v5 wr => ∃ (d i : Nat) (s : ByteArray) (er : Int) (v : Value), v5 = .int .i64 i ∧ Aside0 (d ≤ kq) ∧ Aside0 (i ≤ 40) ∧ Aside0 (mosaiclaw02_OctWrites.go k l0 d i s er = some (sf, ef)) ∧ Aside0 (IsWr 64 5 w.heap.size w.heap.size v s er wr) ∧ Aside0 (wr.heap[gr]? = some (.cells #[.string s, .int .i64 er] 35 (0, 0))) ∧ Aside0 (s.size ≤ 65536) ∧ Aside0 (Below w.heap.size w wr))
  case atStart => exact ⟨40, 0, ⟨#[]⟩, 0, _, rfl, ⟨Nat.le_refl _⟩, ⟨by omega⟩, HGO, HI10, HBK, ⟨by decide⟩, HB10⟩
  case round =>
    obtain ⟨d, i, s, er, v, rfl, HD, HI40, HGO2, HI, HBK2, HS, HB⟩ := hrel
    clear HGO HI10 HBK HB10
    by_cases hlt : i < l0.length ∧ i < 40
    · obtain ⟨d, rfl⟩ : ∃ d', d = d' + 1 := by
        cases d with
        | zero => have h9 := HGO2.out; rw [mosaiclaw02_OctWrites.go, if_pos hlt] at h9; cases h9
        | succ d => exact ⟨d, rfl⟩
      have h9 := HGO2.out
      rw [mosaiclaw02_OctWrites.go, if_pos hlt] at h9
      obtain ⟨⟨s2, er2⟩, hst, h9⟩ := Option.bind_eq_some_iff.mp h9
      have HNEXT := Aside0.mk h9
      have HST := Aside0.mk hst
      clear h9 hst HGO2
      obtain ⟨hl, h40⟩ := hlt
      have hlz : (i : Int) < (l0.length : Int) := by omega
      have h40z : (i : Int) < 40 := by omega
      obtain ⟨ad, e1, q0, q1, q2, q3⟩ := at_T37 (Kd.C_below HR0.out HB.out) (i : Int) (by omega) (by omega)
      subst e1
      rw [Int.toNat_natCast] at q0 q1 q2 q3
      generalize rd_T37 l0 (i : Int) = x at *
      have hbx : (wr.alloc (.cells #[.int .i64 x.f0, .int .i64 x.f1, .int .i64 x.f2, .string x.f3] 37)).heap[wr.heap.size]? = some (.cells #[.int .i64 x.f0, .int .i64 x.f1, .int .i64 x.f2, .string x.f3] 37 (0, 0)) := heap_alloc_new _ _
      have HBX := Aside0.mk hbx
      have HI3 := Aside0.mk (HI.out.below (below_alloc (Below.refl wr.heap.size wr) (.cells #[.int .i64 x.f0, .int .i64 x.f1, .int .i64 x.f2, .string x.f3] 37)))
      have HBK3 := Aside0.mk (blk_alloc HBK2.out (.cells #[.int .i64 x.f0, .int .i64 x.f1, .int .i64 x.f2, .string x.f3] 37))
      have HB3 := Aside0.mk (below_alloc HB.out (.cells #[.int .i64 x.f0, .int .i64 x.f1, .int .i64 x.f2, .string x.f3] 37))
      have HGX : Aside0 (w.heap.size < wr.heap.size) := ⟨(HI.out.choose_spec.2).lt⟩
      clear hbx HI HBK2
      have hst := HST.out
      unfold mosaiclaw02_OctWrites.step at hst
      by_cases hx : (x.f3.size : Int) > 70000
      · have hxz : (70000 : Int) < (x.f3.size : Int) := hx
        rw [if_pos hx] at hst
        obtain ⟨rfl, rfl⟩ := Prod.mk.inj (Option.some.inj hst)
        clear hst HST
        go_wp2_with fail
        go_roundg d
        case measure => have := HD.out; omega
        case rel => exact ⟨d, i + 1, _, _, _, by go_num, ⟨Nat.le_refl _⟩, ⟨by omega⟩, HNEXT, HI3, HBK3, HS, HB3⟩
      · have hxz : ¬ (70000 : Int) < (x.f3.size : Int) := hx
        have HXL : Aside0 (x.f3.size ≤ 70000) := ⟨by omega⟩
        rw [if_neg hx] at hst
        clear hx
        by_cases h0 : x.f0 = 0
        · rw [if_pos h0] at hst
          obtain ⟨⟨t, f⟩, hput, hst⟩ := Option.bind_eq_some_iff.mp hst
          have HP := Aside0.mk hput
          split at hst
          rotate_left
          · cases hst
          rename_i hc
          have h9 := Option.some.inj hst
          have HC := Aside0.mk hc
          have H9 := Aside0.mk h9
          clear hst HST hput hc h9
          have y0 : (x.f0 == 0) = true := by rw [h0]; rfl
          clear h0
          go_wp2_with fail
          refine (oct_Writer_Num.wr k _ _ v s t er x.f1 x.f2 f _ HI3.out HP.out HS.out (by have := HC.out.1; omega) (by have := HGX.out; simp; omega)).mono ?_
          rintro e w11 ⟨rfl, v', hi11, hb11, hk11⟩
          have HBK4 := Aside0.mk (mosaiclaw02_OctWrites.far HI3.out HBK3.out (Nat.ne_of_gt HG.out) (by decide) hk11)
          have HBX4 := Aside0.mk (mosaiclaw02_OctWrites.far HI3.out HBX.out (Nat.ne_of_gt HGX.out) (by decide) hk11)
          have HREF : Aside0 (mosaicref02_Writer_Num.f k s er x.f1 x.f2 = some (s2, er2)) := ⟨by rw [HC.out.2.2, H9.out]⟩
          rw [H9.out] at hi11
          have HI4 : Aside0 (IsWr 64 5 w.heap.size w.heap.size v' s2 er2 w11) := ⟨hi11⟩
          have HB4 := Aside0.mk (HB3.out.trans hb11)
          have HS2 : Aside0 (s2.size ≤ 65536) := ⟨by have h8 := HC.out.2.1; rw [H9.out] at h8; exact h8⟩
          clear hi11 hb11 hk11 HI3 HBK3 HBX HB3
          have d0 : w11.cell? ⟨gr, 0, none⟩ = some (.string s) := (blk_cell HBK4.out 0).trans rfl
          have d1 : w11.cell? ⟨gr, 1, none⟩ = some (.int .i64 er) := (blk_cell HBK4.out 1).trans rfl
          have x1 : w11.cell? ⟨wr.heap.size, 1, none⟩ = some (.int .i64 x.f1) := (blk_cell HBX4.out 1).trans rfl
          have x2 : w11.cell? ⟨wr.heap.size, 2, none⟩ = some (.int .i64 x.f2) := (blk_cell HBX4.out 2).trans rfl
          go_wp2_with fail
          refine (mosaicref02_Writer_Num.calls k s er x.f1 x.f2 s2 er2 _ HREF.out).mono ?_
          rintro e w12 ⟨rfl, hb12⟩
          have HBK5 := Aside0.mk (blk_below HBK4.out hb12)
          have HI5 := Aside0.mk (HI4.out.below hb12)
          have HB5 := Aside0.mk (below_step HB4.out hb12)
          clear hb12 HBK4 HI4 HB4 d0 d1 x1 x2
          have d0 : w12.cell? ⟨gr, 0, none⟩ = some (.string s) := (blk_cell HBK5.out 0).trans rfl
          have d1 : w12.cell? ⟨gr, 1, none⟩ = some (.int .i64 er) := (blk_cell HBK5.out 1).trans rfl
          have z0 := blk_frozen HBK5.out 0
          have z1 := blk_frozen HBK5.out 1
          go_wp2_with fail
          go_roundg d
          case measure => have := HD.out; omega
          case rel =>
            have hne : gr ≠ w.heap.size := Nat.ne_of_gt HG.out
            have b1 := blk_put (cs := #[.string s, .int .i64 er]) HBK5.out 0 (.string s2) rfl
            have b2 := blk_put (cs := #[.string s2, .int .i64 er]) b1 1 (.int .i64 er2) rfl
            exact ⟨d, i + 1, _, _, _, by go_num, ⟨Nat.le_refl _⟩, ⟨by omega⟩, HNEXT, ⟨mosaiclaw02_OctWrites.beside (mosaiclaw02_OctWrites.beside HI5.out HBK5.out hne (by decide)) b1 hne (by decide)⟩, ⟨b2⟩, HS2, ⟨below_set (below_set HB5.out (Nat.le_of_lt HG.out)) (Nat.le_of_lt HG.out)⟩⟩
        · rw [if_neg h0] at hst
          have y0 : (x.f0 == 0) = false := beq_eq_false_iff_ne.mpr h0
          clear h0
          by_cases h1 : x.f0 = 1
          · rw [if_pos h1] at hst
            have y1 : (x.f0 == 1) = true := by rw [h1]; rfl
            clear h1 y0
            have y0 : (x.f0 == 0) = false := by rw [eq_of_beq y1]; rfl
            by_cases hx2 : (x.f3.size : Int) > 65535
            · rw [if_pos hx2] at hst
              split at hst
              rotate_left
              · cases hst
              rename_i hc
              have h9 := Option.some.inj hst
              have HC := Aside0.mk hc
              have H9 := Aside0.mk h9
              clear hst HST hc h9
              have HX2 : Aside0 (65535 < x.f3.size) := ⟨by omega⟩
              clear hx2
              go_wp2_with fail
              refine (oct_Writer_Text.long _ _ v s x.f3 er _ HI3.out HS.out HX2.out (by have := HGX.out; simp; omega)).mono ?_
              rintro e w11 ⟨rfl, v', hi11, hb11, hk11⟩
              have HBK4 := Aside0.mk (mosaiclaw02_OctWrites.far HI3.out HBK3.out (Nat.ne_of_gt HG.out) (by decide) hk11)
              have HBX4 := Aside0.mk (mosaiclaw02_OctWrites.far HI3.out HBX.out (Nat.ne_of_gt HGX.out) (by decide) hk11)
              have HREF : Aside0 (mosaicref02_Writer_Text.f k s er x.f3 = some (s2, er2)) := ⟨by rw [HC.out.2, H9.out]⟩
              rw [H9.out] at hi11
              have HI4 : Aside0 (IsWr 64 5 w.heap.size w.heap.size v' s2 er2 w11) := ⟨hi11⟩
              have HB4 := Aside0.mk (HB3.out.trans hb11)
              have HS2 : Aside0 (s2.size ≤ 65536) := ⟨by have h8 := HC.out.1; rw [H9.out] at h8; exact h8⟩
              clear hi11 hb11 hk11 HI3 HBK3 HBX HB3
              have d0 : w11.cell? ⟨gr, 0, none⟩ = some (.string s) := (blk_cell HBK4.out 0).trans rfl
              have d1 : w11.cell? ⟨gr, 1, none⟩ = some (.int .i64 er) := (blk_cell HBK4.out 1).trans rfl
              have x3 : w11.cell? ⟨wr.heap.size, 3, none⟩ = some (.string x.f3) := (blk_cell HBX4.out 3).trans rfl
              go_wp2_with fail
              refine (mosaicref02_Writer_Text.calls k s er x.f3 s2 er2 _ HREF.out).mono ?_
              rintro e w12 ⟨rfl, hb12⟩
              have HBK5 := Aside0.mk (blk_below HBK4.out hb12)
              have HI5 := Aside0.mk (HI4.out.below hb12)
              have HB5 := Aside0.mk (below_step HB4.out hb12)
              clear hb12 HBK4 HI4 HB4 d0 d1 x3
              have d0 : w12.cell? ⟨gr, 0, none⟩ = some (.string s) := (blk_cell HBK5.out 0).trans rfl
              have d1 : w12.cell? ⟨gr, 1, none⟩ = some (.int .i64 er) := (blk_cell HBK5.out 1).trans rfl
              have z0 := blk_frozen HBK5.out 0
              have z1 := blk_frozen HBK5.out 1
              go_wp2_with fail
              go_roundg d
              case measure => have := HD.out; omega
              case rel =>
                have hne : gr ≠ w.heap.size := Nat.ne_of_gt HG.out
                have b1 := blk_put (cs := #[.string s, .int .i64 er]) HBK5.out 0 (.string s2) rfl
                have b2 := blk_put (cs := #[.string s2, .int .i64 er]) b1 1 (.int .i64 er2) rfl
                exact ⟨d, i + 1, _, _, _, by go_num, ⟨Nat.le_refl _⟩, ⟨by omega⟩, HNEXT, ⟨mosaiclaw02_OctWrites.beside (mosaiclaw02_OctWrites.beside HI5.out HBK5.out hne (by decide)) b1 hne (by decide)⟩, ⟨b2⟩, HS2, ⟨below_set (below_set HB5.out (Nat.le_of_lt HG.out)) (Nat.le_of_lt HG.out)⟩⟩
            · rw [if_neg hx2] at hst
              obtain ⟨⟨t, f⟩, hput, hst⟩ := Option.bind_eq_some_iff.mp hst
              have HP := Aside0.mk hput
              split at hst
              rotate_left
              · cases hst
              rename_i hc
              have h9 := Option.some.inj hst
              have HC := Aside0.mk hc
              have H9 := Aside0.mk h9
              clear hst HST hput hc h9
              have HX2 : Aside0 (x.f3.size ≤ 65535) := ⟨by omega⟩
              clear hx2
              go_wp2_with fail
              refine (oct_Writer_Text.wr k _ _ v s x.f3 t er f _ HI3.out HP.out HS.out HX2.out HC.out.1 (by have := HGX.out; simp; omega)).mono ?_
              rintro e w11 ⟨rfl, v', hi11, hb11, hk11⟩
              have HBK4 := Aside0.mk (mosaiclaw02_OctWrites.far HI3.out HBK3.out (Nat.ne_of_gt HG.out) (by decide) hk11)
              have HBX4 := Aside0.mk (mosaiclaw02_OctWrites.far HI3.out HBX.out (Nat.ne_of_gt HGX.out) (by decide) hk11)
              have HREF : Aside0 (mosaicref02_Writer_Text.f k s er x.f3 = some (s2, er2)) := ⟨by rw [HC.out.2.2, H9.out]⟩
              rw [H9.out] at hi11
              have HI4 : Aside0 (IsWr 64 5 w.heap.size w.heap.size v' s2 er2 w11) := ⟨hi11⟩
              have HB4 := Aside0.mk (HB3.out.trans hb11)
              have HS2 : Aside0 (s2.size ≤ 65536) := ⟨by have h8 := HC.out.2.1; rw [H9.out] at h8; exact h8⟩
              clear hi11 hb11 hk11 HI3 HBK3 HBX HB3
              have d0 : w11.cell? ⟨gr, 0, none⟩ = some (.string s) := (blk_cell HBK4.out 0).trans rfl
              have d1 : w11.cell? ⟨gr, 1, none⟩ = some (.int .i64 er) := (blk_cell HBK4.out 1).trans rfl
              have x3 : w11.cell? ⟨wr.heap.size, 3, none⟩ = some (.string x.f3) := (blk_cell HBX4.out 3).trans rfl
              go_wp2_with fail
              refine (mosaicref02_Writer_Text.calls k s er x.f3 s2 er2 _ HREF.out).mono ?_
              rintro e w12 ⟨rfl, hb12⟩
              have HBK5 := Aside0.mk (blk_below HBK4.out hb12)
              have HI5 := Aside0.mk (HI4.out.below hb12)
              have HB5 := Aside0.mk (below_step HB4.out hb12)
              clear hb12 HBK4 HI4 HB4 d0 d1 x3
              have d0 : w12.cell? ⟨gr, 0, none⟩ = some (.string s) := (blk_cell HBK5.out 0).trans rfl
              have d1 : w12.cell? ⟨gr, 1, none⟩ = some (.int .i64 er) := (blk_cell HBK5.out 1).trans rfl
              have z0 := blk_frozen HBK5.out 0
              have z1 := blk_frozen HBK5.out 1
              go_wp2_with fail
              go_roundg d
              case measure => have := HD.out; omega
              case rel =>
                have hne : gr ≠ w.heap.size := Nat.ne_of_gt HG.out
                have b1 := blk_put (cs := #[.string s, .int .i64 er]) HBK5.out 0 (.string s2) rfl
                have b2 := blk_put (cs := #[.string s2, .int .i64 er]) b1 1 (.int .i64 er2) rfl
                exact ⟨d, i + 1, _, _, _, by go_num, ⟨Nat.le_refl _⟩, ⟨by omega⟩, HNEXT, ⟨mosaiclaw02_OctWrites.beside (mosaiclaw02_OctWrites.beside HI5.out HBK5.out hne (by decide)) b1 hne (by decide)⟩, ⟨b2⟩, HS2, ⟨below_set (below_set HB5.out (Nat.le_of_lt HG.out)) (Nat.le_of_lt HG.out)⟩⟩
          · rw [if_neg h1] at hst
            have y1 : (x.f0 == 1) = false := beq_eq_false_iff_ne.mpr h1
            clear h1
            by_cases h2 : x.f0 = 2
            · rw [if_pos h2] at hst
              split at hst
              rotate_left
              · cases hst
              rename_i hc
              have h9 := Option.some.inj hst
              have HC := Aside0.mk hc
              have H9 := Aside0.mk h9
              clear hst HST hc h9
              have y2 : (x.f0 == 2) = true := by rw [h2]; rfl
              clear h2
              go_wp2_with fail
              refine (oct_Writer_Raw.wr _ _ v s x.f3 er _ HI3.out HS.out (by have := HXL.out; omega) (by have := HGX.out; simp; omega)).mono ?_
              rintro e w11 ⟨rfl, v', hi11, hb11, hk11⟩
              have HBK4 := Aside0.mk (mosaiclaw02_OctWrites.far HI3.out HBK3.out (Nat.ne_of_gt HG.out) (by decide) hk11)
              have HBX4 := Aside0.mk (mosaiclaw02_OctWrites.far HI3.out HBX.out (Nat.ne_of_gt HGX.out) (by decide) hk11)
              have HREF : Aside0 (mosaicref02_Writer_Raw.f s er x.f3 = some (s2, er2)) := ⟨by rw [HC.out.2, H9.out]⟩
              rw [H9.out] at hi11
              have HI4 : Aside0 (IsWr 64 5 w.heap.size w.heap.size v' s2 er2 w11) := ⟨hi11⟩
              have HB4 := Aside0.mk (HB3.out.trans hb11)
              have HS2 : Aside0 (s2.size ≤ 65536) := ⟨by have h8 := HC.out.1; rw [H9.out] at h8; exact h8⟩
              clear hi11 hb11 hk11 HI3 HBK3 HBX HB3
              have d0 : w11.cell? ⟨gr, 0, none⟩ = some (.string s) := (blk_cell HBK4.out 0).trans rfl
              have d1 : w11.cell? ⟨gr, 1, none⟩ = some (.int .i64 er) := (blk_cell HBK4.out 1).trans rfl
              have x3 : w11.cell? ⟨wr.heap.size, 3, none⟩ = some (.string x.f3) := (blk_cell HBX4.out 3).trans rfl
              go_wp2_with fail
              refine (mosaicref02_Writer_Raw.calls s er x.f3 s2 er2 _ HREF.out).mono ?_
              rintro e w12 ⟨rfl, hb12⟩
              have HBK5 := Aside0.mk (blk_below HBK4.out hb12)
              have HI5 := Aside0.mk (HI4.out.below hb12)
              have HB5 := Aside0.mk (below_step HB4.out hb12)
              clear hb12 HBK4 HI4 HB4 d0 d1 x3
              have d0 : w12.cell? ⟨gr, 0, none⟩ = some (.string s) := (blk_cell HBK5.out 0).trans rfl
              have d1 : w12.cell? ⟨gr, 1, none⟩ = some (.int .i64 er) := (blk_cell HBK5.out 1).trans rfl
              have z0 := blk_frozen HBK5.out 0
              have z1 := blk_frozen HBK5.out 1
              go_wp2_with fail
              go_roundg d
              case measure => have := HD.out; omega
              case rel =>
                have hne : gr ≠ w.heap.size := Nat.ne_of_gt HG.out
                have b1 := blk_put (cs := #[.string s, .int .i64 er]) HBK5.out 0 (.string s2) rfl
                have b2 := blk_put (cs := #[.string s2, .int .i64 er]) b1 1 (.int .i64 er2) rfl
                exact ⟨d, i + 1, _, _, _, by go_num, ⟨Nat.le_refl _⟩, ⟨by omega⟩, HNEXT, ⟨mosaiclaw02_OctWrites.beside (mosaiclaw02_OctWrites.beside HI5.out HBK5.out hne (by decide)) b1 hne (by decide)⟩, ⟨b2⟩, HS2, ⟨below_set (below_set HB5.out (Nat.le_of_lt HG.out)) (Nat.le_of_lt HG.out)⟩⟩
            · rw [if_neg h2] at hst
              obtain ⟨rfl, rfl⟩ := Prod.mk.inj (Option.some.inj hst)
              clear hst HST
              have y2 : (x.f0 == 2) = false := beq_eq_false_iff_ne.mpr h2
              clear h2
              go_wp2_with fail
              go_roundg d
              case measure => have := HD.out; omega
              case rel => exact ⟨d, i + 1, _, _, _, by go_num, ⟨Nat.le_refl _⟩, ⟨by omega⟩, HNEXT, HI3, HBK3, HS, HB3⟩
    · have h9 : (s, er) = (sf, ef) := by
        have h9 := HGO2.out
        cases d with
        | zero => rw [mosaiclaw02_OctWrites.go, if_neg hlt] at h9; exact Option.some.inj h9
        | succ d => rw [mosaiclaw02_OctWrites.go, if_neg hlt] at h9; exact Option.some.inj h9
      clear h9 HGO2
      have e0 : w.heap.size ≤ wr.heap.size := HB.out.size
      have HY := Aside0.mk (oct_Writer_Bytes.wr w.heap.size w.heap.size v s er wr HI.out e0)
      clear e0
      by_cases hl : i < l0.length
      all_goals
        first
        | (have hlz : (i : Int) < (l0.length : Int) := by omega
           have h40z : ¬ (i : Int) < 40 := by omega)
        | (have hlz : ¬ (i : Int) < (l0.length : Int) := by omega)
        clear hlt hl
        go_wp2_with fail
        refine HY.out.mono ?_
        rintro e w12 ⟨rfl, v12, hi12, hb12, hk12⟩
        have HBK4 := Aside0.mk (mosaiclaw02_OctWrites.far HI.out HBK2.out (Nat.ne_of_gt HG.out) (by decide) hk12)
        have HB4 := Aside0.mk (HB.out.trans hb12)
        clear hi12 hb12 hk12 HY HI HBK2 HB
        have d0 : w12.cell? ⟨gr, 0, none⟩ = some (.string s) := (blk_cell HBK4.out 0).trans rfl
        have d1 : w12.cell? ⟨gr, 1, none⟩ = some (.int .i64 er) := (blk_cell HBK4.out 1).trans rfl
        by_cases hE : er = 0
        · rw [if_pos hE]
          subst hE
          go_wp2_with fail
          go_ret
          exact ⟨by first | rfl | (simp; done), by first | exact HB4.out | exact pw_below_drewN HB4.out _ | exact below_drew1 HB4.out⟩
        · rw [if_neg hE]
          have t1 : (er == 0) = false := beq_eq_false_iff_ne.mpr hE
          have t2 : (er != 0) = true := bne_iff_ne.mpr hE
          clear hE
          go_wp2_with fail
          go_ret
          exact ⟨by first | rfl | (simp; done), by first | exact HB4.out | exact pw_below_drewN HB4.out _ | exact below_drew1 HB4.out⟩


/-- THE ONE PURE STATEMENT of mosaiclaw02_OctWrites: yours. -/
def mosaiclaw02_OctWrites.Pure : Prop := ∀ (l0 : List (S37)), (l0.length ≤ maxLen) → (∀ y ∈ l0, ((Lit.int .i64 y.f0).wf = true) ∧ (((Lit.int .i64 y.f1).wf = true) ∧ (((Lit.int .i64 y.f2).wf = true) ∧ (y.f3.size ≤ maxLen)))) → ∃ k, mosaiclaw02_OctWrites.f k l0 = some true
theorem mosaiclaw02_OctWrites.walk (P : mosaiclaw02_OctWrites.Pure) (A0 : Option Addr) (c0 : Nat) (l0 : List (S37)) (w : World) (hr0 : Kd.C k37 w A0 l0.length l0) (hc0 : l0.length ≤ c0) (hm0 : l0.length ≤ maxLen) (hw0 : ∀ y ∈ l0, ((Lit.int .i64 y.f0).wf = true) ∧ (((Lit.int .i64 y.f1).wf = true) ∧ (((Lit.int .i64 y.f2).wf = true) ∧ (y.f3.size ≤ maxLen)))) :
    Calls Try.prog 5 #[.slice A0 l0.length c0] w fun e w' => e = .returned (.bool true) ∧ Below w.heap.size w w' := by
  obtain ⟨k, h⟩ := P l0 hm0 hw0
  refine (mosaiclaw02_OctWrites.calls k A0 c0 l0 true w hr0 hc0 h).mono ?_
  rintro e w' ⟨rfl, hd⟩
  exact ⟨rfl, hd⟩
end Go.Proofs.Ytmebebpnogemdaa.POctWrites
