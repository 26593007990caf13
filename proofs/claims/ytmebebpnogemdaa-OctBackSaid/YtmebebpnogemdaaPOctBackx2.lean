-- Written by this session's own program (wip/tools/mkprint.py) over the kit's printer, with overrides.
import Derived.Test.YtmebebpnogemdaaPOctBackx0
import Derived.Test.YtmebebpnogemdaaPOctBackx1
namespace Go.Proofs.Ytmebebpnogemdaa.POctBack
open Go.RowKit Go.Mine Go.Proofs.YtmebebpnogemdaaW.PrintWords Go.Proofs.YtmebebpnogemdaaW.PrintLast Go.Proofs.YtmebebpnogemdaaW.PrintMore
attribute [local go_sem] max2_int min2_int max_two min_two max_three min_three max_four min_four   -- for this text's walks alone
set_option linter.unusedVariables false
set_option linter.unusedSimpArgs false

/-! ### oct_Writer_put: function 36 -/
set_option maxHeartbeats 1000000 in
theorem oct_Writer_put.wr (B g : Nat) (v : Value) (s t : ByteArray) (er f : Int) (w : World) (h : IsWr 64 5 B g v s er w) (hs : s.size ≤ 65536) (ht : t.size ≤ 140737488289000) (hBw : B ≤ w.heap.size) :
    Calls Try.prog 36 #[.pointer (some ⟨g, 0, none⟩), .string t, .int .i64 f] w fun e w' => e = .returned (.tuple #[]) ∧ WrStep 64 5 B g v (putS s er t f).1 (putS s er t f).2 w w' := by
  obtain ⟨p, hp, h⟩ := h
  have c2 := h.cell2
  have HW := Aside0.mk h
  have hnop : Aside0 (WrStep 64 5 B g v s er w w) := ⟨v, ⟨p, hp, h⟩, Below.refl _ _, Kept.refl _ _⟩
  unfold putS
  by_cases h1 : er = 0
  · subst h1
    rw [if_pos rfl]
    by_cases h2 : f = 0
    · subst h2
      rw [if_pos rfl]
      have HLEN := Aside0.mk (strings_Builder_Len.wr B g p v s 0 w h)
      by_cases h3 : (t.size : Int) > 65536 - (s.size : Int)
      · rw [if_pos h3]
        have h3' : 65536 - (s.size : Int) < (t.size : Int) := h3
        have hf := h.frozen 2
        have HR : Aside0 (WrStep 64 5 B g v s 2 w (w.setCell ⟨g, 2, none⟩ (.int .i64 2))) := by
          refine ⟨v, ⟨p, hp, h.set2 2⟩, (Below.refl _ _).setCell h.ge _, by simp [World.setCell], fun i hi hn => ?_⟩
          exact Below.heap_setCell _ _ _ _ (fun e => hn (.inl e))
        clear h hnop h3
        go_enter Try.func36, Try.ntmps36
        go_wp2_with (go_at_call 42; refine HLEN.out.mono ?_; rintro e w' ⟨rfl, rfl⟩)
        go_end0
        exact ⟨rfl, HR.out⟩
      · rw [if_neg h3]
        have h3' : ¬ (65536 - (s.size : Int) < (t.size : Int)) := h3
        have HWS := Aside0.mk (strings_Builder_WriteString.wr B g p v s t 0 w hp h (by omega) hBw)
        clear h hnop h3
        go_enter Try.func36, Try.ntmps36
        go_wp2_with (first | (go_at_call 42; refine HLEN.out.mono ?_; rintro e w' ⟨rfl, rfl⟩) | (go_at_call 43; refine HWS.out.mono ?_; rintro e w' ⟨rfl, HS⟩; have HSS := Aside0.mk HS; clear HS))
        go_end0
        exact ⟨rfl, HSS.out⟩
    · rw [if_neg h2]
      have t1 : (f == 0) = false := beq_eq_false_iff_ne.mpr h2
      have t2 : (f != 0) = true := bne_iff_ne.mpr h2
      have hf := h.frozen 2
      have HR : Aside0 (WrStep 64 5 B g v s f w (w.setCell ⟨g, 2, none⟩ (.int .i64 f))) := by
        refine ⟨v, ⟨p, hp, h.set2 f⟩, (Below.refl _ _).setCell h.ge _, by simp [World.setCell], fun i hi hn => ?_⟩
        exact Below.heap_setCell _ _ _ _ (fun e => hn (.inl e))
      clear h hnop h2
      go_enter Try.func36, Try.ntmps36
      go_wp2
      go_end0
      exact ⟨rfl, HR.out⟩
  · rw [if_neg h1]
    have t1 : (er == 0) = false := beq_eq_false_iff_ne.mpr h1
    have t2 : (er != 0) = true := bne_iff_ne.mpr h1
    clear h h1
    go_enter Try.func36, Try.ntmps36
    go_wp2
    go_end0
    exact ⟨rfl, hnop.out⟩

/-! ### oct_Writer_Text: function 13 -/
theorem oct_Writer_Text.wr (k : Nat) (B g : Nat) (v : Value) (s t u : ByteArray) (er f : Int) (w : World) (h : IsWr 64 5 B g v s er w) (hp : oct_Put.f k (t.size : Int) 2 = some (u, f)) (hs : s.size ≤ 65536) (ht : t.size ≤ 65535) (hu : u.size ≤ 10) (hBw : B ≤ w.heap.size) :
    Calls Try.prog 13 #[.pointer (some ⟨g, 0, none⟩), .string t] w fun e w' => e = .returned (.tuple #[]) ∧ WrStep 64 5 B g v (putS s er (u ++ t) 0).1 (putS s er (u ++ t) 0).2 w w' := by
  have HP0 := Aside0.mk hp
  have HI := Aside0.mk h
  have ht2 : ¬ (65535 : Int) < (t.size : Int) := by omega
  clear h hp
  go_enter Try.func13, Try.ntmps13
  go_wp2_with fail
  refine (oct_Put.calls k _ 2 u f w HP0.out).mono ?_
  rintro e w1 ⟨rfl, hb⟩
  have HP := Aside0.mk (oct_Writer_put.wr B g v s (u ++ t) er 0 w1 (HI.out.below hb) hs (by rw [ByteArray.size_append]; omega) (Nat.le_trans hBw hb.size))
  have HB := Aside0.mk hb
  clear hb
  go_wp2_with fail
  refine HP.out.mono ?_
  rintro e w' ⟨rfl, HS⟩
  have HSS := Aside0.mk HS
  clear HS
  go_wp2
  first | go_end0 | ((try simp only [Exit.inBlock, Exit.then]); refine bodyPost_ret (results_none rfl _ _ _) rfl ?_)
  refine ⟨rfl, ?_⟩
  obtain ⟨v', h1, h2, h3⟩ := HSS.out
  refine ⟨v', h1, (HB.out.mono hBw).trans h2, (Kept.of_below HB.out _).then_ h3 (fun k hk => .inl hk)⟩
theorem oct_Writer_Text.long (B g : Nat) (v : Value) (s t : ByteArray) (er : Int) (w : World) (h : IsWr 64 5 B g v s er w) (hs : s.size ≤ 65536) (ht : 65535 < t.size) (hBw : B ≤ w.heap.size) :
    Calls Try.prog 13 #[.pointer (some ⟨g, 0, none⟩), .string t] w fun e w' => e = .returned (.tuple #[]) ∧ WrStep 64 5 B g v (putS s er ⟨#[]⟩ 2).1 (putS s er ⟨#[]⟩ 2).2 w w' := by
  have HP := Aside0.mk (oct_Writer_put.wr B g v s ⟨#[]⟩ er 2 w h hs (by decide) hBw)
  have ht2 : (65535 : Int) < (t.size : Int) := by omega
  clear h
  go_enter Try.func13, Try.ntmps13
  go_wp2_with (go_at_call 36; refine HP.out.mono ?_; rintro e w' ⟨rfl, HS⟩; have HSS := Aside0.mk HS; clear HS)
  first | go_end0 | ((try simp only [Exit.inBlock, Exit.then]); refine bodyPost_ret (results_none rfl _ _ _) rfl ?_)
  exact ⟨rfl, HSS.out⟩
theorem oct_Writer_Text.nil (t : ByteArray) (w : World) : Calls Try.prog 13 #[.pointer none, .string t] w fun e w' => e = .returned (.tuple #[]) ∧ w' = w := by
  go_enter Try.func13, Try.ntmps13
  go_wp2
  first | go_end0 | ((try simp only [Exit.inBlock, Exit.then]); refine bodyPost_ret (results_none rfl _ _ _) rfl ?_)
  exact ⟨rfl, rfl⟩

/-! ### strings_Builder_String: function 37 -/
set_option maxHeartbeats 2000000 in
set_option maxRecDepth 100000 in
theorem strings_Builder_String.some_ (B g : Nat) (p v : Value) (s : ByteArray) (er : Int) (w : World) (hp : p = .pointer none ∨ p = .pointer (some ⟨g, 0, none⟩)) (h : WrAt 64 5 B g p v s er w) (h0 : s.size ≠ 0) :
    Calls Try.prog 37 #[.pointer (some ⟨g, 0, none⟩)] w fun e w' => e = .returned (.string s) ∧ WrStep 64 5 B g v s er w w' := by
  obtain ⟨g', cap, cur, fz, rfl, hbg, hg, hfz, hnc, hcm, hcs, htake⟩ : ∃ g' cap cur fz, v = .slice (some ⟨g', 0, none⟩) s.size cap ∧ B ≤ g' ∧ w.heap[g']? = some (.cells cur 5 fz) ∧ fz.2 ≤ s.size * 1 ∧ s.size ≤ cap ∧ cap ≤ maxLen ∧ cur.size = cap * 1 ∧ cur.toList.take (s.size * 1) = Lib.strCells s := by
    rcases h.2.2.1.2 with ⟨_, hz⟩ | ⟨g', cap, cur, fz, hv, r⟩
    · exact absurd hz h0
    · exact ⟨g', cap, cur, fz, hv, r⟩
  have hl : s.data.toList.length = s.size := by rw [Array.length_toList]; rfl
  have hne : s.data.toList ≠ [] := fun e => h0 (by rw [← hl, e]; rfl)
  have c1 : w.drew.cell? ⟨g, 1, none⟩ = some (.slice (some ⟨g', 0, none⟩) s.size cap) := h.cell1
  have hSD : (Builtin.unsafeSliceData_ #[27] 75 #[.slice (some ⟨g', 0, none⟩) s.size cap]).run Try.prog w.drew = .ok (.pointer (some ⟨g', 0, none⟩)) w.drew :=
    Lib.run_unsafeSliceData_row _ _ _ _ _ _ (by omega)
  have hUS : (Builtin.unsafeString_ #[75, 3] 9 #[.pointer (some ⟨g', 0, none⟩), .int .i64 s.size]).run Try.prog w.drew = .ok (.string s) (w.drew.freeze ⟨g', 0, none⟩ s.size) := by
    have := Lib.run_unsafeString_row (P := Try.prog) w.drew 75 3 9 5 Try.underlying75 (by kernel_rfl) g' cur.size (by have hg' : w.drew.heap[g']? = some (.cells cur 5 fz) := hg; simp [World.shape?, hg']) s.data.toList hne (by rw [hl]; omega) (by rw [hl]; unfold maxLen at hcm; omega) (by
      intro j x hx
      have hh := h.2.2.1.cells (g := g') rfl j (.int .u8 x.toNat) (by simp [Lib.strCells, hx])
      exact hh)
    rw [hl] at this
    exact this
  have HW : Aside0 (WrAt 64 5 B g p (.slice (some ⟨g', 0, none⟩) s.size cap) s er (w.drew.freeze ⟨g', 0, none⟩ s.size)) := ⟨h.drew.froze⟩
  have HB : Aside0 (Below B w (w.drew.freeze ⟨g', 0, none⟩ s.size)) := ⟨Lib.below_freeze (Below.drew (Below.refl B w)) (p := ⟨g', 0, none⟩) hbg _⟩
  have HK : Aside0 (Kept w (w.drew.freeze ⟨g', 0, none⟩ s.size) (fun k => k = g ∨ (Value.slice (some ⟨g', 0, none⟩) s.size cap).ownBlock = some k)) := by
    refine ⟨HB.out.size, fun i hi hn => ?_⟩
    have hi' : g' ≠ i := fun e => hn (.inr (by rw [e]; rfl))
    unfold World.freeze
    split
    · rfl
    · simp only [Array.getElem?_modify]
      rw [if_neg hi']
      rfl
  clear h hbg hg hfz hcs htake hne hl
  go_enter Try.func37, Try.ntmps37
  go_wp2
  go_region
  all_goals (go_wp2; go_ret; exact ⟨rfl, _, ⟨_, hp, HW.out⟩, HB.out, HK.out⟩)
theorem strings_Builder_String.unsafeString_none (W : World) (q : Option Addr) : (Builtin.unsafeString_ #[75, 3] 9 #[.pointer q, .int .i64 0]).run Try.prog W = .ok (.string .empty) W := by
  cases q <;> rfl
theorem strings_Builder_String.nothing (B g : Nat) (p : Value) (er : Int) (w : World) (hp : p = .pointer none ∨ p = .pointer (some ⟨g, 0, none⟩)) (v : Value) (s : ByteArray) (h : WrAt 64 5 B g p v s er w) (hs : s.size = 0) (hBw : B ≤ w.heap.size) :
    Calls Try.prog 37 #[.pointer (some ⟨g, 0, none⟩)] w fun e w' => e = .returned (.string s) ∧ WrStep 64 5 B g v s er w w' := by
  have hes : s = ⟨#[]⟩ := by
    have : s.data.size = 0 := hs
    cases s
    simp only [ByteArray.mk.injEq]
    exact Array.eq_empty_of_size_eq_zero this
  have hUS := strings_Builder_String.unsafeString_none
  have hlt := h.lt
  have fin : ∀ w' : World, Below w.heap.size w w' → WrStep 64 5 B g v s er w w' := fun w' hb => ⟨v, ⟨p, hp, h.below hb⟩, hb.mono hBw, Kept.of_below hb _⟩
  have FIN := Aside0.mk fin
  clear fin
  rcases h.2.2.1.2 with ⟨hv, _⟩ | ⟨g', cap, cur, fz, hv, hbg, hg, _⟩
  · have c1 : w.drew.cell? ⟨g, 1, none⟩ = some (.slice none 0 0) := by have := h.cell1; rw [hv] at this; exact this
    have hSD : (Builtin.unsafeSliceData_ #[27] 75 #[.slice none 0 0]).run Try.prog w.drew = .ok (.pointer none) w.drew := rfl
    clear h hs hv
    subst hes
    go_enter Try.func37, Try.ntmps37
    go_wp2
    go_region
    all_goals (go_wp2; go_ret; exact ⟨rfl, FIN.out _ (Below.drew (Below.refl _ _))⟩)
  · rw [hs] at hv
    have c1 : w.drew.cell? ⟨g, 1, none⟩ = some (.slice (some ⟨g', 0, none⟩) 0 cap) := by have := h.cell1; rw [hv] at this; exact this
    by_cases hc0 : cap = 0
    · subst hc0
      have hSD : (Builtin.unsafeSliceData_ #[27] 75 #[.slice (some ⟨g', 0, none⟩) 0 0]).run Try.prog w.drew = .ok (.pointer (some ⟨w.drew.heap.size, 0, none⟩)) (w.drew.alloc (.view ⟨g', 0, none⟩ 5)) :=
        Lib.run_unsafeSliceData_zero w.drew _ _ 5 Try.underlying75 ⟨g', 0, none⟩ 0 (5, cur.size) (by have hg' : w.drew.heap[g']? = some (.cells cur 5 fz) := hg; simp [World.shape?, hg'])
      have c2 : (w.drew.alloc (.view ⟨g', 0, none⟩ 5)).cell? ⟨g, 1, none⟩ = some (.slice (some ⟨g', 0, none⟩) 0 0) := by
        have h2 := (h.below ((Below.refl w.heap.size w).drew.alloc (Nat.le_refl _) (.view ⟨g', 0, none⟩ 5))).cell1
        rw [hv] at h2
        exact h2
      have c3 : (w.alloc (.view ⟨g', 0, none⟩ 5)).drew.cell? ⟨g, 1, none⟩ = some (.slice (some ⟨g', 0, none⟩) 0 0) := c2
      have c0 : w.cell? ⟨g, 1, none⟩ = some (.slice (some ⟨g', 0, none⟩) 0 0) := c1
      clear h hs hv hg hbg
      subst hes
      go_enter Try.func37, Try.ntmps37
      go_wp2
      go_region
      all_goals (go_wp2; go_ret; exact ⟨rfl, FIN.out _ ((Below.drew (Below.refl _ _)).alloc (Nat.le_refl _) _)⟩)
    · have hSD : (Builtin.unsafeSliceData_ #[27] 75 #[.slice (some ⟨g', 0, none⟩) 0 cap]).run Try.prog w.drew = .ok (.pointer (some ⟨g', 0, none⟩)) w.drew :=
        Lib.run_unsafeSliceData_row _ _ _ _ _ _ hc0
      clear h hs hv hg hbg hc0
      subst hes
      go_enter Try.func37, Try.ntmps37
      go_wp2
      go_region
      all_goals (go_wp2; go_ret; exact ⟨rfl, FIN.out _ (Below.drew (Below.refl _ _))⟩)
/-- The text that a writer's Builder holds. -/
theorem strings_Builder_String.wr (B g : Nat) (v : Value) (s : ByteArray) (er : Int) (w : World) (h : IsWr 64 5 B g v s er w) (hBw : B ≤ w.heap.size) :
    Calls Try.prog 37 #[.pointer (some ⟨g, 0, none⟩)] w fun e w' => e = .returned (.string s) ∧ WrStep 64 5 B g v s er w w' := by
  obtain ⟨p, hp, h⟩ := h
  by_cases h0 : s.size = 0
  · exact strings_Builder_String.nothing B g p er w hp v s h h0 hBw
  · exact strings_Builder_String.some_ B g p v s er w hp h h0

/-! ### oct_Writer_Bytes: function 14 -/
set_option maxHeartbeats 1000000 in
theorem oct_Writer_Bytes.wr (B g : Nat) (v : Value) (s : ByteArray) (er : Int) (w : World) (h : IsWr 64 5 B g v s er w) (hBw : B ≤ w.heap.size) :
    Calls Try.prog 14 #[.pointer (some ⟨g, 0, none⟩)] w fun e w' => e = .returned (.tuple #[.string (if er = 0 then s else ⟨#[]⟩), .int .i64 er]) ∧ WrStep 64 5 B g v s er w w' := by
  have HS := Aside0.mk (strings_Builder_String.wr B g v s er w h hBw)
  obtain ⟨p, hp, h⟩ := h
  have c2 := h.cell2
  have HD : Aside0 (∀ m, WrStep 64 5 B g v s er w (w.drewN m)) := ⟨fun m => ⟨v, ⟨p, hp, h.below (pw_below_drewN (Below.refl _ _) m)⟩, pw_below_drewN (Below.refl _ _) m, Kept.of_below (pw_below_drewN (Below.refl _ _) m) _⟩⟩
  clear h hp
  by_cases h1 : er = 0
  · subst h1
    rw [if_pos rfl]
    clear HD
    go_enter Try.func14, Try.ntmps14
    go_wp2_with (go_at_call 37; refine HS.out.mono ?_; rintro e w' ⟨rfl, HSS⟩; have HSS2 := Aside0.mk HSS; clear HSS)
    go_ret2
    exact ⟨rfl, HSS2.out⟩
  · rw [if_neg h1]
    have t1 : (er == 0) = false := beq_eq_false_iff_ne.mpr h1
    have t2 : (er != 0) = true := bne_iff_ne.mpr h1
    clear h1 HS
    go_enter Try.func14, Try.ntmps14
    go_wp2
    go_quiet (fail)
    go_wp2
    go_ret2
    exact ⟨rfl, HD.out _⟩
theorem oct_Writer_Bytes.nil (w : World) : Calls Try.prog 14 #[.pointer none] w fun e w' => e = .returned (.tuple #[.string ⟨#[]⟩, .int .i64 1]) ∧ w' = w := by
  go_enter Try.func14, Try.ntmps14
  go_wp2
  go_ret2
  exact ⟨rfl, rfl⟩

/-! ### oct_Writer_Raw: function 15 -/
theorem oct_Writer_Raw.wr (B g : Nat) (v : Value) (s t : ByteArray) (er : Int) (w : World) (h : IsWr 64 5 B g v s er w) (hs : s.size ≤ 65536) (ht : t.size ≤ 140737488289000) (hBw : B ≤ w.heap.size) :
    Calls Try.prog 15 #[.pointer (some ⟨g, 0, none⟩), .string t] w fun e w' => e = .returned (.tuple #[]) ∧ WrStep 64 5 B g v (putS s er t 0).1 (putS s er t 0).2 w w' := by
  have HP := Aside0.mk (oct_Writer_put.wr B g v s t er 0 w h hs ht hBw)
  clear h
  go_enter Try.func15, Try.ntmps15
  go_wp2_with (go_at_call 36; refine HP.out.mono ?_; rintro e w' ⟨rfl, HS⟩; have HSS := Aside0.mk HS; clear HS)
  go_end0
  exact ⟨rfl, HSS.out⟩
theorem oct_Writer_Raw.nil (t : ByteArray) (w : World) : Calls Try.prog 15 #[.pointer none, .string t] w fun e w' => e = .returned (.tuple #[]) ∧ w' = w := by
  go_enter Try.func15, Try.ntmps15
  go_wp2
  go_end0
  exact ⟨rfl, rfl⟩

/-! ### oct_Writer_Num: function 16 -/
theorem oct_Writer_Num.wr (k : Nat) (B g : Nat) (v : Value) (s t : ByteArray) (er x y f : Int) (w : World) (h : IsWr 64 5 B g v s er w) (hp : oct_Put.f k x y = some (t, f)) (hs : s.size ≤ 65536) (ht : t.size ≤ 140737488289000) (hBw : B ≤ w.heap.size) :
    Calls Try.prog 16 #[.pointer (some ⟨g, 0, none⟩), .int .i64 x, .int .i64 y] w fun e w' => e = .returned (.tuple #[]) ∧ WrStep 64 5 B g v (putS s er t f).1 (putS s er t f).2 w w' := by
  have HP0 := Aside0.mk hp
  have HI := Aside0.mk h
  clear h hp
  go_enter Try.func16, Try.ntmps16
  go_wp2_with fail
  refine (oct_Put.calls k x y t f w HP0.out).mono ?_
  rintro e w1 ⟨rfl, hb⟩
  have HP := Aside0.mk (oct_Writer_put.wr B g v s t er f w1 (HI.out.below hb) hs ht (Nat.le_trans hBw hb.size))
  have HB := Aside0.mk hb
  clear hb
  go_wp2_with (go_at_call 36; refine HP.out.mono ?_; rintro e w' ⟨rfl, HS⟩; have HSS := Aside0.mk HS; clear HS)
  go_end0
  refine ⟨rfl, ?_⟩
  obtain ⟨v', h1, h2, h3⟩ := HSS.out
  refine ⟨v', h1, (HB.out.mono hBw).trans h2, (Kept.of_below HB.out _).then_ h3 (fun k hk => .inl hk)⟩
theorem oct_Writer_Num.nil (x y : Int) (w : World) : Calls Try.prog 16 #[.pointer none, .int .i64 x, .int .i64 y] w fun e w' => e = .returned (.tuple #[]) ∧ w' = w := by
  go_enter Try.func16, Try.ntmps16
  go_wp2
  go_end0
  exact ⟨rfl, rfl⟩

/-! ### mosaiclaw02_awake: function 11 -/
def mosaiclaw02_awake.f : Option Bool := some true
set_option maxHeartbeats 1000000 in
theorem mosaiclaw02_awake.calls (r : Bool) (w : World) (h : mosaiclaw02_awake.f = some r) :
    Calls Try.prog 11 #[] w fun e w' => e = .returned (.bool r) ∧ Below w.heap.size w w' := by
  have hr : true = r := Option.some.inj h
  subst hr
  clear h
  have P1 : Aside0 (oct_Put.f 20 258 2 = some (⟨#[1, 2]⟩, 0)) := ⟨by decide +kernel⟩
  have P2 : Aside0 (oct_Put.f 20 256 1 = some (⟨#[]⟩, 8)) := ⟨by decide +kernel⟩
  have P3 : Aside0 (oct_Put.f 20 ((⟨#[97, 98]⟩ : ByteArray).size : Int) 2 = some (⟨#[0, 2]⟩, 0)) := ⟨by decide +kernel⟩
  go_enter Try.func11, Try.ntmps11
  go_wp2_with fail
  refine (oct_Put.calls 20 258 2 _ _ w P1.out).mono ?_
  rintro e w1 ⟨rfl, hb1⟩
  have HB1 := Aside0.mk hb1
  clear hb1
  go_wp2_with fail
  refine (oct_Put.calls 20 256 1 _ _ w1 P2.out).mono ?_
  rintro e w2 ⟨rfl, hb2⟩
  have HB2 := Aside0.mk (below_step HB1.out hb2)
  clear hb2
  go_wp2_with fail
  refine (oct_To.wr w2).mono ?_
  rintro e w3 ⟨rfl, hi3, hb3, hz3⟩
  have HB3 := Aside0.mk (below_step HB2.out hb3)
  have HT := Aside0.mk (oct_Writer_Text.wr 20 w2.heap.size w2.heap.size _ _ ⟨#[97, 98]⟩ _ _ _ w3 hi3 P3.out (by decide) (by decide) (by decide) hb3.size)
  have HG : Aside0 (w.heap.size ≤ w2.heap.size) := ⟨HB2.out.size⟩
  clear hi3 hb3 hz3
  generalize w2.heap.size = g at *
  go_wp2_with fail
  refine HT.out.mono ?_
  rintro e w4 ⟨rfl, v4, hi4, hb4, hk4⟩
  have HB4 := Aside0.mk (HB3.out.trans (hb4.mono HG.out))
  have HY := Aside0.mk (oct_Writer_Bytes.wr g g v4 _ _ w4 hi4 (by have := hi4.choose_spec.2.lt; omega))
  have e1 : (putS ⟨#[]⟩ 0 ((⟨#[0, 2]⟩ : ByteArray) ++ ⟨#[97, 98]⟩) 0) = (⟨#[0, 2, 97, 98]⟩, 0) := by decide +kernel
  rw [e1, if_pos rfl] at HY
  clear hi4 hb4 hk4 e1
  go_wp2_with fail
  refine HY.out.mono ?_
  rintro e w5 ⟨rfl, v5, hi5, hb5, hk5⟩
  have HB5 := Aside0.mk (HB4.out.trans (hb5.mono HG.out))
  clear hi5 hb5 hk5
  go_wp2
  go_ret
  exact ⟨by first | rfl | (simp; done), HB5.out⟩

/-- A state of type 70 at block g of W; what its slices lead to came in by w0. -/
def IsS70 (w0 W : World) (g : Nat) (f0 : ByteArray) (f1 : Int) : Prop := W.heap[g]? = some (.cells #[.string f0, .int .i64 f1] 70 (0, 0)) ∧ w0.heap.size ≤ g
theorem IsS70.grown {w0 W : World} {g : Nat} {f0 : ByteArray} {f1 : Int} {W1 : World} {row : Option Nat} (h : IsS70 w0 W g f0 f1) (hw : W.grownBy W1 row) (hne : some g ≠ row) : IsS70 w0 W1 g f0 f1 := by
  obtain ⟨hb, hg⟩ := h
  exact ⟨blk_grown hb hw hne, hg⟩
theorem IsS70.own_neN {w0 W : World} {g : Nat} {f0 : ByteArray} {f1 : Int} {α : Type} {d : Kd α} {e : Nat} {base : Nat} {ok : Nat → Prop} {v : Value} {xs : List α} (h : IsS70 w0 W g f0 f1) (ho : Kd.N d e W base ok v xs) (ht : e ≠ 70) : some g ≠ v.ownBlock := by
  obtain ⟨hb, hg⟩ := h
  exact Kd.N_ne ho hb ht
theorem IsS70.fresh {w0 W : World} {g : Nat} {f0 : ByteArray} {f1 : Int} (h : IsS70 w0 W g f0 f1) : ∀ k, W.heap.size ≤ k → k ≠ g := by
  obtain ⟨hb, hg⟩ := h
  exact Kd.freshB hb
theorem IsS70.kept {w0 W : World} {g : Nat} {f0 : ByteArray} {f1 : Int} {W1 : World} {S : Nat → Prop} (h : IsS70 w0 W g f0 f1) (hk : Kept W W1 S) (hne : ¬ S g) : IsS70 w0 W1 g f0 f1 := by
  obtain ⟨hb, hg⟩ := h
  exact ⟨blk_kept hb hk hne, hg⟩
theorem IsS70.below {w0 W : World} {g : Nat} {f0 : ByteArray} {f1 : Int} {W1 : World} (h : IsS70 w0 W g f0 f1) (hw : Below W.heap.size W W1) : IsS70 w0 W1 g f0 f1 := h.grown (grown_of_below hw none) (by simp)
theorem IsS70.alloc {w0 W : World} {g : Nat} {f0 : ByteArray} {f1 : Int} (h : IsS70 w0 W g f0 f1) (o : Obj) : IsS70 w0 (W.alloc o) g f0 f1 := h.below (below_alloc (Below.refl _ _) o)
theorem IsS70.drewN {w0 W : World} {g : Nat} {f0 : ByteArray} {f1 : Int} (h : IsS70 w0 W g f0 f1) (m : Nat) : IsS70 w0 (W.drewN m) g f0 f1 := h
theorem IsS70.drew {w0 W : World} {g : Nat} {f0 : ByteArray} {f1 : Int} (h : IsS70 w0 W g f0 f1) : IsS70 w0 W.drew g f0 f1 := h
theorem IsS70.at_ {w0 W : World} {g : Nat} {f0 : ByteArray} {f1 : Int} {w' : World} {m : Nat} (hq : W.drewN m = w') (h : IsS70 w0 W g f0 f1) : IsS70 w0 w' g f0 f1 := by subst hq; exact IsS70.drewN h m
theorem IsS70.apart {w0 W : World} {g : Nat} {f0 : ByteArray} {f1 : Int} {α : Type} {d : Kd α} {e : Nat} {base : Nat} {ok : Nat → Prop} {v : Value} {xs : List α} (h : IsS70 w0 W g f0 f1) (ho : d.R e W base ok v xs) (ht : ∀ q, q ∈ e :: d.E → q ≠ 70) : d.R e W base (fun k => ok k ∧ k ≠ g) v xs := by
  obtain ⟨hb, hg⟩ := h
  exact Kd.R_types ho hb ht
theorem IsS70.own_ne {w0 W : World} {g : Nat} {f0 : ByteArray} {f1 : Int} {α : Type} {d : Kd α} {e : Nat} {base : Nat} {ok : Nat → Prop} {v : Value} {xs : List α} (h : IsS70 w0 W g f0 f1) (ho : d.R e W base ok v xs) (ht : e ≠ 70) : some g ≠ v.ownBlock := by
  obtain ⟨hb, hg⟩ := h
  exact Kd.R_ne ho hb ht
theorem IsS70.apartQ {w0 W : World} {g : Nat} {f0 : ByteArray} {f1 : Int} {α : Type} {d : Kd α} {e : Nat} {base : Nat} {ok : Nat → Prop} {v : Value} {xs : List α} (h : IsS70 w0 W g f0 f1) (ho : d.Q e W base ok v xs) (ht : ∀ q, q ∈ e :: d.E → q ≠ 70) : d.Q e W base (fun k => ok k ∧ k ≠ g) v xs := by
  obtain ⟨hb, hg⟩ := h
  exact Kd.Q_types ho hb ht
theorem IsS70.own_neQ {w0 W : World} {g : Nat} {f0 : ByteArray} {f1 : Int} {α : Type} {d : Kd α} {e : Nat} {base : Nat} {ok : Nat → Prop} {v : Value} {xs : List α} (h : IsS70 w0 W g f0 f1) (ho : d.Q e W base ok v xs) (ht : e ≠ 70) : some g ≠ v.ownBlock := by
  obtain ⟨hb, hg⟩ := h
  exact Kd.Q_ne ho hb ht
theorem IsS70.apartS {w0 W : World} {g : Nat} {f0 : ByteArray} {f1 : Int} {α : Type} {d : Kd α} {e : Nat} {base : Nat} {ok : Nat → Prop} {v : Value} {xs : List α} (h : IsS70 w0 W g f0 f1) (ho : d.S e W base ok v xs) (ht : ∀ q, q ∈ e :: d.E → q ≠ 70) : d.S e W base (fun k => ok k ∧ k ≠ g) v xs := by
  obtain ⟨hb, hg⟩ := h
  exact Kd.S_types ho hb ht
theorem IsS70.own_neS {w0 W : World} {g : Nat} {f0 : ByteArray} {f1 : Int} {α : Type} {d : Kd α} {e : Nat} {base : Nat} {ok : Nat → Prop} {v : Value} {xs : List α} (h : IsS70 w0 W g f0 f1) (ho : d.S e W base ok v xs) (ht : e ≠ 70) : some g ≠ v.ownBlock := by
  obtain ⟨hb, hg⟩ := h
  exact Kd.S_ne ho hb ht
theorem IsS70.lt {w0 W : World} {g : Nat} {f0 : ByteArray} {f1 : Int} (h : IsS70 w0 W g f0 f1) : g < W.heap.size := by
  obtain ⟨hb, hg⟩ := h
  exact blk_lt hb
theorem IsS70.ge {w0 W : World} {g : Nat} {f0 : ByteArray} {f1 : Int} (h : IsS70 w0 W g f0 f1) : w0.heap.size ≤ g := by
  obtain ⟨hb, hg⟩ := h
  exact hg
theorem IsS70.ne_blk {w0 W : World} {g : Nat} {f0 : ByteArray} {f1 : Int} {a : Nat} {cs : Array Value} {t : TypeId} {fr : Nat × Nat} (h : IsS70 w0 W g f0 f1) (hb2 : W.heap[a]? = some (.cells cs t fr)) (ht : t ≠ 70) : g ≠ a := by
  obtain ⟨hb, hg⟩ := h
  rintro rfl
  rw [hb] at hb2
  injection hb2 with hb2
  injection hb2 with _ ht2
  exact ht ht2.symm
theorem IsS70.far {w0 W : World} {g : Nat} {f0 : ByteArray} {f1 : Int} {p : Addr} (h : IsS70 w0 W g f0 f1) (hne : g ≠ p.block) (u : Value) : IsS70 w0 (W.setCell p u) g f0 f1 := by
  obtain ⟨hb, hg⟩ := h
  exact ⟨blk_far hb hne u, hg⟩
theorem cellS70_0 {W : World} {g : Nat} {f0 : ByteArray} {f1 : Int} (h : W.heap[g]? = some (.cells #[.string f0, .int .i64 f1] 70 (0, 0))) : W.cell? ⟨g, 0, none⟩ = some (.string f0) := (blk_cell h 0).trans rfl
theorem IsS70.set_0 {w0 W : World} {g : Nat} {f0 : ByteArray} {f1 : Int} (h : IsS70 w0 W g f0 f1) (x : ByteArray) : IsS70 w0 (W.setCell ⟨g, 0, none⟩ (.string x)) g x f1 := by
  obtain ⟨hb, hg⟩ := h
  exact ⟨by simpa using blk_set hb 0 (.string x), hg⟩
theorem cellS70_1 {W : World} {g : Nat} {f0 : ByteArray} {f1 : Int} (h : W.heap[g]? = some (.cells #[.string f0, .int .i64 f1] 70 (0, 0))) : W.cell? ⟨g, 1, none⟩ = some (.int .i64 f1) := (blk_cell h 1).trans rfl
theorem IsS70.set_1 {w0 W : World} {g : Nat} {f0 : ByteArray} {f1 : Int} (h : IsS70 w0 W g f0 f1) (x : Int) : IsS70 w0 (W.setCell ⟨g, 1, none⟩ (.int .i64 x)) g f0 x := by
  obtain ⟨hb, hg⟩ := h
  exact ⟨by simpa using blk_set hb 1 (.int .i64 x), hg⟩
theorem IsS70.new (w0 W : World) (f0 : ByteArray) (f1 : Int) (hB : Below w0.heap.size w0 W) : IsS70 w0 (W.alloc (.cells #[.string f0, .int .i64 f1] 70)) W.heap.size f0 f1 := ⟨by simpa using heap_alloc_new W _, hB.size⟩

/-! ### oct_From: function 23 -/
def oct_From.f (a0 : ByteArray) : Option (ByteArray × Int) := some (a0, 0)
set_option maxHeartbeats 8000000 in
set_option maxRecDepth 100000 in
theorem oct_From.calls (a0 : ByteArray) (r1 : ByteArray) (r2 : Int) (w0 w : World) (hB : Below w0.heap.size w0 w) (h : oct_From.f a0 = some (r1, r2)) :
    Calls Try.prog 23 #[.string a0] w fun e w' => ∃ g_ : Nat, e = .returned (.pointer (some ⟨g_, 0, none⟩)) ∧ IsS70 w0 w' g_ r1 r2 ∧ Below w0.heap.size w0 w' ∧ Below w.heap.size w w' := by
  have hu70 := Try.underlying70
  have HBW := Aside0.mk (Below.refl w.heap.size w)
  have HW0 := Aside0.mk hB.size
  have HB := Aside0.mk hB
  clear hB
  have H : (some (a0, 0)) = some (r1, r2) := h
  clear h
  simp only [Option.some.injEq, Prod.mk.injEq] at H
  obtain ⟨rfl, rfl⟩ := H
  go_enter Try.func23, Try.ntmps23
  go_wp2_with (first | ((with_reducible refine gate_dst (N := 5) rfl ?_); refine box_event ?hg (N := 5) ?hd (cs := #[.string a0, .int .i64 0]) (t := 70) ?hr ?_; (case hd => rfl); (case hg => rfl); (case hr => first | (go_simp; done) | (go_simp; rfl)); intro gb104 hg w2 hbox hb; have n0_ := Aside0.mk (below_step HBW.out hb); have n1_ := Aside0.mk (below_step (by repeat (first | (with_reducible first | exact HB.out | apply below_alloc | apply pw_below_drewN | apply below_drew1) | exact HB.out)) hb); have n2_ := Aside0.mk (hbox); have n3_ := Aside0.mk ((by rw [hg]; exact (below_size (by repeat (first | (with_reducible first | exact HBW.out | apply below_alloc | apply pw_below_drewN | apply below_drew1) | exact HBW.out))) : w.heap.size ≤ gb104)); have n4_ := Aside0.mk ((Nat.le_trans HW0.out (by rw [hg]; exact (below_size (by repeat (first | (with_reducible first | exact HBW.out | apply below_alloc | apply pw_below_drewN | apply below_drew1) | exact HBW.out))) : w.heap.size ≤ gb104) : w0.heap.size ≤ gb104)); clear HBW; clear HB; have HBW := n0_; have HB := n1_; have BK104 := n2_; have GW104 := n3_; have GE104 := n4_; clear n0_ n1_ n2_ n3_ n4_; clear hb hbox hg))
  go_ret
  exact ⟨_, rfl, (show IsS70 w0 _ gb104 a0 0 from ⟨by (with_reducible repeat (first | refine blk_drewN ?_ _ | refine blk_drew ?_ | refine blk_alloc ?_ _)); exact BK104.out, GE104.out⟩), by repeat (first | (with_reducible first | exact HB.out | apply below_alloc | apply pw_below_drewN | apply below_drew1 | refine below_set ?_ GE104.out) | exact HB.out), by repeat (first | (with_reducible first | exact HBW.out | apply below_alloc | apply pw_below_drewN | apply below_drew1 | refine below_set ?_ GW104.out) | exact HBW.out)⟩

end Go.Proofs.Ytmebebpnogemdaa.POctBack
