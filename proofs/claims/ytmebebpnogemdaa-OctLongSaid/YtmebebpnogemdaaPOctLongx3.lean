-- Written by this session's own program (wip/tools/mkprint.py) over the kit's printer, with overrides.
import Derived.Test.YtmebebpnogemdaaPOctLongx0
import Derived.Test.YtmebebpnogemdaaPOctLongx1
import Derived.Test.YtmebebpnogemdaaPOctLongx2
namespace Go.Proofs.Ytmebebpnogemdaa.POctLong
open Go.RowKit Go.Mine Go.Proofs.YtmebebpnogemdaaW.PrintWords Go.Proofs.YtmebebpnogemdaaW.PrintLast Go.Proofs.YtmebebpnogemdaaW.PrintMore
attribute [local go_sem] max2_int min2_int max_two min_two max_three min_three max_four min_four   -- for this text's walks alone
set_option linter.unusedVariables false
set_option linter.unusedSimpArgs false

/-! ### mosaiclaw02_OctLong: function 4 -/
def mosaiclaw02_OctLong.f (a0 : Int) (a1 : Int) : Option Bool := if -9223372036854775808 ≤ a0 ∧ a0 ≤ 9223372036854775807 ∧ -9223372036854775808 ≤ a1 ∧ a1 ≤ 9223372036854775807 then some true else none
theorem mosaiclaw02_OctLong.put2 (n : Nat) (h1 : 65530 ≤ n) (h2 : n ≤ 65535) : ∃ u : ByteArray, oct_Put.f 20 (n : Int) 2 = some (u, 0) ∧ u.size = 2 := by
  have hn : n = 65530 ∨ n = 65531 ∨ n = 65532 ∨ n = 65533 ∨ n = 65534 ∨ n = 65535 := by omega
  rcases hn with rfl | rfl | rfl | rfl | rfl | rfl
  · exact ⟨⟨#[255, 250]⟩, by decide +kernel, rfl⟩
  · exact ⟨⟨#[255, 251]⟩, by decide +kernel, rfl⟩
  · exact ⟨⟨#[255, 252]⟩, by decide +kernel, rfl⟩
  · exact ⟨⟨#[255, 253]⟩, by decide +kernel, rfl⟩
  · exact ⟨⟨#[255, 254]⟩, by decide +kernel, rfl⟩
  · exact ⟨⟨#[255, 255]⟩, by decide +kernel, rfl⟩
theorem mosaiclaw02_OctLong.text (B g : Nat) (v : Value) (s : ByteArray) (w : World) (h : IsWr 64 5 B g v ⟨#[]⟩ 0 w) (h1 : 65530 ≤ s.size) (hBw : B ≤ w.heap.size) :
    Calls Try.prog 13 #[.pointer (some ⟨g, 0, none⟩), .string s] w fun e w' => e = .returned (.tuple #[]) ∧ ∃ s', WrStep 64 5 B g v s' (if s.size ≤ 65534 then 0 else 2) w w' := by
  by_cases h2 : s.size ≤ 65535
  · obtain ⟨u, hu, hz⟩ := mosaiclaw02_OctLong.put2 s.size h1 h2
    refine (oct_Writer_Text.wr 20 B g v ⟨#[]⟩ s u 0 0 w h hu (by decide) h2 (by omega) hBw).mono ?_
    rintro e w' ⟨rfl, hs⟩
    refine ⟨rfl, (putS ⟨#[]⟩ 0 (u ++ s) 0).1, ?_⟩
    have e1 : (putS ⟨#[]⟩ 0 (u ++ s) 0).2 = (if s.size ≤ 65534 then 0 else 2) := by
      unfold putS
      rw [if_pos rfl, if_pos rfl, ByteArray.size_append, hz]
      have z : (⟨#[]⟩ : ByteArray).size = 0 := rfl
      rw [z]
      split <;> split <;> first | rfl | omega
    rw [← e1]
    exact hs
  · refine (oct_Writer_Text.long B g v ⟨#[]⟩ s 0 w h (by decide) (by omega) hBw).mono ?_
    rintro e w' ⟨rfl, hs⟩
    refine ⟨rfl, (putS ⟨#[]⟩ 0 ⟨#[]⟩ 2).1, ?_⟩
    rw [if_neg (by omega)]
    exact hs
set_option maxHeartbeats 2000000 in
set_option maxRecDepth 100000 in
theorem mosaiclaw02_OctLong.calls (a0 : Int) (a1 : Int) (r : Bool) (w : World) (h : mosaiclaw02_OctLong.f a0 a1 = some r) :
    Calls Try.prog 4 #[.int .i64 a0, .int .i64 a1] w fun e w' => e = .returned (.bool r) ∧ Below w.heap.size w w' := by
  unfold mosaiclaw02_OctLong.f at h
  split at h
  rotate_left
  · cases h
  rename_i hb
  obtain ⟨b1, b2, b3, b4⟩ := hb
  cases h
  have m1 : -9 ≤ Int.tmod a0 10 := by have := Int.lt_tmod_of_pos a0 (show (0 : Int) < 10 by omega); omega
  have m2 : Int.tmod a0 10 ≤ 9 := by have := Int.tmod_lt_of_pos a0 (show (0 : Int) < 10 by omega); omega
  go_enter Try.func4, Try.ntmps4
  have n1 : 65530 ≤ 65530 + Int.tmod a0 10 % 10 := by omega
  have n2 : 65530 + Int.tmod a0 10 % 10 ≤ 65539 := by omega
  go_upto_region 3 with (fail)
  generalize 65530 + Int.tmod a0 10 % 10 = N at *
  have q0 : 0 ≤ (wrap64 (Int.tmod a1 N + N)).tmod N ∧ (wrap64 (Int.tmod a1 N + N)).tmod N < N := by
    have e1 := Int.lt_tmod_of_pos a1 (show (0 : Int) < N by omega)
    have e2 := Int.tmod_lt_of_pos a1 (show (0 : Int) < N by omega)
    have e3 : wrap64 (Int.tmod a1 N + N) = Int.tmod a1 N + N := (by unfold wrap64; omega)
    rw [e3]
    exact ⟨Int.tmod_nonneg _ (by omega), Int.tmod_lt_of_pos _ (by omega)⟩
  obtain ⟨q1, q2⟩ := q0
  generalize (wrap64 (Int.tmod a1 N + N)).tmod N = p at *
  generalize hy : List.replicate (N : Int).toNat (0 : Int) = y
  have Ny := Aside0.mk hy
  clear hy
  have HB := Aside0.mk (Below.refl w.heap.size w)
  have N0 : 0 ≤ N := by omega
  have N1 : N.toNat ≤ 281474976710656 := by omega
  go_wp2_with (first | ((with_reducible refine gate_dst (N := 25) rfl ?_); refine Kd.R_make (Kd.int .u8) _ 5 rfl (N := 25) rfl 27 _ _ rfl N rfl rfl Try.underlying27 (.int .u8 0) 1 info5 rfl (by decide) (by omega) 0 (ok := fun _ => True) (okp := fun _ => True) rfl (fun _ hk => hk) trivial N0 (Nat.le_trans (Nat.mul_le_mul_right _ N1) (by omega)) (Below.refl _ _) (Nat.le_refl _) ?_; intro v105 w7 ho8 hb hg_ hnew_; clear hg_ hnew_; rw [Ny.out] at ho8; have n0_ := Aside0.mk ho8; have n1_ := Aside0.mk hb; clear HB; have HO106 := n0_; have HB := n1_; clear n0_ n1_; clear hb ho8; have hcv9 := own_string (P := Try.prog) Try.underlying27 Try.underlying5 Try.underlying9 (Kd.own_of_R HO106.out)))
  have HS0 : (strOfNums y).size = N.toNat := by rw [← Ny.out, strOfNums, ByteArray.size]; simp
  clear Ny
  generalize strOfNums y = s at *
  obtain rfl : N = (s.size : Int) := by omega
  clear HS0 N0 N1
  have s1 : 65530 ≤ s.size := by omega
  have s2 : s.size ≤ 65539 := by omega
  clear n1 n2
  refine (oct_To.wr w7).mono ?_
  rintro e w8 ⟨rfl, hi8, hb8, hz8⟩
  have HA8 := Aside0.mk hi8
  have HB8 := Aside0.mk (below_step HB.out hb8)
  have HG1 : Aside0 (w.heap.size ≤ w7.heap.size) := ⟨HB.out.size⟩
  have HZ8 := Aside0.mk hz8
  clear hi8 hb8 hz8 HB HO106
  generalize w7.heap.size = g at *
  go_wp2_with fail
  refine (oct_To.wr w8).mono ?_
  rintro e w9 ⟨rfl, hi9, hb9, hz9⟩
  have HA9 := Aside0.mk (HA8.out.below hb9)
  have HB9 := Aside0.mk (below_step HB8.out hb9)
  have HI9 := Aside0.mk hi9
  have HG2 : Aside0 (w8.heap.size = g + 1) := ⟨HZ8.out⟩
  have HZ9 := Aside0.mk hz9
  clear hi9 hb9 hz9 HB8 HA8 HZ8
  rw [HG2.out] at HZ9
  rw [HG2.out] at HI9
  rw [HG2.out]
  clear HG2
  go_wp2_with fail
  refine (mosaiclaw02_awake.calls true _ rfl).mono ?_
  rintro e w10 ⟨rfl, hb10⟩
  have HA10 := Aside0.mk (HA9.out.below hb10)
  have HI10 := Aside0.mk (HI9.out.below hb10)
  have HB10 := Aside0.mk (below_step HB9.out hb10)
  have HZ10 : Aside0 (g + 2 ≤ w10.heap.size) := ⟨by have := hb10.size; have := HZ9.out; omega⟩
  clear hb10 HA9 HI9 HB9 HZ9
  go_wp2_with fail
  refine (mosaiclaw02_OctLong.text _ _ _ s w10 HA10.out s1 (by have := HZ10.out; omega)).mono ?_
  rintro e w11 ⟨rfl, s', v11, hi11, hb11, hk11⟩
  have HA11 := Aside0.mk hi11
  have HI11 := Aside0.mk (HI10.out.kept hk11 (by rintro k (rfl | hk) (hk' | hk') <;> first | omega | (simp [Value.ownBlock] at hk hk'; done) | (simp [Value.ownBlock] at hk) | (simp [Value.ownBlock] at hk')))
  have HB11 := Aside0.mk (HB10.out.trans (hb11.mono HG1.out))
  have HZ11 : Aside0 (g + 2 ≤ w11.heap.size) := ⟨by have := hb11.size; have := HZ10.out; omega⟩
  clear hi11 hb11 hk11 HA10 HI10 HB10 HZ10
  go_wp2_with fail
  have HN11 : Aside0 (v11.ownBlock ≠ some (g + 1)) := ⟨Go.Lib.ownBlock_neF HA11.out.choose_spec.2.2.2.1 HI11.out.choose_spec.2.2.1 (by decide)⟩
  generalize hE : (if s.size ≤ 65534 then (0 : Int) else 2) = E at *
  have HE := Aside0.mk hE
  clear hE
  have HY := Aside0.mk (oct_Writer_Bytes.wr g g v11 s' E w11 HA11.out (by have := HZ11.out; omega))
  generalize hX : (if E = 0 then s' else (⟨#[]⟩ : ByteArray)) = X at *
  have HX := Aside0.mk hX
  clear hX
  refine HY.out.mono ?_
  clear HY
  rintro e w12 ⟨rfl, v12, hi12, hb12, hk12⟩
  have HI12 := Aside0.mk (HI11.out.kept hk12 (by
    have hn := HN11.out
    rintro k (rfl | hk) (hk' | hk')
    · omega
    · exact hn hk'
    · simp [Value.ownBlock] at hk
    · simp [Value.ownBlock] at hk))
  have HB12 := Aside0.mk (HB11.out.trans (hb12.mono HG1.out))
  have HZ12 : Aside0 (g + 2 ≤ w12.heap.size) := ⟨by have := hb12.size; have := HZ11.out; omega⟩
  clear hi12 hb12 hk12 HA11 HI11 HB11 HZ11 HN11
  go_wp2_with fail
  have z1 : (s.extract 0 p.toNat).size = p.toNat := by rw [ByteArray.size_extract]; omega
  generalize ht1 : s.extract 0 p.toNat = t1 at *
  have HT1 := Aside0.mk z1
  clear z1 ht1
  have HY := Aside0.mk (oct_Writer_Raw.wr (g + 1) (g + 1) (.slice none 0 0) ⟨#[]⟩ t1 0 w12 HI12.out (by decide) (by have := HT1.out; omega) (by have := HZ12.out; omega))
  generalize hS1 : (putS ⟨#[]⟩ 0 t1 0).1 = S1 at *
  generalize hE1 : (putS ⟨#[]⟩ 0 t1 0).2 = E1 at *
  have h1 : S1.size ≤ 65536 ∧ (p ≤ 65536 → S1.size = p.toNat ∧ E1 = 0) ∧ (65536 < p → E1 = 2) := by
    rw [← hS1, ← hE1]
    have z := HT1.out
    have z0 : (⟨#[]⟩ : ByteArray).size = 0 := rfl
    unfold putS
    rw [if_pos rfl, if_pos rfl, z0]
    split
    · rw [z0]; refine ⟨by decide, fun _ => by omega, fun _ => rfl⟩
    · rw [ByteArray.size_append, z0]; refine ⟨by omega, fun _ => ⟨by omega, rfl⟩, fun _ => by omega⟩
  have H1 := Aside0.mk h1
  clear h1 hS1 hE1
  refine HY.out.mono ?_
  clear HY
  rintro e w13 ⟨rfl, v13, hi13, hb13, -⟩
  have HI13 := Aside0.mk hi13
  have HB13 := Aside0.mk (HB12.out.trans (hb13.mono (by have := HG1.out; omega)))
  have HZ13 : Aside0 (g + 2 ≤ w13.heap.size) := ⟨by have := hb13.size; have := HZ12.out; omega⟩
  clear hi13 hb13 HI12 HB12 HZ12
  go_wp2_with fail
  have z1 : (s.extract p.toNat s.size).size = s.size - p.toNat := by rw [ByteArray.size_extract]; omega
  generalize ht1 : s.extract p.toNat s.size = t2 at *
  have HT2 := Aside0.mk z1
  clear z1 ht1
  have HY := Aside0.mk (oct_Writer_Raw.wr (g + 1) (g + 1) v13 S1 t2 E1 w13 HI13.out H1.out.1 (by have := HT2.out; omega) (by have := HZ13.out; omega))
  generalize hS2 : (putS S1 E1 t2 0).1 = S2 at *
  generalize hE2 : (putS S1 E1 t2 0).2 = E2 at *
  have h2 : E2 = (if s.size ≤ 65536 then 0 else 2) := by
    rw [← hE2]
    have z := HT2.out
    obtain ⟨y1, y2, y3⟩ := H1.out
    unfold putS
    by_cases hp : p ≤ 65536
    · obtain ⟨y4, y5⟩ := y2 hp
      rw [if_pos y5, if_pos rfl]
      split <;> split <;> first | rfl | omega
    · have y4 := y3 (by omega)
      rw [if_neg (by omega), if_neg (by omega)]
      exact y4
  have H2 := Aside0.mk h2
  clear h2 hS2 hE2 H1
  refine HY.out.mono ?_
  clear HY
  rintro e w14 ⟨rfl, v14, hi14, hb14, -⟩
  have HB14 := Aside0.mk (HB13.out.trans (hb14.mono (by have := HG1.out; omega)))
  have HZ14 : Aside0 (g + 2 ≤ w14.heap.size) := ⟨by have := hb14.size; have := HZ13.out; omega⟩
  have HY := Aside0.mk (oct_Writer_Bytes.wr (g + 1) (g + 1) v14 S2 E2 w14 hi14 (by have := HZ14.out; omega))
  clear hi14 hb14 HI13 HB13 HZ13
  generalize hY : (if E2 = 0 then S2 else (⟨#[]⟩ : ByteArray)) = Y at *
  have HYY := Aside0.mk hY
  clear hY
  go_wp2_with fail
  refine HY.out.mono ?_
  clear HY
  rintro e w15 ⟨rfl, v15, hi15, hb15, -⟩
  have HB15 := Aside0.mk (HB14.out.trans (hb15.mono (by have := HG1.out; omega)))
  clear hi15 hb15 HB14 HZ14
  have f1 := HE.out
  have f2 := H2.out
  have f3 := HX.out
  have f4 := HYY.out
  clear HE H2 HX HYY HT1 HT2 HG1 hcv9
  by_cases c1 : s.size ≤ 65534
  · rw [if_pos c1] at f1
    rw [if_pos (by omega)] at f2
    subst f1 f2
    clear f3 f4
    have c2 : (s.size : Int) + 2 ≤ 65536 := by omega
    have c3 : (s.size : Int) ≤ 65536 := by omega
    go_wp2_with fail
    go_ret
    exact ⟨by first | (simp; done) | (simp [c2, c3]; done), HB15.out⟩
  · rw [if_neg c1] at f1
    subst f1
    rw [if_neg (by decide)] at f3
    subst f3
    have c2 : ¬ (s.size : Int) + 2 ≤ 65536 := by omega
    by_cases c4 : s.size ≤ 65536
    · rw [if_pos c4] at f2
      subst f2
      clear f4
      have c3 : (s.size : Int) ≤ 65536 := by omega
      go_wp2_with fail
      go_ret
      exact ⟨by first | (simp; done) | (simp [c2, c3]; done), HB15.out⟩
    · rw [if_neg c4] at f2
      subst f2
      rw [if_neg (by decide)] at f4
      subst f4
      have c3 : ¬ (s.size : Int) ≤ 65536 := by omega
      go_wp2_with fail
      go_ret
      exact ⟨by first | (simp; done) | (simp [c2, c3]; done), HB15.out⟩


/-- THE ONE PURE STATEMENT of mosaiclaw02_OctLong: yours. -/
def mosaiclaw02_OctLong.Pure : Prop := ∀ (a0 : Int) (a1 : Int), (Lit.int .i64 a0).wf = true → (Lit.int .i64 a1).wf = true → mosaiclaw02_OctLong.f a0 a1 = some true
theorem mosaiclaw02_OctLong.walk (P : mosaiclaw02_OctLong.Pure) (a0 : Int) (a1 : Int) (w : World) (w0 : (Lit.int .i64 a0).wf = true) (w1 : (Lit.int .i64 a1).wf = true) :
    Calls Try.prog 4 #[.int .i64 a0, .int .i64 a1] w fun e w' => e = .returned (.bool true) ∧ Below w.heap.size w w' := by
  have h := P a0 a1 w0 w1
  refine (mosaiclaw02_OctLong.calls a0 a1 true w h).mono ?_
  rintro e w' ⟨rfl, hd⟩
  exact ⟨rfl, hd⟩
end Go.Proofs.Ytmebebpnogemdaa.POctLong
