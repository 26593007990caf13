-- Written by this session's own program (wip/tools/mkprint.py) over the kit's printer, with overrides.
import Derived.Test.YtghhmnjkgnoogaaGreatTOuterWholesa
import Derived.Test.YtghhmnjkgnoogaaGreatQOuterWholesx0
import Derived.Test.YtghhmnjkgnoogaaGreatQOuterWholesx3
namespace Go.Proofs.YtghhmnjkgnoogaaGreat.POuterWholes
open Go.RowKit Go.Mine Go.Proofs.YtghhmnjkgnoogaaGreatW.PrintWords Go.Proofs.YtghhmnjkgnoogaaGreatW.PrintLast Go.Proofs.YtghhmnjkgnoogaaGreatW.PrintMore
attribute [local go_sem] max2_int min2_int max_two min_two max_three min_three max_four min_four   -- for this text's walks alone
set_option linter.unusedVariables false
set_option linter.unusedSimpArgs false
/-! ### sha_schedule: function 134 -/
theorem sha_schedule.word (b : List Int) (hb : b.length = 64) (t : Nat) (ht : t < 16) : sha_word.f b (4 * (t : Int)) = some (wordI b (4 * t)) := by
  have w1 : wrap64 (4 * (t : Int) + 1) = ((4 * t + 1 : Nat) : Int) := by unfold wrap64; omega
  have w2 : wrap64 (4 * (t : Int) + 2) = ((4 * t + 2 : Nat) : Int) := by unfold wrap64; omega
  have w3 : wrap64 (4 * (t : Int) + 3) = ((4 * t + 3 : Nat) : Int) := by unfold wrap64; omega
  have w0 : (4 * (t : Int)) = ((4 * t : Nat) : Int) := by omega
  unfold sha_word.f wordI
  rw [w1, w2, w3, w0, if_pos (by omega), if_pos (by omega), if_pos (by omega), if_pos (by omega), if_pos (by omega), if_pos (by omega), if_pos (by omega), if_pos (by omega)]
  simp only [rd, Int.toNat_natCast]
theorem sha_schedule.rot7 (x : Int) : sha_rotr.f x 7 = some (rotI x 7) := by
  unfold sha_rotr.f bits_RotateLeft32.f rotI
  rw [show Go.bits .and .u64 (IntKind.u64.wrap (wrap64 (-7))) 31 = 25 from by decide +kernel, if_pos (by decide), show IntKind.u64.wrap (32 - 25) = 7 from by decide +kernel, if_pos (by decide)]
  rfl
theorem sha_schedule.rot18 (x : Int) : sha_rotr.f x 18 = some (rotI x 18) := by
  unfold sha_rotr.f bits_RotateLeft32.f rotI
  rw [show Go.bits .and .u64 (IntKind.u64.wrap (wrap64 (-18))) 31 = 14 from by decide +kernel, if_pos (by decide), show IntKind.u64.wrap (32 - 14) = 18 from by decide +kernel, if_pos (by decide)]
  rfl
theorem sha_schedule.rot17 (x : Int) : sha_rotr.f x 17 = some (rotI x 17) := by
  unfold sha_rotr.f bits_RotateLeft32.f rotI
  rw [show Go.bits .and .u64 (IntKind.u64.wrap (wrap64 (-17))) 31 = 15 from by decide +kernel, if_pos (by decide), show IntKind.u64.wrap (32 - 15) = 17 from by decide +kernel, if_pos (by decide)]
  rfl
theorem sha_schedule.rot19 (x : Int) : sha_rotr.f x 19 = some (rotI x 19) := by
  unfold sha_rotr.f bits_RotateLeft32.f rotI
  rw [show Go.bits .and .u64 (IntKind.u64.wrap (wrap64 (-19))) 31 = 13 from by decide +kernel, if_pos (by decide), show IntKind.u64.wrap (32 - 13) = 19 from by decide +kernel, if_pos (by decide)]
  rfl
theorem sha_schedule.rot2 (x : Int) : sha_rotr.f x 2 = some (rotI x 2) := by
  unfold sha_rotr.f bits_RotateLeft32.f rotI
  rw [show Go.bits .and .u64 (IntKind.u64.wrap (wrap64 (-2))) 31 = 30 from by decide +kernel, if_pos (by decide), show IntKind.u64.wrap (32 - 30) = 2 from by decide +kernel, if_pos (by decide)]
  rfl
theorem sha_schedule.rot6 (x : Int) : sha_rotr.f x 6 = some (rotI x 6) := by
  unfold sha_rotr.f bits_RotateLeft32.f rotI
  rw [show Go.bits .and .u64 (IntKind.u64.wrap (wrap64 (-6))) 31 = 26 from by decide +kernel, if_pos (by decide), show IntKind.u64.wrap (32 - 26) = 6 from by decide +kernel, if_pos (by decide)]
  rfl
theorem sha_schedule.rot11 (x : Int) : sha_rotr.f x 11 = some (rotI x 11) := by
  unfold sha_rotr.f bits_RotateLeft32.f rotI
  rw [show Go.bits .and .u64 (IntKind.u64.wrap (wrap64 (-11))) 31 = 21 from by decide +kernel, if_pos (by decide), show IntKind.u64.wrap (32 - 21) = 11 from by decide +kernel, if_pos (by decide)]
  rfl
theorem sha_schedule.rot13 (x : Int) : sha_rotr.f x 13 = some (rotI x 13) := by
  unfold sha_rotr.f bits_RotateLeft32.f rotI
  rw [show Go.bits .and .u64 (IntKind.u64.wrap (wrap64 (-13))) 31 = 19 from by decide +kernel, if_pos (by decide), show IntKind.u64.wrap (32 - 19) = 13 from by decide +kernel, if_pos (by decide)]
  rfl
theorem sha_schedule.rot22 (x : Int) : sha_rotr.f x 22 = some (rotI x 22) := by
  unfold sha_rotr.f bits_RotateLeft32.f rotI
  rw [show Go.bits .and .u64 (IntKind.u64.wrap (wrap64 (-22))) 31 = 10 from by decide +kernel, if_pos (by decide), show IntKind.u64.wrap (32 - 10) = 22 from by decide +kernel, if_pos (by decide)]
  rfl
theorem sha_schedule.rot25 (x : Int) : sha_rotr.f x 25 = some (rotI x 25) := by
  unfold sha_rotr.f bits_RotateLeft32.f rotI
  rw [show Go.bits .and .u64 (IntKind.u64.wrap (wrap64 (-25))) 31 = 7 from by decide +kernel, if_pos (by decide), show IntKind.u64.wrap (32 - 7) = 25 from by decide +kernel, if_pos (by decide)]
  rfl
theorem sha_schedule.rot (x n : Int) (hn : n = 2 ∨ n = 6 ∨ n = 7 ∨ n = 11 ∨ n = 13 ∨ n = 17 ∨ n = 18 ∨ n = 19 ∨ n = 22 ∨ n = 25) (w : World) : Calls Tryz.prog 136 #[.int .u32 x, .int .i64 n] w fun e w' => e = .returned (.int .u32 (rotI x n)) ∧ Drawn0 w w' := by
  rcases hn with rfl | rfl | rfl | rfl | rfl | rfl | rfl | rfl | rfl | rfl
  · exact sha_rotr.calls _ 2 _ _ (sha_schedule.rot2 _)
  · exact sha_rotr.calls _ 6 _ _ (sha_schedule.rot6 _)
  · exact sha_rotr.calls _ 7 _ _ (sha_schedule.rot7 _)
  · exact sha_rotr.calls _ 11 _ _ (sha_schedule.rot11 _)
  · exact sha_rotr.calls _ 13 _ _ (sha_schedule.rot13 _)
  · exact sha_rotr.calls _ 17 _ _ (sha_schedule.rot17 _)
  · exact sha_rotr.calls _ 18 _ _ (sha_schedule.rot18 _)
  · exact sha_rotr.calls _ 19 _ _ (sha_schedule.rot19 _)
  · exact sha_rotr.calls _ 22 _ _ (sha_schedule.rot22 _)
  · exact sha_rotr.calls _ 25 _ _ (sha_schedule.rot25 _)
theorem sha_schedule.put (b : List Int) (t : Nat) (ht : t < 64) (v : Int) : (schW b t ++ List.replicate (64 - t) 0).set t v = (schW b t ++ [v]) ++ List.replicate (64 - (t + 1)) 0 := by
  have e : 64 - t = (64 - (t + 1)) + 1 := by omega
  rw [List.set_append_right _ _ (by rw [schW_length]; omega), schW_length, Nat.sub_self, e, List.replicate_succ, List.set_cons_zero, List.append_assoc, List.singleton_append]
theorem sha_schedule.get (b : List Int) (t j : Nat) (hj : j < t) : (schW b t ++ List.replicate (64 - t) 0).getD j 0 = (schW b t).getD j 0 := by
  rw [List.getD_eq_getElem?_getD, List.getD_eq_getElem?_getD, List.getElem?_append_left (by rw [schW_length]; exact hj)]
set_option maxRecDepth 100000 in
set_option maxHeartbeats 2000000 in
theorem sha_schedule.gives (A0 : Option Addr) (c0 : Nat) (b : List Int) (hb : b.length = 64) (w : World) (hr0 : Kd.C (Kd.int .u8) w A0 b.length b) (hc0 : b.length ≤ c0) :
    Calls Tryz.prog 134 #[.slice A0 b.length c0] w fun e w' => e = .returned (.agg ((schW b 64).map (Value.int .u32)).toArray) ∧ Below w.heap.size w w' := by
  have HB := Aside0.mk (Below.refl w.heap.size w)
  have HR0 := Aside0.mk hr0
  have HLEN := Aside0.mk hb
  have HC0 := Aside0.mk hc0
  clear hr0 hb hc0
  go_enter Tryz.func134, Tryz.ntmps134
  go_upto_region 2 with (first | ((with_reducible refine gate_dst (N := 2) rfl ?_); refine box_event ?hg (N := 2) ?hd (cs := ((List.replicate 64 (0 : Int)).map (Value.int .u32)).toArray) (t := 171) ?hr ?_; (case hd => rfl); (case hg => rfl); (case hr => kernel_rfl); intro g2 hg w1 hbox hb; have BK2 : Aside0 (WordRow 171 w1 g2 (List.replicate 64 0)) := ⟨hbox⟩; have HB1 := Aside0.mk (below_step HB.out hb); have HG2 : Aside0 (w.heap.size ≤ g2) := ⟨by rw [hg]; exact Nat.le_refl _⟩; clear HB hbox hb hg) | ((with_reducible refine gate_dst (N := 3) rfl ?_); refine box_event ?hg (N := 3) ?hd (cs := ((List.replicate 64 (0 : Int)).map (Value.int .u32)).toArray) (t := 171) ?hr ?_; (case hd => rfl); (case hg => rfl); (case hr => kernel_rfl); intro g3 hg w2 hbox hb; have BK3 : Aside0 (WordRow 171 w2 g3 (List.replicate 64 0)) := ⟨hbox⟩; have BK4 := Aside0.mk (BK2.out.below hb); have NE : Aside0 (g2 < g3) := ⟨by rw [hg]; exact BK2.out.lt⟩; have HB2 := Aside0.mk (below_step HB1.out hb); clear BK2 HB1 hbox hb hg))
  go_wp2_with fail
  go_loopw [9] (fun v9 wr => ∃ t : Nat, t ≤ 64 ∧ v9 = .int .i64 t ∧ Aside0 (WordRow 171 wr g3 (schW b t ++ List.replicate (64 - t) 0)) ∧ Aside0 (WordRow 171 wr g2 (List.replicate 64 0)) ∧ Aside0 (Below w.heap.size w wr)) (fun v9 _ => 64 - (intOf v9).toNat)
  case atStart => exact ⟨0, Nat.zero_le _, rfl, BK3, BK4, HB2⟩
  case round =>
    obtain ⟨t, ht, rfl, BT, BR, HBT⟩ := hrel
    clear BK3 BK4 HB2
    have hlen : (schW b t ++ List.replicate (64 - t) 0).length = 64 := by rw [List.length_append, schW_length, List.length_replicate]; omega
    have HL := Aside0.mk hlen
    clear hlen
    by_cases hlt : t < 16
    · have hltz : (t : Int) < 64 := by omega
      have hltz2 : (t : Int) < 16 := by omega
      have HWD := Aside0.mk (sha_schedule.word b HLEN.out t hlt)
      have hrr := Aside0.mk (Kd.C_below HR0.out HBT.out)
      have hcell := BT.out.cell t (by have := HL.out; omega)
      generalize (schW b t ++ List.replicate (64 - t) 0).getD t 0 = y at hcell
      have hfr := BT.out.frozen t
      go_wp2_with (go_at_call 137; refine (sha_word.calls A0 c0 b _ _ _ hrr.out HC0.out HWD.out).mono ?_; rintro e w' ⟨rfl, ⟨q, rfl⟩⟩)
      go_roundw
      case measure => simp [intOf]; omega
      case rel =>
        have h1 := (BT.out.drewN q).set t (wordI b (4 * t))
        rw [sha_schedule.put b t (by omega)] at h1
        have e1 : schW b (t + 1) = schW b t ++ [wordI b (4 * t)] := by rw [schW, if_pos hlt]
        rw [← e1] at h1
        exact ⟨t + 1, by omega, by go_num, ⟨h1⟩, ⟨(BR.out.drewN q).far (p := ⟨g3, t, none⟩) (Nat.ne_of_lt NE.out) _⟩, ⟨below_set (pw_below_drewN HBT.out q) (Nat.le_trans HG2.out (Nat.le_of_lt NE.out))⟩⟩
    · by_cases hlt2 : t < 64
      · obtain ⟨m, rfl⟩ : ∃ m, t = m + 16 := ⟨t - 16, by omega⟩
        have hltz : ((m + 16 : Nat) : Int) < 64 := by omega
        have hltz2 : ¬ ((m + 16 : Nat) : Int) < 16 := by omega
        have c1 := BT.out.cell (m + 1) (by have := HL.out; omega)
        have c14 := BT.out.cell (m + 14) (by have := HL.out; omega)
        have c9 := BT.out.cell (m + 9) (by have := HL.out; omega)
        have c0' := BT.out.cell m (by have := HL.out; omega)
        have c16 := BT.out.cell (m + 16) (by have := HL.out; omega)
        rw [sha_schedule.get b _ _ (by omega)] at c1 c14 c9 c0'
        have hfr := BT.out.frozen (m + 16)
        generalize hx15 : (schW b (m + 16)).getD (m + 1) 0 = x15 at *
        generalize hx2 : (schW b (m + 16)).getD (m + 14) 0 = x2 at *
        generalize hx7 : (schW b (m + 16)).getD (m + 9) 0 = x7 at *
        generalize hx16 : (schW b (m + 16)).getD m 0 = x16 at *
        generalize (schW b (m + 16) ++ List.replicate (64 - (m + 16)) 0).getD (m + 16) 0 = y at c16
        have X15 := Aside0.mk hx15
        have X2 := Aside0.mk hx2
        have X7 := Aside0.mk hx7
        have X16 := Aside0.mk hx16
        clear hx15 hx2 hx7 hx16 hlt hlt2
        have HM : Aside0 (m + 16 < 64) := ⟨by omega⟩
        have e15 : IntKind.i64.wrap (((m + 16 : Nat) : Int) - 15) = ((m + 1 : Nat) : Int) := (by rw [i64_w]; unfold wrap64; omega)
        have e2 : IntKind.i64.wrap (((m + 16 : Nat) : Int) - 2) = ((m + 14 : Nat) : Int) := (by rw [i64_w]; unfold wrap64; omega)
        have b1 : ((m + 1 : Nat) : Int) < 64 := by omega
        have b2 : ((m + 14 : Nat) : Int) < 64 := by omega
        have b3 : ((m + 9 : Nat) : Int) < 64 := by omega
        have b4 : ((m : Nat) : Int) < 64 := by omega
        have e7 : IntKind.i64.wrap (((m + 16 : Nat) : Int) - 7) = ((m + 9 : Nat) : Int) := (by rw [i64_w]; unfold wrap64; omega)
        have e16 : IntKind.i64.wrap (((m + 16 : Nat) : Int) - 16) = ((m : Nat) : Int) := (by rw [i64_w]; unfold wrap64; omega)
        go_wp2_with fail
        go_quiet (fail)
        go_wp2_with (go_at_call 136; refine (sha_schedule.rot _ _ (by decide) _).mono ?_; rintro e w' ⟨rfl, ⟨q, rfl⟩⟩)
        go_region
        all_goals
          go_wp2
          go_roundw
          case measure => simp [intOf]; omega
          case rel =>
            have h1 := BT.out.set (m + 16) ((sig1 x2 + x7 + sig0 x15 + x16) % 4294967296)
            rw [sha_schedule.put b (m + 16) HM.out] at h1
            have e1 : schW b (m + 16 + 1) = schW b (m + 16) ++ [(sig1 x2 + x7 + sig0 x15 + x16) % 4294967296] := by
              rw [schW, if_neg (by omega), show m + 16 - 2 = m + 14 from by omega, show m + 16 - 7 = m + 9 from by omega, show m + 16 - 15 = m + 1 from by omega, show m + 16 - 16 = m from by omega, X15.out, X2.out, X7.out, X16.out]
            rw [← e1] at h1
            exact ⟨m + 16 + 1, by have := HM.out; omega, by go_num, ⟨h1⟩, ⟨BR.out.far (p := ⟨g3, m + 16, none⟩) (Nat.ne_of_lt NE.out) _⟩, ⟨below_set (pw_below_drewN HBT.out _) (Nat.le_trans HG2.out (Nat.le_of_lt NE.out))⟩⟩
      · have : t = 64 := by omega
        subst this
        have BT2 : Aside0 (WordRow 171 wr g3 (schW b 64)) := ⟨by have h1 := BT.out; rw [show 64 - 64 = 0 from rfl, List.replicate_zero, List.append_nil] at h1; exact h1⟩
        clear BT HL
        go_wp2_with (first | ((with_reducible refine gate_dst (N := 60) rfl ?_); refine WordRow.load rfl 171 (.tmp 3) rfl g3 (schW b 64) rfl BT2.out _ Tryz.underlying171 rfl ?hi ?_; (case hi => rw [schW_length]; kernel_rfl)) | ((with_reducible refine gate_store (t := 171) (p := 2) (v := .tmp 60) rfl ?_); refine WordRow.store (B := w.heap.size) (w0 := w) rfl 171 (.tmp 2) (.tmp 60) rfl g2 (schW b 64) _ ?hx ?hy BR.out ?hl ?hi HBT.out HG2.out ?_; (case hx => rfl); (case hy => rfl); (case hl => rw [schW_length, List.length_replicate]); (case hi => rw [schW_length]; kernel_rfl); intro w5 hrow hfar hsz hb2; have BK5 := Aside0.mk hrow; have HB5 := Aside0.mk hb2; clear hrow hfar hsz hb2 BR BT2 HBT))
        refine bodyPost_ret (results_cell_row rfl _ _ g2 171 ((schW b 64).map (Value.int .u32)).toArray (0, 0) _ rfl BK5.out Tryz.underlying171 rfl ?_) rfl ⟨rfl, HB5.out⟩
        simp only [List.size_toArray, List.length_map, schW_length]
        kernel_rfl
/-! ### sha_constants: function 135 -/
set_option maxRecDepth 100000 in
set_option maxHeartbeats 2000000 in
theorem sha_constants.gives (w : World) : Calls Tryz.prog 135 #[] w fun e w' => e = .returned (.agg (shaK.map (Value.int .u32)).toArray) ∧ Below w.heap.size w w' := by
  have HB := Aside0.mk (Below.refl w.heap.size w)
  go_enter Tryz.func135, Tryz.ntmps135
  go_wp2_with (first | ((with_reducible refine gate_dst (N := 0) rfl ?_); refine box_event ?hg (N := 0) ?hd (cs := ((List.replicate 64 (0 : Int)).map (Value.int .u32)).toArray) (t := 171) ?hr ?_; (case hd => rfl); (case hg => rfl); (case hr => kernel_rfl); intro g0 hg w1 hbox hb; have BK0 : Aside0 (WordRow 171 w1 g0 (List.replicate 64 0)) := ⟨hbox⟩; have HB1 := Aside0.mk (below_step HB.out hb); have HG0 : Aside0 (w.heap.size ≤ g0) := ⟨by rw [hg]; exact Nat.le_refl _⟩; clear HB hbox hb hg) | ((with_reducible refine gate_store (t := 171) (p := 0) (v := .tmp 1) rfl ?_); refine WordRow.store (B := w.heap.size) (w0 := w) rfl 171 (.tmp 0) (.tmp 1) rfl g0 shaK _ ?hx ?hy BK0.out ?hl ?hi HB1.out HG0.out ?_; (case hx => rfl); (case hy => rfl); (case hl => rfl); (case hi => kernel_rfl); intro w2 hrow hfar hsz hb2; have BK2 := Aside0.mk hrow; have HB2 := Aside0.mk hb2; clear hrow hfar hsz hb2 BK0 HB1))
  refine bodyPost_ret (results_cell_row rfl _ _ g0 171 (shaK.map (Value.int .u32)).toArray (0, 0) _ rfl BK2.out Tryz.underlying171 rfl (by kernel_rfl)) rfl ⟨rfl, HB2.out⟩
/-! ### sha_mix: function 132 -/
set_option maxRecDepth 100000 in
set_option maxHeartbeats 4000000 in
theorem sha_mix.gives (s0 s1 s2 s3 s4 s5 s6 s7 : Int) (A0 : Option Addr) (c0 : Nat) (b : List Int) (hb : b.length = 64) (w : World) (hr0 : Kd.C (Kd.int .u8) w A0 b.length b) (hc0 : b.length ≤ c0) :
    Calls Tryz.prog 132 #[.agg (([s0, s1, s2, s3, s4, s5, s6, s7] : List Int).map (Value.int .u32)).toArray, .slice A0 b.length c0] w fun e w' => e = .returned (.agg ((mixW [s0, s1, s2, s3, s4, s5, s6, s7] b).map (Value.int .u32)).toArray) ∧ Below w.heap.size w w' := by
  have HB := Aside0.mk (Below.refl w.heap.size w)
  have HR0 := Aside0.mk hr0
  have HLEN := Aside0.mk hb
  have HC0 := Aside0.mk hc0
  clear hr0 hb hc0
  go_enter Tryz.func132, Tryz.ntmps132
  go_upto_region 3 with (first | ((with_reducible refine gate_dst (N := 2) rfl ?_); refine box_event ?hg (N := 2) ?hd (cs := (([s0, s1, s2, s3, s4, s5, s6, s7] : List Int).map (Value.int .u32)).toArray) (t := 166) ?hr ?_; (case hd => rfl); (case hg => rfl); (case hr => first | kernel_rfl | (go_simp; rfl)); intro g2 hg e1 hbox hb; have HGg2 : Aside0 (w.heap.size ≤ g2) := ⟨by rw [hg]; exact HB.out.size⟩; have Fg2 : Aside0 (WordRow 166 e1 g2 [s0, s1, s2, s3, s4, s5, s6, s7]) := ⟨hbox⟩; replace HB := Aside0.mk (below_step HB.out hb); clear hbox hb hg) | ((with_reducible refine gate_dst (N := 4) rfl ?_); refine box_event ?hg (N := 4) ?hd (cs := (((List.replicate 8 0) : List Int).map (Value.int .u32)).toArray) (t := 166) ?hr ?_; (case hd => rfl); (case hg => rfl); (case hr => first | kernel_rfl | (go_simp; rfl)); intro g4 hg e2 hbox hb; have HGg4 : Aside0 (w.heap.size ≤ g4) := ⟨by rw [hg]; exact HB.out.size⟩; have LT_g2_g4 : Aside0 (g2 < g4) := ⟨by rw [hg]; exact Fg2.out.lt⟩; replace Fg2 := Aside0.mk (Fg2.out.below hb); have Fg4 : Aside0 (WordRow 166 e2 g4 (List.replicate 8 0)) := ⟨hbox⟩; replace HB := Aside0.mk (below_step HB.out hb); clear hbox hb hg) | (go_at_call 134; refine (sha_schedule.gives A0 c0 b HLEN.out _ (Kd.C_below HR0.out HB.out) HC0.out).mono ?_; rintro e e3 ⟨rfl, hb⟩; replace Fg2 := Aside0.mk (Fg2.out.below hb); replace Fg4 := Aside0.mk (Fg4.out.below hb); replace HB := Aside0.mk (below_step HB.out hb); clear hb) | (go_at_call 135; refine (sha_constants.gives _).mono ?_; rintro e e4 ⟨rfl, hb⟩; replace Fg2 := Aside0.mk (Fg2.out.below hb); replace Fg4 := Aside0.mk (Fg4.out.below hb); replace HB := Aside0.mk (below_step HB.out hb); clear hb) | ((with_reducible refine gate_dst (N := 5) rfl ?_); refine box_event ?hg (N := 5) ?hd (cs := (((List.replicate 64 0) : List Int).map (Value.int .u32)).toArray) (t := 171) ?hr ?_; (case hd => rfl); (case hg => rfl); (case hr => first | kernel_rfl | (go_simp; rfl)); intro g5 hg e5 hbox hb; have HGg5 : Aside0 (w.heap.size ≤ g5) := ⟨by rw [hg]; exact HB.out.size⟩; have LT_g2_g5 : Aside0 (g2 < g5) := ⟨by rw [hg]; exact Fg2.out.lt⟩; have LT_g4_g5 : Aside0 (g4 < g5) := ⟨by rw [hg]; exact Fg4.out.lt⟩; replace Fg2 := Aside0.mk (Fg2.out.below hb); replace Fg4 := Aside0.mk (Fg4.out.below hb); have Fg5 : Aside0 (WordRow 171 e5 g5 (List.replicate 64 0)) := ⟨hbox⟩; replace HB := Aside0.mk (below_step HB.out hb); clear hbox hb hg) | ((with_reducible refine gate_dst (N := 6) rfl ?_); refine box_event ?hg (N := 6) ?hd (cs := (((List.replicate 64 0) : List Int).map (Value.int .u32)).toArray) (t := 171) ?hr ?_; (case hd => rfl); (case hg => rfl); (case hr => first | kernel_rfl | (go_simp; rfl)); intro g6 hg e6 hbox hb; have HGg6 : Aside0 (w.heap.size ≤ g6) := ⟨by rw [hg]; exact HB.out.size⟩; have LT_g2_g6 : Aside0 (g2 < g6) := ⟨by rw [hg]; exact Fg2.out.lt⟩; have LT_g4_g6 : Aside0 (g4 < g6) := ⟨by rw [hg]; exact Fg4.out.lt⟩; have LT_g5_g6 : Aside0 (g5 < g6) := ⟨by rw [hg]; exact Fg5.out.lt⟩; replace Fg2 := Aside0.mk (Fg2.out.below hb); replace Fg4 := Aside0.mk (Fg4.out.below hb); replace Fg5 := Aside0.mk (Fg5.out.below hb); have Fg6 : Aside0 (WordRow 171 e6 g6 (List.replicate 64 0)) := ⟨hbox⟩; replace HB := Aside0.mk (below_step HB.out hb); clear hbox hb hg) | ((with_reducible refine gate_store (t := 171) (p := 5) (v := .tmp 17) rfl ?_); refine WordRow.store (B := w.heap.size) (w0 := w) rfl 171 (.tmp 5) (.tmp 17) rfl g5 (schW b 64) _ ?hx ?hy Fg5.out ?hl ?hi HB.out HGg5.out ?_; (case hx => rfl); (case hy => rfl); (case hl => rw [schW_length, List.length_replicate]); (case hi => rw [schW_length]; kernel_rfl); intro e7 hrow hfar hsz hb2; replace Fg2 := Aside0.mk (Fg2.out.same (hfar _ (Nat.ne_of_lt LT_g2_g5.out))); replace Fg4 := Aside0.mk (Fg4.out.same (hfar _ (Nat.ne_of_lt LT_g4_g5.out))); replace Fg6 := Aside0.mk (Fg6.out.same (hfar _ (Nat.ne_of_gt LT_g5_g6.out))); replace Fg5 := Aside0.mk hrow; replace HB := Aside0.mk hb2; clear hrow hfar hsz hb2) | ((with_reducible refine gate_store (t := 171) (p := 6) (v := .tmp 18) rfl ?_); refine WordRow.store (B := w.heap.size) (w0 := w) rfl 171 (.tmp 6) (.tmp 18) rfl g6 shaK _ ?hx ?hy Fg6.out ?hl ?hi HB.out HGg6.out ?_; (case hx => rfl); (case hy => rfl); (case hl => rfl); (case hi => kernel_rfl); intro e8 hrow hfar hsz hb2; replace Fg2 := Aside0.mk (Fg2.out.same (hfar _ (Nat.ne_of_lt LT_g2_g6.out))); replace Fg4 := Aside0.mk (Fg4.out.same (hfar _ (Nat.ne_of_lt LT_g4_g6.out))); replace Fg5 := Aside0.mk (Fg5.out.same (hfar _ (Nat.ne_of_lt LT_g5_g6.out))); replace Fg6 := Aside0.mk hrow; replace HB := Aside0.mk hb2; clear hrow hfar hsz hb2) | ((with_reducible refine gate_dst (N := 19) rfl ?_); refine WordRow.load rfl 166 (.tmp 2) rfl g2 [s0, s1, s2, s3, s4, s5, s6, s7] rfl Fg2.out _ Tryz.underlying166 rfl ?hi ?_; (case hi => kernel_rfl)) | ((with_reducible refine gate_dst (N := 7) rfl ?_); refine box_event ?hg (N := 7) ?hd (cs := (((List.replicate 8 0) : List Int).map (Value.int .u32)).toArray) (t := 166) ?hr ?_; (case hd => rfl); (case hg => rfl); (case hr => first | kernel_rfl | (go_simp; rfl)); intro g7 hg e9 hbox hb; have HGg7 : Aside0 (w.heap.size ≤ g7) := ⟨by rw [hg]; exact HB.out.size⟩; have LT_g2_g7 : Aside0 (g2 < g7) := ⟨by rw [hg]; exact Fg2.out.lt⟩; have LT_g4_g7 : Aside0 (g4 < g7) := ⟨by rw [hg]; exact Fg4.out.lt⟩; have LT_g5_g7 : Aside0 (g5 < g7) := ⟨by rw [hg]; exact Fg5.out.lt⟩; have LT_g6_g7 : Aside0 (g6 < g7) := ⟨by rw [hg]; exact Fg6.out.lt⟩; replace Fg2 := Aside0.mk (Fg2.out.below hb); replace Fg4 := Aside0.mk (Fg4.out.below hb); replace Fg5 := Aside0.mk (Fg5.out.below hb); replace Fg6 := Aside0.mk (Fg6.out.below hb); have Fg7 : Aside0 (WordRow 166 e9 g7 (List.replicate 8 0)) := ⟨hbox⟩; replace HB := Aside0.mk (below_step HB.out hb); clear hbox hb hg) | ((with_reducible refine gate_store (t := 166) (p := 7) (v := .tmp 19) rfl ?_); refine WordRow.store (B := w.heap.size) (w0 := w) rfl 166 (.tmp 7) (.tmp 19) rfl g7 [s0, s1, s2, s3, s4, s5, s6, s7] _ ?hx ?hy Fg7.out ?hl ?hi HB.out HGg7.out ?_; (case hx => rfl); (case hy => rfl); (case hl => rfl); (case hi => kernel_rfl); intro e10 hrow hfar hsz hb2; replace Fg2 := Aside0.mk (Fg2.out.same (hfar _ (Nat.ne_of_lt LT_g2_g7.out))); replace Fg4 := Aside0.mk (Fg4.out.same (hfar _ (Nat.ne_of_lt LT_g4_g7.out))); replace Fg5 := Aside0.mk (Fg5.out.same (hfar _ (Nat.ne_of_lt LT_g5_g7.out))); replace Fg6 := Aside0.mk (Fg6.out.same (hfar _ (Nat.ne_of_lt LT_g6_g7.out))); replace Fg7 := Aside0.mk hrow; replace HB := Aside0.mk hb2; clear hrow hfar hsz hb2))
  go_wp2_with fail
  go_loopw [20] (fun v20 wr => ∃ (t : Nat) (a b' c d e f g z : Int), t ≤ 64 ∧ v20 = .int .i64 t ∧ Aside0 (rndsW [s0, s1, s2, s3, s4, s5, s6, s7] b t = [a, b', c, d, e, f, g, z]) ∧ Aside0 (WordRow 166 wr g7 [a, b', c, d, e, f, g, z]) ∧ Aside0 (WordRow 166 wr g2 [s0, s1, s2, s3, s4, s5, s6, s7]) ∧ Aside0 (WordRow 166 wr g4 (List.replicate 8 0)) ∧ Aside0 (WordRow 171 wr g5 (schW b 64)) ∧ Aside0 (WordRow 171 wr g6 shaK) ∧ Aside0 (Below w.heap.size w wr)) (fun v20 _ => 64 - (intOf v20).toNat)
  case atStart => exact ⟨0, s0, s1, s2, s3, s4, s5, s6, s7, Nat.zero_le _, rfl, ⟨rfl⟩, Fg7, Fg2, Fg4, Fg5, Fg6, HB⟩
  case round =>
    obtain ⟨t, a, b', c, d, e, f, g, z, ht, rfl, HS, F7, F2, F4, F5, F6, HBT⟩ := hrel
    clear Fg7 Fg2 Fg4 Fg5 Fg6 HB
    by_cases hlt : t < 64
    · have hltz : (t : Int) < 64 := by omega
      have k0 : wr.cell? ⟨g7, 0, none⟩ = some (.int .u32 a) := F7.out.cell 0 (show _ < 8 by decide)
      have k1 : wr.cell? ⟨g7, 1, none⟩ = some (.int .u32 b') := F7.out.cell 1 (show _ < 8 by decide)
      have k2 : wr.cell? ⟨g7, 2, none⟩ = some (.int .u32 c) := F7.out.cell 2 (show _ < 8 by decide)
      have k3 : wr.cell? ⟨g7, 3, none⟩ = some (.int .u32 d) := F7.out.cell 3 (show _ < 8 by decide)
      have k4 : wr.cell? ⟨g7, 4, none⟩ = some (.int .u32 e) := F7.out.cell 4 (show _ < 8 by decide)
      have k5 : wr.cell? ⟨g7, 5, none⟩ = some (.int .u32 f) := F7.out.cell 5 (show _ < 8 by decide)
      have k6 : wr.cell? ⟨g7, 6, none⟩ = some (.int .u32 g) := F7.out.cell 6 (show _ < 8 by decide)
      have k7 : wr.cell? ⟨g7, 7, none⟩ = some (.int .u32 z) := F7.out.cell 7 (show _ < 8 by decide)
      have kk := F6.out.cell t hlt
      have kx := F5.out.cell t (by rw [schW_length]; exact hlt)
      generalize hK : shaK.getD t 0 = K at kk
      generalize hX : (schW b 64).getD t 0 = X at kx
      have HK := Aside0.mk hK
      have HX := Aside0.mk hX
      clear hK hX
      go_wp2_with fail
      go_quiet (fail)
      go_wp2_with fail
      go_quiet ((go_at_call 136; first | exact quiet_drawn (sha_schedule.rot _ _ (by decide) _) | exact quiet_drawn_add (sha_schedule.rot _ _ (by decide) _)))
      go_wp2_with (first | ((with_reducible refine gate_store (t := 166) (p := 7) (v := .tmp 100) rfl ?_); refine WordRow.store (B := w.heap.size) (w0 := w) rfl 166 (.tmp 7) (.tmp 100) rfl g7 (rndW [a, b', c, d, e, f, g, z] K X) _ ?hx ?hy (F7.out.drewN _) ?hl ?hi (pw_below_drewN HBT.out _) HGg7.out ?_; (case hx => rfl); (case hy => rfl); (case hl => rfl); (case hi => kernel_rfl); intro w5 hrow hfar hsz hb2; have R7 := Aside0.mk hrow; have FAR := Aside0.mk hfar; have HB5 := Aside0.mk hb2; clear hrow hfar hsz hb2) | (go_at_call 136; refine (sha_schedule.rot _ _ (by decide) _).mono ?_; rintro e w' ⟨rfl, ⟨q, rfl⟩⟩))
      go_roundw
      case measure => simp [intOf]; omega
      case rel => exact ⟨t + 1, _, _, _, _, _, _, _, _, by omega, by go_num, ⟨by rw [rndsW, HS.out, HK.out, HX.out]; rfl⟩, R7, ⟨(F2.out.drewN _).same (FAR.out _ (Nat.ne_of_lt LT_g2_g7.out))⟩, ⟨(F4.out.drewN _).same (FAR.out _ (Nat.ne_of_lt LT_g4_g7.out))⟩, ⟨(F5.out.drewN _).same (FAR.out _ (Nat.ne_of_lt LT_g5_g7.out))⟩, ⟨(F6.out.drewN _).same (FAR.out _ (Nat.ne_of_lt LT_g6_g7.out))⟩, HB5⟩
    · have : t = 64 := by omega
      subst this
      have HZ : Aside0 (([a, b', c, d, e, f, g, z] : List Int).length = 8) := ⟨rfl⟩
      have H0 : Aside0 (WordRow 166 wr g7 (mixP [s0, s1, s2, s3, s4, s5, s6, s7] [a, b', c, d, e, f, g, z] 0)) := ⟨by rw [mixP_zero]; exact F7.out⟩
      have HS8 : Aside0 (([s0, s1, s2, s3, s4, s5, s6, s7] : List Int).length = 8) := ⟨rfl⟩
      clear F7 F5 F6
      generalize hZZ : [a, b', c, d, e, f, g, z] = Z at *
      clear hZZ
      generalize hSS : ([s0, s1, s2, s3, s4, s5, s6, s7] : List Int) = S at HS F2 H0 HS8
      have HSS := Aside0.mk hSS
      clear hSS
      go_wp2_with fail
      go_loopw [102] (fun v102 w6 => ∃ t : Nat, t ≤ 8 ∧ v102 = .int .i64 t ∧ Aside0 (WordRow 166 w6 g7 (mixP S Z t)) ∧ Aside0 (WordRow 166 w6 g2 S) ∧ Aside0 (WordRow 166 w6 g4 (List.replicate 8 0)) ∧ Aside0 (Below w.heap.size w w6)) (fun v102 _ => 8 - (intOf v102).toNat)
      case atStart => exact ⟨0, Nat.zero_le _, rfl, H0, F2, F4, HBT⟩
      case round =>
        obtain ⟨t, ht2, rfl, H7, F2', F4', HBU⟩ := hrel
        clear H0 F2 F4 HBT
        by_cases hlt2 : t < 8
        · have hltz2 : (t : Int) < 8 := by omega
          have k1 := H7.out.cell t (by rw [mixP_length _ _ HZ.out _ ht2]; exact hlt2)
          rw [mixP_get _ _ _ hlt2] at k1
          have k2 := F2'.out.cell t (by rw [HS8.out]; exact hlt2)
          have kf := H7.out.frozen t
          have hset := H7.out.set t ((Z.getD t 0 + S.getD t 0) % 4294967296)
          rw [mixP_set _ _ HZ.out _ hlt2] at hset
          have HSET := Aside0.mk hset
          clear hset
          generalize Z.getD t 0 = zt at *
          generalize S.getD t 0 = st at *
          go_wp2_with fail
          go_region
          all_goals
            go_wp2
            go_roundw
            case measure => simp [intOf]; omega
            case rel =>
              exact ⟨t + 1, by omega, by go_num, ⟨HSET.out.drew⟩, ⟨(F2'.out.far (p := ⟨g7, t, none⟩) (Nat.ne_of_lt LT_g2_g7.out) _).drew⟩, ⟨(F4'.out.far (p := ⟨g7, t, none⟩) (Nat.ne_of_lt LT_g4_g7.out) _).drew⟩, ⟨below_drew1 (below_set HBU.out HGg7.out)⟩⟩
        · have : t = 8 := by omega
          subst this
          have H8 : Aside0 (WordRow 166 wr g7 (addW S Z)) := ⟨by have h1 := H7.out; rw [mixP_end _ _ HZ.out] at h1; exact h1⟩
          clear H7
          go_wp2_with (first | ((with_reducible refine gate_dst (N := 114) rfl ?_); refine WordRow.load rfl 166 (.tmp 7) rfl g7 (addW S Z) rfl H8.out _ Tryz.underlying166 rfl ?hi ?_; (case hi => rw [addW_length]; kernel_rfl)) | ((with_reducible refine gate_store (t := 166) (p := 4) (v := .tmp 114) rfl ?_); refine WordRow.store (B := w.heap.size) (w0 := w) rfl 166 (.tmp 4) (.tmp 114) rfl g4 (addW S Z) _ ?hx ?hy F4'.out ?hl ?hi HBU.out HGg4.out ?_; (case hx => rfl); (case hy => rfl); (case hl => rw [addW_length, List.length_replicate]); (case hi => rw [addW_length]; kernel_rfl); intro w9 hrow hfar hsz hb2; have BK9 := Aside0.mk hrow; have HB9 := Aside0.mk hb2; clear hrow hfar hsz hb2))
          have hend : addW S Z = mixW [s0, s1, s2, s3, s4, s5, s6, s7] b := by rw [HSS.out, ← HS.out]; rfl
          rw [← hend]
          refine bodyPost_ret (results_cell_row rfl _ _ g4 166 ((addW S Z).map (Value.int .u32)).toArray (0, 0) _ rfl BK9.out Tryz.underlying166 rfl ?_) rfl ⟨rfl, HB9.out⟩
          simp only [List.size_toArray, List.length_map, addW_length]
          kernel_rfl
end Go.Proofs.YtghhmnjkgnoogaaGreat.POuterWholes
