-- Written by this session's own program (wip/tools/mkprint.py) over the kit's printer, with overrides.
import Derived.Test.YtghhmnjkgnoogaaTOuterBacka
import Derived.Test.YtghhmnjkgnoogaaQOuterBackx0
import Derived.Test.YtghhmnjkgnoogaaQOuterBackx1
import Derived.Test.YtghhmnjkgnoogaaQOuterBackx5
import Derived.Test.YtghhmnjkgnoogaaQOuterBackx6
namespace Go.Proofs.Ytghhmnjkgnoogaa.POuterBack
open Go.RowKit Go.Mine Go.Proofs.YtghhmnjkgnoogaaW.PrintWords Go.Proofs.YtghhmnjkgnoogaaW.PrintLast Go.Proofs.YtghhmnjkgnoogaaW.PrintMore
attribute [local go_sem] max2_int min2_int max_two min_two max_three min_three max_four min_four   -- for this text's walks alone
set_option linter.unusedVariables false
set_option linter.unusedSimpArgs false
/-! ### slices_DeleteFunc_int_int: function 31 -/
open Go.Shelf Go.Proofs in
def slices_DeleteFunc_int_int.lays_ren : Go.Shelf.Ren := ⟨fun | 10 => 31 | 6 => 46 | n => n, fun | 22 => 30 | 23 => 3 | 25 => 60 | 3 => 3 | 4 => 4 | 0 => 0 | n => n, fun | n => n⟩
open Go.Shelf Go.Proofs in
theorem slices_DeleteFunc_int_int.lays : Go.Proofs.SlLaysH.n10 Try.prog slices_DeleteFunc_int_int.lays_ren := {
  mixed := by kernel_rfl
  f6 := ⟨Try.f46.name, by decide, Try.func46.trans (congrArg some (by kernel_rfl))⟩
  f10 := ⟨Try.f31.name, by decide, Try.func31.trans (congrArg some (by kernel_rfl))⟩
  t0 := Try.underlying0
  a0 := Try.isAgg0
  z0 := Try.sizeOf0
  v0 := Try.zeroValue0
  t3 := Try.underlying3
  a3 := Try.isAgg3
  z3 := Try.sizeOf3
  v3 := Try.zeroValue3
  t4 := Try.underlying4
  a4 := Try.isAgg4
  z4 := Try.sizeOf4
  v4 := Try.zeroValue4
  t22 := Try.underlying30
  a22 := Try.isAgg30
  z22 := Try.sizeOf30
  v22 := Try.zeroValue30
  a23 := Try.isAgg3
  z23 := Try.sizeOf3
  t25 := Try.underlying60
  a25 := Try.isAgg60
  z25 := Try.sizeOf60
  v25 := Try.zeroValue60 }
abbrev slices_DeleteFunc_int_int.El (n : Nat) := { x : Int // 0 ≤ x ∧ x < (n : Int) }
def slices_DeleteFunc_int_int.enc {n : Nat} (x : slices_DeleteFunc_int_int.El n) : Value := .int .i64 x.1
theorem slices_DeleteFunc_int_int.pm {n : Nat} : ∀ (r : List Int) (h : ∀ x ∈ r, 0 ≤ x ∧ x < (n : Int)), (r.pmap (fun x hx => (⟨x, hx⟩ : slices_DeleteFunc_int_int.El n)) h).map Subtype.val = r
  | [], _ => rfl
  | x :: r, h => by rw [List.pmap_cons, List.map_cons, slices_DeleteFunc_int_int.pm r]
theorem slices_DeleteFunc_int_int.gives (n : Nat) (hn : 0 < n) (p : Int → Bool) (g : Nat) (lb : Array Value) (eg : ∀ args w, (callFunc g args).run Try.prog w = .ok (.enter g args) w) (blk c : Nat) (r : List Int) (w : World)
    (hin : ∀ x ∈ r, 0 ≤ x ∧ x < (n : Int)) (hblk : blk < w.heap.size) (hc : r.length ≤ c) (hm : r.length ≤ 9223372036854775807)
    (hp : ∀ (W : World) (x : Int), 0 ≤ x → x < (n : Int) → (∀ k, k < w.heap.size → k ≠ blk → W.heap[k]? = w.heap[k]?) → Calls Try.prog g (#[.int .i64 x] ++ lb) W fun e w' => e = .returned (.bool (p x)) ∧ ∃ q, w' = W.drewN q)
    (hr : ∀ j, j < r.length → w.cell? ⟨blk, j, none⟩ = some (.int .i64 (r.getD j 0)) ∧ w.frozen? ⟨blk, j, none⟩ = false) :
    Calls Try.prog 31 #[.slice (some ⟨blk, 0, none⟩) r.length c, .func (.func g) #[] lb] w fun e w' => e = .returned (.slice (some ⟨blk, 0, none⟩) (r.filter fun x => !p x).length c) ∧ Kd.C (Kd.int .i64) w' (some ⟨blk, 0, none⟩) (r.filter fun x => !p x).length (r.filter fun x => !p x) ∧ (r.filter fun x => !p x).length ≤ c ∧ ∀ B a, B ≤ blk → Below B a w → Below B a w' := by
  have hrl := slices_DeleteFunc_int_int.pm r hin
  generalize hD : r.pmap (fun x hx => (⟨x, hx⟩ : slices_DeleteFunc_int_int.El n)) hin = D at hrl
  have hDl : D.length = r.length := by rw [← hrl, List.length_map]
  letI : Inhabited (slices_DeleteFunc_int_int.El n) := ⟨⟨0, by omega, by omega⟩⟩
  have hg0 : ∀ (F : List (slices_DeleteFunc_int_int.El n)) (j : Nat), j < F.length → slices_DeleteFunc_int_int.enc F.toArray[j]! = .int .i64 ((F.map Subtype.val).getD j 0) := by
    intro F j hj
    rw [getElem!_pos _ _ (by simpa using hj), List.getD_eq_getElem?_getD, List.getElem?_map, List.getElem?_eq_getElem hj]
    simp [slices_DeleteFunc_int_int.enc]
  have hH : Go.Sort.Holds slices_DeleteFunc_int_int.enc w blk 0 D.toArray := by
    intro j hj
    have hj' : j < D.length := by simpa using hj
    have h := hr j (by omega)
    rw [Nat.zero_add, hg0 D j hj', hrl]
    exact h
  have hf : (D.toArray.toList.filter fun x => !p x.1).map Subtype.val = r.filter fun x => !p x := by
    rw [← hrl, List.filter_map]
    rfl
  have hfl : (D.toArray.toList.filter fun x => !p x.1).length = (r.filter fun x => !p x).length := by rw [← hf, List.length_map]
  have hcon := Go.Proofs.AnyE.slices_DeleteFunc (P := Try.prog) slices_DeleteFunc_int_int.lays slices_DeleteFunc_int_int.enc (fun _ => rfl) (fun x => p x.1) g lb eg ⟨0, by omega, by omega⟩ Try.zeroValue3 blk 0 c D.toArray w
    (fun W x hb => hp W x.1 x.2.1 x.2.2 (fun k hk _ => hb.block k hk))
    (fun m os dk x _ => hp _ x.1 x.2.1 x.2.2 (fun k hk hne => by
      unfold Go.Proofs.sortWorld
      rw [Go.Sort.heap_grow_old _ _ (by rw [Go.Sort.size_putRow]; exact hk)]
      simp only [Go.Sort.putRow, Go.Sort.mapBlock, Array.getElem?_modify]
      rw [if_neg (fun e => hne e.symm)]
      rfl))
    hH (by simpa [hDl] using hm) (by simpa [hDl] using hc)
  rw [hfl] at hcon
  have hsz : D.toArray.size = r.length := by simpa using hDl
  rw [hsz] at hcon
  refine hcon.mono ?_
  rintro e w' ⟨rfl, q, rfl⟩
  have hle : (r.filter fun x => !p x).length ≤ r.length := List.length_filter_le _ _
  refine ⟨rfl, Kd.C_of_reads (enc := Value.int .i64) (d := (0 : Int)) (h1 := fun _ => rfl) ⟨rfl, by omega, fun h0 => ⟨_, rfl, fun j hj => ?_⟩⟩, by omega, fun B a hB hb => ?_⟩
  · have hs : ((D.toArray.toList.filter fun x => !p x.1) ++ List.replicate (r.length - (r.filter fun x => !p x).length) (⟨0, by omega, by omega⟩ : slices_DeleteFunc_int_int.El n)).toArray.size = D.toArray.size := by
      simp only [List.size_toArray, List.length_append, List.length_replicate, hfl, hsz]
      omega
    have h := Go.Sort.cell?_putRow slices_DeleteFunc_int_int.enc (Go.Sort.ahead w q) blk 0 D.toArray _ (Go.Sort.holds_ahead _ w q blk 0 _ hH) hs j (by rw [hs, hsz]; omega)
    rw [Nat.zero_add] at h
    rw [show (⟨blk, 0, none⟩ : Addr).add j = ⟨blk, j, none⟩ by simp [Addr.add]; omega, h, hg0 _ j (by rw [List.length_append, hfl]; omega), List.map_append, hf, List.getD_eq_getElem?_getD, List.getElem?_append_left hj, List.getD_eq_getElem?_getD]
  · refine hb.trans ⟨rfl, rfl, rfl, by rw [Go.Sort.size_putRow]; exact Nat.le_refl _, fun k hk => ?_⟩
    simp only [Go.Sort.putRow, Go.Sort.mapBlock, Array.getElem?_modify]
    rw [if_neg (by omega)]
    rfl
/-! ### slices_Clone_int_int: function 32 -/
def slices_Clone_int_int.f (l0 : List Int) : Option (List Int) := if l0.length ≤ 1000000000 then some l0 else none
theorem slices_Clone_int_int.eqnilIn {P : Program} (w : World) (d : Nat) (t e : TypeId) (a : Option Addr) (n c n' c' : Nat) (h : P.underlying t = some (.slice e)) :
    (Op.equalIn (d + 1) t (.slice a n c) (.slice none n' c')).run P w = .ok a.isNone w := by
  cases a <;> simp [Op.equalIn, run_underlying h]
theorem slices_Clone_int_int.eqnil {P : Program} (w : World) (t e : TypeId) (a : Option Addr) (n c n' c' : Nat) (h : P.underlying t = some (.slice e)) :
    (binOp .eql t (.slice a n c) (.slice none n' c')).run P w = .ok (.bool a.isNone) w := by
  simp only [binOp]
  simp [Op.equal, Op.maxDepth, slices_Clone_int_int.eqnilIn w 9999 t e a n c n' c' h]
set_option maxHeartbeats 1000000 in
theorem slices_Clone_int_int.calls (A0 : Option Addr) (c0 : Nat) (l0 : List Int) (r : List Int) (w : World) (hr0 : Kd.C (Kd.int .i64) w A0 l0.length l0) (hc0 : l0.length ≤ c0) (h : slices_Clone_int_int.f l0 = some r) :
    Calls Try.prog 32 #[.slice A0 l0.length c0] w fun e w' => ∃ v0_ : Value, e = .returned v0_ ∧ Kd.R (Kd.int .i64) 3 w' w.heap.size (fun _ => True) v0_ r ∧ Below w.heap.size w w' := by
  unfold slices_Clone_int_int.f at h
  split at h
  rotate_left
  · cases h
  rename_i hl
  have h := Option.some.inj h
  subst h
  have q24 : ∀ (w : World) (a : Option Addr) (n c n' c' : Nat), (binOp .eql 30 (.slice a n c) (.slice none n' c')).run Try.prog w = .ok (.bool a.isNone) w := fun w a n c n' c' => slices_Clone_int_int.eqnil w _ _ a n c n' c' Try.underlying30
  cases A0 with
  | none =>
    have hnil : l0 = [] := by
      cases l0 with
      | nil => rfl
      | cons x l => obtain ⟨ad, he, _⟩ := hr0.2.2 (by simp); cases he
    subst hnil
    clear hr0 hc0 hl
    go_enter Try.func32, Try.ntmps32
    go_wp2_with fail
    go_ret
    exact ⟨_, rfl, Kd.R_nil _ _ _ _ _, Below.refl _ _⟩
  | some ad =>
    have HL := Aside0.mk hl
    have HR : Aside0 (Kd.C (Kd.int .i64) (w.alloc (.cells #[] 3)) (some ad) l0.length l0) := ⟨Kd.C_below hr0 (below_alloc (Below.refl _ _) _)⟩
    have HB : Aside0 (Below w.heap.size w (w.alloc (.cells #[] 3))) := ⟨below_alloc (Below.refl _ _) _⟩
    have HO : Aside0 (Kd.R (Kd.int .i64) 3 (w.alloc (.cells #[] 3)) w.heap.size (fun _ => True) (.slice (some ⟨w.heap.size, 0, none⟩) 0 0) ([] : List Int)) :=
      ⟨Kd.R_of_own (enc := Value.int .i64) (h1 := fun _ => rfl) (xs := []) ⟨rfl, Or.inr ⟨w.heap.size, 0, #[], rfl, Nat.le_refl _, heap_alloc_new _ _, Nat.le_refl _, by decide, rfl, rfl⟩⟩ (fun _ _ => trivial)⟩
    clear hr0 hc0 hl
    go_enter Try.func32, Try.ntmps32
    go_wp2_with ((with_reducible refine gate_builtin (b := .append) (xs := #[.tmp 5, .tmp 6]) rfl ?_); at_builtin; refine Kd.R_append_rows (Kd.int .i64) (w0 := w) w.heap.size rfl (.tmp 5) (.tmp 6) 30 3 (.int .i64 0) 8 rfl Try.underlying30 info3 rfl (by decide) (by decide) (.slice (some ⟨w.heap.size, 0, none⟩) 0 0) [] l0 (some ad) l0.length c0 (fun _ => True) (fun _ => False) rfl rfl HO.out HR.out (fun _ _ h => h) (fun _ h => h.elim) (fun _ _ => trivial) HB.out ?a1 ?a2 ?_; (case a1 => exact HB.out.size); (case a2 => have := HL.out; simp only [List.length_nil]; omega); intro v1 w1 ho1 hb1 hg1 hat1; have HO1 := Aside0.mk ho1; have HB1 := Aside0.mk hb1; clear ho1 hb1 hg1 hat1)
    try go_wp2_with fail
    go_ret
    exact ⟨_, rfl, by have h := HO1.out; rw [List.nil_append] at h; exact h, HB1.out⟩
/-! ### outer_gaps: function 30 -/
def outer_gaps.there (l0 : List ByteArray) (x : Int) : Bool := !decide ((l0.getD x.toNat ByteArray.empty).size = 0)
theorem outer_gaps.pred (l0 : List ByteArray) (B : Nat) (A0 : Option Addr) (c0 : Nat) (W : World) (x : Int) (h0 : 0 ≤ x) (h1 : x < (l0.length : Int)) (hc : W.cell? ⟨B, 0, none⟩ = some (.slice A0 l0.length c0)) (hr0 : Kd.C Kd.string W A0 l0.length l0) :
    Calls Try.prog 45 (#[.int .i64 x] ++ #[.pointer (some ⟨B, 0, none⟩)]) W fun e w' => e = .returned (.bool (outer_gaps.there l0 x)) ∧ ∃ q, w' = W.drewN q := by
  show Calls Try.prog 45 #[.int .i64 x, .pointer (some ⟨B, 0, none⟩)] W _
  obtain ⟨ad, e1, hcell⟩ := Kd.at_string hr0 x h0 h1
  subst e1
  have hs : rdOf ByteArray.empty l0 x = l0.getD x.toNat ByteArray.empty := rfl
  have hb : outer_gaps.there l0 x = !decide ((l0.getD x.toNat ByteArray.empty).size = 0) := rfl
  rw [hs] at hcell
  generalize l0.getD x.toNat ByteArray.empty = s at *
  have HB := Aside0.mk hb
  clear hr0 hs hb
  go_enter Try.func45, Try.ntmps45
  go_wp2_with fail
  go_ret
  refine ⟨?_, ⟨0, rfl⟩⟩
  have he : s.toList.isEmpty = decide (s.size = 0) := by
    rw [Go.ByteArray.toList_eq]
    cases s with
    | mk d => simp [ByteArray.size, Array.isEmpty]
  rw [HB.out, ← he]
  rfl
theorem outer_gaps.pos (l0 : List ByteArray) (l1 : List Int) (h : 0 < l1.length) (hin : ∀ x ∈ l1, 0 ≤ x ∧ x < (l0.length : Int)) : 0 < l0.length := by
  have := hin _ (List.getElem_mem h)
  omega
theorem outer_gaps.cellk (v : Value) (w w1 W : World) (hk : ∀ k, k < w1.heap.size → W.heap[k]? = w1.heap[k]?) (h : w1.cell? ⟨w.heap.size, 0, none⟩ = some v) (hl : w.heap.size < w1.heap.size) : W.cell? ⟨w.heap.size, 0, none⟩ = some v := by
  rw [← h]
  exact World.cell?_of_block (w := w1) (hk _ hl)
theorem outer_gaps.ck {A0 : Option Addr} {l0 : List ByteArray} (w1 W : World) (hk : ∀ k, k < w1.heap.size → W.heap[k]? = w1.heap[k]?) (h : Kd.C Kd.string w1 A0 l0.length l0) : Kd.C Kd.string W A0 l0.length l0 := by
  obtain ⟨h1, h2, h3⟩ := Kd.reads_of_C (enc := Value.string) (d := ByteArray.empty) (h1 := fun _ => rfl) h
  refine Kd.C_of_reads (enc := Value.string) (d := ByteArray.empty) (h1 := fun _ => rfl) ⟨h1, h2, fun hn => ?_⟩
  obtain ⟨ad, e, hc⟩ := h3 hn
  exact ⟨ad, e, fun j hj => (World.cell?_of_block (w := w1) (hk _ (World.block_lt_of_cell? w1 _ (hc j hj)))).trans (hc j hj)⟩
set_option maxHeartbeats 1000000 in
theorem outer_gaps.gives (A0 : Option Addr) (c0 : Nat) (l0 : List ByteArray) (A1 : Option Addr) (c1 : Nat) (l1 : List Int) (w : World) (hr0 : Kd.C Kd.string w A0 l0.length l0) (hr1 : Kd.C (Kd.int .i64) w A1 l1.length l1) (hc1 : l1.length ≤ c1) (hn : 0 < l1.length) (hm : l1.length ≤ 1000000000) (hin : ∀ x ∈ l1, 0 ≤ x ∧ x < (l0.length : Int)) :
    Calls Try.prog 30 #[.slice A0 l0.length c0, .slice A1 l1.length c1] w fun e w' => ∃ (A : Option Addr) (c : Nat), e = .returned (.slice A (l1.filter fun x => !outer_gaps.there l0 x).length c) ∧ (l1.filter fun x => !outer_gaps.there l0 x).length ≤ c ∧ Kd.C (Kd.int .i64) w' A (l1.filter fun x => !outer_gaps.there l0 x).length (l1.filter fun x => !outer_gaps.there l0 x) ∧ Below w.heap.size w w' := by
  have HB : Aside0 (Below w.heap.size w (w.alloc (.cells #[.slice A0 l0.length c0] 34))) := ⟨below_alloc (Below.refl _ _) _⟩
  have hg : (w.alloc (.cells #[.slice A0 l0.length c0] 34)).cell? ⟨w.heap.size, 0, none⟩ = some (.slice A0 l0.length c0) := by simp
  have hin2 : w.heap.size < (w.alloc (.cells #[.slice A0 l0.length c0] 34)).heap.size := by simp
  have HR0 := Aside0.mk (Kd.C_below hr0 HB.out)
  have HR1 := Aside0.mk (Kd.C_below hr1 HB.out)
  have HG := Aside0.mk hg
  have HL := Aside0.mk hin2
  have HI := Aside0.mk hin
  have HN := Aside0.mk hn
  have HM := Aside0.mk hm
  have HC := Aside0.mk hc1
  have HF : Aside0 (slices_Clone_int_int.f l1 = some l1) := ⟨by unfold slices_Clone_int_int.f; rw [if_pos hm]⟩
  clear hr0 hr1 hg hin2 hin hn hm hc1
  go_enter Try.func30, Try.ntmps30
  go_wp2_with (first | (go_at_call 32; refine (slices_Clone_int_int.calls _ _ _ _ _ HR1.out HC.out HF.out).mono ?_; rintro e w' ⟨v0, rfl, ho, hb⟩; obtain ⟨b1, c2, hv, hb1, hb2, cells, hce⟩ := Kd.R_form ho HN.out; subst hv; have HO := Aside0.mk ho; have HB1 := Aside0.mk hb; have HG1 := Aside0.mk hb1; have HG2 := Aside0.mk hb2; clear ho hb hb1 hb2 hce) | (go_at_call 31; refine (slices_DeleteFunc_int_int.gives l0.length ?hn (outer_gaps.there l0) 45 #[.pointer (some ⟨w.heap.size, 0, none⟩)] (enters_of Try.func45 (by kernel_rfl) rfl) b1 c2 l1 _ HI.out HG2.out (Kd.R_reads' HO.out).2.1 ?hm ?hp ?hr).mono ?_; (case hn => exact outer_gaps.pos l0 l1 HN.out HI.out); (case hm => exact Nat.le_trans HM.out (by decide)); (case hp => exact fun W x h0 h1 hk => outer_gaps.pred l0 w.heap.size A0 c0 W x h0 h1 (outer_gaps.cellk _ w _ W (fun k hk2 => (hk k (Nat.lt_of_lt_of_le hk2 HB1.out.size) (Nat.ne_of_lt (Nat.lt_of_lt_of_le hk2 HG1.out))).trans (HB1.out.block k hk2)) HG.out HL.out) (outer_gaps.ck _ W (fun k hk2 => (hk k (Nat.lt_of_lt_of_le hk2 HB1.out.size) (Nat.ne_of_lt (Nat.lt_of_lt_of_le hk2 HG1.out))).trans (HB1.out.block k hk2)) HR0.out)); (case hr => exact fun j hj => by have h := Kd.R_cell (0 : Int) HO.out (j : Int) (by omega) (by omega); rw [Int.toNat_natCast] at h; exact h); rintro e w2 ⟨rfl, hC, hle, hbb⟩; have HBW := Aside0.mk (hbb w.heap.size w (Nat.le_trans (Nat.le_of_lt HL.out) HG1.out) (below_then HB.out HB.out.size HB1.out)); have HCC := Aside0.mk hC; have HLE := Aside0.mk hle; clear hC hle hbb))
  go_ret
  exact ⟨_, _, rfl, HLE.out, HCC.out, HBW.out⟩
/-! ### outer_Fill: function 15 -/
/-- What is found at the first rule that has one gap, or that falls. -/
def outer_Fill.scan (k : Nat) (z : Int) (w : List ByteArray) : List (List Int) → Option (Option (Option (Int × ByteArray)))
  | [] => some none
  | r :: rs => if 0 < r.length ∧ r.length ≤ 1000000000 ∧ (∀ x ∈ r, 0 ≤ x ∧ x < (w.length : Int)) then
      (match r.filter (fun x => !outer_gaps.there w x) with
      | [] => (outer_sum.f k w r z).bind fun s => (block_Zero.f z).bind fun t => if s.toList = t.toList then outer_Fill.scan k z w rs else some (some none)
      | [x] => (outer_sum.f k w (r.filter fun y => !decide (y = x)) z).bind fun s => some (some (some (x, s)))
      | _ => outer_Fill.scan k z w rs) else none
def outer_Fill.go (k : Nat) (z : Int) (rs : List (List Int)) : Nat → List ByteArray → Option (List ByteArray × Int)
  | 0, _ => none
  | n + 1, w => (outer_Fill.scan k z w rs).bind fun t => match t with
    | none => some (w, 0)
    | some none => some ([], 9)
    | some (some (x, s)) => outer_Fill.go k z rs n (w.set x.toNat s)
def outer_Fill.f (k : Nat) (a0_0 a0_1 a0_2 a0_3 : Int) (l1 : List ByteArray) : Option (List ByteArray × Int) :=
  (outer_size.f k l1).bind fun z => (outer_Check.f a0_0 a0_1 a0_2 a0_3).bind fun c => if c = true then (if (l1.length : Int) = wrap64 (a0_1 + a0_2) then (if z = 0 then some ([], 1) else
    (slices_Clone_string_string.f l1).bind fun out => (outer_rules.f k a0_0 a0_1 a0_2 a0_3).bind fun rs => outer_Fill.go k z rs (l1.length + 1) out) else some ([], 1)) else some ([], 1)
theorem outer_Fill.scan_mono (k : Nat) (z : Int) (w : List ByteArray) : ∀ rs, LeO (outer_Fill.scan k z w rs) (outer_Fill.scan (k + 1) z w rs)
  | [] => LeO.refl _
  | r :: rs => by
    unfold outer_Fill.scan
    refine LeO.ite ?_ (LeO.refl _)
    generalize r.filter (fun x => !outer_gaps.there w x) = g
    match g with
    | [] => exact LeO.bind (outer_sum.mono _ _ _ _) (fun _ => LeO.bind (LeO.refl _) (fun _ => LeO.ite (outer_Fill.scan_mono k z w rs) (LeO.refl _)))
    | [x] => exact LeO.bind (outer_sum.mono _ _ _ _) (fun _ => LeO.refl _)
    | _ :: _ :: _ => exact outer_Fill.scan_mono k z w rs
theorem outer_Fill.go_mono (k : Nat) (z : Int) (rs : List (List Int)) : ∀ n w, LeO (outer_Fill.go k z rs n w) (outer_Fill.go (k + 1) z rs n w)
  | 0, _ => LeO.refl _
  | n + 1, w => by
    unfold outer_Fill.go
    refine LeO.bind (outer_Fill.scan_mono k z w rs) (fun t => ?_)
    match t with
    | none => exact LeO.refl _
    | some none => exact LeO.refl _
    | some (some (x, s)) => exact outer_Fill.go_mono k z rs n _
theorem outer_Fill.mono : ∀ a0_0 a0_1 a0_2 a0_3 l1 k, LeO (outer_Fill.f k a0_0 a0_1 a0_2 a0_3 l1) (outer_Fill.f (k + 1) a0_0 a0_1 a0_2 a0_3 l1) := by
  intro a0_0 a0_1 a0_2 a0_3 l1 k
  unfold outer_Fill.f
  exact LeO.bind (outer_size.mono _ _) (fun _ => LeO.bind (LeO.refl _) (fun _ => LeO.ite (LeO.ite (LeO.ite (LeO.refl _) (LeO.bind (LeO.refl _) (fun _ => LeO.bind (outer_rules.mono _ _ _ _ _) (fun _ => outer_Fill.go_mono _ _ _ _ _)))) (LeO.refl _)) (LeO.refl _)))
def outer_Fill.cont (k : Nat) (z : Int) (rs : List (List Int)) (n : Nat) (w : List ByteArray) : Option (Option (Int × ByteArray)) → Option (List ByteArray × Int)
  | none => some (w, 0)
  | some none => some ([], 9)
  | some (some (x, s)) => outer_Fill.go k z rs n (w.set x.toNat s)
theorem outer_Fill.go_succ (k : Nat) (z : Int) (rs : List (List Int)) (n : Nat) (w : List ByteArray) : outer_Fill.go k z rs (n + 1) w = (outer_Fill.scan k z w rs).bind (outer_Fill.cont k z rs n w) := by
  rw [outer_Fill.go]
  refine congrArg _ ?_
  funext t
  match t with
  | none => rfl
  | some none => rfl
  | some (some (x, s)) => rfl
theorem outer_Fill.rc {α : Type} {d : Kd α} {e base : Nat} {w : World} {ok : Nat → Prop} {A : Option Addr} {n c : Nat} {xs : List α} (h : Kd.R d e w base ok (.slice A n c) xs) : Kd.C d w A xs.length xs := (Kd.R_reads' h).2.2
theorem outer_Fill.ck {A0 : Option Addr} {l0 : List Int} (w1 W : World) (hk : ∀ k, k < w1.heap.size → W.heap[k]? = w1.heap[k]?) (h : Kd.C (Kd.int .i64) w1 A0 l0.length l0) : Kd.C (Kd.int .i64) W A0 l0.length l0 := by
  obtain ⟨h1, h2, h3⟩ := Kd.reads_of_C (enc := Value.int .i64) (d := (0 : Int)) (h1 := fun _ => rfl) h
  refine Kd.C_of_reads (enc := Value.int .i64) (d := (0 : Int)) (h1 := fun _ => rfl) ⟨h1, h2, fun hn => ?_⟩
  obtain ⟨ad, e, hc⟩ := h3 hn
  exact ⟨ad, e, fun j hj => (World.cell?_of_block (w := w1) (hk _ (World.block_lt_of_cell? w1 _ (hc j hj)))).trans (hc j hj)⟩
theorem outer_Fill.pred (x i : Int) (B : Nat) (Ag : Option Addr) (cg : Nat) (w1 W : World) (hk : ∀ k, k < w1.heap.size → W.heap[k]? = w1.heap[k]?) (hc : w1.cell? ⟨B, 0, none⟩ = some (.slice Ag 1 cg)) (hC : Kd.C (Kd.int .i64) w1 Ag [x].length [x]) :
    Calls Try.prog 33 (#[.int .i64 i] ++ #[.pointer (some ⟨B, 0, none⟩)]) W fun e w' => e = .returned (.bool (decide (i = x))) ∧ ∃ q, w' = W.drewN q := by
  show Calls Try.prog 33 #[.int .i64 i, .pointer (some ⟨B, 0, none⟩)] W _
  have hc2 : W.cell? ⟨B, 0, none⟩ = some (.slice Ag 1 cg) := (World.cell?_of_block (w := w1) (hk _ (World.block_lt_of_cell? w1 _ hc))).trans hc
  obtain ⟨ad, e1, hx⟩ := Kd.at_int (outer_Fill.ck w1 W hk hC) 0 (by decide) (by simp)
  subst e1
  have hx2 : W.cell? ad = some (.int .i64 x) := by
    have h9 := hx
    simpa [Addr.add, rd] using h9
  have had : ad.add 0 = ad := by simp [Addr.add]
  clear hc hx hC hk
  go_enter Try.func33, Try.ntmps33
  go_wp2_with fail
  go_ret
  exact ⟨by first | rfl | (simp; done) | (by_cases h : i = x <;> simp [h]), 0, rfl⟩
theorem outer_Fill.frz {w w' : World} {a : Addr} {v : Value} (hb : Below w.heap.size w w') (hc : w.cell? a = some v) (h : w.frozen? a = false) : w'.frozen? a = false := (hb.frozen (World.block_lt_of_cell? w a hc)).trans h
def outer_Fill.fr (z : Int) (L : Nat) (A7 : Option Addr) (c7 : Nat) (v8 : Value) (u : Nat → Value) : Act := { tmps := #[u 0, u 1, u 2, u 3, u 4, u 5, .int .i64 z, .slice A7 L c7, v8, u 9, u 10, u 11, u 12, u 13, u 14, u 15, u 16, u 17, u 18, u 19, u 20, u 21, u 22, u 23, u 24, u 25, u 26, u 27, u 28, u 29, u 30, u 31, u 32, u 33, u 34, u 35, u 36, u 37, u 38, u 39, u 40, u 41, u 42, u 43, u 44, u 45, u 46, u 47, u 48, u 49, u 50, u 51, u 52, u 53, u 54, u 55, u 56, u 57, u 58, u 59, u 60, u 61, u 62, u 63, u 64, u 65, u 66, u 67, u 68, u 69, u 70, u 71, u 72], defers := [] }
set_option maxRecDepth 100000 in
theorem outer_Fill.fr_eq (z : Int) (L : Nat) (A7 : Option Addr) (c7 : Nat) (v8 u0 u1 u2 u3 u4 u5 u9 u10 u11 u12 u13 u14 u15 u16 u17 u18 u19 u20 u21 u22 u23 u24 u25 u26 u27 u28 u29 u30 u31 u32 u33 u34 u35 u36 u37 u38 u39 u40 u41 u42 u43 u44 u45 u46 u47 u48 u49 u50 u51 u52 u53 u54 u55 u56 u57 u58 u59 u60 u61 u62 u63 u64 u65 u66 u67 u68 u69 u70 u71 u72 : Value) : ({ tmps := #[u0, u1, u2, u3, u4, u5, .int .i64 z, .slice A7 L c7, v8, u9, u10, u11, u12, u13, u14, u15, u16, u17, u18, u19, u20, u21, u22, u23, u24, u25, u26, u27, u28, u29, u30, u31, u32, u33, u34, u35, u36, u37, u38, u39, u40, u41, u42, u43, u44, u45, u46, u47, u48, u49, u50, u51, u52, u53, u54, u55, u56, u57, u58, u59, u60, u61, u62, u63, u64, u65, u66, u67, u68, u69, u70, u71, u72], defers := [] } : Act) = outer_Fill.fr z L A7 c7 v8 (fun i => [u0, u1, u2, u3, u4, u5, undef, undef, undef, u9, u10, u11, u12, u13, u14, u15, u16, u17, u18, u19, u20, u21, u22, u23, u24, u25, u26, u27, u28, u29, u30, u31, u32, u33, u34, u35, u36, u37, u38, u39, u40, u41, u42, u43, u44, u45, u46, u47, u48, u49, u50, u51, u52, u53, u54, u55, u56, u57, u58, u59, u60, u61, u62, u63, u64, u65, u66, u67, u68, u69, u70, u71, u72].getD i undef) := rfl
def outer_Fill.Inv (k : Nat) (z : Int) (rs : List (List Int)) (L : Nat) (r1 : List ByteArray) (r2 : Int) (w0 : World) (n : Nat) (a : Act) (w : World) : Prop :=
  ∃ (out : List ByteArray) (A7 : Option Addr) (c7 : Nat) (v8 : Value) (u : Nat → Value), a = outer_Fill.fr z L A7 c7 v8 u ∧ out.length = L ∧ Aside0 (outer_Fill.go k z rs n out = some (r1, r2)) ∧ Aside0 (Kd.R Kd.string 9 w w0.heap.size (fun _ => True) (.slice A7 L c7) out) ∧ (∃ base, Aside0 (Kd.S (Kd.slice 3 (Kd.int .i64)) 30 w base (fun _ => True) v8 rs)) ∧ Aside0 (Below w0.heap.size w0 w)
set_option maxHeartbeats 4000000 in
set_option maxRecDepth 100000 in
theorem outer_Fill.calls (k : Nat) (a0_0 a0_1 a0_2 a0_3 : Int) (A1 : Option Addr) (c1 : Nat) (l1 : List ByteArray) (r1 : List ByteArray) (r2 : Int) (w : World) (hr1 : Kd.C Kd.string w A1 l1.length l1) (hc1 : l1.length ≤ c1) (h : outer_Fill.f k a0_0 a0_1 a0_2 a0_3 l1 = some (r1, r2)) :
    Calls Try.prog 15 #[.agg #[.int .i64 a0_0, .int .i64 a0_1, .int .i64 a0_2, .int .i64 a0_3], .slice A1 l1.length c1] w fun e w' => ∃ v0_ : Value, e = .returned (.tuple #[v0_, .int .i64 r2]) ∧ Kd.R Kd.string 9 w' w.heap.size (fun _ => True) v0_ r1 ∧ Below w.heap.size w w' := by
  have hu23 := Try.underlying23
  have HR1 := Aside0.mk hr1
  have HC1 := Aside0.mk hc1
  have HB := Aside0.mk (Below.refl w.heap.size w)
  clear hr1 hc1
  unfold outer_Fill.f at h
  obtain ⟨z, A1z, h⟩ := Option.bind_eq_some_iff.mp h
  have A1z := Aside0.mk A1z
  obtain ⟨t1, A5, h⟩ := Option.bind_eq_some_iff.mp h
  have A5 := Aside0.mk A5
  cases t1 with
  | false =>
    rw [if_neg (by decide)] at h
    injection h with h
    injection h with e1 e2
    subst e1; subst e2
    go_enter Try.func15, Try.ntmps15
    go_wp2_with (first | ((with_reducible refine gate_dst (N := 2) rfl ?_); refine box_event ?hg (N := 2) ?hd (cs := #[.int .i64 a0_0, .int .i64 a0_1, .int .i64 a0_2, .int .i64 a0_3]) (t := 23) ?hr ?_; (case hd => rfl); (case hg => rfl); (case hr => first | (go_simp; done) | (go_simp; rfl)); intro g1 hg w2 hbox hb; have BK1 := Aside0.mk hbox; have GE1 := Aside0.mk ((zg : w.heap.size ≤ g1)); replace HB := Aside0.mk (below_step zB hb); clear hb hbox hg; obtain ⟨p0, p1, p2, p3⟩ := cZ4 BK1))
    refine wp_scope_ghost 0 (fun _ _ _ => False) rfl (fun _ _ _ hF => hF.elim) ?_
    intro _
    go_wp2_with (first | (go_at_call 29; (with_reducible refine (outer_size.calls k A1 c1 l1 z _ (Kd.C_below HR1.out zB) HC1.out A1z.out).mono ?_); rintro e w3 ⟨rfl, hdz⟩; have hb := Drawn0.below hdz; clear hdz; (try clear p0); (try clear p1); (try clear p2); (try clear p3); replace BK1 := Aside0.mk (blk_below (zk BK1) hb); replace HB := Aside0.mk (below_step zB hb); clear hb; obtain ⟨p0, p1, p2, p3⟩ := cZ4 BK1) | ((with_reducible refine gate_callee (f := 8) rfl ?_); refine goesL_ (some 16) rfl rfl Try.func8 (by kernel_rfl) rfl #[.agg #[.int .i64 a0_0, .int .i64 a0_1, .int .i64 a0_2, .int .i64 a0_3]] rfl zM ?_; (with_reducible refine (outer_Check.calls a0_0 a0_1 a0_2 a0_3 false _ A5.out).mono ?_); rintro e w4 ⟨rfl, hb⟩; refine ⟨_, rfl, ?_⟩; (try clear p0); (try clear p1); (try clear p2); (try clear p3); replace BK1 := Aside0.mk (blk_below (zk BK1) hb); replace HB := Aside0.mk (below_step zB hb); clear hb; obtain ⟨p0, p1, p2, p3⟩ := cZ4 BK1))
    simp only [Exit.jump]
    go_ret2
    exact ⟨_, rfl, Kd.R_nil _ _ _ _ _, zB⟩
  | true =>
    rw [if_pos rfl] at h
    by_cases c7 : (l1.length : Int) = wrap64 (a0_1 + a0_2)
    · rw [if_pos c7] at h
      have c7b0 : ((l1.length : Int) == wrap64 (a0_1 + a0_2)) = true := beq_iff_eq.mpr c7
      have c7b1 : ((l1.length : Int) != wrap64 (a0_1 + a0_2)) = false := bne_eq_false_iff_eq.mpr c7
      clear c7
      by_cases c8 : z = 0
      · rw [if_pos c8] at h
        injection h with h
        injection h with e1 e2
        subst e1; subst e2
        have c8b : (z == 0) = true := beq_iff_eq.mpr c8
        clear c8
        go_enter Try.func15, Try.ntmps15
        go_wp2_with (first | ((with_reducible refine gate_dst (N := 2) rfl ?_); refine box_event ?hg (N := 2) ?hd (cs := #[.int .i64 a0_0, .int .i64 a0_1, .int .i64 a0_2, .int .i64 a0_3]) (t := 23) ?hr ?_; (case hd => rfl); (case hg => rfl); (case hr => first | (go_simp; done) | (go_simp; rfl)); intro g1 hg w2 hbox hb; have BK1 := Aside0.mk hbox; have GE1 := Aside0.mk ((zg : w.heap.size ≤ g1)); replace HB := Aside0.mk (below_step zB hb); clear hb hbox hg; obtain ⟨p0, p1, p2, p3⟩ := cZ4 BK1))
        refine wp_scope_ghost 0 (fun _ _ _ => False) rfl (fun _ _ _ hF => hF.elim) ?_
        intro _
        go_wp2_with (first | (go_at_call 29; (with_reducible refine (outer_size.calls k A1 c1 l1 z _ (Kd.C_below HR1.out zB) HC1.out A1z.out).mono ?_); rintro e w3 ⟨rfl, hdz⟩; have hb := Drawn0.below hdz; clear hdz; (try clear p0); (try clear p1); (try clear p2); (try clear p3); replace BK1 := Aside0.mk (blk_below (zk BK1) hb); replace HB := Aside0.mk (below_step zB hb); clear hb; obtain ⟨p0, p1, p2, p3⟩ := cZ4 BK1) | ((with_reducible refine gate_callee (f := 8) rfl ?_); refine goesL_ (some 16) rfl rfl Try.func8 (by kernel_rfl) rfl #[.agg #[.int .i64 a0_0, .int .i64 a0_1, .int .i64 a0_2, .int .i64 a0_3]] rfl zM ?_; (with_reducible refine (outer_Check.calls a0_0 a0_1 a0_2 a0_3 true _ A5.out).mono ?_); rintro e w4 ⟨rfl, hb⟩; refine ⟨_, rfl, ?_⟩; (try clear p0); (try clear p1); (try clear p2); (try clear p3); replace BK1 := Aside0.mk (blk_below (zk BK1) hb); replace HB := Aside0.mk (below_step zB hb); clear hb; obtain ⟨p0, p1, p2, p3⟩ := cZ4 BK1))
        simp only [Exit.jump]
        go_ret2
        exact ⟨_, rfl, Kd.R_nil _ _ _ _ _, zB⟩
      · rw [if_neg c8] at h
        have c8b : (z == 0) = false := beq_eq_false_iff_ne.mpr c8
        clear c8
        obtain ⟨out0, A7z, h⟩ := Option.bind_eq_some_iff.mp h
        have A7z := Aside0.mk A7z
        obtain ⟨rs, A9, h⟩ := Option.bind_eq_some_iff.mp h
        have A9 := Aside0.mk A9
        have HG := Aside0.mk h
        have HL : out0.length = l1.length := by
          have h9 := A7z.out
          unfold slices_Clone_string_string.f at h9
          split at h9
          · cases h9; rfl
          · cases h9
        clear h
        go_enter Try.func15, Try.ntmps15
        go_wp2_with (first | ((with_reducible refine gate_dst (N := 2) rfl ?_); refine box_event ?hg (N := 2) ?hd (cs := #[.int .i64 a0_0, .int .i64 a0_1, .int .i64 a0_2, .int .i64 a0_3]) (t := 23) ?hr ?_; (case hd => rfl); (case hg => rfl); (case hr => first | (go_simp; done) | (go_simp; rfl)); intro g1 hg w2 hbox hb; have BK1 := Aside0.mk hbox; have GE1 := Aside0.mk ((zg : w.heap.size ≤ g1)); replace HB := Aside0.mk (below_step zB hb); clear hb hbox hg; obtain ⟨p0, p1, p2, p3⟩ := cZ4 BK1))
        obtain ⟨L, hL⟩ : ∃ L, L = l1.length := ⟨_, rfl⟩
        have HLL := Aside0.mk hL
        clear hL
        refine wp_scope_ghost 0 (outer_Fill.Inv k z rs L r1 r2 w) rfl ?pass ?first
        case first =>
          obtain rfl := HLL.out
          intro hp
          have HP := Aside0.mk hp
          clear hp
          go_wp2_with (first | (go_at_call 29; (with_reducible refine (outer_size.calls k A1 c1 l1 z _ (Kd.C_below HR1.out zB) HC1.out A1z.out).mono ?_); rintro e w3 ⟨rfl, hdz⟩; have hb := Drawn0.below hdz; clear hdz; (try clear p0); (try clear p1); (try clear p2); (try clear p3); replace BK1 := Aside0.mk (blk_below (zk BK1) hb); replace HB := Aside0.mk (below_step zB hb); clear hb; obtain ⟨p0, p1, p2, p3⟩ := cZ4 BK1) | ((with_reducible refine gate_callee (f := 8) rfl ?_); refine goesL_ (some 16) rfl rfl Try.func8 (by kernel_rfl) rfl #[.agg #[.int .i64 a0_0, .int .i64 a0_1, .int .i64 a0_2, .int .i64 a0_3]] rfl zM ?_; (with_reducible refine (outer_Check.calls a0_0 a0_1 a0_2 a0_3 true _ A5.out).mono ?_); rintro e w4 ⟨rfl, hb⟩; refine ⟨_, rfl, ?_⟩; (try clear p0); (try clear p1); (try clear p2); (try clear p3); replace BK1 := Aside0.mk (blk_below (zk BK1) hb); replace HB := Aside0.mk (below_step zB hb); clear hb; obtain ⟨p0, p1, p2, p3⟩ := cZ4 BK1) | (go_at_call 22; (with_reducible refine (slices_Clone_string_string.calls A1 c1 l1 out0 _ (Kd.C_below HR1.out zB) HC1.out A7z.out).mono ?_); rintro e w5 ⟨v7, rfl, ho, hb⟩; obtain ⟨A7, c7, hv7⟩ := Kd.R_slice ho; subst hv7; replace ho := Kd.R_lower ho (below_size zB : w.heap.size ≤ _); have HO := Aside0.mk ho; clear ho; (try clear p0); (try clear p1); (try clear p2); (try clear p3); replace BK1 := Aside0.mk (blk_below (zk BK1) hb); replace HB := Aside0.mk (below_step zB hb); clear hb; obtain ⟨p0, p1, p2, p3⟩ := cZ4 BK1) | ((with_reducible refine gate_callee (f := 16) rfl ?_); refine goesL_ (some 35) rfl rfl Try.func16 (by kernel_rfl) rfl #[.agg #[.int .i64 a0_0, .int .i64 a0_1, .int .i64 a0_2, .int .i64 a0_3]] rfl zM ?_; (with_reducible refine (outer_rules.calls k a0_0 a0_1 a0_2 a0_3 rs _ A9.out).mono ?_); rintro e w7 ⟨v8, rfl, ho, hb⟩; refine ⟨_, rfl, ?_⟩; replace HO := Aside0.mk (Kd.R_below (zR HO) hb); have HS := Aside0.mk ho; clear ho; (try clear p0); (try clear p1); (try clear p2); (try clear p3); replace BK1 := Aside0.mk (blk_below (zk BK1) hb); replace HB := Aside0.mk (below_step zB hb); clear hb; obtain ⟨p0, p1, p2, p3⟩ := cZ4 BK1))
          go_step3
          go_step
          go_step
          refine HP.out (l1.length + 1) _ _ ?_
          exact ⟨out0, A7, c7, v8, _, outer_Fill.fr_eq _ _ _ _ _ _ _ _ _ _ _ _ _ _ _ _ _ _ _ _ _ _ _ _ _ _ _ _ _ _ _ _ _ _ _ _ _ _ _ _ _ _ _ _ _ _ _ _ _ _ _ _ _ _ _ _ _ _ _ _ _ _ _ _ _ _ _ _ _ _ _ _ _ _ _, HL, ⟨HG.out⟩, ⟨by rw [← HL]; exact zR HO⟩, ⟨_, ⟨zS HS⟩⟩, ⟨zB⟩⟩
        case pass =>
          intro n a0 wp hI
          obtain ⟨out, A7, c7, v8, u, rfl, hlen, HG, HO, ⟨base, HS⟩, HB⟩ := hI
          clear HR1 HC1 A1z A5 A7z A9 HL HLL
          cases n with
          | zero => exact absurd HG.out (by simp [outer_Fill.go])
          | succ n =>
            have hg := HG.out
            clear HG
            rw [outer_Fill.go_succ] at hg
            have HG := Aside0.mk hg
            obtain ⟨Ar, cr, hv8, hcr, hCr⟩ := Kd.S_reads HS.out
            subst hv8
            subst hlen
            clear hg hcr hCr
            unfold outer_Fill.fr
            go_wp2_with fail
            go_loopg [38] rs.length (fun gg s38 wr => ∃ j : Nat, j ≤ rs.length ∧ rs.length - j ≤ gg ∧ s38 = .int .i64 j ∧ Aside0 ((outer_Fill.scan k z out (rs.drop j)).bind (outer_Fill.cont k z rs n out) = some (r1, r2)) ∧ Aside0 (Kd.R Kd.string 9 wr w.heap.size (fun _ => True) (.slice A7 out.length c7) out) ∧ Aside0 (Kd.S (Kd.slice 3 (Kd.int .i64)) 30 wr base (fun _ => True) (.slice Ar rs.length cr) rs) ∧ Aside0 (Below w.heap.size w wr))
            case atStart => exact ⟨0, Nat.zero_le _, by omega, rfl, HG, HO, HS, HB⟩
            case round =>
              clear HG HO HS HB
              obtain ⟨j, hj, hgg, rfl, HG, HO, HS, HB⟩ := hrel
              by_cases hlt : j < rs.length
              · have hltz : (j : Int) < (rs.length : Int) := by omega
                obtain ⟨hnr, hlr, hCr⟩ := Kd.S_reads' HS.out
                have hlen := hCr.2.1
                obtain ⟨ad, B1, d1, e1, hx, hl1, hi1⟩ := at_L3 hCr j (by omega) hltz
                subst e1
                have hy : rd_L3 rs (j : Int) = rs[j] := by simp [rd_L3, hlt]
                rw [Int.toNat_natCast] at hx
                rw [hy] at hx hl1 hi1
                have hd : rs.drop j = rs[j] :: rs.drop (j + 1) := List.drop_eq_getElem_cons hlt
                have hg := HG.out
                rw [hd, outer_Fill.scan] at hg
                generalize rs[j] = y at *
                split at hg
                rotate_left
                · cases hg
                rename_i hgd
                have hgv := outer_gaps.gives A7 c7 out B1 d1 y wr (Kd.R_reads' HO.out).2.2 hi1 hl1 hgd.1 hgd.2.1 hgd.2.2
                have HY := Aside0.mk hi1
                have HYL := Aside0.mk hl1
                have HYD := Aside0.mk hgd
                have HCR := Aside0.mk hlr
                generalize hgl : y.filter (fun x => !outer_gaps.there out x) = g at hg hgv
                have HGL := Aside0.mk hgl
                clear hd hy hgl HG hgd hi1 hl1 hlr hnr hCr
                match g with
                | [] =>
                  simp only [List.length_nil] at hgv
                  have HGV := Aside0.mk hgv
                  replace hg := Option.bind_eq_some_iff.mp hg
                  obtain ⟨t0, hg, hgc⟩ := hg
                  obtain ⟨s, AS, hg⟩ := Option.bind_eq_some_iff.mp hg
                  obtain ⟨t, AT, hg⟩ := Option.bind_eq_some_iff.mp hg
                  have AS := Aside0.mk AS
                  have AT := Aside0.mk AT
                  by_cases hst : s.toList = t.toList
                  · rw [if_pos hst] at hg
                    have HG : Aside0 ((outer_Fill.scan k z out (rs.drop (j + 1))).bind (outer_Fill.cont k z rs n out) = some (r1, r2)) := ⟨by rw [hg, Option.bind_some]; exact hgc⟩
                    have c1b : (s.toList != t.toList) = false := bne_eq_false_iff_eq.mpr hst
                    have c1c : (s.toList == t.toList) = true := beq_iff_eq.mpr hst
                    clear hgv hg hgc hst
                    go_wp2_with (first | (go_at_call 30; refine HGV.out.mono ?_; rintro e w2 ⟨Ag, cg, rfl, hle, hCg, hb⟩; have HLE := Aside0.mk hle; have HCG := Aside0.mk hCg; replace HO := Aside0.mk (Kd.R_below HO.out hb); replace HS := Aside0.mk (Kd.S_below HS.out hb); replace HY := Aside0.mk (Kd.C_below HY.out hb); replace HB := Aside0.mk (below_step HB.out hb); clear hb hle hCg HGV) | (go_at_call 24; refine Calls.mono (outer_sum.calls k A7 c7 out B1 d1 y z s _ ?h1 (Kd.R_reads' HO.out).2.1 ?h2 HYL.out AS.out) ?_; (case h1 => exact outer_Fill.rc (zR HO)); (case h2 => exact (by repeat (first | (with_reducible exact HY.out) | (with_reducible refine Kd.C_alloc ?_ _) | (with_reducible refine Kd.C_drewN ?_ _) | (with_reducible refine Kd.C_drew ?_)))); rintro e w3 ⟨rfl, hb⟩; replace HO := Aside0.mk (Kd.R_below (zR HO) hb); replace HS := Aside0.mk (Kd.S_below (zS HS) hb); replace HY : Aside0 (Kd.C (Kd.int .i64) w3 B1 y.length y) := ⟨Kd.C_below (by repeat (first | (with_reducible exact HY.out) | (with_reducible refine Kd.C_alloc ?_ _) | (with_reducible refine Kd.C_drewN ?_ _) | (with_reducible refine Kd.C_drew ?_))) hb⟩; replace HB := Aside0.mk (below_step zB hb); clear hb) | (go_at_call 27; refine (block_Zero.calls z t _ AT.out).mono ?_; rintro e w4 ⟨rfl, hb⟩; replace HO := Aside0.mk (Kd.R_below (zR HO) hb); replace HS := Aside0.mk (Kd.S_below (zS HS) hb); replace HY : Aside0 (Kd.C (Kd.int .i64) w4 B1 y.length y) := ⟨Kd.C_below (by repeat (first | (with_reducible exact HY.out) | (with_reducible refine Kd.C_alloc ?_ _) | (with_reducible refine Kd.C_drewN ?_ _) | (with_reducible refine Kd.C_drew ?_))) hb⟩; replace HB := Aside0.mk (below_step zB hb); clear hb))
                    go_roundg (rs.length - (j + 1))
                    case measure => omega
                    case rel => exact ⟨j + 1, by omega, by omega, by go_num, HG, ⟨zR HO⟩, ⟨zS HS⟩, ⟨zB⟩⟩
                  · rw [if_neg hst] at hg
                    obtain rfl := Option.some.inj hg
                    have hg := hgc
                    rw [outer_Fill.cont] at hg
                    injection hg with hg
                    injection hg with e1 e2
                    subst e1; subst e2
                    have c1b : (s.toList != t.toList) = true := bne_iff_ne.mpr hst
                    have c1c : (s.toList == t.toList) = false := beq_eq_false_iff_ne.mpr hst
                    clear hgv hgc hst
                    go_wp2_with (first | (go_at_call 30; refine HGV.out.mono ?_; rintro e w2 ⟨Ag, cg, rfl, hle, hCg, hb⟩; have HLE := Aside0.mk hle; have HCG := Aside0.mk hCg; replace HO := Aside0.mk (Kd.R_below HO.out hb); replace HS := Aside0.mk (Kd.S_below HS.out hb); replace HY := Aside0.mk (Kd.C_below HY.out hb); replace HB := Aside0.mk (below_step HB.out hb); clear hb hle hCg HGV) | (go_at_call 24; refine Calls.mono (outer_sum.calls k A7 c7 out B1 d1 y z s _ ?h1 (Kd.R_reads' HO.out).2.1 ?h2 HYL.out AS.out) ?_; (case h1 => exact outer_Fill.rc (zR HO)); (case h2 => exact (by repeat (first | (with_reducible exact HY.out) | (with_reducible refine Kd.C_alloc ?_ _) | (with_reducible refine Kd.C_drewN ?_ _) | (with_reducible refine Kd.C_drew ?_)))); rintro e w3 ⟨rfl, hb⟩; replace HO := Aside0.mk (Kd.R_below (zR HO) hb); replace HS := Aside0.mk (Kd.S_below (zS HS) hb); replace HY : Aside0 (Kd.C (Kd.int .i64) w3 B1 y.length y) := ⟨Kd.C_below (by repeat (first | (with_reducible exact HY.out) | (with_reducible refine Kd.C_alloc ?_ _) | (with_reducible refine Kd.C_drewN ?_ _) | (with_reducible refine Kd.C_drew ?_))) hb⟩; replace HB := Aside0.mk (below_step zB hb); clear hb) | (go_at_call 27; refine (block_Zero.calls z t _ AT.out).mono ?_; rintro e w4 ⟨rfl, hb⟩; replace HO := Aside0.mk (Kd.R_below (zR HO) hb); replace HS := Aside0.mk (Kd.S_below (zS HS) hb); replace HY : Aside0 (Kd.C (Kd.int .i64) w4 B1 y.length y) := ⟨Kd.C_below (by repeat (first | (with_reducible exact HY.out) | (with_reducible refine Kd.C_alloc ?_ _) | (with_reducible refine Kd.C_drewN ?_ _) | (with_reducible refine Kd.C_drew ?_))) hb⟩; replace HB := Aside0.mk (below_step zB hb); clear hb))
                    simp only [Exit.jump]
                    go_ret2
                    exact ⟨_, rfl, Kd.R_nil _ _ _ _ _, zB⟩
                | [x] =>
                  simp only [List.length_cons, List.length_nil, Nat.zero_add] at hgv
                  have HGV := Aside0.mk hgv
                  replace hg := Option.bind_eq_some_iff.mp hg
                  obtain ⟨t0, hg, hgc⟩ := hg
                  obtain ⟨s, AS, hg⟩ := Option.bind_eq_some_iff.mp hg
                  have AS := Aside0.mk AS
                  obtain rfl := Option.some.inj hg
                  have HG : Aside0 (outer_Fill.go k z rs n (out.set x.toNat s) = some (r1, r2)) := ⟨hgc⟩
                  have hxy : x ∈ y := (List.mem_filter.1 (by rw [HGL.out]; exact List.mem_singleton.2 rfl : x ∈ y.filter (fun x => !outer_gaps.there out x))).1
                  have hxb := HYD.out.2.2 x hxy
                  have HXB := Aside0.mk hxb
                  have HF : Aside0 (slices_Clone_int_int.f y = some y) := ⟨by unfold slices_Clone_int_int.f; rw [if_pos HYD.out.2.1]⟩
                  clear hgv hg hgc hxy hxb
                  go_wp2_with (first | (go_at_call 30; refine HGV.out.mono ?_; rintro e w2 ⟨Ag, cg, rfl, hle, hCg, hb⟩; have HLE := Aside0.mk hle; have HCG := Aside0.mk hCg; replace HO := Aside0.mk (Kd.R_below HO.out hb); replace HS := Aside0.mk (Kd.S_below HS.out hb); replace HY := Aside0.mk (Kd.C_below HY.out hb); replace HB := Aside0.mk (below_step HB.out hb); clear hb hle hCg HGV; have HT : Aside0 ((w2.alloc (.cells #[.slice Ag 1 cg] 30)).cell? ⟨w2.heap.size, 0, none⟩ = some (.slice Ag 1 cg)) := ⟨by simp⟩; replace HCG : Aside0 (Kd.C (Kd.int .i64) (w2.alloc (.cells #[.slice Ag 1 cg] 30)) Ag [x].length [x]) := ⟨Kd.C_alloc HCG.out _⟩) | (go_at_call 32; refine Calls.mono (slices_Clone_int_int.calls B1 d1 y y _ ?h2 HYL.out HF.out) ?_; (case h2 => exact (by repeat (first | (with_reducible exact HY.out) | (with_reducible refine Kd.C_alloc ?_ _) | (with_reducible refine Kd.C_drewN ?_ _) | (with_reducible refine Kd.C_drew ?_)))); rintro e w5 ⟨v0, rfl, ho, hb⟩; obtain ⟨b1, c2, hv, hb1, hb2, cells, hce⟩ := Kd.R_form ho HYD.out.1; subst hv; have HV := Aside0.mk ho; have HBA := Aside0.mk hb; have HG1 := Aside0.mk hb1; have HG2 := Aside0.mk hb2; clear ho hb hb1 hb2 hce) | (go_at_call 31; refine Calls.mono (slices_DeleteFunc_int_int.gives out.length ?hn (fun i => decide (i = x)) 33 #[.pointer (some ⟨w2.heap.size, 0, none⟩)] (enters_of Try.func33 (by kernel_rfl) rfl) b1 c2 y w5 HYD.out.2.2 HG2.out (Kd.R_reads' HV.out).2.1 ?hm ?hp ?hr) ?_; (case hn => have := HXB.out; omega); (case hm => exact Nat.le_trans HYD.out.2.1 (by decide)); (case hp => exact fun W i h0 h1 hk => outer_Fill.pred x i w2.heap.size Ag cg _ W (fun k hk2 => (hk k (Nat.lt_of_lt_of_le hk2 HBA.out.size) (Nat.ne_of_lt (Nat.lt_of_lt_of_le hk2 HG1.out))).trans (HBA.out.block k hk2)) HT.out HCG.out); (case hr => exact fun j hj => by have h := Kd.R_cell (0 : Int) HV.out (j : Int) (by omega) (by omega); rw [Int.toNat_natCast] at h; exact h); rintro e w6 ⟨rfl, hC, hle, hbb⟩; have hb := hbb _ _ HG1.out HBA.out; have HREST := Aside0.mk hC; have HRL := Aside0.mk hle; replace HT := Aside0.mk (pw_cell_below hb HT.out); replace HCG := Aside0.mk (Kd.C_below HCG.out hb); replace HO := Aside0.mk (Kd.R_below (zR HO) hb); replace HS := Aside0.mk (Kd.S_below (zS HS) hb); replace HB := Aside0.mk (below_step zB hb); clear hb hC hle hbb HV HBA HG1 HG2))
                  obtain ⟨ag, ea, hag⟩ := Kd.at_int HCG.out 0 (by decide) (by simp)
                  subst ea
                  have hag2 : w6.cell? ag = some (.int .i64 x) := by
                    have h9 := hag
                    simpa [Addr.add, rd] using h9
                  have had : ag.add 0 = ag := by simp [Addr.add]
                  obtain ⟨go, co, eo, gb, gl, cl, hgc2⟩ := Kd.R_form HO.out (by have := HXB.out; omega)
                  injection eo with ea_ en_ ec_
                  subst ea_; subst ec_
                  clear en_
                  obtain ⟨hx4, hf4⟩ := Kd.R_celln (⟨#[]⟩ : ByteArray) HO.out x HXB.out.1 HXB.out.2
                  have ht := HT.out
                  have p43 := eq_true HXB.out.1
                  have q43 := eq_true HXB.out.2
                  have HGB := Aside0.mk gb
                  clear hag gb gl hgc2 HT HCG
                  generalize rdOf (⟨#[]⟩ : ByteArray) out x = s0 at hx4
                  refine start_ (n := 10) (S := fun w' => w'.cell? ⟨w2.heap.size, 0, none⟩ = some (.slice (some ag) 1 cg) ∧ w'.cell? ag = some (.int .i64 x) ∧ w'.cell? ⟨go, x.toNat, none⟩ = some (.string s0) ∧ w'.frozen? ⟨go, x.toNat, none⟩ = false) (ds := [9]) #[false, false, false, false, false, false, false, false, false, false] (by kernel_rfl) rfl rfl ⟨ht, hag2, hx4, hf4⟩ (fun hHeld => ?_)
                  refine pure_ (i := 0) (N := some 62) (v := ?_) (a' := ?_) #[true, false, false, false, false, false, false, false, false, false] rfl rfl (by kernel_rfl) (fun _ _ _ h => h) (Or.inl ⟨by rfl, ?_⟩) ?_ ?_
                  rotate_left
                  · intro w'
                    go_simp
                    with_reducible rfl
                  rotate_left
                  · simp only [Act.put, List.setIfInBounds_toArray, List.set_cons_zero, List.set_cons_succ, i64_w, i32_w]
                    rfl
                  refine pure_ (i := 4) (N := some 66) (v := ?_) (a' := ?_) #[true, false, false, false, true, false, false, false, false, false] rfl rfl (by kernel_rfl) (fun _ _ _ h => h) (Or.inl ⟨by rfl, ?_⟩) ?_ ?_
                  rotate_left
                  · intro w'
                    go_simp
                    with_reducible rfl
                  rotate_left
                  · simp only [Act.put, List.setIfInBounds_toArray, List.set_cons_zero, List.set_cons_succ, i64_w, i32_w]
                    rfl
                  refine pure_ (i := 5) (N := some 67) (v := ?_) (a' := ?_) #[true, false, false, false, true, true, false, false, false, false] rfl rfl (by kernel_rfl) (fun _ _ _ h => h) (Or.inl ⟨by rfl, ?_⟩) ?_ ?_
                  rotate_left
                  · intro w'
                    go_simp
                    with_reducible rfl
                  rotate_left
                  · simp only [Act.put, List.setIfInBounds_toArray, List.set_cons_zero, List.set_cons_succ, i64_w, i32_w]
                    rfl
                  refine pure_ (i := 6) (N := some 68) (v := ?_) (a' := ?_) #[true, false, false, false, true, true, true, false, false, false] rfl rfl (by kernel_rfl) (fun _ _ _ h => h) (Or.inl ⟨by rfl, ?_⟩) ?_ ?_
                  rotate_left
                  · intro w'
                    go_simp
                    with_reducible rfl
                  rotate_left
                  · simp only [Act.put, List.setIfInBounds_toArray, List.set_cons_zero, List.set_cons_succ, i64_w, i32_w]
                    rfl
                  refine take_ (i := 1) (N := some 63) (v := ?_) (a' := ?_) #[true, true, false, false, true, true, true, false, false, false] rfl rfl (by kernel_rfl) (fun _ _ _ h => h) (Or.inl ⟨by rfl, ?_⟩) hHeld ?_ ?_
                  rotate_left
                  · rintro w' ⟨s0, s1, s2, s3⟩
                    go_simp
                    with_reducible rfl
                  rotate_left
                  · simp only [Act.put, List.setIfInBounds_toArray, List.set_cons_zero, List.set_cons_succ, i64_w, i32_w]
                    rfl
                  refine pure_ (i := 2) (N := some 64) (v := ?_) (a' := ?_) #[true, true, true, false, true, true, true, false, false, false] rfl rfl (by kernel_rfl) (fun _ _ _ h => h) (Or.inl ⟨by rfl, ?_⟩) ?_ ?_
                  rotate_left
                  · intro w'
                    go_simp
                    with_reducible rfl
                  rotate_left
                  · simp only [Act.put, List.setIfInBounds_toArray, List.set_cons_zero, List.set_cons_succ, i64_w, i32_w]
                    rfl
                  refine take_ (i := 3) (N := some 65) (v := ?_) (a' := ?_) #[true, true, true, true, true, true, true, false, false, false] rfl rfl (by kernel_rfl) (fun _ _ _ h => h) (Or.inl ⟨by rfl, ?_⟩) hHeld ?_ ?_
                  rotate_left
                  · rintro w' ⟨s0, s1, s2, s3⟩
                    go_simp
                    with_reducible rfl
                  rotate_left
                  · simp only [Act.put, List.setIfInBounds_toArray, List.set_cons_zero, List.set_cons_succ, i64_w, i32_w]
                    rfl
                  refine one_ (i := 7) (N := some 69) #[true, true, true, true, true, true, true, true, false, false] rfl rfl (by kernel_rfl) (by decide) (fun K hK => ?_)
                  refine goes_ Try.func24 (by kernel_rfl) rfl #[.slice (some ⟨go, 0, none⟩) out.length c7, .slice (some ⟨b1, 0, none⟩) (y.filter fun i => !decide (i = x)).length c2, .int .i64 z] (by rfl) rfl rfl (by simp only [List.map_toArray, List.map_cons, List.map_nil]; rfl) ?_
                  with_reducible refine (outer_sum.calls k (some ⟨go, 0, none⟩) c7 out (some ⟨b1, 0, none⟩) c2 (y.filter fun i => !decide (i = x)) z s w6.drew (outer_Fill.rc (Kd.R_drew HO.out)) (Kd.R_reads' HO.out).2.1 (Kd.C_drew HREST.out) HRL.out AS.out).mono ?_
                  rintro e w7 ⟨rfl, hbk⟩
                  refine ⟨_, rfl, ?_⟩
                  have HO7 := Aside0.mk (Kd.R_below (Kd.R_drew HO.out) hbk)
                  have HS7 := Aside0.mk (Kd.S_below (Kd.S_drew HS.out) hbk)
                  have HB7 := Aside0.mk (below_step (below_drew HB.out) hbk)
                  have ht7 := pw_cell_below hbk (show w6.drew.cell? ⟨w2.heap.size, 0, none⟩ = some (.slice (some ag) 1 cg) from ht)
                  have hag7 := pw_cell_below hbk (show w6.drew.cell? ag = some (.int .i64 x) from hag2)
                  have hx7 := pw_cell_below hbk (show w6.drew.cell? ⟨go, x.toNat, none⟩ = some (.string s0) from hx4)
                  have hf7 := outer_Fill.frz hbk (show w6.drew.cell? ⟨go, x.toNat, none⟩ = some (.string s0) from hx4) hf4
                  refine hK.out _ _ ⟨ht7, hag7, hx7, hf7⟩ (fun hHeld => ?_)
                  clear hK K
                  refine norm_ (a' := ?_) ?_ ?_
                  rotate_left
                  · show Act.put _ (some 69) _ = _
                    simp only [Act.put, List.setIfInBounds_toArray, List.set_cons_zero, List.set_cons_succ, i64_w, i32_w]
                    rfl
                  refine pure_ (i := 8) (N := some 70) (v := ?_) (a' := ?_) #[true, true, true, true, true, true, true, true, true, false] rfl rfl (by kernel_rfl) (fun _ _ _ h => h) (Or.inl ⟨by rfl, ?_⟩) ?_ ?_
                  rotate_left
                  · intro w'
                    go_simp
                    with_reducible rfl
                  rotate_left
                  · simp only [Act.put, List.setIfInBounds_toArray, List.set_cons_zero, List.set_cons_succ, i64_w, i32_w]
                    rfl
                  refine last_ (i := 9) (N := none) #[true, true, true, true, true, true, true, true, true, true] rfl rfl (by kernel_rfl) (by decide) (fun K hK => ?_)
                  refine skip_ (w1 := ?_) (by rfl) rfl ?_ ?_
                  rotate_left
                  · go_simp
                    rfl
                  refine hK.out _ _ ?_
                  clear hK K
                  refine done_ (by kernel_rfl) ?_
                  
                  go_wp2_with fail
                  go_step3
                  have hput := Kd.R_putg HO7.out x s
                  refine ⟨rfl, n, Nat.lt_succ_self n, ?_⟩
                  exact ⟨out.set x.toNat s, some ⟨go, 0, none⟩, c7, .slice (some ad) rs.length cr, _, outer_Fill.fr_eq _ _ _ _ _ _ _ _ _ _ _ _ _ _ _ _ _ _ _ _ _ _ _ _ _ _ _ _ _ _ _ _ _ _ _ _ _ _ _ _ _ _ _ _ _ _ _ _ _ _ _ _ _ _ _ _ _ _ _ _ _ _ _ _ _ _ _ _ _ _ _ _ _ _ _, by rw [List.length_set], HG, ⟨hput.1⟩, ⟨base, ⟨Kd.S_over' (v := .slice (some ⟨go, 0, none⟩) out.length c7) HS7.out (Kd.R_typed HO7.out) (by decide) hput.2⟩⟩, ⟨below_set HB7.out HGB.out⟩⟩
                | x :: x2 :: g =>
                  have HG : Aside0 ((outer_Fill.scan k z out (rs.drop (j + 1))).bind (outer_Fill.cont k z rs n out) = some (r1, r2)) := ⟨hg⟩
                  have hm2 : 2 ≤ (x :: x2 :: g).length := by simp
                  generalize (x :: x2 :: g).length = m at hgv hm2
                  have HGV := Aside0.mk hgv
                  have c2a : ((m : Int) == 0) = false := beq_eq_false_iff_ne.mpr (by omega)
                  have c2b : ((m : Int) == 1) = false := beq_eq_false_iff_ne.mpr (by omega)
                  clear hgv hg hm2
                  go_wp2_with (go_at_call 30; refine HGV.out.mono ?_; rintro e w2 ⟨Ag, cg, rfl, hle, hCg, hb⟩; have HLE := Aside0.mk hle; have HCG := Aside0.mk hCg; replace HO := Aside0.mk (Kd.R_below HO.out hb); replace HS := Aside0.mk (Kd.S_below HS.out hb); replace HY := Aside0.mk (Kd.C_below HY.out hb); replace HB := Aside0.mk (below_step HB.out hb); clear hb hle hCg HGV)
                  go_roundg (rs.length - (j + 1))
                  case measure => omega
                  case rel => exact ⟨j + 1, by omega, by omega, by go_num, HG, ⟨zR HO⟩, ⟨zS HS⟩, ⟨zB⟩⟩
              · have hltz : ¬ (j : Int) < (rs.length : Int) := by omega
                have hd : rs.drop j = [] := List.drop_of_length_le (by omega)
                have hg := HG.out
                rw [hd, outer_Fill.scan, Option.bind_some, outer_Fill.cont] at hg
                injection hg with hg
                injection hg with e1 e2
                subst e1; subst e2
                clear HG hd hgg hj hlt
                go_wp2_with fail
                simp only [Exit.jump]
                go_ret2
                exact ⟨_, rfl, HO.out, HB.out⟩
    · rw [if_neg c7] at h
      injection h with h
      injection h with e1 e2
      subst e1; subst e2
      have c7b0 : ((l1.length : Int) == wrap64 (a0_1 + a0_2)) = false := beq_eq_false_iff_ne.mpr c7
      have c7b1 : ((l1.length : Int) != wrap64 (a0_1 + a0_2)) = true := bne_iff_ne.mpr c7
      clear c7
      go_enter Try.func15, Try.ntmps15
      go_wp2_with (first | ((with_reducible refine gate_dst (N := 2) rfl ?_); refine box_event ?hg (N := 2) ?hd (cs := #[.int .i64 a0_0, .int .i64 a0_1, .int .i64 a0_2, .int .i64 a0_3]) (t := 23) ?hr ?_; (case hd => rfl); (case hg => rfl); (case hr => first | (go_simp; done) | (go_simp; rfl)); intro g1 hg w2 hbox hb; have BK1 := Aside0.mk hbox; have GE1 := Aside0.mk ((zg : w.heap.size ≤ g1)); replace HB := Aside0.mk (below_step zB hb); clear hb hbox hg; obtain ⟨p0, p1, p2, p3⟩ := cZ4 BK1))
      refine wp_scope_ghost 0 (fun _ _ _ => False) rfl (fun _ _ _ hF => hF.elim) ?_
      intro _
      go_wp2_with (first | (go_at_call 29; (with_reducible refine (outer_size.calls k A1 c1 l1 z _ (Kd.C_below HR1.out zB) HC1.out A1z.out).mono ?_); rintro e w3 ⟨rfl, hdz⟩; have hb := Drawn0.below hdz; clear hdz; (try clear p0); (try clear p1); (try clear p2); (try clear p3); replace BK1 := Aside0.mk (blk_below (zk BK1) hb); replace HB := Aside0.mk (below_step zB hb); clear hb; obtain ⟨p0, p1, p2, p3⟩ := cZ4 BK1) | ((with_reducible refine gate_callee (f := 8) rfl ?_); refine goesL_ (some 16) rfl rfl Try.func8 (by kernel_rfl) rfl #[.agg #[.int .i64 a0_0, .int .i64 a0_1, .int .i64 a0_2, .int .i64 a0_3]] rfl zM ?_; (with_reducible refine (outer_Check.calls a0_0 a0_1 a0_2 a0_3 true _ A5.out).mono ?_); rintro e w4 ⟨rfl, hb⟩; refine ⟨_, rfl, ?_⟩; (try clear p0); (try clear p1); (try clear p2); (try clear p3); replace BK1 := Aside0.mk (blk_below (zk BK1) hb); replace HB := Aside0.mk (below_step zB hb); clear hb; obtain ⟨p0, p1, p2, p3⟩ := cZ4 BK1))
      simp only [Exit.jump]
      go_ret2
      exact ⟨_, rfl, Kd.R_nil _ _ _ _ _, zB⟩
end Go.Proofs.Ytghhmnjkgnoogaa.POuterBack
