import Derived.Deep.MidRow
import Derived.Deep.QuietTactic
import Derived.Deep.RegionLaw
import Derived.Lib.AppendStr
import Derived.Test.YtghhmnjkgnoogaaWWords
import Derived.Test.YtghhmnjkgnoogaaWMore
import Derived.Test.YtghhmnjkgnoogaaMine
namespace Go.Mine
open Go Go.RowKit Go.Proofs.YtghhmnjkgnoogaaW.PrintWords Go.Proofs.YtghhmnjkgnoogaaW.PrintMore
set_option linter.unusedVariables false
/-- The words of the sum's start, and of its rounds. -/
def shaStart : List Int := [1779033703, 3144134277, 1013904242, 2773480762, 1359893119, 2600822924, 528734635, 1541459225]
def shaK : List Int := [1116352408, 1899447441, 3049323471, 3921009573, 961987163, 1508970993, 2453635748, 2870763221, 3624381080, 310598401, 607225278, 1426881987, 1925078388, 2162078206, 2614888103, 3248222580, 3835390401, 4022224774, 264347078, 604807628, 770255983, 1249150122, 1555081692, 1996064986, 2554220882, 2821834349, 2952996808, 3210313671, 3336571891, 3584528711, 113926993, 338241895, 666307205, 773529912, 1294757372, 1396182291, 1695183700, 1986661051, 2177026350, 2456956037, 2730485921, 2820302411, 3259730800, 3345764771, 3516065817, 3600352804, 4094571909, 275423344, 430227734, 506948616, 659060556, 883997877, 958139571, 1322822218, 1537002063, 1747873779, 1955562222, 2024104815, 2227730452, 2361852424, 2428436474, 2756734187, 3204031479, 3329325298]
/-- A block of words. -/
def WordRow (T : TypeId) (w : World) (g : Nat) (xs : List Int) : Prop := w.heap[g]? = some (.cells (xs.map (Value.int .u32)).toArray T (0, 0))
section
variable {T : TypeId} {w w1 : World} {g : Nat} {xs : List Int}
theorem WordRow.lt (h : WordRow T w g xs) : g < w.heap.size := (Array.getElem?_eq_some_iff.1 h).1
theorem WordRow.cell (h : WordRow T w g xs) (j : Nat) (hj : j < xs.length) : w.cell? ⟨g, j, none⟩ = some (.int .u32 (xs.getD j 0)) := by
  unfold WordRow at h
  simp [World.cell?, h, hj, List.getD_eq_getElem?_getD]
theorem WordRow.frozen (h : WordRow T w g xs) (j : Nat) : w.frozen? ⟨g, j, none⟩ = false := by
  unfold WordRow at h
  simp [World.frozen?, h]
theorem WordRow.same (h : WordRow T w g xs) (hs : w1.heap[g]? = w.heap[g]?) : WordRow T w1 g xs := hs.trans h
theorem WordRow.drew (h : WordRow T w g xs) : WordRow T w.drew g xs := h
theorem WordRow.drewN (h : WordRow T w g xs) (n : Nat) : WordRow T (w.drewN n) g xs := h
theorem WordRow.below (h : WordRow T w g xs) (hb : Below w.heap.size w w1) : WordRow T w1 g xs := h.same (hb.block g h.lt)
theorem WordRow.alloc (h : WordRow T w g xs) (o : Obj) : WordRow T (w.alloc o) g xs := h.same (Below.heap_alloc w o g h.lt)
theorem WordRow.set (h : WordRow T w g xs) (j : Nat) (v : Int) : WordRow T (w.setCell ⟨g, j, none⟩ (.int .u32 v)) g (xs.set j v) := by
  unfold WordRow at h ⊢
  simp only [World.setCell]
  rw [Array.getElem?_modify]
  simp [h]
theorem WordRow.far (h : WordRow T w g xs) {p : Addr} (hne : g ≠ p.block) (u : Value) : WordRow T (w.setCell p u) g xs := h.same (Below.heap_setCell _ _ _ _ hne)
end
/-- A whole array is stored: the operation's law, the world behind it a letter. -/
theorem WordRow.store {P : Program} {ops : Array Oper} {rest : List Oper} {op : Oper} {a : Act} {W w0 : World} {Q : Exit → Act → World → Prop} {B : Nat} (hgd : op.guard = none) (ty : TypeId) (x y : Operand) (ho : op.op = .store ty x y)
    (b : Nat) (xs old : List Int) (hx : a.eval x = .pointer (some ⟨b, 0, none⟩)) (hy : a.eval y = .agg (xs.map (Value.int .u32)).toArray) {T : TypeId}
    (h : WordRow T W b old) (hl : old.length = xs.length) (hi : (P.info? ty).map (·.size) = some xs.length) (hB : Below B w0 W) (hb : B ≤ b)
    (K : ∀ w1, WordRow T w1 b xs → (∀ k, k ≠ b → w1.heap[k]? = W.heap[k]?) → w1.heap.size = W.heap.size → Below B w0 w1 → wpList P ops Q rest (a.put op.dst undef) w1) : wpList P ops Q (op :: rest) a W := by
  have hsz : (xs.map (Value.int .u32)).toArray.size = xs.length := by simp
  refine wpList_store_mid hgd ty x y ho b 0 _ hx hy (fun j hj => ?_) (by rw [hsz]; exact hi) (all_oneCell_toArray fun v hv => ?_) ?_
  · rw [hsz] at hj
    rw [Nat.zero_add]
    exact ⟨by rw [h.cell j (by omega)]; rfl, h.frozen j⟩
  · obtain ⟨x, _, rfl⟩ := List.mem_map.1 hv
    rfl
  · obtain ⟨cur', h3, h4, h5⟩ := setCells_row (xs.map (Value.int .u32)).toArray.toList 0 W _ h (by simp [hl])
    obtain ⟨e1, e2, e3, e4⟩ := setCells_same b (xs.map (Value.int .u32)).toArray.toList 0 W
    have h6 : cur' = (xs.map (Value.int .u32)).toArray := by
      apply Array.ext'
      rw [h5]
      simp [hl]
    refine K _ (by rw [h6] at h3; exact h3) (fun k hk => setCells_far _ 0 k hk) e4 ⟨e1.trans hB.os, e2.trans hB.tape, e3.trans hB.output, by rw [e4]; exact hB.size, fun i hi => (setCells_far _ 0 i (by omega)).trans (hB.block i hi)⟩
/-- A whole array is loaded. -/
theorem WordRow.load {P : Program} {ops : Array Oper} {rest : List Oper} {op : Oper} {a : Act} {W : World} {Q : Exit → Act → World → Prop} (hgd : op.guard = none) (ty : TypeId) (x : Operand) (ho : op.op = .load ty x)
    (b : Nat) (xs : List Int) (hx : a.eval x = .pointer (some ⟨b, 0, none⟩)) {T : TypeId} (h : WordRow T W b xs) (d : TypeDesc) (hu : P.underlying ty = some d) (hd : (match d with | .struct _ | .array _ _ => true | _ => false) = true)
    (hi : (P.info? ty).map (·.size) = some xs.length) (K : wpList P ops Q rest (a.put op.dst (.agg (xs.map (Value.int .u32)).toArray)) W) : wpList P ops Q (op :: rest) a W :=
  wpList_load_row hgd ty x ho b hx T _ (0, 0) d h hu hd (by simpa using hi) K
theorem zeroW (n : Nat) : (List.replicate n (Value.int .u32 0)) = (List.replicate n (0 : Int)).map (Value.int .u32) := by simp
theorem quiet_drawn {P : Program} {f : FuncId} {args : Array Value} {w : World} {n : Nat} {v : Value}
    (h : Calls P f args (w.drewN n) fun e w' => e = .returned v ∧ Drawn0 (w.drewN n) w') : Calls P f args (w.drewN n) fun e w'' => e = .returned v ∧ ∃ m, w'' = w.drewN m :=
  h.mono fun _ _ ⟨he, ⟨m, hm⟩⟩ => ⟨he, n + m, by rw [hm, World.drewN_drewN]⟩
theorem quiet_drawn_add {P : Program} {f : FuncId} {args : Array Value} {w : World} {a n : Nat} {v : Value}
    (h : Calls P f args (w.drewN (a + n)) fun e w' => e = .returned v ∧ Drawn0 (w.drewN (a + n)) w') : Calls P f args (w.drewN (a + n)) fun e w'' => e = .returned v ∧ ∃ m, w'' = w.drewN (a + m) :=
  h.mono fun _ _ ⟨he, ⟨m, hm⟩⟩ => ⟨he, n + m, by rw [hm, World.drewN_drewN, Nat.add_assoc]⟩
/-- append of a text's bytes to a row of the call's own, as one step of a region that draws. -/
theorem step_append_str {P : Program} {ops : Array Oper} {o : Oper} {a : Act} {w : World} {K : Act → World → Prop} {Q : Exit → Act → World → Prop} {E : Prop} (hg : o.guard = none) (sl x : Operand) (t u : TypeId)
    (ho : o.op = .call { callee := .builtin .append, args := #[sl, x], argTypes := #[t, u] }) (base : Nat) (e : TypeId) (ht : P.underlying t = some (.slice e)) (hu : P.underlying u = some .string)
    (hinfo : (P.info? e).map (fun i => (i.zero, i.size, i.bytes)) = some (some (.int .u8 0), 1, 1)) (v : Value) (xs : List Int) (y : ByteArray) (hs : a.eval sl = v) (hx : a.eval x = .string y)
    (hown : w.ownsRow base e 1 v xs.length (nums .u8 xs)) (hl : xs.length + y.size ≤ 140737488355328) (hbase : base ≤ w.heap.size)
    (h : ∀ v1 w1, w1.ownsRow base e 1 v1 (xs ++ bytesOf y).length (nums .u8 (xs ++ bytesOf y)) → w.grownBy w1 v.ownBlock → K (a.put o.dst v1) w1) :
    if Region.wanted o (yielded ops a.tmps) = true then Oper.wp P o a w K Q else E := by
  have hw : Region.wanted o (yielded ops a.tmps) = true := by simp [Region.wanted, hg]
  rw [if_pos hw]
  obtain ⟨i0, hi, hzz⟩ := Option.map_eq_some_iff.1 hinfo
  simp only [Prod.mk.injEq] at hzz
  obtain ⟨hz0, hz1, hz2⟩ := hzz
  obtain ⟨v', w', hr, h2, h3, h4⟩ := Lib.run_append_own_string (P := P) w base t u o.type e i0 ht hu hi hz0 hz1 hz2 v xs.length (nums .u8 xs) hown y (by simp only [maxLen]; omega) hl hbase
  have hl2 : (xs ++ bytesOf y).length = xs.length + y.size := by rw [List.length_append, bytesOf_length]
  have hc : nums .u8 (xs ++ bytesOf y) = nums .u8 xs ++ Lib.strCells y := by
    rw [nums_append]
    congr 1
    simp [nums, bytesOf, Lib.strCells]
  unfold Oper.wp execOp
  simp only [ho, resolve, invoke, builtin, Sem.run_bind, Sem.run_pure, Result.andThen_ok, List.map_toArray, List.map_cons, List.map_nil, hs, hx, hr]
  exact h v' w' (by rw [hl2, hc]; exact h2) h3
theorem own_ne_blk {w : World} {base g : Nat} {e t : TypeId} {size n : Nat} {v : Value} {xs : List Value} {cs : Array Value} (h : w.ownsRow base e size v n xs) (hb : w.heap[g]? = some (.cells cs t (0, 0))) (ht : t ≠ e) : some g ≠ v.ownBlock := by
  intro hk
  obtain ⟨cells, hc⟩ := own_typed h g hk.symm
  rw [hb] at hc
  injection hc with hc
  injection hc with _ hc
  exact ht hc
theorem own_is_slice {w : World} {base : Nat} {e : TypeId} {size n : Nat} {v : Value} {xs : List Value} (h : w.ownsRow base e size v n xs) : ∃ a c, v = .slice a n c := by
  rcases h.2 with ⟨rfl, rfl⟩ | ⟨g, cap, _, rfl, _⟩
  · exact ⟨_, _, rfl⟩
  · exact ⟨_, _, rfl⟩
theorem own_cap_le {w : World} {base : Nat} {e : TypeId} {size n c : Nat} {a : Option Addr} {xs : List Value} (h : w.ownsRow base e size (.slice a n c) n xs) : n ≤ c := by
  rcases h.2 with ⟨h1, h2⟩ | ⟨g, cap, _, h1, _, _, h2, _⟩
  · omega
  · injection h1 with _ _ h3
    omega
theorem own_some {w : World} {base : Nat} {e : TypeId} {size n c : Nat} {a : Option Addr} {xs : List Value} (h : w.ownsRow base e size (.slice a n c) n xs) (hn : 0 < n) : ∃ g, a = some ⟨g, 0, none⟩ := by
  rcases h.2 with ⟨h1, h2⟩ | ⟨g, cap, _, h1, _⟩
  · omega
  · injection h1 with h3 _ _
    exact ⟨g, h3⟩
/-- A row cut to nothing. -/
theorem own_zero {w : World} {base : Nat} {e : TypeId} {size n c g : Nat} {xs : List Value} (h : w.ownsRow base e size (.slice (some ⟨g, 0, none⟩) n c) n xs) : w.ownsRow base e size (.slice (some ⟨g, 0, none⟩) 0 c) 0 [] := by
  rcases h.2 with ⟨h1, h2⟩ | ⟨g', cap, cur, h1, hbg, hg, hnc, hcm, hcs, htake⟩
  · cases h1
  · injection h1 with h3 _ h5
    injection h3 with h3
    injection h3 with h3
    subst h3; subst h5
    exact ⟨by simp, .inr ⟨g, c, cur, rfl, hbg, hg, Nat.zero_le _, hcm, hcs, by simp⟩⟩
/-- A word turned right. -/
def rotI (x n : Int) : Int := Go.bits .or .u32 (shl .u32 x (32 - n)) (shr .u32 x n)
/-- The word that begins at a byte. -/
def wordI (b : List Int) (a : Nat) : Int := Go.bits .or .u32 (Go.bits .or .u32 (Go.bits .or .u32 ((((b.getD a 0) % 4294967296) * 16777216) % 4294967296) ((((b.getD (a + 1) 0) % 4294967296) * 65536) % 4294967296)) ((((b.getD (a + 2) 0) % 4294967296) * 256) % 4294967296)) ((b.getD (a + 3) 0) % 4294967296)
def sig0 (x : Int) : Int := Go.bits .xor .u32 (Go.bits .xor .u32 (rotI x 7) (rotI x 18)) (x / 8)
def sig1 (x : Int) : Int := Go.bits .xor .u32 (Go.bits .xor .u32 (rotI x 17) (rotI x 19)) (x / 1024)
/-- The first t words of a block, and of those that are made of them. -/
def schW (b : List Int) : Nat → List Int
  | 0 => []
  | t + 1 => schW b t ++ [if t < 16 then wordI b (4 * t) else (sig1 ((schW b t).getD (t - 2) 0) + (schW b t).getD (t - 7) 0 + sig0 ((schW b t).getD (t - 15) 0) + (schW b t).getD (t - 16) 0) % 4294967296]
theorem schW_length (b : List Int) (t : Nat) : (schW b t).length = t := by
  induction t with
  | zero => rfl
  | succ t ih => rw [schW, List.length_append, ih]; rfl
/-- The two sums of a round. -/
def xor3 (x a b c : Int) : Int := Go.bits .xor .u32 (Go.bits .xor .u32 (rotI x a) (rotI x b)) (rotI x c)
def chI (e f g : Int) : Int := Go.bits .xor .u32 (Go.bits .and .u32 e f) (Go.bits .and .u32 (Go.bits .xor .u32 IntKind.u32.max e) g)
def majI (a b c : Int) : Int := Go.bits .xor .u32 (Go.bits .xor .u32 (Go.bits .and .u32 a b) (Go.bits .and .u32 a c)) (Go.bits .and .u32 b c)
def t1I (e f g h k x : Int) : Int := h + xor3 e 6 11 25 + chI e f g + k + x
def t2I (a b c : Int) : Int := xor3 a 2 13 22 + majI a b c
/-- One round on eight words. -/
def rndW (s : List Int) (k x : Int) : List Int :=
  let a := s.getD 0 0; let b := s.getD 1 0; let c := s.getD 2 0; let d := s.getD 3 0; let e := s.getD 4 0; let f := s.getD 5 0; let g := s.getD 6 0; let h := s.getD 7 0
  [(t1I e f g h k x + t2I a b c) % 4294967296, a, b, c, (d + t1I e f g h k x) % 4294967296, e, f, g]
def rndsW (s b : List Int) : Nat → List Int
  | 0 => s
  | t + 1 => rndW (rndsW s b t) (shaK.getD t 0) ((schW b 64).getD t 0)
/-- Two states, word by word. -/
def addW (s z : List Int) : List Int := (List.range 8).map fun i => (z.getD i 0 + s.getD i 0) % 4294967296
/-- A block mixed into a state. -/
def mixW (s b : List Int) : List Int := addW s (rndsW s b 64)
theorem rndsW_length (s b : List Int) (hs : s.length = 8) (t : Nat) : (rndsW s b t).length = 8 := by
  cases t with
  | zero => exact hs
  | succ t => rfl
/-- The first t words added. -/
def mixP (s z : List Int) (t : Nat) : List Int := (addW s z).take t ++ z.drop t
theorem addW_length (s z : List Int) : (addW s z).length = 8 := by simp [addW]
theorem mixP_length (s z : List Int) (hz : z.length = 8) (t : Nat) (ht : t ≤ 8) : (mixP s z t).length = 8 := by
  unfold mixP
  rw [List.length_append, List.length_take, List.length_drop, addW_length]
  omega
theorem mixP_zero (s z : List Int) : mixP s z 0 = z := by simp [mixP]
theorem mixP_end (s z : List Int) (hz : z.length = 8) : mixP s z 8 = addW s z := by
  unfold mixP
  rw [List.take_of_length_le (by rw [addW_length]; omega), List.drop_of_length_le (by omega), List.append_nil]
theorem mixP_get (s z : List Int) (t : Nat) (ht : t < 8) : (mixP s z t).getD t 0 = z.getD t 0 := by
  unfold mixP
  have h1 : ((addW s z).take t).length = t := by rw [List.length_take, addW_length]; omega
  rw [List.getD_eq_getElem?_getD, List.getD_eq_getElem?_getD, List.getElem?_append_right (by omega), h1, Nat.sub_self, List.getElem?_drop, Nat.add_zero]
theorem mixP_set (s z : List Int) (hz : z.length = 8) (t : Nat) (ht : t < 8) : (mixP s z t).set t ((z.getD t 0 + s.getD t 0) % 4294967296) = mixP s z (t + 1) := by
  have h1 : ((addW s z).take t).length = t := by rw [List.length_take, addW_length]; omega
  have h2 : z.drop t = z[t] :: z.drop (t + 1) := List.drop_eq_getElem_cons (by omega)
  have h3 : t < (addW s z).length := by rw [addW_length]; exact ht
  have h4 : (addW s z)[t] = (z.getD t 0 + s.getD t 0) % 4294967296 := by simp [addW]
  unfold mixP
  rw [List.set_append_right _ _ (by omega), h1, Nat.sub_self, h2, List.set_cons_zero, List.take_succ_eq_append_getElem h3, h4, List.append_assoc, List.singleton_append]
theorem eight {α : Type} (s : List α) (hs : s.length = 8) : ∃ a b c d e f g h, s = [a, b, c, d, e, f, g, h] := by
  match s, hs with
  | [a, b, c, d, e, f, g, h], _ => exact ⟨a, b, c, d, e, f, g, h, rfl⟩
/-- What is written behind p into a state: whole blocks are mixed in; what is left. -/
def hashGo : Nat → List Int → List Int → ByteArray → List Int × List Int
  | 0, st, p, _ => (st, p)
  | d + 1, st, p, s => if 64 ≤ p.length + s.size then hashGo d (mixW st (p ++ bytesOf (s.extract 0 (64 - p.length)))) [] (s.extract (64 - p.length) s.size) else (st, p ++ bytesOf s)
theorem mixW_length (s b : List Int) : (mixW s b).length = 8 := addW_length _ _
/-- Blocks mixed in one behind the other. -/
def foldW : Nat → List Int → List Int → List Int
  | 0, st, _ => st
  | d + 1, st, l => foldW d (mixW st (l.take 64)) (l.drop 64)
theorem foldW_length (d : Nat) : ∀ (st l : List Int), st.length = 8 → (foldW d st l).length = 8 := by
  induction d with
  | zero => intro st l h; exact h
  | succ d ih => intro st l h; exact ih _ _ (mixW_length _ _)
/-- A state as bytes. -/
def outW : List Int → List Int
  | [] => []
  | x :: l => x / 16777216 % 256 :: x / 65536 % 256 :: x / 256 % 256 :: x % 256 :: outW l
theorem outW_length (l : List Int) : (outW l).length = 4 * l.length := by
  induction l with
  | nil => rfl
  | cons x l ih => simp only [outW, List.length_cons, ih]; omega
theorem outW_append (a b : List Int) : outW (a ++ b) = outW a ++ outW b := by
  induction a with
  | nil => rfl
  | cons x l ih => simp only [List.cons_append, outW, ih]
/-- What is summed up of a state, a part and what stands behind it. -/
def hsumS (st p : List Int) (pd : ByteArray) : ByteArray := strOfNums (outW (foldW ((p ++ bytesOf pd).length / 64) st (p ++ bytesOf pd)))
/-- 'xs[m:]' without a case on the capacity, of what stays as it is. -/
theorem cut_F {P : Program} (t e : TypeId) (kl : IntKind) {i : TypeInfo} (ht : P.underlying t = some (.slice e)) (hi : P.info? e = some i) (hsz : i.size = 1) (A : Option Addr) (n c m : Nat) (hm : m ≤ n) :
    ∃ A' : Option Addr, (∀ W : World, (Instr.slice t (.slice A n c) (some (.int kl (m : Int))) none none).run P W = .ok (.slice A' (n - m) (c - m)) W) ∧
      ∀ (w : World) (ok : Nat → Prop) (xs : List Int), n ≤ c → Kd.F (Kd.int .u8) w ok A n xs → Kd.F (Kd.int .u8) w ok A' (n - m) (xs.drop m) := by
  refine ⟨if c = m then A else A.map (·.add m), fun W => ?_, fun w ok xs hc h => ?_⟩
  · have hel : P.elem t = e := by simp [Program.elem, ht]
    have hu : P.underlying t = some (.slice (P.elem t)) := by rw [hel]; exact ht
    rw [run_slice_l W t A n c hu kl (m : Int) (Int.natCast_nonneg _) (by omega), hel]
    simp [sizeOf, typeInfo, hi, hsz, sliced, Result.andThen]
  · have hn : xs.length = n := (Kd.F_now h).1
    subst hn
    have h2 := Kd.F_cut h hm hc
    rw [List.length_drop, show (Kd.int .u8).sz = 1 from rfl, Nat.mul_one] at h2
    exact h2
/-- 's[i]' of a row of words by value. -/
theorem run_index_word {P : Program} (t e : TypeId) (cs : Array Value) (k : IntKind) (i : Nat) (v : Value) (h : P.underlying t = some (.array cs.size e)) (he : P.underlying e = some (.int .u32))
    (hinfo : (P.info? e).map (·.size) = some 1) (hv : cs[i]? = some v) (W : World) : (Instr.index t (.agg cs) (.int k (i : Int))).run P W = .ok v W := by
  obtain ⟨i0, hi, hsz⟩ := Option.map_eq_some_iff.1 hinfo
  have hlt : i < cs.size := (Array.getElem?_eq_some_iff.1 hv).1
  have h1 : (0 : Int) ≤ (i : Int) ∧ (i : Int) < (cs.size : Int) := by omega
  simp [Instr.index, run_underlying h, asIntOf, sizeOf, typeInfo, hi, hsz, part, isAgg, run_underlying he, hv]
  intro h9
  omega
end Go.Mine
