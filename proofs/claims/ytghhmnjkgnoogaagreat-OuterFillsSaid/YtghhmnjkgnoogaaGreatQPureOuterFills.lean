/- OuterFills: for every plan and all blocks: what is filled into the blocks by the plan's rules is what the document says, or the error is. No condition. -/
import Derived.Test.YtghhmnjkgnoogaaGreatTOuterFillsa
import Derived.Test.YtghhmnjkgnoogaaGreatQOuterFillsx13
import Derived.Laws.BitsAllLaws
import Derived.Lib.Repeat
import Derived.Laws.BitsLemmas
namespace Go.Mine
open Go Go.RowKit Go.Proofs.YtghhmnjkgnoogaaGreatW.PrintWords Go.Proofs.YtghhmnjkgnoogaaGreatW.PrintLast Go.Proofs.YtghhmnjkgnoogaaGreatW.PrintMore
theorem wrap64_id (n : Int) (h1 : -9223372036854775808 ≤ n) (h2 : n ≤ 9223372036854775807) : wrap64 n = n := by
  unfold wrap64
  omega
theorem tdiv_pos (a b : Int) (h : 0 ≤ a) : Int.tdiv a b = a / b := Int.tdiv_eq_ediv_of_nonneg h
theorem tmod_pos (a b : Int) (h : 0 ≤ a) : Int.tmod a b = a % b := Int.tmod_eq_emod_of_nonneg h
def nb (s : ByteArray) (j : Nat) : Nat := (s.data.toList.getD j 0).toNat
theorem nb_lt (s : ByteArray) (j : Nat) : nb s j < 256 := by
  have := (s.data.toList.getD j 0).toNat_lt
  unfold nb
  omega
theorem len_data (s : ByteArray) : s.data.toList.length = s.size := by rw [Array.length_toList]; rfl
theorem nb_oob (s : ByteArray) (j : Nat) (h : s.size ≤ j) : nb s j = 0 := by
  unfold nb
  rw [List.getD_eq_getElem?_getD, List.getElem?_eq_none (by rw [len_data]; exact h)]
  rfl
theorem bt_nb (s : ByteArray) (i : Int) : bt s i = (nb s i.toNat : Int) := by
  unfold bt
  split
  · rename_i h
    unfold nb
    rw [List.getD_eq_getElem?_getD, List.getElem?_eq_getElem (by rw [len_data]; exact h)]
    rfl
  · rename_i h
    rw [nb_oob s _ (by omega)]
    rfl
def hb (s : ByteArray) (i : Nat) : Bool := (nb s (i / 8)).testBit (i % 8)
theorem bytes_ext (s t : ByteArray) (hs : s.size = t.size) (h : ∀ j, j < s.size → nb s j = nb t j) : s = t := by
  have hl : s.data.toList = t.data.toList := by
    apply List.ext_getElem
    · rw [len_data, len_data]; exact hs
    · intro j h1 h2
      have := h j (by rw [len_data] at h1; exact h1)
      unfold nb at this
      rw [List.getD_eq_getElem?_getD, List.getD_eq_getElem?_getD, List.getElem?_eq_getElem h1, List.getElem?_eq_getElem h2] at this
      exact UInt8.toNat_inj.1 this
  have hd : s.data = t.data := Array.toList_inj.1 hl
  cases s; cases t
  simp only at hd
  rw [hd]
theorem strOfNums_size' (xs : List Int) : (strOfNums xs).size = xs.length := strOfNums_size xs
theorem nb_strOfNums (xs : List Int) (j : Nat) : nb (strOfNums xs) j = ((xs.getD j 0).toNat) % 256 := by
  unfold nb
  rw [strOfNums_data, List.getD_eq_getElem?_getD, List.getElem?_map, List.getD_eq_getElem?_getD]
  cases xs[j]? with
  | none => rfl
  | some v => simp
theorem nb_bytesI (s : ByteArray) (j : Nat) : (bytesI s).getD j 0 = (nb s j : Int) := by
  unfold bytesI nb
  rw [List.getD_eq_getElem?_getD, List.getElem?_map, List.getD_eq_getElem?_getD]
  cases s.data.toList[j]? with
  | none => rfl
  | some v => rfl
end Go.Mine
namespace Go.Mine
open Go Go.RowKit Go.Proofs.YtghhmnjkgnoogaaGreatW.PrintWords Go.Proofs.YtghhmnjkgnoogaaGreatW.PrintLast Go.Proofs.YtghhmnjkgnoogaaGreatW.PrintMore
set_option linter.unusedVariables false
theorem rep0 (c : Nat) : Lib.repeatL [0] c = List.replicate c (0 : UInt8) := by
  induction c with
  | zero => rfl
  | succ c ih => rw [Lib.repeatL, ih]; rfl
def zeroS (c : Nat) : ByteArray := ⟨(List.replicate c (0 : UInt8)).toArray⟩
theorem zeroS_size (c : Nat) : (zeroS c).size = c := by simp [zeroS, ByteArray.size]
theorem zeroS_nb (c j : Nat) : nb (zeroS c) j = 0 := by
  unfold nb zeroS
  simp only [List.getD_eq_getElem?_getD, List.getElem?_replicate]
  split <;> rfl
def blkL (s : ByteArray) (z j m : Nat) : List Int := (List.range m).map fun t => ((nb s (j * z + t) : Nat) : Int)
theorem blkL_length (s : ByteArray) (z j m : Nat) : (blkL s z j m).length = m := by simp [blkL]
def blk (s : ByteArray) (z j : Nat) : ByteArray := strOfNums (blkL s z j z)
theorem blk_size (s : ByteArray) (z j : Nat) : (blk s z j).size = z := by rw [blk, strOfNums_size', blkL_length]
theorem toList_inj {a b : ByteArray} (h : a.toList = b.toList) : a = b := by
  rw [Go.ByteArray.toList_eq, Go.ByteArray.toList_eq] at h
  cases a; cases b
  simpa using h
end Go.Mine
namespace Go.Mine
open Go Go.RowKit Go.Proofs.YtghhmnjkgnoogaaGreatW.PrintWords Go.Proofs.YtghhmnjkgnoogaaGreatW.PrintLast Go.Proofs.YtghhmnjkgnoogaaGreatW.PrintMore
set_option linter.unusedSimpArgs false
set_option linter.unusedVariables false
def beL (n : Nat) : Nat → List Int
  | 0 => []
  | k + 1 => ((n / 256 ^ k % 256 : Nat) : Int) :: beL n k
theorem beL_length (n k : Nat) : (beL n k).length = k := by
  induction k with
  | zero => rfl
  | succ k ih => simp [beL, ih]
def numS (n k : Nat) : ByteArray := strOfNums (beL n k)
theorem numS_size (n k : Nat) : (numS n k).size = k := by rw [numS, strOfNums_size', beL_length]
theorem p256_pos (k : Nat) : 0 < 256 ^ k := Nat.pow_pos (by decide)
theorem p256_succ (k : Nat) : 256 ^ (k + 1) = 256 * 256 ^ k := by rw [Nat.pow_succ, Nat.mul_comm]
theorem p256_two (k : Nat) : 2 ^ (8 * k) = 256 ^ k := by rw [Nat.pow_mul]
theorem p256_le7 (k : Nat) (h : k ≤ 7) : 256 ^ k ≤ 72057594037927936 := Nat.le_trans (Nat.pow_le_pow_right (by decide) h) (by decide)
def putR (n size : Int) : ByteArray × Int :=
  if size < 1 ∨ 7 < size then (⟨#[]⟩, 1) else if n < 0 ∨ ((256 ^ size.toNat : Nat) : Int) ≤ n then (⟨#[]⟩, 8) else (numS n.toNat size.toNat, 0)
def valL : List UInt8 → Nat → Nat
  | [], a => a
  | c :: l, a => valL l (256 * a + c.toNat)
theorem valL_nil (a : Nat) : valL [] a = a := rfl
theorem valL_cons (c : UInt8) (l : List UInt8) (a : Nat) : valL (c :: l) a = valL l (256 * a + c.toNat) := rfl
theorem valL_lt (l : List UInt8) : ∀ a k, a < 256 ^ k → valL l a < 256 ^ (k + l.length) := by
  induction l with
  | nil => intro a k h; exact h
  | cons c l ih =>
    intro a k h
    have hc := c.toNat_lt
    have h1 : 256 * a + c.toNat < 256 ^ (k + 1) := by rw [p256_succ]; omega
    have := ih _ _ h1
    rw [show k + 1 + l.length = k + (c :: l).length by simp; omega] at this
    exact this
def getR (s : ByteArray) : Int := if s.size > 7 then 0 else ((valL s.data.toList 0 : Nat) : Int)
theorem i64_or_nat (a b : Nat) (ha : a < 9223372036854775808) (hb : b < 9223372036854775808) : Go.bits .or .i64 (a : Int) (b : Int) = ((a ||| b : Nat) : Int) :=
  (bits_nat .i64 63 (by decide) (fun n h0 h1 => by rw [IntKind.wrap_i64]; omega) a b ha hb).2
theorem or_low (n c : Nat) (hc : c < 256) : (n * 256) ||| c = n * 256 + c := by
  have := Nat.two_pow_add_eq_or_of_lt (i := 8) (b := c) hc n
  rw [show (2 : Nat) ^ 8 * n = n * 256 by rw [Nat.mul_comm]] at this
  exact this.symm
theorem get_step (a c : Nat) (hc : c < 256) (ha : 256 * a + c < 72057594037927936) : Go.bits .or .i64 (wrap64 ((a : Int) * 256)) (wrap64 (c : Int)) = ((256 * a + c : Nat) : Int) := by
  have e1 : wrap64 ((a : Int) * 256) = ((a * 256 : Nat) : Int) := by
    rw [wrap64_id _ (by omega) (by omega)]
    omega
  have e2 : wrap64 (c : Int) = (c : Int) := wrap64_id _ (by omega) (by omega)
  have e3 := i64_or_nat (a * 256) c (by omega) (by omega)
  rw [or_low _ _ hc] at e3
  rw [e1, e2, e3]
  omega
theorem ofNat_toNat (x : Nat) (h : x < 256) : (UInt8.ofNat x).toNat = x := by simp; omega
end Go.Mine
namespace Go.Mine
open Go Go.RowKit Go.Proofs.YtghhmnjkgnoogaaGreatW.PrintWords Go.Proofs.YtghhmnjkgnoogaaGreatW.PrintLast Go.Proofs.YtghhmnjkgnoogaaGreatW.PrintMore
set_option linter.unusedVariables false
theorem getR_nonneg (s : ByteArray) : 0 ≤ getR s := by unfold getR; split <;> omega
end Go.Mine
namespace Go.Mine
open Go Go.RowKit Go.Proofs.YtghhmnjkgnoogaaGreatW.PrintWords Go.Proofs.YtghhmnjkgnoogaaGreatW.PrintLast Go.Proofs.YtghhmnjkgnoogaaGreatW.PrintMore
set_option linter.unusedSimpArgs false
set_option linter.unusedVariables false
def Bytes (xs : List Int) : Prop := ∀ j, 0 ≤ xs.getD j 0 ∧ xs.getD j 0 < 256
theorem bytes_bytesI (s : ByteArray) : Bytes (bytesI s) := fun j => by rw [nb_bytesI]; have := nb_lt s j; omega
theorem getD_set (xs : List Int) (j i : Nat) (v : Int) (hj : j < xs.length) : (xs.set j v).getD i 0 = if i = j then v else xs.getD i 0 := by
  rw [List.getD_eq_getElem?_getD, List.getElem?_set]
  by_cases h : j = i
  · subst h; simp [hj]
  · rw [if_neg h, if_neg (fun e => h e.symm), List.getD_eq_getElem?_getD]
theorem bothB_get (op : BinOp) (a b : List Int) (k : Nat) : k ≤ a.length → ∀ j, (bothB op a b k).getD j 0 = if j < k then Go.bits op .u8 (a.getD j 0) (b.getD j 0) else a.getD j 0 := by
  induction k with
  | zero => intro _ j; simp [bothB]
  | succ k ih =>
    intro hk j
    have ih := ih (by omega)
    unfold bothB
    rw [getD_set _ _ _ _ (by rw [bothB_length]; omega), ih k, if_neg (Nat.lt_irrefl _)]
    by_cases h : j = k
    · subst h; rw [if_pos rfl, if_pos (by omega)]
    · rw [if_neg h, ih j]
      by_cases h2 : j < k
      · rw [if_pos h2, if_pos (by omega)]
      · rw [if_neg h2, if_neg (by omega)]
def bothS (op : BinOp) (a b : ByteArray) : ByteArray := strOfNums (bothB op (bytesI a) (bytesI b) a.size)
theorem bothS_size (op : BinOp) (a b : ByteArray) : (bothS op a b).size = a.size := by unfold bothS; rw [strOfNums_size', bothB_length, bytesI_length]
theorem bothS_nb (op : BinOp) (a b : ByteArray) (j : Nat) (hj : j < a.size) : nb (bothS op a b) j = (Go.bits op .u8 (nb a j) (nb b j)).toNat % 256 := by
  unfold bothS
  rw [nb_strOfNums, bothB_get _ _ _ _ (by rw [bytesI_length]; exact Nat.le_refl _), if_pos hj, nb_bytesI, nb_bytesI]
end Go.Mine
namespace Go.Mine
open Go Go.RowKit Go.Proofs.YtghhmnjkgnoogaaGreatW.PrintWords Go.Proofs.YtghhmnjkgnoogaaGreatW.PrintLast Go.Proofs.YtghhmnjkgnoogaaGreatW.PrintMore
set_option linter.unusedVariables false
theorem xor_nb (a b : ByteArray) (j : Nat) (hj : j < a.size) : nb (bothS .xor a b) j = nb a j ^^^ nb b j := by
  rw [bothS_nb _ _ _ _ hj, u8_xor_nat _ _ (nb_lt _ _) (nb_lt _ _), Int.toNat_natCast, Nat.mod_eq_of_lt (Nat.xor_lt_two_pow (n := 8) (nb_lt _ _) (nb_lt _ _))]
def xsum (t : ByteArray) : List ByteArray → ByteArray
  | [] => t
  | s :: l => xsum (bothS .xor t s) l
theorem xsum_size (l : List ByteArray) : ∀ t, (xsum t l).size = t.size := by
  induction l with
  | nil => intro t; rfl
  | cons s l ih => intro t; rw [xsum, ih, bothS_size]
theorem bytesI_strOfNums (xs : List Int) (h : Bytes xs) : bytesI (strOfNums xs) = xs := by
  refine List.ext_getElem (by rw [bytesI_length, strOfNums_size']) fun j h1 h2 => ?_
  have e1 := nb_bytesI (strOfNums xs) j
  have e2 := nb_strOfNums xs j
  have e3 := h j
  rw [List.getD_eq_getElem?_getD, List.getElem?_eq_getElem h1] at e1
  rw [List.getD_eq_getElem?_getD, List.getElem?_eq_getElem h2] at e2 e3
  simp only [Option.getD_some] at e1 e2 e3
  omega
theorem bytes_xor (x : List Int) (hx : Bytes x) (s : ByteArray) (n : Nat) (hn : n ≤ x.length) : Bytes (bothB .xor x (bytesI s) n) := by
  intro j
  rw [bothB_get _ _ _ _ hn]
  split
  · have h1 := hx j
    have h2 := bytes_bytesI s j
    rw [u8_xor _ _ h1.1 h1.2 h2.1 h2.2]
    have := Nat.xor_lt_two_pow (n := 8) (x := (x.getD j 0).toNat) (y := ((bytesI s).getD j 0).toNat) (by omega) (by omega)
    omega
  · exact hx j
theorem bothB_step (x : List Int) (hx : Bytes x) (s : ByteArray) : strOfNums (bothB .xor x (bytesI s) x.length) = bothS .xor (strOfNums x) s := by
  unfold bothS
  rw [bytesI_strOfNums x hx, strOfNums_size']
def xorL (a b : ByteArray) (m : Nat) : List Int := (List.range m).map fun t => Go.bits .xor .u8 ((nb a t : Nat) : Int) ((nb b t : Nat) : Int)
theorem xorL_length (a b : ByteArray) (m : Nat) : (xorL a b m).length = m := by simp [xorL]
theorem xorL_succ (a b : ByteArray) (m : Nat) : xorL a b (m + 1) = xorL a b m ++ [Go.bits .xor .u8 ((nb a m : Nat) : Int) ((nb b m : Nat) : Int)] := by simp [xorL, List.range_succ]
theorem xorL_str (a b : ByteArray) : strOfNums (xorL a b a.size) = bothS .xor a b := by
  refine bytes_ext _ _ (by rw [strOfNums_size', xorL_length, bothS_size]) fun j hj => ?_
  rw [strOfNums_size', xorL_length] at hj
  rw [bothS_nb _ _ _ _ hj, nb_strOfNums, xorL, List.getD_eq_getElem?_getD, List.getElem?_map, List.getElem?_range hj]
  rfl
def xorR (a b : ByteArray) : ByteArray × Int := if a.size = b.size then (bothS .xor a b, 0) else (⟨#[]⟩, 1)
def odd (l : List ByteArray) (z : Int) : Bool := l.any fun s => !((s.size : Int) == z)
def sumR (l : List ByteArray) (z : Int) : ByteArray × Int := if ¬ (1 ≤ z ∧ z ≤ 64) then (⟨#[]⟩, 1) else if odd l z = true then (⟨#[]⟩, 1) else (xsum (zeroS z.toNat) l, 0)
def zeroR (z : Int) : ByteArray := if 1 ≤ z ∧ z ≤ 64 then zeroS z.toNat else ⟨#[]⟩
theorem strOfNums_zero (n : Nat) : strOfNums (List.replicate n 0) = zeroS n := by
  refine bytes_ext _ _ (by rw [strOfNums_size', zeroS_size, List.length_replicate]) fun j hj => ?_
  rw [nb_strOfNums, zeroS_nb, List.getD_eq_getElem?_getD, List.getElem?_replicate]
  split <;> rfl
theorem bytes_zero (n : Nat) : Bytes (List.replicate n 0) := by
  intro j
  rw [List.getD_eq_getElem?_getD, List.getElem?_replicate]
  split <;> simp
end Go.Mine
namespace Go.Mine
open Go Go.RowKit Go.Proofs.YtghhmnjkgnoogaaGreatW.PrintWords Go.Proofs.YtghhmnjkgnoogaaGreatW.PrintLast Go.Proofs.YtghhmnjkgnoogaaGreatW.PrintMore
set_option linter.unusedVariables false
def xb : List ByteArray → Nat → Nat
  | [], _ => 0
  | s :: l, j => nb s j ^^^ xb l j
theorem xsum_nb (l : List ByteArray) (j : Nat) : ∀ t, j < t.size → nb (xsum t l) j = nb t j ^^^ xb l j := by
  induction l with
  | nil => intro t _; rw [xsum, xb, Nat.xor_zero]
  | cons s l ih => intro t ht; rw [xsum, ih _ (by rw [bothS_size]; exact ht), xor_nb _ _ _ ht, xb, Nat.xor_assoc]
theorem odd_iff (l : List ByteArray) (z : Int) : odd l z = false ↔ ∀ s ∈ l, (s.size : Int) = z := by
  unfold odd
  rw [List.any_eq_false]
  constructor
  · intro h s hs
    have := h s hs
    simpa using this
  · intro h s hs
    have := h s hs
    simp [this]
theorem sumR_ok (l : List ByteArray) (z : Int) (hz : 1 ≤ z ∧ z ≤ 64) (h : odd l z = false) : sumR l z = (xsum (zeroS z.toNat) l, 0) := by
  unfold sumR
  rw [if_neg (show ¬ ¬ (1 ≤ z ∧ z ≤ 64) from fun hh => hh hz), h, if_neg (by decide)]
end Go.Mine
namespace Go.Mine
open Go Go.RowKit Go.Proofs.YtghhmnjkgnoogaaGreatW.PrintWords Go.Proofs.YtghhmnjkgnoogaaGreatW.PrintLast Go.Proofs.YtghhmnjkgnoogaaGreatW.PrintMore
set_option linter.unusedVariables false
def tailB (n : Nat) : Nat → List Int
  | 0 => []
  | d + 1 => ((8 * n : Nat) : Int) / 2 ^ (8 * d) % 256 :: tailB n d
theorem tailB_length (n d : Nat) : (tailB n d).length = d := by
  induction d with
  | zero => rfl
  | succ d ih => simp only [tailB, List.length_cons, ih]
def padL (n : Nat) : List Int := ([128] ++ List.replicate ((119 - n % 64) % 64) 0) ++ tailB n 8
theorem padL_length (n : Nat) : (padL n).length = 9 + (119 - n % 64) % 64 := by
  simp only [padL, List.length_append, tailB_length, List.length_replicate, List.length_singleton]
  omega
theorem padL_mod (n : Nat) : (n + (padL n).length) % 64 = 0 := by rw [padL_length]; omega
theorem hashGo_spec (d : Nat) : ∀ (st p : List Int) (s : ByteArray), st.length = 8 → p.length < 64 → s.size < d → (hashGo d st p s).1.length = 8 ∧ (hashGo d st p s).2.length = (p.length + s.size) % 64 := by
  induction d with
  | zero => intro st p s _ _ h; omega
  | succ d ih =>
    intro st p s hst hp hs
    rw [hashGo]
    by_cases h : 64 ≤ p.length + s.size
    · rw [if_pos h]
      have hsz : (s.extract (64 - p.length) s.size).size = s.size - (64 - p.length) := by rw [ByteArray.size_extract]; omega
      have := ih (mixW st (p ++ bytesOf (s.extract 0 (64 - p.length)))) [] (s.extract (64 - p.length) s.size) (mixW_length _ _) (by decide) (by rw [hsz]; omega)
      refine ⟨this.1, ?_⟩
      rw [this.2, hsz]
      simp only [List.length_nil]
      omega
    · rw [if_neg h]
      refine ⟨hst, ?_⟩
      simp only [List.length_append, bytesOf_length]
      omega
def shaS (s : ByteArray) : ByteArray := if 65536 < s.size then ⟨#[]⟩ else hsumS (hashGo (s.size + 1) shaStart [] s).1 (hashGo (s.size + 1) shaStart [] s).2 (strOfNums (padL s.size))
theorem hsumS_size (st p : List Int) (pd : ByteArray) (h : st.length = 8) : (hsumS st p pd).size = 32 := by
  rw [hsumS, strOfNums_size', outW_length, foldW_length _ _ _ h]
theorem shaS_size (s : ByteArray) (h : s.size ≤ 65536) : (shaS s).size = 32 := by
  unfold shaS
  rw [if_neg (by omega)]
  exact hsumS_size _ _ _ (hashGo_spec (s.size + 1) shaStart [] s rfl (by decide) (by omega)).1
end Go.Mine
namespace Go.Mine
open Go Go.RowKit Go.Proofs.YtghhmnjkgnoogaaGreatW.PrintWords Go.Proofs.YtghhmnjkgnoogaaGreatW.PrintLast Go.Proofs.YtghhmnjkgnoogaaGreatW.PrintMore
set_option linter.unusedVariables false
theorem u32_wrap (n : Int) (h0 : 0 ≤ n) (h1 : n < 4294967296) : IntKind.u32.wrap n = n := by
  unfold IntKind.wrap
  simp [IntKind.signed, IntKind.bits]
  omega
theorem u64_wrap (n : Int) (h0 : 0 ≤ n) (h1 : n < 18446744073709551616) : IntKind.u64.wrap n = n := by
  unfold IntKind.wrap
  simp [IntKind.signed, IntKind.bits]
  omega
theorem u32_or_nat (a b : Nat) (ha : a < 4294967296) (hb : b < 4294967296) : Go.bits .or .u32 (a : Int) (b : Int) = ((a ||| b : Nat) : Int) :=
  (bits_nat .u32 32 (by decide) (fun n h0 h1 => u32_wrap n h0 (by omega)) a b ha hb).2
theorem bits_or_comm (k : IntKind) (a b : Int) : Go.bits .or k a b = Go.bits .or k b a := by
  unfold Go.bits
  simp only
  rw [BitVec.or_comm]
theorem or_sum (a b j : Nat) (hb : b < 2 ^ j) : (a * 2 ^ j) ||| b = a * 2 ^ j + b := by
  have := Nat.two_pow_add_eq_or_of_lt (i := j) (b := b) hb a
  rw [Nat.mul_comm] at this
  exact this.symm
theorem word_nat (b0 b1 b2 b3 : Nat) (h0 : b0 < 256) (h1 : b1 < 256) (h2 : b2 < 256) (h3 : b3 < 256) :
    Go.bits .or .u32 (Go.bits .or .u32 (Go.bits .or .u32 ((((b0 : Int) % 4294967296) * 16777216) % 4294967296) ((((b1 : Int) % 4294967296) * 65536) % 4294967296)) ((((b2 : Int) % 4294967296) * 256) % 4294967296)) ((b3 : Int) % 4294967296) = ((b0 * 16777216 + b1 * 65536 + b2 * 256 + b3 : Nat) : Int) := by
  have e0 : (((b0 : Int) % 4294967296) * 16777216) % 4294967296 = ((b0 * 16777216 : Nat) : Int) := by omega
  have e1 : (((b1 : Int) % 4294967296) * 65536) % 4294967296 = ((b1 * 65536 : Nat) : Int) := by omega
  have e2 : (((b2 : Int) % 4294967296) * 256) % 4294967296 = ((b2 * 256 : Nat) : Int) := by omega
  have e3 : (b3 : Int) % 4294967296 = ((b3 : Nat) : Int) := by omega
  have o1 : (b0 * 16777216) ||| (b1 * 65536) = b0 * 16777216 + b1 * 65536 := by
    have h := or_sum (b0 * 256) (b1) 8
    have h2 := or_sum b0 (b1 * 65536) 24 (by omega)
    exact h2
  have o2 : (b0 * 16777216 + b1 * 65536) ||| (b2 * 256) = b0 * 16777216 + b1 * 65536 + b2 * 256 := by
    have h := or_sum (b0 * 256 + b1) (b2 * 256) 16 (by omega)
    rw [show (b0 * 256 + b1) * 2 ^ 16 = b0 * 16777216 + b1 * 65536 by omega] at h
    exact h
  have o3 : (b0 * 16777216 + b1 * 65536 + b2 * 256) ||| b3 = b0 * 16777216 + b1 * 65536 + b2 * 256 + b3 := by
    have h := or_sum (b0 * 65536 + b1 * 256 + b2) b3 8 (by omega)
    rw [show (b0 * 65536 + b1 * 256 + b2) * 2 ^ 8 = b0 * 16777216 + b1 * 65536 + b2 * 256 by omega] at h
    exact h
  rw [e0, e1, e2, e3, u32_or_nat _ _ (by omega) (by omega), o1, u32_or_nat _ _ (by omega) (by omega), o2, u32_or_nat _ _ (by omega) (by omega), o3]
theorem bytesOf_getD (s : ByteArray) (i : Nat) : (bytesOf s).getD i 0 = (nb s i : Int) := by
  have h := rd_bytesOf s (i : Int)
  rw [rd, Int.toNat_natCast] at h
  rw [h, bt_nb, Int.toNat_natCast]
theorem hash_fold (d : Nat) : ∀ (st p : List Int) (s : ByteArray) (R : List Int), p.length < 64 → s.size < d →
    foldW ((p ++ bytesOf s ++ R).length / 64) st (p ++ bytesOf s ++ R) = foldW (((hashGo d st p s).2 ++ R).length / 64) (hashGo d st p s).1 ((hashGo d st p s).2 ++ R) := by
  induction d with
  | zero => intro st p s R _ h; omega
  | succ d ih =>
    intro st p s R hp hs
    rw [hashGo]
    by_cases h : 64 ≤ p.length + s.size
    · rw [if_pos h]
      have hb : bytesOf s = bytesOf (s.extract 0 (64 - p.length)) ++ bytesOf (s.extract (64 - p.length) s.size) := by
        unfold bytesOf
        rw [← List.map_append]
        congr 1
        rw [ByteArray.data_extract, ByteArray.data_extract, Array.toList_extract, Array.toList_extract, List.extract_eq_take_drop, List.extract_eq_take_drop, List.drop_zero, Nat.sub_zero]
        rw [List.take_of_length_le (l := s.data.toList.drop (64 - p.length)) (by rw [List.length_drop, data_length]; omega), List.take_append_drop]
      have hl1 : (p ++ bytesOf (s.extract 0 (64 - p.length))).length = 64 := by rw [List.length_append, bytesOf_length, ByteArray.size_extract]; omega
      have hsz : (s.extract (64 - p.length) s.size).size = s.size - (64 - p.length) := by rw [ByteArray.size_extract]; omega
      have hall : p ++ bytesOf s ++ R = (p ++ bytesOf (s.extract 0 (64 - p.length))) ++ (bytesOf (s.extract (64 - p.length) s.size) ++ R) := by rw [hb]; simp only [List.append_assoc]
      have hlen : (p ++ bytesOf s ++ R).length / 64 = ([] ++ bytesOf (s.extract (64 - p.length) s.size) ++ R).length / 64 + 1 := by
        rw [hall, List.length_append, hl1, List.nil_append]
        omega
      rw [hlen, foldW, hall, List.take_left' hl1, List.drop_left' hl1]
      have := ih (mixW st (p ++ bytesOf (s.extract 0 (64 - p.length)))) [] (s.extract (64 - p.length) s.size) R (by decide) (by rw [hsz]; omega)
      rw [List.nil_append] at this
      rw [List.nil_append]
      exact this
    · rw [if_neg h]
theorem pad_bytes (n : Nat) : bytesOf (strOfNums (padL n)) = padL n := by
  unfold bytesOf
  rw [strOfNums_data, List.map_map]
  conv => rhs; rw [← List.map_id (padL n)]
  apply List.map_congr_left
  intro x hx
  have hr : 0 ≤ x ∧ x < 256 := by
    unfold padL at hx
    simp only [List.mem_append, List.mem_singleton, List.mem_replicate] at hx
    rcases hx with (hx | hx) | hx
    · omega
    · omega
    · have : ∀ d, ∀ y ∈ tailB n d, 0 ≤ y ∧ y < 256 := by
        intro d
        induction d with
        | zero => intro y hy; cases hy
        | succ d ih =>
          intro y hy
          rcases List.mem_cons.1 hy with e | e
          · subst e; omega
          · exact ih y e
      exact this 8 x hx
  simp only [Function.comp, id]
  rw [ofNat_toNat x.toNat (by omega)]
  omega
theorem bytesOf_append (a b : ByteArray) : bytesOf (a ++ b) = bytesOf a ++ bytesOf b := by
  unfold bytesOf
  rw [ByteArray.data_append, Array.toList_append, List.map_append]
theorem bytesOf_pad (s : ByteArray) : bytesOf (s ++ strOfNums (padL s.size)) = bytesOf s ++ padL s.size := by rw [bytesOf_append, pad_bytes]
theorem shaS_fold (s : ByteArray) (h : s.size ≤ 65536) : shaS s = strOfNums (outW (foldW ((bytesOf s ++ padL s.size).length / 64) shaStart (bytesOf s ++ padL s.size))) := by
  have hbp := pad_bytes s.size
  unfold shaS
  rw [if_neg (by omega), hsumS, hbp]
  have := hash_fold (s.size + 1) shaStart [] s (padL s.size) (by decide) (by omega)
  rw [List.nil_append] at this
  rw [this]
end Go.Mine
namespace Go.Mine
open Go Go.RowKit Go.Proofs.YtghhmnjkgnoogaaGreatW.PrintWords Go.Proofs.YtghhmnjkgnoogaaGreatW.PrintLast Go.Proofs.YtghhmnjkgnoogaaGreatW.PrintMore
set_option linter.unusedVariables false
abbrev Rises (l : List Int) : Prop := l.Pairwise (· < ·)
theorem rises_ext : ∀ (a b : List Int), Rises a → Rises b → (∀ x, x ∈ a ↔ x ∈ b) → a = b
  | [], b, _, _, h => by
    cases b with
    | nil => rfl
    | cons y b => exact absurd ((h y).2 List.mem_cons_self) (by simp)
  | x :: a, [], _, _, h => absurd ((h x).1 List.mem_cons_self) (by simp)
  | x :: a, y :: b, ha, hb, h => by
    obtain ⟨ha1, ha2⟩ := List.pairwise_cons.1 ha
    obtain ⟨hb1, hb2⟩ := List.pairwise_cons.1 hb
    have hxy : x = y := by
      have h1 := (h x).1 List.mem_cons_self
      have h2 := (h y).2 List.mem_cons_self
      rcases List.mem_cons.1 h1 with e | e
      · exact e
      · rcases List.mem_cons.1 h2 with e2 | e2
        · exact e2.symm
        · have := hb1 x e
          have := ha1 y e2
          omega
    subst hxy
    rw [rises_ext a b ha2 hb2 (fun z => ⟨fun hz => by
      rcases List.mem_cons.1 ((h z).1 (List.mem_cons_of_mem _ hz)) with e | e
      · have := ha1 z hz
        omega
      · exact e, fun hz => by
      rcases List.mem_cons.1 ((h z).2 (List.mem_cons_of_mem _ hz)) with e | e
      · have := hb1 z hz
        omega
      · exact e⟩)]
def upTo (n : Nat) : List Int := (List.range n).map fun (i : Nat) => (i : Int)
theorem upTo_length (n : Nat) : (upTo n).length = n := by simp [upTo]
theorem upTo_mem (n : Nat) (x : Int) : x ∈ upTo n ↔ 0 ≤ x ∧ x < n := by
  simp only [upTo, List.mem_map, List.mem_range]
  constructor
  · rintro ⟨i, hi, rfl⟩
    omega
  · rintro ⟨h1, h2⟩
    exact ⟨x.toNat, by omega, by omega⟩
theorem upTo_rises (n : Nat) : Rises (upTo n) := by
  unfold upTo Rises
  rw [List.pairwise_map]
  refine List.pairwise_lt_range.imp ?_
  intro a b h
  omega
theorem upTo_succ (n : Nat) : upTo (n + 1) = upTo n ++ [(n : Int)] := by simp [upTo, List.range_succ]
theorem filter_rises {l : List Int} (h : Rises l) (p : Int → Bool) : Rises (l.filter p) := h.filter p
theorem filter_self (n : Nat) (l : List Int) (hl : Rises l) (hb : ∀ x ∈ l, 0 ≤ x ∧ x < n) : (upTo n).filter (fun x => l.contains x) = l := by
  refine rises_ext _ _ (filter_rises (upTo_rises n) _) hl fun x => ?_
  rw [List.mem_filter, upTo_mem]
  simp only [List.contains_iff_mem]
  exact ⟨fun h => h.2, fun h => ⟨hb x h, h⟩⟩
theorem sort_rises (l : List Int) (hn : l.Nodup) : Rises (l.mergeSort fun x y => decide (x ≤ y)) := by
  have h1 : (l.mergeSort fun x y => decide (x ≤ y)).Pairwise (fun x y => decide (x ≤ y) = true) := List.pairwise_mergeSort (by
    intro a b c h1 h2
    simp only [decide_eq_true_eq] at *
    omega) (by
    intro a b
    simp only [Bool.or_eq_true, decide_eq_true_eq]
    omega) l
  have h2 : (l.mergeSort fun x y => decide (x ≤ y)).Nodup := (List.mergeSort_perm l _).nodup_iff.2 hn
  refine (h1.and h2).imp ?_
  intro a b ⟨h3, h4⟩
  simp only [decide_eq_true_eq] at h3
  have : a ≠ b := h4
  omega
theorem rises_nodup {l : List Int} (h : Rises l) : l.Nodup := h.imp (fun hab => by omega)
theorem sort_mem (l : List Int) (x : Int) : x ∈ (l.mergeSort fun x y => decide (x ≤ y)) ↔ x ∈ l := (List.mergeSort_perm l _).mem_iff
end Go.Mine
namespace Go.Mine
open Go Go.RowKit Go.Proofs.YtghhmnjkgnoogaaGreatW.PrintWords Go.Proofs.YtghhmnjkgnoogaaGreatW.PrintLast Go.Proofs.YtghhmnjkgnoogaaGreatW.PrintMore
set_option linter.unusedVariables false
def mem (J : Nat → List Int) (n j : Nat) : List Int := (upTo n).filter fun i => (J i.toNat).contains (j : Int)
theorem mem_rises (J : Nat → List Int) (n j : Nat) : Rises (mem J n j) := filter_rises (upTo_rises n) _
theorem mem_mem (J : Nat → List Int) (n j : Nat) (x : Int) : x ∈ mem J n j ↔ (0 ≤ x ∧ x < n) ∧ (j : Int) ∈ J x.toNat := by
  unfold mem
  rw [List.mem_filter, upTo_mem, List.contains_iff_mem]
theorem mem_succ (J : Nat → List Int) (n j : Nat) : mem J (n + 1) j = if (j : Int) ∈ J n then mem J n j ++ [(n : Int)] else mem J n j := by
  unfold mem
  rw [upTo_succ, List.filter_append]
  by_cases h : (j : Int) ∈ J n
  · simp [h]
  · simp [h]
theorem mem_zero (J : Nat → List Int) (j : Nat) : mem J 0 j = [] := rfl
theorem mem_length (J : Nat → List Int) (n j : Nat) : (mem J n j).length ≤ n := by
  have := List.length_filter_le (fun i : Int => (J i.toNat).contains (j : Int)) (upTo n)
  rw [upTo_length] at this
  exact this
def tabL (J : Nat → List Int) (n a : Nat) : List (List Int) := (List.range a).map (mem J n)
theorem tabL_length (J : Nat → List Int) (n a : Nat) : (tabL J n a).length = a := by simp [tabL]
theorem tabL_get (J : Nat → List Int) (n a j : Nat) (h : j < a) : (tabL J n a).getD j [] = mem J n j := by simp [tabL, List.getD, h]
def addTo (rows : List (List Int)) : List Int → Int → List (List Int)
  | [], _ => rows
  | x :: T, i => addTo (rows.set x.toNat (rows.getD x.toNat [] ++ [i])) T i
theorem addTo_length (T : List Int) (i : Int) : ∀ rows, (addTo rows T i).length = rows.length := by
  induction T with
  | nil => intro rows; rfl
  | cons x T ih => intro rows; rw [addTo, ih, List.length_set]
theorem addTo_get (T : List Int) (i : Int) : ∀ (rows : List (List Int)) (j : Nat), T.Nodup → (∀ x ∈ T, 0 ≤ x ∧ x < rows.length) → (addTo rows T i).getD j [] = if (j : Int) ∈ T then rows.getD j [] ++ [i] else rows.getD j [] := by
  induction T with
  | nil => intro rows j _ _; simp [addTo]
  | cons x T ih =>
    intro rows j hn hb
    obtain ⟨hx, hT⟩ := List.nodup_cons.1 hn
    have hxb := hb x List.mem_cons_self
    rw [addTo, ih _ j hT (fun y hy => by rw [List.length_set]; exact hb y (List.mem_cons_of_mem _ hy))]
    by_cases hj : (j : Int) = x
    · have hjx : x.toNat = j := by omega
      rw [if_neg (by rw [hj]; exact hx), if_pos (by rw [hj]; exact List.mem_cons_self), hjx, List.getD_eq_getElem?_getD, List.getElem?_set_self (by omega)]
      rfl
    · have hjx : x.toNat ≠ j := by omega
      have e : (rows.set x.toNat (rows.getD x.toNat [] ++ [i])).getD j [] = rows.getD j [] := by
        rw [List.getD_eq_getElem?_getD, List.getElem?_set_ne hjx, ← List.getD_eq_getElem?_getD]
      rw [e]
      simp only [List.mem_cons, hj, false_or]
theorem tab_step (J : Nat → List Int) (n a : Nat) (hn : (J n).Nodup) (hb : ∀ x ∈ J n, 0 ≤ x ∧ x < a) : addTo (tabL J n a) (J n) (n : Int) = tabL J (n + 1) a := by
  apply List.ext_getElem
  · rw [addTo_length, tabL_length, tabL_length]
  · intro j h1 h2
    have hj : j < a := by rw [tabL_length] at h2; exact h2
    have e1 := addTo_get (J n) (n : Int) (tabL J n a) j hn (by rw [tabL_length]; exact hb)
    rw [tabL_get J n a j hj, List.getD_eq_getElem?_getD, List.getElem?_eq_getElem h1, Option.getD_some] at e1
    rw [e1]
    have e2 := tabL_get J (n + 1) a j hj
    rw [List.getD_eq_getElem?_getD, List.getElem?_eq_getElem h2, Option.getD_some] at e2
    rw [e2, mem_succ]
def rulL (J : Nat → List Int) (n a : Nat) : List (List Int) := (List.range a).map fun j => mem J n j ++ [((n + j : Nat) : Int)]
theorem rulL_length (J : Nat → List Int) (n a : Nat) : (rulL J n a).length = a := by simp [rulL]
theorem rulL_get (J : Nat → List Int) (n a j : Nat) (h : j < a) : (rulL J n a).getD j [] = mem J n j ++ [((n + j : Nat) : Int)] := by simp [rulL, List.getD, h]
def rowsJ (J : Nat → List Int) (n : Nat) : List (List Int) := (List.range n).map J
theorem rowsJ_length (J : Nat → List Int) (n : Nat) : (rowsJ J n).length = n := by simp [rowsJ]
theorem rowsJ_get (J : Nat → List Int) (n i : Nat) (h : i < n) : (rowsJ J n).getD i [] = J i := by simp [rowsJ, List.getD, h]
theorem over_set {α : Type} (A B : List α) (d : α) (hl : A.length = B.length) (t : Nat) (ht : t < B.length) : (A.take t ++ B.drop t).set t (A.getD t d) = A.take (t + 1) ++ B.drop (t + 1) := by
  have h1 : (A.take t).length = t := by rw [List.length_take]; omega
  have h2 : B.drop t = B[t] :: B.drop (t + 1) := List.drop_eq_getElem_cons ht
  have h3 : t < A.length := by omega
  rw [List.set_append_right _ _ (by omega), h1, Nat.sub_self, h2, List.set_cons_zero, List.take_succ_eq_append_getElem h3, List.append_assoc, List.singleton_append, List.getD_eq_getElem?_getD, List.getElem?_eq_getElem h3, Option.getD_some]
theorem over_get {α : Type} (A B : List α) (d : α) (hl : A.length = B.length) (t : Nat) (ht : t < B.length) : (A.take t ++ B.drop t).getD t d = B.getD t d := by
  have h1 : (A.take t).length = t := by rw [List.length_take]; omega
  rw [List.getD_eq_getElem?_getD, List.getD_eq_getElem?_getD, List.getElem?_append_right (by omega), h1, Nat.sub_self, List.getElem?_drop, Nat.add_zero]
end Go.Mine
namespace Go.Mine
open Go Go.RowKit Go.Proofs.YtghhmnjkgnoogaaGreatW.PrintWords Go.Proofs.YtghhmnjkgnoogaaGreatW.PrintLast Go.Proofs.YtghhmnjkgnoogaaGreatW.PrintMore
set_option linter.unusedVariables false
def ch (n m : Int) : List Int → Int → Int × Nat
  | [], last => (last % n, 0)
  | x :: l, _ => if x < m then (x % n, 1) else ((ch n m l x).1, (ch n m l x).2 + 1)
theorem ch_le (n m : Int) (l : List Int) : ∀ w, (ch n m l w).2 ≤ l.length := by
  induction l with
  | nil => intro w; exact Nat.le_refl _
  | cons x l ih =>
    intro w
    rw [ch]
    split
    · simp
    · have := ih x
      simp only [List.length_cons]
      omega
def vals (f : Nat → Int) : Nat → Nat → List Int
  | _, 0 => []
  | a, d + 1 => f a :: vals f (a + 1) d
theorem vals_length (f : Nat → Int) (d : Nat) : ∀ a, (vals f a d).length = d := by
  induction d with
  | zero => intro a; rfl
  | succ d ih => intro a; simp only [vals, List.length_cons, ih]
theorem vals_snoc (f : Nat → Int) (d : Nat) : ∀ a, vals f a (d + 1) = vals f a d ++ [f (a + d)] := by
  induction d with
  | zero => intro a; rfl
  | succ d ih =>
    intro a
    rw [vals, ih (a + 1), vals, List.cons_append, show a + 1 + d = a + (d + 1) by omega]
theorem vals_mem (f : Nat → Int) (P : Int → Prop) (h : ∀ a, P (f a)) (d : Nat) : ∀ a, ∀ x ∈ vals f a d, P x := by
  induction d with
  | zero => intro a x hx; cases hx
  | succ d ih =>
    intro a x hx
    rcases List.mem_cons.1 hx with e | e
    · rw [e]; exact h a
    · exact ih (a + 1) x e
end Go.Mine
namespace Go.Mine
set_option linter.unusedVariables false
def gapsL {α : Type} (e : α → Bool) (d : α) (w : List α) (r : List Int) : List Int := r.filter fun x => e (w.getD x.toNat d)
structure Peels {α : Type} (e : α → Bool) (d : α) (L : Nat) (R : List (List Int)) (F : List α → List Int → α) (T : List α → List Int → Prop) (Ok : List α → Prop) : Prop where
  inb : ∀ r ∈ R, ∀ x ∈ r, 0 ≤ x ∧ x < (L : Int)
  gapd : ∀ x, e x = true → x = d
  same : ∀ (v w : List α) (r : List Int), (∀ x ∈ r, v.getD x.toNat d = w.getD x.toNat d) → F v r = F w r
  sameT : ∀ (v w : List α) (r : List Int), v.length = w.length → (∀ x ∈ r, v.getD x.toNat d = w.getD x.toNat d) → T v r → T w r
  tells : ∀ (w : List α), Ok w → ∀ r ∈ R, T w r → gapsL e d w r = [] → ∀ x ∈ r, w.getD x.toNat d = F w (r.filter (· ≠ x))
  there : ∀ (w : List α), Ok w → ∀ r ∈ R, ∀ x, gapsL e d w r = [x] → e (F w (r.filter (· ≠ x))) = false
  okset : ∀ (w : List α), Ok w → ∀ r ∈ R, ∀ x, gapsL e d w r = [x] → Ok (w.set x.toNat (F w (r.filter (· ≠ x))))
  okl : ∀ w, Ok w → w.length = L
inductive PSteps {α : Type} (e : α → Bool) (d : α) (R : List (List Int)) (F : List α → List Int → α) : List α → List α → Prop
  | refl (w : List α) : PSteps e d R F w w
  | step (w v : List α) (r : List Int) (x : Int) : PSteps e d R F w v → r ∈ R → gapsL e d v r = [x] → PSteps e d R F w (v.set x.toNat (F v (r.filter (· ≠ x))))
def PSub {α : Type} (e : α → Bool) (d : α) (v w : List α) : Prop := v.length = w.length ∧ ∀ i : Nat, e (v.getD i d) = false → v.getD i d = w.getD i d
def PStuck {α : Type} (e : α → Bool) (d : α) (R : List (List Int)) (w : List α) : Prop := ∀ r ∈ R, ∀ x, gapsL e d w r ≠ [x]
def PHolds {α : Type} (e : α → Bool) (d : α) (R : List (List Int)) (T : List α → List Int → Prop) (w : List α) : Prop := ∀ r ∈ R, gapsL e d w r = [] → T w r
section
variable {α : Type} {e : α → Bool} {d : α} {L : Nat} {R : List (List Int)} {F : List α → List Int → α} {T : List α → List Int → Prop} {Ok : List α → Prop}
theorem gaps_mem (w : List α) (r : List Int) (x : Int) : x ∈ gapsL e d w r ↔ x ∈ r ∧ e (w.getD x.toNat d) = true := by
  unfold gapsL
  rw [List.mem_filter]
theorem gaps_nil (w : List α) (r : List Int) : gapsL e d w r = [] ↔ ∀ x ∈ r, e (w.getD x.toNat d) = false := by
  constructor
  · intro h x hx
    cases hq : e (w.getD x.toNat d)
    · rfl
    · have := (gaps_mem (e := e) (d := d) w r x).2 ⟨hx, hq⟩
      rw [h] at this
      exact absurd this (by simp)
  · intro h
    apply List.filter_eq_nil_iff.2
    intro x hx
    rw [h x hx]
    decide
theorem gaps_one (w : List α) (r : List Int) (x : Int) (h : gapsL e d w r = [x]) : x ∈ r ∧ e (w.getD x.toNat d) = true ∧ ∀ y ∈ r, y ≠ x → e (w.getD y.toNat d) = false := by
  have h1 := (gaps_mem (e := e) (d := d) w r x).1 (by rw [h]; simp)
  refine ⟨h1.1, h1.2, fun y hy hne => ?_⟩
  cases hq : e (w.getD y.toNat d)
  · rfl
  · have := (gaps_mem (e := e) (d := d) w r y).2 ⟨hy, hq⟩
    rw [h, List.mem_singleton] at this
    exact absurd this hne
theorem gaps_rest (w : List α) (r : List Int) (x : Int) (h : gapsL e d w r = [x]) : (r.filter fun y => !e (w.getD y.toNat d)) = r.filter (· ≠ x) := by
  obtain ⟨_, h2, h3⟩ := gaps_one w r x h
  apply List.filter_congr
  intro y hy
  by_cases hne : y = x
  · subst hne
    rw [h2]
    simp
  · rw [h3 y hy hne]
    simp [hne]
theorem peel_getD_set (w : List α) (i j : Nat) (a : α) : (w.set i a).getD j d = if i = j ∧ i < w.length then a else w.getD j d := by
  rw [List.getD_eq_getElem?_getD, List.getD_eq_getElem?_getD, List.getElem?_set]
  by_cases h : i = j
  · subst h
    by_cases h2 : i < w.length
    · simp [h2]
    · simp [h2]
  · simp [h]
theorem psub_refl (v : List α) : PSub e d v v := ⟨rfl, fun _ _ => rfl⟩
theorem psub_anti (P : Peels e d L R F T Ok) (v w : List α) (h1 : PSub e d v w) (h2 : PSub e d w v) : v = w := by
  apply List.ext_getElem h1.1
  intro i hi hj
  have g1 : v.getD i d = v[i] := by rw [List.getD_eq_getElem?_getD, List.getElem?_eq_getElem hi]; rfl
  have g2 : w.getD i d = w[i] := by rw [List.getD_eq_getElem?_getD, List.getElem?_eq_getElem hj]; rfl
  rw [← g1, ← g2]
  cases h : e (v.getD i d)
  · exact h1.2 i h
  · cases h' : e (w.getD i d)
    · exact (h2.2 i h').symm
    · rw [P.gapd _ h, P.gapd _ h']
theorem psub_step (P : Peels e d L R F T Ok) (w : List α) (hw : Ok w) (hst : PStuck e d R w) (hh : PHolds e d R T w) (v : List α) (hs : PSub e d v w) (r : List Int) (hr : r ∈ R) (x : Int) (hg : gapsL e d v r = [x]) : PSub e d (v.set x.toNat (F v (r.filter (· ≠ x)))) w := by
  obtain ⟨h1, h2, h3⟩ := gaps_one v r x hg
  have h4 : ∀ y ∈ r, y ≠ x → v.getD y.toNat d = w.getD y.toNat d := fun y hy hne => hs.2 _ (h3 y hy hne)
  have h5 : e (w.getD x.toNat d) = false := by
    cases hq : e (w.getD x.toNat d)
    · rfl
    · exfalso
      apply hst r hr x
      rw [← hg]
      apply List.filter_congr
      intro y hy
      by_cases hne : y = x
      · rw [hne, hq, h2]
      · rw [h4 y hy hne]
  have h6 : gapsL e d w r = [] := (gaps_nil _ _).2 fun y hy => by
    by_cases hne : y = x
    · rw [hne, h5]
    · rw [← h4 y hy hne]
      exact h3 y hy hne
  have h7 := P.tells w hw r hr (hh r hr h6) h6 x h1
  have h8 : F v (r.filter (· ≠ x)) = F w (r.filter (· ≠ x)) := P.same v w _ fun y hy => by
    have := List.mem_filter.1 hy
    exact h4 y this.1 (by simpa using this.2)
  refine ⟨by rw [List.length_set]; exact hs.1, fun i hi => ?_⟩
  rw [peel_getD_set] at hi ⊢
  by_cases hc : x.toNat = i ∧ x.toNat < v.length
  · rw [if_pos hc, h8, ← h7, hc.1]
  · rw [if_neg hc] at hi ⊢
    exact hs.2 i hi
theorem psteps_ok (P : Peels e d L R F T Ok) (w v : List α) (h : PSteps e d R F w v) (hw : Ok w) : Ok v := by
  induction h with
  | refl => exact hw
  | step v r x _ hr hg ih => exact P.okset v ih r hr x hg
theorem psteps_sub (w v : List α) (h : PSteps e d R F w v) : PSub e d w v := by
  induction h with
  | refl => exact psub_refl _
  | step v r x _ hr hg ih =>
    obtain ⟨h1, h2, h3⟩ := gaps_one v r x hg
    refine ⟨by rw [List.length_set]; exact ih.1, fun i hi => ?_⟩
    rw [peel_getD_set, ih.2 i hi]
    by_cases hc : x.toNat = i ∧ x.toNat < v.length
    · rw [ih.2 i hi, ← hc.1, h2] at hi
      cases hi
    · rw [if_neg hc]
theorem psteps_in (P : Peels e d L R F T Ok) (w : List α) (hw : Ok w) (hst : PStuck e d R w) (hh : PHolds e d R T w) (u v : List α) (hu : PSub e d u w) (h : PSteps e d R F u v) : PSub e d v w := by
  induction h with
  | refl => exact hu
  | step v r x _ hr hg ih => exact psub_step P w hw hst hh v ih r hr x hg
theorem psub_full (P : Peels e d L R F T Ok) (v w : List α) (hs : PSub e d v w) (r : List Int) (hg : gapsL e d v r = []) : gapsL e d w r = [] ∧ ∀ x ∈ r, v.getD x.toNat d = w.getD x.toNat d := by
  have h1 := (gaps_nil (e := e) (d := d) v r).1 hg
  have h2 : ∀ x ∈ r, v.getD x.toNat d = w.getD x.toNat d := fun x hx => hs.2 _ (h1 x hx)
  exact ⟨(gaps_nil _ _).2 fun x hx => by rw [← h2 x hx]; exact h1 x hx, h2⟩
theorem peel_holds (P : Peels e d L R F T Ok) (v w : List α) (hs : PSub e d v w) (hh : PHolds e d R T w) : PHolds e d R T v := by
  intro r hr hg
  obtain ⟨h1, h2⟩ := psub_full P v w hs r hg
  exact P.sameT w v r hs.1.symm (fun x hx => (h2 x hx).symm) (hh r hr h1)
theorem peel_same (P : Peels e d L R F T Ok) (u v w : List α) (hu : Ok u) (hv : PSteps e d R F u v) (hw : PSteps e d R F u w) (sv : PStuck e d R v) (sw : PStuck e d R w) (hh : PHolds e d R T w) : v = w := by
  have o1 := psteps_ok P u v hv hu
  have o2 := psteps_ok P u w hw hu
  have s1 := psteps_in P w o2 sw hh u v (psteps_sub u w hw) hv
  have s2 := psteps_in P v o1 sv (peel_holds P v w s1 hh) u w (psteps_sub u v hv) hw
  exact psub_anti P v w s1 s2
theorem peel_bad (P : Peels e d L R F T Ok) (u v w : List α) (hu : Ok u) (hv : PSteps e d R F u v) (hw : PSteps e d R F u w) (sw : PStuck e d R w) (r : List Int) (hr : r ∈ R) (hg : gapsL e d v r = []) (hb : ¬ T v r) : ¬ PHolds e d R T w := fun hh => by
  have s1 := psteps_in P w (psteps_ok P u w hw hu) sw hh u v (psteps_sub u w hw) hv
  exact hb (peel_holds P v w s1 hh r hr hg)
def gapN (e : α → Bool) (w : List α) : Nat := (w.filter e).length
theorem gapN_set (w : List α) (i : Nat) (a : α) (hi : i < w.length) (h1 : e (w.getD i d) = true) (h2 : e a = false) : gapN e (w.set i a) + 1 = gapN e w := by
  unfold gapN
  induction w generalizing i with
  | nil => exact absurd hi (by simp)
  | cons b w ih =>
    cases i with
    | zero =>
      rw [List.set_cons_zero, List.filter_cons_of_neg (by rw [h2]; decide), List.filter_cons_of_pos (by simpa using h1), List.length_cons]
    | succ i =>
      have h3 := ih i (by simpa using hi) (by simpa using h1)
      rw [List.set_cons_succ]
      by_cases hb : e b = true
      · rw [List.filter_cons_of_pos hb, List.filter_cons_of_pos hb, List.length_cons, List.length_cons, ← h3]
      · rw [List.filter_cons_of_neg hb, List.filter_cons_of_neg hb, h3]
theorem gapN_le (w : List α) : gapN e w ≤ w.length := List.length_filter_le _ _
theorem gapN_step (P : Peels e d L R F T Ok) (v : List α) (hv : Ok v) (r : List Int) (hr : r ∈ R) (x : Int) (hg : gapsL e d v r = [x]) : gapN e (v.set x.toNat (F v (r.filter (· ≠ x)))) + 1 = gapN e v := by
  obtain ⟨h1, h2, h3⟩ := gaps_one v r x hg
  have := P.inb r hr x h1
  exact gapN_set (d := d) v _ _ (by rw [P.okl v hv]; omega) h2 (P.there v hv r hr x hg)
def passP (e : α → Bool) (d : α) (F : List α → List Int → α) : List (List Int) → List α → List α
  | [], w => w
  | r :: rs, w => passP e d F rs (match gapsL e d w r with
    | [x] => w.set x.toNat (F w (r.filter (· ≠ x)))
    | _ => w)
def passes (e : α → Bool) (d : α) (F : List α → List Int → α) (R : List (List Int)) : Nat → List α → List α
  | 0, w => w
  | n + 1, w => passes e d F R n (passP e d F R w)
theorem passP_steps (u : List α) : ∀ (rs : List (List Int)) (w : List α), (∀ r ∈ rs, r ∈ R) → PSteps e d R F u w → PSteps e d R F u (passP e d F rs w)
  | [], w, _, h => h
  | r :: rs, w, hr, h => by
    rw [passP]
    apply passP_steps u rs _ (fun r' h' => hr r' (List.mem_cons_of_mem _ h'))
    split
    · rename_i x hx
      exact PSteps.step u w r x h (hr r List.mem_cons_self) hx
    · exact h
theorem passP_cnt (P : Peels e d L R F T Ok) : ∀ (rs : List (List Int)) (w : List α), (∀ r ∈ rs, r ∈ R) → Ok w → gapN e (passP e d F rs w) < gapN e w ∨ passP e d F rs w = w ∧ ∀ r ∈ rs, ∀ x, gapsL e d w r ≠ [x]
  | [], w, _, _ => Or.inr ⟨rfl, fun r hr => absurd hr (by simp)⟩
  | r :: rs, w, hr, hw => by
    rw [passP]
    have hm := hr r List.mem_cons_self
    have hrs : ∀ r' ∈ rs, r' ∈ R := fun r' h' => hr r' (List.mem_cons_of_mem _ h')
    split
    · rename_i x hx
      have h1 := gapN_step P w hw r hm x hx
      rcases passP_cnt P rs _ hrs (P.okset w hw r hm x hx) with h2 | ⟨h2, _⟩
      · left; omega
      · left; rw [h2]; omega
    · rename_i hx
      rcases passP_cnt P rs w hrs hw with h2 | ⟨h2, h3⟩
      · exact Or.inl h2
      · refine Or.inr ⟨h2, fun r' h' x hx2 => ?_⟩
        rcases List.mem_cons.1 h' with h | h
        · subst h; exact hx x hx2
        · exact h3 r' h x hx2
theorem passes_steps (u : List α) : ∀ (n : Nat) (w : List α), PSteps e d R F u w → PSteps e d R F u (passes e d F R n w)
  | 0, w, h => h
  | n + 1, w, h => passes_steps u n _ (passP_steps u R w (fun _ h => h) h)
theorem passes_fix (w : List α) (h : passP e d F R w = w) : ∀ n, passes e d F R n w = w
  | 0 => rfl
  | n + 1 => by rw [passes, h]; exact passes_fix w h n
theorem passes_stuck (P : Peels e d L R F T Ok) : ∀ (n : Nat) (w : List α), Ok w → gapN e w ≤ n → PStuck e d R (passes e d F R n w)
  | 0, w, hw, h => by
    intro r hr x hx
    have := gapN_step P w hw r hr x hx
    omega
  | n + 1, w, hw, h => by
    rw [passes]
    rcases passP_cnt P R w (fun _ h => h) hw with h2 | ⟨h2, h3⟩
    · exact passes_stuck P n _ (psteps_ok P w _ (passP_steps w R w (fun _ h => h) (PSteps.refl w)) hw) (by omega)
    · rw [h2, passes_fix w h2 n]
      exact h3
def scanP (e : α → Bool) (d : α) (F : List α → List Int → α) (B : List α → List Int → Bool) (w : List α) : List (List Int) → Option (Option (Int × α))
  | [] => none
  | r :: rs => match gapsL e d w r with
    | [] => if B w r then scanP e d F B w rs else some none
    | [x] => some (some (x, F w (r.filter (· ≠ x))))
    | _ => scanP e d F B w rs
def fillP (e : α → Bool) (d : α) (F : List α → List Int → α) (B : List α → List Int → Bool) (R : List (List Int)) : Nat → List α → Option (List α)
  | 0, _ => none
  | n + 1, w => match scanP e d F B w R with
    | none => some w
    | some none => none
    | some (some (x, a)) => fillP e d F B R n (w.set x.toNat a)
theorem scanP_none (B : List α → List Int → Bool) (w : List α) : ∀ rs : List (List Int), scanP e d F B w rs = none → ∀ r ∈ rs, (∀ x, gapsL e d w r ≠ [x]) ∧ (gapsL e d w r = [] → B w r = true)
  | [], _ => fun r hr => absurd hr (by simp)
  | r :: rs, h => by
    rw [scanP] at h
    intro r' hr'
    split at h
    · rename_i hg
      split at h
      · rename_i hb
        rcases List.mem_cons.1 hr' with h1 | h1
        · subst h1; exact ⟨fun x hx => (by rw [hg] at hx; cases hx), fun _ => hb⟩
        · exact scanP_none B w rs h r' h1
      · cases h
    · cases h
    · rename_i g1 g2
      rcases List.mem_cons.1 hr' with h1 | h1
      · subst h1; exact ⟨fun x hx => g2 x hx, fun hx => absurd hx g1⟩
      · exact scanP_none B w rs h r' h1
theorem scanP_bad (B : List α → List Int → Bool) (w : List α) : ∀ rs : List (List Int), scanP e d F B w rs = some none → ∃ r ∈ rs, gapsL e d w r = [] ∧ B w r = false
  | [], h => by cases h
  | r :: rs, h => by
    rw [scanP] at h
    split at h
    · rename_i hg
      split at h
      · obtain ⟨r', h1, h2⟩ := scanP_bad B w rs h
        exact ⟨r', List.mem_cons_of_mem _ h1, h2⟩
      · rename_i hb
        exact ⟨r, List.mem_cons_self, hg, by simpa using hb⟩
    · cases h
    · obtain ⟨r', h1, h2⟩ := scanP_bad B w rs h
      exact ⟨r', List.mem_cons_of_mem _ h1, h2⟩
theorem scanP_fill (B : List α → List Int → Bool) (w : List α) (x : Int) (a : α) : ∀ rs : List (List Int), scanP e d F B w rs = some (some (x, a)) → ∃ r ∈ rs, gapsL e d w r = [x] ∧ a = F w (r.filter (· ≠ x))
  | [], h => by cases h
  | r :: rs, h => by
    rw [scanP] at h
    split at h
    · split at h
      · obtain ⟨r', h1, h2⟩ := scanP_fill B w x a rs h
        exact ⟨r', List.mem_cons_of_mem _ h1, h2⟩
      · cases h
    · rename_i y hg
      cases h
      exact ⟨r, List.mem_cons_self, hg, rfl⟩
    · obtain ⟨r', h1, h2⟩ := scanP_fill B w x a rs h
      exact ⟨r', List.mem_cons_of_mem _ h1, h2⟩
theorem fillP_ends (P : Peels e d L R F T Ok) (B : List α → List Int → Bool) (u : List α) (hu : Ok u) : ∀ (n : Nat) (w : List α), PSteps e d R F u w → gapN e w < n →
    (∃ v, fillP e d F B R n w = some v ∧ PSteps e d R F u v ∧ PStuck e d R v ∧ ∀ r ∈ R, gapsL e d v r = [] → B v r = true) ∨ (fillP e d F B R n w = none ∧ ∃ v, PSteps e d R F u v ∧ ∃ r ∈ R, gapsL e d v r = [] ∧ B v r = false)
  | 0, w, _, h => absurd h (by omega)
  | n + 1, w, hs, h => by
    rw [fillP]
    split
    · rename_i hq
      have h1 := scanP_none B w R hq
      exact Or.inl ⟨w, rfl, hs, fun r hr => (h1 r hr).1, fun r hr => (h1 r hr).2⟩
    · rename_i hq
      obtain ⟨r, hr, h1, h2⟩ := scanP_bad B w R hq
      exact Or.inr ⟨rfl, w, hs, r, hr, h1, h2⟩
    · rename_i x a hq
      obtain ⟨r, hr, h1, rfl⟩ := scanP_fill B w x a R hq
      have h3 := gapN_step P w (psteps_ok P u w hs hu) r hr x h1
      exact fillP_ends P B u hu n _ (PSteps.step u w r x hs hr h1) (by omega)
theorem fill_passes (B : List α → List Int → Bool) (P : Peels e d L R F (fun w r => B w r = true) Ok) (u : List α) (hu : Ok u) (m n : Nat) (hm : gapN e u < m) (hn : gapN e u ≤ n) :
    fillP e d F B R m u = if (∀ r ∈ R, gapsL e d (passes e d F R n u) r = [] → B (passes e d F R n u) r = true) then some (passes e d F R n u) else none := by
  have hw := passes_steps (e := e) (d := d) (R := R) (F := F) u n u (PSteps.refl u)
  have sw := passes_stuck P n u hu hn
  rcases fillP_ends P B u hu m u (PSteps.refl u) hm with ⟨v, h1, h2, h3, h4⟩ | ⟨h1, v, h2, r, hr, h3, h4⟩
  · have e1 : passes e d F R n u = v := peel_same P u _ v hu hw h2 sw h3 h4
    rw [h1, e1, if_pos h4]
  · rw [h1, if_neg]
    exact peel_bad P u v _ hu h2 hw sw r hr h3 (by rw [h4]; decide)
theorem fillP_length (B : List α → List Int → Bool) : ∀ (n : Nat) (w v : List α), fillP e d F B R n w = some v → v.length = w.length
  | 0, _, _, h => by cases h
  | n + 1, w, v, h => by
    rw [fillP] at h
    split at h
    · cases h; rfl
    · cases h
    · have := fillP_length B n _ v h
      rw [this, List.length_set]
end
end Go.Mine
namespace Go.Proofs.YtghhmnjkgnoogaaGreat.POuterFills
open Go.RowKit Go.Proofs.YtghhmnjkgnoogaaGreatW.PrintWords Go.Proofs.YtghhmnjkgnoogaaGreatW.PrintLast Go.Proofs.YtghhmnjkgnoogaaGreatW.PrintMore Go.Mine
set_option linter.unusedVariables false
set_option linter.unusedSimpArgs false
theorem outer_in.spec (a b c : Int) : outer_in.f a b c = some (decide (b ≤ a ∧ a ≤ c)) := by
  unfold outer_in.f
  by_cases h : a ≥ b
  · rw [if_pos h]
    have : b ≤ a := h
    simp [this]
  · rw [if_neg h]
    have : ¬ b ≤ a := h
    simp [this]
def outer_Check.B (s n a q : Int) : Prop := (0 ≤ s ∧ s ≤ 72057594037927935) ∧ (1 ≤ n ∧ n ≤ 96) ∧ (1 ≤ a ∧ a ≤ 64) ∧ (1 ≤ q ∧ q ≤ 8)
instance (s n a q : Int) : Decidable (outer_Check.B s n a q) := by unfold outer_Check.B; infer_instance
theorem outer_Check.spec (s n a q : Int) : outer_Check.f s n a q = some (decide (outer_Check.B s n a q)) := by
  unfold outer_Check.f outer_Check.B
  simp only [outer_in.spec, Option.bind_some]
  by_cases h1 : 0 ≤ s ∧ s ≤ 72057594037927935
  · by_cases h2 : 1 ≤ n ∧ n ≤ 96
    · by_cases h3 : 1 ≤ a ∧ a ≤ 64
      · simp [h1, h2, h3]
      · simp [h1, h2, h3]
    · simp [h1, h2]
  · simp [h1]
theorem oct_Put.loop (n : Nat) (d : Nat) : ∀ (k : Nat) (xs : List Int), d ≤ 7 → d < k → xs.length + d ≤ 100 → oct_Put.l0 k (n : Int) xs ((d : Int) - 1) = some (strOfNums (xs ++ beL n d), 0) := by
  induction d with
  | zero =>
    intro k xs hd hk hx
    obtain ⟨k, rfl⟩ : ∃ m, k = m + 1 := ⟨k - 1, by omega⟩
    simp only [oct_Put.l0]
    rw [if_neg (by omega)]
    simp [beL]
  | succ d ih =>
    intro k xs hd hk hx
    obtain ⟨k, rfl⟩ : ∃ m, k = m + 1 := ⟨k - 1, by omega⟩
    simp only [oct_Put.l0]
    rw [show ((d + 1 : Nat) : Int) - 1 = (d : Int) by omega, wrap64_id (8 * (d : Int)) (by omega) (by omega), wrap64_id ((d : Int) - 1) (by omega) (by omega), if_pos (by omega), if_pos (by omega), if_pos (by omega)]
    have e : shr .i64 (n : Int) (8 * (d : Int)) % 256 = ((n / 256 ^ d % 256 : Nat) : Int) := by
      unfold shr
      rw [show (8 * (d : Int)).toNat = 8 * d by omega, Nat.min_eq_left (by show 8 * d ≤ 64; omega)]
      have h2 : ((2 : Int) ^ (8 * d)) = ((2 ^ (8 * d) : Nat) : Int) := by simp
      rw [h2, p256_two, ← Int.natCast_ediv]
      generalize n / 256 ^ d = q
      omega
    rw [e, ih k (xs ++ [((n / 256 ^ d % 256 : Nat) : Int)]) (by omega) (by omega) (by simp; omega)]
    simp [beL]
theorem oct_Put.spec (n size : Int) (k : Nat) (hn : -9223372036854775808 ≤ n ∧ n ≤ 9223372036854775807) (hk : 10 ≤ k) : oct_Put.f k n size = some (putR n size) := by
  unfold oct_Put.f putR
  obtain ⟨k, rfl⟩ : ∃ m, k = m + 1 := ⟨k - 1, by omega⟩
  by_cases h1 : size < 1
  · rw [if_pos h1]
    simp only [oct_Put.j0]
    rw [if_pos trivial, if_pos (.inl h1)]
  · rw [if_neg h1]
    simp only [oct_Put.j0]
    by_cases h2 : size > 7
    · rw [if_pos (decide_eq_true h2), if_pos (.inr h2)]
    · rw [if_neg (by simpa using h2), if_neg (show ¬ (size < 1 ∨ 7 < size) by omega)]
      by_cases h3 : n < 0
      · rw [if_pos h3, if_pos (.inl h3)]
      · rw [if_neg h3, wrap64_id (8 * size) (by omega) (by omega), wrap64_id (size - 1) (by omega) (by omega), if_pos (by omega)]
        have e : shr .i64 n (8 * size) = ((n.toNat / 256 ^ size.toNat : Nat) : Int) := by
          unfold shr
          rw [show (8 * size).toNat = 8 * size.toNat by omega, Nat.min_eq_left (by show 8 * size.toNat ≤ 64; omega)]
          have h2 : ((2 : Int) ^ (8 * size.toNat)) = ((2 ^ (8 * size.toNat) : Nat) : Int) := by simp
          rw [h2, p256_two]
          obtain ⟨m, rfl⟩ := Int.eq_ofNat_of_zero_le (show 0 ≤ n by omega)
          rfl
        rw [e]
        have hp := p256_pos size.toNat
        by_cases h4 : n.toNat < 256 ^ size.toNat
        · rw [if_pos (by rw [Nat.div_eq_of_lt h4]; rfl), if_neg (by omega)]
          have := oct_Put.loop n.toNat size.toNat k [] (by omega) (by omega) (by simp; omega)
          rw [show ((n.toNat : Nat) : Int) = n by omega, show ((size.toNat : Nat) : Int) - 1 = size - 1 by omega] at this
          rw [this]
          rfl
        · have h5 : 1 ≤ n.toNat / 256 ^ size.toNat := (Nat.le_div_iff_mul_le hp).2 (by omega)
          rw [if_neg (by omega), if_pos (by omega)]
def outer_seed.str (seed i : Nat) : ByteArray := ((((⟨#[]⟩ : ByteArray) ++ outer_seed.word) ++ numS seed 7) ++ numS i 2)
theorem outer_seed.str_size (seed i : Nat) : (outer_seed.str seed i).size = 14 := by
  unfold outer_seed.str
  rw [ByteArray.size_append, ByteArray.size_append, numS_size, numS_size]
  rfl
theorem outer_seed.spec (seed i : Nat) (n a q : Int) (k : Nat) (hk : 10 ≤ k) (h1 : seed ≤ 72057594037927935) (h2 : i ≤ 65535) : outer_seed.f k (seed : Int) n a q (i : Int) = some (outer_seed.str seed i) := by
  unfold outer_seed.f
  have hput : putR (seed : Int) 7 = (numS seed 7, 0) := by
    unfold putR
    rw [if_neg (by omega), if_neg (by
      rw [show ((256 ^ (7 : Int).toNat : Nat) : Int) = 72057594037927936 from rfl]
      omega)]
    rfl
  have hput2 : putR (i : Int) 2 = (numS i 2, 0) := by
    unfold putR
    rw [if_neg (by omega), if_neg (by
      rw [show ((256 ^ (2 : Int).toNat : Nat) : Int) = 65536 from rfl]
      omega)]
    rfl
  rw [oct_Put.spec _ _ _ (by omega) hk, hput, Option.bind_some, oct_Put.spec _ _ _ (by omega) hk, hput2, Option.bind_some, if_pos ⟨rfl, rfl, by rw [numS_size]; omega, by rw [numS_size]; omega⟩]
  rfl
theorem sha_Pad.loop (n : Nat) (hn : n ≤ 65536) (d : Nat) : ∀ (k : Nat) (xs : List Int), d ≤ 8 → d < k → xs.length + d ≤ 1000 → sha_Pad.l0 k (n : Int) xs (8 * (d : Int) - 8) = some (strOfNums (xs ++ tailB n d)) := by
  induction d with
  | zero =>
    intro k xs hd hk hx
    obtain ⟨k, rfl⟩ : ∃ m, k = m + 1 := ⟨k - 1, by omega⟩
    rw [sha_Pad.l0, if_neg (by omega)]
    simp [tailB]
  | succ d ih =>
    intro k xs hd hk hx
    obtain ⟨k, rfl⟩ : ∃ m, k = m + 1 := ⟨k - 1, by omega⟩
    rw [sha_Pad.l0, if_pos (by omega), if_pos (by omega), if_pos (by omega)]
    have e0 : (8 * ((d + 1 : Nat) : Int) - 8) = 8 * (d : Int) := by omega
    rw [e0, wrap64_id _ (by omega) (by omega)]
    have e1 : IntKind.u64.wrap (n : Int) = (n : Int) := by
      unfold IntKind.wrap
      simp [IntKind.signed, IntKind.bits]
      omega
    have e2 : IntKind.u64.wrap ((n : Int) * 8) = ((8 * n : Nat) : Int) := by
      unfold IntKind.wrap
      simp [IntKind.signed, IntKind.bits]
      omega
    have e3 : shr .u64 ((8 * n : Nat) : Int) (8 * (d : Int)) = ((8 * n : Nat) : Int) / 2 ^ (8 * d) := by
      unfold shr
      rw [show (8 * (d : Int)).toNat = 8 * d by omega, Nat.min_eq_left (by simp [IntKind.bits]; omega)]
    rw [e1, e2, e3, ih k (xs ++ [((8 * n : Nat) : Int) / 2 ^ (8 * d) % 256]) (by omega) (by omega) (by rw [List.length_append]; simp; omega), List.append_assoc]
    rfl
theorem sha_Pad.spec (n : Nat) (k : Nat) (hn : n ≤ 65536) (hk : 10 ≤ k) : sha_Pad.f k (n : Int) = some (strOfNums (padL n)) := by
  obtain ⟨k, rfl⟩ : ∃ m, k = m + 1 := ⟨k - 1, by omega⟩
  unfold sha_Pad.f
  rw [if_neg (by omega), sha_Pad.j0, if_neg (by simp only [decide_eq_true_eq]; omega), Option.bind_some]
  have e1 : Int.tmod (n : Int) 64 = ((n % 64 : Nat) : Int) := by rw [Int.tmod_eq_emod_of_nonneg (by omega)]; omega
  have e2 : wrap64 (119 - ((n % 64 : Nat) : Int)) = ((119 - n % 64 : Nat) : Int) := by rw [wrap64_id _ (by omega) (by omega)]; omega
  have e3 : Int.tmod ((119 - n % 64 : Nat) : Int) 64 = (((119 - n % 64) % 64 : Nat) : Int) := by rw [Int.tmod_eq_emod_of_nonneg (by omega)]; omega
  rw [e1, e2, e3, if_pos (by omega), Int.toNat_natCast, if_pos (by simp only [List.length_singleton]; omega)]
  have h := sha_Pad.loop n hn 8 k ([128] ++ List.replicate ((119 - n % 64) % 64) 0) (by omega) (by omega) (by rw [List.length_append, List.length_replicate, List.length_singleton]; omega)
  exact h
theorem sha_Sum.spec (s : ByteArray) (k : Nat) (hk : 10 ≤ k) : sha_Sum.f k s = some (shaS s) := by
  unfold sha_Sum.f shaS
  by_cases h : 65536 < s.size
  · rw [if_pos h, if_pos h]
  rw [if_neg h, if_neg h, sha_Pad.spec s.size k (by omega) hk, Option.bind_some]
  have hp := (hashGo_spec (s.size + 1) shaStart [] s rfl (by decide) (by omega)).2
  have hl := padL_length s.size
  simp only [List.length_nil, Nat.zero_add] at hp
  rw [if_pos]
  · rfl
  · refine ⟨by rw [strOfNums_size']; omega, ?_⟩
    show ((hashGo (s.size + 1) shaStart [] s).2 ++ bytesOf (strOfNums (padL s.size))).length % 64 = 0
    rw [List.length_append, bytesOf_length, strOfNums_size', hp]
    have := padL_mod s.size
    omega
def prng_Block.msg (s : ByteArray) (n : Nat) : ByteArray := (((⟨#[2]⟩ : ByteArray) ++ strOfNums [(s.size : Int) % 256]) ++ s) ++ numS n 7
theorem prng_Block.msg_size (s : ByteArray) (n : Nat) : (prng_Block.msg s n).size = s.size + 9 := by
  unfold prng_Block.msg
  rw [ByteArray.size_append, ByteArray.size_append, ByteArray.size_append, numS_size, strOfNums_size']
  simp only [List.length_singleton]
  have : (⟨#[2]⟩ : ByteArray).size = 1 := rfl
  omega
theorem prng_Block.spec (s : ByteArray) (n : Nat) (k : Nat) (hs : s.size ≤ 64) (hn : n ≤ 72057594037927935) (hk : 10 ≤ k) : prng_Block.f k s (n : Int) = some (shaS (prng_Block.msg s n)) := by
  unfold prng_Block.f
  have hput : putR (n : Int) 7 = (numS n 7, 0) := by
    unfold putR
    rw [if_neg (by omega), if_neg (by
      rw [show ((256 ^ (7 : Int).toNat : Nat) : Int) = 72057594037927936 from rfl]
      omega)]
    rfl
  have h1 : (⟨#[2]⟩ : ByteArray).size = 1 := rfl
  have hz := numS_size n 7
  rw [oct_Put.spec _ _ _ (by omega) hk, hput, Option.bind_some]
  simp only
  rw [if_pos trivial, if_neg (by omega), Option.bind_some, if_pos (by rw [strOfNums_size']; simp), if_pos (by rw [ByteArray.size_append, strOfNums_size']; simp only [List.length_singleton]; omega), if_pos (by rw [ByteArray.size_append, ByteArray.size_append, strOfNums_size']; simp only [List.length_singleton]; omega), sha_Sum.spec _ _ hk, Option.bind_some]
  rfl
theorem oct_Get.go_spec (l : List UInt8) : ∀ (a j : Nat), a < 256 ^ j → j + l.length ≤ 7 → oct_Get.go l (a : Int) = ((valL l a : Nat) : Int) := by
  induction l with
  | nil => intro a j _ _; rw [oct_Get.go_nil, valL_nil]
  | cons c l ih =>
    intro a j ha hj
    have hc := c.toNat_lt
    rw [List.length_cons] at hj
    have h7 := p256_le7 (j + 1) (by omega)
    have h1 : 256 * a + c.toNat < 256 ^ (j + 1) := by rw [p256_succ]; omega
    have h2 := ih _ (j + 1) h1 (by omega)
    have h3 := get_step a c.toNat hc (Nat.lt_of_lt_of_le h1 h7)
    rw [oct_Get.go_cons, valL_cons, h3, h2]
theorem oct_Get.spec (s : ByteArray) : oct_Get.f s = some (getR s) := by
  unfold oct_Get.f getR
  by_cases h : s.size > 7
  · rw [if_pos h, if_pos h]
  · rw [if_neg h, if_neg h]
    have := oct_Get.go_spec s.data.toList 0 0 (by decide) (by rw [len_data]; omega)
    rw [show ((0 : Nat) : Int) = 0 from rfl] at this
    rw [this]
def prng_Gen_Word.Ok (s0 : ByteArray) (s1 : Int) (s2 : ByteArray) : Prop := s0.size ≤ 64 ∧ 0 ≤ s1 ∧ s1 ≤ 1000000000 ∧ (s1.toNat % 8 ≠ 0 → s2.size = 32)
def prng_Gen_Word.blk (s0 : ByteArray) (s1 : Int) (s2 : ByteArray) : ByteArray := if s1.toNat % 8 = 0 then shaS (prng_Block.msg s0 (s1.toNat / 8)) else s2
def prng_Gen_Word.val (s0 : ByteArray) (s1 : Int) (s2 : ByteArray) : Int := getR ((prng_Gen_Word.blk s0 s1 s2).extract (4 * (s1.toNat % 8)) (4 * (s1.toNat % 8) + 4)) % 4294967296
theorem prng_Gen_Word.blk_size {s0 : ByteArray} {s1 : Int} {s2 : ByteArray} (h : prng_Gen_Word.Ok s0 s1 s2) : (prng_Gen_Word.blk s0 s1 s2).size = 32 := by
  obtain ⟨h0, h1, h2, h3⟩ := h
  unfold prng_Gen_Word.blk
  split
  · exact shaS_size _ (by rw [prng_Block.msg_size]; omega)
  · rename_i hh
    exact h3 hh
theorem prng_Gen_Word.next {s0 : ByteArray} {s1 : Int} {s2 : ByteArray} (h : prng_Gen_Word.Ok s0 s1 s2) (hb : s1 < 1000000000) : prng_Gen_Word.Ok s0 (s1 + 1) (prng_Gen_Word.blk s0 s1 s2) :=
  ⟨h.1, by have := h.2.1; omega, by omega, fun _ => prng_Gen_Word.blk_size h⟩
theorem prng_Gen_Word.range (s0 : ByteArray) (s1 : Int) (s2 : ByteArray) : 0 ≤ prng_Gen_Word.val s0 s1 s2 ∧ prng_Gen_Word.val s0 s1 s2 < 4294967296 := by
  unfold prng_Gen_Word.val
  omega
theorem prng_Gen_Word.spec {s0 : ByteArray} {s1 : Int} {s2 : ByteArray} (k : Nat) (hk : 10 ≤ k) (h : prng_Gen_Word.Ok s0 s1 s2) : prng_Gen_Word.f k s0 s1 s2 = some (prng_Gen_Word.val s0 s1 s2, s0, s1 + 1, prng_Gen_Word.blk s0 s1 s2) := by
  have hz := prng_Gen_Word.blk_size h
  obtain ⟨h0, h1, h2, h3⟩ := h
  unfold prng_Gen_Word.f
  rw [if_pos ⟨h1, by omega⟩]
  have hl : ∀ b : ByteArray, b.size = 32 → prng_Gen_Word.last k s0 s1 b = some (getR (b.extract (4 * (s1.toNat % 8)) (4 * (s1.toNat % 8) + 4)) % 4294967296, s0, s1 + 1, b) := by
    intro b hb
    unfold prng_Gen_Word.last
    rw [if_pos (by omega), oct_Get.spec, Option.bind_some]
  unfold prng_Gen_Word.val
  unfold prng_Gen_Word.blk at hz ⊢
  by_cases hm : s1.toNat % 8 = 0
  · rw [if_pos hm] at hz ⊢
    have e : s1 / 8 = ((s1.toNat / 8 : Nat) : Int) := by omega
    rw [if_pos hm, e, prng_Block.spec _ _ _ h0 (by omega) hk, Option.bind_some, hl _ hz]
  · rw [if_neg hm] at hz ⊢
    rw [if_neg hm, hl _ hz]
def prng_Gen_Below.run (n : Int) : Nat → Int → ByteArray → Int → ByteArray → Int × ByteArray × Int × ByteArray
  | 0, w, s0, s1, s2 => (w % n, s0, s1, s2)
  | d + 1, _, s0, s1, s2 => if prng_Gen_Word.val s0 s1 s2 < 4294967296 - 4294967296 % n then (prng_Gen_Word.val s0 s1 s2 % n, s0, s1 + 1, prng_Gen_Word.blk s0 s1 s2)
      else prng_Gen_Below.run n d (prng_Gen_Word.val s0 s1 s2) s0 (s1 + 1) (prng_Gen_Word.blk s0 s1 s2)
theorem prng_Gen_Below.loop (n : Int) (h1 : 1 ≤ n) (h2 : n ≤ 2147483647) (d : Nat) : ∀ (k : Nat) (w : Int) (s0 : ByteArray) (s1 : Int) (s2 : ByteArray), d ≤ 8 → d + 10 < k → 0 ≤ w → prng_Gen_Word.Ok s0 s1 s2 → s1 + (d : Int) ≤ 999999100 →
    prng_Gen_Below.l0 k n w (8 - (d : Int)) s0 s1 s2 = some (prng_Gen_Below.run n d w s0 s1 s2) := by
  induction d with
  | zero =>
    intro k w s0 s1 s2 hd hk hw hok hs
    obtain ⟨k, rfl⟩ : ∃ m, k = m + 1 := ⟨k - 1, by omega⟩
    rw [prng_Gen_Below.l0, if_neg (by omega), if_neg (by omega), Int.tmod_eq_emod_of_nonneg hw]
    rfl
  | succ d ih =>
    intro k w s0 s1 s2 hd hk hw hok hs
    obtain ⟨k, rfl⟩ : ∃ m, k = m + 1 := ⟨k - 1, by omega⟩
    have hr := prng_Gen_Word.range s0 s1 s2
    rw [prng_Gen_Below.l0, if_pos (by omega), prng_Gen_Word.spec k (by omega) hok, Option.bind_some]
    have hb : prng_bound.f n = some (4294967296 - 4294967296 % n) := by
      unfold prng_bound.f
      have := Int.emod_nonneg 4294967296 (show n ≠ 0 by omega)
      have := Int.emod_lt_of_pos 4294967296 (show 0 < n by omega)
      rw [if_neg (by omega), wrap64_id _ (by omega) (by omega)]
    rw [hb, Option.bind_some]
    simp only
    rw [wrap64_id _ (by omega) (by omega), prng_Gen_Below.run]
    by_cases hc : prng_Gen_Word.val s0 s1 s2 < 4294967296 - 4294967296 % n
    · rw [if_pos hc, if_pos hc, if_neg (by omega), Int.tmod_eq_emod_of_nonneg hr.1]
    · have e : (8 : Int) - ((d + 1 : Nat) : Int) + 1 = 8 - (d : Int) := by omega
      rw [if_neg hc, if_neg hc, e, wrap64_id (8 - (d : Int)) (by omega) (by omega)]
      exact ih k _ s0 (s1 + 1) _ (by omega) (by omega) hr.1 (prng_Gen_Word.next hok (by omega)) (by omega)
theorem prng_Gen_Below.run_ok (n : Int) (h1 : 1 ≤ n) (d : Nat) : ∀ (w : Int) (s0 : ByteArray) (s1 : Int) (s2 : ByteArray), prng_Gen_Word.Ok s0 s1 s2 → s1 + d ≤ 1000000000 →
    (0 ≤ (prng_Gen_Below.run n d w s0 s1 s2).1 ∧ (prng_Gen_Below.run n d w s0 s1 s2).1 < n) ∧ prng_Gen_Word.Ok (prng_Gen_Below.run n d w s0 s1 s2).2.1 (prng_Gen_Below.run n d w s0 s1 s2).2.2.1 (prng_Gen_Below.run n d w s0 s1 s2).2.2.2 ∧ (prng_Gen_Below.run n d w s0 s1 s2).2.2.1 ≤ s1 + d := by
  induction d with
  | zero =>
    intro w s0 s1 s2 hok hs
    exact ⟨⟨Int.emod_nonneg _ (by omega), Int.emod_lt_of_pos _ (by omega)⟩, hok, by simp [prng_Gen_Below.run]⟩
  | succ d ih =>
    intro w s0 s1 s2 hok hs
    rw [prng_Gen_Below.run]
    split
    · exact ⟨⟨Int.emod_nonneg _ (by omega), Int.emod_lt_of_pos _ (by omega)⟩, prng_Gen_Word.next hok (by omega), by simp only; omega⟩
    · have h := ih (prng_Gen_Word.val s0 s1 s2) s0 (s1 + 1) (prng_Gen_Word.blk s0 s1 s2) (prng_Gen_Word.next hok (by omega)) (by omega)
      exact ⟨h.1, h.2.1, by have := h.2.2; omega⟩
theorem prng_Gen_Below.spec (n : Int) (h1 : 1 ≤ n) (h2 : n ≤ 2147483647) (k : Nat) (hk : 30 ≤ k) (s0 : ByteArray) (s1 : Int) (s2 : ByteArray) (hok : prng_Gen_Word.Ok s0 s1 s2) (hs : s1 ≤ 999999000) : prng_Gen_Below.f k s0 s1 s2 n = some (prng_Gen_Below.run n 8 0 s0 s1 s2) := by
  unfold prng_Gen_Below.f prng_may.f
  rw [if_pos (by omega), Option.bind_some, if_pos (by simp; omega)]
  exact prng_Gen_Below.loop n h1 h2 8 k 0 s0 s1 s2 (by omega) (by omega) (by omega) hok (by omega)
def prng_Gen_Pick.run (n : Nat) : Nat → Nat → List Int → ByteArray → Int → ByteArray → List Int × ByteArray × Int × ByteArray
  | 0, _, l, s0, s1, s2 => (l, s0, s1, s2)
  | d + 1, i, l, s0, s1, s2 => prng_Gen_Pick.run n d (i + 1) (prng_Gen_Pick.swap l i (i + (prng_Gen_Below.run ((n : Int) - (i : Int)) 8 0 s0 s1 s2).1.toNat)) (prng_Gen_Below.run ((n : Int) - (i : Int)) 8 0 s0 s1 s2).2.1 (prng_Gen_Below.run ((n : Int) - (i : Int)) 8 0 s0 s1 s2).2.2.1 (prng_Gen_Below.run ((n : Int) - (i : Int)) 8 0 s0 s1 s2).2.2.2
theorem prng_Gen_Pick.swap_perm (l : List Int) (i j : Nat) (hi : i < l.length) (hj : j < l.length) : (prng_Gen_Pick.swap l i j).Perm l := by
  unfold prng_Gen_Pick.swap
  rw [List.getD_eq_getElem?_getD, List.getD_eq_getElem?_getD, List.getElem?_eq_getElem hi, List.getElem?_eq_getElem hj]
  exact List.set_set_perm hi hj
theorem prng_Gen_Pick.go_spec (k n : Nat) (hk : 30 ≤ k) (hn : n ≤ 4096) (d : Nat) : ∀ (i : Nat) (l : List Int) (s0 : ByteArray) (s1 : Int) (s2 : ByteArray), i + d ≤ n → l.length = n → prng_Gen_Word.Ok s0 s1 s2 → s1 + 8 * d ≤ 999999000 →
    prng_Gen_Pick.go k n d i l s0 s1 s2 = some (prng_Gen_Pick.run n d i l s0 s1 s2) ∧ (prng_Gen_Pick.run n d i l s0 s1 s2).1.Perm l := by
  induction d with
  | zero => intro i l s0 s1 s2 _ _ _ _; exact ⟨rfl, List.Perm.refl _⟩
  | succ d ih =>
    intro i l s0 s1 s2 hi hl hok hs
    rw [prng_Gen_Pick.go, prng_Gen_Below.spec _ (by omega) (by omega) k hk s0 s1 s2 hok (by omega), Option.bind_some]
    obtain ⟨⟨h1, h2⟩, h3, h4⟩ := prng_Gen_Below.run_ok ((n : Int) - (i : Int)) (by omega) 8 0 s0 s1 s2 hok (by omega)
    rw [if_pos ⟨h1, h2⟩, prng_Gen_Pick.run]
    obtain ⟨h5, h6⟩ := ih (i + 1) (prng_Gen_Pick.swap l i (i + (prng_Gen_Below.run ((n : Int) - (i : Int)) 8 0 s0 s1 s2).1.toNat)) _ _ _ (by omega) (by rw [prng_Gen_Pick.swap_length]; exact hl) h3 (by omega)
    exact ⟨h5, h6.trans (prng_Gen_Pick.swap_perm l _ _ (by omega) (by omega))⟩
def outer_joins.J (seed a q i : Nat) : List Int := outer_joins.sort ((prng_Gen_Pick.run a (min q a) 0 (upTo a) (outer_seed.str seed i) 0 ⟨#[]⟩).1.take (min q a))
theorem outer_joins.spec (seed a q i : Nat) (n : Int) (k : Nat) (hk : 30 ≤ k) (h1 : seed ≤ 72057594037927935) (h2 : i ≤ 65535) (ha : a ≤ 4096) (hq : q ≤ 4096) : outer_joins.f k (seed : Int) n (a : Int) (q : Int) (i : Int) = some (outer_joins.J seed a q i) := by
  unfold outer_joins.f
  rw [if_pos ⟨by omega, by omega, by omega, by omega⟩, outer_seed.spec seed i n a q k (by omega) h1 h2, Option.bind_some, if_pos (by rw [outer_seed.str_size]; omega), Int.toNat_natCast, Int.toNat_natCast]
  have hok : prng_Gen_Word.Ok (outer_seed.str seed i) 0 ⟨#[]⟩ := ⟨by rw [outer_seed.str_size]; omega, by omega, by omega, fun h => absurd rfl h⟩
  rw [(prng_Gen_Pick.go_spec k a hk ha (min q a) 0 (prng_Gen_Pick.iota a) _ 0 _ (by omega) (prng_Gen_Pick.iota_length a) hok (by omega)).1, Option.bind_some]
  rfl
theorem outer_joins.perm (seed a q i : Nat) (ha : a ≤ 4096) : (prng_Gen_Pick.run a (min q a) 0 (upTo a) (outer_seed.str seed i) 0 ⟨#[]⟩).1.Perm (upTo a) := by
  have hok : prng_Gen_Word.Ok (outer_seed.str seed i) 0 ⟨#[]⟩ := ⟨by rw [outer_seed.str_size]; omega, by omega, by omega, fun h => absurd rfl h⟩
  exact (prng_Gen_Pick.go_spec 30 a (by omega) ha (min q a) 0 (upTo a) _ 0 _ (by omega) (upTo_length a) hok (by omega)).2
theorem outer_joins.length (seed a q i : Nat) (ha : a ≤ 4096) : (outer_joins.J seed a q i).length = min q a := by
  have h := (outer_joins.perm seed a q i ha).length_eq
  rw [upTo_length] at h
  unfold outer_joins.J outer_joins.sort
  rw [List.length_mergeSort, List.length_take, h]
  omega
theorem outer_joins.rises (seed a q i : Nat) (ha : a ≤ 4096) : Rises (outer_joins.J seed a q i) :=
  sort_rises _ (((outer_joins.perm seed a q i ha).nodup_iff.2 (rises_nodup (upTo_rises a))).sublist (List.take_sublist _ _))
theorem outer_joins.range (seed a q i : Nat) (ha : a ≤ 4096) (x : Int) (hx : x ∈ outer_joins.J seed a q i) : 0 ≤ x ∧ x < a := by
  have h1 := List.mem_of_mem_take ((sort_mem _ x).1 hx)
  exact (upTo_mem a x).1 ((outer_joins.perm seed a q i ha).mem_iff.1 h1)
theorem outer_members.inner (T : List Int) (i : Nat) (hi : i ≤ 1000000) (nn p0 p1 p2 p3 : Int) (m : Nat) : ∀ (t : Nat) (rows : List (List Int)) (k : Nat), t + m = T.length → T.length ≤ 100000 → (∀ x ∈ T, 0 ≤ x ∧ x < rows.length) → (∀ j, (rows.getD j []).length + m ≤ 1000000) →
    outer_members.l1 (k + m + 1) rows (i : Int) nn (i : Int) T (T.length : Int) (t : Int) p0 p1 p2 p3 = outer_members.l0 k (addTo rows (T.drop t) (i : Int)) nn ((i + 1 : Nat) : Int) p0 p1 p2 p3 := by
  induction m with
  | zero =>
    intro t rows k ht hT hb hl
    rw [outer_members.l1, if_neg (by omega), List.drop_of_length_le (by omega), addTo, wrap64_id _ (by omega) (by omega)]
    rfl
  | succ m ih =>
    intro t rows k ht hT hb hl
    have htl : t < T.length := by omega
    have hr : rd T (t : Int) = T[t] := by simp [rd, htl]
    have hm := hb _ (List.getElem_mem htl)
    rw [show k + (m + 1) + 1 = (k + m + 1) + 1 by omega, outer_members.l1, if_pos (by omega), if_pos (by omega), if_pos (by omega), hr, if_pos hm.1, if_pos hm.2, if_pos (by have := hl (T[t]).toNat; unfold rd_L3; omega), wrap64_id _ (by omega) (by omega)]
    have e : ((t : Int) + 1) = ((t + 1 : Nat) : Int) := by omega
    rw [e, ih (t + 1) _ k (by omega) hT (fun x hx => by rw [List.length_set]; exact hb x hx) (fun j => by
      rw [List.getD_eq_getElem?_getD]
      by_cases hj : (T[t]).toNat = j
      · rw [hj, List.getElem?_set_self (by omega), Option.getD_some, List.length_append]
        have h1 := hl j
        have h2 : (rd_L3 rows (T[t])).length = (rows.getD j []).length := by unfold rd_L3; rw [hj]
        rw [h2]
        simp only [List.length_singleton]
        omega
      · rw [List.getElem?_set_ne hj, ← List.getD_eq_getElem?_getD]
        have h1 := hl j
        omega)]
    rw [List.drop_eq_getElem_cons htl, addTo]
    rfl
theorem outer_members.outer (seed a q : Nat) (h1 : seed ≤ 72057594037927935) (n : Nat) (hn : n ≤ 96) (ha : a ≤ 64) (hq : q ≤ 8) (d : Nat) : ∀ (i k : Nat), i + d = n → 100 + d * 12 ≤ k →
    outer_members.l0 k (tabL (outer_joins.J seed a q) i a) (n : Int) (i : Int) (seed : Int) (n : Int) (a : Int) (q : Int) = some (tabL (outer_joins.J seed a q) n a) := by
  induction d with
  | zero =>
    intro i k hi hk
    obtain ⟨k, rfl⟩ : ∃ m, k = m + 1 := ⟨k - 1, by omega⟩
    obtain rfl : i = n := by omega
    rw [outer_members.l0, if_neg (by omega)]
  | succ d ih =>
    intro i k hi hk
    have hlen := outer_joins.length seed a q i (by omega)
    obtain ⟨k, rfl⟩ : ∃ m, k = m + (outer_joins.J seed a q i).length + 1 + 1 := ⟨k - 2 - (outer_joins.J seed a q i).length, by omega⟩
    rw [outer_members.l0, if_pos (by omega), outer_joins.spec seed a q i _ _ (by omega) h1 (by omega) (by omega) (by omega), Option.bind_some]
    have h := outer_members.inner (outer_joins.J seed a q i) i (by omega) (n : Int) (seed : Int) (n : Int) (a : Int) (q : Int) (outer_joins.J seed a q i).length 0 (tabL (outer_joins.J seed a q) i a) k (by omega) (by omega) (fun x hx => by rw [tabL_length]; exact outer_joins.range seed a q i (by omega) x hx) (fun j => by
      by_cases hj : j < a
      · rw [tabL_get _ _ _ _ hj]
        have := mem_length (outer_joins.J seed a q) i j
        omega
      · rw [List.getD_eq_getElem?_getD, List.getElem?_eq_none (by rw [tabL_length]; omega)]
        simp only [Option.getD_none, List.length_nil]
        omega)
    rw [List.drop_zero, tab_step _ _ _ (rises_nodup (outer_joins.rises seed a q i (by omega))) (outer_joins.range seed a q i (by omega))] at h
    refine Eq.trans h ?_
    exact ih (i + 1) k (by omega) (by omega)
theorem outer_members.spec (seed a q n : Nat) (h1 : seed ≤ 72057594037927935) (hn : n ≤ 96) (ha : a ≤ 64) (hq : q ≤ 8) (k : Nat) (hk : 2000 ≤ k) : outer_members.f k (seed : Int) (n : Int) (a : Int) (q : Int) = some (tabL (outer_joins.J seed a q) n a) := by
  unfold outer_members.f
  rw [if_pos (by omega), Int.toNat_natCast, if_pos (by omega)]
  have e : List.replicate a [] = tabL (outer_joins.J seed a q) 0 a := by
    apply List.ext_getElem
    · simp [tabL_length]
    · intro j h2 h3
      simp [tabL, mem_zero]
  rw [e]
  exact outer_members.outer seed a q h1 n hn ha hq n 0 k (by omega) (by omega)
theorem outer_rules.loop (J : Nat → List Int) (n a : Nat) (hn : n ≤ 96) (ha : a ≤ 64) (p0 p2 p3 : Int) (d : Nat) : ∀ (t k : Nat), t + d = a → d < k →
    outer_rules.l0 k ((rulL J n a).take t ++ (tabL J n a).drop t) (a : Int) (t : Int) p0 (n : Int) p2 p3 = some (rulL J n a) := by
  induction d with
  | zero =>
    intro t k ht hk
    obtain ⟨k, rfl⟩ : ∃ m, k = m + 1 := ⟨k - 1, by omega⟩
    obtain rfl : t = a := by omega
    rw [outer_rules.l0, if_neg (by omega), List.take_of_length_le (by rw [rulL_length]; omega), List.drop_of_length_le (by rw [tabL_length]; omega), List.append_nil]
  | succ d ih =>
    intro t k ht hk
    obtain ⟨k, rfl⟩ : ∃ m, k = m + 1 := ⟨k - 1, by omega⟩
    have hl : (rulL J n a).length = (tabL J n a).length := by rw [rulL_length, tabL_length]
    have hta : t < (tabL J n a).length := by rw [tabL_length]; omega
    have hg : rd_L3 ((rulL J n a).take t ++ (tabL J n a).drop t) (t : Int) = mem J n t := by
      unfold rd_L3
      rw [Int.toNat_natCast, over_get _ _ _ hl t hta, tabL_get _ _ _ _ (by omega)]
    have hm := mem_length J n t
    rw [outer_rules.l0, if_pos (by omega), if_pos (by omega), if_pos (by rw [List.length_append, List.length_take, List.length_drop, rulL_length, tabL_length]; omega), hg, if_pos (by omega), wrap64_id ((n : Int) + (t : Int)) (by omega) (by omega), wrap64_id _ (by omega) (by omega), Int.toNat_natCast]
    have e : mem J n t ++ [(n : Int) + (t : Int)] = (rulL J n a).getD t [] := by rw [rulL_get _ _ _ _ (by omega)]; simp
    rw [e, over_set _ _ _ hl t hta, show ((t : Int) + 1) = ((t + 1 : Nat) : Int) by omega]
    exact ih (t + 1) k (by omega) (by omega)
theorem outer_rules.spec (seed a q n : Nat) (h1 : seed ≤ 72057594037927935) (hn : n ≤ 96) (ha : a ≤ 64) (hq : q ≤ 8) (k : Nat) (hk : 2000 ≤ k) : outer_rules.f k (seed : Int) (n : Int) (a : Int) (q : Int) = some (rulL (outer_joins.J seed a q) n a) := by
  unfold outer_rules.f
  rw [outer_members.spec seed a q n h1 hn ha hq k hk, Option.bind_some, tabL_length]
  have h := outer_rules.loop (outer_joins.J seed a q) n a hn ha (seed : Int) (a : Int) (q : Int) a 0 k (by omega) (by omega)
  rw [List.take_zero, List.nil_append, List.drop_zero] at h
  exact h
theorem rulL_in (J : Nat → List Int) (n a : Nat) (r : List Int) (h : r ∈ rulL J n a) : r.length ≤ n + 1 ∧ ∀ x ∈ r, 0 ≤ x ∧ x < ((n + a : Nat) : Int) := by
  obtain ⟨j, hj, rfl⟩ := List.mem_map.1 h
  have hj := List.mem_range.1 hj
  have := mem_length J n j
  refine ⟨by rw [List.length_append, List.length_singleton]; omega, fun x hx => ?_⟩
  rcases List.mem_append.1 hx with hx | hx
  · have := ((mem_mem J n j x).1 hx).1
    omega
  · rw [List.mem_singleton] at hx
    omega
theorem outer_Rules.spec (s n a q : Int) (k : Nat) (hk : 2000 ≤ k) : outer_Rules.f k s n a q = some (if outer_Check.B s n a q then (rulL (outer_joins.J s.toNat a.toNat q.toNat) n.toNat a.toNat, 0) else ([], 1)) := by
  unfold outer_Rules.f
  rw [outer_Check.spec, Option.bind_some]
  by_cases h : outer_Check.B s n a q
  · rw [if_pos h, if_pos (decide_eq_true h)]
    obtain ⟨h1, h2, h3, h4⟩ := h
    have e := outer_rules.spec s.toNat a.toNat q.toNat n.toNat (by omega) (by omega) (by omega) (by omega) k hk
    rw [Int.toNat_of_nonneg h1.1, Int.toNat_of_nonneg (by omega : 0 ≤ n), Int.toNat_of_nonneg (by omega : 0 ≤ a), Int.toNat_of_nonneg (by omega : 0 ≤ q)] at e
    rw [e, Option.bind_some]
  · rw [if_neg h, if_neg (by simp [h])]
theorem mosaicref04_Same.loop (l : List Int) (hl : l.length ≤ 1000000000) (m : List Int) (hm : m.length = l.length) (d : Nat) : ∀ (k i : Nat), i + d = l.length → d < k → mosaicref04_Same.l0 k l m (i : Int) = some (decide (l.drop i = m.drop i)) := by
  induction d with
  | zero =>
    intro k i hi hk
    obtain ⟨k, rfl⟩ : ∃ m, k = m + 1 := ⟨k - 1, by omega⟩
    simp only [mosaicref04_Same.l0]
    rw [if_neg (by omega), List.drop_of_length_le (by omega), List.drop_of_length_le (by omega), decide_eq_true rfl]
  | succ d ih =>
    intro k i hi hk
    obtain ⟨k, rfl⟩ : ∃ m, k = m + 1 := ⟨k - 1, by omega⟩
    have h1 : i < l.length := by omega
    have h2 : i < m.length := by omega
    simp only [mosaicref04_Same.l0]
    have e1 : rd l (i : Int) = l[i] := by simp [rd, h1]
    have e2 : rd m (i : Int) = m[i] := by simp [rd, h2]
    rw [if_pos (by omega), if_pos (by omega), if_pos (by omega), e1, e2, wrap64_id _ (by omega) (by omega), List.drop_eq_getElem_cons h1, List.drop_eq_getElem_cons h2]
    have := ih k (i + 1) (by omega) (by omega)
    rw [show ((i + 1 : Nat) : Int) = (i : Int) + 1 by omega] at this
    by_cases h : l[i] = m[i]
    · rw [if_pos h, this]
      congr 1
      rw [Bool.eq_iff_iff, decide_eq_true_iff, decide_eq_true_iff]
      exact ⟨fun e => by rw [h, e], fun e => (List.cons.inj e).2⟩
    · rw [if_neg h]
      congr 1
      rw [eq_comm, decide_eq_false_iff_not]
      intro hh
      exact h (List.cons.inj hh).1
theorem mosaicref04_Same.spec (l m : List Int) (k : Nat) (hl : l.length ≤ 1000000000) (hk : l.length < k) : mosaicref04_Same.f k l m = some (decide (l = m)) := by
  unfold mosaicref04_Same.f
  by_cases h : l.length = m.length
  · rw [if_pos (by omega)]
    have := mosaicref04_Same.loop l hl m h.symm l.length k 0 (by omega) hk
    simpa using this
  · rw [if_neg (by omega), decide_eq_false (fun e => h (by rw [e]))]
theorem block_may.spec (z : Int) : block_may.f z = some (decide (1 ≤ z ∧ z ≤ 64)) := by
  unfold block_may.f
  by_cases h : z ≥ 1
  · rw [if_pos h]
    congr 1
    rw [Bool.eq_iff_iff, decide_eq_true_iff, decide_eq_true_iff]
    omega
  · rw [if_neg h]
    congr 1
    rw [eq_comm, decide_eq_false_iff_not]
    omega
theorem block_Is.spec (s : ByteArray) (z : Int) : block_Is.f s z = some (decide (1 ≤ z ∧ z ≤ 64) && ((s.size : Int) == z)) := by
  unfold block_Is.f
  rw [block_may.spec, Option.bind_some]
  cases decide (1 ≤ z ∧ z ≤ 64) <;> rfl
def outer_sized.B (l : List ByteArray) : Bool := if l.length = 0 then false else !(l.any fun x => !(outer_sized.okB x ((l.getD 0 ByteArray.empty).size : Int)))
theorem outer_sized.spec (l : List ByteArray) : outer_sized.f l = some (outer_sized.B l) := by
  unfold outer_sized.f outer_sized.B
  split <;> rfl
theorem outer_sized.iff (l : List ByteArray) : outer_sized.B l = true ↔ 0 < l.length ∧ ∀ x ∈ l, x.size = (l.getD 0 ByteArray.empty).size ∧ 1 ≤ x.size ∧ x.size ≤ 64 := by
  unfold outer_sized.B
  by_cases h : l.length = 0
  · rw [if_pos h]
    simp [h]
  · rw [if_neg h]
    rw [Bool.not_eq_true', List.any_eq_false]
    constructor
    · intro h2
      refine ⟨by omega, fun x hx => ?_⟩
      have h3 : outer_sized.okB x ((l.getD 0 ByteArray.empty).size : Int) = true := by
        have h4 := h2 x hx
        cases h5 : outer_sized.okB x ((l.getD 0 ByteArray.empty).size : Int)
        · rw [h5] at h4; exact absurd rfl h4
        · rfl
      unfold outer_sized.okB at h3
      rw [Bool.and_eq_true, Bool.and_eq_true, decide_eq_true_eq, decide_eq_true_eq, beq_iff_eq] at h3
      omega
    · rintro ⟨_, h2⟩ x hx
      have h3 := h2 x hx
      have h4 : outer_sized.okB x ((l.getD 0 ByteArray.empty).size : Int) = true := by
        unfold outer_sized.okB
        rw [Bool.and_eq_true, Bool.and_eq_true, decide_eq_true_eq, decide_eq_true_eq, beq_iff_eq]
        omega
      rw [h4]
      decide
theorem outer_sized.zero (l : List ByteArray) (h : outer_sized.B l = true) : 0 < l.length ∧ (1 ≤ (l.getD 0 ByteArray.empty).size ∧ (l.getD 0 ByteArray.empty).size ≤ 64) ∧ ∀ x ∈ l, x.size = (l.getD 0 ByteArray.empty).size := by
  obtain ⟨h1, h2⟩ := (outer_sized.iff l).1 h
  refine ⟨h1, ?_, fun x hx => (h2 x hx).1⟩
  have h3 : l.getD 0 ByteArray.empty ∈ l := by
    rw [List.getD_eq_getElem?_getD, List.getElem?_eq_getElem h1]
    exact List.getElem_mem h1
  exact (h2 _ h3).2
theorem block_Sum.go_eq (n : Nat) (l : List ByteArray) : ∀ (x : List Int), Bytes x → x.length = n → strOfNums (block_Sum.go n x l) = xsum (strOfNums x) l := by
  induction l with
  | nil => intro x _ _; rfl
  | cons s l ih =>
    intro x hx hn
    rw [block_Sum.go, xsum, ih _ (bytes_xor x hx s n (by omega)) (by rw [bothB_length, hn]), ← hn, bothB_step x hx s]
theorem block_Sum.spec (l : List ByteArray) (z : Int) : block_Sum.f l z = some (sumR l z) := by
  unfold block_Sum.f sumR
  rw [block_may.spec, Option.bind_some]
  by_cases h : 1 ≤ z ∧ z ≤ 64
  · rw [decide_eq_true h, if_pos rfl, if_neg (show ¬ (z < 0 ∨ 1000000 < z) by omega), if_neg (show ¬ ¬ (1 ≤ z ∧ z ≤ 64) from fun hh => hh h)]
    show (if odd l z = true then _ else _) = _
    cases odd l z with
    | true => rfl
    | false =>
      rw [if_neg (by decide), if_neg (by decide), block_Sum.go_eq _ _ _ (bytes_zero _) (List.length_replicate ..), strOfNums_zero]
  · rw [decide_eq_false h, if_neg (by decide), if_pos h]
def outer_sum.at_ (w : List ByteArray) (r : List Int) : List ByteArray := r.map fun x => w.getD x.toNat ByteArray.empty
theorem outer_sum.loop (w : List ByteArray) (z : Int) (r : List Int) (hr : r.length ≤ 100000) (hb : ∀ x ∈ r, 0 ≤ x ∧ x < w.length) (d : Nat) : ∀ (t k : Nat) (acc : List ByteArray), t + d = r.length → d < k → acc.length + d ≤ 200000 →
    outer_sum.l0 k w z acc r (r.length : Int) (t : Int) = some (sumR (acc ++ outer_sum.at_ w (r.drop t)) z).1 := by
  induction d with
  | zero =>
    intro t k acc ht hk ha
    obtain ⟨k, rfl⟩ : ∃ m, k = m + 1 := ⟨k - 1, by omega⟩
    rw [outer_sum.l0, if_neg (by omega), block_Sum.spec, Option.bind_some, List.drop_of_length_le (by omega)]
    simp [outer_sum.at_]
  | succ d ih =>
    intro t k acc ht hk ha
    obtain ⟨k, rfl⟩ : ∃ m, k = m + 1 := ⟨k - 1, by omega⟩
    have htl : t < r.length := by omega
    have e1 : rd r (t : Int) = r[t] := by simp [rd, htl]
    have hx := hb _ (List.getElem_mem htl)
    rw [outer_sum.l0, if_pos (by omega), if_pos (by omega), if_pos (by omega), e1, if_pos hx.1, if_pos hx.2, if_pos (by omega), wrap64_id _ (by omega) (by omega), show ((t : Int) + 1) = ((t + 1 : Nat) : Int) by omega]
    rw [ih (t + 1) k _ (by omega) (by omega) (by rw [List.length_append]; simp; omega), List.drop_eq_getElem_cons htl, List.append_assoc]
    rfl
theorem outer_sum.spec (w : List ByteArray) (r : List Int) (z : Int) (k : Nat) (hr : r.length ≤ 1000) (hk : 2000 ≤ k) (hb : ∀ x ∈ r, 0 ≤ x ∧ x < w.length) : outer_sum.f k w r z = some (sumR (outer_sum.at_ w r) z).1 := by
  unfold outer_sum.f
  have h := outer_sum.loop w z r (by omega) hb r.length 0 k [] (by omega) (by omega) (by simp; omega)
  rw [List.drop_zero, List.nil_append] at h
  exact h
def ruleB (l : List ByteArray) (z : Int) (r : List Int) : Bool := decide ((sumR (outer_sum.at_ l r) z).1 = zeroR z)
def outer_Whole.aux (J : Nat → List Int) (n a : Nat) (l : List ByteArray) : List ByteArray := (tabL J n a).map fun r => (sumR (outer_sum.at_ l r) ((l.getD 0 ByteArray.empty).size : Int)).1
theorem outer_Whole.loop (J : Nat → List Int) (n a : Nat) (ha : a ≤ 64) (hn : n ≤ 96) (l : List ByteArray) (hl : l.length = n) (h0 : 0 < n) (d : Nat) : ∀ (t k : Nat), t + d = a → 2000 + d < k →
    outer_Whole.l0 k l (l ++ (outer_Whole.aux J n a l).take t) (tabL J n a) (a : Int) (t : Int) = some (l ++ outer_Whole.aux J n a l, 0) := by
  induction d with
  | zero =>
    intro t k ht hk
    obtain ⟨k, rfl⟩ : ∃ m, k = m + 1 := ⟨k - 1, by omega⟩
    rw [outer_Whole.l0, if_neg (by omega), List.take_of_length_le (by simp [outer_Whole.aux, tabL_length]; omega)]
  | succ d ih =>
    intro t k ht hk
    obtain ⟨k, rfl⟩ : ∃ m, k = m + 1 := ⟨k - 1, by omega⟩
    have hta : t < a := by omega
    have hlen : (outer_Whole.aux J n a l).length = a := by simp [outer_Whole.aux, tabL_length]
    have hrow : rd_L3 (tabL J n a) (t : Int) = mem J n t := by unfold rd_L3; rw [Int.toNat_natCast, tabL_get _ _ _ _ hta]
    have hm := mem_length J n t
    have h1 : rdOf ByteArray.empty l 0 = l.getD 0 ByteArray.empty := by simp [rdOf]
    rw [outer_Whole.l0, if_pos (by omega), if_pos (by omega), if_pos (by rw [tabL_length]; omega), if_pos (by omega), hrow, h1,
      outer_sum.spec l (mem J n t) _ k (by omega) (by omega) (fun x hx => by rw [hl]; exact ((mem_mem J n t x).1 hx).1), Option.bind_some, if_pos (by rw [List.length_append, List.length_take]; omega), wrap64_id _ (by omega) (by omega), show ((t : Int) + 1) = ((t + 1 : Nat) : Int) by omega]
    have e : (l ++ (outer_Whole.aux J n a l).take t) ++ [(sumR (outer_sum.at_ l (mem J n t)) ((l.getD 0 ByteArray.empty).size : Int)).1] = l ++ (outer_Whole.aux J n a l).take (t + 1) := by
      have h3 : t < (outer_Whole.aux J n a l).length := by omega
      rw [List.append_assoc, List.take_succ_eq_append_getElem h3]
      congr 3
      have h4 := tabL_get J n a t hta
      have h5 : t < (tabL J n a).length := by rw [tabL_length]; exact hta
      rw [List.getD_eq_getElem?_getD, List.getElem?_eq_getElem h5, Option.getD_some] at h4
      simp only [outer_Whole.aux, List.getElem_map, h4]
    rw [e]
    exact ih (t + 1) k (by omega) (by omega)
theorem outer_Whole.spec (s n a q : Int) (l : List ByteArray) (k : Nat) (hk : 3000 ≤ k) : outer_Whole.f k s n a q l = some (if outer_Check.B s n a q ∧ (l.length : Int) = n ∧ outer_sized.B l = true then (l ++ outer_Whole.aux (outer_joins.J s.toNat a.toNat q.toNat) n.toNat a.toNat l, 0) else ([], 1)) := by
  obtain ⟨k, rfl⟩ : ∃ m, k = m + 1 := ⟨k - 1, by omega⟩
  unfold outer_Whole.f
  rw [outer_Check.spec, Option.bind_some]
  by_cases h : outer_Check.B s n a q
  · rw [if_pos (decide_eq_true h)]
    obtain ⟨h1, h2, h3, h4⟩ := h
    by_cases hl : (l.length : Int) = n
    · rw [if_pos hl, outer_sized.spec, Option.bind_some]
      by_cases hs : outer_sized.B l = true
      · rw [outer_Whole.j0, if_neg (by simp [hs]), if_pos ⟨⟨h1, h2, h3, h4⟩, hl, hs⟩]
        have hc : slices_Clone_string_string.f l = some l := by
          unfold slices_Clone_string_string.f
          rw [if_pos (by omega)]
        have e := outer_members.spec s.toNat a.toNat q.toNat n.toNat (by omega) (by omega) (by omega) (by omega) k (by omega)
        rw [Int.toNat_of_nonneg h1.1, Int.toNat_of_nonneg (by omega : 0 ≤ n), Int.toNat_of_nonneg (by omega : 0 ≤ a), Int.toNat_of_nonneg (by omega : 0 ≤ q)] at e
        rw [hc, Option.bind_some, e, Option.bind_some, tabL_length]
        have h6 := outer_Whole.loop (outer_joins.J s.toNat a.toNat q.toNat) n.toNat a.toNat (by omega) (by omega) l (by omega) (by omega) a.toNat 0 k (by omega) (by omega)
        rw [List.take_zero, List.append_nil] at h6
        exact h6
      · rw [outer_Whole.j0, if_pos (by simp [hs]), if_neg (fun h9 => hs h9.2.2)]
    · rw [if_neg hl, outer_Whole.j0, if_pos rfl, if_neg (fun h9 => hl h9.2.1)]
  · rw [if_neg (by simp only [decide_eq_true_eq]; exact h), outer_Whole.j0, if_pos rfl, if_neg (fun h9 => h h9.1)]
theorem mosaicref03_Same.loop (l : List ByteArray) (hl : l.length ≤ 1000000000) (m : List ByteArray) (hm : m.length = l.length) (d : Nat) : ∀ (k i : Nat), i + d = l.length → d < k → mosaicref03_Same.l0 k l m (i : Int) = some (decide (l.drop i = m.drop i)) := by
  induction d with
  | zero =>
    intro k i hi hk
    obtain ⟨k, rfl⟩ : ∃ m, k = m + 1 := ⟨k - 1, by omega⟩
    simp only [mosaicref03_Same.l0]
    rw [if_neg (by omega), List.drop_of_length_le (by omega), List.drop_of_length_le (by omega), decide_eq_true rfl]
  | succ d ih =>
    intro k i hi hk
    obtain ⟨k, rfl⟩ : ∃ m, k = m + 1 := ⟨k - 1, by omega⟩
    have h1 : i < l.length := by omega
    have h2 : i < m.length := by omega
    simp only [mosaicref03_Same.l0]
    have e1 : rdOf ByteArray.empty l (i : Int) = l[i] := by simp [rdOf, h1]
    have e2 : rdOf ByteArray.empty m (i : Int) = m[i] := by simp [rdOf, h2]
    rw [if_pos (by omega), if_pos (by omega), if_pos (by omega), e1, e2, wrap64_id _ (by omega) (by omega), List.drop_eq_getElem_cons h1, List.drop_eq_getElem_cons h2]
    have := ih k (i + 1) (by omega) (by omega)
    rw [show ((i + 1 : Nat) : Int) = (i : Int) + 1 by omega] at this
    by_cases h : l[i] = m[i]
    · rw [if_pos (by rw [h]), this]
      congr 1
      rw [Bool.eq_iff_iff, decide_eq_true_iff, decide_eq_true_iff]
      exact ⟨fun e => by rw [h, e], fun e => (List.cons.inj e).2⟩
    · rw [if_neg (fun e => h (toList_inj e))]
      congr 1
      rw [eq_comm, decide_eq_false_iff_not]
      intro hh
      exact h (List.cons.inj hh).1
theorem mosaicref03_Same.spec (l m : List ByteArray) (k : Nat) (hl : l.length ≤ 1000000000) (hk : l.length < k) : mosaicref03_Same.f k l m = some (decide (l = m)) := by
  unfold mosaicref03_Same.f
  by_cases h : l.length = m.length
  · rw [if_pos (by omega)]
    have := mosaicref03_Same.loop l hl m h.symm l.length k 0 (by omega) hk
    simpa using this
  · rw [if_neg (by omega), decide_eq_false (fun e => h (by rw [e]))]
theorem mosaiclaw09_awake.J (i : Nat) : outer_joins.J 0 1 1 i = [0] := by
  have h1 := outer_joins.length 0 1 1 i (by omega)
  have h2 := outer_joins.range 0 1 1 i (by omega)
  match hJ : outer_joins.J 0 1 1 i, h1 with
  | [x], _ =>
    have := h2 x (by rw [hJ]; exact List.mem_singleton_self x)
    have : x = 0 := by omega
    rw [this]
theorem mosaiclaw09_awake.spec (k : Nat) (hk : 3000 ≤ k) : mosaiclaw09_awake.f k = some true := by
  unfold mosaiclaw09_awake.f
  have hB : outer_Check.B 0 1 1 1 := by decide
  have hJ : outer_joins.J (0 : Int).toNat (1 : Int).toNat (1 : Int).toNat = fun _ => [0] := funext mosaiclaw09_awake.J
  have hr : rulL (fun _ => [0]) 1 1 = [[0, 1]] := by decide
  have hz : outer_sized.B [(⟨#[97, 98]⟩ : ByteArray)] = true := by decide
  have ht : tabL (fun _ => [0]) 1 1 = [[0]] := by decide
  have ha : outer_Whole.aux (fun _ => [0]) 1 1 [(⟨#[97, 98]⟩ : ByteArray)] = [(⟨#[97, 98]⟩ : ByteArray)] := by
    unfold outer_Whole.aux
    rw [ht]
    decide +kernel
  rw [outer_Rules.spec _ _ _ _ _ (by omega), if_pos hB, Option.bind_some, outer_Whole.spec _ _ _ _ _ _ hk, if_pos ⟨hB, rfl, hz⟩, Option.bind_some, hJ]
  simp only
  rw [show (1 : Int).toNat = 1 from rfl, hr, ha]
  simp only [if_true]
  rw [if_pos (show ((([[0, 1]] : List (List Int)).length : Int) = 1) from rfl), if_pos (by decide)]
  rw [show rd_L3 [[0, 1]] 0 = [0, 1] from rfl, mosaicref04_Same.spec _ _ _ (by decide) (by simp; omega), Option.bind_some, if_pos (by decide), mosaicref03_Same.spec _ _ _ (by decide) (by simp; omega), Option.bind_some]
  rfl
theorem mosaiclaw09_few.loop (l : List ByteArray) (hl : l.length ≤ 180) (d : Nat) : ∀ (k i : Nat), i + d = l.length → d < k → mosaiclaw09_few.l0 k l (i : Int) = some (decide (∀ s ∈ l.drop i, s.size ≤ 100)) := by
  induction d with
  | zero =>
    intro k i hi hk
    obtain ⟨k, rfl⟩ : ∃ m, k = m + 1 := ⟨k - 1, by omega⟩
    simp only [mosaiclaw09_few.l0]
    rw [if_neg (by omega), List.drop_of_length_le (by omega), decide_eq_true (by simp)]
  | succ d ih =>
    intro k i hi hk
    obtain ⟨k, rfl⟩ : ∃ m, k = m + 1 := ⟨k - 1, by omega⟩
    have h1 : i < l.length := by omega
    simp only [mosaiclaw09_few.l0]
    have e1 : rdOf ByteArray.empty l (i : Int) = l[i] := by simp [rdOf, h1]
    rw [if_pos (by omega), if_pos (by omega), e1, wrap64_id _ (by omega) (by omega), List.drop_eq_getElem_cons h1]
    have := ih k (i + 1) (by omega) (by omega)
    rw [show ((i + 1 : Nat) : Int) = (i : Int) + 1 by omega] at this
    by_cases hs : (l[i].size : Int) > 100
    · rw [if_pos hs]
      congr 1
      rw [eq_comm, decide_eq_false_iff_not]
      intro hh
      have := hh l[i] List.mem_cons_self
      omega
    · rw [if_neg hs, this]
      congr 1
      rw [Bool.eq_iff_iff, decide_eq_true_iff, decide_eq_true_iff]
      constructor
      · intro hh s hm
        rcases List.mem_cons.1 hm with rfl | hm
        · omega
        · exact hh s hm
      · intro hh s hm
        exact hh s (List.mem_cons_of_mem _ hm)
theorem mosaiclaw09_few.spec (l : List ByteArray) (k : Nat) (hk : 200 ≤ k) : mosaiclaw09_few.f k l = some (decide (l.length ≤ 180 ∧ ∀ s ∈ l, s.size ≤ 100)) := by
  unfold mosaiclaw09_few.f
  by_cases h : (l.length : Int) > 180
  · rw [if_pos h, decide_eq_false (by omega)]
  · rw [if_neg h]
    have := mosaiclaw09_few.loop l (by omega) l.length k 0 (by omega) (by omega)
    rw [List.drop_zero] at this
    rw [show (0 : Int) = ((0 : Nat) : Int) from rfl, this]
    congr 1
    rw [Bool.eq_iff_iff, decide_eq_true_iff, decide_eq_true_iff]
    exact ⟨fun hh => ⟨by omega, hh⟩, fun hh => hh.2⟩
theorem block_Zero.spec (z : Int) : block_Zero.f z = some (zeroR z) := by
  unfold block_Zero.f zeroR
  rw [block_may.spec, Option.bind_some]
  by_cases h : 1 ≤ z ∧ z ≤ 64
  · rw [decide_eq_true h, if_pos rfl, if_pos h]
    have e : strings_Repeat.f (⟨#[0]⟩ : ByteArray) z = some (zeroS z.toNat) := by
      unfold strings_Repeat.f
      have z1 : (⟨#[0]⟩ : ByteArray).size = 1 := rfl
      rw [if_pos (by rw [z1]; omega)]
      have e : (⟨#[0]⟩ : ByteArray).data.toList = [0] := rfl
      rw [e, rep0]
      rfl
    rw [e]
    rfl
  · rw [decide_eq_false h, if_neg (by decide), if_neg h]
theorem toList_nil (s : ByteArray) : s.toList = ([] : List UInt8) ↔ s.size = 0 := by
  rw [Go.ByteArray.toList_eq]
  cases s with
  | mk d => simp [ByteArray.size]
def szR : Int → List ByteArray → Int
  | n, [] => n
  | n, s :: l => if s.size = 0 then szR n l else if n = 0 ∧ (1 ≤ s.size ∧ s.size ≤ 64) then szR s.size l else if (s.size : Int) = n then szR n l else 0
theorem outer_size.loop (l : List ByteArray) (hl : l.length ≤ 1000000) (d : Nat) : ∀ (t k : Nat) (n : Int), t + d = l.length → 2 * d < k → outer_size.l0 k n l (l.length : Int) (t : Int) = some (szR n (l.drop t)) := by
  induction d with
  | zero =>
    intro t k n ht hk
    obtain ⟨k, rfl⟩ : ∃ m, k = m + 1 := ⟨k - 1, by omega⟩
    rw [outer_size.l0, if_neg (by omega), List.drop_of_length_le (by omega), szR]
  | succ d ih =>
    intro t k n ht hk
    obtain ⟨k, rfl⟩ : ∃ m, k = m + 1 := ⟨k - 1, by omega⟩
    obtain ⟨k, rfl⟩ : ∃ m, k = m + 1 := ⟨k - 1, by omega⟩
    have h1 : t < l.length := by omega
    have e1 : rdOf ByteArray.empty l (t : Int) = l[t] := by simp [rdOf, h1]
    have h := fun m k hk => ih (t + 1) k m (by omega) hk
    rw [outer_size.l0, if_pos (by omega), if_pos (by omega), if_pos (by omega), e1, wrap64_id _ (by omega) (by omega), show ((t : Int) + 1) = ((t + 1 : Nat) : Int) by omega, List.drop_eq_getElem_cons h1, szR]
    by_cases h0 : l[t].size = 0
    · rw [if_pos ((toList_nil _).2 h0), if_pos h0, h _ _ (by omega)]
    · rw [if_neg (fun e => h0 ((toList_nil _).1 e)), if_neg h0]
      by_cases hn : n = 0
      · rw [if_pos hn, block_Is.spec, Option.bind_some]
        by_cases hm : (1 : Int) ≤ (l[t].size : Int) ∧ (l[t].size : Int) ≤ 64
        · rw [outer_size.j1, decide_eq_true hm, beq_self_eq_true, if_pos (by decide), if_pos ⟨hn, by omega⟩, wrap64_id _ (by omega) (by omega), show ((t : Int) + 1) = ((t + 1 : Nat) : Int) by omega, h _ _ (by omega)]
        · rw [outer_size.j1, decide_eq_false hm, Bool.false_and, if_neg (by decide), if_neg (by omega), if_neg (by omega), if_neg (by omega)]
      · have hn2 : ¬ (n = 0 ∧ (1 ≤ l[t].size ∧ l[t].size ≤ 64)) := fun h9 => hn h9.1
        rw [if_neg hn, outer_size.j1, if_neg (by decide), if_neg hn2]
        by_cases hs : (l[t].size : Int) = n
        · rw [if_pos hs, if_pos hs, wrap64_id _ (by omega) (by omega), show ((t : Int) + 1) = ((t + 1 : Nat) : Int) by omega, h _ _ (by omega)]
        · rw [if_neg hs, if_neg hs]
theorem outer_size.spec (l : List ByteArray) (hl : l.length ≤ 1000000) (k : Nat) (hk : 2 * l.length < k) : outer_size.f k l = some (szR 0 l) := by
  unfold outer_size.f
  have h := outer_size.loop l hl l.length 0 k 0 (by omega) hk
  rw [List.drop_zero] at h
  exact h
theorem szR_some (l : List ByteArray) : ∀ n : Int, (n = 0 ∨ 1 ≤ n ∧ n ≤ 64) → szR n l ≠ 0 → (1 ≤ szR n l ∧ szR n l ≤ 64) ∧ (n ≠ 0 → szR n l = n) ∧ ∀ s ∈ l, s.size = 0 ∨ (s.size : Int) = szR n l := by
  induction l with
  | nil =>
    intro n hn h
    rw [szR] at h ⊢
    exact ⟨by omega, fun _ => rfl, fun s hs => by cases hs⟩
  | cons s l ih =>
    intro n hn h
    rw [szR] at h ⊢
    by_cases h0 : s.size = 0
    · rw [if_pos h0] at h ⊢
      obtain ⟨g1, g2, g3⟩ := ih n hn h
      exact ⟨g1, g2, fun x hx => (List.mem_cons.1 hx).elim (fun e => Or.inl (by rw [e]; exact h0)) (g3 x)⟩
    · rw [if_neg h0] at h ⊢
      by_cases h1 : n = 0 ∧ (1 ≤ s.size ∧ s.size ≤ 64)
      · rw [if_pos h1] at h ⊢
        obtain ⟨g1, g2, g3⟩ := ih s.size (by omega) h
        exact ⟨g1, fun e => absurd h1.1 e, fun x hx => (List.mem_cons.1 hx).elim (fun e => Or.inr (by rw [e]; exact (g2 (by omega)).symm)) (g3 x)⟩
      · rw [if_neg h1] at h ⊢
        by_cases h2 : (s.size : Int) = n
        · rw [if_pos h2] at h ⊢
          obtain ⟨g1, g2, g3⟩ := ih n hn h
          exact ⟨g1, g2, fun x hx => (List.mem_cons.1 hx).elim (fun e => Or.inr (by rw [e, h2]; exact (g2 (by omega)).symm)) (g3 x)⟩
        · rw [if_neg h2] at h
          exact absurd rfl h
def goneB (s : ByteArray) : Bool := decide (s.size = 0)
def sumAt (z : Int) (w : List ByteArray) (r : List Int) : ByteArray := (sumR (outer_sum.at_ w r) z).1
def okW (z L : Nat) (w : List ByteArray) : Prop := w.length = L ∧ ∀ s ∈ w, s.size = 0 ∨ s.size = z
theorem okW_at (z L : Nat) (w : List ByteArray) (h : okW z L w) (x : Int) (hx : 0 ≤ x ∧ x < (L : Int)) : (w.getD x.toNat ByteArray.empty).size = 0 ∨ (w.getD x.toNat ByteArray.empty).size = z := by
  have hl := h.1
  rw [List.getD_eq_getElem?_getD, List.getElem?_eq_getElem (by omega), Option.getD_some]
  exact h.2 _ (List.getElem_mem _)
theorem sumAt_size (z L : Nat) (hz : 1 ≤ z ∧ z ≤ 64) (w : List ByteArray) (r : List Int) (hs : ∀ x ∈ r, (w.getD x.toNat ByteArray.empty).size = z) : sumAt (z : Int) w r = xsum (zeroS z) (outer_sum.at_ w r) := by
  unfold sumAt
  rw [sumR_ok _ _ (by omega) ((odd_iff _ _).2 fun s h => ?_), Int.toNat_natCast]
  obtain ⟨x, hx, rfl⟩ := List.mem_map.1 h
  have := hs x hx
  omega
theorem xb_pull (w : List ByteArray) (r : List Int) (hn : r.Nodup) (x : Int) (hx : x ∈ r) (j : Nat) : xb (outer_sum.at_ w r) j = nb (w.getD x.toNat ByteArray.empty) j ^^^ xb (outer_sum.at_ w (r.filter (· ≠ x))) j := by
  induction r with
  | nil => cases hx
  | cons y r ih =>
    obtain ⟨h1, h2⟩ := List.nodup_cons.1 hn
    have e : ∀ u : List Int, outer_sum.at_ w (y :: u) = w.getD y.toNat ByteArray.empty :: outer_sum.at_ w u := fun _ => rfl
    by_cases hy : y = x
    · subst hy
      have hf : (y :: r).filter (· ≠ y) = r := by
        rw [List.filter_cons_of_neg (by simp), List.filter_eq_self.2 (fun z hz => by simp; intro e; exact h1 (e ▸ hz))]
      rw [hf, e, xb]
    · have hxr : x ∈ r := (List.mem_cons.1 hx).resolve_left (fun e => hy e.symm)
      rw [List.filter_cons_of_pos (by simpa using hy), e, e, xb, xb, ih h2 hxr, ← Nat.xor_assoc, ← Nat.xor_assoc, Nat.xor_comm (nb (w.getD y.toNat ByteArray.empty) j)]
theorem ruleB_at (z : Nat) (hz : 1 ≤ z ∧ z ≤ 64) (w : List ByteArray) (r : List Int) (hs : ∀ x ∈ r, (w.getD x.toNat ByteArray.empty).size = z) : ruleB w (z : Int) r = true ↔ ∀ j, j < z → xb (outer_sum.at_ w r) j = 0 := by
  have e := sumAt_size z 0 hz w r hs
  unfold sumAt at e
  unfold ruleB zeroR
  rw [decide_eq_true_iff, e, if_pos (by omega), Int.toNat_natCast]
  have hxn : ∀ j, j < z → nb (xsum (zeroS z) (outer_sum.at_ w r)) j = xb (outer_sum.at_ w r) j := fun j hj => by
    rw [xsum_nb _ _ _ (by rw [zeroS_size]; exact hj), zeroS_nb, Nat.zero_xor]
  constructor
  · intro h j hj
    rw [← hxn j hj, h, zeroS_nb]
  · intro h
    refine bytes_ext _ _ (by rw [xsum_size]) fun j hj => ?_
    rw [xsum_size, zeroS_size] at hj
    rw [hxn j hj, h j hj, zeroS_nb]
theorem at_same (v w : List ByteArray) (r : List Int) (h : ∀ x ∈ r, v.getD x.toNat ByteArray.empty = w.getD x.toNat ByteArray.empty) : outer_sum.at_ v r = outer_sum.at_ w r := by
  unfold outer_sum.at_
  exact List.map_congr_left h
theorem peelsW (z L : Nat) (hz : 1 ≤ z ∧ z ≤ 64) (R : List (List Int)) (hR : ∀ r ∈ R, r.Nodup ∧ ∀ x ∈ r, 0 ≤ x ∧ x < (L : Int)) : Peels goneB ByteArray.empty L R (sumAt (z : Int)) (fun w r => ruleB w (z : Int) r = true) (okW z L) := by
  have hrest : ∀ w : List ByteArray, okW z L w → ∀ r ∈ R, ∀ x, gapsL goneB ByteArray.empty w r = [x] → ∀ y ∈ r.filter (· ≠ x), (w.getD y.toNat ByteArray.empty).size = z := by
    intro w hw r hr x hg y hy
    obtain ⟨_, _, h3⟩ := gaps_one w r x hg
    obtain ⟨hy1, hy2⟩ := List.mem_filter.1 hy
    have h4 := h3 y hy1 (by simpa using hy2)
    have h5 := okW_at z L w hw y ((hR r hr).2 y hy1)
    unfold goneB at h4
    have := of_decide_eq_false h4
    omega
  have hsz : ∀ w : List ByteArray, okW z L w → ∀ r ∈ R, ∀ x, gapsL goneB ByteArray.empty w r = [x] → (sumAt (z : Int) w (r.filter (· ≠ x))).size = z := by
    intro w hw r hr x hg
    rw [sumAt_size z L hz w _ (hrest w hw r hr x hg), xsum_size, zeroS_size]
  refine ⟨fun r hr => (hR r hr).2, fun x hx => ?_, fun v w r h => ?_, fun v w r _ h => ?_, fun w hw r hr ht hg x hx => ?_, fun w hw r hr x hg => ?_, fun w hw r hr x hg => ⟨by rw [List.length_set]; exact hw.1, fun s hs => ?_⟩, fun w hw => hw.1⟩
  · have h := of_decide_eq_true (by unfold goneB at hx; exact hx)
    refine bytes_ext _ _ (by rw [h]; rfl) fun j hj => by omega
  · unfold sumAt
    rw [at_same v w r h]
  · unfold ruleB
    rw [at_same v w r h]
    exact id
  · have hs : ∀ y ∈ r, (w.getD y.toNat ByteArray.empty).size = z := fun y hy => by
      have h4 := (gaps_nil (e := goneB) (d := ByteArray.empty) w r).1 hg y hy
      have h5 := okW_at z L w hw y ((hR r hr).2 y hy)
      unfold goneB at h4
      have := of_decide_eq_false h4
      omega
    have hb := (ruleB_at z hz w r hs).1 ht
    have hs2 : ∀ y ∈ r.filter (· ≠ x), (w.getD y.toNat ByteArray.empty).size = z := fun y hy => hs y (List.mem_filter.1 hy).1
    rw [sumAt_size z L hz w _ hs2]
    refine bytes_ext _ _ (by rw [hs x hx, xsum_size, zeroS_size]) fun j hj => ?_
    rw [hs x hx] at hj
    rw [xsum_nb _ _ _ (by rw [zeroS_size]; exact hj), zeroS_nb, Nat.zero_xor]
    have h6 := hb j hj
    rw [xb_pull w r (hR r hr).1 x hx j] at h6
    have k1 := congrArg (fun y => nb (w.getD x.toNat ByteArray.empty) j ^^^ y) h6
    simp only [← Nat.xor_assoc, Nat.xor_self, Nat.zero_xor, Nat.xor_zero] at k1
    exact k1.symm
  · unfold goneB
    rw [hsz w hw r hr x hg]
    exact decide_eq_false (by omega)
  · rcases List.mem_or_eq_of_mem_set hs with h | h
    · exact hw.2 s h
    · right
      rw [h]
      exact hsz w hw r hr x hg
theorem outer_Fill.gapsE (w : List ByteArray) (r : List Int) : (r.filter fun x => !outer_gaps.there w x) = gapsL goneB ByteArray.empty w r := by
  unfold gapsL
  apply List.filter_congr
  intro x _
  unfold outer_gaps.there goneB
  rw [Bool.not_not]
theorem outer_Fill.scan_spec (k : Nat) (hk : 2000 ≤ k) (z : Int) (w : List ByteArray) : ∀ rs : List (List Int), (∀ r ∈ rs, 0 < r.length ∧ r.length ≤ 1000 ∧ ∀ x ∈ r, 0 ≤ x ∧ x < (w.length : Int)) → outer_Fill.scan k z w rs = some (scanP goneB ByteArray.empty (sumAt z) (fun w r => ruleB w z r) w rs)
  | [], _ => rfl
  | r :: rs, h => by
    have h1 := h r List.mem_cons_self
    have ih := outer_Fill.scan_spec k hk z w rs (fun x hx => h x (List.mem_cons_of_mem _ hx))
    unfold outer_Fill.scan scanP
    rw [if_pos ⟨h1.1, by omega, h1.2.2⟩, outer_Fill.gapsE]
    split
    · rename_i hg
      rw [hg, outer_sum.spec w r z k h1.2.1 hk h1.2.2, Option.bind_some, block_Zero.spec, Option.bind_some, ih]
      unfold ruleB
      by_cases hq : (sumR (outer_sum.at_ w r) z).1 = zeroR z
      · rw [if_pos (by rw [hq]), if_pos (decide_eq_true hq)]
      · rw [if_neg (fun e => hq (toList_inj e)), if_neg (by simp only [decide_eq_true_eq]; exact hq)]
    · rename_i x hg
      rw [hg, outer_sum.spec w _ z k (Nat.le_trans (List.length_filter_le _ _) h1.2.1) hk (fun y hy => h1.2.2 y (List.mem_filter.1 hy).1), Option.bind_some]
      have e : (r.filter fun y => !decide (y = x)) = r.filter (· ≠ x) := by
        apply List.filter_congr
        intro y _
        simp
      rw [e]
      rfl
    · rename_i g hg1 hg2
      rw [ih]
      split
      · rename_i hg; exact absurd hg hg1
      · rename_i x hg; exact absurd hg (hg2 x)
      · rfl
def fillR (t : Option (List ByteArray)) : List ByteArray × Int := match t with
  | some v => (v, 0)
  | none => ([], 9)
theorem outer_Fill.go_spec (k : Nat) (hk : 2000 ≤ k) (z L : Nat) (hz : 1 ≤ z ∧ z ≤ 64) (R : List (List Int)) (hR : ∀ r ∈ R, (r.Nodup ∧ ∀ x ∈ r, 0 ≤ x ∧ x < (L : Int)) ∧ 0 < r.length ∧ r.length ≤ 1000) : ∀ (n : Nat) (w : List ByteArray), okW z L w → gapN goneB w < n → outer_Fill.go k (z : Int) R n w = some (fillR (fillP goneB ByteArray.empty (sumAt (z : Int)) (fun w r => ruleB w (z : Int) r) R n w))
  | 0, w, _, h => absurd h (by omega)
  | n + 1, w, hw, h => by
    have P := peelsW z L hz R (fun r hr => (hR r hr).1)
    rw [outer_Fill.go_succ, outer_Fill.scan_spec k hk _ w R (fun r hr => ⟨(hR r hr).2.1, (hR r hr).2.2, by rw [hw.1]; exact (hR r hr).1.2⟩), Option.bind_some, fillP]
    split
    · rename_i hq
      rw [hq]
      rfl
    · rename_i hq
      rw [hq]
      rfl
    · rename_i x a hq
      obtain ⟨r, hr, h1, h2⟩ := scanP_fill _ w x a R hq
      subst h2
      have h3 := gapN_step P w hw r hr x h1
      rw [hq, outer_Fill.cont]
      exact outer_Fill.go_spec k hk z L hz R hR n _ (P.okset w hw r hr x h1) (by omega)
theorem rulL_fine (J : Nat → List Int) (n a : Nat) (hn : n ≤ 96) (r : List Int) (h : r ∈ rulL J n a) : (r.Nodup ∧ ∀ x ∈ r, 0 ≤ x ∧ x < ((n + a : Nat) : Int)) ∧ 0 < r.length ∧ r.length ≤ 1000 := by
  obtain ⟨r1, r2⟩ := rulL_in J n a r h
  obtain ⟨j, hj, rfl⟩ := List.mem_map.1 h
  refine ⟨⟨?_, r2⟩, by simp, by omega⟩
  rw [List.nodup_append]
  refine ⟨rises_nodup (mem_rises J n j), by simp, fun x hx y hy => ?_⟩
  have := ((mem_mem J n j x).1 hx).1
  rw [List.mem_singleton] at hy
  omega
def outer_Fill.R (s n a q : Int) (l : List ByteArray) : List ByteArray × Int := if outer_Check.B s n a q ∧ (l.length : Int) = n + a ∧ szR 0 l ≠ 0 then fillR (fillP goneB ByteArray.empty (sumAt (szR 0 l)) (fun w r => ruleB w (szR 0 l) r) (rulL (outer_joins.J s.toNat a.toNat q.toNat) n.toNat a.toNat) (l.length + 1) l) else ([], 1)
theorem outer_Fill.spec (s n a q : Int) (l : List ByteArray) (hl : l.length ≤ 1000000) (k : Nat) (hk : 3000000 ≤ k) : outer_Fill.f k s n a q l = some (outer_Fill.R s n a q l) := by
  unfold outer_Fill.f outer_Fill.R
  rw [outer_size.spec l hl k (by omega), Option.bind_some, outer_Check.spec, Option.bind_some]
  by_cases h : outer_Check.B s n a q
  · rw [if_pos (decide_eq_true h)]
    obtain ⟨h1, h2, h3, h4⟩ := h
    rw [wrap64_id _ (by omega) (by omega)]
    by_cases hln : (l.length : Int) = n + a
    · rw [if_pos hln]
      by_cases hz : szR 0 l = 0
      · rw [if_pos hz, if_neg (fun h9 => h9.2.2 hz)]
      · have hc : slices_Clone_string_string.f l = some l := by
          unfold slices_Clone_string_string.f
          rw [if_pos (by omega)]
        have e := outer_rules.spec s.toNat a.toNat q.toNat n.toNat (by omega) (by omega) (by omega) (by omega) k (by omega)
        rw [Int.toNat_of_nonneg h1.1, Int.toNat_of_nonneg (by omega : 0 ≤ n), Int.toNat_of_nonneg (by omega : 0 ≤ a), Int.toNat_of_nonneg (by omega : 0 ≤ q)] at e
        obtain ⟨g1, _, g3⟩ := szR_some l 0 (Or.inl rfl) hz
        obtain ⟨z, hzz⟩ : ∃ z : Nat, szR 0 l = (z : Int) := ⟨(szR 0 l).toNat, by omega⟩
        rw [hzz] at g1 g3 hz ⊢
        rw [if_neg hz, hc, Option.bind_some, e, Option.bind_some, if_pos ⟨⟨h1, h2, h3, h4⟩, hln, hz⟩]
        refine outer_Fill.go_spec k (by omega) z l.length (by omega) _ (fun r hr => ?_) (l.length + 1) l ⟨rfl, fun s hs => ?_⟩ (by have := gapN_le (e := goneB) l; omega)
        · have := rulL_fine _ _ _ (by omega) r hr
          refine ⟨⟨this.1.1, fun x hx => ?_⟩, this.2⟩
          have := this.1.2 x hx
          omega
        · have := g3 s hs
          omega
    · rw [if_neg hln, if_neg (fun h9 => hln h9.2.1)]
  · rw [if_neg (by simp only [decide_eq_true_eq]; exact h), if_neg (fun h9 => h h9.1)]
theorem mosaicref09_Check.spec (s n a q : Int) : mosaicref09_Check.f s n a q = some (decide (outer_Check.B s n a q)) := by
  unfold mosaicref09_Check.f
  by_cases hB : outer_Check.B s n a q
  · rw [decide_eq_true hB]
    obtain ⟨h1, h2, h3, h4⟩ := hB
    rw [if_pos h1.1, if_pos h1.2, if_pos h2.1, if_pos h2.2, if_pos h3.1, if_pos h3.2, if_pos h4.1, decide_eq_true h4.2]
  · rw [decide_eq_false hB]
    unfold outer_Check.B at hB
    repeat' split
    any_goals rfl
    rw [decide_eq_false (by omega)]
theorem mosaicref09_Has.loop (l : List Int) (x : Int) (hl : l.length ≤ 1000000) (d : Nat) : ∀ (k i : Nat), i + d = l.length → d < k → mosaicref09_Has.l0 k l x (i : Int) = some ((l.drop i).contains x) := by
  induction d with
  | zero =>
    intro k i hi hk
    obtain ⟨k, rfl⟩ : ∃ m, k = m + 1 := ⟨k - 1, by omega⟩
    rw [mosaicref09_Has.l0, if_neg (by omega), List.drop_of_length_le (by omega)]
    rfl
  | succ d ih =>
    intro k i hi hk
    obtain ⟨k, rfl⟩ : ∃ m, k = m + 1 := ⟨k - 1, by omega⟩
    have h1 : i < l.length := by omega
    have e1 : rd l (i : Int) = l[i] := by simp [rd, h1]
    rw [mosaicref09_Has.l0, if_pos (by omega), if_pos (by omega), e1, wrap64_id _ (by omega) (by omega), List.drop_eq_getElem_cons h1]
    have := ih k (i + 1) (by omega) (by omega)
    rw [show ((i + 1 : Nat) : Int) = (i : Int) + 1 by omega] at this
    by_cases h : l[i] = x
    · rw [if_pos h, List.contains_cons, show (x == l[i]) = true from beq_iff_eq.mpr h.symm, Bool.true_or]
    · rw [if_neg h, this, List.contains_cons, show (x == l[i]) = false from beq_eq_false_iff_ne.mpr (fun e => h e.symm), Bool.false_or]
theorem mosaicref09_Has.spec (l : List Int) (x : Int) (k : Nat) (hl : l.length ≤ 1000000) (hk : l.length < k) : mosaicref09_Has.f k l x = some (l.contains x) := by
  unfold mosaicref09_Has.f
  have := mosaicref09_Has.loop l x hl l.length k 0 (by omega) hk
  simpa using this
theorem mosaicref09_members.loop (J : Nat → List Int) (n : Nat) (hn : n ≤ 96) (hJ : ∀ i, i < n → (J i).length ≤ 100000) (j : Nat) (d : Nat) : ∀ (i k : Nat), i + d = n → 200000 + d < k →
    mosaicref09_members.l0 k (rowsJ J n) (j : Int) (mem J i j) (i : Int) = some (mem J n j) := by
  induction d with
  | zero =>
    intro i k hi hk
    obtain ⟨k, rfl⟩ : ∃ m, k = m + 1 := ⟨k - 1, by omega⟩
    obtain rfl : i = n := by omega
    rw [mosaicref09_members.l0, if_neg (by rw [rowsJ_length]; omega)]
  | succ d ih =>
    intro i k hi hk
    obtain ⟨k, rfl⟩ : ∃ m, k = m + 1 := ⟨k - 1, by omega⟩
    have hr : rd_L3 (rowsJ J n) (i : Int) = J i := by unfold rd_L3; rw [Int.toNat_natCast, rowsJ_get _ _ _ (by omega)]
    have hli := hJ i (by omega)
    have hm := mem_length J i j
    have h := ih (i + 1) k (by omega) (by omega)
    rw [mem_succ] at h
    rw [mosaicref09_members.l0, if_pos (by rw [rowsJ_length]; omega), if_pos (by omega), hr, mosaicref09_Has.spec _ _ _ (by omega) (by omega), Option.bind_some, wrap64_id _ (by omega) (by omega), show ((i : Int) + 1) = ((i + 1 : Nat) : Int) by omega]
    by_cases hc : (j : Int) ∈ J i
    · rw [if_pos hc] at h
      rw [if_pos (List.contains_iff_mem.2 hc), if_pos (by omega)]
      exact h
    · rw [if_neg hc] at h
      rw [if_neg (fun e => hc (List.contains_iff_mem.1 e))]
      exact h
theorem mosaicref09_members.spec (J : Nat → List Int) (n : Nat) (hn : n ≤ 96) (hJ : ∀ i, i < n → (J i).length ≤ 100000) (j : Nat) (k : Nat) (hk : 210000 ≤ k) : mosaicref09_members.f k (rowsJ J n) (j : Int) = some (mem J n j) := by
  unfold mosaicref09_members.f
  exact mosaicref09_members.loop J n hn hJ j n 0 k (by omega) (by omega)
theorem mosaicref02_power.loop (m : Nat) (hm : m ≤ 7) (d : Nat) : ∀ (k i : Nat), i + d = m → d < k → mosaicref02_power.l0 k (m : Int) ((256 ^ i : Nat) : Int) (i : Int) = some ((256 ^ m : Nat) : Int) := by
  induction d with
  | zero =>
    intro k i hi hk
    obtain ⟨k, rfl⟩ : ∃ m, k = m + 1 := ⟨k - 1, by omega⟩
    simp only [mosaicref02_power.l0]
    rw [if_neg (by omega), show i = m by omega]
  | succ d ih =>
    intro k i hi hk
    obtain ⟨k, rfl⟩ : ∃ m, k = m + 1 := ⟨k - 1, by omega⟩
    have hp := p256_le7 (i + 1) (by omega)
    rw [Nat.pow_succ] at hp
    simp only [mosaicref02_power.l0]
    rw [if_pos (by omega), wrap64_id _ (by omega) (by omega), wrap64_id _ (by omega) (by omega)]
    have := ih k (i + 1) (by omega) (by omega)
    rw [Nat.pow_succ, show ((i + 1 : Nat) : Int) = (i : Int) + 1 by omega] at this
    rw [← this]
    congr 1
theorem mosaicref02_power.spec (m : Nat) (hm : m ≤ 7) (k : Nat) (hk : 8 ≤ k) : mosaicref02_power.f k (m : Int) = some ((256 ^ m : Nat) : Int) := by
  unfold mosaicref02_power.f
  have := mosaicref02_power.loop m hm m k 0 (by omega) (by omega)
  simpa using this
theorem mosaicref02_Put.loop (n : Nat) (hn : n < 72057594037927936) (d : Nat) : ∀ (k : Nat) (xs : List Int), d ≤ 7 → d + 8 < k → xs.length + d ≤ 100 → mosaicref02_Put.l0 k (n : Int) xs ((d : Int) - 1) = some (strOfNums (xs ++ beL n d), 0) := by
  induction d with
  | zero =>
    intro k xs hd hk hx
    obtain ⟨k, rfl⟩ : ∃ m, k = m + 1 := ⟨k - 1, by omega⟩
    simp only [mosaicref02_Put.l0]
    rw [if_neg (by omega)]
    simp [beL]
  | succ d ih =>
    intro k xs hd hk hx
    obtain ⟨k, rfl⟩ : ∃ m, k = m + 1 := ⟨k - 1, by omega⟩
    have hp := p256_pos d
    simp only [mosaicref02_Put.l0]
    rw [show ((d + 1 : Nat) : Int) - 1 = (d : Int) by omega, if_pos (by omega), mosaicref02_power.spec d (by omega) k (by omega), Option.bind_some, if_neg (by omega), if_pos (by omega), wrap64_id ((d : Int) - 1) (by omega) (by omega)]
    have e : Int.tmod (wrap64 (Int.tdiv (n : Int) ((256 ^ d : Nat) : Int))) 256 % 256 = ((n / 256 ^ d % 256 : Nat) : Int) := by
      have hq : n / 256 ^ d ≤ n := Nat.div_le_self _ _
      rw [tdiv_pos _ _ (by omega), ← Int.natCast_ediv]
      generalize n / 256 ^ d = q at *
      rw [wrap64_id _ (by omega) (by omega), tmod_pos _ _ (by omega)]
      omega
    rw [e, ih k (xs ++ [((n / 256 ^ d % 256 : Nat) : Int)]) (by omega) (by omega) (by simp; omega)]
    simp [beL]
theorem mosaicref02_Put.spec (n size : Int) (k : Nat) (hk : 20 ≤ k) : mosaicref02_Put.f k n size = some (putR n size) := by
  unfold mosaicref02_Put.f putR
  obtain ⟨k, rfl⟩ : ∃ m, k = m + 2 := ⟨k - 2, by omega⟩
  by_cases h1 : size < 1
  · rw [if_pos h1]
    simp only [mosaicref02_Put.j0]
    rw [if_pos trivial, if_pos (.inl h1)]
  · rw [if_neg h1]
    simp only [mosaicref02_Put.j0]
    by_cases h2 : size > 7
    · rw [if_pos (decide_eq_true h2), if_pos (.inr h2)]
    · rw [if_neg (by simpa using h2), if_neg (show ¬ (size < 1 ∨ 7 < size) by omega)]
      by_cases h3 : n < 0
      · rw [if_pos h3, if_pos (.inl h3)]
        simp only [mosaicref02_Put.j1]
        rw [if_pos trivial]
      · have hpw := mosaicref02_power.spec size.toNat (by omega) (k + 1) (by omega)
        rw [show ((size.toNat : Nat) : Int) = size by omega] at hpw
        have h7 := p256_le7 size.toNat (by omega)
        rw [if_neg h3, hpw, Option.bind_some]
        simp only [mosaicref02_Put.j1]
        by_cases h4 : n ≥ ((256 ^ size.toNat : Nat) : Int)
        · rw [if_pos (decide_eq_true h4), if_pos (.inr h4)]
        · rw [if_neg (by simpa using h4), if_neg (by omega), wrap64_id (size - 1) (by omega) (by omega)]
          have := mosaicref02_Put.loop n.toNat (by omega) size.toNat k [] (by omega) (by omega) (by simp; omega)
          rw [show ((n.toNat : Nat) : Int) = n by omega, show ((size.toNat : Nat) : Int) - 1 = size - 1 by omega] at this
          rw [this]
          rfl
theorem mosaicref02_Num.spec (n z : Int) (k : Nat) (hk : 20 ≤ k) : mosaicref02_Num.f k n z = some (putR n z).1 := by
  unfold mosaicref02_Num.f
  rw [mosaicref02_Put.spec _ _ _ hk, Option.bind_some]
theorem mosaicref01_Pad.loop (n : Nat) (hn : n ≤ 65536) (z : Nat) (hz : (n + 1 + z + 8) % 64 = 0) (hz2 : ∀ y, y < z → (n + 1 + y + 8) % 64 ≠ 0) (hzl : z ≤ 64) (d : Nat) : ∀ (y k : Nat), y + d = z → d < k → mosaicref01_Pad.l0 k (n : Int) ([128] ++ List.replicate y 0) = some (strOfNums (([128] ++ List.replicate z 0) ++ tailB n 8)) := by
  have key : ∀ y, y ≤ z → Int.tmod (wrap64 ((wrap64 ((n : Int) + ((([128] ++ List.replicate y 0 : List Int).length : Nat) : Int))) + 8)) 64 = (((n + 1 + y + 8) % 64 : Nat) : Int) := by
    intro y hy
    have e : (([128] ++ List.replicate y 0 : List Int).length) = y + 1 := by simp
    rw [e, wrap64_id ((n : Int) + _) (by omega) (by omega), wrap64_id _ (by omega) (by omega), Int.tmod_eq_emod_of_nonneg (by omega)]
    omega
  induction d with
  | zero =>
    intro y k hy hk
    obtain ⟨k, rfl⟩ : ∃ m, k = m + 1 := ⟨k - 1, by omega⟩
    obtain rfl : y = z := by omega
    rw [mosaicref01_Pad.l0, key y (by omega), if_pos (by omega), Option.bind_some, if_pos (by simp; omega)]
    congr 3
    simp only [tailB]
    rw [wrap64_id (8 * (n : Int)) (by omega) (by omega), Int.tdiv_eq_ediv_of_nonneg (by omega), Int.tdiv_eq_ediv_of_nonneg (by omega), Int.tdiv_eq_ediv_of_nonneg (by omega), wrap64_id _ (by omega) (by omega), wrap64_id _ (by omega) (by omega), wrap64_id _ (by omega) (by omega), Int.tmod_eq_emod_of_nonneg (by omega), Int.tmod_eq_emod_of_nonneg (by omega), Int.tmod_eq_emod_of_nonneg (by omega)]
    have e : ((8 * n : Nat) : Int) = 8 * (n : Int) := by omega
    rw [e]
    simp only [Nat.reduceMul, Int.reducePow, List.cons.injEq, and_true]
    refine ⟨?_, ?_, ?_, ?_, ?_, ?_, ?_, ?_⟩ <;> first | trivial | omega
  | succ d ih =>
    intro y k hy hk
    obtain ⟨k, rfl⟩ : ∃ m, k = m + 1 := ⟨k - 1, by omega⟩
    have h1 := hz2 y (by omega)
    rw [mosaicref01_Pad.l0, key y (by omega), if_neg (by omega), if_pos (by simp; omega)]
    have e : ([128] ++ List.replicate y 0 : List Int) ++ [0] = [128] ++ List.replicate (y + 1) 0 := by rw [List.append_assoc, ← List.replicate_succ']
    rw [e]
    exact ih (y + 1) k (by omega) (by omega)
theorem mosaicref01_Pad.spec (n : Nat) (hn : n ≤ 65536) (k : Nat) (hk : 100 ≤ k) : mosaicref01_Pad.f k (n : Int) = some (strOfNums (padL n)) := by
  obtain ⟨k, rfl⟩ : ∃ m, k = m + 1 := ⟨k - 1, by omega⟩
  unfold mosaicref01_Pad.f
  rw [if_neg (by omega), mosaicref01_Pad.j0, if_neg (by simp; omega)]
  have h := mosaicref01_Pad.loop n hn ((119 - n % 64) % 64) (by omega) (by intro y hy; omega) (by omega) ((119 - n % 64) % 64) 0 k (by omega) (by omega)
  rw [List.replicate_zero, List.append_nil] at h
  exact h
theorem mosaicref01_rotr.spec (x n : Int) (h1 : 0 ≤ n) (h2 : n ≤ 32) : mosaicref01_rotr.f x n = some (rotI x n) := by
  unfold mosaicref01_rotr.f rotI
  rw [if_pos h1, u64_wrap _ (by omega) (by omega), if_pos (by omega), bits_or_comm]
theorem mosaicref01_Words.wordI_eq (b : ByteArray) (t : Nat) : ((((((((bt b ((4 * t : Nat) : Int)) % 4294967296) * 16777216) % 4294967296) + ((((bt b ((4 * t + 1 : Nat) : Int)) % 4294967296) * 65536) % 4294967296)) % 4294967296) + ((((bt b ((4 * t + 2 : Nat) : Int)) % 4294967296) * 256) % 4294967296)) % 4294967296 + ((bt b ((4 * t + 3 : Nat) : Int)) % 4294967296)) % 4294967296 = wordI (bytesOf b) (4 * t) := by
  unfold wordI
  rw [bytesOf_getD, bytesOf_getD, bytesOf_getD, bytesOf_getD, bt_nb, bt_nb, bt_nb, bt_nb, Int.toNat_natCast, Int.toNat_natCast, Int.toNat_natCast, Int.toNat_natCast]
  have h0 := nb_lt b (4 * t)
  have h1 := nb_lt b (4 * t + 1)
  have h2 := nb_lt b (4 * t + 2)
  have h3 := nb_lt b (4 * t + 3)
  rw [word_nat _ _ _ _ h0 h1 h2 h3]
  omega
theorem mosaicref01_Words.first (b : ByteArray) (hb : b.size = 64) (d : Nat) : ∀ (t k : Nat), t + d = 16 → d < k → mosaicref01_Words.l0 k b (schW (bytesOf b) t) (t : Int) = mosaicref01_Words.l1 (k - d - 1) (schW (bytesOf b) 16) 16 := by
  induction d with
  | zero =>
    intro t k ht hk
    obtain ⟨k, rfl⟩ : ∃ m, k = m + 1 := ⟨k - 1, by omega⟩
    obtain rfl : t = 16 := by omega
    rw [mosaicref01_Words.l0, if_neg (by omega)]
    rfl
  | succ d ih =>
    intro t k ht hk
    obtain ⟨k, rfl⟩ : ∃ m, k = m + 1 := ⟨k - 1, by omega⟩
    have hl := schW_length (bytesOf b) t
    have e0 : wrap64 (4 * (t : Int)) = ((4 * t : Nat) : Int) := by rw [wrap64_id _ (by omega) (by omega)]; omega
    have e1 : wrap64 (((4 * t : Nat) : Int) + 1) = ((4 * t + 1 : Nat) : Int) := by rw [wrap64_id _ (by omega) (by omega)]; omega
    have e2 : wrap64 (((4 * t : Nat) : Int) + 2) = ((4 * t + 2 : Nat) : Int) := by rw [wrap64_id _ (by omega) (by omega)]; omega
    have e3 : wrap64 (((4 * t : Nat) : Int) + 3) = ((4 * t + 3 : Nat) : Int) := by rw [wrap64_id _ (by omega) (by omega)]; omega
    rw [mosaicref01_Words.l0, if_pos (by omega), e0, e1, e2, e3, if_pos (by omega), if_pos (by omega), if_pos (by omega), if_pos (by omega), if_pos (by omega), if_pos (by omega), if_pos (by omega), if_pos (by omega), if_pos (by omega), mosaicref01_Words.wordI_eq, wrap64_id _ (by omega) (by omega)]
    have h := ih (t + 1) k (by omega) (by omega)
    rw [schW, if_pos (by omega)] at h
    rw [show ((t : Int) + 1) = ((t + 1 : Nat) : Int) by omega, h]
    congr 1
    omega
theorem mosaicref01_Words.rest (b : List Int) (d : Nat) : ∀ (t k : Nat), 16 ≤ t → t + d = 64 → d < k → mosaicref01_Words.l1 k (schW b t) (t : Int) = some (schW b 64) := by
  induction d with
  | zero =>
    intro t k h16 ht hk
    obtain ⟨k, rfl⟩ : ∃ m, k = m + 1 := ⟨k - 1, by omega⟩
    obtain rfl : t = 64 := by omega
    rw [mosaicref01_Words.l1, if_neg (by omega)]
  | succ d ih =>
    intro t k h16 ht hk
    obtain ⟨k, rfl⟩ : ∃ m, k = m + 1 := ⟨k - 1, by omega⟩
    have hl := schW_length b t
    have e15 : wrap64 ((t : Int) - 15) = ((t - 15 : Nat) : Int) := by rw [wrap64_id _ (by omega) (by omega)]; omega
    have e2 : wrap64 ((t : Int) - 2) = ((t - 2 : Nat) : Int) := by rw [wrap64_id _ (by omega) (by omega)]; omega
    have e7 : wrap64 ((t : Int) - 7) = ((t - 7 : Nat) : Int) := by rw [wrap64_id _ (by omega) (by omega)]; omega
    have e16 : wrap64 ((t : Int) - 16) = ((t - 16 : Nat) : Int) := by rw [wrap64_id _ (by omega) (by omega)]; omega
    rw [mosaicref01_Words.l1, if_pos (by omega), e15, e2, e7, e16, if_pos (by omega), if_pos (by omega), if_pos (by omega), if_pos (by omega), mosaicref01_rotr.spec _ _ (by omega) (by omega), Option.bind_some, mosaicref01_rotr.spec _ _ (by omega) (by omega), Option.bind_some, mosaicref01_rotr.spec _ _ (by omega) (by omega), Option.bind_some, mosaicref01_rotr.spec _ _ (by omega) (by omega), Option.bind_some,
      if_pos (by omega), if_pos (by omega), if_pos (by omega), if_pos (by omega), if_pos (by omega), wrap64_id _ (by omega) (by omega)]
    have h := ih (t + 1) k (by omega) (by omega) (by omega)
    rw [schW, if_neg (by omega)] at h
    rw [show ((t : Int) + 1) = ((t + 1 : Nat) : Int) by omega, ← h]
    simp only [rd, Int.toNat_natCast]
    congr 3
    unfold sig1 sig0
    generalize Go.bits .xor .u32 (Go.bits .xor .u32 (rotI ((schW b t).getD (t - 2) 0) 17) (rotI ((schW b t).getD (t - 2) 0) 19)) ((schW b t).getD (t - 2) 0 / 1024) = x1
    generalize Go.bits .xor .u32 (Go.bits .xor .u32 (rotI ((schW b t).getD (t - 15) 0) 7) (rotI ((schW b t).getD (t - 15) 0) 18)) ((schW b t).getD (t - 15) 0 / 8) = x2
    generalize (schW b t).getD (t - 7) 0 = x3
    generalize (schW b t).getD (t - 16) 0 = x4
    omega
theorem mosaicref01_Words.spec (b : ByteArray) (hb : b.size = 64) (k : Nat) (hk : 100 ≤ k) : mosaicref01_Words.f k b = some (schW (bytesOf b) 64) := by
  unfold mosaicref01_Words.f
  have h := mosaicref01_Words.first b hb 16 0 k (by omega) (by omega)
  refine Eq.trans h ?_
  exact mosaicref01_Words.rest (bytesOf b) 48 16 (k - 16 - 1) (by omega) (by omega) (by omega)
set_option maxHeartbeats 4000000 in
theorem mosaicref01_Mix.spec (st : List Int) (b : ByteArray) (hs : st.length = 8) (hb : b.size = 64) (k : Nat) (hk : 200 ≤ k) : mosaicref01_Mix.f k st b = some (mixW st (bytesOf b)) := by
  have hw := schW_length (bytesOf b) 64
  have hK : shaK.length = 64 := rfl
  have loop : ∀ (d t k : Nat) (x7 x8 x9 x10 x11 x12 x13 x14 : Int), t + d = 64 → d < k → rndsW st (bytesOf b) t = [x7, x8, x9, x10, x11, x12, x13, x14] → mosaicref01_Mix.l0 k st (schW (bytesOf b) 64) shaK x7 x8 x9 x10 x11 x12 x13 x14 (t : Int) = some (mixW st (bytesOf b)) := by
    intro d
    induction d with
    | zero =>
      intro t k x7 x8 x9 x10 x11 x12 x13 x14 ht hk hr
      obtain ⟨k, rfl⟩ : ∃ m, k = m + 1 := ⟨k - 1, by omega⟩
      obtain rfl : t = 64 := by omega
      rw [mosaicref01_Mix.l0, if_neg (by omega), if_pos (by omega), if_pos (by omega), if_pos (by omega), if_pos (by omega), if_pos (by omega), if_pos (by omega), if_pos (by omega), if_pos (by omega)]
      unfold mixW
      rw [hr]
      obtain ⟨s0, s1, s2, s3, s4, s5, s6, s7, rfl⟩ := eight st hs
      simp only [addW, rd]
      simp [List.range_succ, Int.add_comm]
    | succ d ih =>
      intro t k x7 x8 x9 x10 x11 x12 x13 x14 ht hk hr
      obtain ⟨k, rfl⟩ : ∃ m, k = m + 1 := ⟨k - 1, by omega⟩
      rw [mosaicref01_Mix.l0, if_pos (by omega), mosaicref01_rotr.spec _ _ (by omega) (by omega), Option.bind_some, mosaicref01_rotr.spec _ _ (by omega) (by omega), Option.bind_some, mosaicref01_rotr.spec _ _ (by omega) (by omega), Option.bind_some, if_pos (by omega), if_pos (by omega), if_pos (by omega),
        mosaicref01_rotr.spec _ _ (by omega) (by omega), Option.bind_some, mosaicref01_rotr.spec _ _ (by omega) (by omega), Option.bind_some, mosaicref01_rotr.spec _ _ (by omega) (by omega), Option.bind_some, wrap64_id _ (by omega) (by omega), show ((t : Int) + 1) = ((t + 1 : Nat) : Int) by omega]
      refine ih (t + 1) k _ _ _ _ _ _ _ _ (by omega) (by omega) ?_
      rw [rndsW, hr, rndW]
      simp only [List.getD_cons_zero, List.getD_cons_succ, rd, Int.toNat_natCast, t1I, t2I, xor3, chI, majI]
      rw [show IntKind.u32.max = 4294967295 from rfl]
      generalize Go.bits .xor .u32 (Go.bits .xor .u32 (rotI x11 6) (rotI x11 11)) (rotI x11 25) = y1
      generalize Go.bits .xor .u32 (Go.bits .and .u32 x11 x12) (Go.bits .and .u32 (Go.bits .xor .u32 4294967295 x11) x13) = y2
      generalize Go.bits .xor .u32 (Go.bits .xor .u32 (rotI x7 2) (rotI x7 13)) (rotI x7 22) = y3
      generalize Go.bits .xor .u32 (Go.bits .xor .u32 (Go.bits .and .u32 x7 x8) (Go.bits .and .u32 x7 x9)) (Go.bits .and .u32 x8 x9) = y4
      generalize shaK.getD t 0 = y5
      generalize (schW (bytesOf b) 64).getD t 0 = y6
      refine congr (congrArg List.cons ?_) (congrArg (List.cons x7) (congrArg (List.cons x8) (congrArg (List.cons x9) (congr (congrArg List.cons ?_) rfl))))
      · omega
      · omega
  unfold mosaicref01_Mix.f
  rw [mosaicref01_Words.spec b hb k (by omega), Option.bind_some]
  unfold mosaicref01_K.f
  rw [Option.bind_some, if_pos (by omega), if_pos (by omega), if_pos (by omega), if_pos (by omega), if_pos (by omega), if_pos (by omega), if_pos (by omega), if_pos (by omega)]
  refine loop 64 0 k _ _ _ _ _ _ _ _ (by omega) (by omega) ?_
  obtain ⟨s0, s1, s2, s3, s4, s5, s6, s7, rfl⟩ := eight st hs
  rfl
theorem mosaicref01_Sum.out (st : List Int) (hst : st.length = 8) (d : Nat) : ∀ (t k : Nat), t + d = 8 → d < k → mosaicref01_Sum.l1 k st (outW (st.take t)) (t : Int) = some (strOfNums (outW st)) := by
  induction d with
  | zero =>
    intro t k ht hk
    obtain ⟨k, rfl⟩ : ∃ m, k = m + 1 := ⟨k - 1, by omega⟩
    rw [mosaicref01_Sum.l1, if_neg (by omega), List.take_of_length_le (by omega)]
  | succ d ih =>
    intro t k ht hk
    obtain ⟨k, rfl⟩ : ∃ m, k = m + 1 := ⟨k - 1, by omega⟩
    have htl : t < st.length := by omega
    have e1 : rd st (t : Int) = st[t] := by simp [rd, htl]
    rw [mosaicref01_Sum.l1, if_pos (by omega), if_pos (by omega), Option.bind_some, if_pos (by rw [outW_length, List.length_take]; simp; omega), e1, wrap64_id _ (by omega) (by omega), show ((t : Int) + 1) = ((t + 1 : Nat) : Int) by omega]
    have h := ih (t + 1) k (by omega) (by omega)
    rw [List.take_succ_eq_append_getElem htl, outW_append] at h
    exact h
theorem mosaicref01_Sum.blocks (x : ByteArray) (hx : x.size ≤ 100000) (d : Nat) : ∀ (i k : Nat) (st : List Int), st.length = 8 → 64 * (i + d) = x.size → 300 + d < k →
    mosaicref01_Sum.l0 k x st ((64 * i : Nat) : Int) = some (strOfNums (outW (foldW d st ((bytesOf x).drop (64 * i))))) := by
  induction d with
  | zero =>
    intro i k st hst hi hk
    obtain ⟨k, rfl⟩ : ∃ m, k = m + 1 := ⟨k - 1, by omega⟩
    rw [mosaicref01_Sum.l0, if_neg (by omega)]
    have h := mosaicref01_Sum.out st hst 8 0 k (by omega) (by omega)
    exact h
  | succ d ih =>
    intro i k st hst hi hk
    obtain ⟨k, rfl⟩ : ∃ m, k = m + 1 := ⟨k - 1, by omega⟩
    have e : wrap64 (((64 * i : Nat) : Int) + 64) = ((64 * (i + 1) : Nat) : Int) := by rw [wrap64_id _ (by omega) (by omega)]; omega
    rw [mosaicref01_Sum.l0, if_pos (by omega), if_pos (by omega), e, if_pos (by omega), if_pos (by omega), Int.toNat_natCast, Int.toNat_natCast]
    have hsz : (x.extract (64 * i) (64 * (i + 1))).size = 64 := by rw [ByteArray.size_extract]; omega
    have hb : bytesOf (x.extract (64 * i) (64 * (i + 1))) = ((bytesOf x).drop (64 * i)).take 64 := by
      unfold bytesOf
      rw [← List.map_drop, ← List.map_take]
      congr 1
      rw [ByteArray.data_extract, Array.toList_extract, List.extract_eq_take_drop, show 64 * (i + 1) - 64 * i = 64 by omega]
    rw [mosaicref01_Mix.spec st _ hst hsz k (by omega), Option.bind_some, hb, ih (i + 1) k _ (mixW_length _ _) (by omega) (by omega), foldW, List.drop_drop]
    rfl
theorem mosaicref01_Sum.spec (s : ByteArray) (k : Nat) (hk : 2000 ≤ k) : mosaicref01_Sum.f k s = some (shaS s) := by
  unfold mosaicref01_Sum.f
  by_cases h : 65536 < s.size
  · rw [if_pos (by omega)]
    unfold shaS
    rw [if_pos h]
  rw [if_neg (by omega), mosaicref01_Pad.spec s.size (by omega) k (by omega), Option.bind_some]
  have hpl := padL_length s.size
  have hpm := padL_mod s.size
  have hsz : (s ++ strOfNums (padL s.size)).size = s.size + (padL s.size).length := by rw [ByteArray.size_append, strOfNums_size']
  rw [if_pos (by rw [strOfNums_size']; omega)]
  unfold mosaicref01_Start.f
  rw [Option.bind_some, shaS_fold s (by omega)]
  have hb := mosaicref01_Sum.blocks (s ++ strOfNums (padL s.size)) (by omega) ((s.size + (padL s.size).length) / 64) 0 k shaStart rfl (by omega) (by omega)
  refine Eq.trans hb ?_
  have hbp := bytesOf_pad s
  rw [Nat.mul_zero, List.drop_zero, hbp, List.length_append, bytesOf_length]
theorem mosaicref04_Block.spec (s : ByteArray) (n : Nat) (k : Nat) (hs : s.size ≤ 64) (hn : n ≤ 72057594037927935) (hk : 3000 ≤ k) : mosaicref04_Block.f k s (n : Int) = some (shaS (prng_Block.msg s n)) := by
  unfold mosaicref04_Block.f
  have hput : putR (n : Int) 7 = (numS n 7, 0) := by
    unfold putR
    rw [if_neg (by omega), if_neg (by
      rw [show ((256 ^ (7 : Int).toNat : Nat) : Int) = 72057594037927936 from rfl]
      omega)]
    rfl
  have hput1 : (putR (s.size : Int) 1).1 = strOfNums [(s.size : Int) % 256] := by
    unfold putR
    rw [if_neg (by omega), if_neg (by
      rw [show ((256 ^ (1 : Int).toNat : Nat) : Int) = 256 from rfl]
      omega)]
    show numS s.size 1 = _
    unfold numS
    congr 1
    simp only [beL]
    congr 1
    omega
  have h1 : (⟨#[2]⟩ : ByteArray).size = 1 := rfl
  have hz := numS_size n 7
  obtain ⟨k, rfl⟩ : ∃ m, k = m + 1 := ⟨k - 1, by omega⟩
  rw [mosaicref02_Put.spec _ _ _ (by omega), hput, Option.bind_some, if_neg (by omega), mosaicref04_Block.j0, if_neg (by simp), mosaicref02_Num.spec _ _ _ (by omega), hput1, Option.bind_some, if_pos (by rw [strOfNums_size']; simp), if_pos (by rw [ByteArray.size_append, strOfNums_size']; simp only [List.length_singleton]; omega), if_pos (by rw [ByteArray.size_append, ByteArray.size_append, strOfNums_size']; simp only [List.length_singleton]; omega), mosaicref01_Sum.spec _ _ (by omega), Option.bind_some]
  rfl
theorem mosaicref02_Get.loop (s : ByteArray) (hs : s.size ≤ 7) (d : Nat) : ∀ (k i a : Nat), i + d = s.size → d < k → a < 256 ^ i → mosaicref02_Get.l0 k s (a : Int) (i : Int) = some ((valL (s.data.toList.drop i) a : Nat) : Int) := by
  have hl := len_data s
  induction d with
  | zero =>
    intro k i a hi hk ha
    obtain ⟨k, rfl⟩ : ∃ m, k = m + 1 := ⟨k - 1, by omega⟩
    simp only [mosaicref02_Get.l0]
    rw [if_neg (by omega), List.drop_of_length_le (by omega)]
    rfl
  | succ d ih =>
    intro k i a hi hk ha
    obtain ⟨k, rfl⟩ : ∃ m, k = m + 1 := ⟨k - 1, by omega⟩
    have hlt : i < s.data.toList.length := by omega
    have h7 := p256_le7 (i + 1) (by omega)
    have hb := nb_lt s i
    have hnb : nb s i = (s.data.toList[i]).toNat := by
      unfold nb
      rw [List.getD_eq_getElem?_getD, List.getElem?_eq_getElem hlt]
      rfl
    have h1 : 256 * a + nb s i < 256 ^ (i + 1) := by rw [p256_succ]; omega
    rw [p256_succ] at h7
    simp only [mosaicref02_Get.l0]
    rw [if_pos (by omega), if_pos (by omega), bt_nb, Int.toNat_natCast, wrap64_id (256 * (a : Int)) (by omega) (by omega), wrap64_id ((nb s i : Nat) : Int) (by omega) (by omega), wrap64_id _ (by omega) (by omega), wrap64_id _ (by omega) (by omega)]
    have := ih k (i + 1) (256 * a + nb s i) (by omega) (by omega) h1
    rw [show ((256 * a + nb s i : Nat) : Int) = 256 * (a : Int) + (nb s i : Int) by omega, show ((i + 1 : Nat) : Int) = (i : Int) + 1 by omega] at this
    rw [this, List.drop_eq_getElem_cons hlt]
    simp only [valL]
    rw [hnb]
theorem mosaicref02_Get.spec (s : ByteArray) (k : Nat) (hk : 8 ≤ k) : mosaicref02_Get.f k s = some (getR s) := by
  unfold mosaicref02_Get.f getR
  by_cases h : s.size > 7
  · rw [if_pos (by omega), if_pos h]
  · rw [if_neg (by omega), if_neg h]
    have := mosaicref02_Get.loop s (by omega) s.size k 0 0 (by omega) (by omega) (by decide)
    rw [show ((0 : Nat) : Int) = 0 from rfl, List.drop_zero] at this
    exact this
def mosaicref04_Gen_word.W (s : ByteArray) (at_ : Nat) : Int := getR ((shaS (prng_Block.msg s (at_ / 8))).extract (4 * (at_ % 8)) (4 * (at_ % 8) + 4))
theorem mosaicref04_Gen_word.spec (s : ByteArray) (u : Int) (a : Nat) (k : Nat) (hs : s.size ≤ 64) (ha : a ≤ 2000000000) (hk : 3000 ≤ k) : mosaicref04_Gen_word.f k s u (a : Int) = some (mosaicref04_Gen_word.W s a) := by
  unfold mosaicref04_Gen_word.f
  have e1 : wrap64 (Int.tdiv (a : Int) 8) = ((a / 8 : Nat) : Int) := by rw [Int.tdiv_eq_ediv_of_nonneg (by omega), wrap64_id _ (by omega) (by omega)]; omega
  have e2 : wrap64 (4 * Int.tmod (a : Int) 8) = ((4 * (a % 8) : Nat) : Int) := by rw [Int.tmod_eq_emod_of_nonneg (by omega), wrap64_id _ (by omega) (by omega)]; omega
  have e3 : wrap64 (((4 * (a % 8) : Nat) : Int) + 4) = ((4 * (a % 8) + 4 : Nat) : Int) := by rw [wrap64_id _ (by omega) (by omega)]; omega
  have hz := shaS_size (prng_Block.msg s (a / 8)) (by rw [prng_Block.msg_size]; omega)
  rw [e1, mosaicref04_Block.spec s _ k hs (by omega) hk, Option.bind_some, e2, e3, if_pos (by omega), if_pos (by omega), if_pos (by omega), Int.toNat_natCast, Int.toNat_natCast, mosaicref02_Get.spec _ _ (by omega), Option.bind_some]
  rfl
theorem mosaicref04_Gen_word.range (s : ByteArray) (a : Nat) (hs : s.size ≤ 64) : 0 ≤ mosaicref04_Gen_word.W s a ∧ mosaicref04_Gen_word.W s a < 4294967296 := by
  unfold mosaicref04_Gen_word.W
  have hz := shaS_size (prng_Block.msg s (a / 8)) (by rw [prng_Block.msg_size]; omega)
  refine ⟨getR_nonneg _, ?_⟩
  have hsz : ((shaS (prng_Block.msg s (a / 8))).extract (4 * (a % 8)) (4 * (a % 8) + 4)).size = 4 := by rw [ByteArray.size_extract]; omega
  unfold getR
  rw [if_neg (by omega)]
  have h := valL_lt ((shaS (prng_Block.msg s (a / 8))).extract (4 * (a % 8)) (4 * (a % 8) + 4)).data.toList 0 0 (by decide)
  rw [len_data, hsz] at h
  have : (256 : Nat) ^ (0 + 4) = 4294967296 := by decide
  omega
def mosaicref04_Gen_word.Same (s0 : ByteArray) (s1 : Int) (s2 : ByteArray) : Prop := s1.toNat % 8 ≠ 0 → s2 = shaS (prng_Block.msg s0 (s1.toNat / 8))
theorem mosaicref04_Gen_word.val_eq {s0 : ByteArray} {s1 : Int} {s2 : ByteArray} (hs : s0.size ≤ 64) (h : mosaicref04_Gen_word.Same s0 s1 s2) : prng_Gen_Word.val s0 s1 s2 = mosaicref04_Gen_word.W s0 s1.toNat ∧ prng_Gen_Word.blk s0 s1 s2 = shaS (prng_Block.msg s0 (s1.toNat / 8)) := by
  have hb : prng_Gen_Word.blk s0 s1 s2 = shaS (prng_Block.msg s0 (s1.toNat / 8)) := by
    unfold prng_Gen_Word.blk
    split
    · rfl
    · rename_i hh
      exact h hh
  refine ⟨?_, hb⟩
  have hr := mosaicref04_Gen_word.range s0 s1.toNat hs
  unfold prng_Gen_Word.val
  rw [hb]
  unfold mosaicref04_Gen_word.W at hr ⊢
  omega
theorem mosaicref04_Gen_word.next {s0 : ByteArray} {s1 : Int} {s2 : ByteArray} (hs : s0.size ≤ 64) (h1 : 0 ≤ s1) (h : mosaicref04_Gen_word.Same s0 s1 s2) : mosaicref04_Gen_word.Same s0 (s1 + 1) (prng_Gen_Word.blk s0 s1 s2) := by
  intro hm
  rw [(mosaicref04_Gen_word.val_eq hs h).2]
  congr 2
  omega
theorem mosaicref04_Choose.loop (l : List Int) (n m : Int) (hn : 1 ≤ n) (hn2 : n ≤ 2147483647) (hl : l.length = 8) (hb : ∀ x ∈ l, 0 ≤ x ∧ x < 4294967296) (d : Nat) : ∀ (i k : Nat) (w : Int), i + d = 8 → 2 * d + 1 < k → 0 ≤ w →
    mosaicref04_Choose.l0 k l n m w (i : Int) (i : Int) = some ((ch n m (l.drop i) w).1, ((i + (ch n m (l.drop i) w).2 : Nat) : Int)) := by
  induction d with
  | zero =>
    intro i k w hi hk hw
    obtain ⟨k, rfl⟩ : ∃ m, k = m + 1 + 1 := ⟨k - 2, by omega⟩
    rw [mosaicref04_Choose.l0, if_neg (by omega), mosaicref04_Choose.j2, if_neg (by decide), if_neg (by omega), List.drop_of_length_le (by omega), Int.tmod_eq_emod_of_nonneg hw]
    rfl
  | succ d ih =>
    intro i k w hi hk hw
    obtain ⟨k, rfl⟩ : ∃ m, k = m + 1 + 1 := ⟨k - 2, by omega⟩
    have hil : i < l.length := by omega
    have e1 : rd l (i : Int) = l[i] := by simp [rd, hil]
    have hx := hb _ (List.getElem_mem hil)
    rw [mosaicref04_Choose.l0, if_pos (by omega), mosaicref04_Choose.j2, if_pos (by simp; omega), if_pos (by omega), if_pos (by omega), e1, wrap64_id (l[i]) (by omega) (by omega), wrap64_id ((i : Int) + 1) (by omega) (by omega), List.drop_eq_getElem_cons hil, ch]
    by_cases hc : l[i] < m
    · rw [if_pos hc, if_pos hc, if_neg (by omega), Int.tmod_eq_emod_of_nonneg hx.1]
      rfl
    · rw [if_neg hc, if_neg hc, show ((i : Int) + 1) = ((i + 1 : Nat) : Int) by omega, ih (i + 1) k _ (by omega) (by omega) hx.1]
      simp only
      congr 3
      omega
theorem mosaicref04_Choose.spec (l : List Int) (n : Int) (hn : 1 ≤ n) (hn2 : n ≤ 2147483647) (hl : l.length = 8) (hb : ∀ x ∈ l, 0 ≤ x ∧ x < 4294967296) (k : Nat) (hk : 100 ≤ k) : mosaicref04_Choose.f k l n = some ((ch n (4294967296 - 4294967296 % n) l 0).1, (((ch n (4294967296 - 4294967296 % n) l 0).2 : Nat) : Int)) := by
  obtain ⟨k, rfl⟩ : ∃ m, k = m + 1 := ⟨k - 1, by omega⟩
  have h1 := Int.emod_nonneg 4294967296 (show n ≠ 0 by omega)
  have h2 := Int.emod_lt_of_pos 4294967296 (show 0 < n by omega)
  unfold mosaicref04_Choose.f
  rw [if_neg (by omega), if_neg (by omega), mosaicref04_Choose.j0, if_neg (by rw [hl]; decide), if_neg (by omega), wrap64_id _ (by omega) (by omega)]
  have h := mosaicref04_Choose.loop l n (4294967296 - 4294967296 % n) hn hn2 hl hb 8 0 k 0 (by omega) (by omega) (by omega)
  rw [List.drop_zero, Nat.zero_add] at h
  exact h
theorem mosaicref04_Gen_Below.loop (s : ByteArray) (a : Nat) (n : Int) (hs : s.size ≤ 64) (ha : a ≤ 1000000000) (hn : 1 ≤ n) (hn2 : n ≤ 2147483647) (d : Nat) : ∀ (i k : Nat), i + d = 8 → 4000 + d < k →
    mosaicref04_Gen_Below.l0 k n (vals (mosaicref04_Gen_word.W s) a i) (i : Int) s (a : Int) = some (s, ((a + (ch n (4294967296 - 4294967296 % n) (vals (mosaicref04_Gen_word.W s) a 8) 0).2 : Nat) : Int), (ch n (4294967296 - 4294967296 % n) (vals (mosaicref04_Gen_word.W s) a 8) 0).1) := by
  induction d with
  | zero =>
    intro i k hi hk
    obtain ⟨k, rfl⟩ : ∃ m, k = m + 1 := ⟨k - 1, by omega⟩
    obtain rfl : i = 8 := by omega
    have hle := ch_le n (4294967296 - 4294967296 % n) (vals (mosaicref04_Gen_word.W s) a 8) 0
    rw [vals_length] at hle
    rw [mosaicref04_Gen_Below.l0, if_neg (by omega), mosaicref04_Choose.spec _ n hn hn2 (vals_length _ _ _) (vals_mem _ (fun x => 0 ≤ x ∧ x < 4294967296) (fun a => mosaicref04_Gen_word.range s a hs) _ _) k (by omega), Option.bind_some]
    simp only
    rw [wrap64_id _ (by omega) (by omega)]
    congr 3
  | succ d ih =>
    intro i k hi hk
    obtain ⟨k, rfl⟩ : ∃ m, k = m + 1 := ⟨k - 1, by omega⟩
    have hr := mosaicref04_Gen_word.range s (a + i) hs
    rw [mosaicref04_Gen_Below.l0, if_pos (by omega), wrap64_id ((a : Int) + (i : Int)) (by omega) (by omega), show ((a : Int) + (i : Int)) = ((a + i : Nat) : Int) by omega, mosaicref04_Gen_word.spec s _ (a + i) k hs (by omega) (by omega), Option.bind_some, if_pos (by rw [vals_length]; omega), wrap64_id _ (by omega) (by omega), show ((i : Int) + 1) = ((i + 1 : Nat) : Int) by omega]
    have e : mosaicref04_Gen_word.W s (a + i) % 4294967296 = mosaicref04_Gen_word.W s (a + i) := by omega
    rw [e, ← vals_snoc]
    exact ih (i + 1) k (by omega) (by omega)
theorem mosaicref04_Gen_Below.spec (s : ByteArray) (a : Nat) (n : Int) (hs : s.size ≤ 64) (ha : a ≤ 1000000000) (hn : 1 ≤ n) (hn2 : n ≤ 2147483647) (k : Nat) (hk : 5000 ≤ k) :
    mosaicref04_Gen_Below.f k s (a : Int) n = some (s, ((a + (ch n (4294967296 - 4294967296 % n) (vals (mosaicref04_Gen_word.W s) a 8) 0).2 : Nat) : Int), (ch n (4294967296 - 4294967296 % n) (vals (mosaicref04_Gen_word.W s) a 8) 0).1) := by
  obtain ⟨k, rfl⟩ : ∃ m, k = m + 1 := ⟨k - 1, by omega⟩
  unfold mosaicref04_Gen_Below.f
  rw [if_neg (by omega), mosaicref04_Gen_Below.j0, if_neg (by simp; omega)]
  exact mosaicref04_Gen_Below.loop s a n hs ha hn hn2 8 0 k (by omega) (by omega)
theorem mosaicref04_Gen_Below.run_eq (n : Int) (hn : 1 ≤ n) (d : Nat) : ∀ (w : Int) (s0 : ByteArray) (a : Nat) (s2 : ByteArray), s0.size ≤ 64 → mosaicref04_Gen_word.Same s0 (a : Int) s2 →
    (prng_Gen_Below.run n d w s0 (a : Int) s2).1 = (ch n (4294967296 - 4294967296 % n) (vals (mosaicref04_Gen_word.W s0) a d) w).1 ∧ (prng_Gen_Below.run n d w s0 (a : Int) s2).2.1 = s0 ∧ (prng_Gen_Below.run n d w s0 (a : Int) s2).2.2.1 = ((a + (ch n (4294967296 - 4294967296 % n) (vals (mosaicref04_Gen_word.W s0) a d) w).2 : Nat) : Int) ∧
    mosaicref04_Gen_word.Same s0 (prng_Gen_Below.run n d w s0 (a : Int) s2).2.2.1 (prng_Gen_Below.run n d w s0 (a : Int) s2).2.2.2 := by
  induction d with
  | zero => intro w s0 a s2 hs h; exact ⟨rfl, rfl, by simp [prng_Gen_Below.run, vals, ch], h⟩
  | succ d ih =>
    intro w s0 a s2 hs h
    obtain ⟨h1, h2⟩ := mosaicref04_Gen_word.val_eq hs h
    have hx := mosaicref04_Gen_word.next hs (by omega) h
    rw [Int.toNat_natCast] at h1
    rw [prng_Gen_Below.run, vals, ch, h1]
    by_cases hc : mosaicref04_Gen_word.W s0 a < 4294967296 - 4294967296 % n
    · rw [if_pos hc, if_pos hc]
      exact ⟨rfl, rfl, by simp only; omega, hx⟩
    · rw [if_neg hc, if_neg hc]
      have e : ((a : Int) + 1) = ((a + 1 : Nat) : Int) := by omega
      rw [e] at hx ⊢
      obtain ⟨h3, h4, h5, h6⟩ := ih (mosaicref04_Gen_word.W s0 a) s0 (a + 1) _ hs hx
      exact ⟨h3, h4, by rw [h5]; omega, h6⟩
theorem prng_Gen_Pick.run_front (n : Nat) (d : Nat) : ∀ (i : Nat) (l : List Int) (s0 : ByteArray) (s1 : Int) (s2 : ByteArray), (prng_Gen_Pick.run n d i l s0 s1 s2).1.take i = l.take i := by
  induction d with
  | zero => intro i l s0 s1 s2; rfl
  | succ d ih =>
    intro i l s0 s1 s2
    rw [prng_Gen_Pick.run]
    have h := ih (i + 1) (prng_Gen_Pick.swap l i (i + (prng_Gen_Below.run ((n : Int) - (i : Int)) 8 0 s0 s1 s2).1.toNat)) (prng_Gen_Below.run ((n : Int) - (i : Int)) 8 0 s0 s1 s2).2.1 (prng_Gen_Below.run ((n : Int) - (i : Int)) 8 0 s0 s1 s2).2.2.1 (prng_Gen_Below.run ((n : Int) - (i : Int)) 8 0 s0 s1 s2).2.2.2
    have h2 := congrArg (List.take i) h
    rw [List.take_take, List.take_take, Nat.min_eq_left (by omega)] at h2
    rw [h2]
    unfold prng_Gen_Pick.swap
    rw [List.take_set_of_le (by omega), List.take_set_of_le (by omega)]
theorem mosaicref04_Gen_Pick.fill (n : Nat) (hn : n ≤ 4096) (m : Int) (s : ByteArray) (u : Int) (d : Nat) : ∀ (i k : Nat), i + d = n → d < k → mosaicref04_Gen_Pick.l0 k (n : Int) m (upTo i) (i : Int) s u = mosaicref04_Gen_Pick.l1 (k - d - 1) (n : Int) m (upTo n) 0 s u [] := by
  induction d with
  | zero =>
    intro i k hi hk
    obtain ⟨k, rfl⟩ : ∃ m, k = m + 1 := ⟨k - 1, by omega⟩
    obtain rfl : i = n := by omega
    rw [mosaicref04_Gen_Pick.l0, if_neg (by omega)]
    rfl
  | succ d ih =>
    intro i k hi hk
    obtain ⟨k, rfl⟩ : ∃ m, k = m + 1 := ⟨k - 1, by omega⟩
    rw [mosaicref04_Gen_Pick.l0, if_pos (by omega), if_pos (by rw [upTo_length]; omega), wrap64_id _ (by omega) (by omega), ← upTo_succ, show ((i : Int) + 1) = ((i + 1 : Nat) : Int) by omega, ih (i + 1) k (by omega) (by omega)]
    congr 1
    omega
set_option maxHeartbeats 1000000 in
theorem mosaicref04_Gen_Pick.pick (n : Nat) (hn : n ≤ 4096) (m : Nat) (hm : m ≤ n) (s : ByteArray) (hs : s.size ≤ 64) (d : Nat) : ∀ (i k : Nat) (l : List Int) (a : Nat) (s2 : ByteArray) (out : List Int), i + d = m → 6000 + d < k → l.length = n → a + 8 * d ≤ 999999000 → out.length = i → mosaicref04_Gen_word.Same s (a : Int) s2 → prng_Gen_Word.Ok s (a : Int) s2 →
    ∃ u, mosaicref04_Gen_Pick.l1 k (n : Int) (m : Int) l (i : Int) s (a : Int) out = some (s, u, out ++ ((prng_Gen_Pick.run n d i l s (a : Int) s2).1.drop i).take d) := by
  induction d with
  | zero =>
    intro i k l a s2 out hi hk hl ha ho hS hO
    obtain ⟨k, rfl⟩ : ∃ m, k = m + 1 := ⟨k - 1, by omega⟩
    obtain rfl : i = m := by omega
    exact ⟨_, by rw [mosaicref04_Gen_Pick.l1, if_neg (by omega), List.take_zero, List.append_nil]⟩
  | succ d ih =>
    intro i k l a s2 out hi hk hl ha ho hS hO
    obtain ⟨k, rfl⟩ : ∃ m, k = m + 1 := ⟨k - 1, by omega⟩
    have hne : wrap64 ((n : Int) - (i : Int)) = (n : Int) - (i : Int) := wrap64_id _ (by omega) (by omega)
    obtain ⟨r1, r2, r3, r4⟩ := mosaicref04_Gen_Below.run_eq ((n : Int) - (i : Int)) (by omega) 8 0 s a s2 hs hS
    obtain ⟨⟨q1, q2⟩, q3, q4⟩ := prng_Gen_Below.run_ok ((n : Int) - (i : Int)) (by omega) 8 0 s (a : Int) s2 hO (by omega)
    have hle := ch_le ((n : Int) - (i : Int)) (4294967296 - 4294967296 % ((n : Int) - (i : Int))) (vals (mosaicref04_Gen_word.W s) a 8) 0
    rw [vals_length] at hle
    rw [mosaicref04_Gen_Pick.l1, if_pos (by omega), hne, mosaicref04_Gen_Below.spec s a _ hs (by omega) (by omega) (by omega) k (by omega), Option.bind_some]
    simp only
    rw [prng_Gen_Pick.run, r2, r3]
    rw [r1] at q1 q2 ⊢
    rw [r2, r3] at q3
    rw [r3] at r4
    generalize hc : ch ((n : Int) - (i : Int)) (4294967296 - 4294967296 % ((n : Int) - (i : Int))) (vals (mosaicref04_Gen_word.W s) a 8) 0 = c at *
    obtain ⟨x, u⟩ := c
    simp only at q1 q2 q3 r4 hle ⊢
    clear r1 r2 r3 hc q4
    generalize (prng_Gen_Below.run ((n : Int) - (i : Int)) 8 0 s (a : Int) s2).2.2.2 = s3 at *
    obtain ⟨x, rfl⟩ : ∃ y : Nat, x = y := ⟨x.toNat, by omega⟩
    have hj : wrap64 ((i : Int) + (x : Int)) = ((i + x : Nat) : Int) := by rw [wrap64_id _ (by omega) (by omega)]; omega
    rw [hj]
    clear hj hne
    rw [if_pos (by omega), if_pos (by omega), if_pos (by omega), if_pos (by omega), Option.bind_some, if_pos (by omega), wrap64_id ((i : Int) + 1) (by omega) (by omega), Int.toNat_natCast, Int.toNat_natCast, Int.toNat_natCast]
    have esw : (l.set i (rd l ((i + x : Nat) : Int))).set (i + x) (rd l (i : Int)) = prng_Gen_Pick.swap l i (i + x) := by
      unfold prng_Gen_Pick.swap
      simp only [rd, Int.toNat_natCast]
    rw [esw, show ((i : Int) + 1) = ((i + 1 : Nat) : Int) by omega]
    have hsl : (prng_Gen_Pick.swap l i (i + x)).length = n := by rw [prng_Gen_Pick.swap_length]; exact hl
    obtain ⟨v, hv⟩ := ih (i + 1) k (prng_Gen_Pick.swap l i (i + x)) (a + u) _ (out ++ [rd (prng_Gen_Pick.swap l i (i + x)) (i : Int)]) (by omega) (by omega) hsl (by omega) (by rw [List.length_append, ho]; rfl) r4 q3
    refine ⟨v, ?_⟩
    rw [hv, List.append_assoc]
    congr 4
    have hf := prng_Gen_Pick.run_front n d (i + 1) (prng_Gen_Pick.swap l i (i + x)) s ((a + u : Nat) : Int) s3
    have hlen : (prng_Gen_Pick.run n d (i + 1) (prng_Gen_Pick.swap l i (i + x)) s ((a + u : Nat) : Int) s3).1.length = n := by
      have := (prng_Gen_Pick.go_spec 30 n (by omega) hn d (i + 1) (prng_Gen_Pick.swap l i (i + x)) s ((a + u : Nat) : Int) _ (by omega) hsl q3 (by omega)).2.length_eq
      rw [this, hsl]
    generalize prng_Gen_Pick.run n d (i + 1) (prng_Gen_Pick.swap l i (i + x)) s ((a + u : Nat) : Int) s3 = R at *
    have hiR : i < R.1.length := by omega
    rw [List.drop_eq_getElem_cons hiR, List.take_succ_cons, List.singleton_append]
    congr 1
    have h9 : (R.1.take (i + 1))[i]'(by rw [List.length_take]; omega) = ((prng_Gen_Pick.swap l i (i + x)).take (i + 1))[i]'(by rw [List.length_take]; omega) := by
      congr 1
    rw [List.getElem_take, List.getElem_take] at h9
    rw [h9]
    simp only [rd, Int.toNat_natCast]
    rw [List.getD_eq_getElem?_getD, List.getElem?_eq_getElem (by omega), Option.getD_some]
theorem mosaicref04_Gen_Pick.spec (n : Nat) (hn : n ≤ 4096) (m : Nat) (hm : m ≤ n) (s : ByteArray) (hs : s.size ≤ 64) (k : Nat) (hk : 20000 ≤ k) :
    ∃ u, mosaicref04_Gen_Pick.f k s 0 (n : Int) (m : Int) = some (s, u, (prng_Gen_Pick.run n m 0 (upTo n) s 0 ⟨#[]⟩).1.take m) := by
  obtain ⟨k, rfl⟩ : ∃ m, k = m + 1 := ⟨k - 1, by omega⟩
  have hO : prng_Gen_Word.Ok s ((0 : Nat) : Int) ⟨#[]⟩ := ⟨hs, by omega, by omega, fun h => absurd rfl h⟩
  obtain ⟨u, hu⟩ := mosaicref04_Gen_Pick.pick n hn m hm s hs m 0 (k - n - 1) (upTo n) 0 ⟨#[]⟩ [] (by omega) (by omega) (upTo_length n) (by omega) rfl (fun h => absurd rfl h) hO
  refine ⟨u, ?_⟩
  unfold mosaicref04_Gen_Pick.f
  rw [if_neg (by omega), if_neg (by omega), if_neg (by omega), mosaicref04_Gen_Pick.j0, if_neg (by simp; omega)]
  have h := mosaicref04_Gen_Pick.fill n hn (m : Int) s 0 n 0 k (by omega) (by omega)
  refine Eq.trans h ?_
  rw [List.nil_append, List.drop_zero] at hu
  exact hu
theorem mosaicref09_Joins.loop (L : List Int) (a : Nat) (ha : a ≤ 4096) (hL : L.length ≤ 100000) (p0 p1 p3 : Int) (d : Nat) : ∀ (j k : Nat), j + d = a → 200000 + d < k →
    mosaicref09_Joins.l0 k L ((upTo j).filter fun x => L.contains x) (j : Int) p0 p1 (a : Int) p3 = some ((upTo a).filter fun x => L.contains x) := by
  induction d with
  | zero =>
    intro j k hj hk
    obtain ⟨k, rfl⟩ : ∃ m, k = m + 1 := ⟨k - 1, by omega⟩
    obtain rfl : j = a := by omega
    rw [mosaicref09_Joins.l0, if_neg (by omega)]
  | succ d ih =>
    intro j k hj hk
    obtain ⟨k, rfl⟩ : ∃ m, k = m + 1 := ⟨k - 1, by omega⟩
    have hle := List.length_filter_le (fun x : Int => L.contains x) (upTo j)
    rw [upTo_length] at hle
    have e : ((j : Int) + 1) = ((j + 1 : Nat) : Int) := by omega
    have h := ih (j + 1) k (by omega) (by omega)
    rw [upTo_succ, List.filter_append] at h
    rw [mosaicref09_Joins.l0, if_pos (by omega), mosaicref09_Has.spec _ _ _ (by omega) (by omega), Option.bind_some, wrap64_id _ (by omega) (by omega), e]
    by_cases hc : L.contains (j : Int) = true
    · rw [if_pos hc, if_pos (by omega)]
      simp only [List.filter_cons, hc, if_true, List.filter_nil] at h
      exact h
    · rw [if_neg hc]
      have hc2 : L.contains (j : Int) = false := by simpa using hc
      simp only [List.filter_cons, hc2, List.filter_nil, Bool.false_eq_true, if_false, List.append_nil] at h
      exact h
theorem mosaicref09_Joins.spec (s n a q i : Nat) (k : Nat) (hk : 210000 ≤ k) (h1 : s ≤ 72057594037927935) (h2 : i ≤ 65535) (ha : a ≤ 4096) (hq : q ≤ 4096) : mosaicref09_Joins.f k (s : Int) (n : Int) (a : Int) (q : Int) (i : Int) = some (outer_joins.J s a q i) := by
  obtain ⟨k, rfl⟩ : ∃ m, k = m + 1 := ⟨k - 1, by omega⟩
  have hput : putR (s : Int) 7 = (numS s 7, 0) := by
    unfold putR
    rw [if_neg (by omega), if_neg (by
      rw [show ((256 ^ (7 : Int).toNat : Nat) : Int) = 72057594037927936 from rfl]
      omega)]
    rfl
  have hput2 : putR (i : Int) 2 = (numS i 2, 0) := by
    unfold putR
    rw [if_neg (by omega), if_neg (by
      rw [show ((256 ^ (2 : Int).toNat : Nat) : Int) = 65536 from rfl]
      omega)]
    rfl
  have key : mosaicref09_Joins.j0 (k + 1) (i : Int) ((min q a : Nat) : Int) (s : Int) (n : Int) (a : Int) (q : Int) = some (outer_joins.J s a q i) := by
    have e5 : (⟨#[111, 117, 116, 101, 114]⟩ : ByteArray).size = 5 := rfl
    have hst : (((⟨#[111, 117, 116, 101, 114]⟩ : ByteArray) ++ numS s 7) ++ numS i 2) = outer_seed.str s i := rfl
    rw [mosaicref09_Joins.j0, mosaicref02_Num.spec _ _ _ (by omega), hput, Option.bind_some, if_pos (by rw [numS_size]; omega), mosaicref02_Num.spec _ _ _ (by omega), hput2, Option.bind_some, if_pos (by rw [ByteArray.size_append, numS_size, numS_size, e5]; omega), hst]
    obtain ⟨u, hu⟩ := mosaicref04_Gen_Pick.spec a ha (min q a) (by omega) (outer_seed.str s i) (by rw [outer_seed.str_size]; omega) k (by omega)
    rw [hu, Option.bind_some]
    have hl := (outer_joins.perm s a q i ha).length_eq
    rw [upTo_length] at hl
    have hL := mosaicref09_Joins.loop ((prng_Gen_Pick.run a (min q a) 0 (upTo a) (outer_seed.str s i) 0 ⟨#[]⟩).1.take (min q a)) a ha (by rw [List.length_take]; omega) (s : Int) (n : Int) (q : Int) a 0 k (by omega) (by omega)
    refine Eq.trans hL ?_
    congr 1
    rw [← filter_self a (outer_joins.J s a q i) (outer_joins.rises s a q i ha) (outer_joins.range s a q i ha)]
    apply List.filter_congr
    intro x _
    rw [Bool.eq_iff_iff, List.contains_iff_mem, List.contains_iff_mem]
    exact (sort_mem _ x).symm
  unfold mosaicref09_Joins.f
  by_cases h : q > a
  · rw [if_pos (by omega)]
    rw [Nat.min_eq_right (by omega)] at key
    exact key
  · rw [if_neg (by omega)]
    rw [Nat.min_eq_left (by omega)] at key
    exact key
theorem mosaicref09_Table.loop (s a q n : Nat) (h1 : s ≤ 72057594037927935) (hn : n ≤ 96) (ha : a ≤ 4096) (hq : q ≤ 4096) (d : Nat) : ∀ (i k : Nat), i + d = n → 210000 + d < k →
    mosaicref09_Table.l0 k (rowsJ (outer_joins.J s a q) i) (i : Int) (s : Int) (n : Int) (a : Int) (q : Int) = some (rowsJ (outer_joins.J s a q) n) := by
  induction d with
  | zero =>
    intro i k hi hk
    obtain ⟨k, rfl⟩ : ∃ m, k = m + 1 := ⟨k - 1, by omega⟩
    obtain rfl : i = n := by omega
    rw [mosaicref09_Table.l0, if_neg (by omega)]
  | succ d ih =>
    intro i k hi hk
    obtain ⟨k, rfl⟩ : ∃ m, k = m + 1 := ⟨k - 1, by omega⟩
    rw [mosaicref09_Table.l0, if_pos (by omega), mosaicref09_Joins.spec s n a q i k (by omega) h1 (by omega) ha hq, Option.bind_some, if_pos (by rw [rowsJ_length]; omega), wrap64_id _ (by omega) (by omega)]
    have e : rowsJ (outer_joins.J s a q) i ++ [outer_joins.J s a q i] = rowsJ (outer_joins.J s a q) (i + 1) := by simp [rowsJ, List.range_succ]
    rw [e, show ((i : Int) + 1) = ((i + 1 : Nat) : Int) by omega]
    exact ih (i + 1) k (by omega) (by omega)
theorem mosaicref09_Table.spec (s a q n : Nat) (k : Nat) (hk : 220000 ≤ k) (h1 : s ≤ 72057594037927935) (hn : n ≤ 96) (ha : a ≤ 4096) (hq : q ≤ 4096) : mosaicref09_Table.f k (s : Int) (n : Int) (a : Int) (q : Int) = some (rowsJ (outer_joins.J s a q) n) := by
  unfold mosaicref09_Table.f
  exact mosaicref09_Table.loop s a q n h1 hn ha hq n 0 k (by omega) (by omega)
theorem mosaicref09_Rules.loop (J : Nat → List Int) (n a : Nat) (hn : n ≤ 96) (ha : a ≤ 64) (hJ : ∀ i, i < n → (J i).length ≤ 100000) (p0 p3 : Int) (d : Nat) : ∀ (t k : Nat), t + d = a → 220000 + d < k →
    mosaicref09_Rules.l0 k (rowsJ J n) ((rulL J n a).take t) (t : Int) p0 (n : Int) (a : Int) p3 = some (rulL J n a) := by
  induction d with
  | zero =>
    intro t k ht hk
    obtain ⟨k, rfl⟩ : ∃ m, k = m + 1 := ⟨k - 1, by omega⟩
    rw [mosaicref09_Rules.l0, if_neg (by omega), List.take_of_length_le (by rw [rulL_length]; omega)]
  | succ d ih =>
    intro t k ht hk
    obtain ⟨k, rfl⟩ : ∃ m, k = m + 1 := ⟨k - 1, by omega⟩
    have hm := mem_length J n t
    have hta : t < (rulL J n a).length := by rw [rulL_length]; omega
    have e : (rulL J n a).take t ++ [mem J n t ++ [(n : Int) + (t : Int)]] = (rulL J n a).take (t + 1) := by
      have h2 := rulL_get J n a t (by omega)
      rw [List.getD_eq_getElem?_getD, List.getElem?_eq_getElem hta, Option.getD_some] at h2
      rw [List.take_succ_eq_append_getElem hta, h2]
      simp
    rw [mosaicref09_Rules.l0, if_pos (by omega), mosaicref09_members.spec J n hn hJ t k (by omega), Option.bind_some, if_pos (by omega), if_pos (by rw [List.length_take]; omega), wrap64_id ((n : Int) + (t : Int)) (by omega) (by omega), wrap64_id _ (by omega) (by omega), e, show ((t : Int) + 1) = ((t + 1 : Nat) : Int) by omega]
    exact ih (t + 1) k (by omega) (by omega)
theorem mosaicref09_Rules.spec (s a q n : Nat) (k : Nat) (hk : 230000 ≤ k) (h1 : s ≤ 72057594037927935) (hn : n ≤ 96) (ha : a ≤ 64) (hq : q ≤ 4096) : mosaicref09_Rules.f k (s : Int) (n : Int) (a : Int) (q : Int) = some (rulL (outer_joins.J s a q) n a) := by
  unfold mosaicref09_Rules.f
  rw [mosaicref09_Table.spec s a q n k (by omega) h1 hn (by omega) hq, Option.bind_some]
  have h := mosaicref09_Rules.loop (outer_joins.J s a q) n a hn ha (fun i _ => by rw [outer_joins.length s a q i (by omega)]; omega) (s : Int) (q : Int) a 0 k (by omega) (by omega)
  rw [List.take_zero] at h
  exact h
theorem mosaicref07_May.spec (z : Int) : mosaicref07_May.f z = some (decide (1 ≤ z ∧ z ≤ 64)) := by
  unfold mosaicref07_May.f
  by_cases h : z ≥ 1
  · rw [if_pos h]
    congr 1
    rw [Bool.eq_iff_iff, decide_eq_true_iff, decide_eq_true_iff]
    omega
  · rw [if_neg h]
    congr 1
    rw [eq_comm, decide_eq_false_iff_not]
    omega
theorem mosaicref07_Zero.loop (n : Nat) (hn : 1 ≤ n ∧ n ≤ 64) (d : Nat) : ∀ (k i : Nat), i + d = n → d < k → mosaicref07_Zero.l0 k (n : Int) (List.replicate i 0) (i : Int) = some (zeroS n) := by
  have hm : decide (1 ≤ (n : Int) ∧ (n : Int) ≤ 64) = true := decide_eq_true (by omega)
  induction d with
  | zero =>
    intro k i hi hk
    obtain ⟨k, rfl⟩ : ∃ m, k = m + 1 := ⟨k - 1, by omega⟩
    simp only [mosaicref07_Zero.l0]
    obtain rfl : i = n := by omega
    rw [if_neg (by omega), strOfNums_zero]
  | succ d ih =>
    intro k i hi hk
    obtain ⟨k, rfl⟩ : ∃ m, k = m + 1 := ⟨k - 1, by omega⟩
    simp only [mosaicref07_Zero.l0]
    rw [if_pos (by omega), mosaicref07_May.spec, hm, Option.bind_some, if_pos rfl, if_pos (by rw [List.length_replicate]; omega), wrap64_id _ (by omega) (by omega), ← List.replicate_succ']
    have := ih k (i + 1) (by omega) (by omega)
    rw [show ((i + 1 : Nat) : Int) = (i : Int) + 1 by omega] at this
    exact this
theorem mosaicref07_Zero.spec (z : Int) (k : Nat) (hk : 100 ≤ k) : mosaicref07_Zero.f k z = some (zeroR z) := by
  unfold mosaicref07_Zero.f zeroR
  by_cases h : 1 ≤ z ∧ z ≤ 64
  · rw [if_pos h]
    obtain ⟨n, rfl⟩ : ∃ m : Nat, z = m := ⟨z.toNat, by omega⟩
    exact mosaicref07_Zero.loop n (by omega) n k 0 (by omega) (by omega)
  · rw [if_neg h]
    obtain ⟨k, rfl⟩ : ∃ m, k = m + 1 := ⟨k - 1, by omega⟩
    simp only [mosaicref07_Zero.l0]
    by_cases h0 : 0 < z
    · rw [if_pos h0, mosaicref07_May.spec, decide_eq_false h, Option.bind_some, if_neg (by decide)]
      rfl
    · rw [if_neg h0]
      rfl
theorem mosaicref07_Xor.loop (a b : ByteArray) (hs : a.size = b.size) (ha : a.size ≤ 1000000) (d : Nat) : ∀ (k i : Nat), i + d = a.size → d < k → mosaicref07_Xor.l0 k a b (xorL a b i) (i : Int) = some (bothS .xor a b, 0) := by
  induction d with
  | zero =>
    intro k i hi hk
    obtain ⟨k, rfl⟩ : ∃ m, k = m + 1 := ⟨k - 1, by omega⟩
    simp only [mosaicref07_Xor.l0]
    obtain rfl : i = a.size := by omega
    rw [if_neg (by omega), xorL_str]
  | succ d ih =>
    intro k i hi hk
    obtain ⟨k, rfl⟩ : ∃ m, k = m + 1 := ⟨k - 1, by omega⟩
    simp only [mosaicref07_Xor.l0]
    rw [if_pos (by omega), if_pos (by omega), if_pos (by omega), if_pos (by rw [xorL_length]; omega), wrap64_id _ (by omega) (by omega), bt_nb, bt_nb, Int.toNat_natCast, ← xorL_succ]
    have := ih k (i + 1) (by omega) (by omega)
    rw [show ((i + 1 : Nat) : Int) = (i : Int) + 1 by omega] at this
    exact this
theorem mosaicref07_Xor.spec (a b : ByteArray) (k : Nat) (ha : a.size ≤ 1000000) (hk : a.size < k) : mosaicref07_Xor.f k a b = some (xorR a b) := by
  unfold mosaicref07_Xor.f xorR
  by_cases hs : a.size = b.size
  · rw [if_pos hs, if_pos (by omega)]
    exact mosaicref07_Xor.loop a b hs ha a.size k 0 (by omega) hk
  · rw [if_neg hs, if_neg (by omega)]
theorem mosaicref09_Sum.loop (l : List ByteArray) (r : List Int) (z : Nat) (hz : z ≤ 64) (hr : r.length ≤ 100000) (hb : ∀ x ∈ r, 0 ≤ x ∧ x < l.length) (hs : ∀ x ∈ r, (l.getD x.toNat ByteArray.empty).size = z) (d : Nat) : ∀ (i k : Nat) (t : ByteArray), i + d = r.length → d + 100 < k → t.size = z →
    mosaicref09_Sum.l0 k l r t (i : Int) = some (xsum t (outer_sum.at_ l (r.drop i))) := by
  induction d with
  | zero =>
    intro i k t hi hk ht
    obtain ⟨k, rfl⟩ : ∃ m, k = m + 1 := ⟨k - 1, by omega⟩
    rw [mosaicref09_Sum.l0, if_neg (by omega), List.drop_of_length_le (by omega)]
    rfl
  | succ d ih =>
    intro i k t hi hk ht
    obtain ⟨k, rfl⟩ : ∃ m, k = m + 1 := ⟨k - 1, by omega⟩
    have h1 : i < r.length := by omega
    have e1 : rd r (i : Int) = r[i] := by simp [rd, h1]
    have hx := hb _ (List.getElem_mem h1)
    have e2 : rdOf ByteArray.empty l r[i] = l.getD (r[i]).toNat ByteArray.empty := by simp [rdOf]
    have h2 : (l.getD (r[i]).toNat ByteArray.empty).size = z := hs _ (List.getElem_mem h1)
    have hxr : xorR t (l.getD (r[i]).toNat ByteArray.empty) = (bothS .xor t (l.getD (r[i]).toNat ByteArray.empty), 0) := by
      unfold xorR
      rw [if_pos (by omega)]
    rw [mosaicref09_Sum.l0, if_pos (by omega), if_pos (by omega), e1, if_pos hx.1, if_pos hx.2, e2, mosaicref07_Xor.spec _ _ _ (by omega) (by omega), Option.bind_some, hxr, wrap64_id _ (by omega) (by omega), show ((i : Int) + 1) = ((i + 1 : Nat) : Int) by omega, ih (i + 1) k _ (by omega) (by omega) (by rw [bothS_size]; exact ht), List.drop_eq_getElem_cons h1]
    rfl
theorem mosaicref09_Sum.odd_at (l : List ByteArray) (r : List Int) (z : Nat) (hs : ∀ x ∈ r, (l.getD x.toNat ByteArray.empty).size = z) : odd (outer_sum.at_ l r) (z : Int) = false := by
  refine (odd_iff _ _).2 fun s h => ?_
  obtain ⟨x, hx, rfl⟩ := List.mem_map.1 h
  have := hs x hx
  omega
theorem mosaicref09_Sum.at_size (l : List ByteArray) (r : List Int) (z : Nat) (hb : ∀ x ∈ r, 0 ≤ x ∧ x < l.length) (hs : ∀ x ∈ l, x.size = z) : ∀ x ∈ r, (l.getD x.toNat ByteArray.empty).size = z := by
  intro x hx
  have h2 := hb x hx
  rw [List.getD_eq_getElem?_getD, List.getElem?_eq_getElem (by omega), Option.getD_some]
  exact hs _ (List.getElem_mem _)
theorem mosaicref09_Sum.spec_at (l : List ByteArray) (r : List Int) (z : Nat) (k : Nat) (hz : 1 ≤ z ∧ z ≤ 64) (hr : r.length ≤ 1000) (hk : 2000 ≤ k) (hb : ∀ x ∈ r, 0 ≤ x ∧ x < l.length) (hs : ∀ x ∈ r, (l.getD x.toNat ByteArray.empty).size = z) :
    mosaicref09_Sum.f k l r (z : Int) = some (sumR (outer_sum.at_ l r) (z : Int)).1 := by
  unfold mosaicref09_Sum.f
  have e : zeroR (z : Int) = zeroS z := by unfold zeroR; rw [if_pos (by omega), Int.toNat_natCast]
  have h := mosaicref09_Sum.loop l r z hz.2 (by omega) hb hs r.length 0 k (zeroS z) (by omega) (by omega) (zeroS_size z)
  rw [List.drop_zero] at h
  rw [mosaicref07_Zero.spec _ _ (by omega), Option.bind_some, e, sumR_ok _ _ (by omega) (mosaicref09_Sum.odd_at l r z hs), Int.toNat_natCast]
  exact h
theorem mosaicref09_Sum.spec (l : List ByteArray) (r : List Int) (z : Nat) (k : Nat) (hz : 1 ≤ z ∧ z ≤ 64) (hr : r.length ≤ 1000) (hk : 2000 ≤ k) (hb : ∀ x ∈ r, 0 ≤ x ∧ x < l.length) (hs : ∀ x ∈ l, x.size = z) :
    mosaicref09_Sum.f k l r (z : Int) = some (sumR (outer_sum.at_ l r) (z : Int)).1 :=
  mosaicref09_Sum.spec_at l r z k hz hr hk hb (mosaicref09_Sum.at_size l r z hb hs)
theorem mosaicref09_size.loop (l : List ByteArray) (hl : l.length ≤ 1000000) (d : Nat) : ∀ (t k : Nat) (n : Int), t + d = l.length → 2 * d < k → mosaicref09_size.l0 k l n (t : Int) = some (szR n (l.drop t)) := by
  induction d with
  | zero =>
    intro t k n ht hk
    obtain ⟨k, rfl⟩ : ∃ m, k = m + 1 := ⟨k - 1, by omega⟩
    rw [mosaicref09_size.l0, if_neg (by omega), List.drop_of_length_le (by omega), szR]
  | succ d ih =>
    intro t k n ht hk
    obtain ⟨k, rfl⟩ : ∃ m, k = m + 1 := ⟨k - 1, by omega⟩
    obtain ⟨k, rfl⟩ : ∃ m, k = m + 1 := ⟨k - 1, by omega⟩
    have h1 : t < l.length := by omega
    have e1 : rdOf ByteArray.empty l (t : Int) = l[t] := by simp [rdOf, h1]
    have h := fun m k hk => ih (t + 1) k m (by omega) hk
    rw [mosaicref09_size.l0, if_pos (by omega), if_pos (by omega), e1, wrap64_id _ (by omega) (by omega), show ((t : Int) + 1) = ((t + 1 : Nat) : Int) by omega, List.drop_eq_getElem_cons h1, szR]
    by_cases h0 : l[t].size = 0
    · rw [if_pos ((toList_nil _).2 h0), if_pos h0, h _ _ (by omega)]
    · rw [if_neg (fun e => h0 ((toList_nil _).1 e)), if_neg h0]
      by_cases hn : n = 0
      · rw [if_pos hn, mosaicref07_May.spec, Option.bind_some]
        by_cases hm : (1 : Int) ≤ (l[t].size : Int) ∧ (l[t].size : Int) ≤ 64
        · rw [mosaicref09_size.j1, decide_eq_true hm, if_pos rfl, if_pos (by omega), if_pos (by omega), if_pos rfl, if_pos ⟨hn, by omega⟩, e1, wrap64_id _ (by omega) (by omega), show ((t : Int) + 1) = ((t + 1 : Nat) : Int) by omega, h _ _ (by omega)]
        · rw [mosaicref09_size.j1, decide_eq_false hm, if_neg (by decide), if_pos (by omega), if_pos (by omega), e1, if_neg (by omega), if_neg (by omega), if_neg (by omega)]
      · have hn2 : ¬ (n = 0 ∧ (1 ≤ l[t].size ∧ l[t].size ≤ 64)) := fun h9 => hn h9.1
        rw [if_neg hn, mosaicref09_size.j1, if_neg (by decide), if_neg hn2, if_pos (by omega), if_pos (by omega), e1]
        by_cases hs : (l[t].size : Int) = n
        · rw [if_pos hs, if_pos hs, wrap64_id _ (by omega) (by omega), show ((t : Int) + 1) = ((t + 1 : Nat) : Int) by omega, h _ _ (by omega)]
        · rw [if_neg hs, if_neg hs]
theorem mosaicref09_size.spec (l : List ByteArray) (hl : l.length ≤ 1000000) (k : Nat) (hk : 2 * l.length < k) : mosaicref09_size.f k l = some (szR 0 l) := by
  unfold mosaicref09_size.f
  have h := mosaicref09_size.loop l hl l.length 0 k 0 (by omega) hk
  rw [List.drop_zero] at h
  exact h
def passR (z : Int) (w : List ByteArray) (r : List Int) : List ByteArray := match gapsL goneB ByteArray.empty w r with
  | [x] => w.set x.toNat (sumAt z w (r.filter (· ≠ x)))
  | _ => w
theorem last_snoc (l : List Int) (x : Int) : ((l ++ [x]).getLast?).getD 0 = x := by simp
theorem mosaicref09_Fill.l3_spec (x1 : List ByteArray) (z L : Nat) (hz : 1 ≤ z ∧ z ≤ 64) (rs : List (List Int)) (hR : ∀ r ∈ rs, (r.Nodup ∧ ∀ x ∈ r, 0 ≤ x ∧ x < (L : Int)) ∧ 0 < r.length ∧ r.length ≤ 1000) (i : Nat) (hi : i < rs.length) (hrl : rs.length ≤ 1000) (s : Int) (w : List ByteArray) (hw : okW z L w) (Rr : Option (List ByteArray × Int)) (K : Nat) (hK : 2000 ≤ K)
    (hc : ∀ k, K ≤ k → mosaicref09_Fill.l2 k x1 (z : Int) (passR (z : Int) w rs[i]) rs s ((i + 1 : Nat) : Int) = Rr) (d : Nat) : ∀ (t k : Nat), t + d = rs[i].length → K + d < k →
    mosaicref09_Fill.l3 k x1 (z : Int) w rs s (i : Int) ((gapsL goneB ByteArray.empty w (rs[i].take t)).length : Int) (((gapsL goneB ByteArray.empty w (rs[i].take t)).getLast?).getD 0) ((rs[i].take t).filter fun x => !goneB (w.getD x.toNat ByteArray.empty)) (t : Int) = Rr := by
  have hrow : rd_L3 rs (i : Int) = rs[i] := by simp [rd_L3, hi]
  have hri := hR _ (List.getElem_mem hi)
  generalize hr : rs[i] = r at *
  induction d with
  | zero =>
    intro t k ht hk
    obtain ⟨k, rfl⟩ : ∃ m, k = m + 1 := ⟨k - 1, by omega⟩
    have htk : r.take t = r := List.take_of_length_le (by omega)
    rw [htk, mosaicref09_Fill.l3, if_pos (by omega), if_pos (by omega), hrow, if_neg (by omega), wrap64_id ((i : Int) + 1) (by omega) (by omega), show ((i : Int) + 1) = ((i + 1 : Nat) : Int) by omega]
    have hcc := hc k (by omega)
    unfold passR at hcc
    match hg : gapsL goneB ByteArray.empty w r with
    | [] =>
      rw [hg] at hcc
      rw [if_neg (by simp)]
      exact hcc
    | [x] =>
      rw [hg] at hcc
      obtain ⟨g1, g2, g3⟩ := gaps_one w r x hg
      have hx := hri.1.2 x g1
      have e := gaps_rest (e := goneB) (d := ByteArray.empty) w r x hg
      have hsz : ∀ y ∈ r.filter (· ≠ x), (w.getD y.toNat ByteArray.empty).size = z := by
        intro y hy
        obtain ⟨hy1, hy2⟩ := List.mem_filter.1 hy
        have h4 := g3 y hy1 (by simpa using hy2)
        have h5 := okW_at z L w hw y (hri.1.2 y hy1)
        unfold goneB at h4
        have := of_decide_eq_false h4
        omega
      have hlw := hw.1
      rw [if_pos (by simp), e, mosaicref09_Sum.spec_at w _ z k hz (Nat.le_trans (List.length_filter_le _ _) hri.2.2) (by omega) (fun y hy => by have := hri.1.2 y (List.mem_filter.1 hy).1; omega) hsz, Option.bind_some]
      show (if 0 ≤ x then _ else _) = _
      rw [if_pos hx.1, if_pos (by show x < _; omega)]
      exact hcc
    | x :: y :: g =>
      rw [hg] at hcc
      rw [if_neg (by simp only [List.length_cons]; omega)]
      exact hcc
  | succ d ih =>
    intro t k ht hk
    obtain ⟨k, rfl⟩ : ∃ m, k = m + 1 := ⟨k - 1, by omega⟩
    have h1 : t < r.length := by omega
    have e1 : rd r (t : Int) = r[t] := by simp [rd, h1]
    have hx := hri.1.2 _ (List.getElem_mem h1)
    have hlw := hw.1
    have e2 : rdOf ByteArray.empty w r[t] = w.getD (r[t]).toNat ByteArray.empty := by simp [rdOf]
    have h := ih (t + 1) k (by omega) (by omega)
    have hgl : (gapsL goneB ByteArray.empty w (r.take t)).length ≤ t := Nat.le_trans (List.length_filter_le _ _) (by rw [List.length_take]; omega)
    have hfl : ((r.take t).filter fun x => !goneB (w.getD x.toNat ByteArray.empty)).length ≤ t := Nat.le_trans (List.length_filter_le _ _) (by rw [List.length_take]; omega)
    rw [mosaicref09_Fill.l3, if_pos (by omega), if_pos (by omega), hrow, if_pos (by omega), if_pos (by omega), e1, if_pos hx.1, if_pos (by omega), e2, wrap64_id ((t : Int) + 1) (by omega) (by omega), show ((t : Int) + 1) = ((t + 1 : Nat) : Int) by omega]
    rw [List.take_succ_eq_append_getElem h1] at h
    unfold gapsL at h hgl ⊢
    rw [List.filter_append, List.filter_append] at h
    by_cases h0 : (w.getD (r[t]).toNat ByteArray.empty).size = 0
    · have hb : goneB (w.getD (r[t]).toNat ByteArray.empty) = true := decide_eq_true h0
      rw [List.filter_cons_of_pos (by simpa using hb), List.filter_nil, List.filter_cons_of_neg (by rw [hb]; decide), List.filter_nil, List.append_nil, last_snoc, List.length_append, List.length_singleton] at h
      rw [if_pos ((toList_nil _).2 h0), wrap64_id _ (by omega) (by omega)]
      exact h
    · have hb : goneB (w.getD (r[t]).toNat ByteArray.empty) = false := decide_eq_false h0
      rw [List.filter_cons_of_neg (by rw [hb]; decide), List.filter_nil, List.append_nil, List.filter_cons_of_pos (by rw [hb]; rfl), List.filter_nil] at h
      rw [if_neg (fun e => h0 ((toList_nil _).1 e)), if_pos (by omega)]
      exact h
theorem passP_cons (z : Int) (r : List Int) (rs : List (List Int)) (w : List ByteArray) : passP goneB ByteArray.empty (sumAt z) (r :: rs) w = passP goneB ByteArray.empty (sumAt z) rs (passR z w r) := rfl
theorem passR_ok (z L : Nat) (hz : 1 ≤ z ∧ z ≤ 64) (rs : List (List Int)) (hR : ∀ r ∈ rs, (r.Nodup ∧ ∀ x ∈ r, 0 ≤ x ∧ x < (L : Int)) ∧ 0 < r.length ∧ r.length ≤ 1000) (w : List ByteArray) (hw : okW z L w) (r : List Int) (hr : r ∈ rs) : okW z L (passR (z : Int) w r) := by
  unfold passR
  split
  · rename_i x hg
    exact (peelsW z L hz rs (fun r hr => (hR r hr).1)).okset w hw r hr x hg
  · exact hw
theorem mosaicref09_Fill.l2_spec (x1 : List ByteArray) (z L : Nat) (hz : 1 ≤ z ∧ z ≤ 64) (rs : List (List Int)) (hR : ∀ r ∈ rs, (r.Nodup ∧ ∀ x ∈ r, 0 ≤ x ∧ x < (L : Int)) ∧ 0 < r.length ∧ r.length ≤ 1000) (hrl : rs.length ≤ 1000) (s : Nat) (hs : s ≤ 1000000) (Rr : Option (List ByteArray × Int)) (K : Nat) (hK : 2000 ≤ K) (d : Nat) : ∀ (i : Nat) (w : List ByteArray), okW z L w → i + d = rs.length →
    (∀ k, K ≤ k → mosaicref09_Fill.l1 k x1 (z : Int) (passP goneB ByteArray.empty (sumAt (z : Int)) (rs.drop i) w) rs ((s + 1 : Nat) : Int) = Rr) → ∀ k, K + d * 1010 < k → mosaicref09_Fill.l2 k x1 (z : Int) w rs (s : Int) (i : Int) = Rr := by
  induction d with
  | zero =>
    intro i w hw hi hc k hk
    obtain ⟨k, rfl⟩ : ∃ m, k = m + 1 := ⟨k - 1, by omega⟩
    have hcc := hc k (by omega)
    rw [List.drop_of_length_le (by omega)] at hcc
    rw [mosaicref09_Fill.l2, if_neg (by omega), wrap64_id _ (by omega) (by omega), show ((s : Int) + 1) = ((s + 1 : Nat) : Int) by omega]
    exact hcc
  | succ d ih =>
    intro i w hw hi hc k hk
    obtain ⟨k, rfl⟩ : ∃ m, k = m + 1 := ⟨k - 1, by omega⟩
    have h1 : i < rs.length := by omega
    have hm := List.getElem_mem h1
    rw [List.drop_eq_getElem_cons h1, passP_cons] at hc
    have h := ih (i + 1) _ (passR_ok z L hz rs hR w hw _ hm) (by omega) hc
    have h3 := mosaicref09_Fill.l3_spec x1 z L hz rs hR i h1 hrl (s : Int) w hw Rr (K + d * 1010 + 1) (by omega) (fun k hk => h k hk) rs[i].length 0 k (by omega) (by have := (hR _ hm).2.2; omega)
    rw [mosaicref09_Fill.l2, if_pos (by omega)]
    exact h3
def fallsR (z : Int) (w : List ByteArray) (rs : List (List Int)) : Prop := ∀ r ∈ rs, gapsL goneB ByteArray.empty w r = [] → ruleB w z r = true
instance (z : Int) (w : List ByteArray) (rs : List (List Int)) : Decidable (fallsR z w rs) := by unfold fallsR; infer_instance
theorem mosaicref09_Fill.l5_spec (z L : Nat) (hz : 1 ≤ z ∧ z ≤ 64) (rs : List (List Int)) (hR : ∀ r ∈ rs, (r.Nodup ∧ ∀ x ∈ r, 0 ≤ x ∧ x < (L : Int)) ∧ 0 < r.length ∧ r.length ≤ 1000) (hrl : rs.length ≤ 1000) (i : Nat) (hi : i < rs.length) (w : List ByteArray) (hw : okW z L w) (Rr : Option (List ByteArray × Int)) (K : Nat) (hK : 2000 ≤ K)
    (hc : ∀ k, K ≤ k → (gapsL goneB ByteArray.empty w rs[i] = [] → ruleB w (z : Int) rs[i] = true) → mosaicref09_Fill.l4 k (z : Int) w rs ((i + 1 : Nat) : Int) = Rr) (hf : gapsL goneB ByteArray.empty w rs[i] = [] → ruleB w (z : Int) rs[i] = false → Rr = some ([], 9)) (d : Nat) : ∀ (t k : Nat), t + d = rs[i].length → K + d < k →
    mosaicref09_Fill.l5 k (z : Int) w rs (i : Int) (decide (gapsL goneB ByteArray.empty w (rs[i].take t) = [])) (t : Int) = Rr := by
  have hrow : rd_L3 rs (i : Int) = rs[i] := by simp [rd_L3, hi]
  have hri := hR _ (List.getElem_mem hi)
  generalize hr : rs[i] = r at *
  induction d with
  | zero =>
    intro t k ht hk
    obtain ⟨k, rfl⟩ : ∃ m, k = m + 1 := ⟨k - 1, by omega⟩
    have htk : r.take t = r := List.take_of_length_le (by omega)
    rw [htk, mosaicref09_Fill.l5, if_pos (by omega), if_pos (by omega), hrow, if_neg (by omega), wrap64_id ((i : Int) + 1) (by omega) (by omega), show ((i : Int) + 1) = ((i + 1 : Nat) : Int) by omega]
    by_cases hg : gapsL goneB ByteArray.empty w r = []
    · have hsz : ∀ y ∈ r, (w.getD y.toNat ByteArray.empty).size = z := by
        intro y hy
        have h4 := (gaps_nil (e := goneB) (d := ByteArray.empty) w r).1 hg y hy
        have h5 := okW_at z L w hw y (hri.1.2 y hy)
        unfold goneB at h4
        have := of_decide_eq_false h4
        omega
      have hlw := hw.1
      rw [decide_eq_true hg, if_pos rfl, mosaicref09_Sum.spec_at w _ z k hz hri.2.2 (by omega) (fun y hy => by have := hri.1.2 y hy; omega) hsz, Option.bind_some, mosaicref07_Zero.spec _ _ (by omega), Option.bind_some]
      by_cases hq : (sumR (outer_sum.at_ w r) (z : Int)).1 = zeroR (z : Int)
      · rw [if_pos (by rw [hq])]
        exact hc k (by omega) (fun _ => decide_eq_true hq)
      · rw [if_neg (fun e => hq (toList_inj e))]
        exact (hf hg (decide_eq_false hq)).symm
    · rw [decide_eq_false hg, if_neg (by decide)]
      exact hc k (by omega) (fun e => absurd e hg)
  | succ d ih =>
    intro t k ht hk
    obtain ⟨k, rfl⟩ : ∃ m, k = m + 1 := ⟨k - 1, by omega⟩
    have h1 : t < r.length := by omega
    have e1 : rd r (t : Int) = r[t] := by simp [rd, h1]
    have hx := hri.1.2 _ (List.getElem_mem h1)
    have hlw := hw.1
    have e2 : rdOf ByteArray.empty w r[t] = w.getD (r[t]).toNat ByteArray.empty := by simp [rdOf]
    have h := ih (t + 1) k (by omega) (by omega)
    have e3 : decide (gapsL goneB ByteArray.empty w (r.take (t + 1)) = []) = (decide (gapsL goneB ByteArray.empty w (r.take t) = []) && !goneB (w.getD (r[t]).toNat ByteArray.empty)) := by
      rw [List.take_succ_eq_append_getElem h1]
      unfold gapsL
      rw [List.filter_append]
      cases hb : goneB (w.getD (r[t]).toNat ByteArray.empty)
      · rw [List.filter_cons_of_neg (by rw [hb]; decide)]
        simp
      · rw [List.filter_cons_of_pos (by simpa using hb)]
        simp
    rw [e3] at h
    rw [mosaicref09_Fill.l5, if_pos (by omega), if_pos (by omega), hrow, if_pos (by omega), wrap64_id ((t : Int) + 1) (by omega) (by omega), show ((t : Int) + 1) = ((t + 1 : Nat) : Int) by omega]
    by_cases hg : gapsL goneB ByteArray.empty w (r.take t) = []
    · rw [decide_eq_true hg, Bool.true_and] at h
      rw [decide_eq_true hg, if_pos rfl, if_pos (by omega), e1, if_pos hx.1, if_pos (by omega), e2]
      have e4 : ((w.getD (r[t]).toNat ByteArray.empty).toList != ([] : List UInt8)) = !goneB (w.getD (r[t]).toNat ByteArray.empty) := by
        unfold goneB
        by_cases h0 : (w.getD (r[t]).toNat ByteArray.empty).size = 0
        · rw [(toList_nil _).2 h0, decide_eq_true h0]
          rfl
        · rw [decide_eq_false h0]
          exact bne_iff_ne.2 (fun e => h0 ((toList_nil _).1 e))
      rw [e4]
      exact h
    · rw [decide_eq_false hg, Bool.false_and] at h
      rw [decide_eq_false hg, if_neg (by decide)]
      exact h
theorem mosaicref09_Fill.l4_spec (z L : Nat) (hz : 1 ≤ z ∧ z ≤ 64) (rs : List (List Int)) (hR : ∀ r ∈ rs, (r.Nodup ∧ ∀ x ∈ r, 0 ≤ x ∧ x < (L : Int)) ∧ 0 < r.length ∧ r.length ≤ 1000) (hrl : rs.length ≤ 1000) (w : List ByteArray) (hw : okW z L w) (d : Nat) : ∀ (i k : Nat), i + d = rs.length → 3000 + d * 1010 < k →
    mosaicref09_Fill.l4 k (z : Int) w rs (i : Int) = some (if fallsR (z : Int) w (rs.drop i) then (w, 0) else ([], 9)) := by
  induction d with
  | zero =>
    intro i k hi hk
    obtain ⟨k, rfl⟩ : ∃ m, k = m + 1 := ⟨k - 1, by omega⟩
    rw [mosaicref09_Fill.l4, if_neg (by omega), List.drop_of_length_le (by omega), if_pos (show fallsR (z : Int) w [] from fun r hr => by cases hr)]
  | succ d ih =>
    intro i k hi hk
    obtain ⟨k, rfl⟩ : ∃ m, k = m + 1 := ⟨k - 1, by omega⟩
    have h1 : i < rs.length := by omega
    have hm := List.getElem_mem h1
    rw [mosaicref09_Fill.l4, if_pos (by omega), List.drop_eq_getElem_cons h1]
    refine mosaicref09_Fill.l5_spec z L hz rs hR hrl i h1 w hw _ (3000 + d * 1010 + 1) (by omega) (fun k hk hh => ?_) (fun hg hb => ?_) rs[i].length 0 k (by omega) (by have := (hR _ hm).2.2; omega)
    · rw [ih (i + 1) k (by omega) hk]
      congr 1
      by_cases hq : fallsR (z : Int) w (rs.drop (i + 1))
      · rw [if_pos hq, if_pos (show fallsR (z : Int) w (rs[i] :: rs.drop (i + 1)) from fun r hr => (List.mem_cons.1 hr).elim (fun e => by rw [e]; exact hh) (hq r))]
      · rw [if_neg hq, if_neg (show ¬ fallsR (z : Int) w (rs[i] :: rs.drop (i + 1)) from fun h9 => hq (fun r hr => h9 r (List.mem_cons_of_mem _ hr)))]
    · rw [if_neg (show ¬ fallsR (z : Int) w (rs[i] :: rs.drop (i + 1)) from fun h9 => by have := h9 _ List.mem_cons_self hg; rw [hb] at this; cases this)]
theorem passP_ok (z L : Nat) (hz : 1 ≤ z ∧ z ≤ 64) (rs : List (List Int)) (hR : ∀ r ∈ rs, (r.Nodup ∧ ∀ x ∈ r, 0 ≤ x ∧ x < (L : Int)) ∧ 0 < r.length ∧ r.length ≤ 1000) (w : List ByteArray) (hw : okW z L w) : okW z L (passP goneB ByteArray.empty (sumAt (z : Int)) rs w) :=
  psteps_ok (peelsW z L hz rs (fun r hr => (hR r hr).1)) w _ (passP_steps w rs w (fun _ h => h) (PSteps.refl w)) hw
theorem mosaicref09_Fill.l1_spec (x1 : List ByteArray) (hx1 : x1.length ≤ 1000) (z L : Nat) (hz : 1 ≤ z ∧ z ≤ 64) (rs : List (List Int)) (hR : ∀ r ∈ rs, (r.Nodup ∧ ∀ x ∈ r, 0 ≤ x ∧ x < (L : Int)) ∧ 0 < r.length ∧ r.length ≤ 1000) (hrl : rs.length ≤ 100) (d : Nat) : ∀ (s k : Nat) (w : List ByteArray), okW z L w → s + d = x1.length → 200000 + d * 102000 < k →
    mosaicref09_Fill.l1 k x1 (z : Int) w rs (s : Int) = some (if fallsR (z : Int) (passes goneB ByteArray.empty (sumAt (z : Int)) rs d w) rs then (passes goneB ByteArray.empty (sumAt (z : Int)) rs d w, 0) else ([], 9)) := by
  induction d with
  | zero =>
    intro s k w hw hs hk
    obtain ⟨k, rfl⟩ : ∃ m, k = m + 1 := ⟨k - 1, by omega⟩
    rw [mosaicref09_Fill.l1, if_neg (by omega), passes]
    have h := mosaicref09_Fill.l4_spec z L hz rs hR (by omega) w hw rs.length 0 k (by omega) (by omega)
    rw [List.drop_zero] at h
    exact h
  | succ d ih =>
    intro s k w hw hs hk
    obtain ⟨k, rfl⟩ : ∃ m, k = m + 1 := ⟨k - 1, by omega⟩
    rw [mosaicref09_Fill.l1, if_pos (by omega), passes]
    refine mosaicref09_Fill.l2_spec x1 z L hz rs hR (by omega) s (by omega) _ (200000 + d * 102000 + 1) (by omega) rs.length 0 w hw (by omega) (fun k hk => ?_) k (by omega)
    rw [List.drop_zero]
    exact ih (s + 1) k _ (passP_ok z L hz rs hR w hw) (by omega) hk
theorem mosaicref09_Fill.l0_spec (x1 : List ByteArray) (hx1 : x1.length ≤ 1000) (z : Int) (p0 p1 p2 p3 : Int) (d : Nat) : ∀ (t k : Nat) (Rr : Option (List ByteArray × Int)) (K : Nat), t + d = x1.length → K + d < k → (∀ k, K ≤ k → ((mosaicref09_Rules.f k p0 p1 p2 p3).bind fun t404 => mosaicref09_Fill.l1 k x1 z x1 t404 0) = Rr) →
    mosaicref09_Fill.l0 k x1 z (x1.take t) (t : Int) p0 p1 p2 p3 = Rr := by
  induction d with
  | zero =>
    intro t k Rr K ht hk hc
    obtain ⟨k, rfl⟩ : ∃ m, k = m + 1 := ⟨k - 1, by omega⟩
    rw [mosaicref09_Fill.l0, if_neg (by omega), List.take_of_length_le (by omega)]
    exact hc k (by omega)
  | succ d ih =>
    intro t k Rr K ht hk hc
    obtain ⟨k, rfl⟩ : ∃ m, k = m + 1 := ⟨k - 1, by omega⟩
    have h1 : t < x1.length := by omega
    have e1 : rdOf ByteArray.empty x1 (t : Int) = x1[t] := by simp [rdOf, h1]
    have h := ih (t + 1) k Rr K (by omega) (by omega) hc
    rw [List.take_succ_eq_append_getElem h1] at h
    rw [mosaicref09_Fill.l0, if_pos (by omega), if_pos (by omega), if_pos (by rw [List.length_take]; omega), e1, wrap64_id _ (by omega) (by omega), show ((t : Int) + 1) = ((t + 1 : Nat) : Int) by omega]
    exact h
theorem mosaicref09_Fill.spec (s n a q : Int) (l : List ByteArray) (k : Nat) (hk : 110000000 ≤ k) (hl : l.length ≤ 1000) : mosaicref09_Fill.f k s n a q l = some (outer_Fill.R s n a q l) := by
  obtain ⟨k, rfl⟩ : ∃ m, k = m + 1 := ⟨k - 1, by omega⟩
  unfold mosaicref09_Fill.f outer_Fill.R
  rw [mosaicref09_size.spec l (by omega) _ (by omega), Option.bind_some, mosaicref09_Check.spec, Option.bind_some]
  by_cases h : outer_Check.B s n a q
  · rw [if_pos (decide_eq_true h)]
    obtain ⟨h1, h2, h3, h4⟩ := h
    rw [wrap64_id _ (by omega) (by omega)]
    by_cases hln : (l.length : Int) = n + a
    · rw [if_pos hln]
      by_cases hz : szR 0 l = 0
      · rw [mosaicref09_Fill.j0, if_pos (by rw [hz]; rfl), if_neg (fun h9 => h9.2.2 hz)]
      · have e := fun k hk => mosaicref09_Rules.spec s.toNat a.toNat q.toNat n.toNat k hk (by omega) (by omega) (by omega) (by omega)
        rw [Int.toNat_of_nonneg h1.1, Int.toNat_of_nonneg (by omega : 0 ≤ n), Int.toNat_of_nonneg (by omega : 0 ≤ a), Int.toNat_of_nonneg (by omega : 0 ≤ q)] at e
        obtain ⟨g1, _, g3⟩ := szR_some l 0 (Or.inl rfl) hz
        obtain ⟨z, hzz⟩ : ∃ z : Nat, szR 0 l = (z : Int) := ⟨(szR 0 l).toNat, by omega⟩
        rw [hzz] at g1 g3 hz ⊢
        have hR : ∀ r ∈ rulL (outer_joins.J s.toNat a.toNat q.toNat) n.toNat a.toNat, (r.Nodup ∧ ∀ x ∈ r, 0 ≤ x ∧ x < (l.length : Int)) ∧ 0 < r.length ∧ r.length ≤ 1000 := fun r hr => by
          have := rulL_fine _ _ _ (by omega) r hr
          refine ⟨⟨this.1.1, fun x hx => ?_⟩, this.2⟩
          have := this.1.2 x hx
          omega
        have hok : okW z l.length l := ⟨rfl, fun s hs => by have := g3 s hs; omega⟩
        have hgn := gapN_le (e := goneB) l
        rw [mosaicref09_Fill.j0, if_neg (by simp only [beq_iff_eq]; exact hz), if_pos ⟨⟨h1, h2, h3, h4⟩, hln, hz⟩, fill_passes _ (peelsW z l.length (by omega) _ (fun r hr => (hR r hr).1)) l hok (l.length + 1) l.length (by omega) hgn]
        have h6 := mosaicref09_Fill.l0_spec l hl (z : Int) s n a q l.length 0 k (some (fillR (if (∀ r ∈ rulL (outer_joins.J s.toNat a.toNat q.toNat) n.toNat a.toNat, gapsL goneB ByteArray.empty (passes goneB ByteArray.empty (sumAt (z : Int)) (rulL (outer_joins.J s.toNat a.toNat q.toNat) n.toNat a.toNat) l.length l) r = [] → ruleB (passes goneB ByteArray.empty (sumAt (z : Int)) (rulL (outer_joins.J s.toNat a.toNat q.toNat) n.toNat a.toNat) l.length l) (z : Int) r = true) then some (passes goneB ByteArray.empty (sumAt (z : Int)) (rulL (outer_joins.J s.toNat a.toNat q.toNat) n.toNat a.toNat) l.length l) else none))) 105000000 (by omega) (by omega) (fun k hk => by
          rw [e k (by omega), Option.bind_some]
          have h7 := mosaicref09_Fill.l1_spec l hl z l.length (by omega) _ hR (by rw [rulL_length]; omega) l.length 0 k l hok (by omega) (by omega)
          refine h7.trans ?_
          congr 1
          by_cases hq : fallsR (z : Int) (passes goneB ByteArray.empty (sumAt (z : Int)) (rulL (outer_joins.J s.toNat a.toNat q.toNat) n.toNat a.toNat) l.length l) (rulL (outer_joins.J s.toNat a.toNat q.toNat) n.toNat a.toNat)
          · have hq2 := hq
            unfold fallsR at hq2
            rw [if_pos hq, if_pos hq2]
            rfl
          · have hq2 := hq
            unfold fallsR at hq2
            rw [if_neg hq, if_neg hq2]
            rfl)
        rw [List.take_zero] at h6
        exact h6
    · rw [if_neg hln, mosaicref09_Fill.j0, if_pos rfl, if_neg (fun h9 => hln h9.2.1)]
  · rw [if_neg (by simp only [decide_eq_true_eq]; exact h), mosaicref09_Fill.j0, if_pos rfl, if_neg (fun h9 => h h9.1)]
theorem mosaiclaw09_OuterFills.early (k : Nat) (hk : 4000 ≤ k) (l : List ByteArray) (p0 p1 p2 p3 : Int) : mosaiclaw09_OuterFills.j0 k l true p0 p1 p2 p3 = some true := by
  obtain ⟨k, rfl⟩ : ∃ m, k = m + 1 := ⟨k - 1, by omega⟩
  rw [mosaiclaw09_OuterFills.j0, if_pos rfl, mosaiclaw09_awake.spec _ (by omega), Option.bind_some]
end Go.Proofs.YtghhmnjkgnoogaaGreat.POuterFills
namespace Go.Proofs.YtghhmnjkgnoogaaGreat.Pure
open Go.RowKit Go.Proofs.YtghhmnjkgnoogaaGreat.POuterFills Go.Proofs.YtghhmnjkgnoogaaGreatW.PrintWords Go.Proofs.YtghhmnjkgnoogaaGreatW.PrintLast Go.Proofs.YtghhmnjkgnoogaaGreatW.PrintMore Go.Mine
theorem OuterFills : mosaiclaw09_OuterFills.Pure := by
  intro s n a q l _ _ _ _ _ _
  refine ⟨200000000, ?_⟩
  unfold mosaiclaw09_OuterFills.f
  rw [mosaiclaw09_few.spec _ _ (by omega), Option.bind_some]
  by_cases h1 : l.length ≤ 180 ∧ ∀ x ∈ l, x.size ≤ 100
  · rw [if_pos (decide_eq_true h1)]
    by_cases h2 : n > 30
    · rw [if_pos h2]
      exact mosaiclaw09_OuterFills.early _ (by omega) _ _ _ _ _
    · rw [if_neg h2]
      by_cases h3 : a > 15
      · rw [decide_eq_true h3]
        exact mosaiclaw09_OuterFills.early _ (by omega) _ _ _ _ _
      · rw [decide_eq_false h3, mosaiclaw09_OuterFills.j0, if_neg (by decide), outer_Fill.spec _ _ _ _ _ (by omega) _ (by omega), Option.bind_some]
        unfold mosaiclaw09_Ref.f
        rw [Option.bind_some, mosaicref09_Fill.spec _ _ _ _ _ _ (by omega) (by omega), Option.bind_some, mosaiclaw09_awake.spec _ (by omega), Option.bind_some, if_pos rfl]
        have hlen : (outer_Fill.R s n a q l).1.length ≤ 1000 := by
          unfold outer_Fill.R
          split
          · unfold fillR
            split
            · rename_i v hv
              have := fillP_length _ _ _ _ hv
              show v.length ≤ 1000
              omega
            · simp
          · simp
        rw [mosaicref03_Same.spec _ _ _ (by omega) (by omega), Option.bind_some, if_pos (decide_eq_true rfl), beq_self_eq_true]
  · rw [if_neg (by simp only [decide_eq_true_eq]; exact h1)]
    exact mosaiclaw09_OuterFills.early _ (by omega) _ _ _ _ _
end Go.Proofs.YtghhmnjkgnoogaaGreat.Pure
