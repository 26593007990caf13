/- OuterHolds: for every plan and all blocks: the rules hold of a whole and of the sum of two wholes of one size, and with one byte turned of the last auxiliary block they hold no more. No condition. -/
import Derived.Test.YtghhmnjkgnoogaaTOuterHoldsa
import Derived.Test.YtghhmnjkgnoogaaQOuterHoldsx7
import Derived.Laws.BitsAllLaws
import Derived.Lib.Repeat
import Derived.Laws.BitsLemmas
namespace Go.Mine
open Go Go.RowKit Go.Proofs.YtghhmnjkgnoogaaW.PrintWords Go.Proofs.YtghhmnjkgnoogaaW.PrintLast Go.Proofs.YtghhmnjkgnoogaaW.PrintMore
theorem wrap64_id (n : Int) (h1 : -9223372036854775808 ≤ n) (h2 : n ≤ 9223372036854775807) : wrap64 n = n := by
  unfold wrap64
  omega
def nb (s : ByteArray) (j : Nat) : Nat := (s.data.toList.getD j 0).toNat
theorem nb_lt (s : ByteArray) (j : Nat) : nb s j < 256 := by
  have := (s.data.toList.getD j 0).toNat_lt
  unfold nb
  omega
theorem len_data (s : ByteArray) : s.data.toList.length = s.size := by rw [Array.length_toList]; rfl
def hb (s : ByteArray) (i : Nat) : Bool := (nb s (i / 8)).testBit (i % 8)
theorem bytes_ext (s t : ByteArray) (hs : s.size = t.size) (h : ∀ j, j < s.size → nb s j = nb t j) : s = t := by
  have hl : s.data.toList = t.data.toList := by
    apply List.ext_getElem
    · rw [len_data, len_data]; exact hs
    · intro j h1 h2
      have := h j (by rw [len_data] at h1; exact h1)
      unfold nb at this
      rw [List.getD_eq_getElem?_getD, List.getD_eq_getElem?_getD, List.getElem?_eq_getElem h1, List.getElem?_eq_getElem h2] at this
      exact UInt8.toNat_inj.1 this
  have hd : s.data = t.data := Array.toList_inj.1 hl
  cases s; cases t
  simp only at hd
  rw [hd]
theorem strOfNums_size' (xs : List Int) : (strOfNums xs).size = xs.length := strOfNums_size xs
theorem nb_strOfNums (xs : List Int) (j : Nat) : nb (strOfNums xs) j = ((xs.getD j 0).toNat) % 256 := by
  unfold nb
  rw [strOfNums_data, List.getD_eq_getElem?_getD, List.getElem?_map, List.getD_eq_getElem?_getD]
  cases xs[j]? with
  | none => rfl
  | some v => simp
theorem nb_bytesI (s : ByteArray) (j : Nat) : (bytesI s).getD j 0 = (nb s j : Int) := by
  unfold bytesI nb
  rw [List.getD_eq_getElem?_getD, List.getElem?_map, List.getD_eq_getElem?_getD]
  cases s.data.toList[j]? with
  | none => rfl
  | some v => rfl
end Go.Mine
namespace Go.Mine
open Go Go.RowKit Go.Proofs.YtghhmnjkgnoogaaW.PrintWords Go.Proofs.YtghhmnjkgnoogaaW.PrintLast Go.Proofs.YtghhmnjkgnoogaaW.PrintMore
set_option linter.unusedVariables false
theorem rep0 (c : Nat) : Lib.repeatL [0] c = List.replicate c (0 : UInt8) := by
  induction c with
  | zero => rfl
  | succ c ih => rw [Lib.repeatL, ih]; rfl
def zeroS (c : Nat) : ByteArray := ⟨(List.replicate c (0 : UInt8)).toArray⟩
theorem zeroS_size (c : Nat) : (zeroS c).size = c := by simp [zeroS, ByteArray.size]
theorem zeroS_nb (c j : Nat) : nb (zeroS c) j = 0 := by
  unfold nb zeroS
  simp only [List.getD_eq_getElem?_getD, List.getElem?_replicate]
  split <;> rfl
def blkL (s : ByteArray) (z j m : Nat) : List Int := (List.range m).map fun t => ((nb s (j * z + t) : Nat) : Int)
theorem blkL_length (s : ByteArray) (z j m : Nat) : (blkL s z j m).length = m := by simp [blkL]
def blk (s : ByteArray) (z j : Nat) : ByteArray := strOfNums (blkL s z j z)
theorem blk_size (s : ByteArray) (z j : Nat) : (blk s z j).size = z := by rw [blk, strOfNums_size', blkL_length]
theorem toList_inj {a b : ByteArray} (h : a.toList = b.toList) : a = b := by
  rw [Go.ByteArray.toList_eq, Go.ByteArray.toList_eq] at h
  cases a; cases b
  simpa using h
end Go.Mine
namespace Go.Mine
open Go Go.RowKit Go.Proofs.YtghhmnjkgnoogaaW.PrintWords Go.Proofs.YtghhmnjkgnoogaaW.PrintLast Go.Proofs.YtghhmnjkgnoogaaW.PrintMore
set_option linter.unusedSimpArgs false
set_option linter.unusedVariables false
def beL (n : Nat) : Nat → List Int
  | 0 => []
  | k + 1 => ((n / 256 ^ k % 256 : Nat) : Int) :: beL n k
theorem beL_length (n k : Nat) : (beL n k).length = k := by
  induction k with
  | zero => rfl
  | succ k ih => simp [beL, ih]
def numS (n k : Nat) : ByteArray := strOfNums (beL n k)
theorem numS_size (n k : Nat) : (numS n k).size = k := by rw [numS, strOfNums_size', beL_length]
theorem p256_pos (k : Nat) : 0 < 256 ^ k := Nat.pow_pos (by decide)
theorem p256_succ (k : Nat) : 256 ^ (k + 1) = 256 * 256 ^ k := by rw [Nat.pow_succ, Nat.mul_comm]
theorem p256_two (k : Nat) : 2 ^ (8 * k) = 256 ^ k := by rw [Nat.pow_mul]
theorem p256_le7 (k : Nat) (h : k ≤ 7) : 256 ^ k ≤ 72057594037927936 := Nat.le_trans (Nat.pow_le_pow_right (by decide) h) (by decide)
def putR (n size : Int) : ByteArray × Int :=
  if size < 1 ∨ 7 < size then (⟨#[]⟩, 1) else if n < 0 ∨ ((256 ^ size.toNat : Nat) : Int) ≤ n then (⟨#[]⟩, 8) else (numS n.toNat size.toNat, 0)
def valL : List UInt8 → Nat → Nat
  | [], a => a
  | c :: l, a => valL l (256 * a + c.toNat)
theorem valL_nil (a : Nat) : valL [] a = a := rfl
theorem valL_cons (c : UInt8) (l : List UInt8) (a : Nat) : valL (c :: l) a = valL l (256 * a + c.toNat) := rfl
def getR (s : ByteArray) : Int := if s.size > 7 then 0 else ((valL s.data.toList 0 : Nat) : Int)
theorem i64_or_nat (a b : Nat) (ha : a < 9223372036854775808) (hb : b < 9223372036854775808) : Go.bits .or .i64 (a : Int) (b : Int) = ((a ||| b : Nat) : Int) :=
  (bits_nat .i64 63 (by decide) (fun n h0 h1 => by rw [IntKind.wrap_i64]; omega) a b ha hb).2
theorem or_low (n c : Nat) (hc : c < 256) : (n * 256) ||| c = n * 256 + c := by
  have := Nat.two_pow_add_eq_or_of_lt (i := 8) (b := c) hc n
  rw [show (2 : Nat) ^ 8 * n = n * 256 by rw [Nat.mul_comm]] at this
  exact this.symm
theorem get_step (a c : Nat) (hc : c < 256) (ha : 256 * a + c < 72057594037927936) : Go.bits .or .i64 (wrap64 ((a : Int) * 256)) (wrap64 (c : Int)) = ((256 * a + c : Nat) : Int) := by
  have e1 : wrap64 ((a : Int) * 256) = ((a * 256 : Nat) : Int) := by
    rw [wrap64_id _ (by omega) (by omega)]
    omega
  have e2 : wrap64 (c : Int) = (c : Int) := wrap64_id _ (by omega) (by omega)
  have e3 := i64_or_nat (a * 256) c (by omega) (by omega)
  rw [or_low _ _ hc] at e3
  rw [e1, e2, e3]
  omega
end Go.Mine
namespace Go.Mine
open Go Go.RowKit Go.Proofs.YtghhmnjkgnoogaaW.PrintWords Go.Proofs.YtghhmnjkgnoogaaW.PrintLast Go.Proofs.YtghhmnjkgnoogaaW.PrintMore
set_option linter.unusedVariables false
end Go.Mine
namespace Go.Mine
open Go Go.RowKit Go.Proofs.YtghhmnjkgnoogaaW.PrintWords Go.Proofs.YtghhmnjkgnoogaaW.PrintLast Go.Proofs.YtghhmnjkgnoogaaW.PrintMore
set_option linter.unusedSimpArgs false
set_option linter.unusedVariables false
def Bytes (xs : List Int) : Prop := ∀ j, 0 ≤ xs.getD j 0 ∧ xs.getD j 0 < 256
theorem bytes_bytesI (s : ByteArray) : Bytes (bytesI s) := fun j => by rw [nb_bytesI]; have := nb_lt s j; omega
theorem getD_set (xs : List Int) (j i : Nat) (v : Int) (hj : j < xs.length) : (xs.set j v).getD i 0 = if i = j then v else xs.getD i 0 := by
  rw [List.getD_eq_getElem?_getD, List.getElem?_set]
  by_cases h : j = i
  · subst h; simp [hj]
  · rw [if_neg h, if_neg (fun e => h e.symm), List.getD_eq_getElem?_getD]
theorem bothB_get (op : BinOp) (a b : List Int) (k : Nat) : k ≤ a.length → ∀ j, (bothB op a b k).getD j 0 = if j < k then Go.bits op .u8 (a.getD j 0) (b.getD j 0) else a.getD j 0 := by
  induction k with
  | zero => intro _ j; simp [bothB]
  | succ k ih =>
    intro hk j
    have ih := ih (by omega)
    unfold bothB
    rw [getD_set _ _ _ _ (by rw [bothB_length]; omega), ih k, if_neg (Nat.lt_irrefl _)]
    by_cases h : j = k
    · subst h; rw [if_pos rfl, if_pos (by omega)]
    · rw [if_neg h, ih j]
      by_cases h2 : j < k
      · rw [if_pos h2, if_pos (by omega)]
      · rw [if_neg h2, if_neg (by omega)]
def bothS (op : BinOp) (a b : ByteArray) : ByteArray := strOfNums (bothB op (bytesI a) (bytesI b) a.size)
theorem bothS_size (op : BinOp) (a b : ByteArray) : (bothS op a b).size = a.size := by unfold bothS; rw [strOfNums_size', bothB_length, bytesI_length]
theorem bothS_nb (op : BinOp) (a b : ByteArray) (j : Nat) (hj : j < a.size) : nb (bothS op a b) j = (Go.bits op .u8 (nb a j) (nb b j)).toNat % 256 := by
  unfold bothS
  rw [nb_strOfNums, bothB_get _ _ _ _ (by rw [bytesI_length]; exact Nat.le_refl _), if_pos hj, nb_bytesI, nb_bytesI]
end Go.Mine
namespace Go.Mine
open Go Go.RowKit Go.Proofs.YtghhmnjkgnoogaaW.PrintWords Go.Proofs.YtghhmnjkgnoogaaW.PrintLast Go.Proofs.YtghhmnjkgnoogaaW.PrintMore
set_option linter.unusedVariables false
theorem xor_nb (a b : ByteArray) (j : Nat) (hj : j < a.size) : nb (bothS .xor a b) j = nb a j ^^^ nb b j := by
  rw [bothS_nb _ _ _ _ hj, u8_xor_nat _ _ (nb_lt _ _) (nb_lt _ _), Int.toNat_natCast, Nat.mod_eq_of_lt (Nat.xor_lt_two_pow (n := 8) (nb_lt _ _) (nb_lt _ _))]
def xsum (t : ByteArray) : List ByteArray → ByteArray
  | [] => t
  | s :: l => xsum (bothS .xor t s) l
theorem xsum_size (l : List ByteArray) : ∀ t, (xsum t l).size = t.size := by
  induction l with
  | nil => intro t; rfl
  | cons s l ih => intro t; rw [xsum, ih, bothS_size]
theorem bytesI_strOfNums (xs : List Int) (h : Bytes xs) : bytesI (strOfNums xs) = xs := by
  refine List.ext_getElem (by rw [bytesI_length, strOfNums_size']) fun j h1 h2 => ?_
  have e1 := nb_bytesI (strOfNums xs) j
  have e2 := nb_strOfNums xs j
  have e3 := h j
  rw [List.getD_eq_getElem?_getD, List.getElem?_eq_getElem h1] at e1
  rw [List.getD_eq_getElem?_getD, List.getElem?_eq_getElem h2] at e2 e3
  simp only [Option.getD_some] at e1 e2 e3
  omega
theorem bytes_xor (x : List Int) (hx : Bytes x) (s : ByteArray) (n : Nat) (hn : n ≤ x.length) : Bytes (bothB .xor x (bytesI s) n) := by
  intro j
  rw [bothB_get _ _ _ _ hn]
  split
  · have h1 := hx j
    have h2 := bytes_bytesI s j
    rw [u8_xor _ _ h1.1 h1.2 h2.1 h2.2]
    have := Nat.xor_lt_two_pow (n := 8) (x := (x.getD j 0).toNat) (y := ((bytesI s).getD j 0).toNat) (by omega) (by omega)
    omega
  · exact hx j
theorem bothB_step (x : List Int) (hx : Bytes x) (s : ByteArray) : strOfNums (bothB .xor x (bytesI s) x.length) = bothS .xor (strOfNums x) s := by
  unfold bothS
  rw [bytesI_strOfNums x hx, strOfNums_size']
def xorR (a b : ByteArray) : ByteArray × Int := if a.size = b.size then (bothS .xor a b, 0) else (⟨#[]⟩, 1)
def odd (l : List ByteArray) (z : Int) : Bool := l.any fun s => !((s.size : Int) == z)
def sumR (l : List ByteArray) (z : Int) : ByteArray × Int := if ¬ (1 ≤ z ∧ z ≤ 64) then (⟨#[]⟩, 1) else if odd l z = true then (⟨#[]⟩, 1) else (xsum (zeroS z.toNat) l, 0)
def zeroR (z : Int) : ByteArray := if 1 ≤ z ∧ z ≤ 64 then zeroS z.toNat else ⟨#[]⟩
theorem strOfNums_zero (n : Nat) : strOfNums (List.replicate n 0) = zeroS n := by
  refine bytes_ext _ _ (by rw [strOfNums_size', zeroS_size, List.length_replicate]) fun j hj => ?_
  rw [nb_strOfNums, zeroS_nb, List.getD_eq_getElem?_getD, List.getElem?_replicate]
  split <;> rfl
theorem bytes_zero (n : Nat) : Bytes (List.replicate n 0) := by
  intro j
  rw [List.getD_eq_getElem?_getD, List.getElem?_replicate]
  split <;> simp
end Go.Mine
namespace Go.Mine
open Go Go.RowKit Go.Proofs.YtghhmnjkgnoogaaW.PrintWords Go.Proofs.YtghhmnjkgnoogaaW.PrintLast Go.Proofs.YtghhmnjkgnoogaaW.PrintMore
set_option linter.unusedVariables false
def xb : List ByteArray → Nat → Nat
  | [], _ => 0
  | s :: l, j => nb s j ^^^ xb l j
theorem xb_append (l m : List ByteArray) (j : Nat) : xb (l ++ m) j = xb l j ^^^ xb m j := by
  induction l with
  | nil => rw [List.nil_append, xb, Nat.zero_xor]
  | cons s l ih => rw [List.cons_append, xb, ih, xb, Nat.xor_assoc]
theorem xsum_nb (l : List ByteArray) (j : Nat) : ∀ t, j < t.size → nb (xsum t l) j = nb t j ^^^ xb l j := by
  induction l with
  | nil => intro t _; rw [xsum, xb, Nat.xor_zero]
  | cons s l ih => intro t ht; rw [xsum, ih _ (by rw [bothS_size]; exact ht), xor_nb _ _ _ ht, xb, Nat.xor_assoc]
theorem odd_iff (l : List ByteArray) (z : Int) : odd l z = false ↔ ∀ s ∈ l, (s.size : Int) = z := by
  unfold odd
  rw [List.any_eq_false]
  constructor
  · intro h s hs
    have := h s hs
    simpa using this
  · intro h s hs
    have := h s hs
    simp [this]
theorem sumR_ok (l : List ByteArray) (z : Int) (hz : 1 ≤ z ∧ z ≤ 64) (h : odd l z = false) : sumR l z = (xsum (zeroS z.toNat) l, 0) := by
  unfold sumR
  rw [if_neg (show ¬ ¬ (1 ≤ z ∧ z ≤ 64) from fun hh => hh hz), h, if_neg (by decide)]
end Go.Mine
namespace Go.Mine
open Go Go.RowKit Go.Proofs.YtghhmnjkgnoogaaW.PrintWords Go.Proofs.YtghhmnjkgnoogaaW.PrintLast Go.Proofs.YtghhmnjkgnoogaaW.PrintMore
set_option linter.unusedVariables false
def tailB (n : Nat) : Nat → List Int
  | 0 => []
  | d + 1 => ((8 * n : Nat) : Int) / 2 ^ (8 * d) % 256 :: tailB n d
theorem tailB_length (n d : Nat) : (tailB n d).length = d := by
  induction d with
  | zero => rfl
  | succ d ih => simp only [tailB, List.length_cons, ih]
def padL (n : Nat) : List Int := ([128] ++ List.replicate ((119 - n % 64) % 64) 0) ++ tailB n 8
theorem padL_length (n : Nat) : (padL n).length = 9 + (119 - n % 64) % 64 := by
  simp only [padL, List.length_append, tailB_length, List.length_replicate, List.length_singleton]
  omega
theorem padL_mod (n : Nat) : (n + (padL n).length) % 64 = 0 := by rw [padL_length]; omega
theorem hashGo_spec (d : Nat) : ∀ (st p : List Int) (s : ByteArray), st.length = 8 → p.length < 64 → s.size < d → (hashGo d st p s).1.length = 8 ∧ (hashGo d st p s).2.length = (p.length + s.size) % 64 := by
  induction d with
  | zero => intro st p s _ _ h; omega
  | succ d ih =>
    intro st p s hst hp hs
    rw [hashGo]
    by_cases h : 64 ≤ p.length + s.size
    · rw [if_pos h]
      have hsz : (s.extract (64 - p.length) s.size).size = s.size - (64 - p.length) := by rw [ByteArray.size_extract]; omega
      have := ih (mixW st (p ++ bytesOf (s.extract 0 (64 - p.length)))) [] (s.extract (64 - p.length) s.size) (mixW_length _ _) (by decide) (by rw [hsz]; omega)
      refine ⟨this.1, ?_⟩
      rw [this.2, hsz]
      simp only [List.length_nil]
      omega
    · rw [if_neg h]
      refine ⟨hst, ?_⟩
      simp only [List.length_append, bytesOf_length]
      omega
def shaS (s : ByteArray) : ByteArray := if 65536 < s.size then ⟨#[]⟩ else hsumS (hashGo (s.size + 1) shaStart [] s).1 (hashGo (s.size + 1) shaStart [] s).2 (strOfNums (padL s.size))
theorem hsumS_size (st p : List Int) (pd : ByteArray) (h : st.length = 8) : (hsumS st p pd).size = 32 := by
  rw [hsumS, strOfNums_size', outW_length, foldW_length _ _ _ h]
theorem shaS_size (s : ByteArray) (h : s.size ≤ 65536) : (shaS s).size = 32 := by
  unfold shaS
  rw [if_neg (by omega)]
  exact hsumS_size _ _ _ (hashGo_spec (s.size + 1) shaStart [] s rfl (by decide) (by omega)).1
end Go.Mine
namespace Go.Mine
open Go Go.RowKit Go.Proofs.YtghhmnjkgnoogaaW.PrintWords Go.Proofs.YtghhmnjkgnoogaaW.PrintLast Go.Proofs.YtghhmnjkgnoogaaW.PrintMore
set_option linter.unusedVariables false
end Go.Mine
namespace Go.Mine
open Go Go.RowKit Go.Proofs.YtghhmnjkgnoogaaW.PrintWords Go.Proofs.YtghhmnjkgnoogaaW.PrintLast Go.Proofs.YtghhmnjkgnoogaaW.PrintMore
set_option linter.unusedVariables false
abbrev Rises (l : List Int) : Prop := l.Pairwise (· < ·)
def upTo (n : Nat) : List Int := (List.range n).map fun (i : Nat) => (i : Int)
theorem upTo_length (n : Nat) : (upTo n).length = n := by simp [upTo]
theorem upTo_mem (n : Nat) (x : Int) : x ∈ upTo n ↔ 0 ≤ x ∧ x < n := by
  simp only [upTo, List.mem_map, List.mem_range]
  constructor
  · rintro ⟨i, hi, rfl⟩
    omega
  · rintro ⟨h1, h2⟩
    exact ⟨x.toNat, by omega, by omega⟩
theorem upTo_rises (n : Nat) : Rises (upTo n) := by
  unfold upTo Rises
  rw [List.pairwise_map]
  refine List.pairwise_lt_range.imp ?_
  intro a b h
  omega
theorem upTo_succ (n : Nat) : upTo (n + 1) = upTo n ++ [(n : Int)] := by simp [upTo, List.range_succ]
theorem sort_rises (l : List Int) (hn : l.Nodup) : Rises (l.mergeSort fun x y => decide (x ≤ y)) := by
  have h1 : (l.mergeSort fun x y => decide (x ≤ y)).Pairwise (fun x y => decide (x ≤ y) = true) := List.pairwise_mergeSort (by
    intro a b c h1 h2
    simp only [decide_eq_true_eq] at *
    omega) (by
    intro a b
    simp only [Bool.or_eq_true, decide_eq_true_eq]
    omega) l
  have h2 : (l.mergeSort fun x y => decide (x ≤ y)).Nodup := (List.mergeSort_perm l _).nodup_iff.2 hn
  refine (h1.and h2).imp ?_
  intro a b ⟨h3, h4⟩
  simp only [decide_eq_true_eq] at h3
  have : a ≠ b := h4
  omega
theorem rises_nodup {l : List Int} (h : Rises l) : l.Nodup := h.imp (fun hab => by omega)
theorem sort_mem (l : List Int) (x : Int) : x ∈ (l.mergeSort fun x y => decide (x ≤ y)) ↔ x ∈ l := (List.mergeSort_perm l _).mem_iff
end Go.Mine
namespace Go.Mine
open Go Go.RowKit Go.Proofs.YtghhmnjkgnoogaaW.PrintWords Go.Proofs.YtghhmnjkgnoogaaW.PrintLast Go.Proofs.YtghhmnjkgnoogaaW.PrintMore
set_option linter.unusedVariables false
def mem (J : Nat → List Int) (n j : Nat) : List Int := (upTo n).filter fun i => (J i.toNat).contains (j : Int)
theorem mem_mem (J : Nat → List Int) (n j : Nat) (x : Int) : x ∈ mem J n j ↔ (0 ≤ x ∧ x < n) ∧ (j : Int) ∈ J x.toNat := by
  unfold mem
  rw [List.mem_filter, upTo_mem, List.contains_iff_mem]
theorem mem_succ (J : Nat → List Int) (n j : Nat) : mem J (n + 1) j = if (j : Int) ∈ J n then mem J n j ++ [(n : Int)] else mem J n j := by
  unfold mem
  rw [upTo_succ, List.filter_append]
  by_cases h : (j : Int) ∈ J n
  · simp [h]
  · simp [h]
theorem mem_zero (J : Nat → List Int) (j : Nat) : mem J 0 j = [] := rfl
theorem mem_length (J : Nat → List Int) (n j : Nat) : (mem J n j).length ≤ n := by
  have := List.length_filter_le (fun i : Int => (J i.toNat).contains (j : Int)) (upTo n)
  rw [upTo_length] at this
  exact this
def tabL (J : Nat → List Int) (n a : Nat) : List (List Int) := (List.range a).map (mem J n)
theorem tabL_length (J : Nat → List Int) (n a : Nat) : (tabL J n a).length = a := by simp [tabL]
theorem tabL_get (J : Nat → List Int) (n a j : Nat) (h : j < a) : (tabL J n a).getD j [] = mem J n j := by simp [tabL, List.getD, h]
def addTo (rows : List (List Int)) : List Int → Int → List (List Int)
  | [], _ => rows
  | x :: T, i => addTo (rows.set x.toNat (rows.getD x.toNat [] ++ [i])) T i
theorem addTo_length (T : List Int) (i : Int) : ∀ rows, (addTo rows T i).length = rows.length := by
  induction T with
  | nil => intro rows; rfl
  | cons x T ih => intro rows; rw [addTo, ih, List.length_set]
theorem addTo_get (T : List Int) (i : Int) : ∀ (rows : List (List Int)) (j : Nat), T.Nodup → (∀ x ∈ T, 0 ≤ x ∧ x < rows.length) → (addTo rows T i).getD j [] = if (j : Int) ∈ T then rows.getD j [] ++ [i] else rows.getD j [] := by
  induction T with
  | nil => intro rows j _ _; simp [addTo]
  | cons x T ih =>
    intro rows j hn hb
    obtain ⟨hx, hT⟩ := List.nodup_cons.1 hn
    have hxb := hb x List.mem_cons_self
    rw [addTo, ih _ j hT (fun y hy => by rw [List.length_set]; exact hb y (List.mem_cons_of_mem _ hy))]
    by_cases hj : (j : Int) = x
    · have hjx : x.toNat = j := by omega
      rw [if_neg (by rw [hj]; exact hx), if_pos (by rw [hj]; exact List.mem_cons_self), hjx, List.getD_eq_getElem?_getD, List.getElem?_set_self (by omega)]
      rfl
    · have hjx : x.toNat ≠ j := by omega
      have e : (rows.set x.toNat (rows.getD x.toNat [] ++ [i])).getD j [] = rows.getD j [] := by
        rw [List.getD_eq_getElem?_getD, List.getElem?_set_ne hjx, ← List.getD_eq_getElem?_getD]
      rw [e]
      simp only [List.mem_cons, hj, false_or]
theorem tab_step (J : Nat → List Int) (n a : Nat) (hn : (J n).Nodup) (hb : ∀ x ∈ J n, 0 ≤ x ∧ x < a) : addTo (tabL J n a) (J n) (n : Int) = tabL J (n + 1) a := by
  apply List.ext_getElem
  · rw [addTo_length, tabL_length, tabL_length]
  · intro j h1 h2
    have hj : j < a := by rw [tabL_length] at h2; exact h2
    have e1 := addTo_get (J n) (n : Int) (tabL J n a) j hn (by rw [tabL_length]; exact hb)
    rw [tabL_get J n a j hj, List.getD_eq_getElem?_getD, List.getElem?_eq_getElem h1, Option.getD_some] at e1
    rw [e1]
    have e2 := tabL_get J (n + 1) a j hj
    rw [List.getD_eq_getElem?_getD, List.getElem?_eq_getElem h2, Option.getD_some] at e2
    rw [e2, mem_succ]
def rulL (J : Nat → List Int) (n a : Nat) : List (List Int) := (List.range a).map fun j => mem J n j ++ [((n + j : Nat) : Int)]
theorem rulL_length (J : Nat → List Int) (n a : Nat) : (rulL J n a).length = a := by simp [rulL]
theorem rulL_get (J : Nat → List Int) (n a j : Nat) (h : j < a) : (rulL J n a).getD j [] = mem J n j ++ [((n + j : Nat) : Int)] := by simp [rulL, List.getD, h]
theorem over_set {α : Type} (A B : List α) (d : α) (hl : A.length = B.length) (t : Nat) (ht : t < B.length) : (A.take t ++ B.drop t).set t (A.getD t d) = A.take (t + 1) ++ B.drop (t + 1) := by
  have h1 : (A.take t).length = t := by rw [List.length_take]; omega
  have h2 : B.drop t = B[t] :: B.drop (t + 1) := List.drop_eq_getElem_cons ht
  have h3 : t < A.length := by omega
  rw [List.set_append_right _ _ (by omega), h1, Nat.sub_self, h2, List.set_cons_zero, List.take_succ_eq_append_getElem h3, List.append_assoc, List.singleton_append, List.getD_eq_getElem?_getD, List.getElem?_eq_getElem h3, Option.getD_some]
theorem over_get {α : Type} (A B : List α) (d : α) (hl : A.length = B.length) (t : Nat) (ht : t < B.length) : (A.take t ++ B.drop t).getD t d = B.getD t d := by
  have h1 : (A.take t).length = t := by rw [List.length_take]; omega
  rw [List.getD_eq_getElem?_getD, List.getD_eq_getElem?_getD, List.getElem?_append_right (by omega), h1, Nat.sub_self, List.getElem?_drop, Nat.add_zero]
end Go.Mine
namespace Go.Mine
open Go Go.RowKit Go.Proofs.YtghhmnjkgnoogaaW.PrintWords Go.Proofs.YtghhmnjkgnoogaaW.PrintLast Go.Proofs.YtghhmnjkgnoogaaW.PrintMore
set_option linter.unusedVariables false
end Go.Mine
namespace Go.Proofs.Ytghhmnjkgnoogaa.POuterHolds
open Go.RowKit Go.Proofs.YtghhmnjkgnoogaaW.PrintWords Go.Proofs.YtghhmnjkgnoogaaW.PrintLast Go.Proofs.YtghhmnjkgnoogaaW.PrintMore Go.Mine
set_option linter.unusedVariables false
set_option linter.unusedSimpArgs false
theorem outer_in.spec (a b c : Int) : outer_in.f a b c = some (decide (b ≤ a ∧ a ≤ c)) := by
  unfold outer_in.f
  by_cases h : a ≥ b
  · rw [if_pos h]
    have : b ≤ a := h
    simp [this]
  · rw [if_neg h]
    have : ¬ b ≤ a := h
    simp [this]
def outer_Check.B (s n a q : Int) : Prop := (0 ≤ s ∧ s ≤ 72057594037927935) ∧ (1 ≤ n ∧ n ≤ 96) ∧ (1 ≤ a ∧ a ≤ 64) ∧ (1 ≤ q ∧ q ≤ 8)
instance (s n a q : Int) : Decidable (outer_Check.B s n a q) := by unfold outer_Check.B; infer_instance
theorem outer_Check.spec (s n a q : Int) : outer_Check.f s n a q = some (decide (outer_Check.B s n a q)) := by
  unfold outer_Check.f outer_Check.B
  simp only [outer_in.spec, Option.bind_some]
  by_cases h1 : 0 ≤ s ∧ s ≤ 72057594037927935
  · by_cases h2 : 1 ≤ n ∧ n ≤ 96
    · by_cases h3 : 1 ≤ a ∧ a ≤ 64
      · simp [h1, h2, h3]
      · simp [h1, h2, h3]
    · simp [h1, h2]
  · simp [h1]
theorem oct_Put.loop (n : Nat) (d : Nat) : ∀ (k : Nat) (xs : List Int), d ≤ 7 → d < k → xs.length + d ≤ 100 → oct_Put.l0 k (n : Int) xs ((d : Int) - 1) = some (strOfNums (xs ++ beL n d), 0) := by
  induction d with
  | zero =>
    intro k xs hd hk hx
    obtain ⟨k, rfl⟩ : ∃ m, k = m + 1 := ⟨k - 1, by omega⟩
    simp only [oct_Put.l0]
    rw [if_neg (by omega)]
    simp [beL]
  | succ d ih =>
    intro k xs hd hk hx
    obtain ⟨k, rfl⟩ : ∃ m, k = m + 1 := ⟨k - 1, by omega⟩
    simp only [oct_Put.l0]
    rw [show ((d + 1 : Nat) : Int) - 1 = (d : Int) by omega, wrap64_id (8 * (d : Int)) (by omega) (by omega), wrap64_id ((d : Int) - 1) (by omega) (by omega), if_pos (by omega), if_pos (by omega), if_pos (by omega)]
    have e : shr .i64 (n : Int) (8 * (d : Int)) % 256 = ((n / 256 ^ d % 256 : Nat) : Int) := by
      unfold shr
      rw [show (8 * (d : Int)).toNat = 8 * d by omega, Nat.min_eq_left (by show 8 * d ≤ 64; omega)]
      have h2 : ((2 : Int) ^ (8 * d)) = ((2 ^ (8 * d) : Nat) : Int) := by simp
      rw [h2, p256_two, ← Int.natCast_ediv]
      generalize n / 256 ^ d = q
      omega
    rw [e, ih k (xs ++ [((n / 256 ^ d % 256 : Nat) : Int)]) (by omega) (by omega) (by simp; omega)]
    simp [beL]
theorem oct_Put.spec (n size : Int) (k : Nat) (hn : -9223372036854775808 ≤ n ∧ n ≤ 9223372036854775807) (hk : 10 ≤ k) : oct_Put.f k n size = some (putR n size) := by
  unfold oct_Put.f putR
  obtain ⟨k, rfl⟩ : ∃ m, k = m + 1 := ⟨k - 1, by omega⟩
  by_cases h1 : size < 1
  · rw [if_pos h1]
    simp only [oct_Put.j0]
    rw [if_pos trivial, if_pos (.inl h1)]
  · rw [if_neg h1]
    simp only [oct_Put.j0]
    by_cases h2 : size > 7
    · rw [if_pos (decide_eq_true h2), if_pos (.inr h2)]
    · rw [if_neg (by simpa using h2), if_neg (show ¬ (size < 1 ∨ 7 < size) by omega)]
      by_cases h3 : n < 0
      · rw [if_pos h3, if_pos (.inl h3)]
      · rw [if_neg h3, wrap64_id (8 * size) (by omega) (by omega), wrap64_id (size - 1) (by omega) (by omega), if_pos (by omega)]
        have e : shr .i64 n (8 * size) = ((n.toNat / 256 ^ size.toNat : Nat) : Int) := by
          unfold shr
          rw [show (8 * size).toNat = 8 * size.toNat by omega, Nat.min_eq_left (by show 8 * size.toNat ≤ 64; omega)]
          have h2 : ((2 : Int) ^ (8 * size.toNat)) = ((2 ^ (8 * size.toNat) : Nat) : Int) := by simp
          rw [h2, p256_two]
          obtain ⟨m, rfl⟩ := Int.eq_ofNat_of_zero_le (show 0 ≤ n by omega)
          rfl
        rw [e]
        have hp := p256_pos size.toNat
        by_cases h4 : n.toNat < 256 ^ size.toNat
        · rw [if_pos (by rw [Nat.div_eq_of_lt h4]; rfl), if_neg (by omega)]
          have := oct_Put.loop n.toNat size.toNat k [] (by omega) (by omega) (by simp; omega)
          rw [show ((n.toNat : Nat) : Int) = n by omega, show ((size.toNat : Nat) : Int) - 1 = size - 1 by omega] at this
          rw [this]
          rfl
        · have h5 : 1 ≤ n.toNat / 256 ^ size.toNat := (Nat.le_div_iff_mul_le hp).2 (by omega)
          rw [if_neg (by omega), if_pos (by omega)]
def outer_seed.str (seed i : Nat) : ByteArray := ((((⟨#[]⟩ : ByteArray) ++ outer_seed.word) ++ numS seed 7) ++ numS i 2)
theorem outer_seed.str_size (seed i : Nat) : (outer_seed.str seed i).size = 14 := by
  unfold outer_seed.str
  rw [ByteArray.size_append, ByteArray.size_append, numS_size, numS_size]
  rfl
theorem outer_seed.spec (seed i : Nat) (n a q : Int) (k : Nat) (hk : 10 ≤ k) (h1 : seed ≤ 72057594037927935) (h2 : i ≤ 65535) : outer_seed.f k (seed : Int) n a q (i : Int) = some (outer_seed.str seed i) := by
  unfold outer_seed.f
  have hput : putR (seed : Int) 7 = (numS seed 7, 0) := by
    unfold putR
    rw [if_neg (by omega), if_neg (by
      rw [show ((256 ^ (7 : Int).toNat : Nat) : Int) = 72057594037927936 from rfl]
      omega)]
    rfl
  have hput2 : putR (i : Int) 2 = (numS i 2, 0) := by
    unfold putR
    rw [if_neg (by omega), if_neg (by
      rw [show ((256 ^ (2 : Int).toNat : Nat) : Int) = 65536 from rfl]
      omega)]
    rfl
  rw [oct_Put.spec _ _ _ (by omega) hk, hput, Option.bind_some, oct_Put.spec _ _ _ (by omega) hk, hput2, Option.bind_some, if_pos ⟨rfl, rfl, by rw [numS_size]; omega, by rw [numS_size]; omega⟩]
  rfl
theorem sha_Pad.loop (n : Nat) (hn : n ≤ 65536) (d : Nat) : ∀ (k : Nat) (xs : List Int), d ≤ 8 → d < k → xs.length + d ≤ 1000 → sha_Pad.l0 k (n : Int) xs (8 * (d : Int) - 8) = some (strOfNums (xs ++ tailB n d)) := by
  induction d with
  | zero =>
    intro k xs hd hk hx
    obtain ⟨k, rfl⟩ : ∃ m, k = m + 1 := ⟨k - 1, by omega⟩
    rw [sha_Pad.l0, if_neg (by omega)]
    simp [tailB]
  | succ d ih =>
    intro k xs hd hk hx
    obtain ⟨k, rfl⟩ : ∃ m, k = m + 1 := ⟨k - 1, by omega⟩
    rw [sha_Pad.l0, if_pos (by omega), if_pos (by omega), if_pos (by omega)]
    have e0 : (8 * ((d + 1 : Nat) : Int) - 8) = 8 * (d : Int) := by omega
    rw [e0, wrap64_id _ (by omega) (by omega)]
    have e1 : IntKind.u64.wrap (n : Int) = (n : Int) := by
      unfold IntKind.wrap
      simp [IntKind.signed, IntKind.bits]
      omega
    have e2 : IntKind.u64.wrap ((n : Int) * 8) = ((8 * n : Nat) : Int) := by
      unfold IntKind.wrap
      simp [IntKind.signed, IntKind.bits]
      omega
    have e3 : shr .u64 ((8 * n : Nat) : Int) (8 * (d : Int)) = ((8 * n : Nat) : Int) / 2 ^ (8 * d) := by
      unfold shr
      rw [show (8 * (d : Int)).toNat = 8 * d by omega, Nat.min_eq_left (by simp [IntKind.bits]; omega)]
    rw [e1, e2, e3, ih k (xs ++ [((8 * n : Nat) : Int) / 2 ^ (8 * d) % 256]) (by omega) (by omega) (by rw [List.length_append]; simp; omega), List.append_assoc]
    rfl
theorem sha_Pad.spec (n : Nat) (k : Nat) (hn : n ≤ 65536) (hk : 10 ≤ k) : sha_Pad.f k (n : Int) = some (strOfNums (padL n)) := by
  obtain ⟨k, rfl⟩ : ∃ m, k = m + 1 := ⟨k - 1, by omega⟩
  unfold sha_Pad.f
  rw [if_neg (by omega), sha_Pad.j0, if_neg (by simp only [decide_eq_true_eq]; omega), Option.bind_some]
  have e1 : Int.tmod (n : Int) 64 = ((n % 64 : Nat) : Int) := by rw [Int.tmod_eq_emod_of_nonneg (by omega)]; omega
  have e2 : wrap64 (119 - ((n % 64 : Nat) : Int)) = ((119 - n % 64 : Nat) : Int) := by rw [wrap64_id _ (by omega) (by omega)]; omega
  have e3 : Int.tmod ((119 - n % 64 : Nat) : Int) 64 = (((119 - n % 64) % 64 : Nat) : Int) := by rw [Int.tmod_eq_emod_of_nonneg (by omega)]; omega
  rw [e1, e2, e3, if_pos (by omega), Int.toNat_natCast, if_pos (by simp only [List.length_singleton]; omega)]
  have h := sha_Pad.loop n hn 8 k ([128] ++ List.replicate ((119 - n % 64) % 64) 0) (by omega) (by omega) (by rw [List.length_append, List.length_replicate, List.length_singleton]; omega)
  exact h
theorem sha_Sum.spec (s : ByteArray) (k : Nat) (hk : 10 ≤ k) : sha_Sum.f k s = some (shaS s) := by
  unfold sha_Sum.f shaS
  by_cases h : 65536 < s.size
  · rw [if_pos h, if_pos h]
  rw [if_neg h, if_neg h, sha_Pad.spec s.size k (by omega) hk, Option.bind_some]
  have hp := (hashGo_spec (s.size + 1) shaStart [] s rfl (by decide) (by omega)).2
  have hl := padL_length s.size
  simp only [List.length_nil, Nat.zero_add] at hp
  rw [if_pos]
  · rfl
  · refine ⟨by rw [strOfNums_size']; omega, ?_⟩
    show ((hashGo (s.size + 1) shaStart [] s).2 ++ bytesOf (strOfNums (padL s.size))).length % 64 = 0
    rw [List.length_append, bytesOf_length, strOfNums_size', hp]
    have := padL_mod s.size
    omega
def prng_Block.msg (s : ByteArray) (n : Nat) : ByteArray := (((⟨#[2]⟩ : ByteArray) ++ strOfNums [(s.size : Int) % 256]) ++ s) ++ numS n 7
theorem prng_Block.msg_size (s : ByteArray) (n : Nat) : (prng_Block.msg s n).size = s.size + 9 := by
  unfold prng_Block.msg
  rw [ByteArray.size_append, ByteArray.size_append, ByteArray.size_append, numS_size, strOfNums_size']
  simp only [List.length_singleton]
  have : (⟨#[2]⟩ : ByteArray).size = 1 := rfl
  omega
theorem prng_Block.spec (s : ByteArray) (n : Nat) (k : Nat) (hs : s.size ≤ 64) (hn : n ≤ 72057594037927935) (hk : 10 ≤ k) : prng_Block.f k s (n : Int) = some (shaS (prng_Block.msg s n)) := by
  unfold prng_Block.f
  have hput : putR (n : Int) 7 = (numS n 7, 0) := by
    unfold putR
    rw [if_neg (by omega), if_neg (by
      rw [show ((256 ^ (7 : Int).toNat : Nat) : Int) = 72057594037927936 from rfl]
      omega)]
    rfl
  have h1 : (⟨#[2]⟩ : ByteArray).size = 1 := rfl
  have hz := numS_size n 7
  rw [oct_Put.spec _ _ _ (by omega) hk, hput, Option.bind_some]
  simp only
  rw [if_pos trivial, if_neg (by omega), Option.bind_some, if_pos (by rw [strOfNums_size']; simp), if_pos (by rw [ByteArray.size_append, strOfNums_size']; simp only [List.length_singleton]; omega), if_pos (by rw [ByteArray.size_append, ByteArray.size_append, strOfNums_size']; simp only [List.length_singleton]; omega), sha_Sum.spec _ _ hk, Option.bind_some]
  rfl
theorem oct_Get.go_spec (l : List UInt8) : ∀ (a j : Nat), a < 256 ^ j → j + l.length ≤ 7 → oct_Get.go l (a : Int) = ((valL l a : Nat) : Int) := by
  induction l with
  | nil => intro a j _ _; rw [oct_Get.go_nil, valL_nil]
  | cons c l ih =>
    intro a j ha hj
    have hc := c.toNat_lt
    rw [List.length_cons] at hj
    have h7 := p256_le7 (j + 1) (by omega)
    have h1 : 256 * a + c.toNat < 256 ^ (j + 1) := by rw [p256_succ]; omega
    have h2 := ih _ (j + 1) h1 (by omega)
    have h3 := get_step a c.toNat hc (Nat.lt_of_lt_of_le h1 h7)
    rw [oct_Get.go_cons, valL_cons, h3, h2]
theorem oct_Get.spec (s : ByteArray) : oct_Get.f s = some (getR s) := by
  unfold oct_Get.f getR
  by_cases h : s.size > 7
  · rw [if_pos h, if_pos h]
  · rw [if_neg h, if_neg h]
    have := oct_Get.go_spec s.data.toList 0 0 (by decide) (by rw [len_data]; omega)
    rw [show ((0 : Nat) : Int) = 0 from rfl] at this
    rw [this]
def prng_Gen_Word.Ok (s0 : ByteArray) (s1 : Int) (s2 : ByteArray) : Prop := s0.size ≤ 64 ∧ 0 ≤ s1 ∧ s1 ≤ 1000000000 ∧ (s1.toNat % 8 ≠ 0 → s2.size = 32)
def prng_Gen_Word.blk (s0 : ByteArray) (s1 : Int) (s2 : ByteArray) : ByteArray := if s1.toNat % 8 = 0 then shaS (prng_Block.msg s0 (s1.toNat / 8)) else s2
def prng_Gen_Word.val (s0 : ByteArray) (s1 : Int) (s2 : ByteArray) : Int := getR ((prng_Gen_Word.blk s0 s1 s2).extract (4 * (s1.toNat % 8)) (4 * (s1.toNat % 8) + 4)) % 4294967296
theorem prng_Gen_Word.blk_size {s0 : ByteArray} {s1 : Int} {s2 : ByteArray} (h : prng_Gen_Word.Ok s0 s1 s2) : (prng_Gen_Word.blk s0 s1 s2).size = 32 := by
  obtain ⟨h0, h1, h2, h3⟩ := h
  unfold prng_Gen_Word.blk
  split
  · exact shaS_size _ (by rw [prng_Block.msg_size]; omega)
  · rename_i hh
    exact h3 hh
theorem prng_Gen_Word.next {s0 : ByteArray} {s1 : Int} {s2 : ByteArray} (h : prng_Gen_Word.Ok s0 s1 s2) (hb : s1 < 1000000000) : prng_Gen_Word.Ok s0 (s1 + 1) (prng_Gen_Word.blk s0 s1 s2) :=
  ⟨h.1, by have := h.2.1; omega, by omega, fun _ => prng_Gen_Word.blk_size h⟩
theorem prng_Gen_Word.range (s0 : ByteArray) (s1 : Int) (s2 : ByteArray) : 0 ≤ prng_Gen_Word.val s0 s1 s2 ∧ prng_Gen_Word.val s0 s1 s2 < 4294967296 := by
  unfold prng_Gen_Word.val
  omega
theorem prng_Gen_Word.spec {s0 : ByteArray} {s1 : Int} {s2 : ByteArray} (k : Nat) (hk : 10 ≤ k) (h : prng_Gen_Word.Ok s0 s1 s2) : prng_Gen_Word.f k s0 s1 s2 = some (prng_Gen_Word.val s0 s1 s2, s0, s1 + 1, prng_Gen_Word.blk s0 s1 s2) := by
  have hz := prng_Gen_Word.blk_size h
  obtain ⟨h0, h1, h2, h3⟩ := h
  unfold prng_Gen_Word.f
  rw [if_pos ⟨h1, by omega⟩]
  have hl : ∀ b : ByteArray, b.size = 32 → prng_Gen_Word.last k s0 s1 b = some (getR (b.extract (4 * (s1.toNat % 8)) (4 * (s1.toNat % 8) + 4)) % 4294967296, s0, s1 + 1, b) := by
    intro b hb
    unfold prng_Gen_Word.last
    rw [if_pos (by omega), oct_Get.spec, Option.bind_some]
  unfold prng_Gen_Word.val
  unfold prng_Gen_Word.blk at hz ⊢
  by_cases hm : s1.toNat % 8 = 0
  · rw [if_pos hm] at hz ⊢
    have e : s1 / 8 = ((s1.toNat / 8 : Nat) : Int) := by omega
    rw [if_pos hm, e, prng_Block.spec _ _ _ h0 (by omega) hk, Option.bind_some, hl _ hz]
  · rw [if_neg hm] at hz ⊢
    rw [if_neg hm, hl _ hz]
def prng_Gen_Below.run (n : Int) : Nat → Int → ByteArray → Int → ByteArray → Int × ByteArray × Int × ByteArray
  | 0, w, s0, s1, s2 => (w % n, s0, s1, s2)
  | d + 1, _, s0, s1, s2 => if prng_Gen_Word.val s0 s1 s2 < 4294967296 - 4294967296 % n then (prng_Gen_Word.val s0 s1 s2 % n, s0, s1 + 1, prng_Gen_Word.blk s0 s1 s2)
      else prng_Gen_Below.run n d (prng_Gen_Word.val s0 s1 s2) s0 (s1 + 1) (prng_Gen_Word.blk s0 s1 s2)
theorem prng_Gen_Below.loop (n : Int) (h1 : 1 ≤ n) (h2 : n ≤ 2147483647) (d : Nat) : ∀ (k : Nat) (w : Int) (s0 : ByteArray) (s1 : Int) (s2 : ByteArray), d ≤ 8 → d + 10 < k → 0 ≤ w → prng_Gen_Word.Ok s0 s1 s2 → s1 + (d : Int) ≤ 999999100 →
    prng_Gen_Below.l0 k n w (8 - (d : Int)) s0 s1 s2 = some (prng_Gen_Below.run n d w s0 s1 s2) := by
  induction d with
  | zero =>
    intro k w s0 s1 s2 hd hk hw hok hs
    obtain ⟨k, rfl⟩ : ∃ m, k = m + 1 := ⟨k - 1, by omega⟩
    rw [prng_Gen_Below.l0, if_neg (by omega), if_neg (by omega), Int.tmod_eq_emod_of_nonneg hw]
    rfl
  | succ d ih =>
    intro k w s0 s1 s2 hd hk hw hok hs
    obtain ⟨k, rfl⟩ : ∃ m, k = m + 1 := ⟨k - 1, by omega⟩
    have hr := prng_Gen_Word.range s0 s1 s2
    rw [prng_Gen_Below.l0, if_pos (by omega), prng_Gen_Word.spec k (by omega) hok, Option.bind_some]
    have hb : prng_bound.f n = some (4294967296 - 4294967296 % n) := by
      unfold prng_bound.f
      have := Int.emod_nonneg 4294967296 (show n ≠ 0 by omega)
      have := Int.emod_lt_of_pos 4294967296 (show 0 < n by omega)
      rw [if_neg (by omega), wrap64_id _ (by omega) (by omega)]
    rw [hb, Option.bind_some]
    simp only
    rw [wrap64_id _ (by omega) (by omega), prng_Gen_Below.run]
    by_cases hc : prng_Gen_Word.val s0 s1 s2 < 4294967296 - 4294967296 % n
    · rw [if_pos hc, if_pos hc, if_neg (by omega), Int.tmod_eq_emod_of_nonneg hr.1]
    · have e : (8 : Int) - ((d + 1 : Nat) : Int) + 1 = 8 - (d : Int) := by omega
      rw [if_neg hc, if_neg hc, e, wrap64_id (8 - (d : Int)) (by omega) (by omega)]
      exact ih k _ s0 (s1 + 1) _ (by omega) (by omega) hr.1 (prng_Gen_Word.next hok (by omega)) (by omega)
theorem prng_Gen_Below.run_ok (n : Int) (h1 : 1 ≤ n) (d : Nat) : ∀ (w : Int) (s0 : ByteArray) (s1 : Int) (s2 : ByteArray), prng_Gen_Word.Ok s0 s1 s2 → s1 + d ≤ 1000000000 →
    (0 ≤ (prng_Gen_Below.run n d w s0 s1 s2).1 ∧ (prng_Gen_Below.run n d w s0 s1 s2).1 < n) ∧ prng_Gen_Word.Ok (prng_Gen_Below.run n d w s0 s1 s2).2.1 (prng_Gen_Below.run n d w s0 s1 s2).2.2.1 (prng_Gen_Below.run n d w s0 s1 s2).2.2.2 ∧ (prng_Gen_Below.run n d w s0 s1 s2).2.2.1 ≤ s1 + d := by
  induction d with
  | zero =>
    intro w s0 s1 s2 hok hs
    exact ⟨⟨Int.emod_nonneg _ (by omega), Int.emod_lt_of_pos _ (by omega)⟩, hok, by simp [prng_Gen_Below.run]⟩
  | succ d ih =>
    intro w s0 s1 s2 hok hs
    rw [prng_Gen_Below.run]
    split
    · exact ⟨⟨Int.emod_nonneg _ (by omega), Int.emod_lt_of_pos _ (by omega)⟩, prng_Gen_Word.next hok (by omega), by simp only; omega⟩
    · have h := ih (prng_Gen_Word.val s0 s1 s2) s0 (s1 + 1) (prng_Gen_Word.blk s0 s1 s2) (prng_Gen_Word.next hok (by omega)) (by omega)
      exact ⟨h.1, h.2.1, by have := h.2.2; omega⟩
theorem prng_Gen_Below.spec (n : Int) (h1 : 1 ≤ n) (h2 : n ≤ 2147483647) (k : Nat) (hk : 30 ≤ k) (s0 : ByteArray) (s1 : Int) (s2 : ByteArray) (hok : prng_Gen_Word.Ok s0 s1 s2) (hs : s1 ≤ 999999000) : prng_Gen_Below.f k s0 s1 s2 n = some (prng_Gen_Below.run n 8 0 s0 s1 s2) := by
  unfold prng_Gen_Below.f prng_may.f
  rw [if_pos (by omega), Option.bind_some, if_pos (by simp; omega)]
  exact prng_Gen_Below.loop n h1 h2 8 k 0 s0 s1 s2 (by omega) (by omega) (by omega) hok (by omega)
def prng_Gen_Pick.run (n : Nat) : Nat → Nat → List Int → ByteArray → Int → ByteArray → List Int × ByteArray × Int × ByteArray
  | 0, _, l, s0, s1, s2 => (l, s0, s1, s2)
  | d + 1, i, l, s0, s1, s2 => prng_Gen_Pick.run n d (i + 1) (prng_Gen_Pick.swap l i (i + (prng_Gen_Below.run ((n : Int) - (i : Int)) 8 0 s0 s1 s2).1.toNat)) (prng_Gen_Below.run ((n : Int) - (i : Int)) 8 0 s0 s1 s2).2.1 (prng_Gen_Below.run ((n : Int) - (i : Int)) 8 0 s0 s1 s2).2.2.1 (prng_Gen_Below.run ((n : Int) - (i : Int)) 8 0 s0 s1 s2).2.2.2
theorem prng_Gen_Pick.swap_perm (l : List Int) (i j : Nat) (hi : i < l.length) (hj : j < l.length) : (prng_Gen_Pick.swap l i j).Perm l := by
  unfold prng_Gen_Pick.swap
  rw [List.getD_eq_getElem?_getD, List.getD_eq_getElem?_getD, List.getElem?_eq_getElem hi, List.getElem?_eq_getElem hj]
  exact List.set_set_perm hi hj
theorem prng_Gen_Pick.go_spec (k n : Nat) (hk : 30 ≤ k) (hn : n ≤ 4096) (d : Nat) : ∀ (i : Nat) (l : List Int) (s0 : ByteArray) (s1 : Int) (s2 : ByteArray), i + d ≤ n → l.length = n → prng_Gen_Word.Ok s0 s1 s2 → s1 + 8 * d ≤ 999999000 →
    prng_Gen_Pick.go k n d i l s0 s1 s2 = some (prng_Gen_Pick.run n d i l s0 s1 s2) ∧ (prng_Gen_Pick.run n d i l s0 s1 s2).1.Perm l := by
  induction d with
  | zero => intro i l s0 s1 s2 _ _ _ _; exact ⟨rfl, List.Perm.refl _⟩
  | succ d ih =>
    intro i l s0 s1 s2 hi hl hok hs
    rw [prng_Gen_Pick.go, prng_Gen_Below.spec _ (by omega) (by omega) k hk s0 s1 s2 hok (by omega), Option.bind_some]
    obtain ⟨⟨h1, h2⟩, h3, h4⟩ := prng_Gen_Below.run_ok ((n : Int) - (i : Int)) (by omega) 8 0 s0 s1 s2 hok (by omega)
    rw [if_pos ⟨h1, h2⟩, prng_Gen_Pick.run]
    obtain ⟨h5, h6⟩ := ih (i + 1) (prng_Gen_Pick.swap l i (i + (prng_Gen_Below.run ((n : Int) - (i : Int)) 8 0 s0 s1 s2).1.toNat)) _ _ _ (by omega) (by rw [prng_Gen_Pick.swap_length]; exact hl) h3 (by omega)
    exact ⟨h5, h6.trans (prng_Gen_Pick.swap_perm l _ _ (by omega) (by omega))⟩
def outer_joins.J (seed a q i : Nat) : List Int := outer_joins.sort ((prng_Gen_Pick.run a (min q a) 0 (upTo a) (outer_seed.str seed i) 0 ⟨#[]⟩).1.take (min q a))
theorem outer_joins.spec (seed a q i : Nat) (n : Int) (k : Nat) (hk : 30 ≤ k) (h1 : seed ≤ 72057594037927935) (h2 : i ≤ 65535) (ha : a ≤ 4096) (hq : q ≤ 4096) : outer_joins.f k (seed : Int) n (a : Int) (q : Int) (i : Int) = some (outer_joins.J seed a q i) := by
  unfold outer_joins.f
  rw [if_pos ⟨by omega, by omega, by omega, by omega⟩, outer_seed.spec seed i n a q k (by omega) h1 h2, Option.bind_some, if_pos (by rw [outer_seed.str_size]; omega), Int.toNat_natCast, Int.toNat_natCast]
  have hok : prng_Gen_Word.Ok (outer_seed.str seed i) 0 ⟨#[]⟩ := ⟨by rw [outer_seed.str_size]; omega, by omega, by omega, fun h => absurd rfl h⟩
  rw [(prng_Gen_Pick.go_spec k a hk ha (min q a) 0 (prng_Gen_Pick.iota a) _ 0 _ (by omega) (prng_Gen_Pick.iota_length a) hok (by omega)).1, Option.bind_some]
  rfl
theorem outer_joins.perm (seed a q i : Nat) (ha : a ≤ 4096) : (prng_Gen_Pick.run a (min q a) 0 (upTo a) (outer_seed.str seed i) 0 ⟨#[]⟩).1.Perm (upTo a) := by
  have hok : prng_Gen_Word.Ok (outer_seed.str seed i) 0 ⟨#[]⟩ := ⟨by rw [outer_seed.str_size]; omega, by omega, by omega, fun h => absurd rfl h⟩
  exact (prng_Gen_Pick.go_spec 30 a (by omega) ha (min q a) 0 (upTo a) _ 0 _ (by omega) (upTo_length a) hok (by omega)).2
theorem outer_joins.length (seed a q i : Nat) (ha : a ≤ 4096) : (outer_joins.J seed a q i).length = min q a := by
  have h := (outer_joins.perm seed a q i ha).length_eq
  rw [upTo_length] at h
  unfold outer_joins.J outer_joins.sort
  rw [List.length_mergeSort, List.length_take, h]
  omega
theorem outer_joins.rises (seed a q i : Nat) (ha : a ≤ 4096) : Rises (outer_joins.J seed a q i) :=
  sort_rises _ (((outer_joins.perm seed a q i ha).nodup_iff.2 (rises_nodup (upTo_rises a))).sublist (List.take_sublist _ _))
theorem outer_joins.range (seed a q i : Nat) (ha : a ≤ 4096) (x : Int) (hx : x ∈ outer_joins.J seed a q i) : 0 ≤ x ∧ x < a := by
  have h1 := List.mem_of_mem_take ((sort_mem _ x).1 hx)
  exact (upTo_mem a x).1 ((outer_joins.perm seed a q i ha).mem_iff.1 h1)
theorem outer_members.inner (T : List Int) (i : Nat) (hi : i ≤ 1000000) (nn p0 p1 p2 p3 : Int) (m : Nat) : ∀ (t : Nat) (rows : List (List Int)) (k : Nat), t + m = T.length → T.length ≤ 100000 → (∀ x ∈ T, 0 ≤ x ∧ x < rows.length) → (∀ j, (rows.getD j []).length + m ≤ 1000000) →
    outer_members.l1 (k + m + 1) rows (i : Int) nn (i : Int) T (T.length : Int) (t : Int) p0 p1 p2 p3 = outer_members.l0 k (addTo rows (T.drop t) (i : Int)) nn ((i + 1 : Nat) : Int) p0 p1 p2 p3 := by
  induction m with
  | zero =>
    intro t rows k ht hT hb hl
    rw [outer_members.l1, if_neg (by omega), List.drop_of_length_le (by omega), addTo, wrap64_id _ (by omega) (by omega)]
    rfl
  | succ m ih =>
    intro t rows k ht hT hb hl
    have htl : t < T.length := by omega
    have hr : rd T (t : Int) = T[t] := by simp [rd, htl]
    have hm := hb _ (List.getElem_mem htl)
    rw [show k + (m + 1) + 1 = (k + m + 1) + 1 by omega, outer_members.l1, if_pos (by omega), if_pos (by omega), if_pos (by omega), hr, if_pos hm.1, if_pos hm.2, if_pos (by have := hl (T[t]).toNat; unfold rd_L3; omega), wrap64_id _ (by omega) (by omega)]
    have e : ((t : Int) + 1) = ((t + 1 : Nat) : Int) := by omega
    rw [e, ih (t + 1) _ k (by omega) hT (fun x hx => by rw [List.length_set]; exact hb x hx) (fun j => by
      rw [List.getD_eq_getElem?_getD]
      by_cases hj : (T[t]).toNat = j
      · rw [hj, List.getElem?_set_self (by omega), Option.getD_some, List.length_append]
        have h1 := hl j
        have h2 : (rd_L3 rows (T[t])).length = (rows.getD j []).length := by unfold rd_L3; rw [hj]
        rw [h2]
        simp only [List.length_singleton]
        omega
      · rw [List.getElem?_set_ne hj, ← List.getD_eq_getElem?_getD]
        have h1 := hl j
        omega)]
    rw [List.drop_eq_getElem_cons htl, addTo]
    rfl
theorem outer_members.outer (seed a q : Nat) (h1 : seed ≤ 72057594037927935) (n : Nat) (hn : n ≤ 96) (ha : a ≤ 64) (hq : q ≤ 8) (d : Nat) : ∀ (i k : Nat), i + d = n → 100 + d * 12 ≤ k →
    outer_members.l0 k (tabL (outer_joins.J seed a q) i a) (n : Int) (i : Int) (seed : Int) (n : Int) (a : Int) (q : Int) = some (tabL (outer_joins.J seed a q) n a) := by
  induction d with
  | zero =>
    intro i k hi hk
    obtain ⟨k, rfl⟩ : ∃ m, k = m + 1 := ⟨k - 1, by omega⟩
    obtain rfl : i = n := by omega
    rw [outer_members.l0, if_neg (by omega)]
  | succ d ih =>
    intro i k hi hk
    have hlen := outer_joins.length seed a q i (by omega)
    obtain ⟨k, rfl⟩ : ∃ m, k = m + (outer_joins.J seed a q i).length + 1 + 1 := ⟨k - 2 - (outer_joins.J seed a q i).length, by omega⟩
    rw [outer_members.l0, if_pos (by omega), outer_joins.spec seed a q i _ _ (by omega) h1 (by omega) (by omega) (by omega), Option.bind_some]
    have h := outer_members.inner (outer_joins.J seed a q i) i (by omega) (n : Int) (seed : Int) (n : Int) (a : Int) (q : Int) (outer_joins.J seed a q i).length 0 (tabL (outer_joins.J seed a q) i a) k (by omega) (by omega) (fun x hx => by rw [tabL_length]; exact outer_joins.range seed a q i (by omega) x hx) (fun j => by
      by_cases hj : j < a
      · rw [tabL_get _ _ _ _ hj]
        have := mem_length (outer_joins.J seed a q) i j
        omega
      · rw [List.getD_eq_getElem?_getD, List.getElem?_eq_none (by rw [tabL_length]; omega)]
        simp only [Option.getD_none, List.length_nil]
        omega)
    rw [List.drop_zero, tab_step _ _ _ (rises_nodup (outer_joins.rises seed a q i (by omega))) (outer_joins.range seed a q i (by omega))] at h
    refine Eq.trans h ?_
    exact ih (i + 1) k (by omega) (by omega)
theorem outer_members.spec (seed a q n : Nat) (h1 : seed ≤ 72057594037927935) (hn : n ≤ 96) (ha : a ≤ 64) (hq : q ≤ 8) (k : Nat) (hk : 2000 ≤ k) : outer_members.f k (seed : Int) (n : Int) (a : Int) (q : Int) = some (tabL (outer_joins.J seed a q) n a) := by
  unfold outer_members.f
  rw [if_pos (by omega), Int.toNat_natCast, if_pos (by omega)]
  have e : List.replicate a [] = tabL (outer_joins.J seed a q) 0 a := by
    apply List.ext_getElem
    · simp [tabL_length]
    · intro j h2 h3
      simp [tabL, mem_zero]
  rw [e]
  exact outer_members.outer seed a q h1 n hn ha hq n 0 k (by omega) (by omega)
theorem outer_rules.loop (J : Nat → List Int) (n a : Nat) (hn : n ≤ 96) (ha : a ≤ 64) (p0 p2 p3 : Int) (d : Nat) : ∀ (t k : Nat), t + d = a → d < k →
    outer_rules.l0 k ((rulL J n a).take t ++ (tabL J n a).drop t) (a : Int) (t : Int) p0 (n : Int) p2 p3 = some (rulL J n a) := by
  induction d with
  | zero =>
    intro t k ht hk
    obtain ⟨k, rfl⟩ : ∃ m, k = m + 1 := ⟨k - 1, by omega⟩
    obtain rfl : t = a := by omega
    rw [outer_rules.l0, if_neg (by omega), List.take_of_length_le (by rw [rulL_length]; omega), List.drop_of_length_le (by rw [tabL_length]; omega), List.append_nil]
  | succ d ih =>
    intro t k ht hk
    obtain ⟨k, rfl⟩ : ∃ m, k = m + 1 := ⟨k - 1, by omega⟩
    have hl : (rulL J n a).length = (tabL J n a).length := by rw [rulL_length, tabL_length]
    have hta : t < (tabL J n a).length := by rw [tabL_length]; omega
    have hg : rd_L3 ((rulL J n a).take t ++ (tabL J n a).drop t) (t : Int) = mem J n t := by
      unfold rd_L3
      rw [Int.toNat_natCast, over_get _ _ _ hl t hta, tabL_get _ _ _ _ (by omega)]
    have hm := mem_length J n t
    rw [outer_rules.l0, if_pos (by omega), if_pos (by omega), if_pos (by rw [List.length_append, List.length_take, List.length_drop, rulL_length, tabL_length]; omega), hg, if_pos (by omega), wrap64_id ((n : Int) + (t : Int)) (by omega) (by omega), wrap64_id _ (by omega) (by omega), Int.toNat_natCast]
    have e : mem J n t ++ [(n : Int) + (t : Int)] = (rulL J n a).getD t [] := by rw [rulL_get _ _ _ _ (by omega)]; simp
    rw [e, over_set _ _ _ hl t hta, show ((t : Int) + 1) = ((t + 1 : Nat) : Int) by omega]
    exact ih (t + 1) k (by omega) (by omega)
theorem outer_rules.spec (seed a q n : Nat) (h1 : seed ≤ 72057594037927935) (hn : n ≤ 96) (ha : a ≤ 64) (hq : q ≤ 8) (k : Nat) (hk : 2000 ≤ k) : outer_rules.f k (seed : Int) (n : Int) (a : Int) (q : Int) = some (rulL (outer_joins.J seed a q) n a) := by
  unfold outer_rules.f
  rw [outer_members.spec seed a q n h1 hn ha hq k hk, Option.bind_some, tabL_length]
  have h := outer_rules.loop (outer_joins.J seed a q) n a hn ha (seed : Int) (a : Int) (q : Int) a 0 k (by omega) (by omega)
  rw [List.take_zero, List.nil_append, List.drop_zero] at h
  exact h
theorem rulL_in (J : Nat → List Int) (n a : Nat) (r : List Int) (h : r ∈ rulL J n a) : r.length ≤ n + 1 ∧ ∀ x ∈ r, 0 ≤ x ∧ x < ((n + a : Nat) : Int) := by
  obtain ⟨j, hj, rfl⟩ := List.mem_map.1 h
  have hj := List.mem_range.1 hj
  have := mem_length J n j
  refine ⟨by rw [List.length_append, List.length_singleton]; omega, fun x hx => ?_⟩
  rcases List.mem_append.1 hx with hx | hx
  · have := ((mem_mem J n j x).1 hx).1
    omega
  · rw [List.mem_singleton] at hx
    omega
theorem outer_Rules.spec (s n a q : Int) (k : Nat) (hk : 2000 ≤ k) : outer_Rules.f k s n a q = some (if outer_Check.B s n a q then (rulL (outer_joins.J s.toNat a.toNat q.toNat) n.toNat a.toNat, 0) else ([], 1)) := by
  unfold outer_Rules.f
  rw [outer_Check.spec, Option.bind_some]
  by_cases h : outer_Check.B s n a q
  · rw [if_pos h, if_pos (decide_eq_true h)]
    obtain ⟨h1, h2, h3, h4⟩ := h
    have e := outer_rules.spec s.toNat a.toNat q.toNat n.toNat (by omega) (by omega) (by omega) (by omega) k hk
    rw [Int.toNat_of_nonneg h1.1, Int.toNat_of_nonneg (by omega : 0 ≤ n), Int.toNat_of_nonneg (by omega : 0 ≤ a), Int.toNat_of_nonneg (by omega : 0 ≤ q)] at e
    rw [e, Option.bind_some]
  · rw [if_neg h, if_neg (by simp [h])]
theorem block_may.spec (z : Int) : block_may.f z = some (decide (1 ≤ z ∧ z ≤ 64)) := by
  unfold block_may.f
  by_cases h : z ≥ 1
  · rw [if_pos h]
    congr 1
    rw [Bool.eq_iff_iff, decide_eq_true_iff, decide_eq_true_iff]
    omega
  · rw [if_neg h]
    congr 1
    rw [eq_comm, decide_eq_false_iff_not]
    omega
theorem block_Is.spec (s : ByteArray) (z : Int) : block_Is.f s z = some (decide (1 ≤ z ∧ z ≤ 64) && ((s.size : Int) == z)) := by
  unfold block_Is.f
  rw [block_may.spec, Option.bind_some]
  cases decide (1 ≤ z ∧ z ≤ 64) <;> rfl
def outer_sized.B (l : List ByteArray) : Bool := if l.length = 0 then false else !(l.any fun x => !(outer_sized.okB x ((l.getD 0 ByteArray.empty).size : Int)))
theorem outer_sized.spec (l : List ByteArray) : outer_sized.f l = some (outer_sized.B l) := by
  unfold outer_sized.f outer_sized.B
  split <;> rfl
theorem outer_sized.iff (l : List ByteArray) : outer_sized.B l = true ↔ 0 < l.length ∧ ∀ x ∈ l, x.size = (l.getD 0 ByteArray.empty).size ∧ 1 ≤ x.size ∧ x.size ≤ 64 := by
  unfold outer_sized.B
  by_cases h : l.length = 0
  · rw [if_pos h]
    simp [h]
  · rw [if_neg h]
    rw [Bool.not_eq_true', List.any_eq_false]
    constructor
    · intro h2
      refine ⟨by omega, fun x hx => ?_⟩
      have h3 : outer_sized.okB x ((l.getD 0 ByteArray.empty).size : Int) = true := by
        have h4 := h2 x hx
        cases h5 : outer_sized.okB x ((l.getD 0 ByteArray.empty).size : Int)
        · rw [h5] at h4; exact absurd rfl h4
        · rfl
      unfold outer_sized.okB at h3
      rw [Bool.and_eq_true, Bool.and_eq_true, decide_eq_true_eq, decide_eq_true_eq, beq_iff_eq] at h3
      omega
    · rintro ⟨_, h2⟩ x hx
      have h3 := h2 x hx
      have h4 : outer_sized.okB x ((l.getD 0 ByteArray.empty).size : Int) = true := by
        unfold outer_sized.okB
        rw [Bool.and_eq_true, Bool.and_eq_true, decide_eq_true_eq, decide_eq_true_eq, beq_iff_eq]
        omega
      rw [h4]
      decide
theorem outer_sized.zero (l : List ByteArray) (h : outer_sized.B l = true) : 0 < l.length ∧ (1 ≤ (l.getD 0 ByteArray.empty).size ∧ (l.getD 0 ByteArray.empty).size ≤ 64) ∧ ∀ x ∈ l, x.size = (l.getD 0 ByteArray.empty).size := by
  obtain ⟨h1, h2⟩ := (outer_sized.iff l).1 h
  refine ⟨h1, ?_, fun x hx => (h2 x hx).1⟩
  have h3 : l.getD 0 ByteArray.empty ∈ l := by
    rw [List.getD_eq_getElem?_getD, List.getElem?_eq_getElem h1]
    exact List.getElem_mem h1
  exact (h2 _ h3).2
theorem block_Sum.go_eq (n : Nat) (l : List ByteArray) : ∀ (x : List Int), Bytes x → x.length = n → strOfNums (block_Sum.go n x l) = xsum (strOfNums x) l := by
  induction l with
  | nil => intro x _ _; rfl
  | cons s l ih =>
    intro x hx hn
    rw [block_Sum.go, xsum, ih _ (bytes_xor x hx s n (by omega)) (by rw [bothB_length, hn]), ← hn, bothB_step x hx s]
theorem block_Sum.spec (l : List ByteArray) (z : Int) : block_Sum.f l z = some (sumR l z) := by
  unfold block_Sum.f sumR
  rw [block_may.spec, Option.bind_some]
  by_cases h : 1 ≤ z ∧ z ≤ 64
  · rw [decide_eq_true h, if_pos rfl, if_neg (show ¬ (z < 0 ∨ 1000000 < z) by omega), if_neg (show ¬ ¬ (1 ≤ z ∧ z ≤ 64) from fun hh => hh h)]
    show (if odd l z = true then _ else _) = _
    cases odd l z with
    | true => rfl
    | false =>
      rw [if_neg (by decide), if_neg (by decide), block_Sum.go_eq _ _ _ (bytes_zero _) (List.length_replicate ..), strOfNums_zero]
  · rw [decide_eq_false h, if_neg (by decide), if_pos h]
def outer_sum.at_ (w : List ByteArray) (r : List Int) : List ByteArray := r.map fun x => w.getD x.toNat ByteArray.empty
theorem outer_sum.loop (w : List ByteArray) (z : Int) (r : List Int) (hr : r.length ≤ 100000) (hb : ∀ x ∈ r, 0 ≤ x ∧ x < w.length) (d : Nat) : ∀ (t k : Nat) (acc : List ByteArray), t + d = r.length → d < k → acc.length + d ≤ 200000 →
    outer_sum.l0 k w z acc r (r.length : Int) (t : Int) = some (sumR (acc ++ outer_sum.at_ w (r.drop t)) z).1 := by
  induction d with
  | zero =>
    intro t k acc ht hk ha
    obtain ⟨k, rfl⟩ : ∃ m, k = m + 1 := ⟨k - 1, by omega⟩
    rw [outer_sum.l0, if_neg (by omega), block_Sum.spec, Option.bind_some, List.drop_of_length_le (by omega)]
    simp [outer_sum.at_]
  | succ d ih =>
    intro t k acc ht hk ha
    obtain ⟨k, rfl⟩ : ∃ m, k = m + 1 := ⟨k - 1, by omega⟩
    have htl : t < r.length := by omega
    have e1 : rd r (t : Int) = r[t] := by simp [rd, htl]
    have hx := hb _ (List.getElem_mem htl)
    rw [outer_sum.l0, if_pos (by omega), if_pos (by omega), if_pos (by omega), e1, if_pos hx.1, if_pos hx.2, if_pos (by omega), wrap64_id _ (by omega) (by omega), show ((t : Int) + 1) = ((t + 1 : Nat) : Int) by omega]
    rw [ih (t + 1) k _ (by omega) (by omega) (by rw [List.length_append]; simp; omega), List.drop_eq_getElem_cons htl, List.append_assoc]
    rfl
theorem outer_sum.spec (w : List ByteArray) (r : List Int) (z : Int) (k : Nat) (hr : r.length ≤ 1000) (hk : 2000 ≤ k) (hb : ∀ x ∈ r, 0 ≤ x ∧ x < w.length) : outer_sum.f k w r z = some (sumR (outer_sum.at_ w r) z).1 := by
  unfold outer_sum.f
  have h := outer_sum.loop w z r (by omega) hb r.length 0 k [] (by omega) (by omega) (by simp; omega)
  rw [List.drop_zero, List.nil_append] at h
  exact h
theorem toList_beq (s t : ByteArray) : (s.toList == t.toList) = decide (s = t) := by
  by_cases h : s = t
  · rw [h, decide_eq_true rfl]
    exact beq_self_eq_true _
  · rw [decide_eq_false h]
    exact beq_eq_false_iff_ne.2 fun e => h (toList_inj e)
def ruleB (l : List ByteArray) (z : Int) (r : List Int) : Bool := decide ((sumR (outer_sum.at_ l r) z).1 = zeroR z)
theorem sum_odd_at (l : List ByteArray) (r : List Int) (z : Nat) (hs : ∀ x ∈ r, (l.getD x.toNat ByteArray.empty).size = z) : odd (outer_sum.at_ l r) (z : Int) = false := by
  refine (odd_iff _ _).2 fun s h => ?_
  obtain ⟨x, hx, rfl⟩ := List.mem_map.1 h
  have := hs x hx
  omega
theorem sum_at_size (l : List ByteArray) (r : List Int) (z : Nat) (hb : ∀ x ∈ r, 0 ≤ x ∧ x < l.length) (hs : ∀ x ∈ l, x.size = z) : ∀ x ∈ r, (l.getD x.toNat ByteArray.empty).size = z := by
  intro x hx
  have h2 := hb x hx
  rw [List.getD_eq_getElem?_getD, List.getElem?_eq_getElem (by omega), Option.getD_some]
  exact hs _ (List.getElem_mem _)
theorem sum_at_odd (l : List ByteArray) (r : List Int) (z : Nat) (hb : ∀ x ∈ r, 0 ≤ x ∧ x < l.length) (hs : ∀ x ∈ l, x.size = z) : odd (outer_sum.at_ l r) (z : Int) = false :=
  sum_odd_at l r z (sum_at_size l r z hb hs)
def outer_Whole.aux (J : Nat → List Int) (n a : Nat) (l : List ByteArray) : List ByteArray := (tabL J n a).map fun r => (sumR (outer_sum.at_ l r) ((l.getD 0 ByteArray.empty).size : Int)).1
theorem outer_Whole.loop (J : Nat → List Int) (n a : Nat) (ha : a ≤ 64) (hn : n ≤ 96) (l : List ByteArray) (hl : l.length = n) (h0 : 0 < n) (d : Nat) : ∀ (t k : Nat), t + d = a → 2000 + d < k →
    outer_Whole.l0 k l (l ++ (outer_Whole.aux J n a l).take t) (tabL J n a) (a : Int) (t : Int) = some (l ++ outer_Whole.aux J n a l, 0) := by
  induction d with
  | zero =>
    intro t k ht hk
    obtain ⟨k, rfl⟩ : ∃ m, k = m + 1 := ⟨k - 1, by omega⟩
    rw [outer_Whole.l0, if_neg (by omega), List.take_of_length_le (by simp [outer_Whole.aux, tabL_length]; omega)]
  | succ d ih =>
    intro t k ht hk
    obtain ⟨k, rfl⟩ : ∃ m, k = m + 1 := ⟨k - 1, by omega⟩
    have hta : t < a := by omega
    have hlen : (outer_Whole.aux J n a l).length = a := by simp [outer_Whole.aux, tabL_length]
    have hrow : rd_L3 (tabL J n a) (t : Int) = mem J n t := by unfold rd_L3; rw [Int.toNat_natCast, tabL_get _ _ _ _ hta]
    have hm := mem_length J n t
    have h1 : rdOf ByteArray.empty l 0 = l.getD 0 ByteArray.empty := by simp [rdOf]
    rw [outer_Whole.l0, if_pos (by omega), if_pos (by omega), if_pos (by rw [tabL_length]; omega), if_pos (by omega), hrow, h1,
      outer_sum.spec l (mem J n t) _ k (by omega) (by omega) (fun x hx => by rw [hl]; exact ((mem_mem J n t x).1 hx).1), Option.bind_some, if_pos (by rw [List.length_append, List.length_take]; omega), wrap64_id _ (by omega) (by omega), show ((t : Int) + 1) = ((t + 1 : Nat) : Int) by omega]
    have e : (l ++ (outer_Whole.aux J n a l).take t) ++ [(sumR (outer_sum.at_ l (mem J n t)) ((l.getD 0 ByteArray.empty).size : Int)).1] = l ++ (outer_Whole.aux J n a l).take (t + 1) := by
      have h3 : t < (outer_Whole.aux J n a l).length := by omega
      rw [List.append_assoc, List.take_succ_eq_append_getElem h3]
      congr 3
      have h4 := tabL_get J n a t hta
      have h5 : t < (tabL J n a).length := by rw [tabL_length]; exact hta
      rw [List.getD_eq_getElem?_getD, List.getElem?_eq_getElem h5, Option.getD_some] at h4
      simp only [outer_Whole.aux, List.getElem_map, h4]
    rw [e]
    exact ih (t + 1) k (by omega) (by omega)
theorem outer_Whole.spec (s n a q : Int) (l : List ByteArray) (k : Nat) (hk : 3000 ≤ k) : outer_Whole.f k s n a q l = some (if outer_Check.B s n a q ∧ (l.length : Int) = n ∧ outer_sized.B l = true then (l ++ outer_Whole.aux (outer_joins.J s.toNat a.toNat q.toNat) n.toNat a.toNat l, 0) else ([], 1)) := by
  obtain ⟨k, rfl⟩ : ∃ m, k = m + 1 := ⟨k - 1, by omega⟩
  unfold outer_Whole.f
  rw [outer_Check.spec, Option.bind_some]
  by_cases h : outer_Check.B s n a q
  · rw [if_pos (decide_eq_true h)]
    obtain ⟨h1, h2, h3, h4⟩ := h
    by_cases hl : (l.length : Int) = n
    · rw [if_pos hl, outer_sized.spec, Option.bind_some]
      by_cases hs : outer_sized.B l = true
      · rw [outer_Whole.j0, if_neg (by simp [hs]), if_pos ⟨⟨h1, h2, h3, h4⟩, hl, hs⟩]
        have hc : slices_Clone_string_string.f l = some l := by
          unfold slices_Clone_string_string.f
          rw [if_pos (by omega)]
        have e := outer_members.spec s.toNat a.toNat q.toNat n.toNat (by omega) (by omega) (by omega) (by omega) k (by omega)
        rw [Int.toNat_of_nonneg h1.1, Int.toNat_of_nonneg (by omega : 0 ≤ n), Int.toNat_of_nonneg (by omega : 0 ≤ a), Int.toNat_of_nonneg (by omega : 0 ≤ q)] at e
        rw [hc, Option.bind_some, e, Option.bind_some, tabL_length]
        have h6 := outer_Whole.loop (outer_joins.J s.toNat a.toNat q.toNat) n.toNat a.toNat (by omega) (by omega) l (by omega) (by omega) a.toNat 0 k (by omega) (by omega)
        rw [List.take_zero, List.append_nil] at h6
        exact h6
      · rw [outer_Whole.j0, if_pos (by simp [hs]), if_neg (fun h9 => hs h9.2.2)]
    · rw [if_neg hl, outer_Whole.j0, if_pos rfl, if_neg (fun h9 => hl h9.2.1)]
  · rw [if_neg (by simp only [decide_eq_true_eq]; exact h), outer_Whole.j0, if_pos rfl, if_neg (fun h9 => h h9.1)]
theorem mosaicref04_Same.loop (l : List Int) (hl : l.length ≤ 1000000000) (m : List Int) (hm : m.length = l.length) (d : Nat) : ∀ (k i : Nat), i + d = l.length → d < k → mosaicref04_Same.l0 k l m (i : Int) = some (decide (l.drop i = m.drop i)) := by
  induction d with
  | zero =>
    intro k i hi hk
    obtain ⟨k, rfl⟩ : ∃ m, k = m + 1 := ⟨k - 1, by omega⟩
    simp only [mosaicref04_Same.l0]
    rw [if_neg (by omega), List.drop_of_length_le (by omega), List.drop_of_length_le (by omega), decide_eq_true rfl]
  | succ d ih =>
    intro k i hi hk
    obtain ⟨k, rfl⟩ : ∃ m, k = m + 1 := ⟨k - 1, by omega⟩
    have h1 : i < l.length := by omega
    have h2 : i < m.length := by omega
    simp only [mosaicref04_Same.l0]
    have e1 : rd l (i : Int) = l[i] := by simp [rd, h1]
    have e2 : rd m (i : Int) = m[i] := by simp [rd, h2]
    rw [if_pos (by omega), if_pos (by omega), if_pos (by omega), e1, e2, wrap64_id _ (by omega) (by omega), List.drop_eq_getElem_cons h1, List.drop_eq_getElem_cons h2]
    have := ih k (i + 1) (by omega) (by omega)
    rw [show ((i + 1 : Nat) : Int) = (i : Int) + 1 by omega] at this
    by_cases h : l[i] = m[i]
    · rw [if_pos h, this]
      congr 1
      rw [Bool.eq_iff_iff, decide_eq_true_iff, decide_eq_true_iff]
      exact ⟨fun e => by rw [h, e], fun e => (List.cons.inj e).2⟩
    · rw [if_neg h]
      congr 1
      rw [eq_comm, decide_eq_false_iff_not]
      intro hh
      exact h (List.cons.inj hh).1
theorem mosaicref04_Same.spec (l m : List Int) (k : Nat) (hl : l.length ≤ 1000000000) (hk : l.length < k) : mosaicref04_Same.f k l m = some (decide (l = m)) := by
  unfold mosaicref04_Same.f
  by_cases h : l.length = m.length
  · rw [if_pos (by omega)]
    have := mosaicref04_Same.loop l hl m h.symm l.length k 0 (by omega) hk
    simpa using this
  · rw [if_neg (by omega), decide_eq_false (fun e => h (by rw [e]))]
theorem mosaicref03_Same.loop (l : List ByteArray) (hl : l.length ≤ 1000000000) (m : List ByteArray) (hm : m.length = l.length) (d : Nat) : ∀ (k i : Nat), i + d = l.length → d < k → mosaicref03_Same.l0 k l m (i : Int) = some (decide (l.drop i = m.drop i)) := by
  induction d with
  | zero =>
    intro k i hi hk
    obtain ⟨k, rfl⟩ : ∃ m, k = m + 1 := ⟨k - 1, by omega⟩
    simp only [mosaicref03_Same.l0]
    rw [if_neg (by omega), List.drop_of_length_le (by omega), List.drop_of_length_le (by omega), decide_eq_true rfl]
  | succ d ih =>
    intro k i hi hk
    obtain ⟨k, rfl⟩ : ∃ m, k = m + 1 := ⟨k - 1, by omega⟩
    have h1 : i < l.length := by omega
    have h2 : i < m.length := by omega
    simp only [mosaicref03_Same.l0]
    have e1 : rdOf ByteArray.empty l (i : Int) = l[i] := by simp [rdOf, h1]
    have e2 : rdOf ByteArray.empty m (i : Int) = m[i] := by simp [rdOf, h2]
    rw [if_pos (by omega), if_pos (by omega), if_pos (by omega), e1, e2, wrap64_id _ (by omega) (by omega), List.drop_eq_getElem_cons h1, List.drop_eq_getElem_cons h2]
    have := ih k (i + 1) (by omega) (by omega)
    rw [show ((i + 1 : Nat) : Int) = (i : Int) + 1 by omega] at this
    by_cases h : l[i] = m[i]
    · rw [if_pos (by rw [h]), this]
      congr 1
      rw [Bool.eq_iff_iff, decide_eq_true_iff, decide_eq_true_iff]
      exact ⟨fun e => by rw [h, e], fun e => (List.cons.inj e).2⟩
    · rw [if_neg (fun e => h (toList_inj e))]
      congr 1
      rw [eq_comm, decide_eq_false_iff_not]
      intro hh
      exact h (List.cons.inj hh).1
theorem mosaicref03_Same.spec (l m : List ByteArray) (k : Nat) (hl : l.length ≤ 1000000000) (hk : l.length < k) : mosaicref03_Same.f k l m = some (decide (l = m)) := by
  unfold mosaicref03_Same.f
  by_cases h : l.length = m.length
  · rw [if_pos (by omega)]
    have := mosaicref03_Same.loop l hl m h.symm l.length k 0 (by omega) hk
    simpa using this
  · rw [if_neg (by omega), decide_eq_false (fun e => h (by rw [e]))]
theorem mosaiclaw09_awake.J (i : Nat) : outer_joins.J 0 1 1 i = [0] := by
  have h1 := outer_joins.length 0 1 1 i (by omega)
  have h2 := outer_joins.range 0 1 1 i (by omega)
  match hJ : outer_joins.J 0 1 1 i, h1 with
  | [x], _ =>
    have := h2 x (by rw [hJ]; exact List.mem_singleton_self x)
    have : x = 0 := by omega
    rw [this]
theorem mosaiclaw09_awake.spec (k : Nat) (hk : 3000 ≤ k) : mosaiclaw09_awake.f k = some true := by
  unfold mosaiclaw09_awake.f
  have hB : outer_Check.B 0 1 1 1 := by decide
  have hJ : outer_joins.J (0 : Int).toNat (1 : Int).toNat (1 : Int).toNat = fun _ => [0] := funext mosaiclaw09_awake.J
  have hr : rulL (fun _ => [0]) 1 1 = [[0, 1]] := by decide
  have hz : outer_sized.B [(⟨#[97, 98]⟩ : ByteArray)] = true := by decide
  have ht : tabL (fun _ => [0]) 1 1 = [[0]] := by decide
  have ha : outer_Whole.aux (fun _ => [0]) 1 1 [(⟨#[97, 98]⟩ : ByteArray)] = [(⟨#[97, 98]⟩ : ByteArray)] := by
    unfold outer_Whole.aux
    rw [ht]
    decide +kernel
  rw [outer_Rules.spec _ _ _ _ _ (by omega), if_pos hB, Option.bind_some, outer_Whole.spec _ _ _ _ _ _ hk, if_pos ⟨hB, rfl, hz⟩, Option.bind_some, hJ]
  simp only
  rw [show (1 : Int).toNat = 1 from rfl, hr, ha]
  simp only [if_true]
  rw [if_pos (show ((([[0, 1]] : List (List Int)).length : Int) = 1) from rfl), if_pos (by decide)]
  rw [show rd_L3 [[0, 1]] 0 = [0, 1] from rfl, mosaicref04_Same.spec _ _ _ (by decide) (by simp; omega), Option.bind_some, if_pos (by decide), mosaicref03_Same.spec _ _ _ (by decide) (by simp; omega), Option.bind_some]
  rfl
theorem mosaiclaw09_few.loop (l : List ByteArray) (hl : l.length ≤ 180) (d : Nat) : ∀ (k i : Nat), i + d = l.length → d < k → mosaiclaw09_few.l0 k l (i : Int) = some (decide (∀ s ∈ l.drop i, s.size ≤ 100)) := by
  induction d with
  | zero =>
    intro k i hi hk
    obtain ⟨k, rfl⟩ : ∃ m, k = m + 1 := ⟨k - 1, by omega⟩
    simp only [mosaiclaw09_few.l0]
    rw [if_neg (by omega), List.drop_of_length_le (by omega), decide_eq_true (by simp)]
  | succ d ih =>
    intro k i hi hk
    obtain ⟨k, rfl⟩ : ∃ m, k = m + 1 := ⟨k - 1, by omega⟩
    have h1 : i < l.length := by omega
    simp only [mosaiclaw09_few.l0]
    have e1 : rdOf ByteArray.empty l (i : Int) = l[i] := by simp [rdOf, h1]
    rw [if_pos (by omega), if_pos (by omega), e1, wrap64_id _ (by omega) (by omega), List.drop_eq_getElem_cons h1]
    have := ih k (i + 1) (by omega) (by omega)
    rw [show ((i + 1 : Nat) : Int) = (i : Int) + 1 by omega] at this
    by_cases hs : (l[i].size : Int) > 100
    · rw [if_pos hs]
      congr 1
      rw [eq_comm, decide_eq_false_iff_not]
      intro hh
      have := hh l[i] List.mem_cons_self
      omega
    · rw [if_neg hs, this]
      congr 1
      rw [Bool.eq_iff_iff, decide_eq_true_iff, decide_eq_true_iff]
      constructor
      · intro hh s hm
        rcases List.mem_cons.1 hm with rfl | hm
        · omega
        · exact hh s hm
      · intro hh s hm
        exact hh s (List.mem_cons_of_mem _ hm)
theorem mosaiclaw09_few.spec (l : List ByteArray) (k : Nat) (hk : 200 ≤ k) : mosaiclaw09_few.f k l = some (decide (l.length ≤ 180 ∧ ∀ s ∈ l, s.size ≤ 100)) := by
  unfold mosaiclaw09_few.f
  by_cases h : (l.length : Int) > 180
  · rw [if_pos h, decide_eq_false (by omega)]
  · rw [if_neg h]
    have := mosaiclaw09_few.loop l (by omega) l.length k 0 (by omega) (by omega)
    rw [List.drop_zero] at this
    rw [show (0 : Int) = ((0 : Nat) : Int) from rfl, this]
    congr 1
    rw [Bool.eq_iff_iff, decide_eq_true_iff, decide_eq_true_iff]
    exact ⟨fun hh => ⟨by omega, hh⟩, fun hh => hh.2⟩
theorem block_Zero.spec (z : Int) : block_Zero.f z = some (zeroR z) := by
  unfold block_Zero.f zeroR
  rw [block_may.spec, Option.bind_some]
  by_cases h : 1 ≤ z ∧ z ≤ 64
  · rw [decide_eq_true h, if_pos rfl, if_pos h]
    have e : strings_Repeat.f (⟨#[0]⟩ : ByteArray) z = some (zeroS z.toNat) := by
      unfold strings_Repeat.f
      have z1 : (⟨#[0]⟩ : ByteArray).size = 1 := rfl
      rw [if_pos (by rw [z1]; omega)]
      have e : (⟨#[0]⟩ : ByteArray).data.toList = [0] := rfl
      rw [e, rep0]
      rfl
    rw [e]
    rfl
  · rw [decide_eq_false h, if_neg (by decide), if_neg h]
theorem outer_Holds.all_spec (k : Nat) (hk : 2000 ≤ k) (l : List ByteArray) (z : Int) : ∀ rs : List (List Int), (∀ r ∈ rs, r.length ≤ 1000 ∧ ∀ x ∈ r, 0 ≤ x ∧ x < l.length) → outer_Holds.all k l z rs = some (rs.all (ruleB l z))
  | [], _ => rfl
  | r :: rs, h => by
    have h1 := h r List.mem_cons_self
    unfold outer_Holds.all
    rw [outer_sum.spec l r z k h1.1 hk h1.2, Option.bind_some, block_Zero.spec, Option.bind_some, outer_Holds.all_spec k hk l z rs (fun x hx => h x (List.mem_cons_of_mem _ hx)), Option.bind_some, toList_beq]
    rfl
def outer_Holds.B (s n a q : Int) (l : List ByteArray) : Bool := if outer_Check.B s n a q ∧ (l.length : Int) = n + a ∧ outer_sized.B l = true then (rulL (outer_joins.J s.toNat a.toNat q.toNat) n.toNat a.toNat).all (ruleB l ((l.getD 0 ByteArray.empty).size : Int)) else false
theorem outer_Holds.spec (s n a q : Int) (l : List ByteArray) (k : Nat) (hk : 3000 ≤ k) : outer_Holds.f k s n a q l = some (outer_Holds.B s n a q l) := by
  unfold outer_Holds.f outer_Holds.B
  rw [outer_Check.spec, Option.bind_some]
  by_cases h : outer_Check.B s n a q
  · rw [if_pos (decide_eq_true h)]
    obtain ⟨h1, h2, h3, h4⟩ := h
    rw [wrap64_id _ (by omega) (by omega)]
    by_cases hl : (l.length : Int) = n + a
    · rw [if_pos hl, outer_sized.spec, Option.bind_some]
      by_cases hs : outer_sized.B l = true
      · have e := outer_rules.spec s.toNat a.toNat q.toNat n.toNat (by omega) (by omega) (by omega) (by omega) k (by omega)
        rw [Int.toNat_of_nonneg h1.1, Int.toNat_of_nonneg (by omega : 0 ≤ n), Int.toNat_of_nonneg (by omega : 0 ≤ a), Int.toNat_of_nonneg (by omega : 0 ≤ q)] at e
        have e0 : rdOf ByteArray.empty l 0 = l.getD 0 ByteArray.empty := by simp [rdOf]
        rw [if_pos hs, if_pos (by omega), e, Option.bind_some, if_pos ⟨⟨h1, h2, h3, h4⟩, hl, hs⟩, e0, outer_Holds.all_spec k (by omega)]
        intro r hr
        obtain ⟨r1, r2⟩ := rulL_in _ _ _ r hr
        exact ⟨by omega, fun x hx => by have := r2 x hx; omega⟩
      · rw [if_neg hs, if_neg (fun h9 => hs h9.2.2)]
    · rw [if_neg hl, if_neg (fun h9 => hl h9.2.1)]
  · rw [if_neg (by simp only [decide_eq_true_eq]; exact h), if_neg (fun h9 => h h9.1)]
theorem block_Xor.spec (a b : ByteArray) (h : a.size ≤ 140737488351232) : block_Xor.f a b = some (xorR a b) := by
  unfold block_Xor.f xorR
  by_cases hs : a.size = b.size
  · rw [if_pos hs, if_pos hs, if_pos h]
    rfl
  · rw [if_neg hs, if_neg hs]
theorem at_append (w v : List ByteArray) (r : List Int) (h : ∀ x ∈ r, 0 ≤ x ∧ x < w.length) : outer_sum.at_ (w ++ v) r = outer_sum.at_ w r := by
  unfold outer_sum.at_
  apply List.map_congr_left
  intro x hx
  have := h x hx
  rw [List.getD_eq_getElem?_getD, List.getD_eq_getElem?_getD, List.getElem?_append_left (by omega)]
theorem at_cat (w : List ByteArray) (r s : List Int) : outer_sum.at_ w (r ++ s) = outer_sum.at_ w r ++ outer_sum.at_ w s := by
  unfold outer_sum.at_
  rw [List.map_append]
theorem aux_length (J : Nat → List Int) (n a : Nat) (l : List ByteArray) : (outer_Whole.aux J n a l).length = a := by simp [outer_Whole.aux, tabL_length]
theorem aux_get (J : Nat → List Int) (n a j : Nat) (l : List ByteArray) (h : j < a) : (outer_Whole.aux J n a l).getD j ByteArray.empty = (sumR (outer_sum.at_ l (mem J n j)) ((l.getD 0 ByteArray.empty).size : Int)).1 := by
  have h4 := tabL_get J n a j h
  have h5 : j < (tabL J n a).length := by rw [tabL_length]; exact h
  rw [List.getD_eq_getElem?_getD, List.getElem?_eq_getElem h5, Option.getD_some] at h4
  have h3 : j < (outer_Whole.aux J n a l).length := by rw [aux_length]; exact h
  rw [List.getD_eq_getElem?_getD, List.getElem?_eq_getElem h3, Option.getD_some]
  simp only [outer_Whole.aux, List.getElem_map, h4]
theorem sum_at (l : List ByteArray) (r : List Int) (z : Nat) (hz : 1 ≤ z ∧ z ≤ 64) (hb : ∀ x ∈ r, 0 ≤ x ∧ x < l.length) (hs : ∀ x ∈ l, x.size = z) : (sumR (outer_sum.at_ l r) (z : Int)).1 = xsum (zeroS z) (outer_sum.at_ l r) := by
  rw [sumR_ok _ _ (by omega) (sum_at_odd l r z hb hs), Int.toNat_natCast]
theorem xsum_zero_nb (z : Nat) (A : List ByteArray) (j : Nat) (hj : j < z) : nb (xsum (zeroS z) A) j = xb A j := by
  rw [xsum_nb _ _ _ (by rw [zeroS_size]; exact hj), zeroS_nb, Nat.zero_xor]
theorem xsum_self (z : Nat) (A : List ByteArray) : xsum (zeroS z) (A ++ [xsum (zeroS z) A]) = zeroS z := by
  refine bytes_ext _ _ (by rw [xsum_size]) fun j hj => ?_
  rw [xsum_size, zeroS_size] at hj
  rw [xsum_zero_nb _ _ _ hj, xb_append, xb, xb, Nat.xor_zero, xsum_zero_nb _ _ _ hj, Nat.xor_self, zeroS_nb]
theorem whole_sizes (J : Nat → List Int) (n a : Nat) (l : List ByteArray) (hl : l.length = n) (hs : outer_sized.B l = true) : ∀ x ∈ l ++ outer_Whole.aux J n a l, x.size = (l.getD 0 ByteArray.empty).size := by
  obtain ⟨z1, z2, z3⟩ := outer_sized.zero l hs
  intro x hx
  rcases List.mem_append.1 hx with hx | hx
  · exact z3 x hx
  · obtain ⟨r, hr, rfl⟩ := List.mem_map.1 hx
    obtain ⟨j, hj, rfl⟩ := List.mem_map.1 hr
    rw [sum_at l (mem J n j) _ z2 (fun x hx => by rw [hl]; exact ((mem_mem J n j x).1 hx).1) z3, xsum_size, zeroS_size]
theorem whole_sized (J : Nat → List Int) (n a : Nat) (l : List ByteArray) (hl : l.length = n) (hs : outer_sized.B l = true) : outer_sized.B (l ++ outer_Whole.aux J n a l) = true ∧ (l ++ outer_Whole.aux J n a l).getD 0 ByteArray.empty = l.getD 0 ByteArray.empty := by
  obtain ⟨z1, z2, z3⟩ := outer_sized.zero l hs
  have h0 : (l ++ outer_Whole.aux J n a l).getD 0 ByteArray.empty = l.getD 0 ByteArray.empty := by
    rw [List.getD_eq_getElem?_getD, List.getD_eq_getElem?_getD, List.getElem?_append_left z1]
  refine ⟨(outer_sized.iff _).2 ⟨by rw [List.length_append]; omega, fun x hx => ?_⟩, h0⟩
  have := whole_sizes J n a l hl hs x hx
  rw [h0]
  omega
theorem whole_rule (J : Nat → List Int) (n a j : Nat) (l : List ByteArray) (hl : l.length = n) (hs : outer_sized.B l = true) (hj : j < a) : ruleB (l ++ outer_Whole.aux J n a l) ((l.getD 0 ByteArray.empty).size : Int) (mem J n j ++ [((n + j : Nat) : Int)]) = true := by
  obtain ⟨z1, z2, z3⟩ := outer_sized.zero l hs
  have hb : ∀ x ∈ mem J n j, 0 ≤ x ∧ x < (l.length : Int) := fun x hx => by rw [hl]; exact ((mem_mem J n j x).1 hx).1
  have hlen : (l ++ outer_Whole.aux J n a l).length = n + a := by rw [List.length_append, aux_length, hl]
  have hb2 : ∀ x ∈ mem J n j ++ [((n + j : Nat) : Int)], 0 ≤ x ∧ x < ((l ++ outer_Whole.aux J n a l).length : Int) := by
    intro x hx
    rw [hlen]
    rcases List.mem_append.1 hx with hx | hx
    · have := hb x hx
      omega
    · rw [List.mem_singleton] at hx
      omega
  have e1 : outer_sum.at_ (l ++ outer_Whole.aux J n a l) [((n + j : Nat) : Int)] = [(outer_Whole.aux J n a l).getD j ByteArray.empty] := by
    unfold outer_sum.at_
    rw [List.map_cons, List.map_nil, Int.toNat_natCast, List.getD_eq_getElem?_getD, List.getElem?_append_right (by omega), hl, Nat.add_sub_cancel_left, ← List.getD_eq_getElem?_getD]
  unfold ruleB
  apply decide_eq_true
  rw [sum_at _ _ _ z2 hb2 (whole_sizes J n a l hl hs), at_cat, at_append _ _ _ hb, e1, aux_get J n a j l hj, sum_at l _ _ z2 hb z3, xsum_self]
  unfold zeroR
  rw [if_pos (by omega), Int.toNat_natCast]
theorem whole_holds (s n a q : Int) (l : List ByteArray) (hB : outer_Check.B s n a q) (hl : (l.length : Int) = n) (hs : outer_sized.B l = true) : outer_Holds.B s n a q (l ++ outer_Whole.aux (outer_joins.J s.toNat a.toNat q.toNat) n.toNat a.toNat l) = true := by
  obtain ⟨b1, b2, b3, b4⟩ := hB
  obtain ⟨w1, w2⟩ := whole_sized (outer_joins.J s.toNat a.toNat q.toNat) n.toNat a.toNat l (by omega) hs
  unfold outer_Holds.B
  rw [if_pos ⟨⟨b1, b2, b3, b4⟩, by rw [List.length_append, aux_length]; omega, w1⟩, w2, List.all_eq_true]
  intro r hr
  obtain ⟨j, hj, rfl⟩ := List.mem_map.1 hr
  exact whole_rule _ _ _ j l (by omega) hs (List.mem_range.1 hj)
theorem rule_iff (w : List ByteArray) (r : List Int) (z : Nat) (hz : 1 ≤ z ∧ z ≤ 64) (hb : ∀ x ∈ r, 0 ≤ x ∧ x < w.length) (hs : ∀ x ∈ w, x.size = z) : ruleB w (z : Int) r = true ↔ ∀ j, j < z → xb (outer_sum.at_ w r) j = 0 := by
  unfold ruleB zeroR
  rw [decide_eq_true_iff, sum_at w r z hz hb hs, if_pos (by omega), Int.toNat_natCast]
  constructor
  · intro h j hj
    rw [← xsum_zero_nb z _ j hj, h, zeroS_nb]
  · intro h
    refine bytes_ext _ _ (by rw [xsum_size]) fun j hj => ?_
    rw [xsum_size, zeroS_size] at hj
    rw [xsum_zero_nb _ _ _ hj, h j hj, zeroS_nb]
def xorW (w v : List ByteArray) : List ByteArray := (List.range w.length).map fun i => bothS .xor (w.getD i ByteArray.empty) (v.getD i ByteArray.empty)
theorem xorW_length (w v : List ByteArray) : (xorW w v).length = w.length := by simp [xorW]
theorem xorW_get (w v : List ByteArray) (i : Nat) (h : i < w.length) : (xorW w v).getD i ByteArray.empty = bothS .xor (w.getD i ByteArray.empty) (v.getD i ByteArray.empty) := by
  rw [List.getD_eq_getElem?_getD, List.getElem?_eq_getElem (by rw [xorW_length]; exact h), Option.getD_some]
  simp [xorW]
theorem getD_size (w : List ByteArray) (z i : Nat) (h : i < w.length) (hs : ∀ x ∈ w, x.size = z) : (w.getD i ByteArray.empty).size = z := by
  rw [List.getD_eq_getElem?_getD, List.getElem?_eq_getElem h, Option.getD_some]
  exact hs _ (List.getElem_mem h)
theorem xorW_sizes (w v : List ByteArray) (z : Nat) (hs : ∀ x ∈ w, x.size = z) : ∀ x ∈ xorW w v, x.size = z := by
  intro x hx
  obtain ⟨i, hi, rfl⟩ := List.mem_map.1 hx
  rw [bothS_size]
  exact getD_size w z i (List.mem_range.1 hi) hs
theorem xorW_xb (w v : List ByteArray) (z : Nat) (hs : ∀ x ∈ w, x.size = z) (r : List Int) (hb : ∀ x ∈ r, 0 ≤ x ∧ x < w.length) (j : Nat) (hj : j < z) : xb (outer_sum.at_ (xorW w v) r) j = xb (outer_sum.at_ w r) j ^^^ xb (outer_sum.at_ v r) j := by
  induction r with
  | nil => simp [outer_sum.at_, xb]
  | cons x r ih =>
    have hx := hb x List.mem_cons_self
    have h := ih (fun y hy => hb y (List.mem_cons_of_mem _ hy))
    have e : ∀ u : List ByteArray, outer_sum.at_ u (x :: r) = u.getD x.toNat ByteArray.empty :: outer_sum.at_ u r := fun _ => rfl
    rw [e, e, e, xb, xb, xb, h, xorW_get _ _ _ (by omega), xor_nb _ _ _ (by rw [getD_size w z _ (by omega) hs]; exact hj)]
    ac_rfl
theorem xorW_rule (w v : List ByteArray) (z : Nat) (hz : 1 ≤ z ∧ z ≤ 64) (hl : v.length = w.length) (hs : ∀ x ∈ w, x.size = z) (ht : ∀ x ∈ v, x.size = z) (r : List Int) (hb : ∀ x ∈ r, 0 ≤ x ∧ x < w.length) (h1 : ruleB w (z : Int) r = true) (h2 : ruleB v (z : Int) r = true) : ruleB (xorW w v) (z : Int) r = true := by
  have g1 := (rule_iff w r z hz hb hs).1 h1
  have g2 := (rule_iff v r z hz (by rw [hl]; exact hb) ht).1 h2
  refine (rule_iff _ r z hz (by rw [xorW_length]; exact hb) (xorW_sizes w v z hs)).2 fun j hj => ?_
  rw [xorW_xb w v z hs r hb j hj, g1 j hj, g2 j hj]
  rfl
theorem rule_turned (w : List ByteArray) (z : Nat) (hz : 1 ≤ z ∧ z ≤ 64) (hs : ∀ x ∈ w, x.size = z) (r : List Int) (i : Nat) (hi : i < w.length) (t : ByteArray) (ht : t.size = z) (hb : ∀ x ∈ r, 0 ≤ x ∧ x < w.length) (hr : ∀ x ∈ r, x.toNat ≠ i) (j : Nat) (hj : j < z) (hne : nb t j ≠ nb (w.getD i ByteArray.empty) j) (h : ruleB w (z : Int) (r ++ [(i : Int)]) = true) : ruleB (w.set i t) (z : Int) (r ++ [(i : Int)]) = false := by
  have hbi : ∀ x ∈ r ++ [(i : Int)], 0 ≤ x ∧ x < (w.length : Int) := by
    intro x hx
    rcases List.mem_append.1 hx with hx | hx
    · exact hb x hx
    · rw [List.mem_singleton] at hx
      omega
  have g1 := (rule_iff w _ z hz hbi hs).1 h j hj
  have hst : ∀ x ∈ w.set i t, x.size = z := by
    intro x hx
    rcases List.mem_or_eq_of_mem_set hx with hx | rfl
    · exact hs x hx
    · exact ht
  rw [Bool.eq_false_iff]
  intro h2
  have g2 := (rule_iff (w.set i t) _ z hz (by rw [List.length_set]; exact hbi) hst).1 h2 j hj
  have e1 : outer_sum.at_ (w.set i t) r = outer_sum.at_ w r := by
    unfold outer_sum.at_
    apply List.map_congr_left
    intro x hx
    rw [List.getD_eq_getElem?_getD, List.getElem?_set_ne (fun e => hr x hx e.symm), ← List.getD_eq_getElem?_getD]
  have e2 : ∀ u : List ByteArray, outer_sum.at_ u [(i : Int)] = [u.getD i ByteArray.empty] := fun _ => rfl
  have e3 : (w.set i t).getD i ByteArray.empty = t := by rw [List.getD_eq_getElem?_getD, List.getElem?_set_self hi, Option.getD_some]
  rw [at_cat, xb_append, e2, xb, xb, Nat.xor_zero] at g1
  rw [at_cat, xb_append, e1, e2, e3, xb, xb, Nat.xor_zero] at g2
  apply hne
  have k1 := congrArg (fun y => xb (outer_sum.at_ w r) j ^^^ y) g1
  have k2 := congrArg (fun y => xb (outer_sum.at_ w r) j ^^^ y) g2
  simp only [← Nat.xor_assoc, Nat.xor_self, Nat.zero_xor, Nat.xor_zero] at k1 k2
  rw [k1, k2]
theorem turn_ne : ∀ m : Fin 256, ((Go.bits .xor .u8 ((m.val : Nat) : Int) 1).toNat % 256) ≠ m.val := by decide +kernel
theorem turn0_size (s : ByteArray) : (mosaiclaw09_OuterHolds.turn0 s).size = s.size := by
  unfold mosaiclaw09_OuterHolds.turn0
  rw [strOfNums_size', List.length_set, bytesI_length]
theorem turn0_nb (s : ByteArray) (h : 0 < s.size) : nb (mosaiclaw09_OuterHolds.turn0 s) 0 ≠ nb s 0 := by
  unfold mosaiclaw09_OuterHolds.turn0
  have h1 : 0 < (bytesI s).length := by rw [bytesI_length]; exact h
  have h2 : (bytesI s).getD 0 0 = ((nb s 0 : Nat) : Int) := by
    rw [bytesI_getD s 0 h]
    simp [nb, List.getD_eq_getElem?_getD, h, ByteArray.getElem_eq_getElem_data]
  rw [nb_strOfNums, List.getD_eq_getElem?_getD, List.getElem?_set_self h1, Option.getD_some, h2]
  exact turn_ne ⟨nb s 0, nb_lt s 0⟩
theorem sumL_spec (x z : List ByteArray) (b : Nat) (hb : b ≤ 64) (hl : z.length = x.length) (hx : ∀ s ∈ x, s.size = b) (hz : ∀ s ∈ z, s.size = b) (d : Nat) : ∀ (i : Nat) (acc : List ByteArray), i + d = x.length → mosaiclaw09_OuterHolds.sumL x z d i acc = some (acc ++ (xorW x z).drop i) := by
  induction d with
  | zero =>
    intro i acc hi
    rw [mosaiclaw09_OuterHolds.sumL, List.drop_of_length_le (by rw [xorW_length]; omega), List.append_nil]
  | succ d ih =>
    intro i acc hi
    have h1 := getD_size x b i (by omega) hx
    have h2 := getD_size z b i (by omega) hz
    have h3 : i < (xorW x z).length := by rw [xorW_length]; omega
    have h4 := xorW_get x z i (by omega)
    rw [List.getD_eq_getElem?_getD, List.getElem?_eq_getElem h3, Option.getD_some] at h4
    have hxr : xorR (x.getD i ByteArray.empty) (z.getD i ByteArray.empty) = (bothS .xor (x.getD i ByteArray.empty) (z.getD i ByteArray.empty), 0) := by
      unfold xorR
      rw [if_pos (by omega)]
    rw [mosaiclaw09_OuterHolds.sumL, if_pos (by omega), block_Xor.spec _ _ (by omega), Option.bind_some, hxr, if_pos rfl, ih (i + 1) _ (by omega), List.drop_eq_getElem_cons h3, h4, List.append_assoc]
    rfl
theorem holds_of_rules (s n a q : Int) (hB : outer_Check.B s n a q) (w : List ByteArray) (z : Nat) (hz : 1 ≤ z ∧ z ≤ 64) (hl : (w.length : Int) = n + a) (hs : ∀ x ∈ w, x.size = z) (hr : ∀ r ∈ rulL (outer_joins.J s.toNat a.toNat q.toNat) n.toNat a.toNat, ruleB w (z : Int) r = true) : outer_Holds.B s n a q w = true := by
  have hb := hB
  obtain ⟨b1, b2, b3, b4⟩ := hB
  have h0 := getD_size w z 0 (by omega) hs
  unfold outer_Holds.B
  rw [if_pos ⟨hb, hl, (outer_sized.iff w).2 ⟨by omega, fun x hx => by have := hs x hx; omega⟩⟩, h0, List.all_eq_true]
  exact hr
end Go.Proofs.Ytghhmnjkgnoogaa.POuterHolds
namespace Go.Proofs.Ytghhmnjkgnoogaa.Pure
open Go.RowKit Go.Proofs.Ytghhmnjkgnoogaa.POuterHolds Go.Proofs.YtghhmnjkgnoogaaW.PrintWords Go.Proofs.YtghhmnjkgnoogaaW.PrintLast Go.Proofs.YtghhmnjkgnoogaaW.PrintMore Go.Mine
theorem OuterHolds : mosaiclaw09_OuterHolds.Pure := by
  intro s n a q l m _ _ _ _ _ _ _ _
  refine ⟨10000, ?_⟩
  unfold mosaiclaw09_OuterHolds.f
  have haw := mosaiclaw09_awake.spec 10000 (by omega)
  rw [mosaiclaw09_few.spec _ _ (by omega), Option.bind_some]
  by_cases f1 : l.length ≤ 180 ∧ ∀ x ∈ l, x.size ≤ 100
  · rw [if_pos (decide_eq_true f1), mosaiclaw09_few.spec _ _ (by omega), Option.bind_some]
    by_cases f2 : m.length ≤ 180 ∧ ∀ x ∈ m, x.size ≤ 100
    · rw [if_pos (decide_eq_true f2), outer_Whole.spec _ _ _ _ _ _ (by omega), Option.bind_some]
      by_cases hB : outer_Check.B s n a q ∧ (l.length : Int) = n ∧ outer_sized.B l = true
      · rw [if_pos hB, if_pos rfl]
        obtain ⟨hC, hl, hsd⟩ := hB
        have hC2 := hC
        obtain ⟨b1, b2, b3, b4⟩ := hC2
        obtain ⟨z1, z2, z3⟩ := outer_sized.zero l hsd
        have hwh := whole_holds s n a q l hC hl hsd
        have hsz := whole_sizes (outer_joins.J s.toNat a.toNat q.toNat) n.toNat a.toNat l (by omega) hsd
        have hxl : (l ++ outer_Whole.aux (outer_joins.J s.toNat a.toNat q.toNat) n.toNat a.toNat l).length = n.toNat + a.toNat := by rw [List.length_append, aux_length]; omega
        have hrule : ∀ j, j < a.toNat → ruleB (l ++ outer_Whole.aux (outer_joins.J s.toNat a.toNat q.toNat) n.toNat a.toNat l) ((l.getD 0 ByteArray.empty).size : Int) (mem (outer_joins.J s.toNat a.toNat q.toNat) n.toNat j ++ [((n.toNat + j : Nat) : Int)]) = true := fun j hj => whole_rule _ _ _ j l (by omega) hsd hj
        generalize hz : (l.getD 0 ByteArray.empty).size = z at *
        generalize l ++ outer_Whole.aux (outer_joins.J s.toNat a.toNat q.toNat) n.toNat a.toNat l = x at *
        have hlast := getD_size x z (x.length - 1) (by omega) hsz
        unfold mosaiclaw09_OuterHolds.full
        rw [outer_Holds.spec _ _ _ _ _ _ (by omega), Option.bind_some, hwh, if_pos rfl, if_pos (show 0 < x.length ∧ x.length ≤ 1000000 ∧ 0 < (x.getD (x.length - 1) ByteArray.empty).size from ⟨by omega, by omega, by omega⟩), outer_Holds.spec _ _ _ _ _ _ (by omega), Option.bind_some]
        have hyl : (x.set (x.length - 1) (mosaiclaw09_OuterHolds.turn0 (x.getD (x.length - 1) ByteArray.empty))).length = x.length := List.length_set ..
        have hy0 : (x.set (x.length - 1) (mosaiclaw09_OuterHolds.turn0 (x.getD (x.length - 1) ByteArray.empty))).getD 0 ByteArray.empty = x.getD 0 ByteArray.empty := by
          rw [List.getD_eq_getElem?_getD, List.getElem?_set_ne (by omega), ← List.getD_eq_getElem?_getD]
        have hrt : ruleB (x.set (x.length - 1) (mosaiclaw09_OuterHolds.turn0 (x.getD (x.length - 1) ByteArray.empty))) (z : Int) (mem (outer_joins.J s.toNat a.toNat q.toNat) n.toNat (a.toNat - 1) ++ [((x.length - 1 : Nat) : Int)]) = false := by
          refine rule_turned x z z2 hsz (mem (outer_joins.J s.toNat a.toNat q.toNat) n.toNat (a.toNat - 1)) (x.length - 1) (by omega) _ (by rw [turn0_size]; exact hlast) (fun y hy => ?_) (fun y hy => ?_) 0 (by omega) (turn0_nb _ (by omega)) ?_
          · have := ((mem_mem _ _ _ y).1 hy).1
            omega
          · have := ((mem_mem _ _ _ y).1 hy).1
            omega
          · have h := hrule (a.toNat - 1) (by omega)
            rw [show n.toNat + (a.toNat - 1) = x.length - 1 by omega] at h
            exact h
        have hHy : outer_Holds.B s n a q (x.set (x.length - 1) (mosaiclaw09_OuterHolds.turn0 (x.getD (x.length - 1) ByteArray.empty))) = false := by
          unfold outer_Holds.B
          split
          · rw [hy0, getD_size x z 0 (by omega) hsz, List.all_eq_false]
            refine ⟨_, List.mem_map.2 ⟨a.toNat - 1, List.mem_range.2 (by omega), rfl⟩, ?_⟩
            rw [show n.toNat + (a.toNat - 1) = x.length - 1 by omega, hrt]
            decide
          · rfl
        rw [hHy, if_neg (by decide), outer_Whole.spec _ _ _ _ _ _ (by omega), Option.bind_some]
        by_cases hB2 : outer_Check.B s n a q ∧ (m.length : Int) = n ∧ outer_sized.B m = true
        · rw [if_pos hB2, if_pos rfl]
          obtain ⟨_, ml, msd⟩ := hB2
          obtain ⟨y1, y2, y3⟩ := outer_sized.zero m msd
          have msz := whole_sizes (outer_joins.J s.toNat a.toNat q.toNat) n.toNat a.toNat m (by omega) msd
          have mxl : (m ++ outer_Whole.aux (outer_joins.J s.toNat a.toNat q.toNat) n.toNat a.toNat m).length = n.toNat + a.toNat := by rw [List.length_append, aux_length]; omega
          have mrule : ∀ j, j < a.toNat → ruleB (m ++ outer_Whole.aux (outer_joins.J s.toNat a.toNat q.toNat) n.toNat a.toNat m) ((m.getD 0 ByteArray.empty).size : Int) (mem (outer_joins.J s.toNat a.toNat q.toNat) n.toNat j ++ [((n.toNat + j : Nat) : Int)]) = true := fun j hj => whole_rule _ _ _ j m (by omega) msd hj
          generalize hzm : (m.getD 0 ByteArray.empty).size = zm at *
          generalize m ++ outer_Whole.aux (outer_joins.J s.toNat a.toNat q.toNat) n.toNat a.toNat m = y at *
          have g1 := getD_size y zm 0 (by omega) msz
          have g2 := getD_size x z 0 (by omega) hsz
          unfold mosaiclaw09_OuterHolds.rest
          rw [if_pos (show 0 < y.length ∧ 0 < x.length ∧ x.length ≤ 1000000 from ⟨by omega, by omega, by omega⟩), g1, g2]
          by_cases he : (zm : Int) = (z : Int)
          · rw [if_pos he]
            obtain rfl : zm = z := by omega
            rw [sumL_spec x y zm (by omega) (by omega) hsz msz x.length 0 [] (by omega), Option.bind_some, haw, Option.bind_some, if_pos rfl, List.drop_zero, List.nil_append, outer_Holds.spec _ _ _ _ _ _ (by omega)]
            congr 1
            refine holds_of_rules s n a q hC _ zm z2 (by rw [xorW_length]; omega) (xorW_sizes x y zm hsz) fun r hr => ?_
            have hin := rulL_in _ _ _ r hr
            obtain ⟨j, hj, rfl⟩ := List.mem_map.1 hr
            exact xorW_rule x y zm z2 (by omega) hsz msz _ (fun i hi => by have := hin.2 i hi; omega) (hrule j (List.mem_range.1 hj)) (mrule j (List.mem_range.1 hj))
          · rw [if_neg he]
            exact haw
        · rw [if_neg hB2, if_neg (by decide)]
          exact haw
      · rw [if_neg hB, if_neg (by decide), haw, Option.bind_some, if_pos rfl]
        rfl
    · rw [if_neg (by simp only [decide_eq_true_eq]; exact f2)]
      exact haw
  · rw [if_neg (by simp only [decide_eq_true_eq]; exact f1)]
    exact haw
end Go.Proofs.Ytghhmnjkgnoogaa.Pure
