import Derived.Test.YtmebebpnogemdaaPlainBits
import Derived.Laws.BitsLemmas
namespace Go.Mine
open Go Go.RowKit Go.Proofs.YtmebebpnogemdaaW.PrintWords Go.Proofs.YtmebebpnogemdaaW.PrintLast Go.Proofs.YtmebebpnogemdaaW.PrintMore
set_option linter.unusedSimpArgs false
set_option linter.unusedVariables false

/-- A number in k bytes, the highest first. -/
def beL (n : Nat) : Nat → List Int
  | 0 => []
  | k + 1 => ((n / 256 ^ k % 256 : Nat) : Int) :: beL n k
theorem beL_length (n k : Nat) : (beL n k).length = k := by
  induction k with
  | zero => rfl
  | succ k ih => simp [beL, ih]
def numS (n k : Nat) : ByteArray := strOfNums (beL n k)
theorem numS_size (n k : Nat) : (numS n k).size = k := by rw [numS, strOfNums_size', beL_length]
theorem p256_pos (k : Nat) : 0 < 256 ^ k := Nat.pow_pos (by decide)
theorem p256_succ (k : Nat) : 256 ^ (k + 1) = 256 * 256 ^ k := by rw [Nat.pow_succ, Nat.mul_comm]
theorem p256_two (k : Nat) : 2 ^ (8 * k) = 256 ^ k := by rw [Nat.pow_mul]
theorem p256_le7 (k : Nat) (h : k ≤ 7) : 256 ^ k ≤ 72057594037927936 := Nat.le_trans (Nat.pow_le_pow_right (by decide) h) (by decide)

/-- What Put answers. -/
def putR (n size : Int) : ByteArray × Int :=
  if size < 1 ∨ 7 < size then (⟨#[]⟩, 1) else if n < 0 ∨ ((256 ^ size.toNat : Nat) : Int) ≤ n then (⟨#[]⟩, 8) else (numS n.toNat size.toNat, 0)
theorem putR_size (n size : Int) : (putR n size).1.size ≤ 7 := by
  unfold putR
  split
  · decide
  · split
    · decide
    · rw [numS_size]; omega

/-- The number that bytes are, behind a. -/
def valL : List UInt8 → Nat → Nat
  | [], a => a
  | c :: l, a => valL l (256 * a + c.toNat)
theorem valL_nil (a : Nat) : valL [] a = a := rfl
theorem valL_cons (c : UInt8) (l : List UInt8) (a : Nat) : valL (c :: l) a = valL l (256 * a + c.toNat) := rfl
theorem valL_lt (l : List UInt8) : ∀ a k, a < 256 ^ k → valL l a < 256 ^ (k + l.length) := by
  induction l with
  | nil => intro a k h; exact h
  | cons c l ih =>
    intro a k h
    have hc := c.toNat_lt
    have h1 : 256 * a + c.toNat < 256 ^ (k + 1) := by rw [p256_succ]; omega
    have := ih _ _ h1
    rw [show k + 1 + l.length = k + (c :: l).length by simp; omega] at this
    exact this
def getR (s : ByteArray) : Int := if s.size > 7 then 0 else ((valL s.data.toList 0 : Nat) : Int)

theorem i64_or_nat (a b : Nat) (ha : a < 9223372036854775808) (hb : b < 9223372036854775808) : Go.bits .or .i64 (a : Int) (b : Int) = ((a ||| b : Nat) : Int) :=
  (bits_nat .i64 63 (by decide) (fun n h0 h1 => by rw [IntKind.wrap_i64]; omega) a b ha hb).2
theorem or_low (n c : Nat) (hc : c < 256) : (n * 256) ||| c = n * 256 + c := by
  have := Nat.two_pow_add_eq_or_of_lt (i := 8) (b := c) hc n
  rw [show (2 : Nat) ^ 8 * n = n * 256 by rw [Nat.mul_comm]] at this
  exact this.symm

theorem get_step (a c : Nat) (hc : c < 256) (ha : 256 * a + c < 72057594037927936) : Go.bits .or .i64 (wrap64 ((a : Int) * 256)) (wrap64 (c : Int)) = ((256 * a + c : Nat) : Int) := by
  have e1 : wrap64 ((a : Int) * 256) = ((a * 256 : Nat) : Int) := by
    rw [wrap64_id _ (by omega) (by omega)]
    omega
  have e2 : wrap64 (c : Int) = (c : Int) := wrap64_id _ (by omega) (by omega)
  have e3 := i64_or_nat (a * 256) c (by omega) (by omega)
  rw [or_low _ _ hc] at e3
  rw [e1, e2, e3]
  omega

/-- The bytes of a number say it. -/
theorem ofNat_toNat (x : Nat) (h : x < 256) : (UInt8.ofNat x).toNat = x := by simp; omega
theorem valL_be (n : Nat) (k : Nat) : ∀ a, valL ((beL n k).map fun x => UInt8.ofNat x.toNat) a = a * 256 ^ k + n % 256 ^ k := by
  induction k with
  | zero => intro a; simp [beL, valL, Nat.mod_one]
  | succ k ih =>
    intro a
    have hb : n / 256 ^ k % 256 < 256 := Nat.mod_lt _ (by decide)
    simp only [beL, List.map_cons, valL, Int.toNat_natCast]
    rw [ofNat_toNat _ hb, ih, p256_succ, Nat.mul_comm 256 (256 ^ k), Nat.mod_mul]
    rw [Nat.add_mul, Nat.mul_comm 256 a, Nat.mul_assoc, Nat.mul_comm 256 (256 ^ k), Nat.mul_comm (n / 256 ^ k % 256)]
    omega
theorem numS_data (n k : Nat) : (numS n k).data.toList = (beL n k).map fun x => UInt8.ofNat x.toNat := strOfNums_data _
theorem getR_numS (n k : Nat) (hk : k ≤ 7) (hn : n < 256 ^ k) : getR (numS n k) = (n : Int) := by
  unfold getR
  rw [if_neg (by rw [numS_size]; omega), numS_data, valL_be, Nat.zero_mul, Nat.zero_add, Nat.mod_eq_of_lt hn]

/-- Numbers of one size stand as their bytes do. -/
theorem beL_mod (n : Nat) (k : Nat) : beL (n % 256 ^ k) k = beL n k := by
  suffices h : ∀ j, j ≤ k → beL (n % 256 ^ k) j = beL n j from h k (Nat.le_refl _)
  intro j
  induction j with
  | zero => intro _; rfl
  | succ j ih =>
    intro hj
    simp only [beL]
    rw [ih (by omega)]
    congr 2
    have e : 256 ^ k = 256 ^ j * (256 * 256 ^ (k - j - 1)) := by
      rw [← p256_succ, ← Nat.pow_add]
      congr 1
      omega
    rw [e, Nat.mod_mul_right_div_self, Nat.mod_mul_right_mod]
theorem less_be (k : Nat) : ∀ a b : Nat, a < 256 ^ k → b < 256 ^ k →
    Op.bytesLess ((beL a k).map fun x => UInt8.ofNat x.toNat) ((beL b k).map fun x => UInt8.ofNat x.toNat) = decide (a < b) := by
  induction k with
  | zero =>
    intro a b ha hb
    have h1 : a = 0 := by simpa using ha
    have h2 : b = 0 := by simpa using hb
    subst h1 h2
    rfl
  | succ k ih =>
    intro a b ha hb
    rw [p256_succ] at ha hb
    have hp := p256_pos k
    have ea : a / 256 ^ k < 256 := Nat.div_lt_of_lt_mul (by rw [Nat.mul_comm]; exact ha)
    have eb : b / 256 ^ k < 256 := Nat.div_lt_of_lt_mul (by rw [Nat.mul_comm]; exact hb)
    have ih' := ih (a % 256 ^ k) (b % 256 ^ k) (Nat.mod_lt _ hp) (Nat.mod_lt _ hp)
    rw [beL_mod, beL_mod] at ih'
    simp only [beL, List.map_cons, Int.toNat_natCast, Nat.mod_eq_of_lt ea, Nat.mod_eq_of_lt eb]
    have da := Nat.div_add_mod a (256 ^ k)
    have db := Nat.div_add_mod b (256 ^ k)
    have ma := Nat.mod_lt a hp
    have mb := Nat.mod_lt b hp
    show (decide (UInt8.ofNat (a / 256 ^ k) < UInt8.ofNat (b / 256 ^ k)) || (UInt8.ofNat (a / 256 ^ k) == UInt8.ofNat (b / 256 ^ k) && Op.bytesLess _ _)) = _
    rw [ih', Bool.eq_iff_iff]
    simp only [Bool.or_eq_true, decide_eq_true_eq, Bool.and_eq_true, beq_iff_eq, UInt8.lt_iff_toNat_lt, ← UInt8.toNat_inj, ofNat_toNat _ ea, ofNat_toNat _ eb]
    generalize a / 256 ^ k = qa at *
    generalize b / 256 ^ k = qb at *
    generalize a % 256 ^ k = ra at *
    generalize b % 256 ^ k = rb at *
    generalize 256 ^ k = p at *
    constructor
    · rintro (h | ⟨h, h2⟩)
      · have := Nat.mul_le_mul_left p (show qa + 1 ≤ qb by omega)
        rw [Nat.mul_succ] at this
        omega
      · rw [h] at da; omega
    · intro h
      rcases Nat.lt_trichotomy qa qb with h1 | h1 | h1
      · exact .inl h1
      · refine .inr ⟨h1, ?_⟩
        rw [h1] at da; omega
      · have := Nat.mul_le_mul_left p (show qb + 1 ≤ qa by omega)
        rw [Nat.mul_succ] at this
        omega
theorem beL_inj (k : Nat) : ∀ a b : Nat, a < 256 ^ k → b < 256 ^ k → beL a k = beL b k → a = b := by
  intro a b ha hb h
  have h1 := valL_be a k 0
  have h2 := valL_be b k 0
  rw [h, h2, Nat.mod_eq_of_lt ha, Nat.mod_eq_of_lt hb] at h1
  omega
end Go.Mine
