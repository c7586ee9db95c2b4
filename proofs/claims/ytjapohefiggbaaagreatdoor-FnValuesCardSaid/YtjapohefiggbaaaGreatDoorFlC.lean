/- Floats in plain numbers: what is below nought, what is no number; bits that are cut off. -/
import Derived.Test.YtjapohefiggbaaaGreatDoorFlA
import Derived.Test.YtjapohefiggbaaaGreatDoorFlB
namespace Go.Proofs.YtjapohefiggbaaaGreatDoor
open Go.RowKit Ieee

namespace Fl
theorem read_neg (z : Nat) (h : 2 ^ 63 ≤ z) (h2 : z < 2 ^ 64) : (∃ m p, double.read z = .number true m p) ∨ double.read z = .infinity true ∨ ∃ f, double.read z = .nan true f := by
  have h1 : z / 2 ^ 63 % 2 = 1 := by omega
  unfold Format.read
  simp only [sw, h1]
  split
  · exact .inl ⟨_, _, rfl⟩
  · split
    · exact .inl ⟨_, _, rfl⟩
    · split
      · exact .inr (.inl rfl)
      · exact .inr (.inr ⟨_, rfl⟩)

theorem V_pos {y : Nat} (h : 0 < y) : 0 < V y := by
  unfold V
  split
  · exact h
  · exact Nat.mul_pos (by omega) (Nat.two_pow_pos _)

theorem order_neg (z y : Nat) (h : 2 ^ 63 ≤ z) (h2 : z < 2 ^ 64) (hy0 : 0 < y) (hy : y ≤ 2047 * 2 ^ 52) :
    (double.order z y == some .gt || double.order z y == some .eq) = false := by
  by_cases hi : y = 2047 * 2 ^ 52
  · have e : double.read y = .infinity false := by subst hi; decide
    unfold Format.order
    rcases read_neg z h h2 with ⟨m, p, e1⟩ | e1 | ⟨f, e1⟩ <;> rw [e1, e] <;> simp [Datum.order]
    decide
  · obtain ⟨n, u, e, v⟩ := read_pos y (by omega)
    unfold Format.order
    rcases read_neg z h h2 with ⟨m, p, e1⟩ | e1 | ⟨f, e1⟩ <;> rw [e1, e]
    · simp only [Datum.order, signed, if_true, Bool.false_eq_true, if_false, Nat.shiftLeft_eq]
      have hn : 0 < n := by
        have := V_pos hy0
        rw [← v] at this
        exact Nat.pos_of_mul_pos_right this
      generalize (p - min p ((u : Int) - 1074)).toNat = a
      generalize ((u : Int) - 1074 - min p ((u : Int) - 1074)).toNat = b
      have : 0 < n * 2 ^ b := Nat.mul_pos hn (Nat.two_pow_pos _)
      rw [Int.compare_eq_lt.2 (by omega)]
      decide
    · simp [Datum.order]
    · simp [Datum.order]

theorem order_inf (z : Nat) (h : z < 2047 * 2 ^ 52) : (double.order z (2047 * 2 ^ 52) == some .gt || double.order z (2047 * 2 ^ 52) == some .eq) = false := by
  obtain ⟨n, u, e, v⟩ := read_pos z h
  have e1 : double.read (2047 * 2 ^ 52) = .infinity false := by decide
  unfold Format.order
  rw [e, e1]; simp [Datum.order]

theorem order_self (x : Nat) : (double.order x x == some .eq) = !(double.read x).isNaN := by
  unfold Format.order
  cases h : double.read x with
  | number s m p => simp [Datum.order, Datum.isNaN]
  | infinity s => simp [Datum.order, Datum.isNaN]
  | nan s f => simp [Datum.order, Datum.isNaN]

theorem read_nan (x : Nat) : (double.read x).isNaN = decide (2047 * 2 ^ 52 < x % 2 ^ 63) := by
  unfold Format.read
  simp only [sw, bn, ir]
  split
  · simp [Datum.isNaN]; omega
  · split
    · simp [Datum.isNaN]; omega
    · split
      · simp [Datum.isNaN]; omega
      · simp [Datum.isNaN]; omega

theorem eq_comm' (x y : Nat) : (double.order x y == some .eq) = (double.order y x == some .eq) := by
  unfold Format.order
  cases double.read x with
  | nan s f => cases double.read y <;> simp [Datum.order]
  | infinity s => cases double.read y <;> simp [Datum.order] <;> (rename_i t; cases s <;> cases t <;> decide)
  | number s m i =>
    cases double.read y with
    | nan t f => simp [Datum.order]
    | infinity t => cases t <;> simp [Datum.order]
    | number t n j =>
      simp only [Datum.order]
      rw [Int.min_comm j i]
      generalize signed s m _ = a
      generalize signed t n _ = b
      rw [Bool.eq_iff_iff]
      simp only [beq_iff_eq, Option.some.injEq, Int.compare_eq_eq]
      exact ⟨Eq.symm, Eq.symm⟩
end Fl

theorem feq_comm (x y : Int) : feq x y = feq y x := Fl.eq_comm' _ _
theorem feq_self (x : Int) (h0 : 0 ≤ x) (h1 : x ≤ 18446744073709551615) : feq x x = (pk x != 1) := by
  unfold feq
  rw [Fl.order_self, Fl.read_nan, bne, pk_nan x h0 h1]
  congr 1
  rw [decide_eq_decide]
  omega

theorem ofInt_nat (x : Nat) (h : x < 2 ^ 64) : (BitVec.ofInt 64 (x : Int)).toNat = x := by
  simp [BitVec.toNat_ofInt]; omega
theorem and_low (x : Nat) (c : Nat) (k : Nat) (hx : x < 2 ^ 63) (hc : 9223372036854775807 &&& c = 2 ^ k - 1) : x &&& c = x % 2 ^ k := by
  have e : x = x &&& (2 ^ 63 - 1) := by rw [Nat.and_two_pow_sub_one_eq_mod, Nat.mod_eq_of_lt hx]
  rw [e, Nat.and_assoc]
  have : (2 ^ 63 - 1) &&& c = 2 ^ k - 1 := hc
  rw [this, Nat.and_two_pow_sub_one_eq_mod, ← e]
theorem bits_andNot63 (x : Nat) (h : x < 2 ^ 64) : Go.bits .andNot .u64 (x : Int) 9223372036854775808 = ((x % 2 ^ 63 : Nat) : Int) := by
  show IntKind.u64.wrap _ = _
  have e : (BitVec.ofInt IntKind.u64.bits (x : Int) &&& ~~~ BitVec.ofInt IntKind.u64.bits 9223372036854775808).toNat = x % 2 ^ 63 := by
    show (BitVec.ofInt 64 (x : Int) &&& ~~~ BitVec.ofInt 64 9223372036854775808).toNat = _
    rw [BitVec.toNat_and, ofInt_nat x h, show (~~~ BitVec.ofInt 64 9223372036854775808).toNat = 2 ^ 63 - 1 from by decide]
    exact Nat.and_two_pow_sub_one_eq_mod _ 63
  rw [e, IntWalk.u64_in _ (by omega)]
theorem bits_frac (x : Nat) (h : x < 2 ^ 63) : Go.bits .andNot .u64 (x : Int) 9218868437227405312 = ((x % 2 ^ 52 : Nat) : Int) := by
  show IntKind.u64.wrap _ = _
  have e : (BitVec.ofInt IntKind.u64.bits (x : Int) &&& ~~~ BitVec.ofInt IntKind.u64.bits 9218868437227405312).toNat = x % 2 ^ 52 := by
    show (BitVec.ofInt 64 (x : Int) &&& ~~~ BitVec.ofInt 64 9218868437227405312).toNat = _
    rw [BitVec.toNat_and, ofInt_nat x (by omega), show (~~~ BitVec.ofInt 64 9218868437227405312).toNat = 9227875636482146303 from by decide]
    exact and_low x _ 52 h (by decide)
  rw [e, IntWalk.u64_in _ (by omega)]
theorem bits_exp (x : Nat) (h : x < 2048) : Go.bits .and .u64 (x : Int) 2047 = (x : Int) := by
  show IntKind.u64.wrap _ = _
  have e : (BitVec.ofInt IntKind.u64.bits (x : Int) &&& BitVec.ofInt IntKind.u64.bits 2047).toNat = x := by
    show (BitVec.ofInt 64 (x : Int) &&& BitVec.ofInt 64 2047).toNat = _
    rw [BitVec.toNat_and, ofInt_nat x (by omega)]
    show x &&& (2 ^ 11 - 1) = x
    rw [Nat.and_two_pow_sub_one_eq_mod, Nat.mod_eq_of_lt h]
  rw [e, IntWalk.u64_in _ (by omega)]
theorem bits_expi (x : Nat) (h : x < 2048) : Go.bits .and .i64 (x : Int) 2047 = (x : Int) := by
  show IntKind.i64.wrap _ = _
  have e : (BitVec.ofInt IntKind.i64.bits (x : Int) &&& BitVec.ofInt IntKind.i64.bits 2047).toNat = x := by
    show (BitVec.ofInt 64 (x : Int) &&& BitVec.ofInt 64 2047).toNat = _
    rw [BitVec.toNat_and, ofInt_nat x (by omega)]
    show x &&& (2 ^ 11 - 1) = x
    rw [Nat.and_two_pow_sub_one_eq_mod, Nat.mod_eq_of_lt h]
  rw [e, IntWalk.i64_in _ (by omega)]
theorem bits_or (f E : Nat) (hf : f < 2 ^ 52) (hE : E < 2048) : Go.bits .or .u64 (f : Int) ((E * 2 ^ 52 : Nat) : Int) = ((E * 2 ^ 52 + f : Nat) : Int) := by
  show IntKind.u64.wrap _ = _
  have hb : E * 2 ^ 52 ≤ 2047 * 2 ^ 52 := Nat.mul_le_mul_right _ (by omega)
  have e : (BitVec.ofInt IntKind.u64.bits (f : Int) ||| BitVec.ofInt IntKind.u64.bits ((E * 2 ^ 52 : Nat) : Int)).toNat = E * 2 ^ 52 + f := by
    show (BitVec.ofInt 64 (f : Int) ||| BitVec.ofInt 64 ((E * 2 ^ 52 : Nat) : Int)).toNat = _
    rw [BitVec.toNat_or, ofInt_nat f (by omega), ofInt_nat _ (by omega), Nat.or_comm, ← Nat.shiftLeft_eq, ← Nat.shiftLeft_add_eq_or_of_lt hf]
  rw [e, IntWalk.u64_in _ (by omega)]
theorem neg_lt (x : Nat) (h : x < 2 ^ 64) : x ^^^ 2 ^ 63 < 2 ^ 64 := Nat.xor_lt_two_pow h (by decide)
theorem neg_pos (x : Nat) (h : 2 ^ 63 ≤ x) (h2 : x < 2 ^ 64) : x ^^^ 2 ^ 63 = x - 2 ^ 63 := by
  obtain ⟨y, rfl, hy⟩ : ∃ y, x = 2 ^ 63 + y ∧ y < 2 ^ 63 := ⟨x - 2 ^ 63, by omega, by omega⟩
  have e : 2 ^ 63 + y = 2 ^ 63 ^^^ y := by
    have := Nat.shiftLeft_add_eq_or_of_lt hy 1
    rw [Nat.one_shiftLeft] at this
    rw [this]
    apply Nat.eq_of_testBit_eq
    intro i
    simp only [Nat.testBit_or, Nat.testBit_xor, Nat.testBit_two_pow]
    by_cases hi : 63 = i
    · subst hi; simp [Nat.testBit_lt_two_pow hy]
    · simp [hi]
  rw [e, Nat.xor_comm, ← Nat.xor_assoc, Nat.xor_self, Nat.zero_xor, ← e]
  omega
end Go.Proofs.YtjapohefiggbaaaGreatDoor
