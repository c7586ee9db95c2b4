/- Floats from patterns and back: what each small function gives. -/
import Derived.Test.YtjapohefiggbaaaGreatDoorNumC
import Derived.Laws.FloatArith
namespace Go.Proofs.YtjapohefiggbaaaGreatDoor
open Go.RowKit

theorem run_from (x : Int) (w : World) : (callFunc 132 #[.int .u64 x]).run Tryz.prog w = .ok (.value (.float .f64 x.toNat)) w :=
  run_callFunc_extern Tryz.func132 (by kernel_rfl) (by kernel_rfl) (by kernel_rfl) (e := Extern.MathFloatBits.float64frombits) (by kernel_rfl) #[.int .u64 x] w
theorem run_bits (x : Nat) (w : World) : (callFunc 173 #[.float .f64 x]).run Tryz.prog w = .ok (.value (.int .u64 x)) w :=
  run_callFunc_extern Tryz.func173 (by kernel_rfl) (by kernel_rfl) (by kernel_rfl) (e := Extern.MathFloatBits.float64bits) (by kernel_rfl) #[.float .f64 x] w

set_option maxRecDepth 100000 in
set_option maxHeartbeats 400000 in
theorem real64_calls (x : Int) (w : World) :
    Calls Tryz.prog 84 #[.int .u64 x] w fun e w' => e = .returned (.float .f64 x.toNat) ∧ w = w' := by
  have hx := run_from x w
  go_enter Tryz.func84, Tryz.ntmps84
  go_wp2_with fail
  go_ret
  exact ⟨rfl, rfl⟩

set_option maxRecDepth 100000 in
set_option maxHeartbeats 400000 in
theorem word_calls (x : Nat) (w : World) (h : x < 18446744073709551616) :
    Calls Tryz.prog 133 #[.float .f64 x] w (RetU w) := by
  have hx := run_bits x w
  go_enter Tryz.func133, Tryz.ntmps133
  go_wp2_with fail
  all_goals (go_ret; exact ⟨_, rfl, by omega, by omega, rfl⟩)

/-- A sum, difference, product or quotient is a float, if a drawn NaN. -/
theorem arith_any (op : BinOp) (t : TypeId) (x y : Nat) (w : World) (hop : op = .add ∨ op = .sub ∨ op = .mul ∨ op = .quo) :
    ∃ (r m : Nat), r < 18446744073709551616 ∧ (binOp op t (.float .f64 x) (.float .f64 y)).run Tryz.prog w = .ok (.float .f64 r) (w.drewN m) := by
  cases h : floatBits op .f64 x y with
  | some r =>
    refine ⟨r, 0, ?_, run_float_arith w op t .f64 x y r h⟩
    have := floatBits_wf h
    simpa [Lit.wf] using this
  | none =>
    refine ⟨Question.cut (.nanBits .f64 x y) (w.tape w.drawn (.nanBits .f64 x y)), 1, ?_, ?_⟩
    · simp only [Question.cut]; omega
    · unfold floatBits at h
      rcases hop with rfl | rfl | rfl | rfl <;> simp only at h <;> simp [binOp, Op.floatArith, h, Question.forced] <;> rfl


set_option maxRecDepth 100000 in
set_option maxHeartbeats 1000000 in
theorem iAdd_calls (x y : Int) (w : World) :
    Calls Tryz.prog 85 #[.int .u64 x, .int .u64 y] w (RetK w) := by
  obtain ⟨r, m, hr, hrun⟩ := arith_any .add 121 x.toNat y.toNat w (by simp)
  go_enter Tryz.func85, Tryz.ntmps85
  go_wp2_with (go_at_call 84; (with_reducible refine (real64_calls _ _).mono ?_); rintro e w' ⟨rfl, rfl⟩)
  (with_reducible refine (word_calls r _ hr).mono ?_); rintro e w' ⟨z, rfl, h0, h1, rfl⟩
  go_wp2_with fail
  go_ret
  exact ⟨_, rfl, h0, h1, (Keep.refl _ _).drewN _⟩

set_option maxRecDepth 100000 in
set_option maxHeartbeats 1000000 in
theorem iMul_calls (x y : Int) (w : World) :
    Calls Tryz.prog 87 #[.int .u64 x, .int .u64 y] w (RetK w) := by
  obtain ⟨r, m, hr, hrun⟩ := arith_any .mul 121 x.toNat y.toNat w (by simp)
  go_enter Tryz.func87, Tryz.ntmps87
  go_wp2_with (go_at_call 84; (with_reducible refine (real64_calls _ _).mono ?_); rintro e w' ⟨rfl, rfl⟩)
  (with_reducible refine (word_calls r _ hr).mono ?_); rintro e w' ⟨z, rfl, h0, h1, rfl⟩
  go_wp2_with fail
  go_ret
  exact ⟨_, rfl, h0, h1, (Keep.refl _ _).drewN _⟩

set_option maxRecDepth 100000 in
set_option maxHeartbeats 1000000 in
theorem iDiv_calls (x y : Int) (w : World) :
    Calls Tryz.prog 88 #[.int .u64 x, .int .u64 y] w (RetK w) := by
  obtain ⟨r, m, hr, hrun⟩ := arith_any .quo 121 x.toNat y.toNat w (by simp)
  go_enter Tryz.func88, Tryz.ntmps88
  go_wp2_with (go_at_call 84; (with_reducible refine (real64_calls _ _).mono ?_); rintro e w' ⟨rfl, rfl⟩)
  (with_reducible refine (word_calls r _ hr).mono ?_); rintro e w' ⟨z, rfl, h0, h1, rfl⟩
  go_wp2_with fail
  go_ret
  exact ⟨_, rfl, h0, h1, (Keep.refl _ _).drewN _⟩

/-- Two patterns are the same number. -/
def feq (x y : Int) : Bool := Ieee.double.order x.toNat y.toNat == some .eq

set_option maxRecDepth 100000 in
set_option maxHeartbeats 1000000 in
theorem iEqual_calls (x y : Int) (w : World) :
    Calls Tryz.prog 43 #[.int .u64 x, .int .u64 y] w fun e w' => e = .returned (.bool (feq x y)) ∧ w = w' := by
  go_enter Tryz.func43, Tryz.ntmps43
  go_wp2_with (go_at_call 84; (with_reducible refine (real64_calls _ _).mono ?_); rintro e w' ⟨rfl, rfl⟩)
  go_ret
  exact ⟨rfl, rfl⟩

set_option maxRecDepth 100000 in
set_option maxHeartbeats 1000000 in
theorem iLess_calls (x y : Int) (w : World) :
    Calls Tryz.prog 42 #[.int .u64 x, .int .u64 y] w fun e w' => ∃ b : Bool, e = .returned (.bool b) ∧ w = w' := by
  go_enter Tryz.func42, Tryz.ntmps42
  go_wp2_with (go_at_call 84; (with_reducible refine (real64_calls _ _).mono ?_); rintro e w' ⟨rfl, rfl⟩)
  go_ret
  exact ⟨_, rfl, rfl⟩

theorem and63 (x : Int) (h0 : 0 ≤ x) (h1 : x ≤ 18446744073709551615) : Go.bits .and .u64 x 9223372036854775807 = x % 9223372036854775808 := by
  show IntKind.u64.wrap _ = _
  have e : (BitVec.ofInt IntKind.u64.bits x &&& BitVec.ofInt IntKind.u64.bits 9223372036854775807).toNat = (BitVec.ofInt 64 x).toNat % 9223372036854775808 := by
    show (BitVec.ofInt 64 x &&& BitVec.ofInt 64 9223372036854775807).toNat = _
    rw [BitVec.toNat_and]
    exact Nat.and_two_pow_sub_one_eq_mod _ 63
  rw [e]
  have : (BitVec.ofInt 64 x).toNat = x.toNat := by simp [BitVec.toNat_ofInt]; omega
  rw [this, IntWalk.u64_in _ (by omega)]
  omega

theorem pk_nan (x : Int) (h0 : 0 ≤ x) (h1 : x ≤ 18446744073709551615) : (pk x == 1) = decide (9218868437227405312 < x % 9223372036854775808) := by
  rw [Bool.eq_iff_iff]; simp only [beq_iff_eq, decide_eq_true_eq]
  unfold pk pe pf
  split
  · split <;> omega
  · split <;> omega

set_option maxRecDepth 100000 in
set_option maxHeartbeats 1000000 in
theorem isNaN_calls (x : Int) (w : World) (h0 : 0 ≤ x) (h1 : x ≤ 18446744073709551615) :
    Calls Tryz.prog 95 #[.int .u64 x] w fun e w' => e = .returned (.bool (pk x == 1)) ∧ w = w' := by
  have ha := and63 x h0 h1
  go_enter Tryz.func95, Tryz.ntmps95
  go_wp2_with fail
  go_ret
  exact ⟨by rw [pk_nan x h0 h1, ← ha]; rfl, rfl⟩

set_option maxRecDepth 100000 in
set_option maxHeartbeats 1000000 in
theorem iNegate_calls (x : Int) (w : World) (h0 : 0 ≤ x) (h1 : x ≤ 18446744073709551615) :
    Calls Tryz.prog 60 #[.int .u64 x] w fun e w' => e = .returned (.int .u64 (ng x)) ∧ w = w' := by
  go_enter Tryz.func60, Tryz.ntmps60
  go_wp2_with fail
  (with_reducible refine (isNaN_calls x _ h0 h1).mono ?_); rintro e w1 ⟨rfl, rfl⟩
  by_cases hb : pk x = 1
  · rw [show (pk x == 1) = true from by simp [hb]]
    go_wp2_with fail
    go_ret
    exact ⟨by unfold ng; rw [if_pos hb]; rfl, rfl⟩
  · rw [show (pk x == 1) = false from by simp [hb]]
    go_wp2_with fail
    go_ret
    exact ⟨by unfold ng; rw [if_neg hb]; rfl, rfl⟩

set_option maxRecDepth 100000 in
set_option maxHeartbeats 1000000 in
theorem iSub_calls (x y : Int) (w : World) (h2 : 0 ≤ y) (h3 : y ≤ 18446744073709551615) :
    Calls Tryz.prog 86 #[.int .u64 x, .int .u64 y] w (RetK w) := by
  go_enter Tryz.func86, Tryz.ntmps86
  go_wp2_with fail
  (with_reducible refine (iNegate_calls y _ h2 h3).mono ?_); rintro e w1 ⟨rfl, rfl⟩
  go_wp2_with fail
  (with_reducible refine (iAdd_calls _ _ _).mono ?_); rintro e w1 ⟨z, rfl, h0, h1, hk⟩
  go_wp2_with fail
  go_ret
  exact ⟨_, rfl, h0, h1, hk⟩
end Go.Proofs.YtjapohefiggbaaaGreatDoor
