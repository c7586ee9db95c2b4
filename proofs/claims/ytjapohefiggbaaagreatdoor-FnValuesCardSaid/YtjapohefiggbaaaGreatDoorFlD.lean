/- The small functions of package math, walked. -/
import Derived.Test.YtjapohefiggbaaaGreatDoorFlC
namespace Go.Proofs.YtjapohefiggbaaaGreatDoor
open Go.RowKit

/-- A float of 64 bits. -/
theorem run_from' (x : Nat) (w : World) : (callFunc 132 #[.int .u64 (x : Int)]).run Tryz.prog w = .ok (.value (.float .f64 x)) w := by
  have := run_from (x : Int) w
  rwa [Int.toNat_natCast] at this

set_option maxRecDepth 100000 in
set_option maxHeartbeats 1000000 in
theorem Abs_calls (x : Nat) (w : World) (h : x < 2 ^ 64) :
    Calls Tryz.prog 177 #[.float .f64 x] w fun e w' => e = .returned (.float .f64 (x % 2 ^ 63)) ∧ w = w' := by
  have h1 := run_bits x w
  have h2 : (callFunc 132 #[.int .u64 ((x : Int) % 9223372036854775808)]).run Tryz.prog w = .ok (.value (.float .f64 (x % 2 ^ 63))) w := by
    have := run_from' (x % 2 ^ 63) w
    rwa [show ((x % 2 ^ 63 : Nat) : Int) = (x : Int) % 9223372036854775808 from by omega] at this
  have h3 := bits_andNot63 x h
  go_enter Tryz.func177, Tryz.ntmps177
  go_wp2_with fail
  go_ret
  exact ⟨rfl, rfl⟩

set_option maxRecDepth 100000 in
set_option maxHeartbeats 1000000 in
theorem IsNaN_calls (x : Nat) (w : World) :
    Calls Tryz.prog 222 #[.float .f64 x] w fun e w' => e = .returned (.bool (Ieee.double.order x x != some .eq)) ∧ w = w' := by
  go_enter Tryz.func222, Tryz.ntmps222
  go_wp2_with fail
  go_ret
  exact ⟨rfl, rfl⟩

set_option maxRecDepth 100000 in
set_option maxHeartbeats 1000000 in
theorem NaN_calls (w : World) :
    Calls Tryz.prog 223 #[] w fun e w' => e = .returned (.float .f64 9221120237041090561) ∧ w = w' := by
  have h2 := run_from 9221120237041090561 w
  go_enter Tryz.func223, Tryz.ntmps223
  go_wp2_with fail
  go_ret
  exact ⟨rfl, rfl⟩

set_option maxRecDepth 100000 in
set_option maxHeartbeats 1000000 in
theorem IsInf_calls (x : Nat) (w : World) (h : x < 2 ^ 64) :
    Calls Tryz.prog 221 #[.float .f64 x, .int .i64 0] w fun e w' => e = .returned (.bool (Ieee.double.order (x % 2 ^ 63) 9218868437227405311 == some .gt)) ∧ w = w' := by
  go_enter Tryz.func221, Tryz.ntmps221
  go_wp2_with (go_at_call 177; (with_reducible refine (Abs_calls _ _ h).mono ?_); rintro e w' ⟨rfl, rfl⟩)
  go_ret
  exact ⟨rfl, rfl⟩

namespace Fl
open Ieee
/-- The normal rung that stands for one, and what its place is off by. -/
def nm (r : Nat) : Nat := if r < 2 ^ 52 then r.log2 * 2 ^ 52 + r * 2 ^ (52 - r.log2) else r
def ne (r : Nat) : Int := if r < 2 ^ 52 then -52 else 0

theorem nm_spec (r : Nat) (h0 : 0 < r) (h : r < 2047 * 2 ^ 52) : ∃ E f, nm r = E * 2 ^ 52 + f ∧ f < 2 ^ 52 ∧ 1 ≤ E ∧ E ≤ 2046 ∧ (E : Int) + ne r = (Lg r : Int) - 51 := by
  unfold nm ne Lg
  by_cases hr : r < 2 ^ 52
  · rw [if_pos hr, if_pos hr, if_pos hr]
    have hL : r.log2 < 52 := (Nat.log2_lt (by omega)).2 hr
    have k1 : 2 ^ 52 ≤ r * 2 ^ (52 - r.log2) := by
      have : 2 ^ r.log2 * 2 ^ (52 - r.log2) ≤ r * 2 ^ (52 - r.log2) := Nat.mul_le_mul_right _ (Nat.log2_self_le (by omega))
      rwa [← Nat.pow_add, show r.log2 + (52 - r.log2) = 52 from by omega] at this
    have k2 : r * 2 ^ (52 - r.log2) < 2 ^ 53 := by
      have : r * 2 ^ (52 - r.log2) < 2 ^ (r.log2 + 1) * 2 ^ (52 - r.log2) := Nat.mul_lt_mul_of_pos_right Nat.lt_log2_self (Nat.two_pow_pos _)
      rwa [← Nat.pow_add, show r.log2 + 1 + (52 - r.log2) = 53 from by omega] at this
    generalize r * 2 ^ (52 - r.log2) = z at *
    refine ⟨r.log2 + 1, z - 2 ^ 52, ?_, by omega, by omega, by omega, by omega⟩
    rw [Nat.add_mul]; omega
  · rw [if_neg hr, if_neg hr, if_neg hr]
    exact ⟨r / 2 ^ 52, r % 2 ^ 52, by omega, by omega, by omega, by omega, by omega⟩

theorem ne_bd (r : Nat) : -52 ≤ ne r ∧ ne r ≤ 0 := by unfold ne; split <;> omega
theorem lt_self (x : Nat) : (double.order x x == some .lt) = false := by
  unfold Format.order
  cases double.read x with
  | number s m p => simp [Datum.order]
  | infinity s => simp [Datum.order]
  | nan s f => simp [Datum.order]
end Fl

set_option maxRecDepth 100000 in
set_option maxHeartbeats 1000000 in
theorem normalize_calls (r : Nat) (w : World) (h0 : 0 < r) (h : r < 2047 * 2 ^ 52) :
    Calls Tryz.prog 284 #[.float .f64 r] w fun e w' => e = .returned (.tuple #[.float .f64 (Fl.nm r), .int .i64 (Fl.ne r)]) ∧ w = w' := by
  have hm : r % 2 ^ 63 = r := Nat.mod_eq_of_lt (by omega)
  have ho : FloatKind.f64.format.order r 4503599627370496 = some (compare (Fl.V r) (Fl.V 4503599627370496)) := Fl.order_V r 4503599627370496 h (by decide)
  have hv : Fl.V 4503599627370496 = 4503599627370496 := by decide
  rw [hv] at ho
  by_cases hr : r < 2 ^ 52
  · rw [Fl.V_small (by omega), Nat.compare_eq_lt.2 hr] at ho
    have hmul := run_float_arith (P := Tryz.prog) w .mul 121 .f64 r 4841369599423283200 _ (Fl.up_mul r h0 hr)
    have e1 : Fl.nm r = r.log2 * 2 ^ 52 + r * 2 ^ (52 - r.log2) := by unfold Fl.nm; rw [if_pos hr]
    have e2 : Fl.ne r = -52 := by unfold Fl.ne; rw [if_pos hr]
    rw [← e1] at hmul
    go_enter Tryz.func284, Tryz.ntmps284
    go_wp2_with (go_at_call 177; (with_reducible refine (Abs_calls _ _ (by omega)).mono ?_); rintro e w' ⟨rfl, rfl⟩; rw [hm])
    refine bodyPost_ret (v := .tuple #[.float .f64 (Fl.nm r), .int .i64 (-52)]) (by simp only [results, Tryz.results284]; simp [go_sem, *]) rfl ⟨by rw [e2], rfl⟩
  · have hvr : ¬ Fl.V r < 4503599627370496 := by
      rw [Fl.V_ge (q := r) (by omega)]
      have := Nat.two_pow_pos (r / 2 ^ 52 - 1)
      have : (2 ^ 52 + r % 2 ^ 52) * 1 ≤ (2 ^ 52 + r % 2 ^ 52) * 2 ^ (r / 2 ^ 52 - 1) := Nat.mul_le_mul_left _ this
      omega
    have ho2 : (FloatKind.f64.format.order r 4503599627370496 == some .lt) = false := by
      rw [ho]
      rcases Nat.lt_trichotomy (Fl.V r) 4503599627370496 with h1 | h1 | h1
      · exact absurd h1 hvr
      · rw [Nat.compare_eq_eq.2 h1]; rfl
      · rw [Nat.compare_eq_gt.2 h1]; rfl
    have e1 : Fl.nm r = r := by unfold Fl.nm; rw [if_neg hr]
    have e2 : Fl.ne r = 0 := by unfold Fl.ne; rw [if_neg hr]
    clear ho hvr
    go_enter Tryz.func284, Tryz.ntmps284
    go_wp2_with (go_at_call 177; (with_reducible refine (Abs_calls _ _ (by omega)).mono ?_); rintro e w' ⟨rfl, rfl⟩; rw [hm])
    refine bodyPost_ret (v := .tuple #[.float .f64 r, .int .i64 0]) (by simp only [results, Tryz.results284]; simp [go_sem, *]) rfl ⟨by rw [e1, e2], rfl⟩

namespace Fl
/-- What is told of a float whose place is taken off. -/
def fx (r : Nat) : Nat := (Go.bits .or .u64 (Go.bits .andNot .u64 ((nm r : Nat) : Int) 9218868437227405312) 4602678819172646912).toNat
end Fl

set_option exponentiation.threshold 3000 in
theorem fin_inf (r : Nat) (h : r < 2047 * 2 ^ 52) : (FloatKind.f64.format.order (r % 2 ^ 63) 9218868437227405311 == some .gt) = false := by
  rw [Nat.mod_eq_of_lt (by omega)]
  have ho : FloatKind.f64.format.order r 9218868437227405311 = some (compare (Fl.V r) (Fl.V 9218868437227405311)) := Fl.order_V r _ h (by decide)
  rw [ho]
  have hv : Fl.V r ≤ Fl.V 9218868437227405311 := by
    have e : Fl.V 9218868437227405311 = (2 ^ 53 - 1) * 2 ^ 2045 := by
      rw [Fl.V_ge (by decide)]
    rw [e]
    by_cases hr : r < 2 ^ 52
    · rw [Fl.V_small (by omega)]
      exact Nat.le_trans (by omega : r ≤ (2 ^ 53 - 1) * 1) (Nat.mul_le_mul_left _ (Nat.two_pow_pos _))
    · rw [Fl.V_ge (by omega)]
      exact Nat.mul_le_mul (by omega) (Nat.pow_le_pow_right (by omega) (by omega))
  rcases Nat.lt_or_ge (Fl.V r) (Fl.V 9218868437227405311) with h1 | h1
  · rw [Nat.compare_eq_lt.2 h1]; rfl
  · rw [Nat.compare_eq_eq.2 (by omega)]; rfl
theorem fin_nan (r : Nat) (h : r < 2047 * 2 ^ 52) : (FloatKind.f64.format.order r r != some .eq) = false := by
  have := Fl.order_self r
  rw [Fl.read_nan, Nat.mod_eq_of_lt (by omega)] at this
  have h2 : decide (2047 * 2 ^ 52 < r) = false := by simp; omega
  rw [h2] at this
  show (! (Ieee.double.order r r == some .eq)) = false
  rw [this]; rfl
theorem fin_zero (r : Nat) (h0 : 0 < r) (h : r < 2047 * 2 ^ 52) : (FloatKind.f64.format.order r 0 == some .eq) = false := by
  have ho : FloatKind.f64.format.order r 0 = some (compare (Fl.V r) (Fl.V 0)) := Fl.order_V r _ h (by decide)
  rw [ho, show Fl.V 0 = 0 from by decide, Nat.compare_eq_gt.2 (Fl.V_pos h0)]; rfl

theorem IsInf_fin (r : Nat) (w : World) (h : r < 2047 * 2 ^ 52) :
    Calls Tryz.prog 221 #[.float .f64 r, .int .i64 0] w fun e w' => e = .returned (.bool false) ∧ w = w' :=
  (IsInf_calls r w (by omega)).mono fun _ _ q => ⟨by rw [q.1]; exact congrArg (fun b => Ending.returned (.bool b)) (fin_inf r h), q.2⟩
theorem IsNaN_fin (r : Nat) (w : World) (h : r < 2047 * 2 ^ 52) :
    Calls Tryz.prog 222 #[.float .f64 r] w fun e w' => e = .returned (.bool false) ∧ w = w' :=
  (IsNaN_calls r w).mono fun _ _ q => ⟨by rw [q.1]; exact congrArg (fun b => Ending.returned (.bool b)) (fin_nan r h), q.2⟩

set_option maxRecDepth 100000 in
set_option maxHeartbeats 2000000 in
theorem frexp_calls (r : Nat) (w : World) (h0 : 0 < r) (h : r < 2047 * 2 ^ 52) :
    Calls Tryz.prog 261 #[.float .f64 r] w fun e w' => e = .returned (.tuple #[.float .f64 (Fl.fx r), .int .i64 (Fl.Lg r - 1073)]) ∧ w = w' := by
  have f3 := fin_zero r h0 h
  obtain ⟨E, f, hn, hf, hE1, hE2, hEe⟩ := Fl.nm_spec r h0 h
  have hb1 := run_bits (Fl.nm r) w
  have hs : ((Fl.nm r : Nat) : Int) / 4503599627370496 = (E : Int) := by rw [hn]; omega
  have he := bits_exp E (by omega)
  have hnb := Fl.ne_bd r
  clear hn
  have hff : ∀ q : Int, (callFunc 132 #[.int .u64 q]).run Tryz.prog w = .ok (.value (.float .f64 q.toNat)) w := fun q => run_from q w
  go_enter Tryz.func261, Tryz.ntmps261
  go_wp2_with (first
    | (go_at_call 221; (with_reducible refine (IsInf_fin _ _ h).mono ?_); rintro e w' ⟨rfl, rfl⟩)
    | (go_at_call 222; (with_reducible refine (IsNaN_fin _ _ h).mono ?_); rintro e w' ⟨rfl, rfl⟩)
    | (go_at_call 284; (with_reducible refine (normalize_calls _ _ h0 h).mono ?_); rintro e w' ⟨rfl, rfl⟩))
  refine bodyPost_ret (v := .tuple #[.float .f64 (Fl.fx r), .int .i64 (Fl.Lg r - 1073)]) (by simp only [results, Tryz.results261]; simp [go_sem, Fl.fx]; omega) rfl ⟨rfl, rfl⟩

set_option maxRecDepth 100000 in
set_option maxHeartbeats 2000000 in
theorem frexp_inf (w : World) :
    Calls Tryz.prog 261 #[.float .f64 9218868437227405312] w fun e w' => e = .returned (.tuple #[.float .f64 9218868437227405312, .int .i64 0]) ∧ w = w' := by
  go_enter Tryz.func261, Tryz.ntmps261
  have f3 : (FloatKind.f64.format.order 9218868437227405312 0 == some .eq) = false := by decide
  have f4 : (Ieee.double.order (9218868437227405312 % 2 ^ 63) 9218868437227405311 == some .gt) = true := by decide
  go_wp2_with (first
    | (go_at_call 221; (with_reducible refine (IsInf_calls _ _ (by omega)).mono ?_); rintro e w' ⟨rfl, rfl⟩; rw [f4]))
  refine bodyPost_ret (v := .tuple #[.float .f64 9218868437227405312, .int .i64 0]) (by simp only [results, Tryz.results261]; simp [go_sem]) rfl ⟨rfl, rfl⟩

set_option maxRecDepth 100000 in
set_option maxHeartbeats 2000000 in
theorem Frexp_calls (r : Nat) (w : World) (h0 : 0 < r) (h : r < 2047 * 2 ^ 52) :
    Calls Tryz.prog 224 #[.float .f64 r] w fun e w' => e = .returned (.tuple #[.float .f64 (Fl.fx r), .int .i64 (Fl.Lg r - 1073)]) ∧ w = w' := by
  go_enter Tryz.func224, Tryz.ntmps224
  go_wp2_with (go_at_call 261; (with_reducible refine (frexp_calls _ _ h0 h).mono ?_); rintro e w' ⟨rfl, rfl⟩)
  refine bodyPost_ret (v := .tuple #[.float .f64 (Fl.fx r), .int .i64 (Fl.Lg r - 1073)]) (by simp only [results, Tryz.results224]; simp [go_sem]) rfl ⟨rfl, rfl⟩

set_option maxRecDepth 100000 in
set_option maxHeartbeats 2000000 in
theorem Frexp_inf (w : World) :
    Calls Tryz.prog 224 #[.float .f64 9218868437227405312] w fun e w' => e = .returned (.tuple #[.float .f64 9218868437227405312, .int .i64 0]) ∧ w = w' := by
  go_enter Tryz.func224, Tryz.ntmps224
  go_wp2_with (go_at_call 261; (with_reducible refine (frexp_inf _).mono ?_); rintro e w' ⟨rfl, rfl⟩)
  refine bodyPost_ret (v := .tuple #[.float .f64 9218868437227405312, .int .i64 0]) (by simp only [results, Tryz.results224]; simp [go_sem]) rfl ⟨rfl, rfl⟩

set_option maxRecDepth 100000 in
set_option maxHeartbeats 2000000 in
theorem ldexp_calls (r : Nat) (a : Nat) (k : Int) (w : World) (h0 : 0 < r) (h : r < 2047 * 2 ^ 52) (ha : a ≤ 2097) (hk : k = (a : Int) - Fl.Lg r) :
    Calls Tryz.prog 263 #[.float .f64 r, .int .i64 k] w fun e w' => ∃ t : Nat, e = .returned (.float .f64 t) ∧ t < 2047 * 2 ^ 52 ∧ 2 ^ a ≤ Fl.V t ∧ w = w' := by
  have f3 := fin_zero r h0 h
  obtain ⟨E, f, hn, hf, hE1, hE2, hEe⟩ := Fl.nm_spec r h0 h
  have hb1 := run_bits (Fl.nm r) w
  have hs : ((Fl.nm r : Nat) : Int) / 4503599627370496 = (E : Int) := by rw [hn]; omega
  have he := bits_expi E (by omega)
  have hnb := Fl.ne_bd r
  have hfr : Go.bits .andNot .u64 ((Fl.nm r : Nat) : Int) 9218868437227405312 = (f : Int) := by
    have hlt : E * 2 ^ 52 ≤ 2046 * 2 ^ 52 := Nat.mul_le_mul_right _ hE2
    rw [bits_frac _ (by rw [hn]; omega), hn]; omega
  clear hn
  have hexp : k + Fl.ne r + ((E : Int) - 1023) = (a : Int) - 1074 := by omega
  have hL : (Fl.Lg r : Int) = (E : Int) + Fl.ne r + 51 := by omega
  rw [hL] at hk
  clear hEe hL
  subst hk
  have hxx : (a : Int) - ((E : Int) + Fl.ne r + 51) + Fl.ne r + ((E : Int) - 1023) = (a : Int) - 1074 := by omega
  clear hexp
  go_enter Tryz.func263, Tryz.ntmps263
  go_upto_region 9 with (first
    | (go_at_call 221; (with_reducible refine (IsInf_fin _ _ h).mono ?_); rintro e w' ⟨rfl, rfl⟩)
    | (go_at_call 222; (with_reducible refine (IsNaN_fin _ _ h).mono ?_); rintro e w' ⟨rfl, rfl⟩)
    | (go_at_call 284; (with_reducible refine (normalize_calls _ _ h0 h).mono ?_); rintro e w' ⟨rfl, rfl⟩))
  by_cases hc : a < 52
  · obtain ⟨t, ht, ht1, ht2⟩ := Fl.down_mul f (a + 2) hf (by omega) (by omega)
    have hor := bits_or f (a + 2) hf (by omega)
    rw [show (((a + 2) * 2 ^ 52 : Nat) : Int) = ((a : Int) - 1074 + 53 + 1023) * 4503599627370496 from by omega] at hor
    generalize (a + 2) * 2 ^ 52 + f = X at *
    have hfrom := run_from' X w
    have hmul := run_float_arith (P := Tryz.prog) w .mul 121 .f64 4368491638549381120 X t ht
    go_wp2_with fail
    go_ret
    refine ⟨t, rfl, by omega, ?_, rfl⟩
    rw [Fl.V_small (by omega)]
    exact ht1
  · obtain ⟨b, hb⟩ : ∃ b, a = b + 52 := ⟨a - 52, by omega⟩
    have ht := Fl.one_mul' f (b + 1) hf (by omega) (by omega)
    have hor := bits_or f (b + 1) hf (by omega)
    rw [show (((b + 1) * 2 ^ 52 : Nat) : Int) = ((a : Int) - 1074 + 1023) * 4503599627370496 from by omega] at hor
    have hX : (b + 1) * 2 ^ 52 + f < 2047 * 2 ^ 52 := by
      have : (b + 1) * 2 ^ 52 ≤ 2046 * 2 ^ 52 := Nat.mul_le_mul_right _ (by omega)
      omega
    have hV : 2 ^ a ≤ Fl.V ((b + 1) * 2 ^ 52 + f) := by
      rw [hb, Fl.V_ge (by omega), show ((b + 1) * 2 ^ 52 + f) % 2 ^ 52 = f from by omega, show ((b + 1) * 2 ^ 52 + f) / 2 ^ 52 - 1 = b from by omega, Nat.pow_add, Nat.mul_comm]
      exact Nat.mul_le_mul_right _ (by omega)
    have HV := Lib.hid hV
    clear hV
    skip
    generalize (b + 1) * 2 ^ 52 + f = X at *
    clear hb
    have hfrom := run_from' X w
    have hmul := run_float_arith (P := Tryz.prog) w .mul 121 .f64 4607182418800017408 X X ht
    go_wp2_with fail
    go_ret
    exact ⟨X, rfl, hX, HV.out, rfl⟩

set_option maxRecDepth 100000 in
set_option maxHeartbeats 2000000 in
theorem Ldexp_calls (r : Nat) (a : Nat) (k : Int) (w : World) (h0 : 0 < r) (h : r < 2047 * 2 ^ 52) (ha : a ≤ 2097) (hk : k = (a : Int) - Fl.Lg r) :
    Calls Tryz.prog 225 #[.float .f64 r, .int .i64 k] w fun e w' => ∃ t : Nat, e = .returned (.float .f64 t) ∧ t < 2047 * 2 ^ 52 ∧ 2 ^ a ≤ Fl.V t ∧ w = w' := by
  subst hk
  go_enter Tryz.func225, Tryz.ntmps225
  go_wp2_with fail
  (with_reducible refine (ldexp_calls r a _ _ h0 h ha rfl).mono ?_); rintro e w' ⟨t, rfl, ht, hv, rfl⟩
  have HV := Lib.hid hv
  clear hv
  go_wp2_with fail
  go_ret
  exact ⟨t, rfl, ht, HV.out, rfl⟩
end Go.Proofs.YtjapohefiggbaaaGreatDoor
