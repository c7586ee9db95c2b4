/- math.Mod ends, and gives a float. -/
import Derived.Test.YtjapohefiggbaaaGreatDoorFlD
namespace Go.Proofs.YtjapohefiggbaaaGreatDoor
open Go.RowKit

@[local go_sem] theorem unary_neg_float (b : Nat) : Op.unary .neg (.float .f64 b) = pure (.float .f64 (b ^^^ 9223372036854775808)) := rfl
def fltM : Value → Nat
  | .float _ z => if z < 2 ^ 63 then z else 0
  | _ => 0
def ModR (r : Value) : Prop := ∃ z : Nat, r = .float .f64 z ∧ (z < 2047 * 2 ^ 52 ∨ (2 ^ 63 ≤ z ∧ z < 2 ^ 64))

theorem not_zero (y : Nat) (hy : y < 2 ^ 64) (h : (Ieee.double.order y 0 == some .eq) = false) : 0 < y % 2 ^ 63 := by
  by_cases h0 : y % 2 ^ 63 = 0
  · have : y = 0 ∨ y = 2 ^ 63 := by omega
    rcases this with rfl | rfl <;> revert h <;> decide
  · omega
theorem not_nan (y : Nat) (h : (Ieee.double.order y y != some .eq) = false) : y % 2 ^ 63 ≤ 2047 * 2 ^ 52 := by
  rw [bne, Fl.order_self, Fl.read_nan] at h
  simpa using h
theorem not_inf (x : Nat) (h : (Ieee.double.order (x % 2 ^ 63) 9218868437227405311 == some .gt) = false) : x % 2 ^ 63 ≠ 2047 * 2 ^ 52 := by
  intro e
  rw [e] at h
  revert h; decide
theorem neg_of_lt (x : Nat) (hx : x % 2 ^ 63 < 2047 * 2 ^ 52) (h : (Ieee.double.order x 0 == some .lt) = true) : 2 ^ 63 ≤ x := by
  by_cases h0 : x < 2 ^ 63
  · rw [Nat.mod_eq_of_lt h0] at hx
    rw [Fl.order_V x 0 hx (by decide), show Fl.V 0 = 0 from by decide] at h
    rcases Nat.eq_zero_or_pos (Fl.V x) with h1 | h1
    · rw [h1] at h; exact absurd h (by decide)
    · rw [Nat.compare_eq_gt.2 h1] at h; exact absurd h (by decide)
  · omega

theorem le_of_ge (z u : Nat) (hz : z < 2047 * 2 ^ 52) (hu : u < 2047 * 2 ^ 52) (h : (FloatKind.f64.format.order z u == some .gt || FloatKind.f64.format.order z u == some .eq) = true) : Fl.V u ≤ Fl.V z := by
  have ho : FloatKind.f64.format.order z u = some (compare (Fl.V z) (Fl.V u)) := Fl.order_V z u hz hu
  rw [ho] at h
  rcases Nat.lt_or_ge (Fl.V z) (Fl.V u) with h1 | h1
  · rw [Nat.compare_eq_lt.2 h1] at h; exact absurd h (by decide)
  · exact h1
theorem Lg_le (z : Nat) (h : z < 2047 * 2 ^ 52) : Fl.Lg z ≤ 2097 := by
  unfold Fl.Lg
  split
  · rename_i h1
    by_cases h0 : z = 0
    · subst h0; decide
    · have := (Nat.log2_lt (k := 52) h0).2 h1; omega
  · omega
theorem one_Lg (z u : Nat) (hz : 0 < z) (hu : 0 < u) (h : Fl.V u ≤ Fl.V z) (hlt : (FloatKind.f64.format.order (Fl.fx z) (Fl.fx u) == some .lt) = true) : 1 ≤ Fl.Lg z := by
  by_cases h1 : z = 1
  · exfalso
    subst h1
    rw [Fl.V_small (r := 1) (by omega)] at h
    have : u = 1 := by
      by_cases h2 : u < 2 ^ 52
      · rw [Fl.V_small (by omega)] at h; omega
      · have := Fl.V_ge (q := u) (by omega)
        have h3 : (2 ^ 52 + u % 2 ^ 52) * 1 ≤ (2 ^ 52 + u % 2 ^ 52) * 2 ^ (u / 2 ^ 52 - 1) := Nat.mul_le_mul_left _ (Nat.two_pow_pos _)
        omega
    subst this
    have : (FloatKind.f64.format.order (Fl.fx 1) (Fl.fx 1) == some .lt) = false := Fl.lt_self _
    rw [this] at hlt; cases hlt
  · unfold Fl.Lg
    split
    · exact (Nat.le_log2 (by omega)).2 (by omega)
    · omega

theorem sub_lt (z t r : Nat) (h : Ieee.double.sub z t = some r) : r < 18446744073709551616 := by
  have := floatBits_wf (op := .sub) (k := .f64) (x := z) (y := t) (r := r) h
  simpa [Lit.wf] using this

set_option maxRecDepth 100000 in
set_option maxHeartbeats 4000000 in
theorem mod_calls (x y : Nat) (w : World) (hx : x < 2 ^ 64) (hy : y < 2 ^ 64) :
    Calls Tryz.prog 175 #[.float .f64 x, .float .f64 y] w fun e w' => ∃ z : Nat, e = .returned (.float .f64 z) ∧ z < 18446744073709551616 ∧ w = w' := by
  go_enter Tryz.func175, Tryz.ntmps175
  cases hB1 : (Ieee.double.order y 0 == some .eq) with
  | true =>
    have hD1 : (FloatKind.f64.format.order y 0 == some .eq) = true := hB1
    go_wp2_with (go_at_call 223; (with_reducible refine (NaN_calls _).mono ?_); rintro e w' ⟨rfl, rfl⟩)
    go_ret
    exact ⟨_, rfl, by omega, rfl⟩
  | false =>
  have hD1 : (FloatKind.f64.format.order y 0 == some .eq) = false := hB1
  cases hB2 : (Ieee.double.order (x % 2 ^ 63) 9218868437227405311 == some .gt) with
  | true =>
    go_wp2_with (first
      | (go_at_call 223; (with_reducible refine (NaN_calls _).mono ?_); rintro e w' ⟨rfl, rfl⟩)
      | (go_at_call 221; (with_reducible refine (IsInf_calls _ _ hx).mono ?_); rintro e w' ⟨rfl, rfl⟩; rw [hB2]))
    go_ret
    exact ⟨_, rfl, by omega, rfl⟩
  | false =>
  cases hB3 : (Ieee.double.order x x != some .eq) with
  | true =>
    go_wp2_with (first
      | (go_at_call 223; (with_reducible refine (NaN_calls _).mono ?_); rintro e w' ⟨rfl, rfl⟩)
      | (go_at_call 221; (with_reducible refine (IsInf_calls _ _ hx).mono ?_); rintro e w' ⟨rfl, rfl⟩; rw [hB2])
      | (go_at_call 222; (with_reducible refine (IsNaN_calls _ _).mono ?_); rintro e w' ⟨rfl, rfl⟩; rw [hB3]))
    go_ret
    exact ⟨_, rfl, by omega, rfl⟩
  | false =>
  cases hB4 : (Ieee.double.order y y != some .eq) with
  | true =>
    go_wp2_with (first
      | (go_at_call 223; (with_reducible refine (NaN_calls _).mono ?_); rintro e w' ⟨rfl, rfl⟩)
      | (go_at_call 221; (with_reducible refine (IsInf_calls _ _ hx).mono ?_); rintro e w' ⟨rfl, rfl⟩; rw [hB2])
      | (go_at_call 222; (with_reducible refine (IsNaN_calls _ _).mono ?_); rintro e w' ⟨rfl, rfl⟩; first | rw [hB3] | rw [hB4]))
    go_ret
    exact ⟨_, rfl, by omega, rfl⟩
  | false =>
  have hy0 := not_zero y hy hB1
  have hy1 := not_nan y hB4
  have hx1 := not_nan x hB3
  have hx2 := not_inf x hB2
  have hx3 : x % 2 ^ 63 < 2047 * 2 ^ 52 := by omega
  go_upto_region 3 with (first
      | (go_at_call 221; (with_reducible refine (IsInf_calls _ _ hx).mono ?_); rintro e w' ⟨rfl, rfl⟩; rw [hB2])
      | (go_at_call 222; (with_reducible refine (IsNaN_calls _ _).mono ?_); rintro e w' ⟨rfl, rfl⟩; first | rw [hB3] | rw [hB4]))
  have hyr : y % 2 ^ 63 < 2 ^ 63 := by omega
  generalize hyy : y % 2 ^ 63 = u at *
  clear hB1 hB2 hB3 hB4 hD1
  go_upto_region 4 with (go_at_call 177; (with_reducible refine (Abs_calls _ _ hy).mono ?_); rintro e w' ⟨rfl, rfl⟩; rw [hyy])
  by_cases hu : u = 2047 * 2 ^ 52
  · have hu' : u = 9218868437227405312 := by omega
    clear hu
    subst hu'
    cases hB5 : (Ieee.double.order x 0 == some .lt) with
    | true =>
      have hD5 : (FloatKind.f64.format.order x 0 == some .lt) = true := hB5
      go_wp2_with (go_at_call 224; (with_reducible refine (Frexp_inf _).mono ?_); rintro e w' ⟨rfl, rfl⟩)
      go_loop [7] ModR (fun r => fltM r)
      case atStart => exact ⟨_, rfl, .inl (by have := neg_pos x (neg_of_lt x hx3 hB5) hx; show x ^^^ 2 ^ 63 < _; omega)⟩
      case round =>
        obtain ⟨z, rfl, hz⟩ := hrel
        have hzz : z < 18446744073709551616 := by omega
        by_cases hge : (FloatKind.f64.format.order z 9218868437227405312 == some .gt || FloatKind.f64.format.order z 9218868437227405312 == some .eq) = false
        · go_wp2_with fail
          all_goals (go_ret; exact ⟨_, rfl, by first | omega | exact neg_lt _ (by omega), rfl⟩)
        · exfalso
          rcases hz with hz | ⟨hz, hz'⟩
          · exact hge (Fl.order_inf z hz)
          · exact hge (Fl.order_neg z _ hz hz' (by omega) (by omega))
    | false =>
      have hD5 : (FloatKind.f64.format.order x 0 == some .lt) = false := hB5
      go_wp2_with (go_at_call 224; (with_reducible refine (Frexp_inf _).mono ?_); rintro e w' ⟨rfl, rfl⟩)
      go_loop [7] ModR (fun r => fltM r)
      case atStart => exact ⟨x, rfl, by omega⟩
      case round =>
        obtain ⟨z, rfl, hz⟩ := hrel
        have hzz : z < 18446744073709551616 := by omega
        by_cases hge : (FloatKind.f64.format.order z 9218868437227405312 == some .gt || FloatKind.f64.format.order z 9218868437227405312 == some .eq) = false
        · go_wp2_with fail
          all_goals (go_ret; exact ⟨_, rfl, by first | omega | exact neg_lt _ (by omega), rfl⟩)
        · exfalso
          rcases hz with hz | ⟨hz, hz'⟩
          · exact hge (Fl.order_inf z hz)
          · exact hge (Fl.order_neg z _ hz hz' (by omega) (by omega))
  · have hu : u < 2047 * 2 ^ 52 := by omega
    cases hB5 : (Ieee.double.order x 0 == some .lt) with
    | true =>
      have hD5 : (FloatKind.f64.format.order x 0 == some .lt) = true := hB5
      go_wp2_with (go_at_call 224; (with_reducible refine (Frexp_calls _ _ hy0 hu).mono ?_); rintro e w' ⟨rfl, rfl⟩)
      go_loop [7] ModR (fun r => fltM r)
      case atStart => exact ⟨_, rfl, .inl (by have := neg_pos x (neg_of_lt x hx3 hB5) hx; show x ^^^ 2 ^ 63 < _; omega)⟩
      case round =>
        obtain ⟨z, rfl, hz⟩ := hrel
        have hzz : z < 18446744073709551616 := by omega
        by_cases hge : (FloatKind.f64.format.order z u == some .gt || FloatKind.f64.format.order z u == some .eq) = false
        · go_wp2_with fail
          all_goals (go_ret; exact ⟨_, rfl, by first | omega | exact neg_lt _ (by omega), rfl⟩)
        · have hge' : (FloatKind.f64.format.order z u == some .gt || FloatKind.f64.format.order z u == some .eq) = true := by cases hq : (FloatKind.f64.format.order z u == some .gt || FloatKind.f64.format.order z u == some .eq) with
            | true => rfl
            | false => exact absurd hq hge
          have hzf : z < 2047 * 2 ^ 52 := by
            rcases hz with hz | ⟨hz, hz'⟩
            · exact hz
            · exact absurd (Fl.order_neg z u hz hz' hy0 (by omega)) hge
          have hvu : Fl.V u ≤ Fl.V z := le_of_ge z u hzf hu hge'
          have hz0 : 0 < z := by
            rcases Nat.eq_zero_or_pos z with e | e
            · subst e
              have := Fl.V_pos hy0
              have e0 : Fl.V 0 = 0 := by decide
              omega
            · exact e
          have hLz : Fl.Lg z ≤ 2097 := Lg_le z hzf
          have hLu : Fl.Lg u ≤ 2097 := Lg_le u hu
          have HG := Lib.hid hge
          have HV := Lib.hid hvu
          clear hge hvu hz
          cases hlt : (FloatKind.f64.format.order (Fl.fx z) (Fl.fx u) == some .lt) with
          | true =>
            have h1 : 1 ≤ Fl.Lg z := one_Lg z u hz0 hy0 HV.out hlt
            go_wp2_with (go_at_call 224; (with_reducible refine (Frexp_calls _ _ hz0 hzf).mono ?_); rintro e w' ⟨rfl, rfl⟩)
            (with_reducible refine (Ldexp_calls u (Fl.Lg z - 1) _ _ hy0 hu (by omega) (by omega)).mono ?_); rintro e w' ⟨t, rfl, ht, hvt, rfl⟩
            obtain ⟨z', hsub, hz'⟩ := Fl.step_less z t (Fl.Lg z - 1) hzf hz0 ht (by omega) hvt
            have hz'2 := sub_lt z t z' hsub
            clear hvt
            have hrun := run_float_arith (P := Tryz.prog) w .sub 121 .f64 z t z' hsub
            go_wp2_with fail
            go_round
            case rel => exact ⟨z', rfl, by omega⟩
            case measure =>
              show (if z' < 2 ^ 63 then z' else 0) < (if z < 2 ^ 63 then z else 0)
              rw [if_pos (show z < 2 ^ 63 by omega)]
              split <;> omega
          | false =>
            go_wp2_with (go_at_call 224; (with_reducible refine (Frexp_calls _ _ hz0 hzf).mono ?_); rintro e w' ⟨rfl, rfl⟩)
            (with_reducible refine (Ldexp_calls u (Fl.Lg z) _ _ hy0 hu (by omega) (by omega)).mono ?_); rintro e w' ⟨t, rfl, ht, hvt, rfl⟩
            obtain ⟨z', hsub, hz'⟩ := Fl.step_less z t (Fl.Lg z) hzf hz0 ht (by omega) hvt
            have hz'2 := sub_lt z t z' hsub
            clear hvt
            have hrun := run_float_arith (P := Tryz.prog) w .sub 121 .f64 z t z' hsub
            go_wp2_with fail
            go_round
            case rel => exact ⟨z', rfl, by omega⟩
            case measure =>
              show (if z' < 2 ^ 63 then z' else 0) < (if z < 2 ^ 63 then z else 0)
              rw [if_pos (show z < 2 ^ 63 by omega)]
              split <;> omega
    | false =>
      have hD5 : (FloatKind.f64.format.order x 0 == some .lt) = false := hB5
      go_wp2_with (go_at_call 224; (with_reducible refine (Frexp_calls _ _ hy0 hu).mono ?_); rintro e w' ⟨rfl, rfl⟩)
      go_loop [7] ModR (fun r => fltM r)
      case atStart => exact ⟨x, rfl, by omega⟩
      case round =>
        obtain ⟨z, rfl, hz⟩ := hrel
        have hzz : z < 18446744073709551616 := by omega
        by_cases hge : (FloatKind.f64.format.order z u == some .gt || FloatKind.f64.format.order z u == some .eq) = false
        · go_wp2_with fail
          all_goals (go_ret; exact ⟨_, rfl, by first | omega | exact neg_lt _ (by omega), rfl⟩)
        · have hge' : (FloatKind.f64.format.order z u == some .gt || FloatKind.f64.format.order z u == some .eq) = true := by cases hq : (FloatKind.f64.format.order z u == some .gt || FloatKind.f64.format.order z u == some .eq) with
            | true => rfl
            | false => exact absurd hq hge
          have hzf : z < 2047 * 2 ^ 52 := by
            rcases hz with hz | ⟨hz, hz'⟩
            · exact hz
            · exact absurd (Fl.order_neg z u hz hz' hy0 (by omega)) hge
          have hvu : Fl.V u ≤ Fl.V z := le_of_ge z u hzf hu hge'
          have hz0 : 0 < z := by
            rcases Nat.eq_zero_or_pos z with e | e
            · subst e
              have := Fl.V_pos hy0
              have e0 : Fl.V 0 = 0 := by decide
              omega
            · exact e
          have hLz : Fl.Lg z ≤ 2097 := Lg_le z hzf
          have hLu : Fl.Lg u ≤ 2097 := Lg_le u hu
          have HG := Lib.hid hge
          have HV := Lib.hid hvu
          clear hge hvu hz
          cases hlt : (FloatKind.f64.format.order (Fl.fx z) (Fl.fx u) == some .lt) with
          | true =>
            have h1 : 1 ≤ Fl.Lg z := one_Lg z u hz0 hy0 HV.out hlt
            go_wp2_with (go_at_call 224; (with_reducible refine (Frexp_calls _ _ hz0 hzf).mono ?_); rintro e w' ⟨rfl, rfl⟩)
            (with_reducible refine (Ldexp_calls u (Fl.Lg z - 1) _ _ hy0 hu (by omega) (by omega)).mono ?_); rintro e w' ⟨t, rfl, ht, hvt, rfl⟩
            obtain ⟨z', hsub, hz'⟩ := Fl.step_less z t (Fl.Lg z - 1) hzf hz0 ht (by omega) hvt
            have hz'2 := sub_lt z t z' hsub
            clear hvt
            have hrun := run_float_arith (P := Tryz.prog) w .sub 121 .f64 z t z' hsub
            go_wp2_with fail
            go_round
            case rel => exact ⟨z', rfl, by omega⟩
            case measure =>
              show (if z' < 2 ^ 63 then z' else 0) < (if z < 2 ^ 63 then z else 0)
              rw [if_pos (show z < 2 ^ 63 by omega)]
              split <;> omega
          | false =>
            go_wp2_with (go_at_call 224; (with_reducible refine (Frexp_calls _ _ hz0 hzf).mono ?_); rintro e w' ⟨rfl, rfl⟩)
            (with_reducible refine (Ldexp_calls u (Fl.Lg z) _ _ hy0 hu (by omega) (by omega)).mono ?_); rintro e w' ⟨t, rfl, ht, hvt, rfl⟩
            obtain ⟨z', hsub, hz'⟩ := Fl.step_less z t (Fl.Lg z) hzf hz0 ht (by omega) hvt
            have hz'2 := sub_lt z t z' hsub
            clear hvt
            have hrun := run_float_arith (P := Tryz.prog) w .sub 121 .f64 z t z' hsub
            go_wp2_with fail
            go_round
            case rel => exact ⟨z', rfl, by omega⟩
            case measure =>
              show (if z' < 2 ^ 63 then z' else 0) < (if z < 2 ^ 63 then z else 0)
              rw [if_pos (show z < 2 ^ 63 by omega)]
              split <;> omega

set_option maxRecDepth 100000 in
set_option maxHeartbeats 2000000 in
theorem Mod_calls (x y : Nat) (w : World) (hx : x < 2 ^ 64) (hy : y < 2 ^ 64) :
    Calls Tryz.prog 134 #[.float .f64 x, .float .f64 y] w fun e w' => ∃ z : Nat, e = .returned (.float .f64 z) ∧ z < 18446744073709551616 ∧ w = w' := by
  go_enter Tryz.func134, Tryz.ntmps134
  go_wp2_with fail
  (with_reducible refine (mod_calls x y _ hx hy).mono ?_); rintro e w' ⟨z, rfl, hz, rfl⟩
  go_wp2_with fail
  go_ret
  exact ⟨z, rfl, hz, rfl⟩

set_option maxRecDepth 100000 in
set_option maxHeartbeats 2000000 in
theorem iRem_calls (x y : Int) (w : World) (h0 : 0 ≤ x) (h1 : x ≤ 18446744073709551615) (h2 : 0 ≤ y) (h3 : y ≤ 18446744073709551615) :
    Calls Tryz.prog 89 #[.int .u64 x, .int .u64 y] w (RetK w) := by
  go_enter Tryz.func89, Tryz.ntmps89
  go_wp2_with (go_at_call 84; (with_reducible refine (real64_calls _ _).mono ?_); rintro e w' ⟨rfl, rfl⟩)
  (with_reducible refine (Mod_calls x.toNat y.toNat _ (by omega) (by omega)).mono ?_); rintro e w' ⟨z, rfl, hz, rfl⟩
  go_wp2_with fail
  (with_reducible refine (word_calls z _ hz).mono ?_); rintro e w' ⟨r, rfl, hr0, hr1, rfl⟩
  go_wp2_with fail
  go_ret
  exact ⟨_, rfl, hr0, hr1, Keep.refl _ _⟩
end Go.Proofs.YtjapohefiggbaaaGreatDoor
