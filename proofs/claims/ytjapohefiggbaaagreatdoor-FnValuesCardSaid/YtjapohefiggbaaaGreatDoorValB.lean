/- Values: which are true, which are the same; small makers of values. -/
import Derived.Test.YtjapohefiggbaaaGreatDoorValA
namespace Go.Proofs.YtjapohefiggbaaaGreatDoor
open Go.RowKit

theorem and_u64 (x : Int) (k : Nat) (c : Int) (hc : (BitVec.ofInt 64 c).toNat = 2 ^ k - 1) (hk : k ≤ 63) (h0 : 0 ≤ x) (h1 : x ≤ 18446744073709551615) : Go.bits .and .u64 x c = ((x.toNat % 2 ^ k : Nat) : Int) := by
  show IntKind.u64.wrap _ = _
  have e : (BitVec.ofInt IntKind.u64.bits x &&& BitVec.ofInt IntKind.u64.bits c).toNat = x.toNat % 2 ^ k := by
    show (BitVec.ofInt 64 x &&& BitVec.ofInt 64 c).toNat = _
    rw [BitVec.toNat_and, hc, Nat.and_two_pow_sub_one_eq_mod]
    have : (BitVec.ofInt 64 x).toNat = x.toNat := by simp [BitVec.toNat_ofInt]; omega
    rw [this]
  have : x.toNat % 2 ^ k ≤ x.toNat := Nat.mod_le _ _
  rw [e, IntWalk.u64_in _ (by omega)]
theorem and_pf (x : Int) (h0 : 0 ≤ x) (h1 : x ≤ 18446744073709551615) : Go.bits .and .u64 x 4503599627370495 = pf x := by
  rw [and_u64 x 52 _ (by decide) (by omega) h0 h1]; unfold pf; omega
theorem and_pe (x : Int) (h0 : 0 ≤ x) (h1 : x ≤ 18446744073709551615) : Go.bits .and .u64 (x / 4503599627370496) 2047 = pe x := by
  rw [and_u64 _ 11 _ (by decide) (by omega) (by omega) (by omega)]; unfold pe; omega

set_option maxRecDepth 100000 in
set_option maxHeartbeats 4000000 in
theorem iPartsOfNumber_calls (x : Int) (w : World) (h0 : 0 ≤ x) (h1 : x ≤ 18446744073709551615) :
    Calls Tryz.prog 96 #[.int .u64 x] w fun e w' => ∃ (b : Bool) (m p : Int), e = .returned (.agg #[.int .i64 (pk x), .bool b, .int .u64 m, .int .i64 p]) ∧ Keep [] w w' := by
  have a1 := and_pf x h0 h1
  have a2 := and_pe x h0 h1
  have b1 := pe_bd x
  go_enter Tryz.func96, Tryz.ntmps96
  go_wp2_with (go_at_call 95; (with_reducible refine (isNaN_calls x _ h0 h1).mono ?_); rintro e w' ⟨rfl, rfl⟩)
  · have hK : pk x = 1 := by
      simp only [beq_iff_eq, beq_eq_false_iff_ne, ne_eq] at *
      have hd : pk x = if pe x = 2047 then (if pf x = 0 then 2 else 1) else if pe x = 0 ∧ pf x = 0 then 3 else 4 := rfl
      first | assumption | (simp_all; done) | (split at hd <;> (try split at hd) <;> simp_all)
    refine bodyPost_ret (v := .agg #[.int .i64 1, .bool false, .int .u64 0, .int .i64 0]) (by simp [results, Tryz.results96, go_sem]) rfl ⟨_, _, _, by rw [hK], by repeat (first | exact Keep.refl _ _ | refine Keep.setCell ?_ (by simp) _ | refine Keep.alloc ?_ _)⟩
  · have hK : pk x = 2 := by
      simp only [beq_iff_eq, beq_eq_false_iff_ne, ne_eq] at *
      have hd : pk x = if pe x = 2047 then (if pf x = 0 then 2 else 1) else if pe x = 0 ∧ pf x = 0 then 3 else 4 := rfl
      first | assumption | (simp_all; done) | (split at hd <;> (try split at hd) <;> simp_all)
    refine bodyPost_ret (v := .agg #[.int .i64 2, .bool (x / 9223372036854775808 == 1), .int .u64 0, .int .i64 0]) (by simp [results, Tryz.results96, go_sem]) rfl ⟨_, _, _, by rw [hK], by repeat (first | exact Keep.refl _ _ | refine Keep.setCell ?_ (by simp) _ | refine Keep.alloc ?_ _)⟩
  · have hK : pk x = 3 := by
      simp only [beq_iff_eq, beq_eq_false_iff_ne, ne_eq] at *
      have hd : pk x = if pe x = 2047 then (if pf x = 0 then 2 else 1) else if pe x = 0 ∧ pf x = 0 then 3 else 4 := rfl
      first | assumption | (simp_all; done) | (split at hd <;> (try split at hd) <;> simp_all)
    refine bodyPost_ret (v := .agg #[.int .i64 3, .bool (x / 9223372036854775808 == 1), .int .u64 0, .int .i64 0]) (by simp [results, Tryz.results96, go_sem]) rfl ⟨_, _, _, by rw [hK], by repeat (first | exact Keep.refl _ _ | refine Keep.setCell ?_ (by simp) _ | refine Keep.alloc ?_ _)⟩
  · have hK : pk x = 4 := by
      simp only [beq_iff_eq, beq_eq_false_iff_ne, ne_eq] at *
      have hd : pk x = if pe x = 2047 then (if pf x = 0 then 2 else 1) else if pe x = 0 ∧ pf x = 0 then 3 else 4 := rfl
      first | assumption | (simp_all; done) | (split at hd <;> (try split at hd) <;> simp_all)
    refine bodyPost_ret (v := .agg #[.int .i64 4, .bool (x / 9223372036854775808 == 1), .int .u64 (pf x), .int .i64 (-1074)]) (by simp [results, Tryz.results96, go_sem]) rfl ⟨_, _, _, by rw [hK], by repeat (first | exact Keep.refl _ _ | refine Keep.setCell ?_ (by simp) _ | refine Keep.alloc ?_ _)⟩
  · have hK : pk x = 4 := by
      simp only [beq_iff_eq, beq_eq_false_iff_ne, ne_eq] at *
      have hd : pk x = if pe x = 2047 then (if pf x = 0 then 2 else 1) else if pe x = 0 ∧ pf x = 0 then 3 else 4 := rfl
      first | assumption | (simp_all; done) | (split at hd <;> (try split at hd) <;> simp_all)
    refine bodyPost_ret (v := .agg #[.int .i64 4, .bool (x / 9223372036854775808 == 1), .int .u64 (Go.bits .or .u64 (pf x) 4503599627370496), .int .i64 (pe x - 1075)]) (by simp [results, Tryz.results96, go_sem]) rfl ⟨_, _, _, by rw [hK], by repeat (first | exact Keep.refl _ _ | refine Keep.setCell ?_ (by simp) _ | refine Keep.alloc ?_ _)⟩

set_option maxRecDepth 100000 in
set_option maxHeartbeats 1000000 in
theorem iTruthy_calls (x : Int) (w : World) (h0 : 0 ≤ x) (h1 : x ≤ 18446744073709551615) :
    Calls Tryz.prog 62 #[.int .u64 x] w fun e w' => e = .returned (.bool (pk x != 1 && pk x != 3)) ∧ Keep [] w w' := by
  go_enter Tryz.func62, Tryz.ntmps62
  go_wp2_with fail
  (with_reducible refine (iPartsOfNumber_calls x _ h0 h1).mono ?_); rintro e w1 ⟨b, m, p, rfl, hk⟩
  have hfd := field_kind (pk x) b m p
  rcases pk_four x with h | h | h | h <;> rw [h] at hfd ⊢
  all_goals
    go_wp2_with fail
    go_ret
    exact ⟨by rw [h]; rfl, hk⟩

/-- A true value. -/
def Tru (k n : Int) (t : ByteArray) : Prop := if k = 0 then False else if k = 1 then n = 1 else if k = 2 then (pk n ≠ 1 ∧ pk n ≠ 3) else if k = 3 then t.toList ≠ [] else True

set_option maxRecDepth 100000 in
set_option maxHeartbeats 4000000 in
theorem sIsTrue_calls (k n : Int) (t : ByteArray) (r : Int) (w : World) (h0 : 0 ≤ n) (h1 : n ≤ 18446744073709551615) :
    Calls Tryz.prog 23 #[.agg #[.int .i64 k, .int .u64 n, .string t, .int .i64 r]] w (RetIff (Tru k n t) w) := by
  go_enter Tryz.func23, Tryz.ntmps23
  by_cases k0 : k = 0
  · subst k0
    go_wp2_with fail
    all_goals (go_ret; exact ⟨_, rfl, by simp_all [Tru], (Keep.refl _ _).alloc _⟩)
  by_cases k1 : k = 1
  · subst k1
    go_wp2_with fail
    all_goals (go_ret; exact ⟨_, rfl, by simp_all [Tru], (Keep.refl _ _).alloc _⟩)
  by_cases k2 : k = 2
  · subst k2
    go_wp2_with fail
    (with_reducible refine (Truthy_calls n _ h0 h1).mono ?_); rintro e w1 ⟨rfl, hk⟩
    have hq : ((pk n != 1 && pk n != 3) = true) ↔ (pk n ≠ 1 ∧ pk n ≠ 3) := by simp
    generalize (pk n != 1 && pk n != 3) = q at *
    have HQ := Lib.hid hq
    clear hq
    go_wp2_with fail
    all_goals (go_ret; exact ⟨_, rfl, by simpa [Tru] using HQ.out, ((Keep.refl _ _).alloc _).trans' hk⟩)
  by_cases k3 : k = 3
  · subst k3
    go_wp2_with fail
    all_goals (go_ret; exact ⟨_, rfl, by simp_all [Tru], (Keep.refl _ _).alloc _⟩)
  have b0 : (k == 0) = false := by simpa using k0
  have b1 : (k == 1) = false := by simpa using k1
  have b2 : (k == 2) = false := by simpa using k2
  have b3 : (k == 3) = false := by simpa using k3
  have hv : Tru k n t := by simp [Tru, k0, k1, k2, k3]
  have HV := Lib.hid hv
  clear k0 k1 k2 k3 hv
  go_wp2_with fail
  go_ret
  exact ⟨_, rfl, by have := HV.out; simp [this], (Keep.refl _ _).alloc _⟩

set_option maxRecDepth 100000 in
set_option maxHeartbeats 4000000 in
theorem iIsTrue_calls (k n : Int) (t : ByteArray) (r : Int) (w : World) (h0 : 0 ≤ n) (h1 : n ≤ 18446744073709551615) :
    Calls Tryz.prog 22 #[.agg #[.int .i64 k, .int .u64 n, .string t, .int .i64 r]] w (RetIff (Tru k n t) w) := by
  go_enter Tryz.func22, Tryz.ntmps22
  by_cases k0 : k = 0
  · subst k0
    go_wp2_with fail
    all_goals (go_ret; exact ⟨_, rfl, by simp_all [Tru], (Keep.refl _ _).alloc _⟩)
  by_cases k1 : k = 1
  · subst k1
    go_wp2_with fail
    all_goals (go_ret; exact ⟨_, rfl, by simp_all [Tru], (Keep.refl _ _).alloc _⟩)
  by_cases k2 : k = 2
  · subst k2
    go_wp2_with fail
    (with_reducible refine (iTruthy_calls n _ h0 h1).mono ?_); rintro e w1 ⟨rfl, hk⟩
    have hq : ((pk n != 1 && pk n != 3) = true) ↔ (pk n ≠ 1 ∧ pk n ≠ 3) := by simp
    generalize (pk n != 1 && pk n != 3) = q at *
    have HQ := Lib.hid hq
    clear hq
    go_wp2_with fail
    all_goals (go_ret; exact ⟨_, rfl, by simpa [Tru] using HQ.out, ((Keep.refl _ _).alloc _).trans' hk⟩)
  by_cases k3 : k = 3
  · subst k3
    go_wp2_with fail
    all_goals (go_ret; exact ⟨_, rfl, by simp_all [Tru], (Keep.refl _ _).alloc _⟩)
  have b0 : (k == 0) = false := by simpa using k0
  have b1 : (k == 1) = false := by simpa using k1
  have b2 : (k == 2) = false := by simpa using k2
  have b3 : (k == 3) = false := by simpa using k3
  have hv : Tru k n t := by simp [Tru, k0, k1, k2, k3]
  have HV := Lib.hid hv
  clear k0 k1 k2 k3 hv
  go_wp2_with fail
  go_ret
  exact ⟨_, rfl, by have := HV.out; simp [this], (Keep.refl _ _).alloc _⟩
end Go.Proofs.YtjapohefiggbaaaGreatDoor
