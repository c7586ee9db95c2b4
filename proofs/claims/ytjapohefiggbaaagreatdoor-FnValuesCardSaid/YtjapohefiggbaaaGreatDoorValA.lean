/- Values: which are right, which are true, which are the same. -/
import Derived.Test.YtjapohefiggbaaaGreatDoorDrawD
import Derived.Test.YtjapohefiggbaaaGreatDoorFlE
namespace Go.Proofs.YtjapohefiggbaaaGreatDoor
open Go.RowKit

/-- A right value. -/
def VOk (k n : Int) (t : ByteArray) (r : Int) : Prop :=
  (k = 0 ∧ n = 0 ∧ t.toList = [] ∧ r = 0) ∨ (k = 1 ∧ n ≤ 1 ∧ t.toList = [] ∧ r = 0) ∨ (k = 2 ∧ t.toList = [] ∧ r = 0) ∨ (k = 3 ∧ n = 0 ∧ t.size ≤ 200 ∧ r = 0) ∨ (k = 4 ∧ n = 0 ∧ t.toList = [] ∧ 0 ≤ r)

/-- A truth comes back: whether it is so. -/
def RetIff (P : Prop) (w : World) (e : Ending) (w' : World) : Prop := ∃ b : Bool, e = .returned (.bool b) ∧ (b = true ↔ P) ∧ Keep [] w w'

theorem le200 (t : ByteArray) : ((t.size : Int) ≤ 200) ↔ t.size ≤ 200 := by omega

set_option maxRecDepth 100000 in
set_option maxHeartbeats 4000000 in
theorem sValueOk_calls (k n : Int) (t : ByteArray) (r : Int) (w : World) :
    Calls Tryz.prog 14 #[.agg #[.int .i64 k, .int .u64 n, .string t, .int .i64 r]] w (RetIff (VOk k n t r) w) := by
  go_enter Tryz.func14, Tryz.ntmps14
  by_cases k0 : k = 0
  · subst k0
    go_wp2_with fail
    all_goals (go_ret; exact ⟨_, rfl, by simp_all [VOk], (Keep.refl _ _).alloc _⟩)
  by_cases k1 : k = 1
  · subst k1
    go_wp2_with fail
    all_goals (go_ret; exact ⟨_, rfl, by simp_all [VOk]; try omega, (Keep.refl _ _).alloc _⟩)
  by_cases k2 : k = 2
  · subst k2
    go_wp2_with fail
    all_goals (go_ret; exact ⟨_, rfl, by simp_all [VOk], (Keep.refl _ _).alloc _⟩)
  by_cases k3 : k = 3
  · subst k3
    go_wp2_with fail
    all_goals (go_ret; exact ⟨_, rfl, by simp_all [VOk, le200]; try omega, (Keep.refl _ _).alloc _⟩)
  by_cases k4 : k = 4
  · subst k4
    go_wp2_with fail
    all_goals (go_ret; exact ⟨_, rfl, by simp_all [VOk], (Keep.refl _ _).alloc _⟩)
  have b0 : (k == 0) = false := by simpa using k0
  have b1 : (k == 1) = false := by simpa using k1
  have b2 : (k == 2) = false := by simpa using k2
  have b3 : (k == 3) = false := by simpa using k3
  have b4 : (k == 4) = false := by simpa using k4
  have hv : ¬ VOk k n t r := by simp [VOk, k0, k1, k2, k3, k4]
  have HV := Lib.hid hv
  clear k0 k1 k2 k3 k4 hv
  go_wp2_with fail
  go_ret
  exact ⟨_, rfl, by have := HV.out; simp [this], (Keep.refl _ _).alloc _⟩

set_option maxRecDepth 100000 in
set_option maxHeartbeats 4000000 in
theorem iValueOk_calls (k n : Int) (t : ByteArray) (r : Int) (w : World) :
    Calls Tryz.prog 15 #[.agg #[.int .i64 k, .int .u64 n, .string t, .int .i64 r]] w (RetIff (VOk k n t r) w) := by
  go_enter Tryz.func15, Tryz.ntmps15
  by_cases k0 : k = 0
  · subst k0
    go_wp2_with fail
    all_goals (go_ret; exact ⟨_, rfl, by simp_all [VOk], (Keep.refl _ _).alloc _⟩)
  by_cases k1 : k = 1
  · subst k1
    go_wp2_with fail
    all_goals (go_ret; exact ⟨_, rfl, by simp_all [VOk]; try omega, (Keep.refl _ _).alloc _⟩)
  by_cases k2 : k = 2
  · subst k2
    go_wp2_with fail
    all_goals (go_ret; exact ⟨_, rfl, by simp_all [VOk], (Keep.refl _ _).alloc _⟩)
  by_cases k3 : k = 3
  · subst k3
    go_wp2_with fail
    all_goals (go_ret; exact ⟨_, rfl, by simp_all [VOk, le200]; try omega, (Keep.refl _ _).alloc _⟩)
  by_cases k4 : k = 4
  · subst k4
    go_wp2_with fail
    all_goals (go_ret; exact ⟨_, rfl, by simp_all [VOk], (Keep.refl _ _).alloc _⟩)
  have b0 : (k == 0) = false := by simpa using k0
  have b1 : (k == 1) = false := by simpa using k1
  have b2 : (k == 2) = false := by simpa using k2
  have b3 : (k == 3) = false := by simpa using k3
  have b4 : (k == 4) = false := by simpa using k4
  have hv : ¬ VOk k n t r := by simp [VOk, k0, k1, k2, k3, k4]
  have HV := Lib.hid hv
  clear k0 k1 k2 k3 k4 hv
  go_wp2_with fail
  go_ret
  exact ⟨_, rfl, by have := HV.out; simp [this], (Keep.refl _ _).alloc _⟩
end Go.Proofs.YtjapohefiggbaaaGreatDoor
