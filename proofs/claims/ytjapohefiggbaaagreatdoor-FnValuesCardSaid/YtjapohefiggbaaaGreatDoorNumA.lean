/- Numbers in bits: powers of two; the parts of a number. -/
import Derived.Test.YtjapohefiggbaaaGreatDoorProg
import Derived.Test.YtjapohefiggbaaaGreatDoorMem
import Derived.WalkSpells
import Derived.WalkLawsBesides
namespace Go.Proofs.YtjapohefiggbaaaGreatDoor
open Go.RowKit

/-- A power of two. -/
def pw (n : Int) : Int := ((2 ^ n.toNat : Nat) : Int)
theorem pw_pos (n : Int) : 0 < pw n := by unfold pw; exact_mod_cast Nat.two_pow_pos _
theorem pw_succ (k : Nat) : pw ((k : Int) + 1) = pw k * 2 := by
  unfold pw; rw [show ((k : Int) + 1).toNat = k + 1 from by omega, show ((k : Int)).toNat = k from by omega, Nat.pow_succ]; push_cast; rfl
theorem pw_le (n : Int) (h : n ≤ 63) : pw n ≤ pw 63 := by
  unfold pw; exact_mod_cast Nat.pow_le_pow_right (by omega) (by omega)
theorem pw63 : pw 63 = 9223372036854775808 := rfl
theorem pw_lt (n : Int) (h : n ≤ 63) : pw n ≤ 18446744073709551615 := by have := pw_le n h; rw [pw63] at this; omega
theorem pw_wrap (k : Nat) (h : (k : Int) < 63) : IntKind.u64.wrap (pw k * 2) = pw ((k : Int) + 1) := by
  rw [← pw_succ]; exact IntWalk.u64_in _ ⟨Int.le_of_lt (pw_pos _), pw_lt _ (by omega)⟩

set_option maxHeartbeats 400000 in
theorem l03Pow_calls (n : Int) (w : World) (h0 : 0 ≤ n) (h : n ≤ 63) :
    Calls Tryz.prog 64 #[.int .i64 n] w fun e w' => e = .returned (.int .u64 (pw n)) ∧ w = w' := by
  obtain ⟨m, rfl⟩ : ∃ m : Nat, n = m := ⟨n.toNat, by omega⟩
  go_enter Tryz.func64, Tryz.ntmps64
  go_wp2_with fail
  go_loop [3, 4] (fun x i => ∃ k : Nat, k ≤ m ∧ i = .int .i64 k ∧ x = .int .u64 (pw k)) (fun _ i => m - (intOf i).toNat)
  case atStart => exact ⟨0, by omega, rfl, rfl⟩
  case round =>
    obtain ⟨k, hk, rfl, rfl⟩ := hrel
    by_cases hlt : k < m
    · have hw := pw_wrap k (by omega)
      go_wp2_with fail
      go_round
      case rel => exact ⟨k + 1, by omega, by go_num, by go_num⟩
      case measure => simp [intOf]; omega
    · go_wp2_with fail
      go_ret
      obtain rfl : k = m := by omega
      exact ⟨rfl, rfl⟩

/-- The parts of a number. -/
def pe (x : Int) : Int := x / 4503599627370496 % 2048
def pf (x : Int) : Int := x % 4503599627370496
def pk (x : Int) : Int := if pe x = 2047 then (if pf x = 0 then 2 else 1) else if pe x = 0 ∧ pf x = 0 then 3 else 4
def pb (x : Int) : Bool := if pe x = 2047 ∧ pf x ≠ 0 then false else x / pw 63 == 1
def pm (x : Int) : Int := if pe x = 2047 then 0 else if pe x = 0 then pf x else pf x + 4503599627370496
def px (x : Int) : Int := if pe x = 2047 then 0 else if pe x = 0 then (if pf x = 0 then 0 else -1074) else pe x - 1075

set_option maxHeartbeats 1000000 in
theorem PartsOfNumber_calls (x : Int) (w : World) (h0 : 0 ≤ x) (h1 : x ≤ 18446744073709551615) :
    Calls Tryz.prog 59 #[.int .u64 x] w fun e w' => e = .returned (.agg #[.int .i64 (pk x), .bool (pb x), .int .u64 (pm x), .int .i64 (px x)]) ∧ Keep [] w w' := by
  have hp := pw_pos 63
  have hp0 : (pw 63 == 0) = false := by rw [beq_eq_false_iff_ne]; omega
  go_enter Tryz.func59, Tryz.ntmps59
  go_wp2_with (go_at_call 64; refine (l03Pow_calls _ _ (by omega) (by omega)).mono ?_; rintro e w' ⟨rfl, rfl⟩)
  · have he : pe x = 2047 := by unfold pe; assumption
    have hf : pf x ≠ 0 := WalkArith.int_ne' (by assumption)
    refine bodyPost_ret (v := .agg #[.int .i64 1, .bool false, .int .u64 0, .int .i64 0]) (by simp [results, Tryz.results59, go_sem]) rfl ⟨?_, by repeat (first | exact Keep.refl _ _ | apply Keep.drewN | refine Keep.setCell ?_ (by simp) _ | refine Keep.alloc ?_ _)⟩
    simp [pk, pb, pm, px, he, hf]
  · have he : pe x = 2047 := by unfold pe; assumption
    have hf : pf x = 0 := WalkArith.int_eq' (by assumption)
    refine bodyPost_ret (v := .agg #[.int .i64 2, .bool (x / pw 63 == 1), .int .u64 0, .int .i64 0]) (by simp [results, Tryz.results59, go_sem]) rfl ⟨?_, by repeat (first | exact Keep.refl _ _ | apply Keep.drewN | refine Keep.setCell ?_ (by simp) _ | refine Keep.alloc ?_ _)⟩
    simp [pk, pb, pm, px, he, hf]
  · have he : pe x = 0 := by unfold pe; assumption
    have hf : pf x = 0 := WalkArith.int_eq (by assumption)
    refine bodyPost_ret (v := .agg #[.int .i64 3, .bool (x / pw 63 == 1), .int .u64 0, .int .i64 0]) (by simp [results, Tryz.results59, go_sem]) rfl ⟨?_, by repeat (first | exact Keep.refl _ _ | apply Keep.drewN | refine Keep.setCell ?_ (by simp) _ | refine Keep.alloc ?_ _)⟩
    simp [pk, pb, pm, px, he, hf]
  · have he : pe x = 0 := by unfold pe; assumption
    have hf : pf x ≠ 0 := WalkArith.int_ne (by assumption)
    refine bodyPost_ret (v := .agg #[.int .i64 4, .bool (x / pw 63 == 1), .int .u64 (pf x), .int .i64 (-1074)]) (by simp [results, Tryz.results59, go_sem, pf]) rfl ⟨?_, by repeat (first | exact Keep.refl _ _ | apply Keep.drewN | refine Keep.setCell ?_ (by simp) _ | refine Keep.alloc ?_ _)⟩
    simp [pk, pb, pm, px, he, hf]
  · have he : ¬ pe x = 2047 := by unfold pe; assumption
    have he0 : ¬ pe x = 0 := by unfold pe; assumption
    refine bodyPost_ret (v := .agg #[.int .i64 4, .bool (x / pw 63 == 1), .int .u64 (pf x + 4503599627370496), .int .i64 (pe x - 1075)]) (by simp [results, Tryz.results59, go_sem, pf, pe]) rfl ⟨?_, by repeat (first | exact Keep.refl _ _ | apply Keep.drewN | refine Keep.setCell ?_ (by simp) _ | refine Keep.alloc ?_ _)⟩
    simp [pk, pb, pm, px, he, he0]
end Go.Proofs.YtjapohefiggbaaaGreatDoor
