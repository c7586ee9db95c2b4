/- What an op does to two values. -/
import Derived.Test.YtjapohefiggbaaaGreatDoorValC
import Derived.Test.YtjapohefiggbaaaGreatDoorNumD
import Derived.Test.YtjapohefiggbaaaGreatDoorNumE
import Derived.Test.YtjapohefiggbaaaGreatDoorNumF
import Derived.Test.YtjapohefiggbaaaGreatDoorNumG
import Derived.Deep.RegionHeld3
import Derived.Deep.DrawnRows
namespace Go.Proofs.YtjapohefiggbaaaGreatDoor
open Go.RowKit

/-- An op that compares. -/
def cmpB (x : Int) : Bool := decide (6 ≤ x ∧ x ≤ 9)
theorem cmpB_eq (x : Int) (b : Bool) (h : b = true ↔ (6 ≤ x ∧ x ≤ 9)) : b = cmpB x := by rw [Bool.eq_iff_iff, h]; unfold cmpB; simp
theorem cmpB_iff (x : Int) : cmpB x = true ↔ (6 ≤ x ∧ x ≤ 9) := by unfold cmpB; simp

set_option maxRecDepth 100000 in
theorem within_calls (x : Int) (w : World) : Calls Tryz.prog 30 #[.int .i64 x, .int .i64 6, .int .i64 9] w fun e w' => e = .returned (.bool (cmpB x)) ∧ w = w' := by
  go_enter Tryz.func30, Tryz.ntmps30
  by_cases h1 : 6 ≤ x
  · by_cases h2 : x ≤ 9
    · go_wp2_with fail
      go_ret
      exact ⟨by rw [← cmpB_eq x true (by simp; omega)]; rfl, rfl⟩
    · go_wp2_with fail
      go_ret
      exact ⟨by rw [← cmpB_eq x false (by simp; omega)]; rfl, rfl⟩
  · go_wp2_with fail
    go_ret
    exact ⟨by rw [← cmpB_eq x false (by simp; omega)]; rfl, rfl⟩

set_option maxRecDepth 100000 in
theorem l01In_calls (x : Int) (w : World) : Calls Tryz.prog 37 #[.int .i64 x, .int .i64 6, .int .i64 9] w fun e w' => e = .returned (.bool (cmpB x)) ∧ w = w' := by
  go_enter Tryz.func37, Tryz.ntmps37
  by_cases h1 : 6 ≤ x
  · by_cases h2 : x ≤ 9
    · go_wp2_with fail
      go_ret
      exact ⟨by rw [← cmpB_eq x true (by simp; omega)]; rfl, rfl⟩
    · go_wp2_with fail
      go_ret
      exact ⟨by rw [← cmpB_eq x false (by simp; omega)]; rfl, rfl⟩
  · go_wp2_with fail
    go_ret
    exact ⟨by rw [← cmpB_eq x false (by simp; omega)]; rfl, rfl⟩


set_option maxRecDepth 100000 in
set_option maxHeartbeats 2000000 in
theorem compared_calls (op : Int) (a b c : Bool) (w : World) : Calls Tryz.prog 41 #[.int .i64 op, .bool a, .bool b, .bool c] w (RetBV w) := by
  go_enter Tryz.func41, Tryz.ntmps41
  cases a <;> cases b <;> cases c
  all_goals
    go_wp2_with (go_at_call 40; (with_reducible refine (boolValue_calls _ _).mono ?_); rintro e w' ⟨n, rfl, hn0, hn1, hk⟩; have hz := hk.heap (heap_new w (.cells #[.int .i64 0, .int .u64 0, .string ⟨#[]⟩, .int .i64 0] 44)) (by simp); obtain ⟨c0, c1, c2, c3⟩ := four_blk hz; obtain ⟨f0, f1, f2, f3⟩ := four_frozen hz; have HK := Lib.hid (((Keep.refl [] w).alloc _).trans' hk); clear hk hz)
    all_goals
      refine bodyPost_ret (v := .agg #[.int .i64 1, .int .u64 n, .string ⟨#[]⟩, .int .i64 0]) (by simp only [results, Tryz.results41]; simp [go_sem, *]) rfl ⟨n, rfl, hn0, hn1, HK.out.four (.inr (Nat.le_refl _)) _ _ _ _⟩

set_option maxRecDepth 100000 in
set_option maxHeartbeats 2000000 in
theorem l17Order_calls (op : Int) (a b c : Bool) (w : World) : Calls Tryz.prog 49 #[.int .i64 op, .bool a, .bool b, .bool c] w (RetBV w) := by
  go_enter Tryz.func49, Tryz.ntmps49
  cases a <;> cases b <;> cases c
  all_goals
    go_wp2_with (go_at_call 47; (with_reducible refine (l17Bool_calls _ _).mono ?_); rintro e w' ⟨n, rfl, hn0, hn1, hk⟩; have hz := hk.heap (heap_new w (.cells #[.int .i64 0, .int .u64 0, .string ⟨#[]⟩, .int .i64 0] 44)) (by simp); obtain ⟨c0, c1, c2, c3⟩ := four_blk hz; obtain ⟨f0, f1, f2, f3⟩ := four_frozen hz; have HK := Lib.hid (((Keep.refl [] w).alloc _).trans' hk); clear hk hz)
    all_goals
      refine bodyPost_ret (v := .agg #[.int .i64 1, .int .u64 n, .string ⟨#[]⟩, .int .i64 0]) (by simp only [results, Tryz.results49]; simp [go_sem, *]) rfl ⟨n, rfl, hn0, hn1, HK.out.four (.inr (Nat.le_refl _)) _ _ _ _⟩

/-- Two patterns and whether it is an op of numbers. -/
def RetR (ok : Prop) (w : World) (e : Ending) (w' : World) : Prop := ∃ (r : Int) (b : Bool), e = .returned (.tuple #[.int .u64 r, .bool b]) ∧ (b = true ↔ ok) ∧ 0 ≤ r ∧ r ≤ 18446744073709551615 ∧ Keep [] w w'

set_option maxRecDepth 100000 in
set_option maxHeartbeats 2000000 in
theorem reckon_calls (op x y : Int) (w : World) (h0 : 0 ≤ x) (h1 : x ≤ 18446744073709551615) (h2 : 0 ≤ y) (h3 : y ≤ 18446744073709551615) :
    Calls Tryz.prog 45 #[.int .i64 op, .int .u64 x, .int .u64 y] w (RetR (1 ≤ op ∧ op ≤ 5) w) := by
  go_enter Tryz.func45, Tryz.ntmps45
  by_cases ho : 1 ≤ op ∧ op ≤ 5
  · have hcase : op = 1 ∨ op = 2 ∨ op = 3 ∨ op = 4 ∨ op = 5 := by omega
    rcases hcase with rfl | rfl | rfl | rfl | rfl
    all_goals
      go_wp2_with (first
        | (go_at_call 85; (with_reducible refine (iAdd_calls _ _ _).mono ?_); rintro e w' ⟨r, rfl, hr0, hr1, hk⟩)
        | (go_at_call 86; (with_reducible refine (iSub_calls _ _ _ h2 h3).mono ?_); rintro e w' ⟨r, rfl, hr0, hr1, hk⟩)
        | (go_at_call 87; (with_reducible refine (iMul_calls _ _ _).mono ?_); rintro e w' ⟨r, rfl, hr0, hr1, hk⟩)
        | (go_at_call 88; (with_reducible refine (iDiv_calls _ _ _).mono ?_); rintro e w' ⟨r, rfl, hr0, hr1, hk⟩)
        | (go_at_call 89; (with_reducible refine (iRem_calls _ _ _ h0 h1 h2 h3).mono ?_); rintro e w' ⟨r, rfl, hr0, hr1, hk⟩))
      refine bodyPost_ret (v := .tuple #[.int .u64 r, .bool true]) (by simp only [results, Tryz.results45]; simp [go_sem, *]) rfl ⟨r, true, rfl, by simp, hr0, hr1, hk⟩
  · have b1 : (op == 1) = false := by simp; omega
    have b2 : (op == 2) = false := by simp; omega
    have b3 : (op == 3) = false := by simp; omega
    have b4 : (op == 4) = false := by simp; omega
    have b5 : (op == 5) = false := by simp; omega
    have HO := Lib.hid ho
    clear ho
    go_wp2_with fail
    refine bodyPost_ret (v := .tuple #[.int .u64 0, .bool false]) (by simp only [results, Tryz.results45]; simp [go_sem, *]) rfl ⟨0, false, rfl, by have := HO.out; simp; omega, by omega, by omega, Keep.refl _ _⟩
end Go.Proofs.YtjapohefiggbaaaGreatDoor
