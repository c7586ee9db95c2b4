/- Sums, products, quotients and rests of patterns are patterns. -/
import Derived.Test.YtjapohefiggbaaaGreatDoorNumC
namespace Go.Proofs.YtjapohefiggbaaaGreatDoor
open Go.RowKit

set_option maxHeartbeats 400000 in
theorem Wide_calls (x y : Int) (w : World) :
    Calls Tryz.prog 93 #[.int .u64 x, .int .u64 y] w fun e w' => ∃ a b : Int, e = .returned (.tuple #[.int .u64 a, .int .u64 b]) ∧ 0 ≤ a ∧ a ≤ 18446744073709551615 ∧ 0 ≤ b ∧ b ≤ 18446744073709551615 ∧ w = w' := by
  go_enter Tryz.func93, Tryz.ntmps93
  go_wp2_with fail
  refine bodyPost_ret (v := .tuple #[.int .u64 _, .int .u64 _]) (by simp only [results, Tryz.results93]; simp [go_sem, *]; exact ⟨rfl, rfl⟩) rfl ⟨_, _, rfl, ?_⟩
  exact ⟨(wrapU_bd _).1, (wrapU_bd _).2, (wrapU_bd _).1, (wrapU_bd _).2, rfl⟩

def MulIn (h l e m : Value) : Prop := ∃ (a b x : Int) (y : Bool), h = .int .u64 a ∧ l = .int .u64 b ∧ e = .int .i64 x ∧ m = .bool y ∧ 0 ≤ a ∧ a ≤ 18446744073709551615 ∧ 0 ≤ b ∧ b ≤ 18446744073709551615
set_option maxRecDepth 100000 in
set_option maxHeartbeats 8000000 in
theorem Mul_calls (x y : Int) (w : World) (h0 : 0 ≤ x) (h1 : x ≤ 18446744073709551615) (h2 : 0 ≤ y) (h3 : y ≤ 18446744073709551615) :
    Calls Tryz.prog 56 #[.int .u64 x, .int .u64 y] w (RetK w) := by
  go_enter Tryz.func56, Tryz.ntmps56
  go_wp2_with fail
  (with_reducible refine (PN_calls x _ h0 h1).mono ?_); rintro e w1 ⟨k, b, m, p, rfl, -, hk, hm0, hm1, hp0, hp1, hm2, hw1⟩
  go_wp2_with fail
  (with_reducible refine (PN_calls y _ h2 h3).mono ?_); rintro e w2 ⟨k', b', m', p', rfl, -, hk', hm0', hm1', hp0', hp1', hm2', hw2⟩
  have Y5 := heap_alloc (hw2.heap (heap_new w1 (.cells #[.int .i64 k, .bool b, .int .u64 m, .int .i64 p] 83)) (by simp)) (.cells #[.int .i64 k', .bool b', .int .u64 m', .int .i64 p'] 83)
  have Y6 := heap_new w2 (.cells #[.int .i64 k', .bool b', .int .u64 m', .int .i64 p'] 83)
  have n56 : w1.heap.size ≠ w2.heap.size := by have := hw2.size; simp at this; omega
  have s5 : w.heap.size ≤ w1.heap.size := hw1.size
  have s6 : w.heap.size ≤ w2.heap.size := by have := hw2.size; simp at this; omega
  have hW := ((hw1.alloc (.cells #[.int .i64 k, .bool b, .int .u64 m, .int .i64 p] 83)).trans' hw2).alloc (.cells #[.int .i64 k', .bool b', .int .u64 m', .int .i64 p'] 83)
  obtain ⟨c50, c51, c52, c53⟩ := four_blk Y5
  obtain ⟨c60, c61, c62, c63⟩ := four_blk Y6
  have HW := Lib.hid hW
  have Y5 := Lib.hid Y5
  have Y6 := Lib.hid Y6
  clear hw1 hw2 hW
  by_cases hkk : k = 4 ∧ k' = 4
  · obtain ⟨rfl, rfl⟩ := hkk
    go_wp2_with fail
    (with_reducible refine (Wide_calls _ _ _).mono ?_); rintro e w' ⟨hi, lo, rfl, hi0, hi1, lo0, lo1, rfl⟩
    go_wp2_with fail
    go_loop [8, 9, 10, 11] MulIn (fun h _ _ _ => (intOf h).toNat)
    case atStart => exact ⟨_, _, _, _, rfl, rfl, rfl, rfl, hi0, hi1, lo0, lo1⟩
    case round =>
      obtain ⟨a, c, z, y, rfl, rfl, rfl, rfl, ha0, ha1, hc0, hc1⟩ := hrel
      have hpp := pw63
      by_cases hlt : 0 < a
      · cases y
        all_goals
          go_wp2_with (go_at_call 64; (with_reducible refine (l03Pow_calls _ _ (by omega) (by omega)).mono ?_); rintro e w' ⟨rfl, rfl⟩)
          go_round
          case rel => exact ⟨_, _, _, _, rfl, rfl, rfl, rfl, by omega, by omega, by omega, by omega⟩
          case measure => simp [intOf]; omega
      · go_wp2_with (go_at_call 91; (with_reducible refine (RoundTo_calls _ _ _ _ _ hc0 hc1).mono ?_); rintro e w' ⟨r, rfl, hr0, hr1, rfl⟩)
        go_ret
        exact ⟨_, rfl, hr0, hr1, HW.out⟩
  · rcases hk with rfl | rfl | rfl | rfl <;> rcases hk' with rfl | rfl | rfl | rfl
    all_goals first
      | (exfalso; exact hkk ⟨rfl, rfl⟩)
      | (go_wp2_with (go_at_call 92; (with_reducible refine (l03Sign_calls _ _ _ (by omega) (by omega)).mono ?_); rintro e w' ⟨r, rfl, hr0, hr1, rfl⟩)
         go_ret
         exact ⟨_, rfl, by omega, by omega, HW.out⟩)

end Go.Proofs.YtjapohefiggbaaaGreatDoor
