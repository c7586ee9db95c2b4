/- Sums, products, quotients and rests of patterns are patterns. -/
import Derived.Test.YtjapohefiggbaaaGreatDoorNumC
import Derived.Deep.RegionHeld3
import Derived.Deep.DrawnRows
namespace Go.Proofs.YtjapohefiggbaaaGreatDoor
open Go.RowKit

attribute [local go_sem ↓] Go.wp_at_zero Go.wp_at_succ
def RemA (m i : Value) : Prop := ∃ (a j : Int), m = .int .u64 a ∧ i = .int .i64 j ∧ 0 ≤ a ∧ a ≤ 9007199254740991 ∧ -1074 ≤ j ∧ j ≤ 971
def RemB (_m : Int) (n i : Value) : Prop := ∃ (a j : Int), n = .int .u64 a ∧ i = .int .i64 j ∧ 0 < a ∧ a ≤ 18014398509481984 ∧ -1074 ≤ j ∧ j ≤ 971
set_option maxRecDepth 100000 in
set_option maxHeartbeats 8000000 in
theorem Rem_calls (x y : Int) (w : World) (h0 : 0 ≤ x) (h1 : x ≤ 18446744073709551615) (h2 : 0 ≤ y) (h3 : y ≤ 18446744073709551615) :
    Calls Tryz.prog 58 #[.int .u64 x, .int .u64 y] w (RetK w) := by
  go_enter Tryz.func58, Tryz.ntmps58
  go_wp2_with fail
  (with_reducible refine (PN_calls x _ h0 h1).mono ?_); rintro e w1 ⟨k, b, m, p, rfl, -, hk, hm0, hm1, hp0, hp1, hm2, hw1⟩
  go_wp2_with fail
  (with_reducible refine (PN_calls y _ h2 h3).mono ?_); rintro e w2 ⟨k', b', m', p', rfl, -, hk', hm0', hm1', hp0', hp1', hm2', hw2⟩
  have Y5 := heap_alloc (hw2.heap (heap_new w1 (.cells #[.int .i64 k, .bool b, .int .u64 m, .int .i64 p] 83)) (by simp)) (.cells #[.int .i64 k', .bool b', .int .u64 m', .int .i64 p'] 83)
  have Y6 := heap_new w2 (.cells #[.int .i64 k', .bool b', .int .u64 m', .int .i64 p'] 83)
  have n56 : w1.heap.size ≠ w2.heap.size := by have := hw2.size; simp at this; omega
  have s5 : w.heap.size ≤ w1.heap.size := hw1.size
  have s6 : w.heap.size ≤ w2.heap.size := by have := hw2.size; simp at this; omega
  have hW := ((hw1.alloc (.cells #[.int .i64 k, .bool b, .int .u64 m, .int .i64 p] 83)).trans' hw2).alloc (.cells #[.int .i64 k', .bool b', .int .u64 m', .int .i64 p'] 83)
  obtain ⟨c50, c51, c52, c53⟩ := four_blk Y5
  obtain ⟨c60, c61, c62, c63⟩ := four_blk Y6
  have HW := Lib.hid hW
  have Y5 := Lib.hid Y5
  have Y6 := Lib.hid Y6
  clear hw1 hw2 hW
  by_cases hkk : k = 4 ∧ k' = 4
  · obtain ⟨rfl, rfl⟩ := hkk
    have hm3 := hm2 rfl
    have hm3' := hm2' rfl
    have hz' : (m' == 0) = false := by simp; omega
    by_cases hpq : p' ≤ p
    · go_wp2_with fail
      generalize w2.alloc (.cells #[.int .i64 4, .bool b', .int .u64 m', .int .i64 p'] 83) = W at *
      generalize hb5 : w1.heap.size = b5 at *
      generalize hb6 : w2.heap.size = b6 at *
      clear hb5 hb6
      go_loop [7, 8] RemA (fun _ i => (p - intOf i).toNat)
      case atStart => exact ⟨_, _, rfl, rfl, Int.emod_nonneg _ (by omega), by have := Int.emod_lt_of_pos m hm3'; omega, by omega, by omega⟩
      case round =>
        obtain ⟨a, j, rfl, rfl, ha0, ha1, hj0, hj1⟩ := hrel
        by_cases hlt : j < p
        · go_wp2_with fail
          go_round
          case rel => exact ⟨_, _, rfl, rfl, Int.emod_nonneg _ (by omega), by have := Int.emod_lt_of_pos (a * 2) hm3'; omega, by omega, by omega⟩
          case measure => simp [intOf]; omega
        · go_wp2_with (go_at_call 91; (with_reducible refine (RoundTo_calls _ _ _ _ _ (by omega) (by omega)).mono ?_); rintro e w' ⟨r, rfl, hr0, hr1, rfl⟩)
          go_ret
          exact ⟨_, rfl, hr0, hr1, HW.out⟩
    · go_wp2_with fail
      generalize w2.alloc (.cells #[.int .i64 4, .bool b', .int .u64 m', .int .i64 p'] 83) = W at *
      generalize hb5 : w1.heap.size = b5 at *
      generalize hb6 : w2.heap.size = b6 at *
      clear hb5 hb6
      go_loop [9, 10] (RemB m) (fun _ i => (p' - intOf i).toNat)
      case atStart => exact ⟨_, _, rfl, rfl, by omega, by omega, by omega, by omega⟩
      case round =>
        obtain ⟨a, j, rfl, rfl, ha0, ha1, hj0, hj1⟩ := hrel
        have hza : (a == 0) = false := by simp; omega
        by_cases hlt : j < p'
        · by_cases hgt : m < a
          · go_wp2_with fail
            go_ret
            exact ⟨_, rfl, h0, h1, HW.out⟩
          · go_wp2_with fail
            go_round
            case rel => exact ⟨_, _, rfl, rfl, by omega, by omega, by omega, by omega⟩
            case measure => simp [intOf]; omega
        · go_wp2_with fail
          refine wp_region_held_drew (S := fun w' => w'.cell? ⟨b5, 1, none⟩ = some (.bool b) ∧ w'.cell? ⟨b5, 3, none⟩ = some (.int .i64 p)) (by kernel_rfl) ?_ (fun hHeld => ?_)
          · exact ⟨c51, c53⟩
          refine wpAnyH_take (i := 0) (v := ?_) rfl (by kernel_rfl) (by kernel_rfl) (by kernel_rfl) (fun _ _ _ h => h) (Or.inl ⟨by rfl, ?_⟩) (by assumption) ?_
          rotate_left
          · (intro w hSw; (try dsimp only at hSw); go_simp; (try with_reducible rfl))
          try simp only [List.getElem_toArray, List.getElem_cons_succ, List.getElem_cons_zero, Act.put, List.setIfInBounds_toArray, List.set_cons_zero, List.set_cons_succ]
          refine wpAnyH_take (i := 1) (v := ?_) rfl (by kernel_rfl) (by kernel_rfl) (by kernel_rfl) (fun _ _ _ h => h) (Or.inl ⟨by rfl, ?_⟩) (by assumption) ?_
          rotate_left
          · (intro w hSw; (try dsimp only at hSw); go_simp; (try with_reducible rfl))
          try simp only [List.getElem_toArray, List.getElem_cons_succ, List.getElem_cons_zero, Act.put, List.setIfInBounds_toArray, List.set_cons_zero, List.set_cons_succ]
          refine wpAnyH_take (i := 2) (v := ?_) rfl (by kernel_rfl) (by kernel_rfl) (by kernel_rfl) (fun _ _ _ h => h) (Or.inl ⟨by rfl, ?_⟩) (by assumption) ?_
          rotate_left
          · (intro w hSw; (try dsimp only at hSw); go_simp; (try with_reducible rfl))
          try simp only [List.getElem_toArray, List.getElem_cons_succ, List.getElem_cons_zero, Act.put, List.setIfInBounds_toArray, List.set_cons_zero, List.set_cons_succ]
          refine wpAnyH_take (i := 3) (v := ?_) rfl (by kernel_rfl) (by kernel_rfl) (by kernel_rfl) (fun _ _ _ h => h) (Or.inl ⟨by rfl, ?_⟩) (by assumption) ?_
          rotate_left
          · (intro w hSw; (try dsimp only at hSw); go_simp; (try with_reducible rfl))
          try simp only [List.getElem_toArray, List.getElem_cons_succ, List.getElem_cons_zero, Act.put, List.setIfInBounds_toArray, List.set_cons_zero, List.set_cons_succ]
          refine wpAnyH_take (i := 5) (v := ?_) rfl (by kernel_rfl) (by kernel_rfl) (by kernel_rfl) (fun _ _ _ h => h) (Or.inl ⟨by rfl, ?_⟩) (by assumption) ?_
          rotate_left
          · (intro w hSw; (try dsimp only at hSw); go_simp; (try with_reducible rfl))
          try simp only [List.getElem_toArray, List.getElem_cons_succ, List.getElem_cons_zero, Act.put, List.setIfInBounds_toArray, List.set_cons_zero, List.set_cons_succ]
          refine wpAnyH_take (i := 6) (v := ?_) rfl (by kernel_rfl) (by kernel_rfl) (by kernel_rfl) (fun _ _ _ h => h) (Or.inl ⟨by rfl, ?_⟩) (by assumption) ?_
          rotate_left
          · (intro w hSw; (try dsimp only at hSw); go_simp; (try with_reducible rfl))
          try simp only [List.getElem_toArray, List.getElem_cons_succ, List.getElem_cons_zero, Act.put, List.setIfInBounds_toArray, List.set_cons_zero, List.set_cons_succ]
          refine wpAnyH_ready (rs := [4]) (by kernel_rfl) (by simp) ?_
          refine AllReadyH.cons rfl (fun K hK => ?_) AllReadyH.nil
          go_simp
          skip
          go_wp2_with fail
          refine hK.out _ _ ?_ (fun hHeld => ?_)
          · first | exact hHeld | assumption
          clear hK K
          try simp only [List.getElem_toArray, List.getElem_cons_succ, List.getElem_cons_zero, Act.put, List.setIfInBounds_toArray, List.set_cons_zero, List.set_cons_succ]
          refine wpAnyH_ready (rs := [7]) (by kernel_rfl) (by simp) ?_
          refine AllReadyH.cons rfl (fun K hK => ?_) AllReadyH.nil
          go_simp
          (with_reducible refine (RoundTo_calls _ _ _ _ _ (Int.emod_nonneg _ (by omega)) (by have := Int.emod_lt_of_pos m ha0; omega)).mono ?_); rintro e w' ⟨r, rfl, hr0, hr1, rfl⟩
          go_wp2_with fail
          refine hK.out _ _ ?_ (fun hHeld => ?_)
          · first | exact hHeld | assumption
          clear hK K
          try simp only [List.getElem_toArray, List.getElem_cons_succ, List.getElem_cons_zero, Act.put, List.setIfInBounds_toArray, List.set_cons_zero, List.set_cons_succ]
          refine wpAnyH_take (i := 8) (v := ?_) rfl (by kernel_rfl) (by kernel_rfl) (by kernel_rfl) (fun _ _ _ h => h) (Or.inl ⟨by rfl, ?_⟩) (by assumption) ?_
          rotate_left
          · (intro w hSw; (try dsimp only at hSw); go_simp; (try with_reducible rfl))
          try simp only [List.getElem_toArray, List.getElem_cons_succ, List.getElem_cons_zero, Act.put, List.setIfInBounds_toArray, List.set_cons_zero, List.set_cons_succ]
          refine wpAnyH_done (by kernel_rfl) ?_ _
          go_wp2_with fail
          go_ret
          exact ⟨_, rfl, hr0, hr1, HW.out.drew⟩
  · rcases hk with rfl | rfl | rfl | rfl <;> rcases hk' with rfl | rfl | rfl | rfl
    all_goals first
      | (exfalso; exact hkk ⟨rfl, rfl⟩)
      | (go_wp2_with fail
         go_ret
         exact ⟨_, rfl, by omega, by omega, HW.out⟩)

end Go.Proofs.YtjapohefiggbaaaGreatDoor
