/- Sums, products, quotients and rests of patterns are patterns. -/
import Derived.Test.YtjapohefiggbaaaGreatDoorNumC
namespace Go.Proofs.YtjapohefiggbaaaGreatDoor
open Go.RowKit

def AddA (m e : Value) : Prop := ∃ (a j : Int), m = .int .u64 a ∧ e = .int .i64 j ∧ 0 ≤ a ∧ a ≤ 4611686018427387904 ∧ -1074 ≤ j ∧ j ≤ 971
def AddB (n l i : Value) : Prop := ∃ (a j : Int) (z : Bool), n = .int .u64 a ∧ l = .bool z ∧ i = .int .i64 j ∧ 0 ≤ a ∧ a ≤ 9007199254740991 ∧ -1074 ≤ j ∧ j ≤ 972
theorem pw61 : pw 61 = 2305843009213693952 := rfl
set_option maxRecDepth 100000 in
set_option maxHeartbeats 8000000 in
theorem Add_calls (x y : Int) (w : World) (h0 : 0 ≤ x) (h1 : x ≤ 18446744073709551615) (h2 : 0 ≤ y) (h3 : y ≤ 18446744073709551615) :
    Calls Tryz.prog 54 #[.int .u64 x, .int .u64 y] w (RetK w) := by
  go_enter Tryz.func54, Tryz.ntmps54
  go_wp2_with fail
  (with_reducible refine (PN_calls x _ h0 h1).mono ?_); rintro e w1 ⟨k, b, m, p, rfl, -, hk, hm0, hm1, hp0, hp1, hm2, hw1⟩
  go_wp2_with fail
  (with_reducible refine (PN_calls y _ h2 h3).mono ?_); rintro e w2 ⟨k', b', m', p', rfl, -, hk', hm0', hm1', hp0', hp1', hm2', hw2⟩
  have Y5 := heap_alloc (hw2.heap (heap_new w1 (.cells #[.int .i64 k, .bool b, .int .u64 m, .int .i64 p] 83)) (by simp)) (.cells #[.int .i64 k', .bool b', .int .u64 m', .int .i64 p'] 83)
  have Y6 := heap_new w2 (.cells #[.int .i64 k', .bool b', .int .u64 m', .int .i64 p'] 83)
  have n56 : w1.heap.size ≠ w2.heap.size := by have := hw2.size; simp at this; omega
  have s5 : w.heap.size ≤ w1.heap.size := hw1.size
  have s6 : w.heap.size ≤ w2.heap.size := by have := hw2.size; simp at this; omega
  have hW := ((hw1.alloc (.cells #[.int .i64 k, .bool b, .int .u64 m, .int .i64 p] 83)).trans' hw2).alloc (.cells #[.int .i64 k', .bool b', .int .u64 m', .int .i64 p'] 83)
  obtain ⟨c50, c51, c52, c53⟩ := four_blk Y5
  obtain ⟨c60, c61, c62, c63⟩ := four_blk Y6
  have HW := Lib.hid hW
  have Y5 := Lib.hid Y5
  have Y6 := Lib.hid Y6
  clear hw1 hw2 hW
  by_cases hkk : k = 4 ∧ k' = 4
  · obtain ⟨rfl, rfl⟩ := hkk
    have hm3 := hm2 rfl
    have hm3' := hm2' rfl
    obtain ⟨g50, g51, g52, g53⟩ := four_frozen Y5.out
    obtain ⟨g60, g61, g62, g63⟩ := four_frozen Y6.out
    go_upto_region 21 with fail
    generalize w2.alloc (.cells #[.int .i64 4, .bool b', .int .u64 m', .int .i64 p'] 83) = W at *
    generalize hb5 : w1.heap.size = b5 at *
    generalize hb6 : w2.heap.size = b6 at *
    clear hb5 hb6 hk hk' hm2 hm2'
    have key : p < p' ∨ (p = p' ∧ m < m') ∨ (p' < p ∨ p = p' ∧ m' ≤ m) := by omega
    rcases key with hq | ⟨hq, hqm⟩ | hq
    case inl =>
      go_upto_region 23 with fail
      have Z5 := four_set_far (four_set Y5.out (.int .i64 4) (.bool b') (.int .u64 m') (.int .i64 p')) n56 (.int .i64 4) (.bool b) (.int .u64 m) (.int .i64 p)
      have Z6 := four_set (four_set_far Y6.out (Ne.symm n56) (.int .i64 4) (.bool b') (.int .u64 m') (.int .i64 p')) (.int .i64 4) (.bool b) (.int .u64 m) (.int .i64 p)
      have K := Lib.hid ((HW.out.four (.inr s5) (.int .i64 4) (.bool b') (.int .u64 m') (.int .i64 p')).four (.inr s6) (.int .i64 4) (.bool b) (.int .u64 m) (.int .i64 p))
      clear HW
      clear c50 c51 c52 c53 c60 c61 c62 c63 g50 g51 g52 g53 g60 g61 g62 g63
      obtain ⟨-, c51, c52, c53⟩ := four_blk Z5
      obtain ⟨-, c61, c62, c63⟩ := four_blk Z6
      have HW := K
      clear Y5 Y6 Z5 Z6 K
      generalize (((((((W.setCell ⟨b5, 0, none⟩ (.int .i64 4)).setCell ⟨b5, 1, none⟩ (.bool b')).setCell ⟨b5, 2, none⟩ (.int .u64 m')).setCell ⟨b5, 3, none⟩ (.int .i64 p')).setCell ⟨b6, 0, none⟩ (.int .i64 4)).setCell ⟨b6, 1, none⟩ (.bool b)).setCell ⟨b6, 2, none⟩ (.int .u64 m)).setCell ⟨b6, 3, none⟩ (.int .i64 p) = V at *
      go_wp2_with fail
      go_loop [7, 8] AddA (fun _ e => (intOf e + 1074).toNat)
      case atStart => exact ⟨_, _, rfl, rfl, by omega, by omega, by omega, by omega⟩
      case round =>
        obtain ⟨a, j, rfl, rfl, ha0, ha1, hj0, hj1⟩ := hrel
        have hp61 := pw61
        by_cases hc : a < pw 61 ∧ p < j
        · obtain ⟨hc1, hc2⟩ := hc
          go_wp2_with (go_at_call 64; (with_reducible refine (l03Pow_calls _ _ (by omega) (by omega)).mono ?_); rintro e w' ⟨rfl, rfl⟩)
          go_round
          case rel => exact ⟨_, _, rfl, rfl, by omega, by omega, by omega, by omega⟩
          case measure => simp [intOf]; omega
        · go_wp2_with (go_at_call 64; (with_reducible refine (l03Pow_calls _ _ (by omega) (by omega)).mono ?_); rintro e w' ⟨rfl, rfl⟩)
          all_goals first | (exfalso; omega) | skip
          all_goals
            go_loop [9, 10, 11] AddB (fun _ _ i => (980 - intOf i).toNat)
            case atStart => exact ⟨_, _, _, rfl, rfl, rfl, by omega, by omega, by omega, by omega⟩
            case round =>
              obtain ⟨c, i, z, rfl, rfl, rfl, hc0, hc1, hi0, hi1⟩ := hrel
              by_cases hlt : i < j
              · cases z
                all_goals
                  go_wp2_with fail
                  all_goals
                    go_round
                    case rel => exact ⟨_, _, _, rfl, rfl, rfl, by omega, by omega, by omega, by omega⟩
                    case measure => simp [intOf]; omega
              · cases z
                all_goals
                  go_wp2_with (go_at_call 91; (with_reducible refine (RoundTo_calls _ _ _ _ _ (by first | omega | exact (wrapU_bd _).1) (by first | omega | exact (wrapU_bd _).2)).mono ?_); rintro e w' ⟨r, rfl, hr0, hr1, rfl⟩)
                  all_goals (go_ret; exact ⟨_, rfl, by omega, by omega, HW.out⟩)
    case inr.inl =>
      subst hq
      go_upto_region 23 with fail
      have Z5 := four_set_far (four_set Y5.out (.int .i64 4) (.bool b') (.int .u64 m') (.int .i64 p)) n56 (.int .i64 4) (.bool b) (.int .u64 m) (.int .i64 p)
      have Z6 := four_set (four_set_far Y6.out (Ne.symm n56) (.int .i64 4) (.bool b') (.int .u64 m') (.int .i64 p)) (.int .i64 4) (.bool b) (.int .u64 m) (.int .i64 p)
      have K := Lib.hid ((HW.out.four (.inr s5) (.int .i64 4) (.bool b') (.int .u64 m') (.int .i64 p)).four (.inr s6) (.int .i64 4) (.bool b) (.int .u64 m) (.int .i64 p))
      clear HW
      clear c50 c51 c52 c53 c60 c61 c62 c63 g50 g51 g52 g53 g60 g61 g62 g63
      obtain ⟨-, c51, c52, c53⟩ := four_blk Z5
      obtain ⟨-, c61, c62, c63⟩ := four_blk Z6
      have HW := K
      clear Y5 Y6 Z5 Z6 K
      generalize (((((((W.setCell ⟨b5, 0, none⟩ (.int .i64 4)).setCell ⟨b5, 1, none⟩ (.bool b')).setCell ⟨b5, 2, none⟩ (.int .u64 m')).setCell ⟨b5, 3, none⟩ (.int .i64 p)).setCell ⟨b6, 0, none⟩ (.int .i64 4)).setCell ⟨b6, 1, none⟩ (.bool b)).setCell ⟨b6, 2, none⟩ (.int .u64 m)).setCell ⟨b6, 3, none⟩ (.int .i64 p) = V at *
      go_wp2_with fail
      go_loop [7, 8] AddA (fun _ e => (intOf e + 1074).toNat)
      case atStart => exact ⟨_, _, rfl, rfl, by omega, by omega, by omega, by omega⟩
      case round =>
        obtain ⟨a, j, rfl, rfl, ha0, ha1, hj0, hj1⟩ := hrel
        have hp61 := pw61
        by_cases hc : a < pw 61 ∧ p < j
        · obtain ⟨hc1, hc2⟩ := hc
          go_wp2_with (go_at_call 64; (with_reducible refine (l03Pow_calls _ _ (by omega) (by omega)).mono ?_); rintro e w' ⟨rfl, rfl⟩)
          go_round
          case rel => exact ⟨_, _, rfl, rfl, by omega, by omega, by omega, by omega⟩
          case measure => simp [intOf]; omega
        · go_wp2_with (go_at_call 64; (with_reducible refine (l03Pow_calls _ _ (by omega) (by omega)).mono ?_); rintro e w' ⟨rfl, rfl⟩)
          all_goals first | (exfalso; omega) | skip
          all_goals
            go_loop [9, 10, 11] AddB (fun _ _ i => (980 - intOf i).toNat)
            case atStart => exact ⟨_, _, _, rfl, rfl, rfl, by omega, by omega, by omega, by omega⟩
            case round =>
              obtain ⟨c, i, z, rfl, rfl, rfl, hc0, hc1, hi0, hi1⟩ := hrel
              by_cases hlt : i < j
              · cases z
                all_goals
                  go_wp2_with fail
                  all_goals
                    go_round
                    case rel => exact ⟨_, _, _, rfl, rfl, rfl, by omega, by omega, by omega, by omega⟩
                    case measure => simp [intOf]; omega
              · cases z
                all_goals
                  go_wp2_with (go_at_call 91; (with_reducible refine (RoundTo_calls _ _ _ _ _ (by first | omega | exact (wrapU_bd _).1) (by first | omega | exact (wrapU_bd _).2)).mono ?_); rintro e w' ⟨r, rfl, hr0, hr1, rfl⟩)
                  all_goals (go_ret; exact ⟨_, rfl, by omega, by omega, HW.out⟩)
    case inr.inr =>
      clear g50 g51 g52 g53 g60 g61 g62 g63
      rcases hq with hq | ⟨hq, hqm⟩
      · skip
        go_wp2_with fail
        go_loop [7, 8] AddA (fun _ e => (intOf e + 1074).toNat)
        case atStart => exact ⟨_, _, rfl, rfl, by omega, by omega, by omega, by omega⟩
        case round =>
          obtain ⟨a, j, rfl, rfl, ha0, ha1, hj0, hj1⟩ := hrel
          have hp61 := pw61
          by_cases hc : a < pw 61 ∧ p' < j
          · obtain ⟨hc1, hc2⟩ := hc
            go_wp2_with (go_at_call 64; (with_reducible refine (l03Pow_calls _ _ (by omega) (by omega)).mono ?_); rintro e w' ⟨rfl, rfl⟩)
            go_round
            case rel => exact ⟨_, _, rfl, rfl, by omega, by omega, by omega, by omega⟩
            case measure => simp [intOf]; omega
          · go_wp2_with (go_at_call 64; (with_reducible refine (l03Pow_calls _ _ (by omega) (by omega)).mono ?_); rintro e w' ⟨rfl, rfl⟩)
            all_goals first | (exfalso; omega) | skip
            all_goals
              go_loop [9, 10, 11] AddB (fun _ _ i => (980 - intOf i).toNat)
              case atStart => exact ⟨_, _, _, rfl, rfl, rfl, by omega, by omega, by omega, by omega⟩
              case round =>
                obtain ⟨c, i, z, rfl, rfl, rfl, hc0, hc1, hi0, hi1⟩ := hrel
                by_cases hlt : i < j
                · cases z
                  all_goals
                    go_wp2_with fail
                    all_goals
                      go_round
                      case rel => exact ⟨_, _, _, rfl, rfl, rfl, by omega, by omega, by omega, by omega⟩
                      case measure => simp [intOf]; omega
                · cases z
                  all_goals
                    go_wp2_with (go_at_call 91; (with_reducible refine (RoundTo_calls _ _ _ _ _ (by first | omega | exact (wrapU_bd _).1) (by first | omega | exact (wrapU_bd _).2)).mono ?_); rintro e w' ⟨r, rfl, hr0, hr1, rfl⟩)
                    all_goals (go_ret; exact ⟨_, rfl, by omega, by omega, HW.out⟩)
      · subst hq
        go_wp2_with fail
        go_loop [7, 8] AddA (fun _ e => (intOf e + 1074).toNat)
        case atStart => exact ⟨_, _, rfl, rfl, by omega, by omega, by omega, by omega⟩
        case round =>
          obtain ⟨a, j, rfl, rfl, ha0, ha1, hj0, hj1⟩ := hrel
          have hp61 := pw61
          by_cases hc : a < pw 61 ∧ p < j
          · obtain ⟨hc1, hc2⟩ := hc
            go_wp2_with (go_at_call 64; (with_reducible refine (l03Pow_calls _ _ (by omega) (by omega)).mono ?_); rintro e w' ⟨rfl, rfl⟩)
            go_round
            case rel => exact ⟨_, _, rfl, rfl, by omega, by omega, by omega, by omega⟩
            case measure => simp [intOf]; omega
          · go_wp2_with (go_at_call 64; (with_reducible refine (l03Pow_calls _ _ (by omega) (by omega)).mono ?_); rintro e w' ⟨rfl, rfl⟩)
            all_goals first | (exfalso; omega) | skip
            all_goals
              go_loop [9, 10, 11] AddB (fun _ _ i => (980 - intOf i).toNat)
              case atStart => exact ⟨_, _, _, rfl, rfl, rfl, by omega, by omega, by omega, by omega⟩
              case round =>
                obtain ⟨c, i, z, rfl, rfl, rfl, hc0, hc1, hi0, hi1⟩ := hrel
                by_cases hlt : i < j
                · cases z
                  all_goals
                    go_wp2_with fail
                    all_goals
                      go_round
                      case rel => exact ⟨_, _, _, rfl, rfl, rfl, by omega, by omega, by omega, by omega⟩
                      case measure => simp [intOf]; omega
                · cases z
                  all_goals
                    go_wp2_with (go_at_call 91; (with_reducible refine (RoundTo_calls _ _ _ _ _ (by first | omega | exact (wrapU_bd _).1) (by first | omega | exact (wrapU_bd _).2)).mono ?_); rintro e w' ⟨r, rfl, hr0, hr1, rfl⟩)
                    all_goals (go_ret; exact ⟨_, rfl, by omega, by omega, HW.out⟩)
  · rcases hk with rfl | rfl | rfl | rfl <;> rcases hk' with rfl | rfl | rfl | rfl
    all_goals first
      | (exfalso; exact hkk ⟨rfl, rfl⟩)
      | (cases b <;> cases b' <;>
          (go_wp2_with fail
           go_ret
           exact ⟨_, rfl, by omega, by omega, HW.out⟩))

end Go.Proofs.YtjapohefiggbaaaGreatDoor
