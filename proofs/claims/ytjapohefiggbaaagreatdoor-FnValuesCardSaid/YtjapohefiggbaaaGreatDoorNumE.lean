/- Sums, products, quotients and rests of patterns are patterns. -/
import Derived.Test.YtjapohefiggbaaaGreatDoorNumC
namespace Go.Proofs.YtjapohefiggbaaaGreatDoor
open Go.RowKit

def UpIn (w0 : World) (b1 : Nat) (k : Int) (b : Bool) (wx : World) : Prop := ∃ m p : Int, wx.heap[b1]? = some (.cells #[.int .i64 k, .bool b, .int .u64 m, .int .i64 p] 83) ∧ 0 < m ∧ m ≤ 9007199254740991 ∧ wx.heap[b1 + 1]? = some (.cells #[.int .i64 0, .bool false, .int .u64 0, .int .i64 0] 83) ∧ Keep [] w0 wx
def upM (b1 : Nat) (w : World) : Nat := match w.cell? ⟨b1, 2, none⟩ with | some v => (9007199254740991 - intOf v).toNat | none => 0

set_option maxRecDepth 100000 in
set_option maxHeartbeats 1000000 in
theorem l05Up_calls (k : Int) (b : Bool) (m p : Int) (w : World) (h0 : 0 < m) (h1 : m ≤ 9007199254740991) :
    Calls Tryz.prog 94 #[.agg #[.int .i64 k, .bool b, .int .u64 m, .int .i64 p]] w fun e w' => ∃ m' p' : Int, e = .returned (.agg #[.int .i64 k, .bool b, .int .u64 m', .int .i64 p']) ∧ 4503599627370496 ≤ m' ∧ m' ≤ 9007199254740991 ∧ Keep [] w w' := by
  go_enter Tryz.func94, Tryz.ntmps94
  go_wp2_with fail
  go_loopw [] (UpIn w w.heap.size k b) (fun wx => upM w.heap.size wx)
  case atStart => exact ⟨m, p, heap_alloc (heap_new _ _) _, h0, h1, by simpa using heap_new (w.alloc (.cells #[.int .i64 k, .bool b, .int .u64 m, .int .i64 p] 83)) (.cells #[.int .i64 0, .bool false, .int .u64 0, .int .i64 0] 83), ((Keep.refl _ _).alloc _).alloc _⟩
  case round =>
    obtain ⟨m1, p1, hb, hm0, hm1, hz, hk⟩ := hrel
    have z0 := cell_blk hz 0
    have z1 := cell_blk hz 1
    have z2 := cell_blk hz 2
    have z3 := cell_blk hz 3
    have g0 := frozen_blk hz 0
    have g1 := frozen_blk hz 1
    have g2 := frozen_blk hz 2
    have g3 := frozen_blk hz 3
    have c0 := cell_blk hb 0
    have c1 := cell_blk hb 1
    have c2 := cell_blk hb 2
    have c3 := cell_blk hb 3
    have f2 := frozen_blk hb 2
    have f3 := frozen_blk hb 3
    simp at c0 c1 c2 c3 z0 z1 z2 z3
    have HZ := Lib.hid hz
    clear hz
    have HB := Lib.hid hb
    have HK := Lib.hid hk
    clear hb hk
    by_cases hlt : m1 < 4503599627370496
    · go_wp2_with fail
      go_roundw
      case rel => exact ⟨m1 * 2, _, heap_set (heap_set HB.out 2 _) 3 _, by omega, by omega, heap_set_far (heap_set_far HZ.out (by omega) 2 _) (by omega) 3 _, (HK.out.setCell (.inr (Nat.le_refl _)) _).setCell (.inr (Nat.le_refl _)) _⟩
      case measure =>
        have := fun q => cell_blk (heap_set (heap_set HB.out 2 (.int .u64 (m1 * 2))) 3 (.int .i64 q)) 2
        simp [upM, intOf, c2, this]
        omega
    · go_wp2_with fail
      refine bodyPost_ret (v := .agg #[.int .i64 k, .bool b, .int .u64 m1, .int .i64 p1]) (by simp only [results, Tryz.results94]; simp [go_sem, *]) rfl ?_
      refine ⟨m1, ⟨p1, rfl⟩, hlt, hm1, ?_⟩
      have hl : w.heap.size ≤ w.heap.size + 1 := by omega
      exact (((HK.out.setCell (.inr hl) _).setCell (.inr hl) _).setCell (.inr hl) _).setCell (.inr hl) _

def DivIn (l n e i : Value) : Prop := ∃ (a c x j : Int), l = .int .u64 a ∧ n = .int .u64 c ∧ e = .int .i64 x ∧ i = .int .i64 j ∧ 0 ≤ a ∧ a ≤ 18446744073709551615 ∧ 0 ≤ c ∧ c ≤ 18446744073709551615 ∧ 0 ≤ j ∧ j ≤ 62
set_option maxRecDepth 100000 in
set_option maxHeartbeats 8000000 in
theorem Div_calls (x y : Int) (w : World) (h0 : 0 ≤ x) (h1 : x ≤ 18446744073709551615) (h2 : 0 ≤ y) (h3 : y ≤ 18446744073709551615) :
    Calls Tryz.prog 57 #[.int .u64 x, .int .u64 y] w (RetK w) := by
  go_enter Tryz.func57, Tryz.ntmps57
  go_wp2_with fail
  (with_reducible refine (PN_calls x _ h0 h1).mono ?_); rintro e w1 ⟨k, b, m, p, rfl, -, hk, hm0, hm1, hp0, hp1, hm2, hw1⟩
  go_wp2_with fail
  (with_reducible refine (PN_calls y _ h2 h3).mono ?_); rintro e w2 ⟨k', b', m', p', rfl, -, hk', hm0', hm1', hp0', hp1', hm2', hw2⟩
  have Y5 := heap_alloc (hw2.heap (heap_new w1 (.cells #[.int .i64 k, .bool b, .int .u64 m, .int .i64 p] 83)) (by simp)) (.cells #[.int .i64 k', .bool b', .int .u64 m', .int .i64 p'] 83)
  have Y6 := heap_new w2 (.cells #[.int .i64 k', .bool b', .int .u64 m', .int .i64 p'] 83)
  have n56 : w1.heap.size ≠ w2.heap.size := by have := hw2.size; simp at this; omega
  have s5 : w.heap.size ≤ w1.heap.size := hw1.size
  have s6 : w.heap.size ≤ w2.heap.size := by have := hw2.size; simp at this; omega
  have hW := ((hw1.alloc (.cells #[.int .i64 k, .bool b, .int .u64 m, .int .i64 p] 83)).trans' hw2).alloc (.cells #[.int .i64 k', .bool b', .int .u64 m', .int .i64 p'] 83)
  obtain ⟨c50, c51, c52, c53⟩ := four_blk Y5
  obtain ⟨c60, c61, c62, c63⟩ := four_blk Y6
  have HW := Lib.hid hW
  have Y5 := Lib.hid Y5
  have Y6 := Lib.hid Y6
  clear hw1 hw2 hW
  by_cases hkk : k = 4 ∧ k' = 4
  · obtain ⟨rfl, rfl⟩ := hkk
    have hm3 := hm2 rfl
    have hm3' := hm2' rfl
    obtain ⟨g50, g51, g52, g53⟩ := four_frozen Y5.out
    go_wp2_with fail
    generalize w2.alloc (.cells #[.int .i64 4, .bool b', .int .u64 m', .int .i64 p'] 83) = W at *
    generalize hb5 : w1.heap.size = b5 at *
    generalize hb6 : w2.heap.size = b6 at *
    clear hb5 hb6
    (with_reducible refine (l05Up_calls _ _ _ _ _ hm3 hm1).mono ?_); rintro e w3 ⟨m3, p3, rfl, hn0, hn1, hw3⟩
    have hl5 := blk_lt Y5.out
    have hl6 := blk_lt Y6.out
    have Z6 := hw3.heap Y6.out (by simp)
    obtain ⟨d60, d61, d62, d63⟩ := four_blk Z6
    have Z5 := hw3.heap Y5.out (by simp)
    obtain ⟨d50, d51, d52, d53⟩ := four_blk Z5
    obtain ⟨e50, e51, e52, e53⟩ := four_frozen Z5
    replace HW := Lib.hid (HW.out.trans' hw3)
    have HZ := Lib.hid Z5
    have HX := Lib.hid Z6
    clear Z5 Z6 c50 c51 c52 c53 c60 c61 c62 c63 g50 g51 g52 g53 hw3
    go_wp2_with fail
    (with_reducible refine (l05Up_calls _ _ _ _ _ hm3' hm1').mono ?_); rintro e w4 ⟨m4, p4, rfl, hn0', hn1', hw4⟩
    have Z5 := hw4.heap (four_set HZ.out (.int .i64 4) (.bool b) (.int .u64 m3) (.int .i64 p3)) (by simp)
    have Z6 := hw4.heap (four_set_far HX.out (by omega : b6 ≠ b5) (.int .i64 4) (.bool b) (.int .u64 m3) (.int .i64 p3)) (by simp)
    obtain ⟨k50, k51, k52, k53⟩ := four_blk Z5
    obtain ⟨k60, k61, k62, k63⟩ := four_frozen Z6
    obtain ⟨l60, l61, l62, l63⟩ := four_blk Z6
    replace HW := Lib.hid ((HW.out.four (.inr s5) (.int .i64 4) (.bool b) (.int .u64 m3) (.int .i64 p3)).trans' hw4)
    replace HX := Lib.hid Z6
    clear Z5 Z6 HZ hw4
    go_wp2_with fail
    have Z6 := four_set HX.out (.int .i64 4) (.bool b') (.int .u64 m4) (.int .i64 p4)
    obtain ⟨-, j61, j62, j63⟩ := four_blk Z6
    replace HW := Lib.hid (HW.out.four (.inr s6) (.int .i64 4) (.bool b') (.int .u64 m4) (.int .i64 p4))
    clear Z6 HX Y5 Y6 d60 d61 d62 d63 d50 d51 d52 d53
    generalize (((w4.setCell ⟨b6, 0, none⟩ (.int .i64 4)).setCell ⟨b6, 1, none⟩ (.bool b')).setCell ⟨b6, 2, none⟩ (.int .u64 m4)).setCell ⟨b6, 3, none⟩ (.int .i64 p4) = W6 at *
    go_loop [8, 9, 10, 11] DivIn (fun _ _ _ i => (62 - intOf i).toNat)
    case atStart => exact ⟨_, _, _, _, rfl, rfl, rfl, rfl, by omega, by omega, by omega, by omega, by omega, by omega⟩
    case round =>
      obtain ⟨a, c, z, j, rfl, rfl, rfl, rfl, ha0, ha1, hc0, hc1, hj0, hj1⟩ := hrel
      by_cases hlt : j < 62
      · go_wp2_with fail
        all_goals
          go_round
          case rel => exact ⟨_, _, _, _, rfl, rfl, rfl, rfl, by first | omega | exact (wrapU_bd _).1, by first | omega | exact (wrapU_bd _).2, by first | omega | exact (wrapU_bd _).1, by first | omega | exact (wrapU_bd _).2, by omega, by omega⟩
          case measure => simp [intOf]; omega
      · go_wp2_with (go_at_call 91; (with_reducible refine (RoundTo_calls _ _ _ _ _ (by omega) (by omega)).mono ?_); rintro e w' ⟨r, rfl, hr0, hr1, rfl⟩)
        go_ret
        exact ⟨_, rfl, hr0, hr1, HW.out⟩
  · rcases hk with rfl | rfl | rfl | rfl <;> rcases hk' with rfl | rfl | rfl | rfl
    all_goals first
      | (exfalso; exact hkk ⟨rfl, rfl⟩)
      | (go_wp2_with (go_at_call 92; (with_reducible refine (l03Sign_calls _ _ _ (by omega) (by omega)).mono ?_); rintro e w' ⟨r, rfl, hr0, hr1, rfl⟩)
         go_ret
         exact ⟨_, rfl, by omega, by omega, HW.out⟩)

end Go.Proofs.YtjapohefiggbaaaGreatDoor
