/- NaN is told, the sign is turned, numbers are ordered. -/
import Derived.Test.YtjapohefiggbaaaGreatDoorNumB
import Derived.Test.YtjapohefiggbaaaGreatDoorDrawA
namespace Go.Proofs.YtjapohefiggbaaaGreatDoor
open Go.RowKit

/-- The four cells of a block. -/
theorem four_blk {w : World} {g : Nat} {a b c d : Value} {T : TypeId} {z : Nat × Nat} (h : w.heap[g]? = some (.cells #[a, b, c, d] T z)) :
    w.cell? ⟨g, 0, none⟩ = some a ∧ w.cell? ⟨g, 1, none⟩ = some b ∧ w.cell? ⟨g, 2, none⟩ = some c ∧ w.cell? ⟨g, 3, none⟩ = some d :=
  ⟨cell_blk h 0, cell_blk h 1, cell_blk h 2, cell_blk h 3⟩
theorem four_frozen {w : World} {g : Nat} {a b c d : Value} {T : TypeId} (h : w.heap[g]? = some (.cells #[a, b, c, d] T (0, 0))) :
    w.frozen? ⟨g, 0, none⟩ = false ∧ w.frozen? ⟨g, 1, none⟩ = false ∧ w.frozen? ⟨g, 2, none⟩ = false ∧ w.frozen? ⟨g, 3, none⟩ = false :=
  ⟨frozen_blk h 0, frozen_blk h 1, frozen_blk h 2, frozen_blk h 3⟩
theorem four_set {w : World} {g : Nat} {a b c d : Value} {T : TypeId} {z : Nat × Nat} (h : w.heap[g]? = some (.cells #[a, b, c, d] T z)) (a' b' c' d' : Value) :
    ((((w.setCell ⟨g, 0, none⟩ a').setCell ⟨g, 1, none⟩ b').setCell ⟨g, 2, none⟩ c').setCell ⟨g, 3, none⟩ d').heap[g]? = some (.cells #[a', b', c', d'] T z) :=
  heap_set (heap_set (heap_set (heap_set h 0 _) 1 _) 2 _) 3 _
theorem four_set_far {w : World} {g k : Nat} {o : Obj} (h : w.heap[g]? = some o) (hk : g ≠ k) (a' b' c' d' : Value) :
    ((((w.setCell ⟨k, 0, none⟩ a').setCell ⟨k, 1, none⟩ b').setCell ⟨k, 2, none⟩ c').setCell ⟨k, 3, none⟩ d').heap[g]? = some o :=
  heap_set_far (heap_set_far (heap_set_far (heap_set_far h hk 0 _) hk 1 _) hk 2 _) hk 3 _
theorem Keep.four {O : List Nat} {a b : World} (h : Keep O a b) {g : Nat} (hg : g ∈ O ∨ a.heap.size ≤ g) (a' b' c' d' : Value) :
    Keep O a ((((b.setCell ⟨g, 0, none⟩ a').setCell ⟨g, 1, none⟩ b').setCell ⟨g, 2, none⟩ c').setCell ⟨g, 3, none⟩ d') :=
  (((h.setCell hg _).setCell hg _).setCell hg _).setCell hg _

/-- A truth comes back. -/
def RetB (w : World) (e : Ending) (w' : World) : Prop := ∃ b : Bool, e = .returned (.bool b) ∧ Keep [] w w'
/-- A pattern comes back, and memory may have grown. -/
def RetK (w : World) (e : Ending) (w' : World) : Prop := ∃ r : Int, e = .returned (.int .u64 r) ∧ 0 ≤ r ∧ r ≤ 18446744073709551615 ∧ Keep [] w w'

theorem pk_four (x : Int) : pk x = 1 ∨ pk x = 2 ∨ pk x = 3 ∨ pk x = 4 := by unfold pk; split <;> split <;> simp
theorem pf_bd (x : Int) : 0 ≤ pf x ∧ pf x < 4503599627370496 := by unfold pf; omega
theorem pe_bd (x : Int) : 0 ≤ pe x ∧ pe x < 2048 := by unfold pe; omega
theorem pm_bd (x : Int) : 0 ≤ pm x ∧ pm x ≤ 9007199254740991 := by have := pf_bd x; unfold pm; split <;> (try split) <;> omega
theorem px_bd (x : Int) : -1074 ≤ px x ∧ px x ≤ 971 := by have := pe_bd x; unfold px; split <;> (try split) <;> (try split) <;> omega
theorem pm_pos (x : Int) (h : pk x = 4) : 0 < pm x := by
  have := pf_bd x
  unfold pk at h; unfold pm
  split at h
  · split at h <;> omega
  · rename_i h1
    rw [if_neg h1]
    split at h
    · omega
    · rename_i h2; split <;> omega

theorem field_kind (k : Int) (b : Bool) (m p : Int) : ∀ w : World, (Instr.field 83 (.agg #[.int .i64 k, .bool b, .int .u64 m, .int .i64 p]) 0).run Tryz.prog w = .ok (.int .i64 k) w := fun _ => by kernel_rfl

/-- The parts, as far as what follows needs them. -/
theorem PN_calls (x : Int) (w : World) (h0 : 0 ≤ x) (h1 : x ≤ 18446744073709551615) :
    Calls Tryz.prog 59 #[.int .u64 x] w fun e w' => ∃ (k : Int) (b : Bool) (m p : Int), e = .returned (.agg #[.int .i64 k, .bool b, .int .u64 m, .int .i64 p]) ∧
      k = pk x ∧ (k = 1 ∨ k = 2 ∨ k = 3 ∨ k = 4) ∧ 0 ≤ m ∧ m ≤ 9007199254740991 ∧ -1074 ≤ p ∧ p ≤ 971 ∧ (k = 4 → 0 < m) ∧ Keep [] w w' :=
  (PartsOfNumber_calls x w h0 h1).mono fun _ _ h => ⟨_, _, _, _, h.1, rfl, pk_four x, (pm_bd x).1, (pm_bd x).2, (px_bd x).1, (px_bd x).2, pm_pos x, h.2⟩

set_option maxRecDepth 100000 in
set_option maxHeartbeats 400000 in
theorem l03Nan_calls (x : Int) (w : World) (h0 : 0 ≤ x) (h1 : x ≤ 18446744073709551615) :
    Calls Tryz.prog 52 #[.int .u64 x] w fun e w' => e = .returned (.bool (pk x == 1)) ∧ Keep [] w w' := by
  go_enter Tryz.func52, Tryz.ntmps52
  go_wp2_with fail
  (with_reducible refine (PartsOfNumber_calls x _ h0 h1).mono ?_); rintro e w1 ⟨rfl, hk⟩
  have hfd := field_kind (pk x) (pb x) (pm x) (px x)
  rcases pk_four x with h | h | h | h <;> rw [h] at hfd ⊢
  all_goals
    go_wp2_with fail
    go_ret
    exact ⟨by rw [h]; rfl, hk⟩

set_option maxHeartbeats 400000 in
theorem l03Key_calls (x : Int) (w : World) (h0 : 0 ≤ x) (h1 : x ≤ 18446744073709551615) :
    Calls Tryz.prog 90 #[.int .u64 x] w fun e w' => ∃ k : Int, e = .returned (.int .i64 k) ∧ w = w' := by
  have hp := pw_pos 63
  go_enter Tryz.func90, Tryz.ntmps90
  go_wp2_with (go_at_call 64; (with_reducible refine (l03Pow_calls _ _ (by omega) (by omega)).mono ?_); rintro e w' ⟨rfl, rfl⟩)
  all_goals (go_ret; exact ⟨_, rfl, rfl⟩)

set_option maxHeartbeats 1000000 in
theorem Equal_calls (x y : Int) (w : World) (h0 : 0 ≤ x) (h1 : x ≤ 18446744073709551615) (h2 : 0 ≤ y) (h3 : y ≤ 18446744073709551615) :
    Calls Tryz.prog 51 #[.int .u64 x, .int .u64 y] w (RetB w) := by
  go_enter Tryz.func51, Tryz.ntmps51
  go_wp2_with fail
  (with_reducible refine (l03Nan_calls x _ h0 h1).mono ?_); rintro e w1 ⟨rfl, hk1⟩
  generalize (pk x == 1) = bx
  cases bx
  · go_wp2_with fail
    (with_reducible refine (l03Nan_calls y _ h2 h3).mono ?_); rintro e w2 ⟨rfl, hk2⟩
    generalize (pk y == 1) = bx
    cases bx
    · go_wp2_with fail
      (with_reducible refine (l03Key_calls x _ h0 h1).mono ?_); rintro e w' ⟨p, rfl, rfl⟩
      go_wp2_with fail
      (with_reducible refine (l03Key_calls y _ h2 h3).mono ?_); rintro e w' ⟨q, rfl, rfl⟩
      go_wp2_with fail
      go_ret
      exact ⟨_, rfl, hk1.trans' hk2⟩
    · go_wp2_with fail
      go_ret
      exact ⟨_, rfl, hk1.trans' hk2⟩
  · go_wp2_with fail
    go_ret
    exact ⟨_, rfl, hk1⟩

set_option maxHeartbeats 1000000 in
theorem Less_calls (x y : Int) (w : World) (h0 : 0 ≤ x) (h1 : x ≤ 18446744073709551615) (h2 : 0 ≤ y) (h3 : y ≤ 18446744073709551615) :
    Calls Tryz.prog 50 #[.int .u64 x, .int .u64 y] w (RetB w) := by
  go_enter Tryz.func50, Tryz.ntmps50
  go_wp2_with fail
  (with_reducible refine (l03Nan_calls x _ h0 h1).mono ?_); rintro e w1 ⟨rfl, hk1⟩
  generalize (pk x == 1) = bx
  cases bx
  · go_wp2_with fail
    (with_reducible refine (l03Nan_calls y _ h2 h3).mono ?_); rintro e w2 ⟨rfl, hk2⟩
    generalize (pk y == 1) = bx
    cases bx
    · go_wp2_with fail
      (with_reducible refine (l03Key_calls x _ h0 h1).mono ?_); rintro e w' ⟨p, rfl, rfl⟩
      go_wp2_with fail
      (with_reducible refine (l03Key_calls y _ h2 h3).mono ?_); rintro e w' ⟨q, rfl, rfl⟩
      go_wp2_with fail
      go_ret
      exact ⟨_, rfl, hk1.trans' hk2⟩
    · go_wp2_with fail
      go_ret
      exact ⟨_, rfl, hk1.trans' hk2⟩
  · go_wp2_with fail
    go_ret
    exact ⟨_, rfl, hk1⟩

/-- The sign turned. -/
def ng (x : Int) : Int := if pk x = 1 then 9221120237041090560 else Go.bits .xor .u64 x 9223372036854775808
theorem bits_u64 (x y : Int) : 0 ≤ Go.bits .xor .u64 x y ∧ Go.bits .xor .u64 x y ≤ 18446744073709551615 := wrapU_bd _
theorem ng_bd (x : Int) : 0 ≤ ng x ∧ ng x ≤ 18446744073709551615 := by
  unfold ng; split
  · omega
  · exact bits_u64 _ _

set_option maxHeartbeats 400000 in
theorem Negate_calls (x : Int) (w : World) (h0 : 0 ≤ x) (h1 : x ≤ 18446744073709551615) :
    Calls Tryz.prog 24 #[.int .u64 x] w fun e w' => e = .returned (.int .u64 (ng x)) ∧ Keep [] w w' := by
  go_enter Tryz.func24, Tryz.ntmps24
  go_wp2_with fail
  (with_reducible refine (l03Nan_calls x _ h0 h1).mono ?_); rintro e w1 ⟨rfl, hk1⟩
  by_cases hb : pk x = 1
  · rw [show (pk x == 1) = true from by simp [hb]]
    go_wp2_with fail
    go_ret
    exact ⟨by unfold ng; rw [if_pos hb]; rfl, hk1⟩
  · rw [show (pk x == 1) = false from by simp [hb]]
    go_wp2_with fail
    (with_reducible refine (l03Pow_calls _ _ (by omega) (by omega)).mono ?_); rintro e w' ⟨rfl, rfl⟩
    go_wp2_with fail
    go_ret
    exact ⟨by unfold ng; rw [if_neg hb]; rfl, hk1⟩

set_option maxRecDepth 100000 in
set_option maxHeartbeats 400000 in
theorem Truthy_calls (x : Int) (w : World) (h0 : 0 ≤ x) (h1 : x ≤ 18446744073709551615) :
    Calls Tryz.prog 63 #[.int .u64 x] w fun e w' => e = .returned (.bool (pk x != 1 && pk x != 3)) ∧ Keep [] w w' := by
  go_enter Tryz.func63, Tryz.ntmps63
  go_wp2_with fail
  (with_reducible refine (PartsOfNumber_calls x _ h0 h1).mono ?_); rintro e w1 ⟨rfl, hk⟩
  have hfd := field_kind (pk x) (pb x) (pm x) (px x)
  rcases pk_four x with h | h | h | h <;> rw [h] at hfd ⊢
  all_goals
    go_wp2_with fail
    go_ret
    exact ⟨by rw [h]; rfl, hk⟩
end Go.Proofs.YtjapohefiggbaaaGreatDoor
