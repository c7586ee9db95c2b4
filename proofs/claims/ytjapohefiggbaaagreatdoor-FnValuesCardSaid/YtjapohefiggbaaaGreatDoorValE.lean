/- What an op does to two values: the one way. -/
import Derived.Test.YtjapohefiggbaaaGreatDoorValD
import Derived.Deep.RegionHeld3
import Derived.Deep.DrawnRows
namespace Go.Proofs.YtjapohefiggbaaaGreatDoor
open Go.RowKit
attribute [local go_sem ↓] Go.wp_at_zero Go.wp_at_succ

/-- What is told is wrong with an op of two values. -/
def badOf (op k k' : Int) (s : Nat) : ByteArray :=
  if op = 10 ∨ op = 11 then ⟨#[]⟩
  else if k = 2 ∧ k' = 2 then (if 1 ≤ op ∧ op ≤ 9 then ⟨#[]⟩ else ⟨#[116, 121, 112, 101]⟩)
  else if k = 3 ∧ k' = 3 then (if 6 ≤ op ∧ op ≤ 9 then ⟨#[]⟩ else if op = 1 then (if 200 < s then ⟨#[108, 111, 110, 103]⟩ else ⟨#[]⟩) else ⟨#[116, 121, 112, 101]⟩)
  else ⟨#[116, 121, 112, 101]⟩
theorem bad_same (k k' : Int) (s : Nat) : badOf 10 k k' s = ⟨#[]⟩ := by unfold badOf; rw [if_pos (.inl rfl)]
theorem bad_other (k k' : Int) (s : Nat) : badOf 11 k k' s = ⟨#[]⟩ := by unfold badOf; rw [if_pos (.inr rfl)]
theorem bad_num (op : Int) (s : Nat) (h : 1 ≤ op ∧ op ≤ 9) : badOf op 2 2 s = ⟨#[]⟩ := by
  unfold badOf; rw [if_neg (by omega), if_pos ⟨rfl, rfl⟩, if_pos h]
theorem bad_numno (op : Int) (s : Nat) (h : ¬ (1 ≤ op ∧ op ≤ 9)) (h2 : ¬ (op = 10 ∨ op = 11)) : badOf op 2 2 s = ⟨#[116, 121, 112, 101]⟩ := by
  unfold badOf; rw [if_neg h2, if_pos ⟨rfl, rfl⟩, if_neg h]
theorem bad_txt (op : Int) (s : Nat) (h : 6 ≤ op ∧ op ≤ 9) : badOf op 3 3 s = ⟨#[]⟩ := by
  unfold badOf; rw [if_neg (by omega), if_neg (by omega), if_pos ⟨rfl, rfl⟩, if_pos h]
theorem bad_long (s : Nat) (h : 200 < s) : badOf 1 3 3 s = ⟨#[108, 111, 110, 103]⟩ := by
  unfold badOf; rw [if_neg (by omega), if_neg (by omega), if_pos ⟨rfl, rfl⟩, if_neg (by omega), if_pos rfl, if_pos h]
theorem bad_sum (s : Nat) (h : ¬ 200 < s) : badOf 1 3 3 s = ⟨#[]⟩ := by
  unfold badOf; rw [if_neg (by omega), if_neg (by omega), if_pos ⟨rfl, rfl⟩, if_neg (by omega), if_pos rfl, if_neg h]
theorem bad_txtno (op : Int) (s : Nat) (h : ¬ (6 ≤ op ∧ op ≤ 9)) (h2 : ¬ (op = 10 ∨ op = 11)) (h3 : op ≠ 1) : badOf op 3 3 s = ⟨#[116, 121, 112, 101]⟩ := by
  unfold badOf; rw [if_neg h2, if_neg (by omega), if_pos ⟨rfl, rfl⟩, if_neg h, if_neg h3]
theorem bad_mixed (op k k' : Int) (s : Nat) (h2 : ¬ (op = 10 ∨ op = 11)) (h3 : ¬ (k = 2 ∧ k' = 2)) (h4 : ¬ (k = 3 ∧ k' = 3)) : badOf op k k' s = ⟨#[116, 121, 112, 101]⟩ := by
  unfold badOf; rw [if_neg h2, if_neg h3, if_neg h4]

/-- A value and what is wrong come back. -/
def RetD (bad : ByteArray) (w : World) (e : Ending) (w' : World) : Prop := ∃ (k n : Int) (t : ByteArray) (r : Int),
  e = .returned (.tuple #[.agg #[.int .i64 k, .int .u64 n, .string t, .int .i64 r], .string bad]) ∧ VOk k n t r ∧ 0 ≤ n ∧ n ≤ 18446744073709551615 ∧ (bad.toList ≠ [] → k = 0) ∧ Keep [] w w'

set_option maxRecDepth 100000 in
set_option maxHeartbeats 8000000 in
theorem iDoNum (op n : Int) (t : ByteArray) (r n' : Int) (t' : ByteArray) (r' : Int) (w : World) (h0 : 0 ≤ n) (h1 : n ≤ 18446744073709551615) (h2 : 0 ≤ n') (h3 : n' ≤ 18446744073709551615) (ht : t.size ≤ 5000) (ht' : t'.size ≤ 5000) :
    Calls Tryz.prog 16 #[.int .i64 op, .agg #[.int .i64 2, .int .u64 n, .string t, .int .i64 r], .agg #[.int .i64 2, .int .u64 n', .string t', .int .i64 r']] w (RetD (badOf op 2 2 (t.size + t'.size)) w) := by
  go_enter Tryz.func16, Tryz.ntmps16
  by_cases ho : op = 10
  · subst ho
    rw [bad_same]
    have hcb : cmpB 10 = false := by decide
    go_upto_region 4 with (go_at_call 30; (with_reducible refine (within_calls _ _).mono ?_); rintro e w' ⟨rfl, rfl⟩)
    all_goals
      have K0 := (((Keep.refl [] w).alloc (.cells #[.int .i64 2, .int .u64 n, .string t, .int .i64 r] 44)).alloc (.cells #[.int .i64 2, .int .u64 n', .string t', .int .i64 r'] 44)).alloc (.cells #[.int .i64 0, .int .u64 0, .string ⟨#[]⟩, .int .i64 0] 44)
      have ZA := heap_alloc (heap_alloc (heap_new w (.cells #[.int .i64 2, .int .u64 n, .string t, .int .i64 r] 44)) (.cells #[.int .i64 2, .int .u64 n', .string t', .int .i64 r'] 44)) (.cells #[.int .i64 0, .int .u64 0, .string ⟨#[]⟩, .int .i64 0] 44)
      have ZB := heap_alloc (heap_new (w.alloc (.cells #[.int .i64 2, .int .u64 n, .string t, .int .i64 r] 44)) (.cells #[.int .i64 2, .int .u64 n', .string t', .int .i64 r'] 44)) (.cells #[.int .i64 0, .int .u64 0, .string ⟨#[]⟩, .int .i64 0] 44)
      have ZC := heap_new ((w.alloc (.cells #[.int .i64 2, .int .u64 n, .string t, .int .i64 r] 44)).alloc (.cells #[.int .i64 2, .int .u64 n', .string t', .int .i64 r'] 44)) (.cells #[.int .i64 0, .int .u64 0, .string ⟨#[]⟩, .int .i64 0] 44)
      simp only [World.size_alloc] at ZB ZC
      obtain ⟨a0, a1, a2, a3⟩ := four_blk ZA
      obtain ⟨b0, b1, b2, b3⟩ := four_blk ZB
      obtain ⟨c0, c1, c2, c3⟩ := four_blk ZC
      obtain ⟨f0, f1, f2, f3⟩ := four_frozen ZC
      have HK := Lib.hid K0
      have HZ := Lib.hid ZC
      clear K0 ZA ZB ZC
      have sC : w.heap.size ≤ w.heap.size + 1 + 1 := by omega
      generalize ((w.alloc (.cells #[.int .i64 2, .int .u64 n, .string t, .int .i64 r] 44)).alloc (.cells #[.int .i64 2, .int .u64 n', .string t', .int .i64 r'] 44)).alloc (.cells #[.int .i64 0, .int .u64 0, .string ⟨#[]⟩, .int .i64 0] 44) = W at *
      generalize hA : w.heap.size = A at *
      have nAB : A ≠ A + 1 := by omega
      have nAC : A ≠ A + 1 + 1 := by omega
      have nBC : A + 1 ≠ A + 1 + 1 := by omega
      generalize hB : A + 1 = B at *
      generalize hC : B + 1 = C at *
      have sC' : w.heap.size ≤ C := by omega
      have SC := Lib.hid sC'
      clear hA hB hC sC sC'
      go_wp2_with (first | (go_at_call 19; (with_reducible refine (iSameValue_calls _ _ _ _ _ _ _ _ _).mono ?_); rintro e w1 ⟨q, rfl, -, hk⟩; replace HK := Lib.hid (HK.out.trans' hk); replace HZ := Lib.hid (hk.heap HZ.out (by simp)); obtain ⟨c0, c1, c2, c3⟩ := four_blk HZ.out; obtain ⟨f0, f1, f2, f3⟩ := four_frozen HZ.out; clear hk) | (go_at_call 40; (with_reducible refine (boolValue_calls _ _).mono ?_); rintro e w1 ⟨z, rfl, hz0, hz1, hk⟩; replace HK := Lib.hid (HK.out.trans' hk); replace HZ := Lib.hid (hk.heap HZ.out (by simp)); obtain ⟨c0, c1, c2, c3⟩ := four_blk HZ.out; obtain ⟨f0, f1, f2, f3⟩ := four_frozen HZ.out; clear hk))
      refine bodyPost_ret (v := .tuple #[.agg #[.int .i64 1, .int .u64 z, .string ⟨#[]⟩, .int .i64 0], .string ⟨#[]⟩]) (by simp only [results, Tryz.results16]; simp [go_sem, *]) rfl ⟨1, z, ⟨#[]⟩, 0, rfl, by simp [VOk]; omega, by omega, by omega, by simp, HK.out.four (.inr SC.out) _ _ _ _⟩
  by_cases ho2 : op = 11
  · subst ho2
    rw [bad_other]
    have hcb : cmpB 11 = false := by decide
    go_upto_region 4 with (go_at_call 30; (with_reducible refine (within_calls _ _).mono ?_); rintro e w' ⟨rfl, rfl⟩)
    all_goals
      have K0 := (((Keep.refl [] w).alloc (.cells #[.int .i64 2, .int .u64 n, .string t, .int .i64 r] 44)).alloc (.cells #[.int .i64 2, .int .u64 n', .string t', .int .i64 r'] 44)).alloc (.cells #[.int .i64 0, .int .u64 0, .string ⟨#[]⟩, .int .i64 0] 44)
      have ZA := heap_alloc (heap_alloc (heap_new w (.cells #[.int .i64 2, .int .u64 n, .string t, .int .i64 r] 44)) (.cells #[.int .i64 2, .int .u64 n', .string t', .int .i64 r'] 44)) (.cells #[.int .i64 0, .int .u64 0, .string ⟨#[]⟩, .int .i64 0] 44)
      have ZB := heap_alloc (heap_new (w.alloc (.cells #[.int .i64 2, .int .u64 n, .string t, .int .i64 r] 44)) (.cells #[.int .i64 2, .int .u64 n', .string t', .int .i64 r'] 44)) (.cells #[.int .i64 0, .int .u64 0, .string ⟨#[]⟩, .int .i64 0] 44)
      have ZC := heap_new ((w.alloc (.cells #[.int .i64 2, .int .u64 n, .string t, .int .i64 r] 44)).alloc (.cells #[.int .i64 2, .int .u64 n', .string t', .int .i64 r'] 44)) (.cells #[.int .i64 0, .int .u64 0, .string ⟨#[]⟩, .int .i64 0] 44)
      simp only [World.size_alloc] at ZB ZC
      obtain ⟨a0, a1, a2, a3⟩ := four_blk ZA
      obtain ⟨b0, b1, b2, b3⟩ := four_blk ZB
      obtain ⟨c0, c1, c2, c3⟩ := four_blk ZC
      obtain ⟨f0, f1, f2, f3⟩ := four_frozen ZC
      have HK := Lib.hid K0
      have HZ := Lib.hid ZC
      clear K0 ZA ZB ZC
      have sC : w.heap.size ≤ w.heap.size + 1 + 1 := by omega
      generalize ((w.alloc (.cells #[.int .i64 2, .int .u64 n, .string t, .int .i64 r] 44)).alloc (.cells #[.int .i64 2, .int .u64 n', .string t', .int .i64 r'] 44)).alloc (.cells #[.int .i64 0, .int .u64 0, .string ⟨#[]⟩, .int .i64 0] 44) = W at *
      generalize hA : w.heap.size = A at *
      have nAB : A ≠ A + 1 := by omega
      have nAC : A ≠ A + 1 + 1 := by omega
      have nBC : A + 1 ≠ A + 1 + 1 := by omega
      generalize hB : A + 1 = B at *
      generalize hC : B + 1 = C at *
      have sC' : w.heap.size ≤ C := by omega
      have SC := Lib.hid sC'
      clear hA hB hC sC sC'
      go_wp2_with (first | (go_at_call 19; (with_reducible refine (iSameValue_calls _ _ _ _ _ _ _ _ _).mono ?_); rintro e w1 ⟨q, rfl, -, hk⟩; replace HK := Lib.hid (HK.out.trans' hk); replace HZ := Lib.hid (hk.heap HZ.out (by simp)); obtain ⟨c0, c1, c2, c3⟩ := four_blk HZ.out; obtain ⟨f0, f1, f2, f3⟩ := four_frozen HZ.out; clear hk) | (go_at_call 40; (with_reducible refine (boolValue_calls _ _).mono ?_); rintro e w1 ⟨z, rfl, hz0, hz1, hk⟩; replace HK := Lib.hid (HK.out.trans' hk); replace HZ := Lib.hid (hk.heap HZ.out (by simp)); obtain ⟨c0, c1, c2, c3⟩ := four_blk HZ.out; obtain ⟨f0, f1, f2, f3⟩ := four_frozen HZ.out; clear hk))
      refine bodyPost_ret (v := .tuple #[.agg #[.int .i64 1, .int .u64 z, .string ⟨#[]⟩, .int .i64 0], .string ⟨#[]⟩]) (by simp only [results, Tryz.results16]; simp [go_sem, *]) rfl ⟨1, z, ⟨#[]⟩, 0, rfl, by simp [VOk]; omega, by omega, by omega, by simp, HK.out.four (.inr SC.out) _ _ _ _⟩
  have e10 : (op == 10) = false := by simpa using ho
  have e11 : (op == 11) = false := by simpa using ho2
  have HO := Lib.hid ho
  have HO2 := Lib.hid ho2
  clear ho ho2
  cases hcb : cmpB op with
  | true =>
    rw [bad_num op _ (by have := (cmpB_iff op).1 hcb; omega)]
    go_upto_region 9 with (go_at_call 30; (with_reducible refine (within_calls _ _).mono ?_); rintro e w' ⟨rfl, rfl⟩)
    have K0 := (((Keep.refl [] w).alloc (.cells #[.int .i64 2, .int .u64 n, .string t, .int .i64 r] 44)).alloc (.cells #[.int .i64 2, .int .u64 n', .string t', .int .i64 r'] 44)).alloc (.cells #[.int .i64 0, .int .u64 0, .string ⟨#[]⟩, .int .i64 0] 44)
    have ZA := heap_alloc (heap_alloc (heap_new w (.cells #[.int .i64 2, .int .u64 n, .string t, .int .i64 r] 44)) (.cells #[.int .i64 2, .int .u64 n', .string t', .int .i64 r'] 44)) (.cells #[.int .i64 0, .int .u64 0, .string ⟨#[]⟩, .int .i64 0] 44)
    have ZB := heap_alloc (heap_new (w.alloc (.cells #[.int .i64 2, .int .u64 n, .string t, .int .i64 r] 44)) (.cells #[.int .i64 2, .int .u64 n', .string t', .int .i64 r'] 44)) (.cells #[.int .i64 0, .int .u64 0, .string ⟨#[]⟩, .int .i64 0] 44)
    have ZC := heap_new ((w.alloc (.cells #[.int .i64 2, .int .u64 n, .string t, .int .i64 r] 44)).alloc (.cells #[.int .i64 2, .int .u64 n', .string t', .int .i64 r'] 44)) (.cells #[.int .i64 0, .int .u64 0, .string ⟨#[]⟩, .int .i64 0] 44)
    simp only [World.size_alloc] at ZB ZC
    obtain ⟨a0, a1, a2, a3⟩ := four_blk ZA
    obtain ⟨b0, b1, b2, b3⟩ := four_blk ZB
    obtain ⟨c0, c1, c2, c3⟩ := four_blk ZC
    obtain ⟨f0, f1, f2, f3⟩ := four_frozen ZC
    have HK := Lib.hid K0
    have HZ := Lib.hid ZC
    clear K0 ZA ZB ZC
    have sC : w.heap.size ≤ w.heap.size + 1 + 1 := by omega
    generalize ((w.alloc (.cells #[.int .i64 2, .int .u64 n, .string t, .int .i64 r] 44)).alloc (.cells #[.int .i64 2, .int .u64 n', .string t', .int .i64 r'] 44)).alloc (.cells #[.int .i64 0, .int .u64 0, .string ⟨#[]⟩, .int .i64 0] 44) = W at *
    generalize hA : w.heap.size = A at *
    have nAB : A ≠ A + 1 := by omega
    have nAC : A ≠ A + 1 + 1 := by omega
    have nBC : A + 1 ≠ A + 1 + 1 := by omega
    generalize hB : A + 1 = B at *
    generalize hC : B + 1 = C at *
    have sC' : w.heap.size ≤ C := by omega
    have SC := Lib.hid sC'
    clear hA hB hC sC sC'
    have nCA : C ≠ A := Ne.symm nAC
    have nCB : C ≠ B := Ne.symm nBC
    go_region_held3 (fun w' => w'.cell? ⟨A, 1, none⟩ = some (.int .u64 n) ∧ w'.cell? ⟨B, 1, none⟩ = some (.int .u64 n'))
      (first | go_keep | (go_split_ands; refine ⟨?_, ?_⟩ <;> (refine hk.cell ?_ (by simp); assumption)))
      (first
        | (go_at_call 42; (with_reducible refine (iLess_calls _ _ _).mono ?_); rintro e w' ⟨q, rfl, rfl⟩)
        | (go_at_call 43; (with_reducible refine (iEqual_calls _ _ _).mono ?_); rintro e w' ⟨rfl, rfl⟩)
        | (go_at_call 41; (with_reducible refine (compared_calls _ _ _ _ _).mono ?_); rintro e w3 ⟨z, rfl, hz0, hz1, hk⟩; have Y := hk.heap (a := W.drew) HZ.out (by simp); obtain ⟨c30, c31, c32, c33⟩ := four_blk Y; obtain ⟨f30, f31, f32, f33⟩ := four_frozen Y; have HK3 := Lib.hid (HK.out.drew.trans' hk)))
    go_wp2_with fail
    refine bodyPost_ret (v := .tuple #[.agg #[.int .i64 1, .int .u64 z, .string ⟨#[]⟩, .int .i64 0], .string ⟨#[]⟩]) (by simp only [results, Tryz.results16]; simp [go_sem, *]) rfl ⟨1, z, ⟨#[]⟩, 0, rfl, by simp [VOk]; omega, by omega, by omega, by simp, HK3.out.four (.inr SC.out) _ _ _ _⟩
  | false =>
    have hc : ¬ (6 ≤ op ∧ op ≤ 9) := fun h => by rw [(cmpB_iff op).2 h] at hcb; cases hcb
    have HC := Lib.hid hc
    clear hc
    by_cases h15 : 1 ≤ op ∧ op ≤ 5
    · rw [bad_num op _ (by omega)]
      have H15 := Lib.hid h15
      clear h15
      go_upto_region 8 with (go_at_call 30; (with_reducible refine (within_calls _ _).mono ?_); rintro e w' ⟨rfl, rfl⟩)
      have K0 := (((Keep.refl [] w).alloc (.cells #[.int .i64 2, .int .u64 n, .string t, .int .i64 r] 44)).alloc (.cells #[.int .i64 2, .int .u64 n', .string t', .int .i64 r'] 44)).alloc (.cells #[.int .i64 0, .int .u64 0, .string ⟨#[]⟩, .int .i64 0] 44)
      have ZA := heap_alloc (heap_alloc (heap_new w (.cells #[.int .i64 2, .int .u64 n, .string t, .int .i64 r] 44)) (.cells #[.int .i64 2, .int .u64 n', .string t', .int .i64 r'] 44)) (.cells #[.int .i64 0, .int .u64 0, .string ⟨#[]⟩, .int .i64 0] 44)
      have ZB := heap_alloc (heap_new (w.alloc (.cells #[.int .i64 2, .int .u64 n, .string t, .int .i64 r] 44)) (.cells #[.int .i64 2, .int .u64 n', .string t', .int .i64 r'] 44)) (.cells #[.int .i64 0, .int .u64 0, .string ⟨#[]⟩, .int .i64 0] 44)
      have ZC := heap_new ((w.alloc (.cells #[.int .i64 2, .int .u64 n, .string t, .int .i64 r] 44)).alloc (.cells #[.int .i64 2, .int .u64 n', .string t', .int .i64 r'] 44)) (.cells #[.int .i64 0, .int .u64 0, .string ⟨#[]⟩, .int .i64 0] 44)
      simp only [World.size_alloc] at ZB ZC
      obtain ⟨a0, a1, a2, a3⟩ := four_blk ZA
      obtain ⟨b0, b1, b2, b3⟩ := four_blk ZB
      obtain ⟨c0, c1, c2, c3⟩ := four_blk ZC
      obtain ⟨f0, f1, f2, f3⟩ := four_frozen ZC
      have HK := Lib.hid K0
      have HZ := Lib.hid ZC
      clear K0 ZA ZB ZC
      have sC : w.heap.size ≤ w.heap.size + 1 + 1 := by omega
      generalize ((w.alloc (.cells #[.int .i64 2, .int .u64 n, .string t, .int .i64 r] 44)).alloc (.cells #[.int .i64 2, .int .u64 n', .string t', .int .i64 r'] 44)).alloc (.cells #[.int .i64 0, .int .u64 0, .string ⟨#[]⟩, .int .i64 0] 44) = W at *
      generalize hA : w.heap.size = A at *
      have nAB : A ≠ A + 1 := by omega
      have nAC : A ≠ A + 1 + 1 := by omega
      have nBC : A + 1 ≠ A + 1 + 1 := by omega
      generalize hB : A + 1 = B at *
      generalize hC : B + 1 = C at *
      have sC' : w.heap.size ≤ C := by omega
      have SC := Lib.hid sC'
      clear hA hB hC sC sC'
      go_wp2_with (first | (go_at_call 45; (with_reducible refine (reckon_calls _ _ _ _ h0 h1 h2 h3).mono ?_); rintro e w1 ⟨x, q, rfl, hq, hx0, hx1, hk⟩; replace HK := Lib.hid (HK.out.trans' hk); replace HZ := Lib.hid (hk.heap HZ.out (by simp)); obtain ⟨c0, c1, c2, c3⟩ := four_blk HZ.out; obtain ⟨f0, f1, f2, f3⟩ := four_frozen HZ.out; clear hk; obtain rfl : q = true := hq.2 H15.out; clear hq) | (go_at_call 46; (with_reducible refine (numberValue_calls _ _).mono ?_); rintro e w1 ⟨rfl, hk⟩; replace HK := Lib.hid (HK.out.trans' hk); replace HZ := Lib.hid (hk.heap HZ.out (by simp)); obtain ⟨c0, c1, c2, c3⟩ := four_blk HZ.out; obtain ⟨f0, f1, f2, f3⟩ := four_frozen HZ.out; clear hk))
      refine bodyPost_ret (v := .tuple #[.agg #[.int .i64 2, .int .u64 x, .string ⟨#[]⟩, .int .i64 0], .string ⟨#[]⟩]) (by simp only [results, Tryz.results16]; simp [go_sem, *]) rfl ⟨2, x, ⟨#[]⟩, 0, rfl, by simp [VOk], by omega, by omega, by simp, HK.out.four (.inr SC.out) _ _ _ _⟩
    · rw [bad_numno op _ (by have := HC.out; omega) (by have := HO.out; have := HO2.out; omega)]
      have H15 := Lib.hid h15
      clear h15
      go_upto_region 8 with (go_at_call 30; (with_reducible refine (within_calls _ _).mono ?_); rintro e w' ⟨rfl, rfl⟩)
      have K0 := (((Keep.refl [] w).alloc (.cells #[.int .i64 2, .int .u64 n, .string t, .int .i64 r] 44)).alloc (.cells #[.int .i64 2, .int .u64 n', .string t', .int .i64 r'] 44)).alloc (.cells #[.int .i64 0, .int .u64 0, .string ⟨#[]⟩, .int .i64 0] 44)
      have ZA := heap_alloc (heap_alloc (heap_new w (.cells #[.int .i64 2, .int .u64 n, .string t, .int .i64 r] 44)) (.cells #[.int .i64 2, .int .u64 n', .string t', .int .i64 r'] 44)) (.cells #[.int .i64 0, .int .u64 0, .string ⟨#[]⟩, .int .i64 0] 44)
      have ZB := heap_alloc (heap_new (w.alloc (.cells #[.int .i64 2, .int .u64 n, .string t, .int .i64 r] 44)) (.cells #[.int .i64 2, .int .u64 n', .string t', .int .i64 r'] 44)) (.cells #[.int .i64 0, .int .u64 0, .string ⟨#[]⟩, .int .i64 0] 44)
      have ZC := heap_new ((w.alloc (.cells #[.int .i64 2, .int .u64 n, .string t, .int .i64 r] 44)).alloc (.cells #[.int .i64 2, .int .u64 n', .string t', .int .i64 r'] 44)) (.cells #[.int .i64 0, .int .u64 0, .string ⟨#[]⟩, .int .i64 0] 44)
      simp only [World.size_alloc] at ZB ZC
      obtain ⟨a0, a1, a2, a3⟩ := four_blk ZA
      obtain ⟨b0, b1, b2, b3⟩ := four_blk ZB
      obtain ⟨c0, c1, c2, c3⟩ := four_blk ZC
      obtain ⟨f0, f1, f2, f3⟩ := four_frozen ZC
      have HK := Lib.hid K0
      have HZ := Lib.hid ZC
      clear K0 ZA ZB ZC
      have sC : w.heap.size ≤ w.heap.size + 1 + 1 := by omega
      generalize ((w.alloc (.cells #[.int .i64 2, .int .u64 n, .string t, .int .i64 r] 44)).alloc (.cells #[.int .i64 2, .int .u64 n', .string t', .int .i64 r'] 44)).alloc (.cells #[.int .i64 0, .int .u64 0, .string ⟨#[]⟩, .int .i64 0] 44) = W at *
      generalize hA : w.heap.size = A at *
      have nAB : A ≠ A + 1 := by omega
      have nAC : A ≠ A + 1 + 1 := by omega
      have nBC : A + 1 ≠ A + 1 + 1 := by omega
      generalize hB : A + 1 = B at *
      generalize hC : B + 1 = C at *
      have sC' : w.heap.size ≤ C := by omega
      have SC := Lib.hid sC'
      clear hA hB hC sC sC'
      go_wp2_with (first | (go_at_call 45; (with_reducible refine (reckon_calls _ _ _ _ h0 h1 h2 h3).mono ?_); rintro e w1 ⟨x, q, rfl, hq, hx0, hx1, hk⟩; replace HK := Lib.hid (HK.out.trans' hk); replace HZ := Lib.hid (hk.heap HZ.out (by simp)); obtain ⟨c0, c1, c2, c3⟩ := four_blk HZ.out; obtain ⟨f0, f1, f2, f3⟩ := four_frozen HZ.out; clear hk; obtain rfl : q = false := (by cases q <;> first | rfl | exact absurd (hq.1 rfl) H15.out); clear hq))
      refine bodyPost_ret (v := .tuple #[.agg #[.int .i64 0, .int .u64 0, .string ⟨#[]⟩, .int .i64 0], .string ⟨#[116, 121, 112, 101]⟩]) (by simp only [results, Tryz.results16]; simp [go_sem, *]) rfl ⟨0, 0, ⟨#[]⟩, 0, rfl, by simp [VOk], by omega, by omega, fun _ => rfl, HK.out.four (.inr SC.out) _ _ _ _⟩

set_option maxRecDepth 100000 in
set_option maxHeartbeats 8000000 in
theorem iDoTxt (op n : Int) (t : ByteArray) (r n' : Int) (t' : ByteArray) (r' : Int) (w : World) (h0 : 0 ≤ n) (h1 : n ≤ 18446744073709551615) (h2 : 0 ≤ n') (h3 : n' ≤ 18446744073709551615) (ht : t.size ≤ 5000) (ht' : t'.size ≤ 5000) :
    Calls Tryz.prog 16 #[.int .i64 op, .agg #[.int .i64 3, .int .u64 n, .string t, .int .i64 r], .agg #[.int .i64 3, .int .u64 n', .string t', .int .i64 r']] w (RetD (badOf op 3 3 (t.size + t'.size)) w) := by
  go_enter Tryz.func16, Tryz.ntmps16
  by_cases ho : op = 10
  · subst ho
    rw [bad_same]
    have hcb : cmpB 10 = false := by decide
    go_upto_region 4 with (go_at_call 30; (with_reducible refine (within_calls _ _).mono ?_); rintro e w' ⟨rfl, rfl⟩)
    all_goals
      have K0 := (((Keep.refl [] w).alloc (.cells #[.int .i64 3, .int .u64 n, .string t, .int .i64 r] 44)).alloc (.cells #[.int .i64 3, .int .u64 n', .string t', .int .i64 r'] 44)).alloc (.cells #[.int .i64 0, .int .u64 0, .string ⟨#[]⟩, .int .i64 0] 44)
      have ZA := heap_alloc (heap_alloc (heap_new w (.cells #[.int .i64 3, .int .u64 n, .string t, .int .i64 r] 44)) (.cells #[.int .i64 3, .int .u64 n', .string t', .int .i64 r'] 44)) (.cells #[.int .i64 0, .int .u64 0, .string ⟨#[]⟩, .int .i64 0] 44)
      have ZB := heap_alloc (heap_new (w.alloc (.cells #[.int .i64 3, .int .u64 n, .string t, .int .i64 r] 44)) (.cells #[.int .i64 3, .int .u64 n', .string t', .int .i64 r'] 44)) (.cells #[.int .i64 0, .int .u64 0, .string ⟨#[]⟩, .int .i64 0] 44)
      have ZC := heap_new ((w.alloc (.cells #[.int .i64 3, .int .u64 n, .string t, .int .i64 r] 44)).alloc (.cells #[.int .i64 3, .int .u64 n', .string t', .int .i64 r'] 44)) (.cells #[.int .i64 0, .int .u64 0, .string ⟨#[]⟩, .int .i64 0] 44)
      simp only [World.size_alloc] at ZB ZC
      obtain ⟨a0, a1, a2, a3⟩ := four_blk ZA
      obtain ⟨b0, b1, b2, b3⟩ := four_blk ZB
      obtain ⟨c0, c1, c2, c3⟩ := four_blk ZC
      obtain ⟨f0, f1, f2, f3⟩ := four_frozen ZC
      have HK := Lib.hid K0
      have HZ := Lib.hid ZC
      clear K0 ZA ZB ZC
      have sC : w.heap.size ≤ w.heap.size + 1 + 1 := by omega
      generalize ((w.alloc (.cells #[.int .i64 3, .int .u64 n, .string t, .int .i64 r] 44)).alloc (.cells #[.int .i64 3, .int .u64 n', .string t', .int .i64 r'] 44)).alloc (.cells #[.int .i64 0, .int .u64 0, .string ⟨#[]⟩, .int .i64 0] 44) = W at *
      generalize hA : w.heap.size = A at *
      have nAB : A ≠ A + 1 := by omega
      have nAC : A ≠ A + 1 + 1 := by omega
      have nBC : A + 1 ≠ A + 1 + 1 := by omega
      generalize hB : A + 1 = B at *
      generalize hC : B + 1 = C at *
      have sC' : w.heap.size ≤ C := by omega
      have SC := Lib.hid sC'
      clear hA hB hC sC sC'
      go_wp2_with (first | (go_at_call 19; (with_reducible refine (iSameValue_calls _ _ _ _ _ _ _ _ _).mono ?_); rintro e w1 ⟨q, rfl, -, hk⟩; replace HK := Lib.hid (HK.out.trans' hk); replace HZ := Lib.hid (hk.heap HZ.out (by simp)); obtain ⟨c0, c1, c2, c3⟩ := four_blk HZ.out; obtain ⟨f0, f1, f2, f3⟩ := four_frozen HZ.out; clear hk) | (go_at_call 40; (with_reducible refine (boolValue_calls _ _).mono ?_); rintro e w1 ⟨z, rfl, hz0, hz1, hk⟩; replace HK := Lib.hid (HK.out.trans' hk); replace HZ := Lib.hid (hk.heap HZ.out (by simp)); obtain ⟨c0, c1, c2, c3⟩ := four_blk HZ.out; obtain ⟨f0, f1, f2, f3⟩ := four_frozen HZ.out; clear hk))
      refine bodyPost_ret (v := .tuple #[.agg #[.int .i64 1, .int .u64 z, .string ⟨#[]⟩, .int .i64 0], .string ⟨#[]⟩]) (by simp only [results, Tryz.results16]; simp [go_sem, *]) rfl ⟨1, z, ⟨#[]⟩, 0, rfl, by simp [VOk]; omega, by omega, by omega, by simp, HK.out.four (.inr SC.out) _ _ _ _⟩
  by_cases ho2 : op = 11
  · subst ho2
    rw [bad_other]
    have hcb : cmpB 11 = false := by decide
    go_upto_region 4 with (go_at_call 30; (with_reducible refine (within_calls _ _).mono ?_); rintro e w' ⟨rfl, rfl⟩)
    all_goals
      have K0 := (((Keep.refl [] w).alloc (.cells #[.int .i64 3, .int .u64 n, .string t, .int .i64 r] 44)).alloc (.cells #[.int .i64 3, .int .u64 n', .string t', .int .i64 r'] 44)).alloc (.cells #[.int .i64 0, .int .u64 0, .string ⟨#[]⟩, .int .i64 0] 44)
      have ZA := heap_alloc (heap_alloc (heap_new w (.cells #[.int .i64 3, .int .u64 n, .string t, .int .i64 r] 44)) (.cells #[.int .i64 3, .int .u64 n', .string t', .int .i64 r'] 44)) (.cells #[.int .i64 0, .int .u64 0, .string ⟨#[]⟩, .int .i64 0] 44)
      have ZB := heap_alloc (heap_new (w.alloc (.cells #[.int .i64 3, .int .u64 n, .string t, .int .i64 r] 44)) (.cells #[.int .i64 3, .int .u64 n', .string t', .int .i64 r'] 44)) (.cells #[.int .i64 0, .int .u64 0, .string ⟨#[]⟩, .int .i64 0] 44)
      have ZC := heap_new ((w.alloc (.cells #[.int .i64 3, .int .u64 n, .string t, .int .i64 r] 44)).alloc (.cells #[.int .i64 3, .int .u64 n', .string t', .int .i64 r'] 44)) (.cells #[.int .i64 0, .int .u64 0, .string ⟨#[]⟩, .int .i64 0] 44)
      simp only [World.size_alloc] at ZB ZC
      obtain ⟨a0, a1, a2, a3⟩ := four_blk ZA
      obtain ⟨b0, b1, b2, b3⟩ := four_blk ZB
      obtain ⟨c0, c1, c2, c3⟩ := four_blk ZC
      obtain ⟨f0, f1, f2, f3⟩ := four_frozen ZC
      have HK := Lib.hid K0
      have HZ := Lib.hid ZC
      clear K0 ZA ZB ZC
      have sC : w.heap.size ≤ w.heap.size + 1 + 1 := by omega
      generalize ((w.alloc (.cells #[.int .i64 3, .int .u64 n, .string t, .int .i64 r] 44)).alloc (.cells #[.int .i64 3, .int .u64 n', .string t', .int .i64 r'] 44)).alloc (.cells #[.int .i64 0, .int .u64 0, .string ⟨#[]⟩, .int .i64 0] 44) = W at *
      generalize hA : w.heap.size = A at *
      have nAB : A ≠ A + 1 := by omega
      have nAC : A ≠ A + 1 + 1 := by omega
      have nBC : A + 1 ≠ A + 1 + 1 := by omega
      generalize hB : A + 1 = B at *
      generalize hC : B + 1 = C at *
      have sC' : w.heap.size ≤ C := by omega
      have SC := Lib.hid sC'
      clear hA hB hC sC sC'
      go_wp2_with (first | (go_at_call 19; (with_reducible refine (iSameValue_calls _ _ _ _ _ _ _ _ _).mono ?_); rintro e w1 ⟨q, rfl, -, hk⟩; replace HK := Lib.hid (HK.out.trans' hk); replace HZ := Lib.hid (hk.heap HZ.out (by simp)); obtain ⟨c0, c1, c2, c3⟩ := four_blk HZ.out; obtain ⟨f0, f1, f2, f3⟩ := four_frozen HZ.out; clear hk) | (go_at_call 40; (with_reducible refine (boolValue_calls _ _).mono ?_); rintro e w1 ⟨z, rfl, hz0, hz1, hk⟩; replace HK := Lib.hid (HK.out.trans' hk); replace HZ := Lib.hid (hk.heap HZ.out (by simp)); obtain ⟨c0, c1, c2, c3⟩ := four_blk HZ.out; obtain ⟨f0, f1, f2, f3⟩ := four_frozen HZ.out; clear hk))
      refine bodyPost_ret (v := .tuple #[.agg #[.int .i64 1, .int .u64 z, .string ⟨#[]⟩, .int .i64 0], .string ⟨#[]⟩]) (by simp only [results, Tryz.results16]; simp [go_sem, *]) rfl ⟨1, z, ⟨#[]⟩, 0, rfl, by simp [VOk]; omega, by omega, by omega, by simp, HK.out.four (.inr SC.out) _ _ _ _⟩
  have e10 : (op == 10) = false := by simpa using ho
  have e11 : (op == 11) = false := by simpa using ho2
  have HO := Lib.hid ho
  have HO2 := Lib.hid ho2
  clear ho ho2
  cases hcb : cmpB op with
  | true =>
    rw [bad_txt op _ ((cmpB_iff op).1 hcb)]
    go_upto_region 11 with (go_at_call 30; (with_reducible refine (within_calls _ _).mono ?_); rintro e w' ⟨rfl, rfl⟩)
    have K0 := (((Keep.refl [] w).alloc (.cells #[.int .i64 3, .int .u64 n, .string t, .int .i64 r] 44)).alloc (.cells #[.int .i64 3, .int .u64 n', .string t', .int .i64 r'] 44)).alloc (.cells #[.int .i64 0, .int .u64 0, .string ⟨#[]⟩, .int .i64 0] 44)
    have ZA := heap_alloc (heap_alloc (heap_new w (.cells #[.int .i64 3, .int .u64 n, .string t, .int .i64 r] 44)) (.cells #[.int .i64 3, .int .u64 n', .string t', .int .i64 r'] 44)) (.cells #[.int .i64 0, .int .u64 0, .string ⟨#[]⟩, .int .i64 0] 44)
    have ZB := heap_alloc (heap_new (w.alloc (.cells #[.int .i64 3, .int .u64 n, .string t, .int .i64 r] 44)) (.cells #[.int .i64 3, .int .u64 n', .string t', .int .i64 r'] 44)) (.cells #[.int .i64 0, .int .u64 0, .string ⟨#[]⟩, .int .i64 0] 44)
    have ZC := heap_new ((w.alloc (.cells #[.int .i64 3, .int .u64 n, .string t, .int .i64 r] 44)).alloc (.cells #[.int .i64 3, .int .u64 n', .string t', .int .i64 r'] 44)) (.cells #[.int .i64 0, .int .u64 0, .string ⟨#[]⟩, .int .i64 0] 44)
    simp only [World.size_alloc] at ZB ZC
    obtain ⟨a0, a1, a2, a3⟩ := four_blk ZA
    obtain ⟨b0, b1, b2, b3⟩ := four_blk ZB
    obtain ⟨c0, c1, c2, c3⟩ := four_blk ZC
    obtain ⟨f0, f1, f2, f3⟩ := four_frozen ZC
    have HK := Lib.hid K0
    have HZ := Lib.hid ZC
    clear K0 ZA ZB ZC
    have sC : w.heap.size ≤ w.heap.size + 1 + 1 := by omega
    generalize ((w.alloc (.cells #[.int .i64 3, .int .u64 n, .string t, .int .i64 r] 44)).alloc (.cells #[.int .i64 3, .int .u64 n', .string t', .int .i64 r'] 44)).alloc (.cells #[.int .i64 0, .int .u64 0, .string ⟨#[]⟩, .int .i64 0] 44) = W at *
    generalize hA : w.heap.size = A at *
    have nAB : A ≠ A + 1 := by omega
    have nAC : A ≠ A + 1 + 1 := by omega
    have nBC : A + 1 ≠ A + 1 + 1 := by omega
    generalize hB : A + 1 = B at *
    generalize hC : B + 1 = C at *
    have sC' : w.heap.size ≤ C := by omega
    have SC := Lib.hid sC'
    clear hA hB hC sC sC'
    go_wp2_with (go_at_call 41; (with_reducible refine (compared_calls _ _ _ _ _).mono ?_); rintro e w1 ⟨z, rfl, hz0, hz1, hk⟩; replace HK := Lib.hid (HK.out.trans' hk); replace HZ := Lib.hid (hk.heap HZ.out (by simp)); obtain ⟨c0, c1, c2, c3⟩ := four_blk HZ.out; obtain ⟨f0, f1, f2, f3⟩ := four_frozen HZ.out; clear hk)
    refine bodyPost_ret (v := .tuple #[.agg #[.int .i64 1, .int .u64 z, .string ⟨#[]⟩, .int .i64 0], .string ⟨#[]⟩]) (by simp only [results, Tryz.results16]; simp [go_sem, *]) rfl ⟨1, z, ⟨#[]⟩, 0, rfl, by simp [VOk]; omega, by omega, by omega, by simp, HK.out.four (.inr SC.out) _ _ _ _⟩
  | false =>
    have hc : ¬ (6 ≤ op ∧ op ≤ 9) := fun h => by rw [(cmpB_iff op).2 h] at hcb; cases hcb
    have HC := Lib.hid hc
    clear hc
    by_cases h1' : op = 1
    · subst h1'
      by_cases hl : 200 < t.size + t'.size
      · rw [bad_long _ hl]
        go_upto_region 12 with (go_at_call 30; (with_reducible refine (within_calls _ _).mono ?_); rintro e w' ⟨rfl, rfl⟩)
        have K0 := (((Keep.refl [] w).alloc (.cells #[.int .i64 3, .int .u64 n, .string t, .int .i64 r] 44)).alloc (.cells #[.int .i64 3, .int .u64 n', .string t', .int .i64 r'] 44)).alloc (.cells #[.int .i64 0, .int .u64 0, .string ⟨#[]⟩, .int .i64 0] 44)
        have ZA := heap_alloc (heap_alloc (heap_new w (.cells #[.int .i64 3, .int .u64 n, .string t, .int .i64 r] 44)) (.cells #[.int .i64 3, .int .u64 n', .string t', .int .i64 r'] 44)) (.cells #[.int .i64 0, .int .u64 0, .string ⟨#[]⟩, .int .i64 0] 44)
        have ZB := heap_alloc (heap_new (w.alloc (.cells #[.int .i64 3, .int .u64 n, .string t, .int .i64 r] 44)) (.cells #[.int .i64 3, .int .u64 n', .string t', .int .i64 r'] 44)) (.cells #[.int .i64 0, .int .u64 0, .string ⟨#[]⟩, .int .i64 0] 44)
        have ZC := heap_new ((w.alloc (.cells #[.int .i64 3, .int .u64 n, .string t, .int .i64 r] 44)).alloc (.cells #[.int .i64 3, .int .u64 n', .string t', .int .i64 r'] 44)) (.cells #[.int .i64 0, .int .u64 0, .string ⟨#[]⟩, .int .i64 0] 44)
        simp only [World.size_alloc] at ZB ZC
        obtain ⟨a0, a1, a2, a3⟩ := four_blk ZA
        obtain ⟨b0, b1, b2, b3⟩ := four_blk ZB
        obtain ⟨c0, c1, c2, c3⟩ := four_blk ZC
        obtain ⟨f0, f1, f2, f3⟩ := four_frozen ZC
        have HK := Lib.hid K0
        have HZ := Lib.hid ZC
        clear K0 ZA ZB ZC
        have sC : w.heap.size ≤ w.heap.size + 1 + 1 := by omega
        generalize ((w.alloc (.cells #[.int .i64 3, .int .u64 n, .string t, .int .i64 r] 44)).alloc (.cells #[.int .i64 3, .int .u64 n', .string t', .int .i64 r'] 44)).alloc (.cells #[.int .i64 0, .int .u64 0, .string ⟨#[]⟩, .int .i64 0] 44) = W at *
        generalize hA : w.heap.size = A at *
        have nAB : A ≠ A + 1 := by omega
        have nAC : A ≠ A + 1 + 1 := by omega
        have nBC : A + 1 ≠ A + 1 + 1 := by omega
        generalize hB : A + 1 = B at *
        generalize hC : B + 1 = C at *
        have sC' : w.heap.size ≤ C := by omega
        have SC := Lib.hid sC'
        clear hA hB hC sC sC'
        go_wp2_with fail
        refine bodyPost_ret (v := .tuple #[.agg #[.int .i64 0, .int .u64 0, .string ⟨#[]⟩, .int .i64 0], .string ⟨#[108, 111, 110, 103]⟩]) (by simp only [results, Tryz.results16]; simp [go_sem, *]) rfl ⟨0, 0, ⟨#[]⟩, 0, rfl, by simp [VOk], by omega, by omega, fun _ => rfl, HK.out.four (.inr SC.out) _ _ _ _⟩
      · rw [bad_sum _ hl]
        have hts : (t ++ t').size ≤ 200 := by rw [ByteArray.size_append]; omega
        have HT := Lib.hid hts
        clear hts
        go_upto_region 12 with (go_at_call 30; (with_reducible refine (within_calls _ _).mono ?_); rintro e w' ⟨rfl, rfl⟩)
        have K0 := (((Keep.refl [] w).alloc (.cells #[.int .i64 3, .int .u64 n, .string t, .int .i64 r] 44)).alloc (.cells #[.int .i64 3, .int .u64 n', .string t', .int .i64 r'] 44)).alloc (.cells #[.int .i64 0, .int .u64 0, .string ⟨#[]⟩, .int .i64 0] 44)
        have ZA := heap_alloc (heap_alloc (heap_new w (.cells #[.int .i64 3, .int .u64 n, .string t, .int .i64 r] 44)) (.cells #[.int .i64 3, .int .u64 n', .string t', .int .i64 r'] 44)) (.cells #[.int .i64 0, .int .u64 0, .string ⟨#[]⟩, .int .i64 0] 44)
        have ZB := heap_alloc (heap_new (w.alloc (.cells #[.int .i64 3, .int .u64 n, .string t, .int .i64 r] 44)) (.cells #[.int .i64 3, .int .u64 n', .string t', .int .i64 r'] 44)) (.cells #[.int .i64 0, .int .u64 0, .string ⟨#[]⟩, .int .i64 0] 44)
        have ZC := heap_new ((w.alloc (.cells #[.int .i64 3, .int .u64 n, .string t, .int .i64 r] 44)).alloc (.cells #[.int .i64 3, .int .u64 n', .string t', .int .i64 r'] 44)) (.cells #[.int .i64 0, .int .u64 0, .string ⟨#[]⟩, .int .i64 0] 44)
        simp only [World.size_alloc] at ZB ZC
        obtain ⟨a0, a1, a2, a3⟩ := four_blk ZA
        obtain ⟨b0, b1, b2, b3⟩ := four_blk ZB
        obtain ⟨c0, c1, c2, c3⟩ := four_blk ZC
        obtain ⟨f0, f1, f2, f3⟩ := four_frozen ZC
        have HK := Lib.hid K0
        have HZ := Lib.hid ZC
        clear K0 ZA ZB ZC
        have sC : w.heap.size ≤ w.heap.size + 1 + 1 := by omega
        generalize ((w.alloc (.cells #[.int .i64 3, .int .u64 n, .string t, .int .i64 r] 44)).alloc (.cells #[.int .i64 3, .int .u64 n', .string t', .int .i64 r'] 44)).alloc (.cells #[.int .i64 0, .int .u64 0, .string ⟨#[]⟩, .int .i64 0] 44) = W at *
        generalize hA : w.heap.size = A at *
        have nAB : A ≠ A + 1 := by omega
        have nAC : A ≠ A + 1 + 1 := by omega
        have nBC : A + 1 ≠ A + 1 + 1 := by omega
        generalize hB : A + 1 = B at *
        generalize hC : B + 1 = C at *
        have sC' : w.heap.size ≤ C := by omega
        have SC := Lib.hid sC'
        clear hA hB hC sC sC'
        go_wp2_with (go_at_call 44; (with_reducible refine (textValue_calls _ _).mono ?_); rintro e w1 ⟨rfl, hk⟩; replace HK := Lib.hid (HK.out.trans' hk); replace HZ := Lib.hid (hk.heap HZ.out (by simp)); obtain ⟨c0, c1, c2, c3⟩ := four_blk HZ.out; obtain ⟨f0, f1, f2, f3⟩ := four_frozen HZ.out; clear hk)
        refine bodyPost_ret (v := .tuple #[.agg #[.int .i64 3, .int .u64 0, .string (t ++ t'), .int .i64 0], .string ⟨#[]⟩]) (by simp only [results, Tryz.results16]; simp [go_sem, *]) rfl ⟨3, 0, (t ++ t'), 0, rfl, by simp [VOk]; have := HT.out; rw [ByteArray.size_append] at this; exact this, by omega, by omega, by simp, HK.out.four (.inr SC.out) _ _ _ _⟩
    · rw [bad_txtno op _ HC.out (by have := HO.out; have := HO2.out; omega) h1']
      have e1 : (op == 1) = false := by simpa using h1'
      clear h1'
      go_upto_region 12 with (go_at_call 30; (with_reducible refine (within_calls _ _).mono ?_); rintro e w' ⟨rfl, rfl⟩)
      have K0 := (((Keep.refl [] w).alloc (.cells #[.int .i64 3, .int .u64 n, .string t, .int .i64 r] 44)).alloc (.cells #[.int .i64 3, .int .u64 n', .string t', .int .i64 r'] 44)).alloc (.cells #[.int .i64 0, .int .u64 0, .string ⟨#[]⟩, .int .i64 0] 44)
      have ZA := heap_alloc (heap_alloc (heap_new w (.cells #[.int .i64 3, .int .u64 n, .string t, .int .i64 r] 44)) (.cells #[.int .i64 3, .int .u64 n', .string t', .int .i64 r'] 44)) (.cells #[.int .i64 0, .int .u64 0, .string ⟨#[]⟩, .int .i64 0] 44)
      have ZB := heap_alloc (heap_new (w.alloc (.cells #[.int .i64 3, .int .u64 n, .string t, .int .i64 r] 44)) (.cells #[.int .i64 3, .int .u64 n', .string t', .int .i64 r'] 44)) (.cells #[.int .i64 0, .int .u64 0, .string ⟨#[]⟩, .int .i64 0] 44)
      have ZC := heap_new ((w.alloc (.cells #[.int .i64 3, .int .u64 n, .string t, .int .i64 r] 44)).alloc (.cells #[.int .i64 3, .int .u64 n', .string t', .int .i64 r'] 44)) (.cells #[.int .i64 0, .int .u64 0, .string ⟨#[]⟩, .int .i64 0] 44)
      simp only [World.size_alloc] at ZB ZC
      obtain ⟨a0, a1, a2, a3⟩ := four_blk ZA
      obtain ⟨b0, b1, b2, b3⟩ := four_blk ZB
      obtain ⟨c0, c1, c2, c3⟩ := four_blk ZC
      obtain ⟨f0, f1, f2, f3⟩ := four_frozen ZC
      have HK := Lib.hid K0
      have HZ := Lib.hid ZC
      clear K0 ZA ZB ZC
      have sC : w.heap.size ≤ w.heap.size + 1 + 1 := by omega
      generalize ((w.alloc (.cells #[.int .i64 3, .int .u64 n, .string t, .int .i64 r] 44)).alloc (.cells #[.int .i64 3, .int .u64 n', .string t', .int .i64 r'] 44)).alloc (.cells #[.int .i64 0, .int .u64 0, .string ⟨#[]⟩, .int .i64 0] 44) = W at *
      generalize hA : w.heap.size = A at *
      have nAB : A ≠ A + 1 := by omega
      have nAC : A ≠ A + 1 + 1 := by omega
      have nBC : A + 1 ≠ A + 1 + 1 := by omega
      generalize hB : A + 1 = B at *
      generalize hC : B + 1 = C at *
      have sC' : w.heap.size ≤ C := by omega
      have SC := Lib.hid sC'
      clear hA hB hC sC sC'
      go_wp2_with fail
      refine bodyPost_ret (v := .tuple #[.agg #[.int .i64 0, .int .u64 0, .string ⟨#[]⟩, .int .i64 0], .string ⟨#[116, 121, 112, 101]⟩]) (by simp only [results, Tryz.results16]; simp [go_sem, *]) rfl ⟨0, 0, ⟨#[]⟩, 0, rfl, by simp [VOk], by omega, by omega, fun _ => rfl, HK.out.four (.inr SC.out) _ _ _ _⟩

set_option maxRecDepth 100000 in
set_option maxHeartbeats 8000000 in
theorem iDoMix (op k n : Int) (t : ByteArray) (r k' n' : Int) (t' : ByteArray) (r' : Int) (w : World) (h0 : 0 ≤ n) (h1 : n ≤ 18446744073709551615) (h2 : 0 ≤ n') (h3 : n' ≤ 18446744073709551615) (ht : t.size ≤ 5000) (ht' : t'.size ≤ 5000) (hn : ¬ (k = 2 ∧ k' = 2)) (hm : ¬ (k = 3 ∧ k' = 3)) :
    Calls Tryz.prog 16 #[.int .i64 op, .agg #[.int .i64 k, .int .u64 n, .string t, .int .i64 r], .agg #[.int .i64 k', .int .u64 n', .string t', .int .i64 r']] w (RetD (badOf op k k' (t.size + t'.size)) w) := by
  have hkk : ((k == 2) = false ∧ (k == 3) = false) ∨ (k = 2 ∧ (k' == 2) = false) ∨ (k = 3 ∧ (k' == 3) = false) := by
    simp only [beq_eq_false_iff_ne, ne_eq]; omega
  go_enter Tryz.func16, Tryz.ntmps16
  by_cases ho : op = 10
  · rcases hkk with ⟨q2, q3⟩ | ⟨rfl, q2⟩ | ⟨rfl, q3⟩
    all_goals clear hn hm
    · subst ho
      rw [bad_same]
      have hcb : cmpB 10 = false := by decide
      go_upto_region 4 with (go_at_call 30; (with_reducible refine (within_calls _ _).mono ?_); rintro e w' ⟨rfl, rfl⟩)
      all_goals
        have K0 := (((Keep.refl [] w).alloc (.cells #[.int .i64 k, .int .u64 n, .string t, .int .i64 r] 44)).alloc (.cells #[.int .i64 k', .int .u64 n', .string t', .int .i64 r'] 44)).alloc (.cells #[.int .i64 0, .int .u64 0, .string ⟨#[]⟩, .int .i64 0] 44)
        have ZA := heap_alloc (heap_alloc (heap_new w (.cells #[.int .i64 k, .int .u64 n, .string t, .int .i64 r] 44)) (.cells #[.int .i64 k', .int .u64 n', .string t', .int .i64 r'] 44)) (.cells #[.int .i64 0, .int .u64 0, .string ⟨#[]⟩, .int .i64 0] 44)
        have ZB := heap_alloc (heap_new (w.alloc (.cells #[.int .i64 k, .int .u64 n, .string t, .int .i64 r] 44)) (.cells #[.int .i64 k', .int .u64 n', .string t', .int .i64 r'] 44)) (.cells #[.int .i64 0, .int .u64 0, .string ⟨#[]⟩, .int .i64 0] 44)
        have ZC := heap_new ((w.alloc (.cells #[.int .i64 k, .int .u64 n, .string t, .int .i64 r] 44)).alloc (.cells #[.int .i64 k', .int .u64 n', .string t', .int .i64 r'] 44)) (.cells #[.int .i64 0, .int .u64 0, .string ⟨#[]⟩, .int .i64 0] 44)
        simp only [World.size_alloc] at ZB ZC
        obtain ⟨a0, a1, a2, a3⟩ := four_blk ZA
        obtain ⟨b0, b1, b2, b3⟩ := four_blk ZB
        obtain ⟨c0, c1, c2, c3⟩ := four_blk ZC
        obtain ⟨f0, f1, f2, f3⟩ := four_frozen ZC
        have HK := Lib.hid K0
        have HZ := Lib.hid ZC
        clear K0 ZA ZB ZC
        have sC : w.heap.size ≤ w.heap.size + 1 + 1 := by omega
        generalize ((w.alloc (.cells #[.int .i64 k, .int .u64 n, .string t, .int .i64 r] 44)).alloc (.cells #[.int .i64 k', .int .u64 n', .string t', .int .i64 r'] 44)).alloc (.cells #[.int .i64 0, .int .u64 0, .string ⟨#[]⟩, .int .i64 0] 44) = W at *
        generalize hA : w.heap.size = A at *
        have nAB : A ≠ A + 1 := by omega
        have nAC : A ≠ A + 1 + 1 := by omega
        have nBC : A + 1 ≠ A + 1 + 1 := by omega
        generalize hB : A + 1 = B at *
        generalize hC : B + 1 = C at *
        have sC' : w.heap.size ≤ C := by omega
        have SC := Lib.hid sC'
        clear hA hB hC sC sC'
        go_wp2_with (first | (go_at_call 19; (with_reducible refine (iSameValue_calls _ _ _ _ _ _ _ _ _).mono ?_); rintro e w1 ⟨q, rfl, -, hk⟩; replace HK := Lib.hid (HK.out.trans' hk); replace HZ := Lib.hid (hk.heap HZ.out (by simp)); obtain ⟨c0, c1, c2, c3⟩ := four_blk HZ.out; obtain ⟨f0, f1, f2, f3⟩ := four_frozen HZ.out; clear hk) | (go_at_call 40; (with_reducible refine (boolValue_calls _ _).mono ?_); rintro e w1 ⟨z, rfl, hz0, hz1, hk⟩; replace HK := Lib.hid (HK.out.trans' hk); replace HZ := Lib.hid (hk.heap HZ.out (by simp)); obtain ⟨c0, c1, c2, c3⟩ := four_blk HZ.out; obtain ⟨f0, f1, f2, f3⟩ := four_frozen HZ.out; clear hk))
        refine bodyPost_ret (v := .tuple #[.agg #[.int .i64 1, .int .u64 z, .string ⟨#[]⟩, .int .i64 0], .string ⟨#[]⟩]) (by simp only [results, Tryz.results16]; simp [go_sem, *]) rfl ⟨1, z, ⟨#[]⟩, 0, rfl, by simp [VOk]; omega, by omega, by omega, by simp, HK.out.four (.inr SC.out) _ _ _ _⟩
    · subst ho
      rw [bad_same]
      have hcb : cmpB 10 = false := by decide
      go_upto_region 4 with (go_at_call 30; (with_reducible refine (within_calls _ _).mono ?_); rintro e w' ⟨rfl, rfl⟩)
      all_goals
        have K0 := (((Keep.refl [] w).alloc (.cells #[.int .i64 2, .int .u64 n, .string t, .int .i64 r] 44)).alloc (.cells #[.int .i64 k', .int .u64 n', .string t', .int .i64 r'] 44)).alloc (.cells #[.int .i64 0, .int .u64 0, .string ⟨#[]⟩, .int .i64 0] 44)
        have ZA := heap_alloc (heap_alloc (heap_new w (.cells #[.int .i64 2, .int .u64 n, .string t, .int .i64 r] 44)) (.cells #[.int .i64 k', .int .u64 n', .string t', .int .i64 r'] 44)) (.cells #[.int .i64 0, .int .u64 0, .string ⟨#[]⟩, .int .i64 0] 44)
        have ZB := heap_alloc (heap_new (w.alloc (.cells #[.int .i64 2, .int .u64 n, .string t, .int .i64 r] 44)) (.cells #[.int .i64 k', .int .u64 n', .string t', .int .i64 r'] 44)) (.cells #[.int .i64 0, .int .u64 0, .string ⟨#[]⟩, .int .i64 0] 44)
        have ZC := heap_new ((w.alloc (.cells #[.int .i64 2, .int .u64 n, .string t, .int .i64 r] 44)).alloc (.cells #[.int .i64 k', .int .u64 n', .string t', .int .i64 r'] 44)) (.cells #[.int .i64 0, .int .u64 0, .string ⟨#[]⟩, .int .i64 0] 44)
        simp only [World.size_alloc] at ZB ZC
        obtain ⟨a0, a1, a2, a3⟩ := four_blk ZA
        obtain ⟨b0, b1, b2, b3⟩ := four_blk ZB
        obtain ⟨c0, c1, c2, c3⟩ := four_blk ZC
        obtain ⟨f0, f1, f2, f3⟩ := four_frozen ZC
        have HK := Lib.hid K0
        have HZ := Lib.hid ZC
        clear K0 ZA ZB ZC
        have sC : w.heap.size ≤ w.heap.size + 1 + 1 := by omega
        generalize ((w.alloc (.cells #[.int .i64 2, .int .u64 n, .string t, .int .i64 r] 44)).alloc (.cells #[.int .i64 k', .int .u64 n', .string t', .int .i64 r'] 44)).alloc (.cells #[.int .i64 0, .int .u64 0, .string ⟨#[]⟩, .int .i64 0] 44) = W at *
        generalize hA : w.heap.size = A at *
        have nAB : A ≠ A + 1 := by omega
        have nAC : A ≠ A + 1 + 1 := by omega
        have nBC : A + 1 ≠ A + 1 + 1 := by omega
        generalize hB : A + 1 = B at *
        generalize hC : B + 1 = C at *
        have sC' : w.heap.size ≤ C := by omega
        have SC := Lib.hid sC'
        clear hA hB hC sC sC'
        go_wp2_with (first | (go_at_call 19; (with_reducible refine (iSameValue_calls _ _ _ _ _ _ _ _ _).mono ?_); rintro e w1 ⟨q, rfl, -, hk⟩; replace HK := Lib.hid (HK.out.trans' hk); replace HZ := Lib.hid (hk.heap HZ.out (by simp)); obtain ⟨c0, c1, c2, c3⟩ := four_blk HZ.out; obtain ⟨f0, f1, f2, f3⟩ := four_frozen HZ.out; clear hk) | (go_at_call 40; (with_reducible refine (boolValue_calls _ _).mono ?_); rintro e w1 ⟨z, rfl, hz0, hz1, hk⟩; replace HK := Lib.hid (HK.out.trans' hk); replace HZ := Lib.hid (hk.heap HZ.out (by simp)); obtain ⟨c0, c1, c2, c3⟩ := four_blk HZ.out; obtain ⟨f0, f1, f2, f3⟩ := four_frozen HZ.out; clear hk))
        refine bodyPost_ret (v := .tuple #[.agg #[.int .i64 1, .int .u64 z, .string ⟨#[]⟩, .int .i64 0], .string ⟨#[]⟩]) (by simp only [results, Tryz.results16]; simp [go_sem, *]) rfl ⟨1, z, ⟨#[]⟩, 0, rfl, by simp [VOk]; omega, by omega, by omega, by simp, HK.out.four (.inr SC.out) _ _ _ _⟩
    · subst ho
      rw [bad_same]
      have hcb : cmpB 10 = false := by decide
      go_upto_region 4 with (go_at_call 30; (with_reducible refine (within_calls _ _).mono ?_); rintro e w' ⟨rfl, rfl⟩)
      all_goals
        have K0 := (((Keep.refl [] w).alloc (.cells #[.int .i64 3, .int .u64 n, .string t, .int .i64 r] 44)).alloc (.cells #[.int .i64 k', .int .u64 n', .string t', .int .i64 r'] 44)).alloc (.cells #[.int .i64 0, .int .u64 0, .string ⟨#[]⟩, .int .i64 0] 44)
        have ZA := heap_alloc (heap_alloc (heap_new w (.cells #[.int .i64 3, .int .u64 n, .string t, .int .i64 r] 44)) (.cells #[.int .i64 k', .int .u64 n', .string t', .int .i64 r'] 44)) (.cells #[.int .i64 0, .int .u64 0, .string ⟨#[]⟩, .int .i64 0] 44)
        have ZB := heap_alloc (heap_new (w.alloc (.cells #[.int .i64 3, .int .u64 n, .string t, .int .i64 r] 44)) (.cells #[.int .i64 k', .int .u64 n', .string t', .int .i64 r'] 44)) (.cells #[.int .i64 0, .int .u64 0, .string ⟨#[]⟩, .int .i64 0] 44)
        have ZC := heap_new ((w.alloc (.cells #[.int .i64 3, .int .u64 n, .string t, .int .i64 r] 44)).alloc (.cells #[.int .i64 k', .int .u64 n', .string t', .int .i64 r'] 44)) (.cells #[.int .i64 0, .int .u64 0, .string ⟨#[]⟩, .int .i64 0] 44)
        simp only [World.size_alloc] at ZB ZC
        obtain ⟨a0, a1, a2, a3⟩ := four_blk ZA
        obtain ⟨b0, b1, b2, b3⟩ := four_blk ZB
        obtain ⟨c0, c1, c2, c3⟩ := four_blk ZC
        obtain ⟨f0, f1, f2, f3⟩ := four_frozen ZC
        have HK := Lib.hid K0
        have HZ := Lib.hid ZC
        clear K0 ZA ZB ZC
        have sC : w.heap.size ≤ w.heap.size + 1 + 1 := by omega
        generalize ((w.alloc (.cells #[.int .i64 3, .int .u64 n, .string t, .int .i64 r] 44)).alloc (.cells #[.int .i64 k', .int .u64 n', .string t', .int .i64 r'] 44)).alloc (.cells #[.int .i64 0, .int .u64 0, .string ⟨#[]⟩, .int .i64 0] 44) = W at *
        generalize hA : w.heap.size = A at *
        have nAB : A ≠ A + 1 := by omega
        have nAC : A ≠ A + 1 + 1 := by omega
        have nBC : A + 1 ≠ A + 1 + 1 := by omega
        generalize hB : A + 1 = B at *
        generalize hC : B + 1 = C at *
        have sC' : w.heap.size ≤ C := by omega
        have SC := Lib.hid sC'
        clear hA hB hC sC sC'
        go_wp2_with (first | (go_at_call 19; (with_reducible refine (iSameValue_calls _ _ _ _ _ _ _ _ _).mono ?_); rintro e w1 ⟨q, rfl, -, hk⟩; replace HK := Lib.hid (HK.out.trans' hk); replace HZ := Lib.hid (hk.heap HZ.out (by simp)); obtain ⟨c0, c1, c2, c3⟩ := four_blk HZ.out; obtain ⟨f0, f1, f2, f3⟩ := four_frozen HZ.out; clear hk) | (go_at_call 40; (with_reducible refine (boolValue_calls _ _).mono ?_); rintro e w1 ⟨z, rfl, hz0, hz1, hk⟩; replace HK := Lib.hid (HK.out.trans' hk); replace HZ := Lib.hid (hk.heap HZ.out (by simp)); obtain ⟨c0, c1, c2, c3⟩ := four_blk HZ.out; obtain ⟨f0, f1, f2, f3⟩ := four_frozen HZ.out; clear hk))
        refine bodyPost_ret (v := .tuple #[.agg #[.int .i64 1, .int .u64 z, .string ⟨#[]⟩, .int .i64 0], .string ⟨#[]⟩]) (by simp only [results, Tryz.results16]; simp [go_sem, *]) rfl ⟨1, z, ⟨#[]⟩, 0, rfl, by simp [VOk]; omega, by omega, by omega, by simp, HK.out.four (.inr SC.out) _ _ _ _⟩
  by_cases ho2 : op = 11
  · rcases hkk with ⟨q2, q3⟩ | ⟨rfl, q2⟩ | ⟨rfl, q3⟩
    all_goals clear hn hm
    · subst ho2
      rw [bad_other]
      have hcb : cmpB 11 = false := by decide
      go_upto_region 4 with (go_at_call 30; (with_reducible refine (within_calls _ _).mono ?_); rintro e w' ⟨rfl, rfl⟩)
      all_goals
        have K0 := (((Keep.refl [] w).alloc (.cells #[.int .i64 k, .int .u64 n, .string t, .int .i64 r] 44)).alloc (.cells #[.int .i64 k', .int .u64 n', .string t', .int .i64 r'] 44)).alloc (.cells #[.int .i64 0, .int .u64 0, .string ⟨#[]⟩, .int .i64 0] 44)
        have ZA := heap_alloc (heap_alloc (heap_new w (.cells #[.int .i64 k, .int .u64 n, .string t, .int .i64 r] 44)) (.cells #[.int .i64 k', .int .u64 n', .string t', .int .i64 r'] 44)) (.cells #[.int .i64 0, .int .u64 0, .string ⟨#[]⟩, .int .i64 0] 44)
        have ZB := heap_alloc (heap_new (w.alloc (.cells #[.int .i64 k, .int .u64 n, .string t, .int .i64 r] 44)) (.cells #[.int .i64 k', .int .u64 n', .string t', .int .i64 r'] 44)) (.cells #[.int .i64 0, .int .u64 0, .string ⟨#[]⟩, .int .i64 0] 44)
        have ZC := heap_new ((w.alloc (.cells #[.int .i64 k, .int .u64 n, .string t, .int .i64 r] 44)).alloc (.cells #[.int .i64 k', .int .u64 n', .string t', .int .i64 r'] 44)) (.cells #[.int .i64 0, .int .u64 0, .string ⟨#[]⟩, .int .i64 0] 44)
        simp only [World.size_alloc] at ZB ZC
        obtain ⟨a0, a1, a2, a3⟩ := four_blk ZA
        obtain ⟨b0, b1, b2, b3⟩ := four_blk ZB
        obtain ⟨c0, c1, c2, c3⟩ := four_blk ZC
        obtain ⟨f0, f1, f2, f3⟩ := four_frozen ZC
        have HK := Lib.hid K0
        have HZ := Lib.hid ZC
        clear K0 ZA ZB ZC
        have sC : w.heap.size ≤ w.heap.size + 1 + 1 := by omega
        generalize ((w.alloc (.cells #[.int .i64 k, .int .u64 n, .string t, .int .i64 r] 44)).alloc (.cells #[.int .i64 k', .int .u64 n', .string t', .int .i64 r'] 44)).alloc (.cells #[.int .i64 0, .int .u64 0, .string ⟨#[]⟩, .int .i64 0] 44) = W at *
        generalize hA : w.heap.size = A at *
        have nAB : A ≠ A + 1 := by omega
        have nAC : A ≠ A + 1 + 1 := by omega
        have nBC : A + 1 ≠ A + 1 + 1 := by omega
        generalize hB : A + 1 = B at *
        generalize hC : B + 1 = C at *
        have sC' : w.heap.size ≤ C := by omega
        have SC := Lib.hid sC'
        clear hA hB hC sC sC'
        go_wp2_with (first | (go_at_call 19; (with_reducible refine (iSameValue_calls _ _ _ _ _ _ _ _ _).mono ?_); rintro e w1 ⟨q, rfl, -, hk⟩; replace HK := Lib.hid (HK.out.trans' hk); replace HZ := Lib.hid (hk.heap HZ.out (by simp)); obtain ⟨c0, c1, c2, c3⟩ := four_blk HZ.out; obtain ⟨f0, f1, f2, f3⟩ := four_frozen HZ.out; clear hk) | (go_at_call 40; (with_reducible refine (boolValue_calls _ _).mono ?_); rintro e w1 ⟨z, rfl, hz0, hz1, hk⟩; replace HK := Lib.hid (HK.out.trans' hk); replace HZ := Lib.hid (hk.heap HZ.out (by simp)); obtain ⟨c0, c1, c2, c3⟩ := four_blk HZ.out; obtain ⟨f0, f1, f2, f3⟩ := four_frozen HZ.out; clear hk))
        refine bodyPost_ret (v := .tuple #[.agg #[.int .i64 1, .int .u64 z, .string ⟨#[]⟩, .int .i64 0], .string ⟨#[]⟩]) (by simp only [results, Tryz.results16]; simp [go_sem, *]) rfl ⟨1, z, ⟨#[]⟩, 0, rfl, by simp [VOk]; omega, by omega, by omega, by simp, HK.out.four (.inr SC.out) _ _ _ _⟩
    · subst ho2
      rw [bad_other]
      have hcb : cmpB 11 = false := by decide
      go_upto_region 4 with (go_at_call 30; (with_reducible refine (within_calls _ _).mono ?_); rintro e w' ⟨rfl, rfl⟩)
      all_goals
        have K0 := (((Keep.refl [] w).alloc (.cells #[.int .i64 2, .int .u64 n, .string t, .int .i64 r] 44)).alloc (.cells #[.int .i64 k', .int .u64 n', .string t', .int .i64 r'] 44)).alloc (.cells #[.int .i64 0, .int .u64 0, .string ⟨#[]⟩, .int .i64 0] 44)
        have ZA := heap_alloc (heap_alloc (heap_new w (.cells #[.int .i64 2, .int .u64 n, .string t, .int .i64 r] 44)) (.cells #[.int .i64 k', .int .u64 n', .string t', .int .i64 r'] 44)) (.cells #[.int .i64 0, .int .u64 0, .string ⟨#[]⟩, .int .i64 0] 44)
        have ZB := heap_alloc (heap_new (w.alloc (.cells #[.int .i64 2, .int .u64 n, .string t, .int .i64 r] 44)) (.cells #[.int .i64 k', .int .u64 n', .string t', .int .i64 r'] 44)) (.cells #[.int .i64 0, .int .u64 0, .string ⟨#[]⟩, .int .i64 0] 44)
        have ZC := heap_new ((w.alloc (.cells #[.int .i64 2, .int .u64 n, .string t, .int .i64 r] 44)).alloc (.cells #[.int .i64 k', .int .u64 n', .string t', .int .i64 r'] 44)) (.cells #[.int .i64 0, .int .u64 0, .string ⟨#[]⟩, .int .i64 0] 44)
        simp only [World.size_alloc] at ZB ZC
        obtain ⟨a0, a1, a2, a3⟩ := four_blk ZA
        obtain ⟨b0, b1, b2, b3⟩ := four_blk ZB
        obtain ⟨c0, c1, c2, c3⟩ := four_blk ZC
        obtain ⟨f0, f1, f2, f3⟩ := four_frozen ZC
        have HK := Lib.hid K0
        have HZ := Lib.hid ZC
        clear K0 ZA ZB ZC
        have sC : w.heap.size ≤ w.heap.size + 1 + 1 := by omega
        generalize ((w.alloc (.cells #[.int .i64 2, .int .u64 n, .string t, .int .i64 r] 44)).alloc (.cells #[.int .i64 k', .int .u64 n', .string t', .int .i64 r'] 44)).alloc (.cells #[.int .i64 0, .int .u64 0, .string ⟨#[]⟩, .int .i64 0] 44) = W at *
        generalize hA : w.heap.size = A at *
        have nAB : A ≠ A + 1 := by omega
        have nAC : A ≠ A + 1 + 1 := by omega
        have nBC : A + 1 ≠ A + 1 + 1 := by omega
        generalize hB : A + 1 = B at *
        generalize hC : B + 1 = C at *
        have sC' : w.heap.size ≤ C := by omega
        have SC := Lib.hid sC'
        clear hA hB hC sC sC'
        go_wp2_with (first | (go_at_call 19; (with_reducible refine (iSameValue_calls _ _ _ _ _ _ _ _ _).mono ?_); rintro e w1 ⟨q, rfl, -, hk⟩; replace HK := Lib.hid (HK.out.trans' hk); replace HZ := Lib.hid (hk.heap HZ.out (by simp)); obtain ⟨c0, c1, c2, c3⟩ := four_blk HZ.out; obtain ⟨f0, f1, f2, f3⟩ := four_frozen HZ.out; clear hk) | (go_at_call 40; (with_reducible refine (boolValue_calls _ _).mono ?_); rintro e w1 ⟨z, rfl, hz0, hz1, hk⟩; replace HK := Lib.hid (HK.out.trans' hk); replace HZ := Lib.hid (hk.heap HZ.out (by simp)); obtain ⟨c0, c1, c2, c3⟩ := four_blk HZ.out; obtain ⟨f0, f1, f2, f3⟩ := four_frozen HZ.out; clear hk))
        refine bodyPost_ret (v := .tuple #[.agg #[.int .i64 1, .int .u64 z, .string ⟨#[]⟩, .int .i64 0], .string ⟨#[]⟩]) (by simp only [results, Tryz.results16]; simp [go_sem, *]) rfl ⟨1, z, ⟨#[]⟩, 0, rfl, by simp [VOk]; omega, by omega, by omega, by simp, HK.out.four (.inr SC.out) _ _ _ _⟩
    · subst ho2
      rw [bad_other]
      have hcb : cmpB 11 = false := by decide
      go_upto_region 4 with (go_at_call 30; (with_reducible refine (within_calls _ _).mono ?_); rintro e w' ⟨rfl, rfl⟩)
      all_goals
        have K0 := (((Keep.refl [] w).alloc (.cells #[.int .i64 3, .int .u64 n, .string t, .int .i64 r] 44)).alloc (.cells #[.int .i64 k', .int .u64 n', .string t', .int .i64 r'] 44)).alloc (.cells #[.int .i64 0, .int .u64 0, .string ⟨#[]⟩, .int .i64 0] 44)
        have ZA := heap_alloc (heap_alloc (heap_new w (.cells #[.int .i64 3, .int .u64 n, .string t, .int .i64 r] 44)) (.cells #[.int .i64 k', .int .u64 n', .string t', .int .i64 r'] 44)) (.cells #[.int .i64 0, .int .u64 0, .string ⟨#[]⟩, .int .i64 0] 44)
        have ZB := heap_alloc (heap_new (w.alloc (.cells #[.int .i64 3, .int .u64 n, .string t, .int .i64 r] 44)) (.cells #[.int .i64 k', .int .u64 n', .string t', .int .i64 r'] 44)) (.cells #[.int .i64 0, .int .u64 0, .string ⟨#[]⟩, .int .i64 0] 44)
        have ZC := heap_new ((w.alloc (.cells #[.int .i64 3, .int .u64 n, .string t, .int .i64 r] 44)).alloc (.cells #[.int .i64 k', .int .u64 n', .string t', .int .i64 r'] 44)) (.cells #[.int .i64 0, .int .u64 0, .string ⟨#[]⟩, .int .i64 0] 44)
        simp only [World.size_alloc] at ZB ZC
        obtain ⟨a0, a1, a2, a3⟩ := four_blk ZA
        obtain ⟨b0, b1, b2, b3⟩ := four_blk ZB
        obtain ⟨c0, c1, c2, c3⟩ := four_blk ZC
        obtain ⟨f0, f1, f2, f3⟩ := four_frozen ZC
        have HK := Lib.hid K0
        have HZ := Lib.hid ZC
        clear K0 ZA ZB ZC
        have sC : w.heap.size ≤ w.heap.size + 1 + 1 := by omega
        generalize ((w.alloc (.cells #[.int .i64 3, .int .u64 n, .string t, .int .i64 r] 44)).alloc (.cells #[.int .i64 k', .int .u64 n', .string t', .int .i64 r'] 44)).alloc (.cells #[.int .i64 0, .int .u64 0, .string ⟨#[]⟩, .int .i64 0] 44) = W at *
        generalize hA : w.heap.size = A at *
        have nAB : A ≠ A + 1 := by omega
        have nAC : A ≠ A + 1 + 1 := by omega
        have nBC : A + 1 ≠ A + 1 + 1 := by omega
        generalize hB : A + 1 = B at *
        generalize hC : B + 1 = C at *
        have sC' : w.heap.size ≤ C := by omega
        have SC := Lib.hid sC'
        clear hA hB hC sC sC'
        go_wp2_with (first | (go_at_call 19; (with_reducible refine (iSameValue_calls _ _ _ _ _ _ _ _ _).mono ?_); rintro e w1 ⟨q, rfl, -, hk⟩; replace HK := Lib.hid (HK.out.trans' hk); replace HZ := Lib.hid (hk.heap HZ.out (by simp)); obtain ⟨c0, c1, c2, c3⟩ := four_blk HZ.out; obtain ⟨f0, f1, f2, f3⟩ := four_frozen HZ.out; clear hk) | (go_at_call 40; (with_reducible refine (boolValue_calls _ _).mono ?_); rintro e w1 ⟨z, rfl, hz0, hz1, hk⟩; replace HK := Lib.hid (HK.out.trans' hk); replace HZ := Lib.hid (hk.heap HZ.out (by simp)); obtain ⟨c0, c1, c2, c3⟩ := four_blk HZ.out; obtain ⟨f0, f1, f2, f3⟩ := four_frozen HZ.out; clear hk))
        refine bodyPost_ret (v := .tuple #[.agg #[.int .i64 1, .int .u64 z, .string ⟨#[]⟩, .int .i64 0], .string ⟨#[]⟩]) (by simp only [results, Tryz.results16]; simp [go_sem, *]) rfl ⟨1, z, ⟨#[]⟩, 0, rfl, by simp [VOk]; omega, by omega, by omega, by simp, HK.out.four (.inr SC.out) _ _ _ _⟩
  rw [bad_mixed op k k' _ (by omega) hn hm]
  have e10 : (op == 10) = false := by simpa using ho
  have e11 : (op == 11) = false := by simpa using ho2
  have HO := Lib.hid ho
  have HO2 := Lib.hid ho2
  clear ho ho2
  rcases hkk with ⟨q2, q3⟩ | ⟨rfl, q2⟩ | ⟨rfl, q3⟩
  all_goals clear hn hm
  · go_upto_region 4 with (go_at_call 30; (with_reducible refine (within_calls _ _).mono ?_); rintro e w' ⟨rfl, rfl⟩)
    have K0 := (((Keep.refl [] w).alloc (.cells #[.int .i64 k, .int .u64 n, .string t, .int .i64 r] 44)).alloc (.cells #[.int .i64 k', .int .u64 n', .string t', .int .i64 r'] 44)).alloc (.cells #[.int .i64 0, .int .u64 0, .string ⟨#[]⟩, .int .i64 0] 44)
    have ZA := heap_alloc (heap_alloc (heap_new w (.cells #[.int .i64 k, .int .u64 n, .string t, .int .i64 r] 44)) (.cells #[.int .i64 k', .int .u64 n', .string t', .int .i64 r'] 44)) (.cells #[.int .i64 0, .int .u64 0, .string ⟨#[]⟩, .int .i64 0] 44)
    have ZB := heap_alloc (heap_new (w.alloc (.cells #[.int .i64 k, .int .u64 n, .string t, .int .i64 r] 44)) (.cells #[.int .i64 k', .int .u64 n', .string t', .int .i64 r'] 44)) (.cells #[.int .i64 0, .int .u64 0, .string ⟨#[]⟩, .int .i64 0] 44)
    have ZC := heap_new ((w.alloc (.cells #[.int .i64 k, .int .u64 n, .string t, .int .i64 r] 44)).alloc (.cells #[.int .i64 k', .int .u64 n', .string t', .int .i64 r'] 44)) (.cells #[.int .i64 0, .int .u64 0, .string ⟨#[]⟩, .int .i64 0] 44)
    simp only [World.size_alloc] at ZB ZC
    obtain ⟨a0, a1, a2, a3⟩ := four_blk ZA
    obtain ⟨b0, b1, b2, b3⟩ := four_blk ZB
    obtain ⟨c0, c1, c2, c3⟩ := four_blk ZC
    obtain ⟨f0, f1, f2, f3⟩ := four_frozen ZC
    have HK := Lib.hid K0
    have HZ := Lib.hid ZC
    clear K0 ZA ZB ZC
    have sC : w.heap.size ≤ w.heap.size + 1 + 1 := by omega
    generalize ((w.alloc (.cells #[.int .i64 k, .int .u64 n, .string t, .int .i64 r] 44)).alloc (.cells #[.int .i64 k', .int .u64 n', .string t', .int .i64 r'] 44)).alloc (.cells #[.int .i64 0, .int .u64 0, .string ⟨#[]⟩, .int .i64 0] 44) = W at *
    generalize hA : w.heap.size = A at *
    have nAB : A ≠ A + 1 := by omega
    have nAC : A ≠ A + 1 + 1 := by omega
    have nBC : A + 1 ≠ A + 1 + 1 := by omega
    generalize hB : A + 1 = B at *
    generalize hC : B + 1 = C at *
    have sC' : w.heap.size ≤ C := by omega
    have SC := Lib.hid sC'
    clear hA hB hC sC sC'
    go_wp2_with fail
    all_goals
      refine bodyPost_ret (v := .tuple #[.agg #[.int .i64 0, .int .u64 0, .string ⟨#[]⟩, .int .i64 0], .string ⟨#[116, 121, 112, 101]⟩]) (by simp only [results, Tryz.results16]; simp [go_sem, *]) rfl ⟨0, 0, ⟨#[]⟩, 0, rfl, by simp [VOk], by omega, by omega, fun _ => rfl, HK.out.four (.inr SC.out) _ _ _ _⟩
  · go_upto_region 4 with (go_at_call 30; (with_reducible refine (within_calls _ _).mono ?_); rintro e w' ⟨rfl, rfl⟩)
    have K0 := (((Keep.refl [] w).alloc (.cells #[.int .i64 2, .int .u64 n, .string t, .int .i64 r] 44)).alloc (.cells #[.int .i64 k', .int .u64 n', .string t', .int .i64 r'] 44)).alloc (.cells #[.int .i64 0, .int .u64 0, .string ⟨#[]⟩, .int .i64 0] 44)
    have ZA := heap_alloc (heap_alloc (heap_new w (.cells #[.int .i64 2, .int .u64 n, .string t, .int .i64 r] 44)) (.cells #[.int .i64 k', .int .u64 n', .string t', .int .i64 r'] 44)) (.cells #[.int .i64 0, .int .u64 0, .string ⟨#[]⟩, .int .i64 0] 44)
    have ZB := heap_alloc (heap_new (w.alloc (.cells #[.int .i64 2, .int .u64 n, .string t, .int .i64 r] 44)) (.cells #[.int .i64 k', .int .u64 n', .string t', .int .i64 r'] 44)) (.cells #[.int .i64 0, .int .u64 0, .string ⟨#[]⟩, .int .i64 0] 44)
    have ZC := heap_new ((w.alloc (.cells #[.int .i64 2, .int .u64 n, .string t, .int .i64 r] 44)).alloc (.cells #[.int .i64 k', .int .u64 n', .string t', .int .i64 r'] 44)) (.cells #[.int .i64 0, .int .u64 0, .string ⟨#[]⟩, .int .i64 0] 44)
    simp only [World.size_alloc] at ZB ZC
    obtain ⟨a0, a1, a2, a3⟩ := four_blk ZA
    obtain ⟨b0, b1, b2, b3⟩ := four_blk ZB
    obtain ⟨c0, c1, c2, c3⟩ := four_blk ZC
    obtain ⟨f0, f1, f2, f3⟩ := four_frozen ZC
    have HK := Lib.hid K0
    have HZ := Lib.hid ZC
    clear K0 ZA ZB ZC
    have sC : w.heap.size ≤ w.heap.size + 1 + 1 := by omega
    generalize ((w.alloc (.cells #[.int .i64 2, .int .u64 n, .string t, .int .i64 r] 44)).alloc (.cells #[.int .i64 k', .int .u64 n', .string t', .int .i64 r'] 44)).alloc (.cells #[.int .i64 0, .int .u64 0, .string ⟨#[]⟩, .int .i64 0] 44) = W at *
    generalize hA : w.heap.size = A at *
    have nAB : A ≠ A + 1 := by omega
    have nAC : A ≠ A + 1 + 1 := by omega
    have nBC : A + 1 ≠ A + 1 + 1 := by omega
    generalize hB : A + 1 = B at *
    generalize hC : B + 1 = C at *
    have sC' : w.heap.size ≤ C := by omega
    have SC := Lib.hid sC'
    clear hA hB hC sC sC'
    go_wp2_with fail
    all_goals
      refine bodyPost_ret (v := .tuple #[.agg #[.int .i64 0, .int .u64 0, .string ⟨#[]⟩, .int .i64 0], .string ⟨#[116, 121, 112, 101]⟩]) (by simp only [results, Tryz.results16]; simp [go_sem, *]) rfl ⟨0, 0, ⟨#[]⟩, 0, rfl, by simp [VOk], by omega, by omega, fun _ => rfl, HK.out.four (.inr SC.out) _ _ _ _⟩
  · go_upto_region 4 with (go_at_call 30; (with_reducible refine (within_calls _ _).mono ?_); rintro e w' ⟨rfl, rfl⟩)
    have K0 := (((Keep.refl [] w).alloc (.cells #[.int .i64 3, .int .u64 n, .string t, .int .i64 r] 44)).alloc (.cells #[.int .i64 k', .int .u64 n', .string t', .int .i64 r'] 44)).alloc (.cells #[.int .i64 0, .int .u64 0, .string ⟨#[]⟩, .int .i64 0] 44)
    have ZA := heap_alloc (heap_alloc (heap_new w (.cells #[.int .i64 3, .int .u64 n, .string t, .int .i64 r] 44)) (.cells #[.int .i64 k', .int .u64 n', .string t', .int .i64 r'] 44)) (.cells #[.int .i64 0, .int .u64 0, .string ⟨#[]⟩, .int .i64 0] 44)
    have ZB := heap_alloc (heap_new (w.alloc (.cells #[.int .i64 3, .int .u64 n, .string t, .int .i64 r] 44)) (.cells #[.int .i64 k', .int .u64 n', .string t', .int .i64 r'] 44)) (.cells #[.int .i64 0, .int .u64 0, .string ⟨#[]⟩, .int .i64 0] 44)
    have ZC := heap_new ((w.alloc (.cells #[.int .i64 3, .int .u64 n, .string t, .int .i64 r] 44)).alloc (.cells #[.int .i64 k', .int .u64 n', .string t', .int .i64 r'] 44)) (.cells #[.int .i64 0, .int .u64 0, .string ⟨#[]⟩, .int .i64 0] 44)
    simp only [World.size_alloc] at ZB ZC
    obtain ⟨a0, a1, a2, a3⟩ := four_blk ZA
    obtain ⟨b0, b1, b2, b3⟩ := four_blk ZB
    obtain ⟨c0, c1, c2, c3⟩ := four_blk ZC
    obtain ⟨f0, f1, f2, f3⟩ := four_frozen ZC
    have HK := Lib.hid K0
    have HZ := Lib.hid ZC
    clear K0 ZA ZB ZC
    have sC : w.heap.size ≤ w.heap.size + 1 + 1 := by omega
    generalize ((w.alloc (.cells #[.int .i64 3, .int .u64 n, .string t, .int .i64 r] 44)).alloc (.cells #[.int .i64 k', .int .u64 n', .string t', .int .i64 r'] 44)).alloc (.cells #[.int .i64 0, .int .u64 0, .string ⟨#[]⟩, .int .i64 0] 44) = W at *
    generalize hA : w.heap.size = A at *
    have nAB : A ≠ A + 1 := by omega
    have nAC : A ≠ A + 1 + 1 := by omega
    have nBC : A + 1 ≠ A + 1 + 1 := by omega
    generalize hB : A + 1 = B at *
    generalize hC : B + 1 = C at *
    have sC' : w.heap.size ≤ C := by omega
    have SC := Lib.hid sC'
    clear hA hB hC sC sC'
    go_wp2_with fail
    all_goals
      refine bodyPost_ret (v := .tuple #[.agg #[.int .i64 0, .int .u64 0, .string ⟨#[]⟩, .int .i64 0], .string ⟨#[116, 121, 112, 101]⟩]) (by simp only [results, Tryz.results16]; simp [go_sem, *]) rfl ⟨0, 0, ⟨#[]⟩, 0, rfl, by simp [VOk], by omega, by omega, fun _ => rfl, HK.out.four (.inr SC.out) _ _ _ _⟩
end Go.Proofs.YtjapohefiggbaaaGreatDoor
