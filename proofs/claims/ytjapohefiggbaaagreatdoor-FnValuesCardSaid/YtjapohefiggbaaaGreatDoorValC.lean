/- Values: which are the same; what one operand gives. -/
import Derived.Test.YtjapohefiggbaaaGreatDoorValB
namespace Go.Proofs.YtjapohefiggbaaaGreatDoor
open Go.RowKit

/-- The same value. -/
def Sam (k n : Int) (t : ByteArray) (r : Int) (k' n' : Int) (t' : ByteArray) (r' : Int) : Prop :=
  if k = 2 ∧ k' = 2 then feq n n' = true else (k = k' ∧ n = n' ∧ t.toList = t'.toList ∧ r = r')
theorem Sam.symm {k n : Int} {t : ByteArray} {r k' n' : Int} {t' : ByteArray} {r' : Int} : Sam k n t r k' n' t' r' ↔ Sam k' n' t' r' k n t r := by
  unfold Sam
  by_cases h : k = 2 ∧ k' = 2
  · rw [if_pos h, if_pos ⟨h.2, h.1⟩, feq_comm]
  · rw [if_neg h, if_neg (fun q => h ⟨q.2, q.1⟩)]
    constructor <;> (rintro ⟨a, b, c, d⟩; exact ⟨a.symm, b.symm, c.symm, d.symm⟩)

set_option maxRecDepth 100000 in
set_option maxHeartbeats 4000000 in
theorem iSameValue_calls (k n : Int) (t : ByteArray) (r : Int) (k' n' : Int) (t' : ByteArray) (r' : Int) (w : World) :
    Calls Tryz.prog 19 #[.agg #[.int .i64 k, .int .u64 n, .string t, .int .i64 r], .agg #[.int .i64 k', .int .u64 n', .string t', .int .i64 r']] w (RetIff (Sam k n t r k' n' t' r') w) := by
  go_enter Tryz.func19, Tryz.ntmps19
  by_cases hk : k = 2 ∧ k' = 2
  · obtain ⟨rfl, rfl⟩ := hk
    go_wp2_with (go_at_call 43; (with_reducible refine (iEqual_calls _ _ _).mono ?_); rintro e w' ⟨rfl, rfl⟩)
    go_ret
    exact ⟨_, rfl, by unfold Sam; rw [if_pos ⟨rfl, rfl⟩], ((Keep.refl _ _).alloc _).alloc _⟩
  · have hs : Sam k n t r k' n' t' r' ↔ (k = k' ∧ n = n' ∧ t.toList = t'.toList ∧ r = r') := by unfold Sam; rw [if_neg hk]
    have HS := Lib.hid hs
    clear hs
    go_wp2_with (go_at_call 43; exfalso; apply hk; simp_all; done)
    all_goals first
      | (go_ret; exact ⟨_, rfl, by rw [HS.out]; simp_all; try (intro h; exact absurd h.symm hk), ((Keep.refl _ _).alloc _).alloc _⟩)

set_option maxRecDepth 100000 in
set_option maxHeartbeats 4000000 in
theorem sSameValue_calls (k n : Int) (t : ByteArray) (r : Int) (k' n' : Int) (t' : ByteArray) (r' : Int) (w : World) (h0 : 0 ≤ n) (h1 : n ≤ 18446744073709551615) (h2 : 0 ≤ n') (h3 : n' ≤ 18446744073709551615) :
    Calls Tryz.prog 48 #[.agg #[.int .i64 k, .int .u64 n, .string t, .int .i64 r], .agg #[.int .i64 k', .int .u64 n', .string t', .int .i64 r']] w (RetB w) := by
  go_enter Tryz.func48, Tryz.ntmps48
  have K := ((Keep.refl [] w).alloc (.cells #[.int .i64 k, .int .u64 n, .string t, .int .i64 r] 44)).alloc (.cells #[.int .i64 k', .int .u64 n', .string t', .int .i64 r'] 44)
  have HK := Lib.hid K
  clear K
  go_wp2_with (go_at_call 51; (with_reducible refine (Equal_calls _ _ _ h0 h1 h2 h3).mono ?_); rintro e w' ⟨b, rfl, hk⟩; replace HK := Lib.hid (HK.out.trans' hk); clear hk)
  all_goals (go_ret; exact ⟨_, rfl, by first | exact HK.out | exact ((Keep.refl _ _).alloc _).alloc _⟩)

/-- A truth as a value. -/
def RetBV (w : World) (e : Ending) (w' : World) : Prop := ∃ n : Int, e = .returned (.agg #[.int .i64 1, .int .u64 n, .string ⟨#[]⟩, .int .i64 0]) ∧ 0 ≤ n ∧ n ≤ 1 ∧ Keep [] w w'

set_option maxRecDepth 100000 in
theorem boolValue_calls (b : Bool) (w : World) : Calls Tryz.prog 40 #[.bool b] w (RetBV w) := by
  cases b
  · go_enter Tryz.func40, Tryz.ntmps40
    go_wp2_with fail
    refine bodyPost_ret (v := .agg #[.int .i64 1, .int .u64 0, .string ⟨#[]⟩, .int .i64 0]) (by simp [results, Tryz.results40, go_sem]) rfl ⟨0, rfl, by omega, by omega, by repeat (first | exact Keep.refl _ _ | refine Keep.setCell ?_ (by simp) _ | refine Keep.alloc ?_ _)⟩
  · go_enter Tryz.func40, Tryz.ntmps40
    go_wp2_with fail
    refine bodyPost_ret (v := .agg #[.int .i64 1, .int .u64 1, .string ⟨#[]⟩, .int .i64 0]) (by simp [results, Tryz.results40, go_sem]) rfl ⟨1, rfl, by omega, by omega, by repeat (first | exact Keep.refl _ _ | refine Keep.setCell ?_ (by simp) _ | refine Keep.alloc ?_ _)⟩

set_option maxRecDepth 100000 in
theorem l17Bool_calls (b : Bool) (w : World) : Calls Tryz.prog 47 #[.bool b] w (RetBV w) := by
  cases b
  · go_enter Tryz.func47, Tryz.ntmps47
    go_wp2_with fail
    refine bodyPost_ret (v := .agg #[.int .i64 1, .int .u64 0, .string ⟨#[]⟩, .int .i64 0]) (by simp [results, Tryz.results47, go_sem]) rfl ⟨0, rfl, by omega, by omega, by repeat (first | exact Keep.refl _ _ | refine Keep.setCell ?_ (by simp) _ | refine Keep.alloc ?_ _)⟩
  · go_enter Tryz.func47, Tryz.ntmps47
    go_wp2_with fail
    refine bodyPost_ret (v := .agg #[.int .i64 1, .int .u64 1, .string ⟨#[]⟩, .int .i64 0]) (by simp [results, Tryz.results47, go_sem]) rfl ⟨1, rfl, by omega, by omega, by repeat (first | exact Keep.refl _ _ | refine Keep.setCell ?_ (by simp) _ | refine Keep.alloc ?_ _)⟩

set_option maxRecDepth 100000 in
theorem numberValue_calls (x : Int) (w : World) : Calls Tryz.prog 46 #[.int .u64 x] w fun e w' => e = .returned (.agg #[.int .i64 2, .int .u64 x, .string ⟨#[]⟩, .int .i64 0]) ∧ Keep [] w w' := by
  go_enter Tryz.func46, Tryz.ntmps46
  go_wp2_with fail
  refine bodyPost_ret (v := .agg #[.int .i64 2, .int .u64 x, .string ⟨#[]⟩, .int .i64 0]) (by simp [results, Tryz.results46, go_sem]) rfl ⟨rfl, by repeat (first | exact Keep.refl _ _ | refine Keep.setCell ?_ (by simp) _ | refine Keep.alloc ?_ _)⟩

set_option maxRecDepth 100000 in
theorem textValue_calls (x : ByteArray) (w : World) : Calls Tryz.prog 44 #[.string x] w fun e w' => e = .returned (.agg #[.int .i64 3, .int .u64 0, .string x, .int .i64 0]) ∧ Keep [] w w' := by
  go_enter Tryz.func44, Tryz.ntmps44
  go_wp2_with fail
  refine bodyPost_ret (v := .agg #[.int .i64 3, .int .u64 0, .string x, .int .i64 0]) (by simp [results, Tryz.results44, go_sem]) rfl ⟨rfl, by repeat (first | exact Keep.refl _ _ | refine Keep.setCell ?_ (by simp) _ | refine Keep.alloc ?_ _)⟩

set_option maxRecDepth 100000 in
set_option maxHeartbeats 1000000 in
theorem DoMinus_num (n : Int) (t : ByteArray) (r : Int) (w : World) (h0 : 0 ≤ n) (h1 : n ≤ 18446744073709551615) :
    Calls Tryz.prog 20 #[.agg #[.int .i64 2, .int .u64 n, .string t, .int .i64 r]] w fun e w' => e = .returned (.tuple #[.agg #[.int .i64 2, .int .u64 (ng n), .string ⟨#[]⟩, .int .i64 0], .string ⟨#[]⟩]) ∧ Keep [] w w' := by
  go_enter Tryz.func20, Tryz.ntmps20
  go_wp2_with fail
  (with_reducible refine (iNegate_calls n _ h0 h1).mono ?_); rintro e w' ⟨rfl, rfl⟩
  go_wp2_with fail
  (with_reducible refine (numberValue_calls _ _).mono ?_); rintro e w1 ⟨rfl, hk⟩
  have hz := hk.heap (heap_new (w.alloc (.cells #[.int .i64 2, .int .u64 n, .string t, .int .i64 r] 44)) (.cells #[.int .i64 0, .int .u64 0, .string ⟨#[]⟩, .int .i64 0] 44)) (by simp)
  simp only [World.size_alloc] at hz
  obtain ⟨c0, c1, c2, c3⟩ := four_blk hz
  obtain ⟨f0, f1, f2, f3⟩ := four_frozen hz
  have HK := Lib.hid ((((Keep.refl [] w).alloc _).alloc _).trans' hk)
  clear hk hz
  go_wp2_with fail
  refine bodyPost_ret (v := .tuple #[.agg #[.int .i64 2, .int .u64 (ng n), .string ⟨#[]⟩, .int .i64 0], .string ⟨#[]⟩]) (by simp only [results, Tryz.results20]; simp [go_sem, *]) rfl ⟨rfl, HK.out.four (.inr (by omega)) _ _ _ _⟩

set_option maxRecDepth 100000 in
set_option maxHeartbeats 1000000 in
theorem DoMinus_other (k n : Int) (t : ByteArray) (r : Int) (w : World) (hk : k ≠ 2) :
    Calls Tryz.prog 20 #[.agg #[.int .i64 k, .int .u64 n, .string t, .int .i64 r]] w fun e w' => e = .returned (.tuple #[.agg #[.int .i64 0, .int .u64 0, .string ⟨#[]⟩, .int .i64 0], .string ⟨#[116, 121, 112, 101]⟩]) ∧ Keep [] w w' := by
  have hb : (k != 2) = true := by simpa using hk
  clear hk
  go_enter Tryz.func20, Tryz.ntmps20
  go_wp2_with fail
  refine bodyPost_ret (v := .tuple #[.agg #[.int .i64 0, .int .u64 0, .string ⟨#[]⟩, .int .i64 0], .string ⟨#[116, 121, 112, 101]⟩]) (by simp only [results, Tryz.results20]; simp [go_sem, *]) rfl ⟨rfl, by repeat (first | exact Keep.refl _ _ | refine Keep.setCell ?_ (by simp) _ | refine Keep.alloc ?_ _)⟩

set_option maxRecDepth 100000 in
set_option maxHeartbeats 1000000 in
theorem ShowValue_text (n : Int) (t : ByteArray) (r : Int) (w : World) :
    Calls Tryz.prog 21 #[.agg #[.int .i64 3, .int .u64 n, .string t, .int .i64 r]] w fun e w' => e = .returned (.string t) ∧ Keep [] w w' := by
  go_enter Tryz.func21, Tryz.ntmps21
  go_wp2_with fail
  go_ret
  exact ⟨rfl, (Keep.refl _ _).alloc _⟩
end Go.Proofs.YtjapohefiggbaaaGreatDoor
