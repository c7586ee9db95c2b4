/- Numbers are drawn: patterns of 64 bits. -/
import Derived.Test.YtjapohefiggbaaaGreatDoorCur
import Derived.Test.YtjapohefiggbaaaGreatDoorNumB
import Derived.Deep.RegionHeld3
import Derived.Deep.DrawnRows
namespace Go.Proofs.YtjapohefiggbaaaGreatDoor
open Go.RowKit

/-- A pattern comes back, and the cursor is kept. -/
def RetC (g : Nat) (w : World) (e : Ending) (w' : World) : Prop := ∃ r : Int, e = .returned (.int .u64 r) ∧ 0 ≤ r ∧ r ≤ 18446744073709551615 ∧ Cur w' g ∧ Keep [g] w w'

set_option maxHeartbeats 400000 in
theorem l03Bits64_calls (g : Nat) (w : World) (hc : Cur w g) :
    Calls Tryz.prog 131 #[.pointer (some ⟨g, 0, none⟩)] w (RetC g w) := by
  have HC := Lib.hid hc
  have HK := Lib.hid (Keep.refl [g] w)
  clear hc
  go_enter Tryz.func131, Tryz.ntmps131
  go_wp2_with (go_at_call 69; refine (l01Below_calls g _ _ (by omega) HC.out).mono ?_; rintro e w1 ⟨x, rfl, hx0, hx1, -, hc1, hk1⟩; replace HC := Lib.hid hc1; replace HK := Lib.hid (HK.out.trans' hk1); clear hc1 hk1)
  go_ret
  exact ⟨_, rfl, by omega, by omega, HC.out, HK.out⟩

set_option maxHeartbeats 400000 in
theorem FromInt_calls (n : Int) (w : World) (h0 : -9223372036854775807 ≤ n) (h1 : n ≤ 9223372036854775807) :
    Calls Tryz.prog 130 #[.int .i64 n] w (RetU w) := by
  by_cases hn : n < 0
  · have hne : (n == -9223372036854775808) = false := by rw [beq_eq_false_iff_ne]; omega
    go_enter Tryz.func130, Tryz.ntmps130
    go_wp2_with (go_at_call 91; refine (RoundTo_calls _ _ _ _ _ (by first | omega | exact (wrapU_bd _).1) (by first | omega | exact (wrapU_bd _).2)).mono ?_; rintro e w' ⟨r, rfl, hr0, hr1, rfl⟩)
    go_ret
    exact ⟨_, rfl, hr0, hr1, rfl⟩
  · have hne : (n == -9223372036854775808) = false := by rw [beq_eq_false_iff_ne]; omega
    go_enter Tryz.func130, Tryz.ntmps130
    go_wp2_with (go_at_call 91; refine (RoundTo_calls _ _ _ _ _ (by first | omega | exact (wrapU_bd _).1) (by first | omega | exact (wrapU_bd _).2)).mono ?_; rintro e w' ⟨r, rfl, hr0, hr1, rfl⟩)
    go_ret
    exact ⟨_, rfl, hr0, hr1, rfl⟩

attribute [local go_sem ↓] Go.wp_at_zero Go.wp_at_succ
set_option maxRecDepth 100000 in
set_option maxHeartbeats 2000000 in
theorem l03Number_calls (g : Nat) (w : World) (hc : Cur w g) :
    Calls Tryz.prog 82 #[.pointer (some ⟨g, 0, none⟩)] w (RetC g w) := by
  have HC := Lib.hid hc
  have HK := Lib.hid (Keep.refl [g] w)
  clear hc
  go_enter Tryz.func82, Tryz.ntmps82
  go_wp2_with fail
  refine (l01Below_calls g _ _ (by omega) HC.out).mono ?_; rintro e w1 ⟨x, rfl, hx0, hx1, -, hc1, hk1⟩; replace HC := Lib.hid hc1; replace HK := Lib.hid (HK.out.trans' hk1); clear hc1 hk1
  replace hx1 := hx1 (by omega)
  by_cases h0 : x = 0
  · subst h0
    go_wp2_with (go_at_call 64; refine (l03Pow_calls _ _ (by omega) (by omega)).mono ?_; rintro e w' ⟨rfl, rfl⟩)
    have hg := HC.out.lt
    refine (l01Below_calls g _ _ (by omega) (HC.out.keep ((Keep.refl [] _).alloc _) (by simp))).mono ?_
    rintro e w2 ⟨x, rfl, hx2, hx3, -, hc2, hk2⟩
    replace hx3 := hx3 (by omega)
    obtain ⟨j, rfl⟩ : ∃ j : Nat, x = j := ⟨x.toNat, by omega⟩
    obtain ⟨u, hu, r, rfl, hr0, hr1⟩ := row_at (hk2.heap (heap_new w1 _) (by simp; omega)) (Q := fun u => ∃ r : Int, u = .int .u64 r ∧ 0 ≤ r ∧ r ≤ 18446744073709551615)
      (by repeat (first | exact all_nil | refine all_cons ⟨_, rfl, ?_⟩ ?_ | exact ⟨Int.le_of_lt (pw_pos _), pw_lt _ (by omega)⟩ | exact wrapU_bd _ | (constructor <;> omega))) (j := j) (by simp; omega)
    replace HC := Lib.hid hc2
    replace HK := Lib.hid (HK.out.trans' (((Keep.refl [g] _).alloc _).trans' hk2))
    clear hc2 hk2
    go_wp2_with fail
    go_ret
    exact ⟨r, rfl, hr0, hr1, HC.out, HK.out⟩
  go_wp2_with (first
    | (go_at_call 69; refine (l01Below_calls g _ _ (by omega) HC.out).mono ?_; rintro e w1 ⟨x, rfl, hx0, hx1, -, hc1, hk1⟩; replace HC := Lib.hid hc1; replace HK := Lib.hid (HK.out.trans' hk1); clear hc1 hk1; replace hx1 := hx1 (by omega))
    | (go_at_call 70; refine (l01Once_calls g _ _ (by omega) HC.out).mono ?_; rintro e w1 ⟨x, rfl, hc1, hk1⟩; replace HC := Lib.hid hc1; replace HK := Lib.hid (HK.out.trans' hk1); clear hc1 hk1)
    | (go_at_call 131; refine (l03Bits64_calls g _ HC.out).mono ?_; rintro e w1 ⟨x, rfl, hx0, hx1, hc1, hk1⟩; replace HC := Lib.hid hc1; replace HK := Lib.hid (HK.out.trans' hk1); clear hc1 hk1)
    | (go_at_call 130; refine (FromInt_calls _ _ (by omega) (by omega)).mono ?_; rintro e w' ⟨r, rfl, hr0, hr1, rfl⟩)
    | (go_at_call 91; refine (RoundTo_calls _ _ _ _ _ (by omega) (by omega)).mono ?_; rintro e w' ⟨r, rfl, hr0, hr1, rfl⟩))
  all_goals (go_ret; exact ⟨_, rfl, by omega, by omega, HC.out, HK.out⟩)
end Go.Proofs.YtjapohefiggbaaaGreatDoor
