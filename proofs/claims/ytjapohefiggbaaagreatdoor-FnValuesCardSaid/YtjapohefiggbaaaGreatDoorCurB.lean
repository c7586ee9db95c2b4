/- A whole number is drawn out of a list. -/
import Derived.Test.YtjapohefiggbaaaGreatDoorCur
namespace Go.Proofs.YtjapohefiggbaaaGreatDoor
open Go.RowKit

set_option maxHeartbeats 1000000 in
theorem l01PickInt_calls (g : Nat) (A : Option Addr) (n c : Nat) (P : Int → Prop) (w : World) (hn : n ≤ 256) (h0 : 0 < n) (hc : Cur w g) (hs : Ints w A n P) (hA : ∀ b o, A = some ⟨b, o, none⟩ → b ≠ g) :
    Calls Tryz.prog 83 #[.pointer (some ⟨g, 0, none⟩), .slice A n c] w fun e w' => ∃ x, e = .returned (.int .i64 x) ∧ P x ∧ Cur w' g ∧ Keep [g] w w' := by
  have HC := Lib.hid hc
  have HS := Lib.hid hs
  have HA := Lib.hid hA
  clear hc hs hA
  go_enter Tryz.func83, Tryz.ntmps83
  go_wp2_with fail
  refine (l01Below_calls g n w (by omega) HC.out).mono ?_
  rintro e w1 ⟨x, rfl, hx0, hx1, _, hc1, hk1⟩
  have hlt := hx1 (by omega)
  obtain ⟨j, rfl⟩ : ∃ j : Nat, x = j := ⟨x.toNat, by omega⟩
  obtain ⟨b, o, s, rfl, hb, hsz⟩ := HS.out j (by omega)
  have hb1 := hk1.cell hb (by simpa using HA.out b o rfl)
  have HC1 := Lib.hid hc1
  have HK1 := Lib.hid hk1
  have HP := Lib.hid hsz
  clear hc1 hk1 hb hx1 hsz
  go_wp2_with fail
  go_ret
  exact ⟨s, rfl, HP.out, HC1.out, HK1.out⟩
end Go.Proofs.YtjapohefiggbaaaGreatDoor
