/- Rounding ends, and gives a pattern of 64 bits. -/
import Derived.Test.YtjapohefiggbaaaGreatDoorNumA
import Derived.Deep.DeepCutAuto
import Derived.Deep.CutBlock
namespace Go.Proofs.YtjapohefiggbaaaGreatDoor
open Go.RowKit

/-- A pattern of 64 bits. -/
def U64 (x : Int) : Prop := 0 ≤ x ∧ x ≤ 18446744073709551615

/-- A pattern comes back. -/
def RetU (w : World) (e : Ending) (w' : World) : Prop := ∃ r : Int, e = .returned (.int .u64 r) ∧ 0 ≤ r ∧ r ≤ 18446744073709551615 ∧ w = w'

theorem wrapU_bd (x : Int) : 0 ≤ IntKind.u64.wrap x ∧ IntKind.u64.wrap x ≤ 18446744073709551615 := by rw [IntKind.wrap_u64]; omega

set_option maxHeartbeats 400000 in
theorem l03Sign_calls (x : Int) (b : Bool) (w : World) (h0 : 0 ≤ x) (h1 : x ≤ 18446744073709551615) :
    Calls Tryz.prog 92 #[.int .u64 x, .bool b] w (RetU w) := by
  cases b
  · go_enter Tryz.func92, Tryz.ntmps92
    go_wp2_with fail
    go_ret
    exact ⟨_, rfl, h0, h1, rfl⟩
  · go_enter Tryz.func92, Tryz.ntmps92
    go_wp2_with (go_at_call 64; refine (l03Pow_calls _ _ (by omega) (by omega)).mono ?_; rintro e w' ⟨rfl, rfl⟩)
    go_ret
    exact ⟨_, rfl, (wrapU_bd _).1, (wrapU_bd _).2, rfl⟩

theorem log2_half (m : Nat) (h : 2 ≤ m) : m.log2 = (m / 2).log2 + 1 := by
  rw [Nat.log2_def m, if_pos h]
theorem log2_le63 (m : Nat) (h : m ≤ 18446744073709551615) : m.log2 ≤ 63 := by
  by_cases h0 : m = 0
  · subst h0; simp
  · have := (Nat.log2_lt (k := 64) h0).2 (by omega); omega

/-- The exponent stays far from the edges. -/
def LogOk (a b : Int) : Prop := -5000 ≤ b ∧ (b ≤ -1074 ∨ b + (a.toNat.log2 : Int) ≤ 5063)
theorem LogOk.le {a b : Int} (h : LogOk a b) : b ≤ 5063 := by unfold LogOk at h; omega
theorem LogOk.ge {a b : Int} (h : LogOk a b) : -5000 ≤ b := h.1
theorem LogOk.start {a b : Int} (h1 : a ≤ 18446744073709551615) (h2 : -5000 ≤ b) (h3 : b ≤ 5000) : LogOk a b := by
  have := log2_le63 a.toNat (by omega)
  exact ⟨h2, by omega⟩
theorem LogOk.half {a b : Int} (h : LogOk a b) (ha : a ≤ 18446744073709551615) (h1 : 9007199254740992 ≤ a ∨ b < -1074) : LogOk (a / 2) (b + 1) := by
  refine ⟨by have := h.ge; omega, ?_⟩
  by_cases hb : b < -1074
  · omega
  · have ha : 9007199254740992 ≤ a := by omega
    have h5 := log2_half a.toNat (by omega)
    have h6 := h.2
    have h7 := log2_le63 a.toNat (by omega)
    rw [show (a / 2).toNat = a.toNat / 2 from by omega]
    omega
theorem LogOk.edge (a : Int) : LogOk a (-1074) := ⟨by omega, by omega⟩

def RtIn (m e : Value) : Prop := ∃ a b : Int, m = .int .u64 a ∧ e = .int .i64 b ∧ 0 ≤ a ∧ a ≤ 18446744073709551615 ∧ -5000 ≤ b ∧ b ≤ 5000
def RtOut (m e h r : Value) : Prop := ∃ (p q : Int) (x y : Bool), m = .int .u64 p ∧ e = .int .i64 q ∧ h = .bool x ∧ r = .bool y ∧ 0 ≤ p ∧ p ≤ 18446744073709551615 ∧ LogOk p q

set_option maxRecDepth 100000 in
set_option maxHeartbeats 2000000 in
theorem RoundTo_calls (below : Bool) (m0 e0 : Int) (more : Bool) (w : World) (h0 : 0 ≤ m0) (h1 : m0 ≤ 18446744073709551615) :
    Calls Tryz.prog 91 #[.bool below, .int .u64 m0, .int .i64 e0, .bool more] w (RetU w) := by
  go_enter Tryz.func91, Tryz.ntmps91
  go_upto_if 13 with fail
  go_cut [2] (fun s wx => ∃ x : Int, s = .int .i64 x ∧ x ≤ 5000 ∧ w = wx)
  case first =>
    go_wp2_with fail
    all_goals (go_meet; exact ⟨_, rfl, by omega, rfl⟩)
  case rest =>
    obtain ⟨e1, rfl, he1, rfl⟩ := hcut
    go_upto_if 15 with fail
    go_cut [2] (fun s wx => ∃ x : Int, s = .int .i64 x ∧ -5000 ≤ x ∧ x ≤ 5000 ∧ w = wx)
    case first =>
      go_wp2_with fail
      all_goals (go_meet; exact ⟨_, rfl, by omega, by omega, rfl⟩)
    case rest =>
      obtain ⟨e2, rfl, he2, he3, rfl⟩ := hcut
      go_upto_region 5 with fail
      go_cut [3, 9] (fun m s wx => ∃ x y : Bool, m = .bool x ∧ s = .bool y ∧ w = wx)
      case first =>
        go_wp2_with (go_at_call 64; refine (l03Pow_calls _ _ (by omega) (by omega)).mono ?_; rintro e w' ⟨rfl, rfl⟩)
        all_goals (go_meet; exact ⟨_, _, rfl, rfl, rfl⟩)
      case rest =>
        obtain ⟨mo, st, rfl, rfl, rfl⟩ := hcut
        by_cases hz0 : m0 = 0
        · subst hz0
          go_wp2_with (go_at_call 92; refine (l03Sign_calls _ _ _ (by omega) (by omega)).mono ?_; rintro e w' ⟨r, rfl, hr0, hr1, rfl⟩)
          go_ret
          exact ⟨_, rfl, hr0, hr1, rfl⟩
        have hz : (m0 == 0) = false := by simpa using hz0
        clear hz0
        go_upto_block 0 with (go_at_call 92; refine (l03Sign_calls _ _ _ (by omega) (by omega)).mono ?_; rintro e w' ⟨r, rfl, hr0, hr1, rfl⟩)
        go_cut [1, 2] (fun m e wx => RtIn m e ∧ w = wx)
        case first =>
          go_wp2_with fail
          go_loop [1, 2] RtIn (fun _ e => ((intOf e) + 5000).toNat)
          case atStart => exact ⟨_, _, rfl, rfl, h0, h1, he2, he3⟩
          case round =>
            obtain ⟨a, b, rfl, rfl, ha0, ha1, hb0, hb1⟩ := hrel
            by_cases hc : a < 4503599627370496 ∧ -1074 < b
            · obtain ⟨hc1, hc2⟩ := hc
              go_wp2_with fail
              go_round
              case rel => exact ⟨_, _, rfl, rfl, by omega, by omega, by omega, by omega⟩
              case measure => simp [intOf]; omega
            · go_wp2_with fail
              all_goals first
                | (exfalso; omega)
                | (go_meet; exact ⟨⟨_, _, rfl, rfl, ha0, ha1, hb0, hb1⟩, rfl⟩)
        case rest =>
          obtain ⟨⟨a, b, rfl, rfl, ha0, ha1, hb0, hb1⟩, rfl⟩ := hcut
          go_wp2_with fail
          go_loop [1, 2, 10, 11] RtOut (fun m e _ _ => (intOf m).toNat + (-1074 - intOf e).toNat)
          case atStart => exact ⟨a, b, _, _, rfl, rfl, rfl, rfl, ha0, ha1, .start ha1 hb0 hb1⟩
          case round =>
            obtain ⟨p, q, x, y, rfl, rfl, rfl, rfl, hp0, hp1, hl⟩ := hrel
            have hq0 := hl.ge
            have hq1 := hl.le
            have HL := Lib.hid hl
            clear hl hb0 hb1 ha0 ha1 he2 he3
            by_cases hc1 : 9007199254740992 ≤ p
            · cases y <;> cases x
              all_goals
                go_wp2_with fail
                go_round
                case rel => exact ⟨_, _, _, _, rfl, rfl, rfl, rfl, by omega, by omega, HL.out.half hp1 (.inl hc1)⟩
                case measure => simp [intOf]; omega
            · by_cases hc2 : q < -1074
              · cases y <;> cases x
                all_goals
                  go_wp2_with fail
                  all_goals
                    go_round
                    case rel => exact ⟨_, _, _, _, rfl, rfl, rfl, rfl, by omega, by omega, by first | exact HL.out.half hp1 (.inr hc2) | exact LogOk.edge _ | exact Eq.mp (congrArg (fun t => LogOk t (q + 1)) (by assumption)) (HL.out.half hp1 (.inr hc2))⟩
                    case measure => simp [intOf]; omega
              · cases y <;> cases x
                all_goals
                  go_wp2_with (go_at_call 92; refine (l03Sign_calls _ _ _ (by first | omega | exact (wrapU_bd _).1) (by first | omega | exact (wrapU_bd _).2)).mono ?_; rintro e w' ⟨r, rfl, hr0, hr1, rfl⟩)
                  all_goals (go_ret; exact ⟨_, rfl, hr0, hr1, rfl⟩)
end Go.Proofs.YtjapohefiggbaaaGreatDoor
