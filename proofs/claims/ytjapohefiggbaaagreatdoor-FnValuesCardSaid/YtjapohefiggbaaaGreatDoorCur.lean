/- The cursor over the bytes of a draw: it is kept right, and gives a number in its bounds. -/
import Derived.Test.YtjapohefiggbaaaGreatDoorProg
import Derived.Test.YtjapohefiggbaaaGreatDoorMem
import Derived.WalkSpells
import Derived.WalkLawsBesides
namespace Go.Proofs.YtjapohefiggbaaaGreatDoor
open Go.RowKit

/-- The bytes that a cursor reads. -/
def Bytes (w : World) (g : Nat) (A : Option Addr) (n : Nat) : Prop :=
  ∀ j, j < n → ∃ b o x, A = some ⟨b, o, none⟩ ∧ b < g ∧ w.cell? ⟨b, o + j, none⟩ = some (.int .u8 x) ∧ 0 ≤ x ∧ x ≤ 255

theorem Bytes.keep {w w' : World} {g : Nat} {A : Option Addr} {n : Nat} {O : List Nat} (h : Bytes w g A n) (hk : Keep O w w') (hO : ∀ k ∈ O, g ≤ k) : Bytes w' g A n := by
  intro j hj
  obtain ⟨b, o, x, e, hb, hx, hx0⟩ := h j hj
  exact ⟨b, o, x, e, hb, hk.cell hx (fun hm => by have := hO _ hm; simp at this; omega), hx0⟩

/-- The cursor's block. -/
def Cur (w : World) (g : Nat) : Prop := ∃ (A : Option Addr) (n c : Nat) (i h : Int),
  w.heap[g]? = some (.cells #[.slice A n c, .int .i64 i, .int .i64 h] 88 (0, 0)) ∧ 0 ≤ i ∧ i ≤ n ∧ n ≤ 1099511627776 ∧ Bytes w g A n

theorem Cur.keep {w w' : World} {g : Nat} {O : List Nat} (hc : Cur w g) (hk : Keep O w w') (hO : ∀ k ∈ O, g < k) : Cur w' g := by
  obtain ⟨A, n, c, i, h, hb, hi, hin, hn, hr⟩ := hc
  exact ⟨A, n, c, i, h, hk.heap hb (fun hm => by have := hO _ hm; omega), hi, hin, hn, hr.keep hk (fun k hm => Nat.le_of_lt (hO k hm))⟩
theorem Cur.lt {w : World} {g : Nat} (hc : Cur w g) : g < w.heap.size := by
  obtain ⟨A, n, c, i, h, hb, _⟩ := hc
  exact blk_lt hb

theorem and255 (x : Int) : 0 ≤ Go.bits .and .i64 x 255 ∧ Go.bits .and .i64 x 255 ≤ 255 := by
  have h : Go.bits .and .i64 x 255 = (((BitVec.ofInt 64 x).toNat % 256 : Nat) : Int) := by
    show IntKind.i64.wrap _ = _
    have e : (BitVec.ofInt IntKind.i64.bits x &&& BitVec.ofInt IntKind.i64.bits 255).toNat = (BitVec.ofInt 64 x).toNat % 256 := by
      show (BitVec.ofInt 64 x &&& BitVec.ofInt 64 255).toNat = _
      rw [BitVec.toNat_and]
      exact Nat.and_two_pow_sub_one_eq_mod _ 8
    rw [e, IntWalk.i64_in _ (by omega)]
  rw [h]; omega

set_option maxHeartbeats 1000000 in
theorem l01Byte_calls (g : Nat) (w : World) (hc : Cur w g) :
    Calls Tryz.prog 112 #[.pointer (some ⟨g, 0, none⟩)] w fun e w' => ∃ x : Int, e = .returned (.int .i64 x) ∧ (0 ≤ x ∧ x ≤ 255) ∧ Cur w' g ∧ Keep [g] w w' := by
  obtain ⟨A, n, c, i, h, hb, hi, hin, hn, hr⟩ := hc
  have c0 : w.cell? ⟨g, 0, none⟩ = some (.slice A n c) := cell_blk hb 0
  have c1 : w.cell? ⟨g, 1, none⟩ = some (.int .i64 i) := cell_blk hb 1
  have c2 : w.cell? ⟨g, 2, none⟩ = some (.int .i64 h) := cell_blk hb 2
  have f1 := frozen_blk hb 1
  have f2 := frozen_blk hb 2
  have HB := Lib.hid hb
  have HR := Lib.hid hr
  clear hb hr
  by_cases hlt : i < (n : Int)
  · obtain ⟨j, rfl⟩ : ∃ j : Nat, i = j := ⟨i.toNat, by omega⟩
    obtain ⟨b, o, x, rfl, hbg, hx, hx0, hx1⟩ := HR.out j (by omega)
    have hne : b ≠ g := by omega
    go_enter Tryz.func112, Tryz.ntmps112
    go_wp2
    go_quiet (fail)
    go_wp2
    go_quiet (fail)
    go_wp2
    go_quiet (fail)
    go_wp2
    go_ret
    refine ⟨_, rfl, and255 _, ?_, by repeat (first | exact Keep.refl _ _ | apply Keep.drewN | refine Keep.setCell ?_ (by simp) _)⟩
    refine ⟨_, n, c, (j : Int) + 1, _, heap_set (heap_set HB.out 2 _) 1 _, by omega, by omega, hn, HR.out.keep (O := [g]) (w := w) (by repeat (first | exact Keep.refl _ _ | apply Keep.drewN | refine Keep.setCell ?_ (by simp) _)) (by simp)⟩
  · have hlt' : decide (i < (n : Int)) = false := by simpa using hlt
    go_enter Tryz.func112, Tryz.ntmps112
    go_wp2
    go_quiet (fail)
    go_wp2
    go_quiet (fail)
    go_wp2
    go_ret
    refine ⟨_, rfl, and255 _, ?_, by repeat (first | exact Keep.refl _ _ | apply Keep.drewN | refine Keep.setCell ?_ (by simp) _)⟩
    refine ⟨_, n, c, i, _, heap_set HB.out 2 _, by omega, by omega, hn, HR.out.keep (O := [g]) (w := w) (by repeat (first | exact Keep.refl _ _ | apply Keep.drewN | refine Keep.setCell ?_ (by simp) _)) (by simp)⟩

set_option maxHeartbeats 1000000 in
theorem l01Below_calls (g : Nat) (n : Int) (w : World) (hn : n ≤ 4294967296) (hc : Cur w g) :
    Calls Tryz.prog 69 #[.pointer (some ⟨g, 0, none⟩), .int .i64 n] w fun e w' => ∃ x : Int, e = .returned (.int .i64 x) ∧ 0 ≤ x ∧ (0 < n → x < n) ∧ (n ≤ 0 → x = 0) ∧ Cur w' g ∧ Keep [g] w w' := by
  have HC := Lib.hid hc
  clear hc
  by_cases h0 : n ≤ 0
  · go_enter Tryz.func69, Tryz.ntmps69
    go_wp2_with fail
    go_ret
    exact ⟨0, rfl, by omega, by omega, by omega, HC.out, Keep.refl _ _⟩
  · by_cases h1 : n ≤ 256
    · go_enter Tryz.func69, Tryz.ntmps69
      go_wp2_with fail
      refine (l01Byte_calls g w HC.out).mono ?_
      rintro e w1 ⟨x, rfl, ⟨hx0, hx1⟩, hc1, hk1⟩
      have HC1 := Lib.hid hc1
      have HK1 := Lib.hid hk1
      clear hc1 hk1
      go_wp2_with fail
      go_ret
      exact ⟨x % n, rfl, Int.emod_nonneg _ (by omega), fun _ => Int.emod_lt_of_pos _ (by omega), by omega, HC1.out, HK1.out⟩
    · go_enter Tryz.func69, Tryz.ntmps69
      go_wp2_with fail
      refine (l01Byte_calls g w HC.out).mono ?_
      rintro e w1 ⟨x, rfl, ⟨hx0, hx1⟩, hc1, hk1⟩
      have HC1 := Lib.hid hc1
      have HK1 := Lib.hid hk1
      clear hc1 hk1
      go_wp2_with fail
      refine (l01Byte_calls g w1 HC1.out).mono ?_
      rintro e w2 ⟨y, rfl, ⟨hy0, hy1⟩, hc2, hk2⟩
      have HC2 := Lib.hid hc2
      have HK2 := Lib.hid (HK1.out.trans' hk2)
      clear hc2 hk2
      go_wp2_with fail
      refine (l01Byte_calls g w2 HC2.out).mono ?_
      rintro e w3 ⟨z, rfl, ⟨hz0, hz1⟩, hc3, hk3⟩
      have HC3 := Lib.hid hc3
      have HK3 := Lib.hid (HK2.out.trans' hk3)
      clear hc3 hk3
      go_wp2_with fail
      refine (l01Byte_calls g w3 HC3.out).mono ?_
      rintro e w4 ⟨u, rfl, ⟨hu0, hu1⟩, hc4, hk4⟩
      have HC4 := Lib.hid hc4
      have HK4 := Lib.hid (HK3.out.trans' hk4)
      clear hc4 hk4
      go_wp2_with fail
      go_ret
      exact ⟨_, rfl, Int.emod_nonneg _ (by omega), fun _ => Int.emod_lt_of_pos _ (by omega), by omega, HC4.out, HK4.out⟩

theorem l01Once_calls (g : Nat) (n : Int) (w : World) (hn : n ≤ 4294967296) (hc : Cur w g) :
    Calls Tryz.prog 70 #[.pointer (some ⟨g, 0, none⟩), .int .i64 n] w fun e w' => ∃ x : Bool, e = .returned (.bool x) ∧ Cur w' g ∧ Keep [g] w w' := by
  have HC := Lib.hid hc
  clear hc
  go_enter Tryz.func70, Tryz.ntmps70
  go_wp2_with fail
  refine (l01Below_calls g n w hn HC.out).mono ?_
  rintro e w1 ⟨x, rfl, _, _, _, hc1, hk1⟩
  have HC1 := Lib.hid hc1
  have HK1 := Lib.hid hk1
  clear hc1 hk1
  go_wp2_with fail
  go_ret
  exact ⟨_, rfl, HC1.out, HK1.out⟩

set_option maxRecDepth 100000 in
theorem l01New_calls (A : Option Addr) (n c : Nat) (w : World) (hn : n ≤ 1099511627776) (hr : Bytes w w.heap.size A n) :
    Calls Tryz.prog 25 #[.slice A n c] w fun e w' => ∃ g, e = .returned (.pointer (some ⟨g, 0, none⟩)) ∧ Cur w' g ∧ w.heap.size ≤ g ∧ Keep [] w w' := by
  have HR := Lib.hid hr
  clear hr
  go_enter Tryz.func25, Tryz.ntmps25
  go_wp2_with fail
  go_loop [3, 4] (fun h i => ∃ k : Nat, k ≤ n ∧ k ≤ 4000 ∧ i = .int .i64 k ∧ ∃ x : Int, h = .int .i64 x) (fun _ i => n - (intOf i).toNat)
  case atStart => exact ⟨0, by omega, by omega, rfl, _, rfl⟩
  case round =>
    obtain ⟨k, hk, hk4, rfl, x, rfl⟩ := hrel
    by_cases h1 : k < n ∧ k < 4000
    · obtain ⟨h1, h2⟩ := h1
      obtain ⟨b, o, y, rfl, hb, hy, hy0, hy1⟩ := HR.out k h1
      go_wp2_with fail
      all_goals first
        | (go_round
           case rel => exact ⟨k + 1, by omega, by omega, by go_num, _, rfl⟩
           case measure => simp [intOf]; omega)
        | (exfalso; omega)
    · go_wp2_with fail
      all_goals first
        | (exfalso; omega)
        | (go_ret
           exact ⟨_, rfl, ⟨A, n, c, 0, x, heap_new _ _, by omega, by omega, hn, HR.out.keep (O := []) ((Keep.refl _ _).alloc _) (by simp)⟩, Nat.le_refl _, (Keep.refl _ _).alloc _⟩)

/-- A string of a list of strings. -/
def Strs (w : World) (A : Option Addr) (n m : Nat) : Prop := ∀ j, j < n → ∃ b o s, A = some ⟨b, o, none⟩ ∧ w.cell? ⟨b, o + j, none⟩ = some (.string s) ∧ s.size ≤ m

set_option maxHeartbeats 1000000 in
theorem l01Pick_calls (g : Nat) (A : Option Addr) (n c m : Nat) (w : World) (hn : n ≤ 256) (h0 : 0 < n) (hc : Cur w g) (hs : Strs w A n m) (hA : ∀ b o, A = some ⟨b, o, none⟩ → b ≠ g) :
    Calls Tryz.prog 105 #[.pointer (some ⟨g, 0, none⟩), .slice A n c] w fun e w' => ∃ s, e = .returned (.string s) ∧ s.size ≤ m ∧ Cur w' g ∧ Keep [g] w w' := by
  have HC := Lib.hid hc
  have HS := Lib.hid hs
  have HA := Lib.hid hA
  clear hc hs hA
  go_enter Tryz.func105, Tryz.ntmps105
  go_wp2_with fail
  refine (l01Below_calls g n w (by omega) HC.out).mono ?_
  rintro e w1 ⟨x, rfl, hx0, hx1, _, hc1, hk1⟩
  have hlt := hx1 (by omega)
  obtain ⟨j, rfl⟩ : ∃ j : Nat, x = j := ⟨x.toNat, by omega⟩
  obtain ⟨b, o, s, rfl, hb, hsz⟩ := HS.out j (by omega)
  have hb1 := hk1.cell hb (by simpa using HA.out b o rfl)
  have HC1 := Lib.hid hc1
  have HK1 := Lib.hid hk1
  clear hc1 hk1 hb hx1
  go_wp2_with fail
  go_ret
  exact ⟨s, rfl, hsz, HC1.out, HK1.out⟩

/-- A list of whole numbers. -/
def Ints (w : World) (A : Option Addr) (n : Nat) (P : Int → Prop) : Prop := ∀ j, j < n → ∃ b o x, A = some ⟨b, o, none⟩ ∧ w.cell? ⟨b, o + j, none⟩ = some (.int .i64 x) ∧ P x

end Go.Proofs.YtjapohefiggbaaaGreatDoor
