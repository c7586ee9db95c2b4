/- Two values and an op are drawn. -/
import Derived.Test.YtjapohefiggbaaaGreatDoorDrawC
namespace Go.Proofs.YtjapohefiggbaaaGreatDoor
open Go.RowKit

/-- Blocks of values of the call's own, beside the cursor. -/
structure VL (g : Nat) (bs : List Nat) (w0 w : World) : Prop where
  cur : Cur w g
  keep : Keep [g] w0 w
  lg : g < w0.heap.size
  v : ∀ b ∈ bs, VB w b ∧ w0.heap.size ≤ b

namespace VL
variable {g : Nat} {bs : List Nat} {w0 w w' : World}
theorem step (h : VL g bs w0 w) (hc : Cur w' g) (hk : Keep [g] w w') : VL g bs w0 w' :=
  ⟨hc, h.keep.trans' hk, h.lg, fun b hb => by
    obtain ⟨⟨k, n, t, r, hh, hr⟩, hl⟩ := h.v b hb
    have := h.lg
    exact ⟨⟨k, n, t, r, hk.heap hh (by simp; omega), hr⟩, hl⟩⟩
theorem alloc (h : VL g bs w0 w) (o : Obj) : VL g bs w0 (w.alloc o) := h.step (h.cur.keep ((Keep.refl [] _).alloc _) (by simp)) ((Keep.refl _ _).alloc _)
theorem drewN (h : VL g bs w0 w) (m : Nat) : VL g bs w0 (w.drewN m) := h.step (h.cur.keep ((Keep.refl [] _).drewN _) (by simp)) ((Keep.refl _ _).drewN _)
theorem drew (h : VL g bs w0 w) : VL g bs w0 w.drew := h.step (h.cur.keep ((Keep.refl [] _).drew) (by simp)) ((Keep.refl _ _).drew)
theorem new (h : VL g bs w0 w) (k n : Int) (t : ByteArray) (r : Int) (h0 : 0 ≤ n) (h1 : n ≤ 18446744073709551615) (ht : t.size ≤ 5000) :
    VL g (w.heap.size :: bs) w0 (w.alloc (.cells #[.int .i64 k, .int .u64 n, .string t, .int .i64 r] 44)) := by
  have := h.alloc (.cells #[.int .i64 k, .int .u64 n, .string t, .int .i64 r] 44)
  refine ⟨this.cur, this.keep, h.lg, fun b hb => ?_⟩
  rcases List.mem_cons.1 hb with rfl | hb
  · exact ⟨⟨k, n, t, r, heap_new _ _, h0, h1, ht⟩, h.keep.size⟩
  · exact this.v b hb
theorem cells (h : VL g bs w0 w) {b : Nat} (hb : b ∈ bs) : ∃ (k n : Int) (t : ByteArray) (r : Int), w.cell? ⟨b, 0, none⟩ = some (.int .i64 k) ∧ w.cell? ⟨b, 1, none⟩ = some (.int .u64 n) ∧ w.cell? ⟨b, 2, none⟩ = some (.string t) ∧ w.cell? ⟨b, 3, none⟩ = some (.int .i64 r) ∧ 0 ≤ n ∧ n ≤ 18446744073709551615 ∧ t.size ≤ 5000 := by
  obtain ⟨⟨k, n, t, r, hh, hr⟩, _⟩ := h.v b hb
  exact ⟨k, n, t, r, cell_blk hh 0, cell_blk hh 1, cell_blk hh 2, cell_blk hh 3, hr⟩
theorem frozen (h : VL g bs w0 w) {b : Nat} (hb : b ∈ bs) (i : Nat) : w.frozen? ⟨b, i, none⟩ = false := by
  obtain ⟨⟨k, n, t, r, hh, hr⟩, _⟩ := h.v b hb
  exact frozen_blk hh i
theorem store (h : VL g bs w0 w) {b : Nat} (hb : b ∈ bs) (k n : Int) (t : ByteArray) (r : Int) (h0 : 0 ≤ n) (h1 : n ≤ 18446744073709551615) (ht : t.size ≤ 5000) :
    VL g bs w0 ((((w.setCell ⟨b, 0, none⟩ (.int .i64 k)).setCell ⟨b, 1, none⟩ (.int .u64 n)).setCell ⟨b, 2, none⟩ (.string t)).setCell ⟨b, 3, none⟩ (.int .i64 r)) := by
  have hl := (h.v b hb).2
  have := h.lg
  refine ⟨h.cur.keep (O := [b]) (((((Keep.refl _ _).setCell (by simp) _).setCell (by simp) _).setCell (by simp) _).setCell (by simp) _) (by simp; omega),
    (((h.keep.setCell (.inr hl) _).setCell (.inr hl) _).setCell (.inr hl) _).setCell (.inr hl) _, h.lg, fun b' hb' => ?_⟩
  obtain ⟨⟨k', n', t', r', hh, hr⟩, hl'⟩ := h.v b' hb'
  refine ⟨?_, hl'⟩
  by_cases e : b' = b
  · subst e
    exact ⟨k, n, t, r, heap_set (heap_set (heap_set (heap_set hh 0 _) 1 _) 2 _) 3 _, h0, h1, ht⟩
  · exact ⟨k', n', t', r', heap_set_far (heap_set_far (heap_set_far (heap_set_far hh e 0 _) e 1 _) e 2 _) e 3 _, hr⟩
end VL

/-- Two values come back, and the cursor is kept. -/
def RetVV (g : Nat) (w : World) (e : Ending) (w' : World) : Prop := ∃ (k n : Int) (t : ByteArray) (r : Int) (k' n' : Int) (t' : ByteArray) (r' : Int),
  e = .returned (.tuple #[.agg #[.int .i64 k, .int .u64 n, .string t, .int .i64 r], .agg #[.int .i64 k', .int .u64 n', .string t', .int .i64 r']]) ∧
  (0 ≤ n ∧ n ≤ 18446744073709551615 ∧ t.size ≤ 5000) ∧ (0 ≤ n' ∧ n' ≤ 18446744073709551615 ∧ t'.size ≤ 5000) ∧ Cur w' g ∧ Keep [g] w w'

theorem zero_ok : (0 : Int) ≤ 0 ∧ (0 : Int) ≤ 18446744073709551615 ∧ (⟨#[]⟩ : ByteArray).size ≤ 5000 := ⟨by omega, by omega, by decide⟩

theorem l17Number_calls (x : Int) (w : World) :
    Calls Tryz.prog 53 #[.int .u64 x] w fun e w' => e = .returned (.agg #[.int .i64 2, .int .u64 x, .string ⟨#[]⟩, .int .i64 0]) ∧ Keep [] w w' := by
  go_enter Tryz.func53, Tryz.ntmps53
  go_wp2_with fail
  exact bodyPost_ret (v := .agg #[.int .i64 2, .int .u64 x, .string ⟨#[]⟩, .int .i64 0]) (by simp [results, Tryz.results53, go_sem]) rfl ⟨rfl, by repeat (first | exact Keep.refl _ _ | refine Keep.setCell ?_ (by simp) _ | refine Keep.alloc ?_ _)⟩

attribute [local go_sem ↓] Go.wp_at_zero Go.wp_at_succ
set_option maxRecDepth 100000 in
set_option maxHeartbeats 2000000 in
theorem l17Two_calls (g : Nat) (w : World) (hc : Cur w g) :
    Calls Tryz.prog 38 #[.pointer (some ⟨g, 0, none⟩)] w (RetVV g w) := by
  have hg := hc.lt
  have h0 : VL g [] w w := ⟨hc, Keep.refl _ _, hg, fun b hb => by cases hb⟩
  have h1 := (h0.new 0 0 ⟨#[]⟩ 0 zero_ok.1 zero_ok.2.1 zero_ok.2.2).new 0 0 ⟨#[]⟩ 0 zero_ok.1 zero_ok.2.1 zero_ok.2.2
  have HS := Lib.hid h1
  clear hc h0 h1
  go_enter Tryz.func38, Tryz.ntmps38
  go_wp2_with fail
  (with_reducible refine (l17Value_calls g _ HS.out.cur).mono ?_)
  rintro e w1 ⟨k, n, t, r, rfl, hn0, hn1, ht, hc1, hk1⟩
  have hz1 := hk1.size
  simp at hz1
  replace HS := Lib.hid ((HS.out.step hc1 hk1).new k n t r hn0 hn1 ht)
  clear hc1 hk1
  go_wp2_with fail
  (with_reducible refine (l17Value_calls g _ HS.out.cur).mono ?_)
  rintro e w2 ⟨k', n', t', r', rfl, hn0', hn1', ht', hc2, hk2⟩
  have hz2 := hk2.size
  simp at hz2
  replace HS := Lib.hid ((HS.out.step hc2 hk2).new k' n' t' r' hn0' hn1' ht')
  clear hc2 hk2
  go_wp2_with fail
  (with_reducible refine (l01Below_calls g _ _ (by omega) HS.out.cur).mono ?_)
  rintro e w3 ⟨x, rfl, hx0, hx1, -, hc3, hk3⟩
  replace hx1 := hx1 (by omega)
  have hz3 := hk3.size
  simp at hz3
  replace HS := Lib.hid (HS.out.step hc3 hk3)
  clear hc3 hk3 hx1
  simp only [World.size_alloc] at HS
  generalize w1.heap.size = b4 at *
  generalize w2.heap.size = b5 at *
  generalize w.heap.size = b2 at *
  have n1 : b2 ≠ b2 + 1 := by omega
  have n2 : b2 ≠ b4 := by omega
  have n3 : b2 ≠ b5 := by omega
  have n4 : b2 + 1 ≠ b4 := by omega
  have n5 : b2 + 1 ≠ b5 := by omega
  have n6 : b4 ≠ b5 := by omega
  go_upto_block 0 with fail
  go_cut [12] (fun _ wx => VL g [b5, b4, b2 + 1, b2] w wx)
  case first =>
    by_cases h0 : x = 0
    · subst h0
      obtain ⟨p0, p1, p2, p3, a0, a1, a2, a3, hp⟩ := HS.out.cells (b := b4) (by simp)
      obtain ⟨_, _, _, _, d0, d1, d2, d3, -⟩ := HS.out.cells (b := b5) (by simp)
      have e0 := HS.out.frozen (b := b5) (by simp) 0
      have e1 := HS.out.frozen (b := b5) (by simp) 1
      have e2 := HS.out.frozen (b := b5) (by simp) 2
      have e3 := HS.out.frozen (b := b5) (by simp) 3
      go_wp2_with fail
      go_meet
      exact HS.out.store (b := b5) (by simp) p0 p1 p2 p3 hp.1 hp.2.1 hp.2.2
    by_cases h1 : x = 1
    · subst h1
      go_wp2_with fail
      (with_reducible refine (l03Number_calls g _ HS.out.cur).mono ?_)
      rintro e w4 ⟨y, rfl, hy0, hy1, hc4, hk4⟩
      replace HS := Lib.hid (HS.out.step hc4 hk4)
      clear hc4 hk4
      go_wp2_with fail
      (with_reducible refine (l17Number_calls _ _).mono ?_)
      rintro e w5 ⟨rfl, hk5⟩
      replace HS := Lib.hid (HS.out.step (HS.out.cur.keep hk5 (by simp)) (hk5.mono (by simp)))
      clear hk5
      obtain ⟨_, _, _, _, a0, a1, a2, a3, -⟩ := HS.out.cells (b := b4) (by simp)
      have e0 := HS.out.frozen (b := b4) (by simp) 0
      have e1 := HS.out.frozen (b := b4) (by simp) 1
      have e2 := HS.out.frozen (b := b4) (by simp) 2
      have e3 := HS.out.frozen (b := b4) (by simp) 3
      go_wp2_with fail
      replace HS := Lib.hid (HS.out.store (b := b4) (by simp) 2 y ⟨#[]⟩ 0 hy0 hy1 (by decide))
      (with_reducible refine (l03Number_calls g _ HS.out.cur).mono ?_)
      rintro e w6 ⟨z, rfl, hz0, hz1, hc6, hk6⟩
      replace HS := Lib.hid (HS.out.step hc6 hk6)
      clear hc6 hk6 a0 a1 a2 a3 e0 e1 e2 e3
      go_wp2_with fail
      (with_reducible refine (l17Number_calls _ _).mono ?_)
      rintro e w7 ⟨rfl, hk7⟩
      replace HS := Lib.hid (HS.out.step (HS.out.cur.keep hk7 (by simp)) (hk7.mono (by simp)))
      clear hk7
      obtain ⟨_, _, _, _, a0, a1, a2, a3, -⟩ := HS.out.cells (b := b5) (by simp)
      have e0 := HS.out.frozen (b := b5) (by simp) 0
      have e1 := HS.out.frozen (b := b5) (by simp) 1
      have e2 := HS.out.frozen (b := b5) (by simp) 2
      have e3 := HS.out.frozen (b := b5) (by simp) 3
      go_wp2_with fail
      go_meet
      exact HS.out.store (b := b5) (by simp) 2 z ⟨#[]⟩ 0 hz0 hz1 (by decide)
    · go_wp2_with fail
      go_meet
      exact HS.out
  case rest =>
    have HS := Lib.hid hcut
    clear hcut
    obtain ⟨p0, p1, p2, p3, a0, a1, a2, a3, hp⟩ := HS.out.cells (b := b4) (by simp)
    obtain ⟨q0, q1, q2, q3, d0, d1, d2, d3, hq⟩ := HS.out.cells (b := b5) (by simp)
    obtain ⟨_, _, _, _, u0, u1, u2, u3, -⟩ := HS.out.cells (b := b2) (by simp)
    obtain ⟨_, _, _, _, v0, v1, v2, v3, -⟩ := HS.out.cells (b := b2 + 1) (by simp)
    have e0 := HS.out.frozen (b := b2) (by simp) 0
    have e1 := HS.out.frozen (b := b2) (by simp) 1
    have e2 := HS.out.frozen (b := b2) (by simp) 2
    have e3 := HS.out.frozen (b := b2) (by simp) 3
    have f0 := HS.out.frozen (b := b2 + 1) (by simp) 0
    have f1 := HS.out.frozen (b := b2 + 1) (by simp) 1
    have f2 := HS.out.frozen (b := b2 + 1) (by simp) 2
    have f3 := HS.out.frozen (b := b2 + 1) (by simp) 3
    have HP := Lib.hid hp
    have HQ := Lib.hid hq
    clear hp hq hn0 hn1 ht hn0' hn1' ht' hx0
    go_wp2_with fail
    go_region
    all_goals go_wp2_with fail
    all_goals
      refine bodyPost_ret (v := .tuple #[.agg #[.int .i64 p0, .int .u64 p1, .string p2, .int .i64 p3], .agg #[.int .i64 q0, .int .u64 q1, .string q2, .int .i64 q3]]) (by simp only [results, Tryz.results38]; simp [go_sem, *]) rfl ?_
      have HF := ((HS.out.store (b := b2) (by simp) p0 p1 p2 p3 HP.out.1 HP.out.2.1 HP.out.2.2).store (b := b2 + 1) (by simp) q0 q1 q2 q3 HQ.out.1 HQ.out.2.1 HQ.out.2.2).drew
      exact ⟨_, _, _, _, _, _, _, _, rfl, HP.out, HQ.out, HF.cur, HF.keep⟩

set_option maxRecDepth 100000 in
set_option maxHeartbeats 1000000 in
theorem l01Place_calls (g : Nat) (n : Int) (w : World) (hn : n ≤ 4294967296) (hn0 : 0 ≤ n) (hc : Cur w g) :
    Calls Tryz.prog 39 #[.pointer (some ⟨g, 0, none⟩), .int .i64 n] w fun e w' => ∃ x : Int, e = .returned (.int .i64 x) ∧ Cur w' g ∧ Keep [g] w w' := by
  have hg := hc.lt
  have HC := Lib.hid hc
  clear hc
  go_enter Tryz.func39, Tryz.ntmps39
  go_wp2_with fail
  (with_reducible refine (l01Once_calls g _ _ (by omega) HC.out).mono ?_)
  rintro e w1 ⟨x, rfl, hc1, hk1⟩
  have hg1 := hc1.lt
  have HC1 := Lib.hid hc1
  have HK1 := Lib.hid hk1
  clear hc1 hk1
  cases x
  · go_wp2_with fail
    (with_reducible refine (l01Below_calls g _ _ (by omega) HC1.out).mono ?_)
    rintro e w2 ⟨y, rfl, -, -, -, hc2, hk2⟩
    have HC2 := Lib.hid hc2
    have HK2 := Lib.hid (HK1.out.trans' hk2)
    clear hc2 hk2
    go_wp2_with fail
    go_ret
    exact ⟨_, rfl, HC2.out, HK2.out⟩
  · go_wp2_with fail
    (with_reducible refine (l01PickInt_calls g _ _ _ (fun _ => True) _ (by omega) (by omega) (HC1.out.keep ((Keep.refl [] _).alloc _) (by simp)) (by exact ints_blk (heap_new _ _) (by repeat (first | exact all_nil | refine all_cons ⟨_, rfl, trivial⟩ ?_)) 5 rfl) (by rintro b o h; simp at h; omega)).mono ?_)
    rintro e w2 ⟨y, rfl, -, hc2, hk2⟩
    have HC2 := Lib.hid hc2
    have HK2 := Lib.hid (HK1.out.trans' (((Keep.refl _ _).alloc _).trans' hk2))
    clear hc2 hk2
    go_wp2_with fail
    go_ret
    exact ⟨_, rfl, HC2.out, HK2.out⟩

theorem Bytes.mono {w : World} {g g' : Nat} {A : Option Addr} {n : Nat} (h : Bytes w g A n) (hg : g ≤ g') : Bytes w g' A n := by
  intro j hj
  obtain ⟨b, o, x, e, hb, hx⟩ := h j hj
  exact ⟨b, o, x, e, by omega, hx⟩

/-- An op and two values come back. -/
def RetOVV (w : World) (e : Ending) (w' : World) : Prop := ∃ (op : Int) (k n : Int) (t : ByteArray) (r : Int) (k' n' : Int) (t' : ByteArray) (r' : Int),
  e = .returned (.tuple #[.int .i64 op, .agg #[.int .i64 k, .int .u64 n, .string t, .int .i64 r], .agg #[.int .i64 k', .int .u64 n', .string t', .int .i64 r']]) ∧
  (0 ≤ n ∧ n ≤ 18446744073709551615 ∧ t.size ≤ 5000) ∧ (0 ≤ n' ∧ n' ≤ 18446744073709551615 ∧ t'.size ≤ 5000) ∧ Keep [] w w'

set_option maxRecDepth 100000 in
set_option maxHeartbeats 2000000 in
theorem DrawDoBinary_calls (A : Option Addr) (n c : Nat) (w : World) (hn : n ≤ 1099511627776) (hr : Bytes w w.heap.size A n) :
    Calls Tryz.prog 13 #[.slice A n c] w (RetOVV w) := by
  have HR := Lib.hid hr
  clear hr
  go_enter Tryz.func13, Tryz.ntmps13
  go_wp2_with fail
  (with_reducible refine (l01New_calls A n c _ hn (by simp only [World.size_alloc]; exact (HR.out.keep (O := []) (((Keep.refl _ _).alloc _).alloc _) (by simp)).mono (by omega))).mono ?_)
  rintro e w1 ⟨g, rfl, hc1, hg1, hk1⟩
  simp only [World.size_alloc] at hg1
  have z3 := hk1.heap (heap_alloc (heap_new w (.cells #[.int .i64 0, .int .u64 0, .string ⟨#[]⟩, .int .i64 0] 44)) _) (by simp)
  have z4 := hk1.heap (heap_new (w.alloc (.cells #[.int .i64 0, .int .u64 0, .string ⟨#[]⟩, .int .i64 0] 44)) _) (by simp)
  have hk0 := (((Keep.refl [] w).alloc _).alloc _).trans' hk1
  have h0 : VL g [] w1 w1 := ⟨hc1, Keep.refl _ _, hc1.lt, fun b hb => by cases hb⟩
  have HS := Lib.hid h0
  have HK := Lib.hid hk0
  have Z3 := Lib.hid z3
  have Z4 := Lib.hid z4
  simp only [World.size_alloc] at Z4
  clear hc1 h0 hk0 hk1 z3 z4
  go_wp2_with fail
  (with_reducible refine (l17Two_calls g _ HS.out.cur).mono ?_)
  rintro e w2 ⟨k, n1, t, r, k', n2, t', r', rfl, hp, hq, hc2, hk2⟩
  replace Z3 := Lib.hid (hk2.heap Z3.out (by simp; omega))
  replace Z4 := Lib.hid (hk2.heap Z4.out (by simp; omega))
  replace HS := Lib.hid (((HS.out.step hc2 hk2).new k n1 t r hp.1 hp.2.1 hp.2.2).new k' n2 t' r' hq.1 hq.2.1 hq.2.2)
  have s2 := blk_lt Z4.out
  have HP := Lib.hid hp
  have HQ := Lib.hid hq
  clear hc2 hk2 hp hq
  go_wp2_with fail
  have x0 := cell_blk (heap_alloc (heap_new w2 (.cells #[.int .i64 k, .int .u64 n1, .string t, .int .i64 r] 44)) (.cells #[.int .i64 k', .int .u64 n2, .string t', .int .i64 r'] 44))
  have y0 := cell_blk (heap_new (w2.alloc (.cells #[.int .i64 k, .int .u64 n1, .string t, .int .i64 r] 44)) (.cells #[.int .i64 k', .int .u64 n2, .string t', .int .i64 r'] 44))
  simp only [World.size_alloc] at y0 HS
  have hsz : ((w2.alloc (.cells #[.int .i64 k, .int .u64 n1, .string t, .int .i64 r] 44)).alloc (.cells #[.int .i64 k', .int .u64 n2, .string t', .int .i64 r'] 44)).heap.size = w2.heap.size + 2 := by simp
  replace Z3 := Lib.hid (heap_alloc (heap_alloc Z3.out (.cells #[.int .i64 k, .int .u64 n1, .string t, .int .i64 r] 44)) (.cells #[.int .i64 k', .int .u64 n2, .string t', .int .i64 r'] 44))
  replace Z4 := Lib.hid (heap_alloc (heap_alloc Z4.out (.cells #[.int .i64 k, .int .u64 n1, .string t, .int .i64 r] 44)) (.cells #[.int .i64 k', .int .u64 n2, .string t', .int .i64 r'] 44))
  generalize (w2.alloc (.cells #[.int .i64 k, .int .u64 n1, .string t, .int .i64 r] 44)).alloc (.cells #[.int .i64 k', .int .u64 n2, .string t', .int .i64 r'] 44) = W at *
  generalize w2.heap.size = b6 at *
  generalize hb7 : b6 + 1 = b7 at *
  generalize hb3 : w.heap.size = b3 at *
  have HB := Lib.hid hb3
  clear hb3
  have a0 := x0 0
  have a1 := x0 1
  have a2 := x0 2
  have a3 := x0 3
  have d0 := y0 0
  have d1 := y0 1
  have d2 := y0 2
  have d3 := y0 3
  simp at a0 a1 a2 a3 d0 d1 d2 d3
  clear x0 y0
  generalize hb4 : b3 + 1 = b4 at *
  have m1 : b3 ≠ b4 := by omega
  have m2 : b3 ≠ b6 := by omega
  have m3 : b3 ≠ b7 := by omega
  have m4 : b4 ≠ b6 := by omega
  have m5 : b4 ≠ b7 := by omega
  have m6 : b6 ≠ b7 := by omega
  have m7 : b6 ≠ g := by have := HS.out.lg; have := (HS.out.v b6 (by simp)).2; omega
  have m8 : b7 ≠ g := by have := HS.out.lg; have := (HS.out.v b7 (by simp)).2; omega
  have m9 : b3 ≠ g := by omega
  have m10 : b4 ≠ g := by omega
  have hb3g : b3 < g := by omega
  have hb4g : b4 < g := by omega
  clear hb7 s2 hsz
  go_region_held3 (fun w' => w'.cell? ⟨b6, 0, none⟩ = some (.int .i64 k) ∧ w'.cell? ⟨b6, 1, none⟩ = some (.int .u64 n1) ∧ w'.cell? ⟨b6, 2, none⟩ = some (.string t) ∧ w'.cell? ⟨b6, 3, none⟩ = some (.int .i64 r) ∧ w'.cell? ⟨b7, 0, none⟩ = some (.int .i64 k') ∧ w'.cell? ⟨b7, 1, none⟩ = some (.int .u64 n2) ∧ w'.cell? ⟨b7, 2, none⟩ = some (.string t') ∧ w'.cell? ⟨b7, 3, none⟩ = some (.int .i64 r'))
    (first | go_keep | (go_split_ands; refine ⟨?_, ?_, ?_, ?_, ?_, ?_, ?_, ?_⟩ <;> (refine hk3.cell ?_ (by simp; assumption); assumption)))
    ((go_at_call 39; (with_reducible refine (l01Place_calls g 11 _ (by omega) (by omega) (HS.out.cur.keep ((Keep.refl [] _).drew) (by simp))).mono ?_); rintro e w3 ⟨x, rfl, hc3, hk3⟩; have Y3 := hk3.heap (a := W.drew) Z3.out (by simp; assumption); have Y4 := hk3.heap (a := W.drew) Z4.out (by simp; assumption); have c30 := cell_blk Y3 0; have f30 := frozen_blk Y3 0; have c31 := cell_blk Y3 1; have f31 := frozen_blk Y3 1; have c32 := cell_blk Y3 2; have f32 := frozen_blk Y3 2; have c33 := cell_blk Y3 3; have f33 := frozen_blk Y3 3; have c40 := cell_blk Y4 0; have f40 := frozen_blk Y4 0; have c41 := cell_blk Y4 1; have f41 := frozen_blk Y4 1; have c42 := cell_blk Y4 2; have f42 := frozen_blk Y4 2; have c43 := cell_blk Y4 3; have f43 := frozen_blk Y4 3))
  go_wp2_with fail
  refine bodyPost_ret (v := .tuple #[.int .i64 _, .agg #[.int .i64 k, .int .u64 n1, .string t, .int .i64 r], .agg #[.int .i64 k', .int .u64 n2, .string t', .int .i64 r']]) (by simp only [results, Tryz.results13]; simp [go_sem, *]; rfl) rfl ?_
  have hw : w.heap.size ≤ g := by have := HB.out; omega
  have h3 : w.heap.size ≤ b3 := by have := HB.out; omega
  have h4 : w.heap.size ≤ b4 := by have := HB.out; omega
  refine ⟨_, k, n1, t, r, k', n2, t', r', rfl, HP.out, HQ.out, ?_⟩
  have K := ((HK.out.trans HS.out.keep (by simp; omega)).drew).trans hk3 (by simp; omega)
  exact (((((((K.setCell (.inr h3) _).setCell (.inr h3) _).setCell (.inr h3) _).setCell (.inr h3) _).setCell (.inr h4) _).setCell (.inr h4) _).setCell (.inr h4) _).setCell (.inr h4) _
end Go.Proofs.YtjapohefiggbaaaGreatDoor
