/- A value is drawn. -/
import Derived.Test.YtjapohefiggbaaaGreatDoorDrawB
import Derived.Deep.DeepCutAuto
namespace Go.Proofs.YtjapohefiggbaaaGreatDoor
open Go.RowKit

/-- A value's cells. -/
def VB (w : World) (b : Nat) : Prop := ∃ (k n : Int) (t : ByteArray) (r : Int), w.heap[b]? = some (.cells #[.int .i64 k, .int .u64 n, .string t, .int .i64 r] 44 (0, 0)) ∧ 0 ≤ n ∧ n ≤ 18446744073709551615 ∧ t.size ≤ 5000

/-- A value comes back, and the cursor is kept. -/
def RetV (g : Nat) (w : World) (e : Ending) (w' : World) : Prop := ∃ (k n : Int) (t : ByteArray) (r : Int), e = .returned (.agg #[.int .i64 k, .int .u64 n, .string t, .int .i64 r]) ∧ 0 ≤ n ∧ n ≤ 18446744073709551615 ∧ t.size ≤ 5000 ∧ Cur w' g ∧ Keep [g] w w'

structure VS (g b2 b3 : Nat) (w0 w : World) : Prop where
  cur : Cur w g
  v : VB w b3
  z : VB w b2
  keep : Keep [g] w0 w
  l2 : w0.heap.size ≤ b2
  l3 : w0.heap.size ≤ b3
  ne : b2 ≠ b3
  lg : g < w0.heap.size

namespace VS
variable {g b2 b3 : Nat} {w0 w w' : World}
theorem step (h : VS g b2 b3 w0 w) (hc : Cur w' g) (hk : Keep [g] w w') : VS g b2 b3 w0 w' := by
  obtain ⟨k, n, t, r, hb, hr⟩ := h.v
  obtain ⟨k', n', t', r', hb', hr'⟩ := h.z
  have := h.l2; have := h.l3; have := h.lg
  exact ⟨hc, ⟨k, n, t, r, hk.heap hb (by simp; omega), hr⟩, ⟨k', n', t', r', hk.heap hb' (by simp; omega), hr'⟩, h.keep.trans' hk, h.l2, h.l3, h.ne, h.lg⟩
theorem alloc (h : VS g b2 b3 w0 w) (o : Obj) : VS g b2 b3 w0 (w.alloc o) := h.step (h.cur.keep ((Keep.refl [] _).alloc _) (by simp)) ((Keep.refl _ _).alloc _)
theorem frozen (h : VS g b2 b3 w0 w) (i : Nat) : w.frozen? ⟨b3, i, none⟩ = false := by
  obtain ⟨k, n, t, r, hb, hr⟩ := h.v
  exact frozen_blk hb i
theorem frozen2 (h : VS g b2 b3 w0 w) (i : Nat) : w.frozen? ⟨b2, i, none⟩ = false := by
  obtain ⟨k, n, t, r, hb, hr⟩ := h.z
  exact frozen_blk hb i
theorem cells (h : VS g b2 b3 w0 w) : ∃ (k n : Int) (t : ByteArray) (r : Int), w.cell? ⟨b3, 0, none⟩ = some (.int .i64 k) ∧ w.cell? ⟨b3, 1, none⟩ = some (.int .u64 n) ∧ w.cell? ⟨b3, 2, none⟩ = some (.string t) ∧ w.cell? ⟨b3, 3, none⟩ = some (.int .i64 r) ∧ 0 ≤ n ∧ n ≤ 18446744073709551615 ∧ t.size ≤ 5000 := by
  obtain ⟨k, n, t, r, hb, hr⟩ := h.v
  exact ⟨k, n, t, r, cell_blk hb 0, cell_blk hb 1, cell_blk hb 2, cell_blk hb 3, hr⟩
theorem cells2 (h : VS g b2 b3 w0 w) : ∃ (k n : Int) (t : ByteArray) (r : Int), w.cell? ⟨b2, 0, none⟩ = some (.int .i64 k) ∧ w.cell? ⟨b2, 1, none⟩ = some (.int .u64 n) ∧ w.cell? ⟨b2, 2, none⟩ = some (.string t) ∧ w.cell? ⟨b2, 3, none⟩ = some (.int .i64 r) := by
  obtain ⟨k, n, t, r, hb, hr⟩ := h.z
  exact ⟨k, n, t, r, cell_blk hb 0, cell_blk hb 1, cell_blk hb 2, cell_blk hb 3⟩
theorem set (h : VS g b2 b3 w0 w) (i : Nat) (u : Value) (hu : VB (w.setCell ⟨b3, i, none⟩ u) b3) : VS g b2 b3 w0 (w.setCell ⟨b3, i, none⟩ u) := by
  obtain ⟨k', n', t', r', hb', hr'⟩ := h.z
  have := h.l3; have := h.lg
  exact ⟨h.cur.keep ((Keep.refl [b3] _).setCell (by simp) _) (by simp; omega), hu, ⟨k', n', t', r', heap_set_far hb' h.ne i u, hr'⟩, h.keep.setCell (by right; exact h.l3) _, h.l2, h.l3, h.ne, h.lg⟩
theorem set0 (h : VS g b2 b3 w0 w) (x : Int) : VS g b2 b3 w0 (w.setCell ⟨b3, 0, none⟩ (.int .i64 x)) := by
  obtain ⟨k, n, t, r, hb, hr⟩ := h.v
  exact h.set _ _ ⟨x, n, t, r, heap_set hb 0 _, hr⟩
theorem set1 (h : VS g b2 b3 w0 w) (x : Int) (h0 : 0 ≤ x) (h1 : x ≤ 18446744073709551615) : VS g b2 b3 w0 (w.setCell ⟨b3, 1, none⟩ (.int .u64 x)) := by
  obtain ⟨k, n, t, r, hb, hr⟩ := h.v
  exact h.set _ _ ⟨k, x, t, r, heap_set hb 1 _, h0, h1, hr.2.2⟩
theorem set2 (h : VS g b2 b3 w0 w) (s : ByteArray) (h0 : s.size ≤ 5000) : VS g b2 b3 w0 (w.setCell ⟨b3, 2, none⟩ (.string s)) := by
  obtain ⟨k, n, t, r, hb, hr⟩ := h.v
  exact h.set _ _ ⟨k, n, s, r, heap_set hb 2 _, hr.1, hr.2.1, h0⟩
theorem set3 (h : VS g b2 b3 w0 w) (x : Int) : VS g b2 b3 w0 (w.setCell ⟨b3, 3, none⟩ (.int .i64 x)) := by
  obtain ⟨k, n, t, r, hb, hr⟩ := h.v
  exact h.set _ _ ⟨k, n, t, x, heap_set hb 3 _, hr⟩
theorem fin (h : VS g b2 b3 w0 w) (a b c d : Value) : Cur ((((w.setCell ⟨b2, 0, none⟩ a).setCell ⟨b2, 1, none⟩ b).setCell ⟨b2, 2, none⟩ c).setCell ⟨b2, 3, none⟩ d) g ∧ Keep [g] w0 ((((w.setCell ⟨b2, 0, none⟩ a).setCell ⟨b2, 1, none⟩ b).setCell ⟨b2, 2, none⟩ c).setCell ⟨b2, 3, none⟩ d) := by
  have := h.l2; have := h.lg
  exact ⟨h.cur.keep (O := [b2]) (((((Keep.refl _ _).setCell (by simp) _).setCell (by simp) _).setCell (by simp) _).setCell (by simp) _) (by simp; omega),
    (((h.keep.setCell (.inr h.l2) _).setCell (.inr h.l2) _).setCell (.inr h.l2) _).setCell (.inr h.l2) _⟩
end VS

theorem strs_blk {w : World} {b m : Nat} {cs : List Value} {T : TypeId} {z : Nat × Nat} (hb : w.heap[b]? = some (.cells cs.toArray T z)) (h : ∀ u ∈ cs, ∃ s, u = .string s ∧ s.size ≤ m) :
    ∀ n, cs.length = n → Strs w (some ⟨b, 0, none⟩) n m := by
  rintro n rfl
  intro j hj
  obtain ⟨u, hu, s, rfl, hs⟩ := row_at hb h hj
  exact ⟨b, 0, s, rfl, by simpa using hu, hs⟩

theorem ints_blk {w : World} {b : Nat} {cs : List Value} {T : TypeId} {z : Nat × Nat} {P : Int → Prop} (hb : w.heap[b]? = some (.cells cs.toArray T z)) (h : ∀ u ∈ cs, ∃ x, u = .int .i64 x ∧ P x) :
    ∀ n, cs.length = n → Ints w (some ⟨b, 0, none⟩) n P := by
  rintro n rfl j hj
  obtain ⟨u, hu, x, rfl, hx⟩ := row_at hb h hj
  exact ⟨b, 0, x, rfl, by simpa using hu, hx⟩

set_option maxRecDepth 100000 in
set_option maxHeartbeats 2000000 in
theorem l17Value_calls (g : Nat) (w : World) (hc : Cur w g) :
    Calls Tryz.prog 81 #[.pointer (some ⟨g, 0, none⟩)] w (RetV g w) := by
  have hg := hc.lt
  have HC := Lib.hid hc
  clear hc
  go_enter Tryz.func81, Tryz.ntmps81
  go_wp2_with fail
  refine (l01Below_calls g _ _ (by omega) (HC.out.keep ((Keep.refl [] _).alloc _) (by simp))).mono ?_
  rintro e w1 ⟨x, rfl, hx0, hx1, -, hc1, hk1⟩
  replace hx1 := hx1 (by omega)
  have hz := hk1.heap (heap_new w _) (by simp; omega)
  have hsz := hk1.size
  simp at hsz
  have HS : Hid (VS g w.heap.size w1.heap.size w (w1.alloc (.cells #[.int .i64 x, .int .u64 0, .string ⟨#[]⟩, .int .i64 0] 44))) := Lib.hid
    ⟨hc1.keep ((Keep.refl [] _).alloc _) (by simp), ⟨_, _, _, _, heap_new _ _, by omega, by omega, by decide⟩, ⟨_, _, _, _, heap_alloc hz _, by omega, by omega, by decide⟩,
      (((Keep.refl [g] w).alloc _).trans' hk1).alloc _, by omega, by omega, by omega, hg⟩
  clear HC hc1 hk1 hz
  have hne : w.heap.size ≠ w1.heap.size := by omega
  go_wp2_with (first
    | (go_at_call 69; (with_reducible refine (l01Below_calls g _ _ (by omega) (VS.cur (b2 := w.heap.size) (b3 := w1.heap.size) (w0 := w) (by first | exact HS.out | exact HS.out.set0 _ | exact HS.out.set1 _ (by omega) (by omega) | exact HS.out.set2 _ HT.out | exact HS.out.set3 _))).mono ?_); rintro e w2 ⟨y, rfl, hy0, hy1, -, hc2, hk2⟩; replace hy1 := hy1 (by omega); replace HS := Lib.hid (VS.step (b2 := w.heap.size) (b3 := w1.heap.size) (w0 := w) (by first | exact HS.out | exact HS.out.set0 _ | exact HS.out.set1 _ (by omega) (by omega) | exact HS.out.set2 _ HT.out | exact HS.out.set3 _) hc2 hk2); clear hc2 hk2; obtain ⟨k, n, t, r, c0, c1, c2, c3, hn0, hn1, ht⟩ := HS.out.cells; have f0 := HS.out.frozen 0; have f1 := HS.out.frozen 1; have f2 := HS.out.frozen 2; have f3 := HS.out.frozen 3; obtain ⟨k', n', t', r', d0, d1, d2, d3⟩ := HS.out.cells2; have e0 := HS.out.frozen2 0; have e1 := HS.out.frozen2 1; have e2 := HS.out.frozen2 2; have e3 := HS.out.frozen2 3)
    | (go_at_call 82; (with_reducible refine (l03Number_calls g _ HS.out.cur).mono ?_); rintro e w2 ⟨y, rfl, hy0, hy1, hc2, hk2⟩; replace HS := Lib.hid (VS.step (b2 := w.heap.size) (b3 := w1.heap.size) (w0 := w) (by first | exact HS.out | exact HS.out.set0 _ | exact HS.out.set1 _ (by omega) (by omega) | exact HS.out.set2 _ HT.out | exact HS.out.set3 _) hc2 hk2); clear hc2 hk2; obtain ⟨k, n, t, r, c0, c1, c2, c3, hn0, hn1, ht⟩ := HS.out.cells; have f0 := HS.out.frozen 0; have f1 := HS.out.frozen 1; have f2 := HS.out.frozen 2; have f3 := HS.out.frozen 3; obtain ⟨k', n', t', r', d0, d1, d2, d3⟩ := HS.out.cells2; have e0 := HS.out.frozen2 0; have e1 := HS.out.frozen2 1; have e2 := HS.out.frozen2 2; have e3 := HS.out.frozen2 3)
    | (go_at_call 106; (with_reducible refine (l01Long_calls _ _ _ (by omega) (by omega)).mono ?_); rintro e w2 ⟨s, rfl, hs, hk2⟩; have hc2 := HS.out.cur.keep hk2 (by simp); replace hk2 := hk2.mono (O1 := [g]) (by simp); have HT : Hid (s.size ≤ 5000) := Lib.hid (by omega); clear hs; replace HS := Lib.hid (VS.step (b2 := w.heap.size) (b3 := w1.heap.size) (w0 := w) (by first | exact HS.out | exact HS.out.set0 _ | exact HS.out.set1 _ (by omega) (by omega) | exact HS.out.set2 _ HT.out | exact HS.out.set3 _) hc2 hk2); clear hc2 hk2; obtain ⟨k, n, t, r, c0, c1, c2, c3, hn0, hn1, ht⟩ := HS.out.cells; have f0 := HS.out.frozen 0; have f1 := HS.out.frozen 1; have f2 := HS.out.frozen 2; have f3 := HS.out.frozen 3; obtain ⟨k', n', t', r', d0, d1, d2, d3⟩ := HS.out.cells2; have e0 := HS.out.frozen2 0; have e1 := HS.out.frozen2 1; have e2 := HS.out.frozen2 2; have e3 := HS.out.frozen2 3)
    | (go_at_call 105; (with_reducible refine (l01Pick_calls g _ _ _ 5000 _ (by omega) (by omega) (HS.out.alloc _).cur (strs_blk (heap_new _ _) (by repeat (first | exact all_nil | refine all_cons ⟨_, rfl, ?_⟩ ?_ | decide | exact HT.out)) 5 rfl) (by rintro b o h; have := HS.out.cur.lt; simp at h; omega)).mono ?_); rintro e w2 ⟨s, rfl, hs, hc2, hk2⟩; replace hk2 := ((Keep.refl [g] _).alloc _).trans' hk2; have HT := Lib.hid hs; clear hs; replace HS := Lib.hid (VS.step (b2 := w.heap.size) (b3 := w1.heap.size) (w0 := w) (by first | exact HS.out | exact HS.out.set0 _ | exact HS.out.set1 _ (by omega) (by omega) | exact HS.out.set2 _ HT.out | exact HS.out.set3 _) hc2 hk2); clear hc2 hk2; obtain ⟨k, n, t, r, c0, c1, c2, c3, hn0, hn1, ht⟩ := HS.out.cells; have f0 := HS.out.frozen 0; have f1 := HS.out.frozen 1; have f2 := HS.out.frozen 2; have f3 := HS.out.frozen 3; obtain ⟨k', n', t', r', d0, d1, d2, d3⟩ := HS.out.cells2; have e0 := HS.out.frozen2 0; have e1 := HS.out.frozen2 1; have e2 := HS.out.frozen2 2; have e3 := HS.out.frozen2 3)
    | (go_at_call 83; (with_reducible refine (l01PickInt_calls g _ _ _ (fun _ => True) _ (by omega) (by omega) (HS.out.alloc _).cur (by first | exact ints_blk (heap_new _ _) (by repeat (first | exact all_nil | refine all_cons ⟨_, rfl, trivial⟩ ?_)) 4 rfl | exact ints_blk (heap_new _ _) (by repeat (first | exact all_nil | refine all_cons ⟨_, rfl, trivial⟩ ?_)) 2 rfl) (by rintro b o h; have := HS.out.cur.lt; simp at h; omega)).mono ?_); rintro e w2 ⟨y, rfl, hs, hc2, hk2⟩; replace hk2 := ((Keep.refl [g] _).alloc _).trans' hk2; clear hs; replace HS := Lib.hid (VS.step (b2 := w.heap.size) (b3 := w1.heap.size) (w0 := w) (by first | exact HS.out | exact HS.out.set0 _ | exact HS.out.set1 _ (by omega) (by omega) | exact HS.out.set2 _ HT.out | exact HS.out.set3 _) hc2 hk2); clear hc2 hk2; obtain ⟨k, n, t, r, c0, c1, c2, c3, hn0, hn1, ht⟩ := HS.out.cells; have f0 := HS.out.frozen 0; have f1 := HS.out.frozen 1; have f2 := HS.out.frozen 2; have f3 := HS.out.frozen 3; obtain ⟨k', n', t', r', d0, d1, d2, d3⟩ := HS.out.cells2; have e0 := HS.out.frozen2 0; have e1 := HS.out.frozen2 1; have e2 := HS.out.frozen2 2; have e3 := HS.out.frozen2 3))
  all_goals (
    refine bodyPost_ret (v := .agg #[.int .i64 _, .int .u64 _, .string _, .int .i64 _]) (by simp only [results, Tryz.results81]; simp [go_sem, *]; exact ⟨rfl, rfl, rfl, rfl⟩) rfl ?_
    refine ⟨_, _, _, _, rfl, by omega, by omega, ?_, ?_, ?_⟩
    · first | (with_reducible exact HT.out) | omega
    · (with_reducible refine (VS.fin (b2 := w.heap.size) (b3 := w1.heap.size) (w0 := w) (g := g) ?_ _ _ _ _).1)
      with_reducible first | exact HS.out | exact HS.out.set0 _ | exact HS.out.set1 _ (by omega) (by omega) | exact HS.out.set2 _ HT.out | exact HS.out.set3 _
    · (with_reducible refine (VS.fin (b2 := w.heap.size) (b3 := w1.heap.size) (w0 := w) (g := g) ?_ _ _ _ _).2)
      with_reducible first | exact HS.out | exact HS.out.set0 _ | exact HS.out.set1 _ (by omega) (by omega) | exact HS.out.set2 _ HT.out | exact HS.out.set3 _)
end Go.Proofs.YtjapohefiggbaaaGreatDoor
