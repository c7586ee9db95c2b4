/- How memory is kept: what a call leaves as it was, and what may be read of a block that is known whole. No program is named here. -/
import Derived.WalkKit
import Derived.Lib.Hide
import Derived.Deep.QuietTactic
import Derived.BigQuiet
namespace Go.Proofs.YtjapohefiggbaaaGreatDoor
open Go.RowKit

/-- All blocks of the old world that are not listed are as they were. -/
structure Keep (O : List Nat) (w w' : World) : Prop where
  os : w'.os = w.os
  tape : w'.tape = w.tape
  output : w'.output = w.output
  size : w.heap.size ≤ w'.heap.size
  block : ∀ k, k < w.heap.size → k ∉ O → w'.heap[k]? = w.heap[k]?

namespace Keep
variable {O O1 : List Nat} {w a b c : World}
theorem refl (O : List Nat) (w : World) : Keep O w w := ⟨rfl, rfl, rfl, Nat.le_refl _, fun _ _ _ => rfl⟩
theorem trans (h : Keep O a b) (k : Keep O1 b c) (hO : ∀ x ∈ O1, x ∈ O ∨ a.heap.size ≤ x) : Keep O a c :=
  ⟨k.os.trans h.os, k.tape.trans h.tape, k.output.trans h.output, Nat.le_trans h.size k.size, fun x hx hn =>
    (k.block x (Nat.lt_of_lt_of_le hx h.size) (fun h1 => (hO x h1).elim hn (fun h2 => by omega))).trans (h.block x hx hn)⟩
theorem trans' (h : Keep O a b) (k : Keep O b c) : Keep O a c := h.trans k fun _ hx => .inl hx
theorem mono (h : Keep O a b) (hO : ∀ x ∈ O, x ∈ O1 ∨ a.heap.size ≤ x) : Keep O1 a b := (Keep.refl O1 a).trans h hO
theorem drew (h : Keep O a b) : Keep O a b.drew := ⟨h.os, h.tape, h.output, h.size, h.block⟩
theorem drewN (h : Keep O a b) (n : Nat) : Keep O a (b.drewN n) := ⟨h.os, h.tape, h.output, h.size, h.block⟩
theorem alloc (h : Keep O a b) (o : Obj) : Keep O a (b.alloc o) :=
  ⟨h.os, h.tape, h.output, by have := h.size; simp; omega, fun x hx hn => by rw [Below.heap_alloc _ _ _ (by have := h.size; omega)]; exact h.block x hx hn⟩
theorem setCell (h : Keep O a b) {p : Addr} (hp : p.block ∈ O ∨ a.heap.size ≤ p.block) (u : Value) : Keep O a (b.setCell p u) := by
  refine ⟨h.os, h.tape, h.output, by have := h.size; simp; omega, fun x hx hn => ?_⟩
  have hne : x ≠ p.block := by
    rintro rfl
    rcases hp with h1 | h2
    · exact hn h1
    · omega
  rw [Below.heap_setCell _ _ _ _ hne]
  exact h.block x hx hn
theorem grown (h : Keep O a b) {row : Option Nat} (hg : b.grownBy c row) (hr : ∀ k, row = some k → k ∈ O ∨ a.heap.size ≤ k) : Keep O a c :=
  ⟨hg.os.trans h.os, hg.tape.trans h.tape, hg.output.trans h.output, Nat.le_trans h.size hg.size, fun x hx hn =>
    (hg.block x (by have := h.size; omega) (fun e => (hr x e.symm).elim hn (fun h2 => by omega))).trans (h.block x hx hn)⟩
theorem heap (h : Keep O a b) {k : Nat} {o : Obj} (hk : a.heap[k]? = some o) (hn : k ∉ O) : b.heap[k]? = some o :=
  (h.block k (Array.getElem?_eq_some_iff.1 hk).1 hn).trans hk
theorem cell (h : Keep O a b) {p : Addr} {v : Value} (hk : a.cell? p = some v) (hn : p.block ∉ O) : b.cell? p = some v :=
  (World.cell?_of_block (w := a) (h.block p.block (World.block_lt_of_cell? a p hk) hn)).trans hk
theorem below (h : Keep [] a b) : Below a.heap.size a b := ⟨h.os, h.tape, h.output, h.size, fun k hk => h.block k hk (by simp)⟩
theorem of_below (h : Below a.heap.size a b) (O : List Nat) : Keep O a b := ⟨h.os, h.tape, h.output, h.size, fun k hk _ => h.block k hk⟩
end Keep

theorem cell_blk {w : World} {g : Nat} {cs : Array Value} {T : TypeId} {z : Nat × Nat} (h : w.heap[g]? = some (.cells cs T z)) (i : Nat) : w.cell? ⟨g, i, none⟩ = cs[i]? := by
  simp [World.cell?, h]
theorem frozen_blk {w : World} {g : Nat} {cs : Array Value} {T : TypeId} (h : w.heap[g]? = some (.cells cs T (0, 0))) (i : Nat) : w.frozen? ⟨g, i, none⟩ = false := by
  simp [World.frozen?, h]
theorem heap_set {w : World} {g : Nat} {cs : Array Value} {T : TypeId} {z : Nat × Nat} (h : w.heap[g]? = some (.cells cs T z)) (i : Nat) (v : Value) :
    (w.setCell ⟨g, i, none⟩ v).heap[g]? = some (.cells (cs.setIfInBounds i v) T z) := by
  simp [World.setCell, Array.getElem?_modify, h]
theorem heap_set_far {w : World} {g k : Nat} {o : Obj} (h : w.heap[g]? = some o) (hk : g ≠ k) (i : Nat) (v : Value) : (w.setCell ⟨k, i, none⟩ v).heap[g]? = some o := by
  rw [Below.heap_setCell _ _ _ _ hk]; exact h
theorem heap_alloc {w : World} {g : Nat} {o : Obj} (h : w.heap[g]? = some o) (o' : Obj) : (w.alloc o').heap[g]? = some o := by
  rw [Below.heap_alloc _ _ _ (Array.getElem?_eq_some_iff.1 h).1]; exact h
theorem heap_new (w : World) (o : Obj) : (w.alloc o).heap[w.heap.size]? = some o := heap_alloc_new w o
theorem heap_drewN (w : World) (n k : Nat) : (w.drewN n).heap[k]? = w.heap[k]? := rfl
/-- A cell of a block that is known whole. -/
theorem row_at {w : World} {b : Nat} {cs : List Value} {T : TypeId} {z : Nat × Nat} (hb : w.heap[b]? = some (.cells cs.toArray T z)) {Q : Value → Prop} (h : ∀ u ∈ cs, Q u) {j : Nat} (hj : j < cs.length) :
    ∃ u, w.cell? ⟨b, j, none⟩ = some u ∧ Q u :=
  ⟨cs[j], by rw [cell_blk hb]; simp [hj], h _ (List.getElem_mem hj)⟩
theorem all_nil {Q : Value → Prop} : ∀ u ∈ ([] : List Value), Q u := fun _ h => by cases h
theorem all_cons {Q : Value → Prop} {a : Value} {l : List Value} (ha : Q a) (h : ∀ u ∈ l, Q u) : ∀ u ∈ a :: l, Q u := List.forall_mem_cons.2 ⟨ha, h⟩
theorem blk_lt {w : World} {g : Nat} {o : Obj} (h : w.heap[g]? = some o) : g < w.heap.size := (Array.getElem?_eq_some_iff.1 h).1
end Go.Proofs.YtjapohefiggbaaaGreatDoor
