/- A text of one byte, many times; a value is drawn. -/
import Derived.Test.YtjapohefiggbaaaGreatDoorDrawA
import Derived.Test.YtjapohefiggbaaaGreatDoorCurB
import Derived.OwnWalk
import Derived.KernelRfl
namespace Go.Proofs.YtjapohefiggbaaaGreatDoor
open Go.RowKit

theorem size_foldl_push (ns : List Int) : ∀ s : ByteArray, (ns.foldl (fun r n => r.push (UInt8.ofNat n.toNat)) s).size = s.size + ns.length := by
  induction ns with
  | nil => intro s; simp
  | cons n ns ih => intro s; simp only [List.foldl_cons, ih, ByteArray.size_push, List.length_cons]; omega

/-- A row of bytes as a text. -/
theorem run_string_of {P : Program} {w : World} {src dst e : TypeId} (hs : P.underlying src = some (.slice e)) (he : P.underlying e = some (.int .u8)) (hd : P.underlying dst = some .string)
    {b o n : Nat} (c : Nat) (hc : ∀ j, j < n → ∃ x, w.cell? ⟨b, o + j, none⟩ = some (.int .u8 x)) :
    ∃ s : ByteArray, (convert src dst (.slice (some ⟨b, o, none⟩) n c)).run P w = .ok (.string s) w ∧ s.size = n := by
  have hex : ∃ ns : List Int, ns.length = n ∧ ∀ j x, ns[j]? = some x → w.cell? ⟨b, o + j, none⟩ = some (.int .u8 x) := by
    clear hs he hd
    induction n with
    | zero => exact ⟨[], rfl, by simp⟩
    | succ n ih =>
      obtain ⟨ns, hl, hns⟩ := ih (fun j hj => hc j (by omega))
      obtain ⟨x, hx⟩ := hc n (by omega)
      refine ⟨ns ++ [x], by simp [hl], fun j y hy => ?_⟩
      by_cases hj : j < n
      · exact hns j y (by rwa [List.getElem?_append_left (by omega)] at hy)
      · have : j = n := by
          have := (List.getElem?_eq_some_iff.1 hy).1
          simp at this; omega
        subst this
        rw [List.getElem?_append_right (by omega)] at hy
        simp [hl] at hy
        subst hy; exact hx
  obtain ⟨ns, hl, hns⟩ := hex
  refine ⟨ns.foldl (fun r n => r.push (UInt8.ofNat n.toNat)) ByteArray.empty, ?_, ?_⟩
  · rw [run_convert_bytes_string w src dst e _ _ _ hs he hd]
    refine run_bytesToString w ⟨b, o, none⟩ n c ns ?_
    have := run_loadCells_list (P := P) (w := w) ⟨b, o, none⟩ (ns.map (Value.int .u8)) (fun j v hv => by
      rw [List.getElem?_map] at hv
      cases hx : ns[j]? with
      | none => simp [hx] at hv
      | some x => simp [hx] at hv; subst hv; rw [show (⟨b, o, none⟩ : Addr).add j = ⟨b, o + j, none⟩ from by unfold Addr.add; split <;> simp_all]; exact hns j x hx)
    simpa [hl] using this
  · rw [size_foldl_push]; simp [hl]
theorem info_u8 : (Tryz.prog.info? 5).map (fun i => (i.zero, i.size, i.bytes)) = some (some (.int .u8 0), 1, 1) := by kernel_rfl

/-- A row of bytes of the call's own. -/
def OwnB (w : World) (b n : Nat) : Prop := ∃ cs : Array Value, w.heap[b]? = some (.cells cs 5 (0, 0)) ∧ cs.size = n ∧ ∀ j, j < n → ∃ x, cs[j]? = some (.int .u8 x)
theorem OwnB.cell {w : World} {b n : Nat} (h : OwnB w b n) (j : Nat) (hj : j < n) : ∃ x, w.cell? ⟨b, j, none⟩ = some (.int .u8 x) := by
  obtain ⟨cs, hb, _, hx⟩ := h
  obtain ⟨x, hx⟩ := hx j hj
  exact ⟨x, by rw [cell_blk hb]; exact hx⟩
theorem OwnB.frozen {w : World} {b n : Nat} (h : OwnB w b n) (j : Nat) : w.frozen? ⟨b, j, none⟩ = false := by
  obtain ⟨cs, hb, _⟩ := h
  exact frozen_blk hb j
theorem OwnB.set {w : World} {b n : Nat} (h : OwnB w b n) (j : Nat) (x : Int) : OwnB (w.setCell ⟨b, j, none⟩ (.int .u8 x)) b n := by
  obtain ⟨cs, hb, hs, hx⟩ := h
  refine ⟨_, heap_set hb j _, by simp [hs], fun i hi => ?_⟩
  by_cases e : j = i
  · subst e; exact ⟨x, by simp [Array.getElem?_setIfInBounds_self, hs, hi]⟩
  · rw [Array.getElem?_setIfInBounds_ne e]; exact hx i hi

set_option maxHeartbeats 1000000 in
theorem l01Long_calls (n x : Int) (w : World) (h0 : 0 ≤ n) (h1 : n ≤ 100000) :
    Calls Tryz.prog 106 #[.int .i64 n, .int .u8 x] w fun e w' => ∃ s : ByteArray, e = .returned (.string s) ∧ s.size = n.toNat ∧ Keep [] w w' := by
  obtain ⟨m, rfl⟩ : ∃ m : Nat, n = m := ⟨n.toNat, by omega⟩
  obtain ⟨i0, hi0, hz0, hz1, hz2⟩ := info_parts info_u8
  have hmk := run_make (P := Tryz.prog) w 22 5 i0 _ Tryz.underlying22 hi0 hz0 .i64 .i64 m m (by omega) (by omega) (by rw [hz2]; omega) (by omega)
  rw [hz1] at hmk
  have hown : OwnB (w.alloc (.cells (madeCells #[.int .u8 0] m) 5)) w.heap.size m := by
    refine ⟨_, heap_new _ _, by simp [madeCells], fun j hj => ⟨0, ?_⟩⟩
    simp [madeCells, hj, Nat.mod_one]
  have HO := Lib.hid hown
  clear hown hz0 hz1 hz2 hi0
  go_enter Tryz.func106, Tryz.ntmps106
  go_wp2_with fail
  go_loopw [6] (fun i wr => ∃ k : Nat, k ≤ m ∧ i = .int .i64 k ∧ OwnB wr w.heap.size m ∧ Keep [] w wr) (fun i _ => m - (intOf i).toNat)
  case atStart => exact ⟨0, by omega, rfl, HO.out, (Keep.refl _ _).alloc _⟩
  case round =>
    obtain ⟨k, hk, rfl, ho, hkeep⟩ := hrel
    have HO' := Lib.hid ho
    have HK := Lib.hid hkeep
    clear ho hkeep
    by_cases hlt : k < m
    · obtain ⟨y, hy⟩ := HO'.out.cell k hlt
      have hf := HO'.out.frozen k
      go_wp2_with fail
      go_roundw
      case rel => exact ⟨k + 1, by omega, by go_num, HO'.out.set k _, HK.out.setCell (by simp) _⟩
      case measure => simp [intOf]; omega
    · obtain rfl : k = m := by omega
      obtain ⟨s, hs, hsz⟩ := run_string_of (P := Tryz.prog) (src := 22) (dst := 9) (o := 0) (n := k) Tryz.underlying22 Tryz.underlying5 Tryz.underlying9 k (fun j hj => by have := HO'.out.cell j hj; simpa using this)
      have HS := Lib.hid hsz
      clear hsz
      go_wp2_with fail
      go_ret
      exact ⟨s, rfl, by rw [HS.out]; omega, HK.out⟩
end Go.Proofs.YtjapohefiggbaaaGreatDoor
