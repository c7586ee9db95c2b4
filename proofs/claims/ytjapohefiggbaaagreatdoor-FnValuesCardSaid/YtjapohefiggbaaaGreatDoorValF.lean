/- What an op does to two values: the other way. -/
import Derived.Test.YtjapohefiggbaaaGreatDoorValE
namespace Go.Proofs.YtjapohefiggbaaaGreatDoor
open Go.RowKit
attribute [local go_sem ↓] Go.wp_at_zero Go.wp_at_succ

/-- A value and what is wrong come back. -/
def RetW (bad : ByteArray) (w : World) (e : Ending) (w' : World) : Prop := ∃ (k n : Int) (t : ByteArray) (r : Int),
  e = .returned (.tuple #[.agg #[.int .i64 k, .int .u64 n, .string t, .int .i64 r], .string bad]) ∧ Keep [] w w'

set_option maxRecDepth 100000 in
set_option maxHeartbeats 1000000 in
theorem sSub_calls (x y : Int) (w : World) (h0 : 0 ≤ x) (h1 : x ≤ 18446744073709551615) (h2 : 0 ≤ y) (h3 : y ≤ 18446744073709551615) :
    Calls Tryz.prog 55 #[.int .u64 x, .int .u64 y] w (RetK w) := by
  have hb := ng_bd y
  go_enter Tryz.func55, Tryz.ntmps55
  go_wp2_with fail
  (with_reducible refine (Negate_calls y _ h2 h3).mono ?_); rintro e w1 ⟨rfl, hk1⟩
  go_wp2_with fail
  (with_reducible refine (Add_calls _ _ _ h0 h1 hb.1 hb.2).mono ?_); rintro e w2 ⟨z, rfl, g0, g1, hk⟩
  go_wp2_with fail
  go_ret
  exact ⟨_, rfl, g0, g1, hk1.trans' hk⟩

set_option maxRecDepth 100000 in
set_option maxHeartbeats 8000000 in
theorem sDoBinary_calls (op k n : Int) (t : ByteArray) (r k' n' : Int) (t' : ByteArray) (r' : Int) (w : World) (h0 : 0 ≤ n) (h1 : n ≤ 18446744073709551615) (h2 : 0 ≤ n') (h3 : n' ≤ 18446744073709551615) (ht : t.size ≤ 5000) (ht' : t'.size ≤ 5000) :
    Calls Tryz.prog 17 #[.int .i64 op, .agg #[.int .i64 k, .int .u64 n, .string t, .int .i64 r], .agg #[.int .i64 k', .int .u64 n', .string t', .int .i64 r']] w (RetW (badOf op k k' (t.size + t'.size)) w) := by
  go_enter Tryz.func17, Tryz.ntmps17
  go_upto_region 1 with fail
  have K0 := (((Keep.refl [] w).alloc (.cells #[.int .i64 k, .int .u64 n, .string t, .int .i64 r] 44)).alloc (.cells #[.int .i64 k', .int .u64 n', .string t', .int .i64 r'] 44)).alloc (.cells #[.int .i64 0, .int .u64 0, .string ⟨#[]⟩, .int .i64 0] 44)
  have ZA := heap_alloc (heap_alloc (heap_new w (.cells #[.int .i64 k, .int .u64 n, .string t, .int .i64 r] 44)) (.cells #[.int .i64 k', .int .u64 n', .string t', .int .i64 r'] 44)) (.cells #[.int .i64 0, .int .u64 0, .string ⟨#[]⟩, .int .i64 0] 44)
  have ZB := heap_alloc (heap_new (w.alloc (.cells #[.int .i64 k, .int .u64 n, .string t, .int .i64 r] 44)) (.cells #[.int .i64 k', .int .u64 n', .string t', .int .i64 r'] 44)) (.cells #[.int .i64 0, .int .u64 0, .string ⟨#[]⟩, .int .i64 0] 44)
  have ZC := heap_new ((w.alloc (.cells #[.int .i64 k, .int .u64 n, .string t, .int .i64 r] 44)).alloc (.cells #[.int .i64 k', .int .u64 n', .string t', .int .i64 r'] 44)) (.cells #[.int .i64 0, .int .u64 0, .string ⟨#[]⟩, .int .i64 0] 44)
  simp only [World.size_alloc] at ZB ZC
  obtain ⟨a0, a1, a2, a3⟩ := four_blk ZA
  obtain ⟨b0, b1, b2, b3⟩ := four_blk ZB
  obtain ⟨c0, c1, c2, c3⟩ := four_blk ZC
  obtain ⟨f0, f1, f2, f3⟩ := four_frozen ZC
  have HK := Lib.hid K0
  have HZ := Lib.hid ZC
  clear K0 ZA ZB ZC
  have sC : w.heap.size ≤ w.heap.size + 1 + 1 := by omega
  generalize ((w.alloc (.cells #[.int .i64 k, .int .u64 n, .string t, .int .i64 r] 44)).alloc (.cells #[.int .i64 k', .int .u64 n', .string t', .int .i64 r'] 44)).alloc (.cells #[.int .i64 0, .int .u64 0, .string ⟨#[]⟩, .int .i64 0] 44) = W at *
  generalize hA : w.heap.size = A at *
  have nAB : A ≠ A + 1 := by omega
  have nAC : A ≠ A + 1 + 1 := by omega
  have nBC : A + 1 ≠ A + 1 + 1 := by omega
  generalize hB : A + 1 = B at *
  generalize hC : B + 1 = C at *
  have sC' : w.heap.size ≤ C := by omega
  have SC := Lib.hid sC'
  clear hA hB hC sC sC'
  by_cases ho : op = 10
  · subst ho
    have HB := Lib.hid (bad_same k k' (t.size + t'.size))
    go_wp2_with (first | (go_at_call 48; (with_reducible refine (sSameValue_calls _ _ _ _ _ _ _ _ _ h0 h1 h2 h3).mono ?_); rintro e w1 ⟨q, rfl, hk⟩; replace HK := Lib.hid (HK.out.trans' hk); replace HZ := Lib.hid (hk.heap HZ.out (by simp)); obtain ⟨c0, c1, c2, c3⟩ := four_blk HZ.out; obtain ⟨f0, f1, f2, f3⟩ := four_frozen HZ.out; clear hk) | (go_at_call 47; (with_reducible refine (l17Bool_calls _ _).mono ?_); rintro e w1 ⟨z, rfl, hz0, hz1, hk⟩; replace HK := Lib.hid (HK.out.trans' hk); replace HZ := Lib.hid (hk.heap HZ.out (by simp)); obtain ⟨c0, c1, c2, c3⟩ := four_blk HZ.out; obtain ⟨f0, f1, f2, f3⟩ := four_frozen HZ.out; clear hk))
    refine bodyPost_ret (v := .tuple #[.agg #[.int .i64 1, .int .u64 z, .string ⟨#[]⟩, .int .i64 0], .string ⟨#[]⟩]) (by simp only [results, Tryz.results17]; simp [go_sem, *]) rfl ⟨1, z, ⟨#[]⟩, 0, (by rw [HB.out]), HK.out.four (.inr SC.out) _ _ _ _⟩
  by_cases ho2 : op = 11
  · subst ho2
    have HB := Lib.hid (bad_other k k' (t.size + t'.size))
    go_wp2_with (first | (go_at_call 48; (with_reducible refine (sSameValue_calls _ _ _ _ _ _ _ _ _ h0 h1 h2 h3).mono ?_); rintro e w1 ⟨q, rfl, hk⟩; replace HK := Lib.hid (HK.out.trans' hk); replace HZ := Lib.hid (hk.heap HZ.out (by simp)); obtain ⟨c0, c1, c2, c3⟩ := four_blk HZ.out; obtain ⟨f0, f1, f2, f3⟩ := four_frozen HZ.out; clear hk) | (go_at_call 47; (with_reducible refine (l17Bool_calls _ _).mono ?_); rintro e w1 ⟨z, rfl, hz0, hz1, hk⟩; replace HK := Lib.hid (HK.out.trans' hk); replace HZ := Lib.hid (hk.heap HZ.out (by simp)); obtain ⟨c0, c1, c2, c3⟩ := four_blk HZ.out; obtain ⟨f0, f1, f2, f3⟩ := four_frozen HZ.out; clear hk))
    refine bodyPost_ret (v := .tuple #[.agg #[.int .i64 1, .int .u64 z, .string ⟨#[]⟩, .int .i64 0], .string ⟨#[]⟩]) (by simp only [results, Tryz.results17]; simp [go_sem, *]) rfl ⟨1, z, ⟨#[]⟩, 0, (by rw [HB.out]), HK.out.four (.inr SC.out) _ _ _ _⟩
  have e10 : (op == 10) = false := by simpa using ho
  have e11 : (op == 11) = false := by simpa using ho2
  have HO := Lib.hid ho
  have HO2 := Lib.hid ho2
  clear ho ho2
  by_cases hm : k = 3 ∧ k' = 3
  · obtain ⟨rfl, rfl⟩ := hm
    cases hcb : cmpB op with
    | true =>
      have HB := Lib.hid (bad_txt op (t.size + t'.size) ((cmpB_iff op).1 hcb))
      go_wp2_with (first | (go_at_call 37; (with_reducible refine (l01In_calls _ _).mono ?_); rintro e w' ⟨rfl, rfl⟩) | (go_at_call 49; (with_reducible refine (l17Order_calls _ _ _ _ _).mono ?_); rintro e w1 ⟨z, rfl, hz0, hz1, hk⟩; replace HK := Lib.hid (HK.out.trans' hk); replace HZ := Lib.hid (hk.heap HZ.out (by simp)); obtain ⟨c0, c1, c2, c3⟩ := four_blk HZ.out; obtain ⟨f0, f1, f2, f3⟩ := four_frozen HZ.out; clear hk))
      refine bodyPost_ret (v := .tuple #[.agg #[.int .i64 1, .int .u64 z, .string ⟨#[]⟩, .int .i64 0], .string ⟨#[]⟩]) (by simp only [results, Tryz.results17]; simp [go_sem, *]) rfl ⟨1, z, ⟨#[]⟩, 0, (by rw [HB.out]), HK.out.four (.inr SC.out) _ _ _ _⟩
    | false =>
      have hc : ¬ (6 ≤ op ∧ op ≤ 9) := fun h => by rw [(cmpB_iff op).2 h] at hcb; cases hcb
      have HC := Lib.hid hc
      clear hc
      by_cases h1' : op = 1
      · subst h1'
        by_cases hl : 200 < t.size + t'.size
        · have HB := Lib.hid (bad_long (t.size + t'.size) hl)
          go_wp2_with (go_at_call 37; (with_reducible refine (l01In_calls _ _).mono ?_); rintro e w' ⟨rfl, rfl⟩)
          refine bodyPost_ret (v := .tuple #[.agg #[.int .i64 0, .int .u64 0, .string ⟨#[]⟩, .int .i64 0], .string ⟨#[108, 111, 110, 103]⟩]) (by simp only [results, Tryz.results17]; simp [go_sem, *]) rfl ⟨0, 0, ⟨#[]⟩, 0, (by rw [HB.out]), HK.out.four (.inr SC.out) _ _ _ _⟩
        · have HB := Lib.hid (bad_sum (t.size + t'.size) hl)
          go_wp2_with (go_at_call 37; (with_reducible refine (l01In_calls _ _).mono ?_); rintro e w' ⟨rfl, rfl⟩)
          refine bodyPost_ret (v := .tuple #[.agg #[.int .i64 3, .int .u64 0, .string (t ++ t'), .int .i64 0], .string ⟨#[]⟩]) (by simp only [results, Tryz.results17]; simp [go_sem, *]) rfl ⟨3, 0, (t ++ t'), 0, (by rw [HB.out]), HK.out.four (.inr SC.out) _ _ _ _⟩
      · have HB := Lib.hid (bad_txtno op (t.size + t'.size) HC.out (by have := HO.out; have := HO2.out; omega) h1')
        have e1 : (op == 1) = false := by simpa using h1'
        clear h1'
        go_wp2_with (go_at_call 37; (with_reducible refine (l01In_calls _ _).mono ?_); rintro e w' ⟨rfl, rfl⟩)
        refine bodyPost_ret (v := .tuple #[.agg #[.int .i64 0, .int .u64 0, .string ⟨#[]⟩, .int .i64 0], .string ⟨#[116, 121, 112, 101]⟩]) (by simp only [results, Tryz.results17]; simp [go_sem, *]) rfl ⟨0, 0, ⟨#[]⟩, 0, (by rw [HB.out]), HK.out.four (.inr SC.out) _ _ _ _⟩
  by_cases hn : k = 2 ∧ k' = 2
  · obtain ⟨rfl, rfl⟩ := hn
    clear hm
    cases hcb : cmpB op with
    | true =>
      have HB := Lib.hid (bad_num op (t.size + t'.size) (by have := (cmpB_iff op).1 hcb; omega))
      go_upto_region 16 with (go_at_call 37; (with_reducible refine (l01In_calls _ _).mono ?_); rintro e w' ⟨rfl, rfl⟩)
      have nCA : C ≠ A := Ne.symm nAC
      have nCB : C ≠ B := Ne.symm nBC
      have HKd := Lib.hid HK.out.drew
      have hzd : W.drew.heap[C]? = some (.cells #[.int .i64 0, .int .u64 0, .string ⟨#[]⟩, .int .i64 0] 44) := HZ.out
      have HZd := Lib.hid hzd
      clear hzd
      have nCA : C ≠ A := Ne.symm nAC
      have nCB : C ≠ B := Ne.symm nBC
      cases hpn : (pk n == 1)
      case true =>
        refine wp_region_held_drew (S := fun w' => w'.cell? ⟨A, 1, none⟩ = some (.int .u64 n) ∧ w'.cell? ⟨B, 1, none⟩ = some (.int .u64 n')) (by kernel_rfl) ?_ (fun hHeld => ?_)
        · first | go_keep | (constructor <;> assumption)
        refine wpAnyH_take (i := 0) (v := ?_) rfl (by kernel_rfl) (by kernel_rfl) (by kernel_rfl) (fun _ _ _ h => h) (Or.inl ⟨by rfl, ?_⟩) (by assumption) ?_
        rotate_left
        · (intro w hSw; (try dsimp only at hSw); go_simp; (try with_reducible rfl))
        try simp only [List.getElem_toArray, List.getElem_cons_succ, List.getElem_cons_zero, Act.put, List.setIfInBounds_toArray, List.set_cons_zero, List.set_cons_succ]
        refine wpAnyH_take (i := 1) (v := ?_) rfl (by kernel_rfl) (by kernel_rfl) (by kernel_rfl) (fun _ _ _ h => h) (Or.inl ⟨by rfl, ?_⟩) (by assumption) ?_
        rotate_left
        · (intro w hSw; (try dsimp only at hSw); go_simp; (try with_reducible rfl))
        try simp only [List.getElem_toArray, List.getElem_cons_succ, List.getElem_cons_zero, Act.put, List.setIfInBounds_toArray, List.set_cons_zero, List.set_cons_succ]
        refine wpAnyH_take (i := 2) (v := ?_) rfl (by kernel_rfl) (by kernel_rfl) (by kernel_rfl) (fun _ _ _ h => h) (Or.inl ⟨by rfl, ?_⟩) (by assumption) ?_
        rotate_left
        · (intro w hSw; (try dsimp only at hSw); go_simp; (try with_reducible rfl))
        try simp only [List.getElem_toArray, List.getElem_cons_succ, List.getElem_cons_zero, Act.put, List.setIfInBounds_toArray, List.set_cons_zero, List.set_cons_succ]
        refine wpAnyH_take (i := 3) (v := ?_) rfl (by kernel_rfl) (by kernel_rfl) (by kernel_rfl) (fun _ _ _ h => h) (Or.inl ⟨by rfl, ?_⟩) (by assumption) ?_
        rotate_left
        · (intro w hSw; (try dsimp only at hSw); go_simp; (try with_reducible rfl))
        try simp only [List.getElem_toArray, List.getElem_cons_succ, List.getElem_cons_zero, Act.put, List.setIfInBounds_toArray, List.set_cons_zero, List.set_cons_succ]
        refine wpAnyH_take (i := 4) (v := ?_) rfl (by kernel_rfl) (by kernel_rfl) (by kernel_rfl) (fun _ _ _ h => h) (Or.inl ⟨by rfl, ?_⟩) (by assumption) ?_
        rotate_left
        · (intro w hSw; (try dsimp only at hSw); go_simp; (try with_reducible rfl))
        try simp only [List.getElem_toArray, List.getElem_cons_succ, List.getElem_cons_zero, Act.put, List.setIfInBounds_toArray, List.set_cons_zero, List.set_cons_succ]
        refine wpAnyH_take (i := 6) (v := ?_) rfl (by kernel_rfl) (by kernel_rfl) (by kernel_rfl) (fun _ _ _ h => h) (Or.inl ⟨by rfl, ?_⟩) (by assumption) ?_
        rotate_left
        · (intro w hSw; (try dsimp only at hSw); go_simp; (try with_reducible rfl))
        try simp only [List.getElem_toArray, List.getElem_cons_succ, List.getElem_cons_zero, Act.put, List.setIfInBounds_toArray, List.set_cons_zero, List.set_cons_succ]
        refine wpAnyH_take (i := 7) (v := ?_) rfl (by kernel_rfl) (by kernel_rfl) (by kernel_rfl) (fun _ _ _ h => h) (Or.inl ⟨by rfl, ?_⟩) (by assumption) ?_
        rotate_left
        · (intro w hSw; (try dsimp only at hSw); go_simp; (try with_reducible rfl))
        try simp only [List.getElem_toArray, List.getElem_cons_succ, List.getElem_cons_zero, Act.put, List.setIfInBounds_toArray, List.set_cons_zero, List.set_cons_succ]
        refine wpAnyH_take (i := 8) (v := ?_) rfl (by kernel_rfl) (by kernel_rfl) (by kernel_rfl) (fun _ _ _ h => h) (Or.inl ⟨by rfl, ?_⟩) (by assumption) ?_
        rotate_left
        · (intro w hSw; (try dsimp only at hSw); go_simp; (try with_reducible rfl))
        try simp only [List.getElem_toArray, List.getElem_cons_succ, List.getElem_cons_zero, Act.put, List.setIfInBounds_toArray, List.set_cons_zero, List.set_cons_succ]
        refine wpAnyH_take (i := 9) (v := ?_) rfl (by kernel_rfl) (by kernel_rfl) (by kernel_rfl) (fun _ _ _ h => h) (Or.inl ⟨by rfl, ?_⟩) (by assumption) ?_
        rotate_left
        · (intro w hSw; (try dsimp only at hSw); go_simp; (try with_reducible rfl))
        try simp only [List.getElem_toArray, List.getElem_cons_succ, List.getElem_cons_zero, Act.put, List.setIfInBounds_toArray, List.set_cons_zero, List.set_cons_succ]
        refine wpAnyH_take (i := 11) (v := ?_) rfl (by kernel_rfl) (by kernel_rfl) (by kernel_rfl) (fun _ _ _ h => h) (Or.inl ⟨by rfl, ?_⟩) (by assumption) ?_
        rotate_left
        · (intro w hSw; (try dsimp only at hSw); go_simp; (try with_reducible rfl))
        try simp only [List.getElem_toArray, List.getElem_cons_succ, List.getElem_cons_zero, Act.put, List.setIfInBounds_toArray, List.set_cons_zero, List.set_cons_succ]
        refine wpAnyH_take (i := 12) (v := ?_) rfl (by kernel_rfl) (by kernel_rfl) (by kernel_rfl) (fun _ _ _ h => h) (Or.inl ⟨by rfl, ?_⟩) (by assumption) ?_
        rotate_left
        · (intro w hSw; (try dsimp only at hSw); go_simp; (try with_reducible rfl))
        try simp only [List.getElem_toArray, List.getElem_cons_succ, List.getElem_cons_zero, Act.put, List.setIfInBounds_toArray, List.set_cons_zero, List.set_cons_succ]
        refine wpAnyH_ready (rs := [5]) (by kernel_rfl) (by simp) ?_
        refine AllReadyH.cons rfl (fun K hK => ?_) AllReadyH.nil
        go_simp
        (with_reducible refine (Less_calls _ _ _ h0 h1 h2 h3).mono ?_); rintro e w9 ⟨q, rfl, hk⟩; replace HKd := Lib.hid (HKd.out.trans' hk); replace HZd := Lib.hid (hk.heap HZd.out (by simp))
        go_wp2_with fail
        refine hK.out _ _ ?_ (fun hHeld => ?_)
        · (go_split_ands; refine ⟨?_, ?_⟩ <;> (refine hk.cell ?_ (by simp); assumption))
        clear hK K
        try simp only [List.getElem_toArray, List.getElem_cons_succ, List.getElem_cons_zero, Act.put, List.setIfInBounds_toArray, List.set_cons_zero, List.set_cons_succ]
        refine wpAnyH_ready (rs := [10]) (by kernel_rfl) (by simp) ?_
        refine AllReadyH.cons rfl (fun K hK => ?_) AllReadyH.nil
        go_simp
        (with_reducible refine (Equal_calls _ _ _ h0 h1 h2 h3).mono ?_); rintro e w9 ⟨p, rfl, hk⟩; replace HKd := Lib.hid (HKd.out.trans' hk); replace HZd := Lib.hid (hk.heap HZd.out (by simp))
        go_wp2_with fail
        refine hK.out _ _ ?_ (fun hHeld => ?_)
        · (go_split_ands; refine ⟨?_, ?_⟩ <;> (refine hk.cell ?_ (by simp); assumption))
        clear hK K
        try simp only [List.getElem_toArray, List.getElem_cons_succ, List.getElem_cons_zero, Act.put, List.setIfInBounds_toArray, List.set_cons_zero, List.set_cons_succ]
        refine wpAnyH_ready (rs := [13]) (by kernel_rfl) (by simp) ?_
        refine AllReadyH.cons rfl (fun K hK => ?_) AllReadyH.nil
        go_simp
        (with_reducible refine (l03Nan_calls _ _ h0 h1).mono ?_); rintro e w9 ⟨rfl, hk⟩; rw [hpn]; replace HKd := Lib.hid (HKd.out.trans' hk); replace HZd := Lib.hid (hk.heap HZd.out (by simp))
        go_wp2_with fail
        refine hK.out _ _ ?_ (fun hHeld => ?_)
        · (go_split_ands; refine ⟨?_, ?_⟩ <;> (refine hk.cell ?_ (by simp); assumption))
        clear hK K
        try simp only [List.getElem_toArray, List.getElem_cons_succ, List.getElem_cons_zero, Act.put, List.setIfInBounds_toArray, List.set_cons_zero, List.set_cons_succ]
        refine wpAnyH_take (i := 14) (v := ?_) rfl (by kernel_rfl) (by kernel_rfl) (by kernel_rfl) (fun _ _ _ h => h) (Or.inl ⟨by rfl, ?_⟩) (by assumption) ?_
        rotate_left
        · (intro w hSw; (try dsimp only at hSw); go_simp; (try with_reducible rfl))
        try simp only [List.getElem_toArray, List.getElem_cons_succ, List.getElem_cons_zero, Act.put, List.setIfInBounds_toArray, List.set_cons_zero, List.set_cons_succ]
        refine wpAnyH_take (i := 15) (v := undef) rfl (by kernel_rfl) (by kernel_rfl) (by kernel_rfl) (fun _ _ _ h => h) (Or.inr ⟨by rfl, rfl⟩) (by assumption) ?_
        try simp only [List.getElem_toArray, List.getElem_cons_succ, List.getElem_cons_zero, Act.put, List.setIfInBounds_toArray, List.set_cons_zero, List.set_cons_succ]
        refine wpAnyH_take (i := 16) (v := undef) rfl (by kernel_rfl) (by kernel_rfl) (by kernel_rfl) (fun _ _ _ h => h) (Or.inr ⟨by rfl, rfl⟩) (by assumption) ?_
        try simp only [List.getElem_toArray, List.getElem_cons_succ, List.getElem_cons_zero, Act.put, List.setIfInBounds_toArray, List.set_cons_zero, List.set_cons_succ]
        refine wpAnyH_take (i := 17) (v := undef) rfl (by kernel_rfl) (by kernel_rfl) (by kernel_rfl) (fun _ _ _ h => h) (Or.inr ⟨by rfl, rfl⟩) (by assumption) ?_
        try simp only [List.getElem_toArray, List.getElem_cons_succ, List.getElem_cons_zero, Act.put, List.setIfInBounds_toArray, List.set_cons_zero, List.set_cons_succ]
        refine wpAnyH_take (i := 18) (v := ?_) rfl (by kernel_rfl) (by kernel_rfl) (by kernel_rfl) (fun _ _ _ h => h) (Or.inl ⟨by rfl, ?_⟩) (by assumption) ?_
        rotate_left
        · (intro w hSw; (try dsimp only at hSw); go_simp; (try with_reducible rfl))
        try simp only [List.getElem_toArray, List.getElem_cons_succ, List.getElem_cons_zero, Act.put, List.setIfInBounds_toArray, List.set_cons_zero, List.set_cons_succ]
        refine wpAnyH_ready (rs := [19]) (by kernel_rfl) (by simp) ?_
        refine AllReadyH.cons rfl (fun K hK => ?_) AllReadyH.nil
        go_simp
        (with_reducible refine (l17Order_calls _ _ _ _ _).mono ?_); rintro e w9 ⟨z, rfl, hz0, hz1, hk⟩; replace HKd := Lib.hid (HKd.out.trans' hk); replace HZd := Lib.hid (hk.heap HZd.out (by simp)); obtain ⟨c30, c31, c32, c33⟩ := four_blk HZd.out; obtain ⟨f30, f31, f32, f33⟩ := four_frozen HZd.out
        go_wp2_with fail
        refine hK.out _ _ ?_ (fun hHeld => ?_)
        · (go_split_ands; refine ⟨?_, ?_⟩ <;> (refine hk.cell ?_ (by simp); assumption))
        clear hK K
        try simp only [List.getElem_toArray, List.getElem_cons_succ, List.getElem_cons_zero, Act.put, List.setIfInBounds_toArray, List.set_cons_zero, List.set_cons_succ]
        refine wpAnyH_ready (rs := [20]) (by kernel_rfl) (by simp) ?_
        refine AllReadyH.cons rfl (fun K hK => ?_) AllReadyH.nil
        go_simp
        refine hK.out _ _ ?_ (fun hHeld => ?_)
        · first | go_keep | (go_split_ands; constructor <;> (simp [*]; done))
        clear hK K
        try simp only [List.getElem_toArray, List.getElem_cons_succ, List.getElem_cons_zero, Act.put, List.setIfInBounds_toArray, List.set_cons_zero, List.set_cons_succ]
        refine wpAnyH_take (i := 21) (v := ?_) rfl (by kernel_rfl) (by kernel_rfl) (by kernel_rfl) (fun _ _ _ h => h) (Or.inl ⟨by rfl, ?_⟩) (by assumption) ?_
        rotate_left
        · (intro w hSw; (try dsimp only at hSw); go_simp; (try with_reducible rfl))
        try simp only [List.getElem_toArray, List.getElem_cons_succ, List.getElem_cons_zero, Act.put, List.setIfInBounds_toArray, List.set_cons_zero, List.set_cons_succ]
        refine wpAnyH_done (by kernel_rfl) ?_ _
        go_wp2_with fail
        refine bodyPost_ret (v := .tuple #[.agg #[.int .i64 1, .int .u64 z, .string ⟨#[]⟩, .int .i64 0], .string ⟨#[]⟩]) (by simp only [results, Tryz.results17]; simp [go_sem, *]) rfl ⟨1, z, ⟨#[]⟩, 0, (by rw [HB.out]), HKd.out.four (.inr SC.out) _ _ _ _⟩
      case false =>
        refine wp_region_held_drew (S := fun w' => w'.cell? ⟨A, 1, none⟩ = some (.int .u64 n) ∧ w'.cell? ⟨B, 1, none⟩ = some (.int .u64 n')) (by kernel_rfl) ?_ (fun hHeld => ?_)
        · first | go_keep | (constructor <;> assumption)
        refine wpAnyH_take (i := 0) (v := ?_) rfl (by kernel_rfl) (by kernel_rfl) (by kernel_rfl) (fun _ _ _ h => h) (Or.inl ⟨by rfl, ?_⟩) (by assumption) ?_
        rotate_left
        · (intro w hSw; (try dsimp only at hSw); go_simp; (try with_reducible rfl))
        try simp only [List.getElem_toArray, List.getElem_cons_succ, List.getElem_cons_zero, Act.put, List.setIfInBounds_toArray, List.set_cons_zero, List.set_cons_succ]
        refine wpAnyH_take (i := 1) (v := ?_) rfl (by kernel_rfl) (by kernel_rfl) (by kernel_rfl) (fun _ _ _ h => h) (Or.inl ⟨by rfl, ?_⟩) (by assumption) ?_
        rotate_left
        · (intro w hSw; (try dsimp only at hSw); go_simp; (try with_reducible rfl))
        try simp only [List.getElem_toArray, List.getElem_cons_succ, List.getElem_cons_zero, Act.put, List.setIfInBounds_toArray, List.set_cons_zero, List.set_cons_succ]
        refine wpAnyH_take (i := 2) (v := ?_) rfl (by kernel_rfl) (by kernel_rfl) (by kernel_rfl) (fun _ _ _ h => h) (Or.inl ⟨by rfl, ?_⟩) (by assumption) ?_
        rotate_left
        · (intro w hSw; (try dsimp only at hSw); go_simp; (try with_reducible rfl))
        try simp only [List.getElem_toArray, List.getElem_cons_succ, List.getElem_cons_zero, Act.put, List.setIfInBounds_toArray, List.set_cons_zero, List.set_cons_succ]
        refine wpAnyH_take (i := 3) (v := ?_) rfl (by kernel_rfl) (by kernel_rfl) (by kernel_rfl) (fun _ _ _ h => h) (Or.inl ⟨by rfl, ?_⟩) (by assumption) ?_
        rotate_left
        · (intro w hSw; (try dsimp only at hSw); go_simp; (try with_reducible rfl))
        try simp only [List.getElem_toArray, List.getElem_cons_succ, List.getElem_cons_zero, Act.put, List.setIfInBounds_toArray, List.set_cons_zero, List.set_cons_succ]
        refine wpAnyH_take (i := 4) (v := ?_) rfl (by kernel_rfl) (by kernel_rfl) (by kernel_rfl) (fun _ _ _ h => h) (Or.inl ⟨by rfl, ?_⟩) (by assumption) ?_
        rotate_left
        · (intro w hSw; (try dsimp only at hSw); go_simp; (try with_reducible rfl))
        try simp only [List.getElem_toArray, List.getElem_cons_succ, List.getElem_cons_zero, Act.put, List.setIfInBounds_toArray, List.set_cons_zero, List.set_cons_succ]
        refine wpAnyH_take (i := 6) (v := ?_) rfl (by kernel_rfl) (by kernel_rfl) (by kernel_rfl) (fun _ _ _ h => h) (Or.inl ⟨by rfl, ?_⟩) (by assumption) ?_
        rotate_left
        · (intro w hSw; (try dsimp only at hSw); go_simp; (try with_reducible rfl))
        try simp only [List.getElem_toArray, List.getElem_cons_succ, List.getElem_cons_zero, Act.put, List.setIfInBounds_toArray, List.set_cons_zero, List.set_cons_succ]
        refine wpAnyH_take (i := 7) (v := ?_) rfl (by kernel_rfl) (by kernel_rfl) (by kernel_rfl) (fun _ _ _ h => h) (Or.inl ⟨by rfl, ?_⟩) (by assumption) ?_
        rotate_left
        · (intro w hSw; (try dsimp only at hSw); go_simp; (try with_reducible rfl))
        try simp only [List.getElem_toArray, List.getElem_cons_succ, List.getElem_cons_zero, Act.put, List.setIfInBounds_toArray, List.set_cons_zero, List.set_cons_succ]
        refine wpAnyH_take (i := 8) (v := ?_) rfl (by kernel_rfl) (by kernel_rfl) (by kernel_rfl) (fun _ _ _ h => h) (Or.inl ⟨by rfl, ?_⟩) (by assumption) ?_
        rotate_left
        · (intro w hSw; (try dsimp only at hSw); go_simp; (try with_reducible rfl))
        try simp only [List.getElem_toArray, List.getElem_cons_succ, List.getElem_cons_zero, Act.put, List.setIfInBounds_toArray, List.set_cons_zero, List.set_cons_succ]
        refine wpAnyH_take (i := 9) (v := ?_) rfl (by kernel_rfl) (by kernel_rfl) (by kernel_rfl) (fun _ _ _ h => h) (Or.inl ⟨by rfl, ?_⟩) (by assumption) ?_
        rotate_left
        · (intro w hSw; (try dsimp only at hSw); go_simp; (try with_reducible rfl))
        try simp only [List.getElem_toArray, List.getElem_cons_succ, List.getElem_cons_zero, Act.put, List.setIfInBounds_toArray, List.set_cons_zero, List.set_cons_succ]
        refine wpAnyH_take (i := 11) (v := ?_) rfl (by kernel_rfl) (by kernel_rfl) (by kernel_rfl) (fun _ _ _ h => h) (Or.inl ⟨by rfl, ?_⟩) (by assumption) ?_
        rotate_left
        · (intro w hSw; (try dsimp only at hSw); go_simp; (try with_reducible rfl))
        try simp only [List.getElem_toArray, List.getElem_cons_succ, List.getElem_cons_zero, Act.put, List.setIfInBounds_toArray, List.set_cons_zero, List.set_cons_succ]
        refine wpAnyH_take (i := 12) (v := ?_) rfl (by kernel_rfl) (by kernel_rfl) (by kernel_rfl) (fun _ _ _ h => h) (Or.inl ⟨by rfl, ?_⟩) (by assumption) ?_
        rotate_left
        · (intro w hSw; (try dsimp only at hSw); go_simp; (try with_reducible rfl))
        try simp only [List.getElem_toArray, List.getElem_cons_succ, List.getElem_cons_zero, Act.put, List.setIfInBounds_toArray, List.set_cons_zero, List.set_cons_succ]
        refine wpAnyH_ready (rs := [5]) (by kernel_rfl) (by simp) ?_
        refine AllReadyH.cons rfl (fun K hK => ?_) AllReadyH.nil
        go_simp
        (with_reducible refine (Less_calls _ _ _ h0 h1 h2 h3).mono ?_); rintro e w9 ⟨q, rfl, hk⟩; replace HKd := Lib.hid (HKd.out.trans' hk); replace HZd := Lib.hid (hk.heap HZd.out (by simp))
        go_wp2_with fail
        refine hK.out _ _ ?_ (fun hHeld => ?_)
        · (go_split_ands; refine ⟨?_, ?_⟩ <;> (refine hk.cell ?_ (by simp); assumption))
        clear hK K
        try simp only [List.getElem_toArray, List.getElem_cons_succ, List.getElem_cons_zero, Act.put, List.setIfInBounds_toArray, List.set_cons_zero, List.set_cons_succ]
        refine wpAnyH_ready (rs := [10]) (by kernel_rfl) (by simp) ?_
        refine AllReadyH.cons rfl (fun K hK => ?_) AllReadyH.nil
        go_simp
        (with_reducible refine (Equal_calls _ _ _ h0 h1 h2 h3).mono ?_); rintro e w9 ⟨p, rfl, hk⟩; replace HKd := Lib.hid (HKd.out.trans' hk); replace HZd := Lib.hid (hk.heap HZd.out (by simp))
        go_wp2_with fail
        refine hK.out _ _ ?_ (fun hHeld => ?_)
        · (go_split_ands; refine ⟨?_, ?_⟩ <;> (refine hk.cell ?_ (by simp); assumption))
        clear hK K
        try simp only [List.getElem_toArray, List.getElem_cons_succ, List.getElem_cons_zero, Act.put, List.setIfInBounds_toArray, List.set_cons_zero, List.set_cons_succ]
        refine wpAnyH_ready (rs := [13]) (by kernel_rfl) (by simp) ?_
        refine AllReadyH.cons rfl (fun K hK => ?_) AllReadyH.nil
        go_simp
        (with_reducible refine (l03Nan_calls _ _ h0 h1).mono ?_); rintro e w9 ⟨rfl, hk⟩; rw [hpn]; replace HKd := Lib.hid (HKd.out.trans' hk); replace HZd := Lib.hid (hk.heap HZd.out (by simp))
        go_wp2_with fail
        refine hK.out _ _ ?_ (fun hHeld => ?_)
        · (go_split_ands; refine ⟨?_, ?_⟩ <;> (refine hk.cell ?_ (by simp); assumption))
        clear hK K
        try simp only [List.getElem_toArray, List.getElem_cons_succ, List.getElem_cons_zero, Act.put, List.setIfInBounds_toArray, List.set_cons_zero, List.set_cons_succ]
        refine wpAnyH_take (i := 14) (v := ?_) rfl (by kernel_rfl) (by kernel_rfl) (by kernel_rfl) (fun _ _ _ h => h) (Or.inl ⟨by rfl, ?_⟩) (by assumption) ?_
        rotate_left
        · (intro w hSw; (try dsimp only at hSw); go_simp; (try with_reducible rfl))
        try simp only [List.getElem_toArray, List.getElem_cons_succ, List.getElem_cons_zero, Act.put, List.setIfInBounds_toArray, List.set_cons_zero, List.set_cons_succ]
        refine wpAnyH_take (i := 15) (v := ?_) rfl (by kernel_rfl) (by kernel_rfl) (by kernel_rfl) (fun _ _ _ h => h) (Or.inl ⟨by rfl, ?_⟩) (by assumption) ?_
        rotate_left
        · (intro w hSw; (try dsimp only at hSw); go_simp; (try with_reducible rfl))
        try simp only [List.getElem_toArray, List.getElem_cons_succ, List.getElem_cons_zero, Act.put, List.setIfInBounds_toArray, List.set_cons_zero, List.set_cons_succ]
        refine wpAnyH_take (i := 16) (v := ?_) rfl (by kernel_rfl) (by kernel_rfl) (by kernel_rfl) (fun _ _ _ h => h) (Or.inl ⟨by rfl, ?_⟩) (by assumption) ?_
        rotate_left
        · (intro w hSw; (try dsimp only at hSw); go_simp; (try with_reducible rfl))
        try simp only [List.getElem_toArray, List.getElem_cons_succ, List.getElem_cons_zero, Act.put, List.setIfInBounds_toArray, List.set_cons_zero, List.set_cons_succ]
        refine wpAnyH_ready (rs := [17]) (by kernel_rfl) (by simp) ?_
        refine AllReadyH.cons rfl (fun K hK => ?_) AllReadyH.nil
        go_simp
        (with_reducible refine (l03Nan_calls _ _ h2 h3).mono ?_); rintro e w9 ⟨rfl, hk⟩; replace HKd := Lib.hid (HKd.out.trans' hk); replace HZd := Lib.hid (hk.heap HZd.out (by simp))
        go_wp2_with fail
        refine hK.out _ _ ?_ (fun hHeld => ?_)
        · (go_split_ands; refine ⟨?_, ?_⟩ <;> (refine hk.cell ?_ (by simp); assumption))
        clear hK K
        try simp only [List.getElem_toArray, List.getElem_cons_succ, List.getElem_cons_zero, Act.put, List.setIfInBounds_toArray, List.set_cons_zero, List.set_cons_succ]
        refine wpAnyH_take (i := 18) (v := ?_) rfl (by kernel_rfl) (by kernel_rfl) (by kernel_rfl) (fun _ _ _ h => h) (Or.inl ⟨by rfl, ?_⟩) (by assumption) ?_
        rotate_left
        · (intro w hSw; (try dsimp only at hSw); go_simp; (try with_reducible rfl))
        try simp only [List.getElem_toArray, List.getElem_cons_succ, List.getElem_cons_zero, Act.put, List.setIfInBounds_toArray, List.set_cons_zero, List.set_cons_succ]
        refine wpAnyH_ready (rs := [19]) (by kernel_rfl) (by simp) ?_
        refine AllReadyH.cons rfl (fun K hK => ?_) AllReadyH.nil
        go_simp
        (with_reducible refine (l17Order_calls _ _ _ _ _).mono ?_); rintro e w9 ⟨z, rfl, hz0, hz1, hk⟩; replace HKd := Lib.hid (HKd.out.trans' hk); replace HZd := Lib.hid (hk.heap HZd.out (by simp)); obtain ⟨c30, c31, c32, c33⟩ := four_blk HZd.out; obtain ⟨f30, f31, f32, f33⟩ := four_frozen HZd.out
        go_wp2_with fail
        refine hK.out _ _ ?_ (fun hHeld => ?_)
        · (go_split_ands; refine ⟨?_, ?_⟩ <;> (refine hk.cell ?_ (by simp); assumption))
        clear hK K
        try simp only [List.getElem_toArray, List.getElem_cons_succ, List.getElem_cons_zero, Act.put, List.setIfInBounds_toArray, List.set_cons_zero, List.set_cons_succ]
        refine wpAnyH_ready (rs := [20]) (by kernel_rfl) (by simp) ?_
        refine AllReadyH.cons rfl (fun K hK => ?_) AllReadyH.nil
        go_simp
        refine hK.out _ _ ?_ (fun hHeld => ?_)
        · first | go_keep | (go_split_ands; constructor <;> (simp [*]; done))
        clear hK K
        try simp only [List.getElem_toArray, List.getElem_cons_succ, List.getElem_cons_zero, Act.put, List.setIfInBounds_toArray, List.set_cons_zero, List.set_cons_succ]
        refine wpAnyH_take (i := 21) (v := ?_) rfl (by kernel_rfl) (by kernel_rfl) (by kernel_rfl) (fun _ _ _ h => h) (Or.inl ⟨by rfl, ?_⟩) (by assumption) ?_
        rotate_left
        · (intro w hSw; (try dsimp only at hSw); go_simp; (try with_reducible rfl))
        try simp only [List.getElem_toArray, List.getElem_cons_succ, List.getElem_cons_zero, Act.put, List.setIfInBounds_toArray, List.set_cons_zero, List.set_cons_succ]
        refine wpAnyH_done (by kernel_rfl) ?_ _
        go_wp2_with fail
        refine bodyPost_ret (v := .tuple #[.agg #[.int .i64 1, .int .u64 z, .string ⟨#[]⟩, .int .i64 0], .string ⟨#[]⟩]) (by simp only [results, Tryz.results17]; simp [go_sem, *]) rfl ⟨1, z, ⟨#[]⟩, 0, (by rw [HB.out]), HKd.out.four (.inr SC.out) _ _ _ _⟩
    | false =>
      have hc : ¬ (6 ≤ op ∧ op ≤ 9) := fun h => by rw [(cmpB_iff op).2 h] at hcb; cases hcb
      have HC := Lib.hid hc
      clear hc
      by_cases h15 : 1 ≤ op ∧ op ≤ 5
      · have HB := Lib.hid (bad_num op (t.size + t'.size) (by omega))
        have hcase : op = 1 ∨ op = 2 ∨ op = 3 ∨ op = 4 ∨ op = 5 := by omega
        clear h15
        rcases hcase with rfl | rfl | rfl | rfl | rfl
        all_goals
          go_wp2_with (first | (go_at_call 37; (with_reducible refine (l01In_calls _ _).mono ?_); rintro e w' ⟨rfl, rfl⟩) | (go_at_call 54; (with_reducible refine (Add_calls _ _ _ h0 h1 h2 h3).mono ?_); rintro e w1 ⟨x, rfl, hx0, hx1, hk⟩; replace HK := Lib.hid (HK.out.trans' hk); replace HZ := Lib.hid (hk.heap HZ.out (by simp)); obtain ⟨c0, c1, c2, c3⟩ := four_blk HZ.out; obtain ⟨f0, f1, f2, f3⟩ := four_frozen HZ.out; clear hk) | (go_at_call 56; (with_reducible refine (Mul_calls _ _ _ h0 h1 h2 h3).mono ?_); rintro e w1 ⟨x, rfl, hx0, hx1, hk⟩; replace HK := Lib.hid (HK.out.trans' hk); replace HZ := Lib.hid (hk.heap HZ.out (by simp)); obtain ⟨c0, c1, c2, c3⟩ := four_blk HZ.out; obtain ⟨f0, f1, f2, f3⟩ := four_frozen HZ.out; clear hk) | (go_at_call 57; (with_reducible refine (Div_calls _ _ _ h0 h1 h2 h3).mono ?_); rintro e w1 ⟨x, rfl, hx0, hx1, hk⟩; replace HK := Lib.hid (HK.out.trans' hk); replace HZ := Lib.hid (hk.heap HZ.out (by simp)); obtain ⟨c0, c1, c2, c3⟩ := four_blk HZ.out; obtain ⟨f0, f1, f2, f3⟩ := four_frozen HZ.out; clear hk) | (go_at_call 58; (with_reducible refine (Rem_calls _ _ _ h0 h1 h2 h3).mono ?_); rintro e w1 ⟨x, rfl, hx0, hx1, hk⟩; replace HK := Lib.hid (HK.out.trans' hk); replace HZ := Lib.hid (hk.heap HZ.out (by simp)); obtain ⟨c0, c1, c2, c3⟩ := four_blk HZ.out; obtain ⟨f0, f1, f2, f3⟩ := four_frozen HZ.out; clear hk) | (go_at_call 55; (with_reducible refine (sSub_calls _ _ _ h0 h1 h2 h3).mono ?_); rintro e w1 ⟨x, rfl, hx0, hx1, hk⟩; replace HK := Lib.hid (HK.out.trans' hk); replace HZ := Lib.hid (hk.heap HZ.out (by simp)); obtain ⟨c0, c1, c2, c3⟩ := four_blk HZ.out; obtain ⟨f0, f1, f2, f3⟩ := four_frozen HZ.out; clear hk) | (go_at_call 53; (with_reducible refine (l17Number_calls _ _).mono ?_); rintro e w1 ⟨rfl, hk⟩; replace HK := Lib.hid (HK.out.trans' hk); replace HZ := Lib.hid (hk.heap HZ.out (by simp)); obtain ⟨c0, c1, c2, c3⟩ := four_blk HZ.out; obtain ⟨f0, f1, f2, f3⟩ := four_frozen HZ.out; clear hk))
          refine bodyPost_ret (v := .tuple #[.agg #[.int .i64 2, .int .u64 x, .string ⟨#[]⟩, .int .i64 0], .string ⟨#[]⟩]) (by simp only [results, Tryz.results17]; simp [go_sem, *]) rfl ⟨2, x, ⟨#[]⟩, 0, (by rw [HB.out]), HK.out.four (.inr SC.out) _ _ _ _⟩
      · have HB := Lib.hid (bad_numno op (t.size + t'.size) (by have := HC.out; omega) (by have := HO.out; have := HO2.out; omega))
        have g1 : (op == 1) = false := by simp; omega
        have g2 : (op == 2) = false := by simp; omega
        have g3 : (op == 3) = false := by simp; omega
        have g4 : (op == 4) = false := by simp; omega
        have g5 : (op == 5) = false := by simp; omega
        clear h15
        go_wp2_with (go_at_call 37; (with_reducible refine (l01In_calls _ _).mono ?_); rintro e w' ⟨rfl, rfl⟩)
        refine bodyPost_ret (v := .tuple #[.agg #[.int .i64 0, .int .u64 0, .string ⟨#[]⟩, .int .i64 0], .string ⟨#[116, 121, 112, 101]⟩]) (by simp only [results, Tryz.results17]; simp [go_sem, *]) rfl ⟨0, 0, ⟨#[]⟩, 0, (by rw [HB.out]), HK.out.four (.inr SC.out) _ _ _ _⟩
  have hkk : ((k == 2) = false ∧ (k == 3) = false) ∨ (k = 2 ∧ (k' == 2) = false) ∨ (k = 3 ∧ (k' == 3) = false) := by
    simp only [beq_eq_false_iff_ne, ne_eq]; omega
  have HB := Lib.hid (bad_mixed op k k' (t.size + t'.size) (by have := HO.out; have := HO2.out; omega) hn hm)
  rcases hkk with ⟨q2, q3⟩ | ⟨rfl, q2⟩ | ⟨rfl, q3⟩
  all_goals clear hn hm
  all_goals
    go_wp2_with (go_at_call 37; (with_reducible refine (l01In_calls _ _).mono ?_); rintro e w' ⟨rfl, rfl⟩)
    all_goals
      refine bodyPost_ret (v := .tuple #[.agg #[.int .i64 0, .int .u64 0, .string ⟨#[]⟩, .int .i64 0], .string ⟨#[116, 121, 112, 101]⟩]) (by simp only [results, Tryz.results17]; simp [go_sem, *]) rfl ⟨0, 0, ⟨#[]⟩, 0, (by rw [HB.out]), HK.out.four (.inr SC.out) _ _ _ _⟩
end Go.Proofs.YtjapohefiggbaaaGreatDoor
