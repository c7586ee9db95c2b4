/- The law on drawn values. -/
import Derived.Test.YtjapohefiggbaaaGreatDoorValF
import Derived.Deep.RegionHeld3
import Derived.Deep.DrawnRows
namespace Go.Proofs.YtjapohefiggbaaaGreatDoor
open Go.RowKit
attribute [local go_sem ↓] Go.wp_at_zero Go.wp_at_succ

/-- A truth that tells whether it is so. -/
def Is (q : Bool) (P : Prop) : Prop := q = true ↔ P
theorem RetIff.to {P : Prop} {w w' : World} {e : Ending} (h : RetIff P w e w') (q : Bool) (hq : Is q P) : e = .returned (.bool q) ∧ Keep [] w w' := by
  obtain ⟨b, rfl, hb, hk⟩ := h
  have : b = q := by rw [Bool.eq_iff_iff, hb]; exact Iff.symm hq
  exact ⟨by rw [this], hk⟩

set_option maxRecDepth 100000 in
theorem big_calls (A : Option Addr) (n c : Nat) (w : World) : Calls Tryz.prog 5 #[.slice A n c] w fun e w' => e = .returned (.bool (decide (1048576 < (n : Int)))) ∧ w = w' := by
  go_enter Tryz.func5, Tryz.ntmps5
  go_wp2_with fail
  go_ret
  exact ⟨rfl, rfl⟩

set_option maxRecDepth 100000 in
set_option maxHeartbeats 400000 in
theorem nan_calls (x : Int) (w : World) (h0 : 0 ≤ x) (h1 : x ≤ 18446744073709551615) :
    Calls Tryz.prog 18 #[.int .u64 x] w fun e w' => e = .returned (.bool (pk x == 1)) ∧ Keep [] w w' := by
  go_enter Tryz.func18, Tryz.ntmps18
  go_wp2_with fail
  (with_reducible refine (PartsOfNumber_calls x _ h0 h1).mono ?_); rintro e w1 ⟨rfl, hk⟩
  have hfd := field_kind (pk x) (pb x) (pm x) (px x)
  rcases pk_four x with h | h | h | h <;> rw [h] at hfd ⊢
  all_goals
    go_wp2_with fail
    go_ret
    exact ⟨by rw [h]; rfl, hk⟩

theorem iDoBinary_calls (op k n : Int) (t : ByteArray) (r k' n' : Int) (t' : ByteArray) (r' : Int) (w : World) (h0 : 0 ≤ n) (h1 : n ≤ 18446744073709551615) (h2 : 0 ≤ n') (h3 : n' ≤ 18446744073709551615) (ht : t.size ≤ 5000) (ht' : t'.size ≤ 5000) :
    Calls Tryz.prog 16 #[.int .i64 op, .agg #[.int .i64 k, .int .u64 n, .string t, .int .i64 r], .agg #[.int .i64 k', .int .u64 n', .string t', .int .i64 r']] w (RetD (badOf op k k' (t.size + t'.size)) w) := by
  by_cases hn : k = 2 ∧ k' = 2
  · obtain ⟨rfl, rfl⟩ := hn
    exact iDoNum op n t r n' t' r' w h0 h1 h2 h3 ht ht'
  by_cases hm : k = 3 ∧ k' = 3
  · obtain ⟨rfl, rfl⟩ := hm
    exact iDoTxt op n t r n' t' r' w h0 h1 h2 h3 ht ht'
  exact iDoMix op k n t r k' n' t' r' w h0 h1 h2 h3 ht ht' hn hm

theorem heap_drew {w : World} {g : Nat} {o : Obj} (h : w.heap[g]? = some o) : w.drew.heap[g]? = some o := h
theorem ex_bool (P : Prop) : ∃ q : Bool, Is q P := by
  by_cases h : P
  · exact ⟨true, by simp [Is, h]⟩
  · exact ⟨false, by simp [Is, h]⟩

theorem xor63 (x : Int) (h0 : 0 ≤ x) (h1 : x ≤ 18446744073709551615) : Go.bits .xor .u64 x 9223372036854775808 = ((x.toNat ^^^ 2 ^ 63 : Nat) : Int) := by
  show IntKind.u64.wrap _ = _
  have e : (BitVec.ofInt IntKind.u64.bits x ^^^ BitVec.ofInt IntKind.u64.bits 9223372036854775808).toNat = x.toNat ^^^ 2 ^ 63 := by
    show (BitVec.ofInt 64 x ^^^ BitVec.ofInt 64 9223372036854775808).toNat = _
    rw [BitVec.toNat_xor]
    have : (BitVec.ofInt 64 x).toNat = x.toNat := by simp [BitVec.toNat_ofInt]; omega
    rw [this]; rfl
  have := neg_lt x.toNat (by omega)
  rw [e, IntWalk.u64_in _ (by omega)]
theorem pk_mod (x y : Int) (hx : 0 ≤ x) (hx1 : x ≤ 18446744073709551615) (hy : 0 ≤ y) (hy1 : y ≤ 18446744073709551615) (h : x % 9223372036854775808 = y % 9223372036854775808) : (pk x = 1) ↔ (pk y = 1) := by
  have a := pk_nan x hx hx1
  have b := pk_nan y hy hy1
  rw [h, ← b] at a
  rw [Bool.eq_iff_iff] at a
  simpa using a
theorem ng_twice (x : Int) (h0 : 0 ≤ x) (h1 : x ≤ 18446744073709551615) (h : pk x ≠ 1) : ng (ng x) = x := by
  have e1 : ng x = ((x.toNat ^^^ 2 ^ 63 : Nat) : Int) := by unfold ng; rw [if_neg h, xor63 x h0 h1]
  have hlt := neg_lt x.toNat (by omega)
  have hm : (x.toNat ^^^ 2 ^ 63) % 2 ^ 63 = x.toNat % 2 ^ 63 := by
    rw [Nat.xor_mod_two_pow]; simp
  have h2 : pk (ng x) ≠ 1 := by
    rw [e1]
    exact fun q => h ((pk_mod _ x (by omega) (by omega) h0 h1 (by omega)).1 q)
  have e2 : ng (ng x) = Go.bits .xor .u64 (ng x) 9223372036854775808 := by rw [show ng (ng x) = (if pk (ng x) = 1 then 9221120237041090560 else Go.bits .xor .u64 (ng x) 9223372036854775808) from rfl, if_neg h2]
  rw [e2, e1, xor63 _ (by omega) (by omega), Int.toNat_natCast, Nat.xor_assoc, Nat.xor_self, Nat.xor_zero]
  omega

set_option maxRecDepth 100000 in
set_option maxHeartbeats 8000000 in
theorem FnValues_calls (A : Option Addr) (n c : Nat) (w : World) (hr : Bytes w w.heap.size A n) :
    Calls Tryz.prog 4 #[.slice A n c] w fun e w' => e = .returned (.bool true) ∧ Keep [] w w' := by
  have HR := Lib.hid hr
  clear hr
  go_enter Tryz.func4, Tryz.ntmps4
  by_cases hbig : 1048576 < (n : Int)
  · go_wp2_with (go_at_call 5; (with_reducible refine (big_calls _ _ _ _).mono ?_); rintro e w' ⟨rfl, rfl⟩)
    go_ret
    exact ⟨rfl, Keep.refl _ _⟩
  · go_upto_region 3 with (go_at_call 5; (with_reducible refine (big_calls _ _ _ _).mono ?_); rintro e w' ⟨rfl, rfl⟩)
    go_wp2_with fail
    (with_reducible refine (DrawDoBinary_calls A n c _ (by omega) HR.out).mono ?_)
    rintro e w1 ⟨op, k, x, t, r, l, y, s, q, rfl, ⟨hx0, hx1, ht⟩, ⟨hy0, hy1, hs⟩, hk1⟩
    have ZA := heap_alloc (heap_new w1 (.cells #[.int .i64 k, .int .u64 x, .string t, .int .i64 r] 44)) (.cells #[.int .i64 l, .int .u64 y, .string s, .int .i64 q] 44)
    have ZB := heap_new (w1.alloc (.cells #[.int .i64 k, .int .u64 x, .string t, .int .i64 r] 44)) (.cells #[.int .i64 l, .int .u64 y, .string s, .int .i64 q] 44)
    have HK := Lib.hid ((hk1.alloc (.cells #[.int .i64 k, .int .u64 x, .string t, .int .i64 r] 44)).alloc (.cells #[.int .i64 l, .int .u64 y, .string s, .int .i64 q] 44))
    simp only [World.size_alloc] at ZB
    have hl1 := hk1.size
    clear hk1
    go_upto_region 4 with fail
    generalize (w1.alloc (.cells #[.int .i64 k, .int .u64 x, .string t, .int .i64 r] 44)).alloc (.cells #[.int .i64 l, .int .u64 y, .string s, .int .i64 q] 44) = W at *
    generalize w1.heap.size = P at *
    have nPQ : P ≠ P + 1 := by omega
    generalize P + 1 = Q at *
    obtain ⟨a0, a1, a2, a3⟩ := four_blk ZA
    obtain ⟨b0, b1, b2, b3⟩ := four_blk ZB
    have HA := Lib.hid ZA
    have HB := Lib.hid ZB
    clear ZA ZB hl1
    obtain ⟨qa, hqa⟩ := ex_bool (VOk k x t r)
    obtain ⟨qb, hqb⟩ := ex_bool (VOk l y s q)
    have HQA := Lib.hid hqa
    have HQB := Lib.hid hqb
    clear hqa hqb
    by_cases hall : qa = true ∧ qb = true
    case neg =>
      have hcase : qa = false ∨ (qa = true ∧ qb = false) := by
        cases qa <;> cases qb <;> simp at hall ⊢
      clear hall
      rcases hcase with rfl | ⟨rfl, rfl⟩
      all_goals
        go_wp2_with (first | (go_at_call 14; (with_reducible refine (sValueOk_calls k x t r _).mono ?_); rintro e w' hh; obtain ⟨rfl, hk⟩ := hh.to _ HQA.out; replace HK := Lib.hid (HK.out.trans' hk); replace HA := Lib.hid (hk.heap HA.out (by simp)); replace HB := Lib.hid (hk.heap HB.out (by simp)); obtain ⟨a0, a1, a2, a3⟩ := four_blk HA.out; obtain ⟨b0, b1, b2, b3⟩ := four_blk HB.out; clear hk) | (go_at_call 14; (with_reducible refine (sValueOk_calls l y s q _).mono ?_); rintro e w' hh; obtain ⟨rfl, hk⟩ := hh.to _ HQB.out; replace HK := Lib.hid (HK.out.trans' hk); replace HA := Lib.hid (hk.heap HA.out (by simp)); replace HB := Lib.hid (hk.heap HB.out (by simp)); obtain ⟨a0, a1, a2, a3⟩ := four_blk HA.out; obtain ⟨b0, b1, b2, b3⟩ := four_blk HB.out; clear hk) | (go_at_call 15; (with_reducible refine (iValueOk_calls k x t r _).mono ?_); rintro e w' hh; obtain ⟨rfl, hk⟩ := hh.to _ HQA.out; replace HK := Lib.hid (HK.out.trans' hk); replace HA := Lib.hid (hk.heap HA.out (by simp)); replace HB := Lib.hid (hk.heap HB.out (by simp)); obtain ⟨a0, a1, a2, a3⟩ := four_blk HA.out; obtain ⟨b0, b1, b2, b3⟩ := four_blk HB.out; clear hk) | (go_at_call 15; (with_reducible refine (iValueOk_calls l y s q _).mono ?_); rintro e w' hh; obtain ⟨rfl, hk⟩ := hh.to _ HQB.out; replace HK := Lib.hid (HK.out.trans' hk); replace HA := Lib.hid (hk.heap HA.out (by simp)); replace HB := Lib.hid (hk.heap HB.out (by simp)); obtain ⟨a0, a1, a2, a3⟩ := four_blk HA.out; obtain ⟨b0, b1, b2, b3⟩ := four_blk HB.out; clear hk))
        all_goals (go_ret; exact ⟨rfl, HK.out⟩)
    case pos =>
      obtain ⟨rfl, rfl⟩ := hall
      go_upto_region 6 with (first | (go_at_call 14; (with_reducible refine (sValueOk_calls k x t r _).mono ?_); rintro e w' hh; obtain ⟨rfl, hk⟩ := hh.to _ HQA.out; replace HK := Lib.hid (HK.out.trans' hk); replace HA := Lib.hid (hk.heap HA.out (by simp)); replace HB := Lib.hid (hk.heap HB.out (by simp)); obtain ⟨a0, a1, a2, a3⟩ := four_blk HA.out; obtain ⟨b0, b1, b2, b3⟩ := four_blk HB.out; clear hk) | (go_at_call 14; (with_reducible refine (sValueOk_calls l y s q _).mono ?_); rintro e w' hh; obtain ⟨rfl, hk⟩ := hh.to _ HQB.out; replace HK := Lib.hid (HK.out.trans' hk); replace HA := Lib.hid (hk.heap HA.out (by simp)); replace HB := Lib.hid (hk.heap HB.out (by simp)); obtain ⟨a0, a1, a2, a3⟩ := four_blk HA.out; obtain ⟨b0, b1, b2, b3⟩ := four_blk HB.out; clear hk))
      go_wp2_with fail
      (with_reducible refine (iDoBinary_calls op k x t r l y s q _ hx0 hx1 hy0 hy1 ht hs).mono ?_)
      rintro e w2 ⟨kv, nv, tv, rv, rfl, hv, hv0, hv1, hz, hk⟩
      replace HK := Lib.hid (HK.out.trans' hk); replace HA := Lib.hid (hk.heap HA.out (by simp)); replace HB := Lib.hid (hk.heap HB.out (by simp)); obtain ⟨a0, a1, a2, a3⟩ := four_blk HA.out; obtain ⟨b0, b1, b2, b3⟩ := four_blk HB.out; clear hk
      have HV := Lib.hid hv
      have HZ := Lib.hid hz
      clear hv hz
      have hS := fun W => sDoBinary_calls op k x t r l y s q W hx0 hx1 hy0 hy1 ht hs
      generalize badOf op k l (t.size + s.size) = bad at *
      have HS := Lib.hid hS
      clear hS
      have sPV : P < w2.heap.size := blk_lt HA.out
      have sQV : Q < w2.heap.size := blk_lt HB.out
      have HC := Lib.hid (heap_new w2 (.cells #[.int .i64 kv, .int .u64 nv, .string tv, .int .i64 rv] 44))
      have hk := (Keep.refl [] w2).alloc (.cells #[.int .i64 kv, .int .u64 nv, .string tv, .int .i64 rv] 44)
      replace HK := Lib.hid (HK.out.trans' hk)
      replace HA := Lib.hid (hk.heap HA.out (by simp))
      replace HB := Lib.hid (hk.heap HB.out (by simp))
      obtain ⟨a0, a1, a2, a3⟩ := four_blk HA.out
      obtain ⟨b0, b1, b2, b3⟩ := four_blk HB.out
      clear hk
      go_upto_region 7 with fail
      generalize w2.alloc (.cells #[.int .i64 kv, .int .u64 nv, .string tv, .int .i64 rv] 44) = W2 at *
      generalize w2.heap.size = R at *
      have nPR : P ≠ R := by omega
      have nQR : Q ≠ R := by omega
      obtain ⟨c0, c1, c2, c3⟩ := four_blk HC.out
      clear sPV sQV
      go_wp2_with fail
      (with_reducible refine (HS.out _).mono ?_)
      rintro e w3 ⟨k2, n2, t2, r2, rfl, hk⟩
      replace HK := Lib.hid (HK.out.trans' hk); replace HA := Lib.hid (hk.heap HA.out (by simp)); replace HB := Lib.hid (hk.heap HB.out (by simp)); obtain ⟨a0, a1, a2, a3⟩ := four_blk HA.out; obtain ⟨b0, b1, b2, b3⟩ := four_blk HB.out; replace HC := Lib.hid (hk.heap HC.out (by simp)); obtain ⟨c0, c1, c2, c3⟩ := four_blk HC.out; clear hk
      clear HS
      have hk := (Keep.refl [] w3).alloc (.cells #[.int .i64 k2, .int .u64 n2, .string t2, .int .i64 r2] 44)
      replace HK := Lib.hid (HK.out.trans' hk)
      replace HA := Lib.hid (hk.heap HA.out (by simp))
      replace HB := Lib.hid (hk.heap HB.out (by simp))
      replace HC := Lib.hid (hk.heap HC.out (by simp))
      obtain ⟨a0, a1, a2, a3⟩ := four_blk HA.out
      obtain ⟨b0, b1, b2, b3⟩ := four_blk HB.out
      obtain ⟨c0, c1, c2, c3⟩ := four_blk HC.out
      clear hk
      go_upto_region 8 with fail
      generalize w3.alloc (.cells #[.int .i64 k2, .int .u64 n2, .string t2, .int .i64 r2] 44) = W3 at *
      generalize w3.heap.size = S at *
      have hvk : bad.toList ≠ [] → kv = 0 := HZ.out
      clear HZ
      have hcase : bad.toList = [] ∨ (¬ bad.toList = [] ∧ kv = 0) := by
        by_cases hb : bad.toList = []
        · exact .inl hb
        · exact .inr ⟨hb, hvk hb⟩
      clear hvk
      go_cut [67] (fun v wx => v = .bool false ∧ Keep [] w wx ∧ wx.heap[P]? = some (.cells #[.int .i64 k, .int .u64 x, .string t, .int .i64 r] 44 (0, 0)) ∧ wx.heap[Q]? = some (.cells #[.int .i64 l, .int .u64 y, .string s, .int .i64 q] 44 (0, 0)))
      case first =>
        rcases hcase with hb | ⟨hb, rfl⟩
        all_goals go_wp2_with (go_at_call 15; (with_reducible refine (iValueOk_calls _ nv tv rv _).mono ?_); rintro e w' hh; obtain ⟨rfl, hk⟩ := hh.to true (by simp [Is, HV.out]); replace HK := Lib.hid (HK.out.trans' hk); replace HA := Lib.hid (hk.heap HA.out (by simp)); replace HB := Lib.hid (hk.heap HB.out (by simp)); obtain ⟨a0, a1, a2, a3⟩ := four_blk HA.out; obtain ⟨b0, b1, b2, b3⟩ := four_blk HB.out; replace HC := Lib.hid (hk.heap HC.out (by simp)); obtain ⟨c0, c1, c2, c3⟩ := four_blk HC.out; clear hk)
        all_goals go_meet
        all_goals exact ⟨rfl, HK.out, HA.out, HB.out⟩
      case rest =>
        obtain ⟨rfl, hk1, hA1, hB1⟩ := hcut
        clear a0 a1 a2 a3 b0 b1 b2 b3 c0 c1 c2 c3 hcase
        replace HK := Lib.hid hk1
        replace HA := Lib.hid hA1
        replace HB := Lib.hid hB1
        clear hk1 hA1 hB1 HC HV
        obtain ⟨a0, a1, a2, a3⟩ := four_blk HA.out
        obtain ⟨b0, b1, b2, b3⟩ := four_blk HB.out
        obtain ⟨u, hu⟩ := ex_bool (Sam k x t r k x t r)
        obtain ⟨v, hv⟩ := ex_bool (Sam k x t r l y s q)
        have hu' : Is u (k = 2 → pk x ≠ 1) := by
          refine hu.trans ?_
          unfold Sam
          by_cases h2 : k = 2
          · subst h2
            rw [if_pos ⟨rfl, rfl⟩, feq_self x hx0 hx1]; simp
          · rw [if_neg (by omega)]; simp [h2]
        have HU := Lib.hid hu
        have HV1 := Lib.hid hv
        have HV2 := Lib.hid (show Is v (Sam l y s q k x t r) from hv.trans Sam.symm)
        clear hu hv
        obtain ⟨g, hg⟩ := ex_bool (k = 2 ∧ pk x = 1)
        have hgu : u = !g := by
          have h1 : u = true ↔ (k = 2 → pk x ≠ 1) := hu'
          have h2 : g = true ↔ (k = 2 ∧ pk x = 1) := hg
          rw [Bool.eq_iff_iff, h1]
          cases g <;> simp at h2 ⊢ <;> exact h2
        subst hgu
        have HG := Lib.hid hg
        clear hg hu'
        obtain ⟨z, hz⟩ := ex_bool (Tru k x t)
        have HT := Lib.hid hz
        clear hz
        go_upto_region 10 with fail
        by_cases hk2 : k = 2
        · subst hk2
          have hn : (pk x == 1) = g := by
            have h2 : g = true ↔ ((2 : Int) = 2 ∧ pk x = 1) := HG.out
            rw [Bool.eq_iff_iff, h2]; simp
          go_upto_region 11 with (go_at_call 18; (with_reducible refine (nan_calls x _ hx0 hx1).mono ?_); rintro e w' ⟨rfl, hk⟩; rw [hn]; replace HK := Lib.hid (HK.out.trans' hk); replace HA := Lib.hid (hk.heap HA.out (by simp)); replace HB := Lib.hid (hk.heap HB.out (by simp)); obtain ⟨a0, a1, a2, a3⟩ := four_blk HA.out; obtain ⟨b0, b1, b2, b3⟩ := four_blk HB.out; clear hk)
          have HKd := Lib.hid HK.out.drew
          have HAd := Lib.hid (heap_drew HA.out)
          have HBd := Lib.hid (heap_drew HB.out)
          cases g
          all_goals
            go_cut [89] (fun v wx => v = .bool false ∧ Keep [] w wx ∧ wx.heap[P]? = some (.cells #[.int .i64 2, .int .u64 x, .string t, .int .i64 r] 44 (0, 0)) ∧ wx.heap[Q]? = some (.cells #[.int .i64 l, .int .u64 y, .string s, .int .i64 q] 44 (0, 0)))
            case first =>
              first
              | (go_region_held3 (fun w' => w'.cell? ⟨P, 0, none⟩ = some (.int .i64 2) ∧ w'.cell? ⟨P, 1, none⟩ = some (.int .u64 x) ∧ w'.cell? ⟨P, 2, none⟩ = some (.string t) ∧ w'.cell? ⟨P, 3, none⟩ = some (.int .i64 r) ∧ w'.cell? ⟨Q, 0, none⟩ = some (.int .i64 l) ∧ w'.cell? ⟨Q, 1, none⟩ = some (.int .u64 y) ∧ w'.cell? ⟨Q, 2, none⟩ = some (.string s) ∧ w'.cell? ⟨Q, 3, none⟩ = some (.int .i64 q))
                  (first | go_keep | (go_split_ands; refine ⟨?_, ?_, ?_, ?_, ?_, ?_, ?_, ?_⟩ <;> (refine hk.cell ?_ (by simp); assumption)))
                  (first
                    | (go_at_call 19; (with_reducible refine (iSameValue_calls 2 x t r 2 x t r _).mono ?_); rintro e w' hh; obtain ⟨rfl, hk⟩ := hh.to _ HU.out; replace HKd := Lib.hid (HKd.out.trans' hk); replace HAd := Lib.hid (hk.heap HAd.out (by simp)); replace HBd := Lib.hid (hk.heap HBd.out (by simp)))
                    | (go_at_call 19; (with_reducible refine (iSameValue_calls 2 x t r l y s q _).mono ?_); rintro e w' hh; obtain ⟨rfl, hk⟩ := hh.to _ HV1.out; replace HKd := Lib.hid (HKd.out.trans' hk); replace HAd := Lib.hid (hk.heap HAd.out (by simp)); replace HBd := Lib.hid (hk.heap HBd.out (by simp)))
                    | (go_at_call 19; (with_reducible refine (iSameValue_calls l y s q 2 x t r _).mono ?_); rintro e w' hh; obtain ⟨rfl, hk⟩ := hh.to _ HV2.out; replace HKd := Lib.hid (HKd.out.trans' hk); replace HAd := Lib.hid (hk.heap HAd.out (by simp)); replace HBd := Lib.hid (hk.heap HBd.out (by simp)))))
              | fail
              all_goals go_wp2_with fail
              all_goals go_meet
              all_goals exact ⟨by simp, HKd.out, HAd.out, HBd.out⟩
            case rest =>
              obtain ⟨rfl, hk1, hA1, hB1⟩ := hcut
              clear a0 a1 a2 a3 b0 b1 b2 b3 HKd HAd HBd
              have HKd := Lib.hid hk1
              have HAd := Lib.hid hA1
              have HBd := Lib.hid hB1
              clear hk1 hA1 hB1
              obtain ⟨a0, a1, a2, a3⟩ := four_blk HAd.out; obtain ⟨b0, b1, b2, b3⟩ := four_blk HBd.out
              go_upto_region 13 with fail
              go_wp2_with fail
              (with_reducible refine (DoMinus_num x t r _ hx0 hx1).mono ?_); rintro e w5 ⟨rfl, hk⟩
              replace HKd := Lib.hid (HKd.out.trans' hk); replace HAd := Lib.hid (hk.heap HAd.out (by simp)); replace HBd := Lib.hid (hk.heap HBd.out (by simp)); obtain ⟨a0, a1, a2, a3⟩ := four_blk HAd.out; obtain ⟨b0, b1, b2, b3⟩ := four_blk HBd.out; clear hk
              have HM := Lib.hid (heap_new w5 (.cells #[.int .i64 2, .int .u64 (ng x), .string ⟨#[]⟩, .int .i64 0] 44))
              have hk := (Keep.refl [] w5).alloc (.cells #[.int .i64 2, .int .u64 (ng x), .string ⟨#[]⟩, .int .i64 0] 44)
              replace HKd := Lib.hid (HKd.out.trans' hk); replace HAd := Lib.hid (hk.heap HAd.out (by simp)); replace HBd := Lib.hid (hk.heap HBd.out (by simp)); obtain ⟨a0, a1, a2, a3⟩ := four_blk HAd.out; obtain ⟨b0, b1, b2, b3⟩ := four_blk HBd.out; clear hk
              go_upto_region 14 with fail
              generalize w5.alloc (.cells #[.int .i64 2, .int .u64 (ng x), .string ⟨#[]⟩, .int .i64 0] 44) = W6 at *
              generalize w5.heap.size = M at *
              go_upto_region 16 with fail
              go_cut [117] (fun v wx => v = .bool false ∧ Keep [] w wx ∧ wx.heap[P]? = some (.cells #[.int .i64 2, .int .u64 x, .string t, .int .i64 r] 44 (0, 0)) ∧ wx.heap[M]? = some (.cells #[.int .i64 2, .int .u64 (ng x), .string ⟨#[]⟩, .int .i64 0] 44 (0, 0)))
              case first =>
                replace HKd := Lib.hid HKd.out.drew
                replace HAd := Lib.hid (heap_drew HAd.out)
                replace HM := Lib.hid (heap_drew HM.out)
                refine wp_region_held_drew (S := fun w' => w'.cell? ⟨P, 0, none⟩ = some (.int .i64 2) ∧ w'.cell? ⟨P, 1, none⟩ = some (.int .u64 x) ∧ w'.cell? ⟨P, 2, none⟩ = some (.string t) ∧ w'.cell? ⟨P, 3, none⟩ = some (.int .i64 r)) (by kernel_rfl) ?_ (fun hHeld => ?_)
                · first | go_keep | (refine ⟨?_, ?_, ?_, ?_⟩ <;> assumption)
                refine wpAnyH_take (i := 0) (v := ?_) rfl (by kernel_rfl) (by kernel_rfl) (by kernel_rfl) (fun _ _ _ h => h) (Or.inl ⟨by rfl, ?_⟩) (by assumption) ?_
                rotate_left
                · (intro w hSw; (try dsimp only at hSw); go_simp; (try with_reducible rfl))
                try simp only [List.getElem_toArray, List.getElem_cons_succ, List.getElem_cons_zero, Act.put, List.setIfInBounds_toArray, List.set_cons_zero, List.set_cons_succ]
                refine wpAnyH_take (i := 1) (v := ?_) rfl (by kernel_rfl) (by kernel_rfl) (by kernel_rfl) (fun _ _ _ h => h) (Or.inl ⟨by rfl, ?_⟩) (by assumption) ?_
                rotate_left
                · (intro w hSw; (try dsimp only at hSw); go_simp; (try with_reducible rfl))
                try simp only [List.getElem_toArray, List.getElem_cons_succ, List.getElem_cons_zero, Act.put, List.setIfInBounds_toArray, List.set_cons_zero, List.set_cons_succ]
                refine wpAnyH_take (i := 2) (v := ?_) rfl (by kernel_rfl) (by kernel_rfl) (by kernel_rfl) (fun _ _ _ h => h) (Or.inl ⟨by rfl, ?_⟩) (by assumption) ?_
                rotate_left
                · (intro w hSw; (try dsimp only at hSw); go_simp; (try with_reducible rfl))
                try simp only [List.getElem_toArray, List.getElem_cons_succ, List.getElem_cons_zero, Act.put, List.setIfInBounds_toArray, List.set_cons_zero, List.set_cons_succ]
                refine wpAnyH_take (i := 3) (v := ?_) rfl (by kernel_rfl) (by kernel_rfl) (by kernel_rfl) (fun _ _ _ h => h) (Or.inl ⟨by rfl, ?_⟩) (by assumption) ?_
                rotate_left
                · (intro w hSw; (try dsimp only at hSw); go_simp; (try with_reducible rfl))
                try simp only [List.getElem_toArray, List.getElem_cons_succ, List.getElem_cons_zero, Act.put, List.setIfInBounds_toArray, List.set_cons_zero, List.set_cons_succ]
                refine wpAnyH_take (i := 4) (v := undef) rfl (by kernel_rfl) (by kernel_rfl) (by kernel_rfl) (fun _ _ _ h => h) (Or.inr ⟨by rfl, rfl⟩) (by assumption) ?_
                try simp only [List.getElem_toArray, List.getElem_cons_succ, List.getElem_cons_zero, Act.put, List.setIfInBounds_toArray, List.set_cons_zero, List.set_cons_succ]
                refine wpAnyH_take (i := 5) (v := undef) rfl (by kernel_rfl) (by kernel_rfl) (by kernel_rfl) (fun _ _ _ h => h) (Or.inr ⟨by rfl, rfl⟩) (by assumption) ?_
                try simp only [List.getElem_toArray, List.getElem_cons_succ, List.getElem_cons_zero, Act.put, List.setIfInBounds_toArray, List.set_cons_zero, List.set_cons_succ]
                refine wpAnyH_take (i := 6) (v := undef) rfl (by kernel_rfl) (by kernel_rfl) (by kernel_rfl) (fun _ _ _ h => h) (Or.inr ⟨by rfl, rfl⟩) (by assumption) ?_
                try simp only [List.getElem_toArray, List.getElem_cons_succ, List.getElem_cons_zero, Act.put, List.setIfInBounds_toArray, List.set_cons_zero, List.set_cons_succ]
                refine wpAnyH_take (i := 7) (v := undef) rfl (by kernel_rfl) (by kernel_rfl) (by kernel_rfl) (fun _ _ _ h => h) (Or.inr ⟨by rfl, rfl⟩) (by assumption) ?_
                try simp only [List.getElem_toArray, List.getElem_cons_succ, List.getElem_cons_zero, Act.put, List.setIfInBounds_toArray, List.set_cons_zero, List.set_cons_succ]
                refine wpAnyH_take (i := 8) (v := undef) rfl (by kernel_rfl) (by kernel_rfl) (by kernel_rfl) (fun _ _ _ h => h) (Or.inr ⟨by rfl, rfl⟩) (by assumption) ?_
                try simp only [List.getElem_toArray, List.getElem_cons_succ, List.getElem_cons_zero, Act.put, List.setIfInBounds_toArray, List.set_cons_zero, List.set_cons_succ]
                refine wpAnyH_take (i := 9) (v := ?_) rfl (by kernel_rfl) (by kernel_rfl) (by kernel_rfl) (fun _ _ _ h => h) (Or.inl ⟨by rfl, ?_⟩) (by assumption) ?_
                rotate_left
                · (intro w hSw; (try dsimp only at hSw); go_simp; (try with_reducible rfl))
                try simp only [List.getElem_toArray, List.getElem_cons_succ, List.getElem_cons_zero, Act.put, List.setIfInBounds_toArray, List.set_cons_zero, List.set_cons_succ]
                refine wpAnyH_take (i := 10) (v := ?_) rfl (by kernel_rfl) (by kernel_rfl) (by kernel_rfl) (fun _ _ _ h => h) (Or.inl ⟨by rfl, ?_⟩) (by assumption) ?_
                rotate_left
                · (intro w hSw; (try dsimp only at hSw); go_simp; (try with_reducible rfl))
                try simp only [List.getElem_toArray, List.getElem_cons_succ, List.getElem_cons_zero, Act.put, List.setIfInBounds_toArray, List.set_cons_zero, List.set_cons_succ]
                refine wpAnyH_take (i := 11) (v := ?_) rfl (by kernel_rfl) (by kernel_rfl) (by kernel_rfl) (fun _ _ _ h => h) (Or.inl ⟨by rfl, ?_⟩) (by assumption) ?_
                rotate_left
                · (intro w hSw; (try dsimp only at hSw); go_simp; (try with_reducible rfl))
                try simp only [List.getElem_toArray, List.getElem_cons_succ, List.getElem_cons_zero, Act.put, List.setIfInBounds_toArray, List.set_cons_zero, List.set_cons_succ]
                refine wpAnyH_take (i := 13) (v := ?_) rfl (by kernel_rfl) (by kernel_rfl) (by kernel_rfl) (fun _ _ _ h => h) (Or.inl ⟨by rfl, ?_⟩) (by assumption) ?_
                rotate_left
                · (intro w hSw; (try dsimp only at hSw); go_simp; (try with_reducible rfl))
                try simp only [List.getElem_toArray, List.getElem_cons_succ, List.getElem_cons_zero, Act.put, List.setIfInBounds_toArray, List.set_cons_zero, List.set_cons_succ]
                refine wpAnyH_ready (rs := [12]) (by kernel_rfl) (by simp) ?_
                refine AllReadyH.cons rfl (fun K hK => ?_) AllReadyH.nil
                go_simp
                (with_reducible refine (iIsTrue_calls _ x t r _ hx0 hx1).mono ?_); rintro e w7 hh; obtain ⟨rfl, hk⟩ := hh.to _ HT.out; replace HKd := Lib.hid (HKd.out.trans' hk); replace HAd := Lib.hid (hk.heap HAd.out (by simp)); replace HM := Lib.hid (hk.heap HM.out (by simp))
                go_wp2_with fail
                refine hK.out _ _ ?_ (fun hHeld => ?_)
                · (go_split_ands; refine ⟨?_, ?_, ?_, ?_⟩ <;> (refine hk.cell ?_ (by simp); assumption))
                clear hK K
                try simp only [List.getElem_toArray, List.getElem_cons_succ, List.getElem_cons_zero, Act.put, List.setIfInBounds_toArray, List.set_cons_zero, List.set_cons_succ]
                refine wpAnyH_ready (rs := [14]) (by kernel_rfl) (by simp) ?_
                refine AllReadyH.cons rfl (fun K hK => ?_) AllReadyH.nil
                go_simp
                (with_reducible refine (sIsTrue_calls _ x t r _ hx0 hx1).mono ?_); rintro e w7 hh; obtain ⟨rfl, hk⟩ := hh.to _ HT.out; replace HKd := Lib.hid (HKd.out.trans' hk); replace HAd := Lib.hid (hk.heap HAd.out (by simp)); replace HM := Lib.hid (hk.heap HM.out (by simp))
                go_wp2_with fail
                refine hK.out _ _ ?_ (fun hHeld => ?_)
                · (go_split_ands; refine ⟨?_, ?_, ?_, ?_⟩ <;> (refine hk.cell ?_ (by simp); assumption))
                clear hK K
                try simp only [List.getElem_toArray, List.getElem_cons_succ, List.getElem_cons_zero, Act.put, List.setIfInBounds_toArray, List.set_cons_zero, List.set_cons_succ]
                refine wpAnyH_take (i := 15) (v := ?_) rfl (by kernel_rfl) (by kernel_rfl) (by kernel_rfl) (fun _ _ _ h => h) (Or.inl ⟨by rfl, ?_⟩) (by assumption) ?_
                rotate_left
                · (intro w hSw; (try dsimp only at hSw); go_simp; (try with_reducible rfl))
                try simp only [List.getElem_toArray, List.getElem_cons_succ, List.getElem_cons_zero, Act.put, List.setIfInBounds_toArray, List.set_cons_zero, List.set_cons_succ]
                refine wpAnyH_take (i := 16) (v := ?_) rfl (by kernel_rfl) (by kernel_rfl) (by kernel_rfl) (fun _ _ _ h => h) (Or.inl ⟨by rfl, ?_⟩) (by assumption) ?_
                rotate_left
                · (intro w hSw; (try dsimp only at hSw); go_simp; (try with_reducible rfl))
                try simp only [List.getElem_toArray, List.getElem_cons_succ, List.getElem_cons_zero, Act.put, List.setIfInBounds_toArray, List.set_cons_zero, List.set_cons_succ]
                refine wpAnyH_done (by kernel_rfl) ?_ _
                all_goals go_wp2_with fail
                all_goals go_meet
                all_goals exact ⟨by simp, HKd.out, HAd.out, HM.out⟩
              case rest =>
                obtain ⟨rfl, hk1, hA1, hM1⟩ := hcut
                clear a0 a1 a2 a3 b0 b1 b2 b3
                have HK0 := Lib.hid hk1
                have HK := Lib.hid hk1.drew
                have HA := Lib.hid (heap_drew hA1)
                have HM2 := Lib.hid (heap_drew hM1)
                clear hk1 hA1 hM1
                go_upto_region 18 with fail
                obtain ⟨a0, a1, a2, a3⟩ := four_blk HA.out
                obtain ⟨m0, m1, m2, m3⟩ := four_blk HM2.out
                first
                | (have hx1' : pk x ≠ 1 := fun h => by
                    have h2 := HG.out
                    simp [Is, h] at h2
                   have HN := Lib.hid (ng_twice x hx0 hx1 hx1')
                   have hb1 := ng_bd x
                   have HSM : Hid (Is true (Sam 2 x t r 2 x ⟨#[]⟩ 0)) := Lib.hid (by
                     unfold Is Sam
                     rw [if_pos ⟨rfl, rfl⟩, feq_self x hx0 hx1]; simpa using hx1')
                   clear hx1'
                   refine wp_region_held_drew (S := fun w' => w'.cell? ⟨P, 0, none⟩ = some (.int .i64 2) ∧ w'.cell? ⟨P, 1, none⟩ = some (.int .u64 x) ∧ w'.cell? ⟨P, 2, none⟩ = some (.string t) ∧ w'.cell? ⟨P, 3, none⟩ = some (.int .i64 r) ∧ w'.cell? ⟨M, 1, none⟩ = some (.int .u64 (ng x))) (by kernel_rfl) ?_ (fun hHeld => ?_)
                   · first | go_keep | (refine ⟨?_, ?_, ?_, ?_, ?_⟩ <;> assumption)
                   refine wpAnyH_take (i := 0) (v := ?_) rfl (by kernel_rfl) (by kernel_rfl) (by kernel_rfl) (fun _ _ _ h => h) (Or.inl ⟨by rfl, ?_⟩) (by assumption) ?_
                   rotate_left
                   · (intro w hSw; (try dsimp only at hSw); go_simp; (try with_reducible rfl))
                   try simp only [List.getElem_toArray, List.getElem_cons_succ, List.getElem_cons_zero, Act.put, List.setIfInBounds_toArray, List.set_cons_zero, List.set_cons_succ]
                   refine wpAnyH_take (i := 1) (v := ?_) rfl (by kernel_rfl) (by kernel_rfl) (by kernel_rfl) (fun _ _ _ h => h) (Or.inl ⟨by rfl, ?_⟩) (by assumption) ?_
                   rotate_left
                   · (intro w hSw; (try dsimp only at hSw); go_simp; (try with_reducible rfl))
                   try simp only [List.getElem_toArray, List.getElem_cons_succ, List.getElem_cons_zero, Act.put, List.setIfInBounds_toArray, List.set_cons_zero, List.set_cons_succ]
                   refine wpAnyH_take (i := 2) (v := ?_) rfl (by kernel_rfl) (by kernel_rfl) (by kernel_rfl) (fun _ _ _ h => h) (Or.inl ⟨by rfl, ?_⟩) (by assumption) ?_
                   rotate_left
                   · (intro w hSw; (try dsimp only at hSw); go_simp; (try with_reducible rfl))
                   try simp only [List.getElem_toArray, List.getElem_cons_succ, List.getElem_cons_zero, Act.put, List.setIfInBounds_toArray, List.set_cons_zero, List.set_cons_succ]
                   refine wpAnyH_take (i := 3) (v := ?_) rfl (by kernel_rfl) (by kernel_rfl) (by kernel_rfl) (fun _ _ _ h => h) (Or.inl ⟨by rfl, ?_⟩) (by assumption) ?_
                   rotate_left
                   · (intro w hSw; (try dsimp only at hSw); go_simp; (try with_reducible rfl))
                   try simp only [List.getElem_toArray, List.getElem_cons_succ, List.getElem_cons_zero, Act.put, List.setIfInBounds_toArray, List.set_cons_zero, List.set_cons_succ]
                   refine wpAnyH_take (i := 4) (v := ?_) rfl (by kernel_rfl) (by kernel_rfl) (by kernel_rfl) (fun _ _ _ h => h) (Or.inl ⟨by rfl, ?_⟩) (by assumption) ?_
                   rotate_left
                   · (intro w hSw; (try dsimp only at hSw); go_simp; (try with_reducible rfl))
                   try simp only [List.getElem_toArray, List.getElem_cons_succ, List.getElem_cons_zero, Act.put, List.setIfInBounds_toArray, List.set_cons_zero, List.set_cons_succ]
                   refine wpAnyH_take (i := 5) (v := ?_) rfl (by kernel_rfl) (by kernel_rfl) (by kernel_rfl) (fun _ _ _ h => h) (Or.inl ⟨by rfl, ?_⟩) (by assumption) ?_
                   rotate_left
                   · (intro w hSw; (try dsimp only at hSw); go_simp; (try with_reducible rfl))
                   try simp only [List.getElem_toArray, List.getElem_cons_succ, List.getElem_cons_zero, Act.put, List.setIfInBounds_toArray, List.set_cons_zero, List.set_cons_succ]
                   refine wpAnyH_take (i := 6) (v := ?_) rfl (by kernel_rfl) (by kernel_rfl) (by kernel_rfl) (fun _ _ _ h => h) (Or.inl ⟨by rfl, ?_⟩) (by assumption) ?_
                   rotate_left
                   · (intro w hSw; (try dsimp only at hSw); go_simp; (try with_reducible rfl))
                   try simp only [List.getElem_toArray, List.getElem_cons_succ, List.getElem_cons_zero, Act.put, List.setIfInBounds_toArray, List.set_cons_zero, List.set_cons_succ]
                   refine wpAnyH_take (i := 7) (v := ?_) rfl (by kernel_rfl) (by kernel_rfl) (by kernel_rfl) (fun _ _ _ h => h) (Or.inl ⟨by rfl, ?_⟩) (by assumption) ?_
                   rotate_left
                   · (intro w hSw; (try dsimp only at hSw); go_simp; (try with_reducible rfl))
                   try simp only [List.getElem_toArray, List.getElem_cons_succ, List.getElem_cons_zero, Act.put, List.setIfInBounds_toArray, List.set_cons_zero, List.set_cons_succ]
                   refine wpAnyH_take (i := 8) (v := ?_) rfl (by kernel_rfl) (by kernel_rfl) (by kernel_rfl) (fun _ _ _ h => h) (Or.inl ⟨by rfl, ?_⟩) (by assumption) ?_
                   rotate_left
                   · (intro w hSw; (try dsimp only at hSw); go_simp; (try with_reducible rfl))
                   try simp only [List.getElem_toArray, List.getElem_cons_succ, List.getElem_cons_zero, Act.put, List.setIfInBounds_toArray, List.set_cons_zero, List.set_cons_succ]
                   refine wpAnyH_ready (rs := [9]) (by kernel_rfl) (by simp) ?_
                   refine AllReadyH.cons rfl (fun K hK => ?_) AllReadyH.nil
                   go_simp
                   (with_reducible refine (Negate_calls (ng x) _ hb1.1 hb1.2).mono ?_); rintro e w7 ⟨rfl, hk⟩; rw [HN.out]; replace HK := Lib.hid (HK.out.trans' hk)
                   go_wp2_with fail
                   refine hK.out _ _ ?_ (fun hHeld => ?_)
                   · (go_split_ands; refine ⟨?_, ?_, ?_, ?_, ?_⟩ <;> (refine hk.cell ?_ (by simp); assumption))
                   clear hK K
                   try simp only [List.getElem_toArray, List.getElem_cons_succ, List.getElem_cons_zero, Act.put, List.setIfInBounds_toArray, List.set_cons_zero, List.set_cons_succ]
                   refine wpAnyH_take (i := 10) (v := ?_) rfl (by kernel_rfl) (by kernel_rfl) (by kernel_rfl) (fun _ _ _ h => h) (Or.inl ⟨by rfl, ?_⟩) (by assumption) ?_
                   rotate_left
                   · (intro w hSw; (try dsimp only at hSw); go_simp; (try with_reducible rfl))
                   try simp only [List.getElem_toArray, List.getElem_cons_succ, List.getElem_cons_zero, Act.put, List.setIfInBounds_toArray, List.set_cons_zero, List.set_cons_succ]
                   refine wpAnyH_ready (rs := [11]) (by kernel_rfl) (by simp) ?_
                   refine AllReadyH.cons rfl (fun K hK => ?_) AllReadyH.nil
                   go_simp
                   (with_reducible refine (iSameValue_calls 2 x t r 2 x ⟨#[]⟩ 0 _).mono ?_); rintro e w7 hh; obtain ⟨rfl, hk⟩ := hh.to _ HSM.out; replace HK := Lib.hid (HK.out.trans' hk)
                   go_wp2_with fail
                   refine hK.out _ _ ?_ (fun hHeld => ?_)
                   · (go_split_ands; refine ⟨?_, ?_, ?_, ?_, ?_⟩ <;> (refine hk.cell ?_ (by simp); assumption))
                   clear hK K
                   try simp only [List.getElem_toArray, List.getElem_cons_succ, List.getElem_cons_zero, Act.put, List.setIfInBounds_toArray, List.set_cons_zero, List.set_cons_succ]
                   refine wpAnyH_take (i := 12) (v := ?_) rfl (by kernel_rfl) (by kernel_rfl) (by kernel_rfl) (fun _ _ _ h => h) (Or.inl ⟨by rfl, ?_⟩) (by assumption) ?_
                   rotate_left
                   · (intro w hSw; (try dsimp only at hSw); go_simp; (try with_reducible rfl))
                   try simp only [List.getElem_toArray, List.getElem_cons_succ, List.getElem_cons_zero, Act.put, List.setIfInBounds_toArray, List.set_cons_zero, List.set_cons_succ]
                   refine wpAnyH_take (i := 13) (v := ?_) rfl (by kernel_rfl) (by kernel_rfl) (by kernel_rfl) (fun _ _ _ h => h) (Or.inl ⟨by rfl, ?_⟩) (by assumption) ?_
                   rotate_left
                   · (intro w hSw; (try dsimp only at hSw); go_simp; (try with_reducible rfl))
                   try simp only [List.getElem_toArray, List.getElem_cons_succ, List.getElem_cons_zero, Act.put, List.setIfInBounds_toArray, List.set_cons_zero, List.set_cons_succ]
                   refine wpAnyH_done (by kernel_rfl) ?_ _
                   all_goals go_wp2_with fail
                   all_goals go_ret
                   all_goals exact ⟨rfl, HK.out⟩)
                | (go_quiet (fail)
                   go_wp2_with fail
                   go_ret
                   exact ⟨rfl, by first | exact HK0.out.drewN _ | exact HK0.out.drew | exact HK0.out⟩)
        · have hk3 : (k == 2) = false := by simpa using hk2
          go_upto_region 11 with fail
          obtain rfl : g = false := by
            have h2 : g = true ↔ (k = 2 ∧ pk x = 1) := HG.out
            cases g
            · rfl
            · exact absurd (h2.1 rfl).1 hk2
          have HKd := Lib.hid HK.out.drew
          have HAd := Lib.hid (heap_drew HA.out)
          have HBd := Lib.hid (heap_drew HB.out)
          go_cut [89] (fun v wx => v = .bool false ∧ Keep [] w wx ∧ wx.heap[P]? = some (.cells #[.int .i64 k, .int .u64 x, .string t, .int .i64 r] 44 (0, 0)) ∧ wx.heap[Q]? = some (.cells #[.int .i64 l, .int .u64 y, .string s, .int .i64 q] 44 (0, 0)))
          case first =>
            first
            | (go_region_held3 (fun w' => w'.cell? ⟨P, 0, none⟩ = some (.int .i64 k) ∧ w'.cell? ⟨P, 1, none⟩ = some (.int .u64 x) ∧ w'.cell? ⟨P, 2, none⟩ = some (.string t) ∧ w'.cell? ⟨P, 3, none⟩ = some (.int .i64 r) ∧ w'.cell? ⟨Q, 0, none⟩ = some (.int .i64 l) ∧ w'.cell? ⟨Q, 1, none⟩ = some (.int .u64 y) ∧ w'.cell? ⟨Q, 2, none⟩ = some (.string s) ∧ w'.cell? ⟨Q, 3, none⟩ = some (.int .i64 q))
                (first | go_keep | (go_split_ands; refine ⟨?_, ?_, ?_, ?_, ?_, ?_, ?_, ?_⟩ <;> (refine hk.cell ?_ (by simp); assumption)))
                (first
                  | (go_at_call 19; (with_reducible refine (iSameValue_calls k x t r k x t r _).mono ?_); rintro e w' hh; obtain ⟨rfl, hk⟩ := hh.to _ HU.out; replace HKd := Lib.hid (HKd.out.trans' hk); replace HAd := Lib.hid (hk.heap HAd.out (by simp)); replace HBd := Lib.hid (hk.heap HBd.out (by simp)))
                  | (go_at_call 19; (with_reducible refine (iSameValue_calls k x t r l y s q _).mono ?_); rintro e w' hh; obtain ⟨rfl, hk⟩ := hh.to _ HV1.out; replace HKd := Lib.hid (HKd.out.trans' hk); replace HAd := Lib.hid (hk.heap HAd.out (by simp)); replace HBd := Lib.hid (hk.heap HBd.out (by simp)))
                  | (go_at_call 19; (with_reducible refine (iSameValue_calls l y s q k x t r _).mono ?_); rintro e w' hh; obtain ⟨rfl, hk⟩ := hh.to _ HV2.out; replace HKd := Lib.hid (HKd.out.trans' hk); replace HAd := Lib.hid (hk.heap HAd.out (by simp)); replace HBd := Lib.hid (hk.heap HBd.out (by simp)))))
            | fail
            all_goals go_wp2_with fail
            all_goals go_meet
            all_goals exact ⟨by simp, HKd.out, HAd.out, HBd.out⟩
          case rest =>
            obtain ⟨rfl, hk1, hA1, hB1⟩ := hcut
            clear a0 a1 a2 a3 b0 b1 b2 b3 HKd HAd HBd
            have HKd := Lib.hid hk1
            have HAd := Lib.hid hA1
            have HBd := Lib.hid hB1
            clear hk1 hA1 hB1
            obtain ⟨a0, a1, a2, a3⟩ := four_blk HAd.out; obtain ⟨b0, b1, b2, b3⟩ := four_blk HBd.out
            go_upto_region 13 with fail
            go_wp2_with fail
            (with_reducible refine (DoMinus_other k x t r _ hk2).mono ?_); rintro e w5 ⟨rfl, hk⟩
            replace HKd := Lib.hid (HKd.out.trans' hk); replace HAd := Lib.hid (hk.heap HAd.out (by simp)); replace HBd := Lib.hid (hk.heap HBd.out (by simp)); obtain ⟨a0, a1, a2, a3⟩ := four_blk HAd.out; obtain ⟨b0, b1, b2, b3⟩ := four_blk HBd.out; clear hk
            have HM := Lib.hid (heap_new w5 (.cells #[.int .i64 0, .int .u64 0, .string ⟨#[]⟩, .int .i64 0] 44))
            have hk := (Keep.refl [] w5).alloc (.cells #[.int .i64 0, .int .u64 0, .string ⟨#[]⟩, .int .i64 0] 44)
            replace HKd := Lib.hid (HKd.out.trans' hk); replace HAd := Lib.hid (hk.heap HAd.out (by simp)); replace HBd := Lib.hid (hk.heap HBd.out (by simp)); obtain ⟨a0, a1, a2, a3⟩ := four_blk HAd.out; obtain ⟨b0, b1, b2, b3⟩ := four_blk HBd.out; clear hk
            go_upto_region 14 with fail
            generalize w5.alloc (.cells #[.int .i64 0, .int .u64 0, .string ⟨#[]⟩, .int .i64 0] 44) = W6 at *
            generalize w5.heap.size = M at *
            go_upto_region 16 with fail
            by_cases hk4 : k = 3
            · subst hk4
              go_cut [117] (fun v wx => v = .bool false ∧ Keep [] w wx ∧ wx.heap[P]? = some (.cells #[.int .i64 3, .int .u64 x, .string t, .int .i64 r] 44 (0, 0)) ∧ wx.heap[M]? = some (.cells #[.int .i64 0, .int .u64 0, .string ⟨#[]⟩, .int .i64 0] 44 (0, 0)))
              case first =>
                replace HKd := Lib.hid HKd.out.drew
                replace HAd := Lib.hid (heap_drew HAd.out)
                replace HM := Lib.hid (heap_drew HM.out)
                first
                | (go_region_held3 (fun w' => w'.cell? ⟨P, 0, none⟩ = some (.int .i64 3) ∧ w'.cell? ⟨P, 1, none⟩ = some (.int .u64 x) ∧ w'.cell? ⟨P, 2, none⟩ = some (.string t) ∧ w'.cell? ⟨P, 3, none⟩ = some (.int .i64 r))
                    (first | go_keep | (go_split_ands; refine ⟨?_, ?_, ?_, ?_⟩ <;> (refine hk.cell ?_ (by simp); assumption)))
                    (first
                      | (go_at_call 21; (with_reducible refine (ShowValue_text x t r _).mono ?_); rintro e w7 ⟨rfl, hk⟩; replace HKd := Lib.hid (HKd.out.trans' hk); replace HAd := Lib.hid (hk.heap HAd.out (by simp)); replace HM := Lib.hid (hk.heap HM.out (by simp)))
                      | (go_at_call 22; (with_reducible refine (iIsTrue_calls _ x t r _ hx0 hx1).mono ?_); rintro e w7 hh; obtain ⟨rfl, hk⟩ := hh.to _ HT.out; replace HKd := Lib.hid (HKd.out.trans' hk); replace HAd := Lib.hid (hk.heap HAd.out (by simp)); replace HM := Lib.hid (hk.heap HM.out (by simp)))
                      | (go_at_call 23; (with_reducible refine (sIsTrue_calls _ x t r _ hx0 hx1).mono ?_); rintro e w7 hh; obtain ⟨rfl, hk⟩ := hh.to _ HT.out; replace HKd := Lib.hid (HKd.out.trans' hk); replace HAd := Lib.hid (hk.heap HAd.out (by simp)); replace HM := Lib.hid (hk.heap HM.out (by simp)))))
                | fail
                all_goals go_wp2_with fail
                all_goals go_meet
                all_goals exact ⟨by simp, HKd.out, HAd.out, HM.out⟩
              case rest =>
                obtain ⟨rfl, hk1, hA1, hM1⟩ := hcut
                clear a0 a1 a2 a3 b0 b1 b2 b3
                have HK0 := Lib.hid hk1
                have HK := Lib.hid hk1.drew
                have HA := Lib.hid (heap_drew hA1)
                have HM2 := Lib.hid (heap_drew hM1)
                clear hk1 hA1 hM1
                go_upto_region 18 with fail
                obtain ⟨a0, a1, a2, a3⟩ := four_blk HA.out
                obtain ⟨m0, m1, m2, m3⟩ := four_blk HM2.out
                go_quiet (fail)
                go_wp2_with fail
                go_ret
                exact ⟨rfl, by first | exact HK0.out.drewN _ | exact HK0.out.drew | exact HK0.out⟩
            · have hk5 : (k == 3) = false := by simpa using hk4
              go_cut [117] (fun v wx => v = .bool false ∧ Keep [] w wx ∧ wx.heap[P]? = some (.cells #[.int .i64 k, .int .u64 x, .string t, .int .i64 r] 44 (0, 0)) ∧ wx.heap[M]? = some (.cells #[.int .i64 0, .int .u64 0, .string ⟨#[]⟩, .int .i64 0] 44 (0, 0)))
              case first =>
                replace HKd := Lib.hid HKd.out.drew
                replace HAd := Lib.hid (heap_drew HAd.out)
                replace HM := Lib.hid (heap_drew HM.out)
                refine wp_region_held_drew (S := fun w' => w'.cell? ⟨P, 0, none⟩ = some (.int .i64 k) ∧ w'.cell? ⟨P, 1, none⟩ = some (.int .u64 x) ∧ w'.cell? ⟨P, 2, none⟩ = some (.string t) ∧ w'.cell? ⟨P, 3, none⟩ = some (.int .i64 r)) (by kernel_rfl) ?_ (fun hHeld => ?_)
                · first | go_keep | (refine ⟨?_, ?_, ?_, ?_⟩ <;> assumption)
                refine wpAnyH_take (i := 0) (v := ?_) rfl (by kernel_rfl) (by kernel_rfl) (by kernel_rfl) (fun _ _ _ h => h) (Or.inl ⟨by rfl, ?_⟩) (by assumption) ?_
                rotate_left
                · (intro w hSw; (try dsimp only at hSw); go_simp; (try with_reducible rfl))
                try simp only [List.getElem_toArray, List.getElem_cons_succ, List.getElem_cons_zero, Act.put, List.setIfInBounds_toArray, List.set_cons_zero, List.set_cons_succ]
                refine wpAnyH_take (i := 1) (v := ?_) rfl (by kernel_rfl) (by kernel_rfl) (by kernel_rfl) (fun _ _ _ h => h) (Or.inl ⟨by rfl, ?_⟩) (by assumption) ?_
                rotate_left
                · (intro w hSw; (try dsimp only at hSw); go_simp; (try with_reducible rfl))
                try simp only [List.getElem_toArray, List.getElem_cons_succ, List.getElem_cons_zero, Act.put, List.setIfInBounds_toArray, List.set_cons_zero, List.set_cons_succ]
                refine wpAnyH_take (i := 2) (v := ?_) rfl (by kernel_rfl) (by kernel_rfl) (by kernel_rfl) (fun _ _ _ h => h) (Or.inl ⟨by rfl, ?_⟩) (by assumption) ?_
                rotate_left
                · (intro w hSw; (try dsimp only at hSw); go_simp; (try with_reducible rfl))
                try simp only [List.getElem_toArray, List.getElem_cons_succ, List.getElem_cons_zero, Act.put, List.setIfInBounds_toArray, List.set_cons_zero, List.set_cons_succ]
                refine wpAnyH_take (i := 3) (v := ?_) rfl (by kernel_rfl) (by kernel_rfl) (by kernel_rfl) (fun _ _ _ h => h) (Or.inl ⟨by rfl, ?_⟩) (by assumption) ?_
                rotate_left
                · (intro w hSw; (try dsimp only at hSw); go_simp; (try with_reducible rfl))
                try simp only [List.getElem_toArray, List.getElem_cons_succ, List.getElem_cons_zero, Act.put, List.setIfInBounds_toArray, List.set_cons_zero, List.set_cons_succ]
                refine wpAnyH_take (i := 4) (v := undef) rfl (by kernel_rfl) (by kernel_rfl) (by kernel_rfl) (fun _ _ _ h => h) (Or.inr ⟨by rfl, rfl⟩) (by assumption) ?_
                try simp only [List.getElem_toArray, List.getElem_cons_succ, List.getElem_cons_zero, Act.put, List.setIfInBounds_toArray, List.set_cons_zero, List.set_cons_succ]
                refine wpAnyH_take (i := 5) (v := undef) rfl (by kernel_rfl) (by kernel_rfl) (by kernel_rfl) (fun _ _ _ h => h) (Or.inr ⟨by rfl, rfl⟩) (by assumption) ?_
                try simp only [List.getElem_toArray, List.getElem_cons_succ, List.getElem_cons_zero, Act.put, List.setIfInBounds_toArray, List.set_cons_zero, List.set_cons_succ]
                refine wpAnyH_take (i := 6) (v := undef) rfl (by kernel_rfl) (by kernel_rfl) (by kernel_rfl) (fun _ _ _ h => h) (Or.inr ⟨by rfl, rfl⟩) (by assumption) ?_
                try simp only [List.getElem_toArray, List.getElem_cons_succ, List.getElem_cons_zero, Act.put, List.setIfInBounds_toArray, List.set_cons_zero, List.set_cons_succ]
                refine wpAnyH_take (i := 7) (v := undef) rfl (by kernel_rfl) (by kernel_rfl) (by kernel_rfl) (fun _ _ _ h => h) (Or.inr ⟨by rfl, rfl⟩) (by assumption) ?_
                try simp only [List.getElem_toArray, List.getElem_cons_succ, List.getElem_cons_zero, Act.put, List.setIfInBounds_toArray, List.set_cons_zero, List.set_cons_succ]
                refine wpAnyH_take (i := 8) (v := undef) rfl (by kernel_rfl) (by kernel_rfl) (by kernel_rfl) (fun _ _ _ h => h) (Or.inr ⟨by rfl, rfl⟩) (by assumption) ?_
                try simp only [List.getElem_toArray, List.getElem_cons_succ, List.getElem_cons_zero, Act.put, List.setIfInBounds_toArray, List.set_cons_zero, List.set_cons_succ]
                refine wpAnyH_take (i := 9) (v := ?_) rfl (by kernel_rfl) (by kernel_rfl) (by kernel_rfl) (fun _ _ _ h => h) (Or.inl ⟨by rfl, ?_⟩) (by assumption) ?_
                rotate_left
                · (intro w hSw; (try dsimp only at hSw); go_simp; (try with_reducible rfl))
                try simp only [List.getElem_toArray, List.getElem_cons_succ, List.getElem_cons_zero, Act.put, List.setIfInBounds_toArray, List.set_cons_zero, List.set_cons_succ]
                refine wpAnyH_take (i := 10) (v := ?_) rfl (by kernel_rfl) (by kernel_rfl) (by kernel_rfl) (fun _ _ _ h => h) (Or.inl ⟨by rfl, ?_⟩) (by assumption) ?_
                rotate_left
                · (intro w hSw; (try dsimp only at hSw); go_simp; (try with_reducible rfl))
                try simp only [List.getElem_toArray, List.getElem_cons_succ, List.getElem_cons_zero, Act.put, List.setIfInBounds_toArray, List.set_cons_zero, List.set_cons_succ]
                refine wpAnyH_take (i := 11) (v := ?_) rfl (by kernel_rfl) (by kernel_rfl) (by kernel_rfl) (fun _ _ _ h => h) (Or.inl ⟨by rfl, ?_⟩) (by assumption) ?_
                rotate_left
                · (intro w hSw; (try dsimp only at hSw); go_simp; (try with_reducible rfl))
                try simp only [List.getElem_toArray, List.getElem_cons_succ, List.getElem_cons_zero, Act.put, List.setIfInBounds_toArray, List.set_cons_zero, List.set_cons_succ]
                refine wpAnyH_take (i := 13) (v := ?_) rfl (by kernel_rfl) (by kernel_rfl) (by kernel_rfl) (fun _ _ _ h => h) (Or.inl ⟨by rfl, ?_⟩) (by assumption) ?_
                rotate_left
                · (intro w hSw; (try dsimp only at hSw); go_simp; (try with_reducible rfl))
                try simp only [List.getElem_toArray, List.getElem_cons_succ, List.getElem_cons_zero, Act.put, List.setIfInBounds_toArray, List.set_cons_zero, List.set_cons_succ]
                refine wpAnyH_ready (rs := [12]) (by kernel_rfl) (by simp) ?_
                refine AllReadyH.cons rfl (fun K hK => ?_) AllReadyH.nil
                go_simp
                (with_reducible refine (iIsTrue_calls _ x t r _ hx0 hx1).mono ?_); rintro e w7 hh; obtain ⟨rfl, hk⟩ := hh.to _ HT.out; replace HKd := Lib.hid (HKd.out.trans' hk); replace HAd := Lib.hid (hk.heap HAd.out (by simp)); replace HM := Lib.hid (hk.heap HM.out (by simp))
                go_wp2_with fail
                refine hK.out _ _ ?_ (fun hHeld => ?_)
                · (go_split_ands; refine ⟨?_, ?_, ?_, ?_⟩ <;> (refine hk.cell ?_ (by simp); assumption))
                clear hK K
                try simp only [List.getElem_toArray, List.getElem_cons_succ, List.getElem_cons_zero, Act.put, List.setIfInBounds_toArray, List.set_cons_zero, List.set_cons_succ]
                refine wpAnyH_ready (rs := [14]) (by kernel_rfl) (by simp) ?_
                refine AllReadyH.cons rfl (fun K hK => ?_) AllReadyH.nil
                go_simp
                (with_reducible refine (sIsTrue_calls _ x t r _ hx0 hx1).mono ?_); rintro e w7 hh; obtain ⟨rfl, hk⟩ := hh.to _ HT.out; replace HKd := Lib.hid (HKd.out.trans' hk); replace HAd := Lib.hid (hk.heap HAd.out (by simp)); replace HM := Lib.hid (hk.heap HM.out (by simp))
                go_wp2_with fail
                refine hK.out _ _ ?_ (fun hHeld => ?_)
                · (go_split_ands; refine ⟨?_, ?_, ?_, ?_⟩ <;> (refine hk.cell ?_ (by simp); assumption))
                clear hK K
                try simp only [List.getElem_toArray, List.getElem_cons_succ, List.getElem_cons_zero, Act.put, List.setIfInBounds_toArray, List.set_cons_zero, List.set_cons_succ]
                refine wpAnyH_take (i := 15) (v := ?_) rfl (by kernel_rfl) (by kernel_rfl) (by kernel_rfl) (fun _ _ _ h => h) (Or.inl ⟨by rfl, ?_⟩) (by assumption) ?_
                rotate_left
                · (intro w hSw; (try dsimp only at hSw); go_simp; (try with_reducible rfl))
                try simp only [List.getElem_toArray, List.getElem_cons_succ, List.getElem_cons_zero, Act.put, List.setIfInBounds_toArray, List.set_cons_zero, List.set_cons_succ]
                refine wpAnyH_take (i := 16) (v := ?_) rfl (by kernel_rfl) (by kernel_rfl) (by kernel_rfl) (fun _ _ _ h => h) (Or.inl ⟨by rfl, ?_⟩) (by assumption) ?_
                rotate_left
                · (intro w hSw; (try dsimp only at hSw); go_simp; (try with_reducible rfl))
                try simp only [List.getElem_toArray, List.getElem_cons_succ, List.getElem_cons_zero, Act.put, List.setIfInBounds_toArray, List.set_cons_zero, List.set_cons_succ]
                refine wpAnyH_done (by kernel_rfl) ?_ _
                all_goals go_wp2_with fail
                all_goals go_meet
                all_goals exact ⟨by simp, HKd.out, HAd.out, HM.out⟩
              case rest =>
                obtain ⟨rfl, hk1, hA1, hM1⟩ := hcut
                clear a0 a1 a2 a3 b0 b1 b2 b3
                have HK0 := Lib.hid hk1
                have HK := Lib.hid hk1.drew
                have HA := Lib.hid (heap_drew hA1)
                have HM2 := Lib.hid (heap_drew hM1)
                clear hk1 hA1 hM1
                go_upto_region 18 with fail
                obtain ⟨a0, a1, a2, a3⟩ := four_blk HA.out
                obtain ⟨m0, m1, m2, m3⟩ := four_blk HM2.out
                go_quiet (fail)
                go_wp2_with fail
                go_ret
                exact ⟨rfl, by first | exact HK0.out.drewN _ | exact HK0.out.drew | exact HK0.out⟩
end Go.Proofs.YtjapohefiggbaaaGreatDoor
