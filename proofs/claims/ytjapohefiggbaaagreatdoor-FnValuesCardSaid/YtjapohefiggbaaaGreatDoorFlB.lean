/- Floats in plain numbers: what is nearest, what two products give, how a rung is told from another. No program is named here. -/
import Ieee.Arith
namespace Go.Proofs.YtjapohefiggbaaaGreatDoor.Fl
open Ieee

/-- The magnitude of a rung, in units of the least place. -/
def V (q : Nat) : Nat := if q < 2 ^ 52 then q else (2 ^ 52 + q % 2 ^ 52) * 2 ^ (q / 2 ^ 52 - 1)

/-- What is cut of something no greater than a whole number is no greater than it. -/
theorem cut_le (neg : Bool) (n drop M : Nat) (h : n ≤ M * 2 ^ drop) : Toward.even.cut neg n drop ≤ M := by
  unfold Toward.cut
  simp only [Nat.shiftLeft_eq, Nat.one_mul]
  by_cases hd : drop ≤ n.log2 + 2
  · rw [Nat.min_eq_left hd]
    have hg : 0 < 2 ^ drop := Nat.two_pow_pos _
    have hlow : n / 2 ^ drop ≤ M := Nat.div_le_of_le_mul (by rw [Nat.mul_comm]; exact h)
    rcases Nat.lt_or_ge (n / 2 ^ drop) M with hl | hl
    · have := Bool.toNat_le (decide (2 ^ drop < 2 * (n % 2 ^ drop)) || 2 ^ drop == 2 * (n % 2 ^ drop) && n / 2 ^ drop % 2 == 1)
      omega
    · have hm : n / 2 ^ drop = M := Nat.le_antisymm hlow hl
      have hdm := Nat.div_add_mod n (2 ^ drop)
      rw [hm, Nat.mul_comm] at hdm
      have hr : n % 2 ^ drop = 0 := by omega
      rw [hr, hm]
      have h0 : ¬ 2 ^ drop < 2 * 0 := by omega
      have h1 : (2 ^ drop == 2 * 0) = false := by rw [beq_eq_false_iff_ne]; omega
      simp [h1]
  · rw [Nat.min_eq_right (by omega)]
    by_cases hn : n = 0
    · subst hn; simp
    · have hlt : n < 2 ^ (n.log2 + 1) := Nat.lt_log2_self
      have e : 2 ^ (n.log2 + 2) = 2 * 2 ^ (n.log2 + 1) := by rw [Nat.pow_succ, Nat.mul_comm]
      have hlow : n / 2 ^ (n.log2 + 2) = 0 := Nat.div_eq_of_lt (by omega)
      have hmod : n % 2 ^ (n.log2 + 2) = n := Nat.mod_eq_of_lt (by omega)
      rw [hlow, hmod]
      have h0 : ¬ 2 ^ (n.log2 + 2) < 2 * n := by omega
      have h1 : (2 ^ (n.log2 + 2) == 2 * n) = false := by rw [beq_eq_false_iff_ne]; omega
      simp [h0, h1]

theorem V_ge {q : Nat} (h : 2 ^ 52 ≤ q) : V q = (2 ^ 52 + q % 2 ^ 52) * 2 ^ (q / 2 ^ 52 - 1) := by
  unfold V; rw [if_neg (by omega)]

theorem rung_le (mag s q : Nat) (hm : mag ≠ 0) (h : mag * 2 ^ s ≤ V q) :
    (s + mag.log2 - 52) * 2 ^ 52 + Toward.even.cut false (mag * 2 ^ (s - (s + mag.log2 - 52))) ((s + mag.log2 - 52) - s) ≤ q := by
  have hlt : mag < 2 ^ (mag.log2 + 1) := Nat.lt_log2_self
  have hge : 2 ^ mag.log2 ≤ mag := Nat.log2_self_le hm
  have hN1 : mag * 2 ^ s < 2 ^ (mag.log2 + 1 + s) := by rw [Nat.pow_add]; exact Nat.mul_lt_mul_of_pos_right hlt (Nat.two_pow_pos _)
  have hN2 : 2 ^ (mag.log2 + s) ≤ mag * 2 ^ s := by rw [Nat.pow_add]; exact Nat.mul_le_mul_right _ hge
  generalize hd : s + mag.log2 - 52 = d
  by_cases d0 : d = 0
  · subst d0
    have hk := cut_le false (mag * 2 ^ (s - 0)) (0 - s) (mag * 2 ^ s) (by simp)
    have h53 : mag * 2 ^ s < 2 ^ 53 := Nat.lt_of_lt_of_le hN1 (Nat.pow_le_pow_right (by omega) (by omega))
    by_cases hq : q < 2 ^ 52
    · have : V q = q := by unfold V; rw [if_pos hq]
      omega
    · have hV := V_ge (q := q) (by omega)
      have hdm := Nat.div_add_mod q (2 ^ 52)
      by_cases he : q / 2 ^ 52 = 1
      · rw [he] at hV hdm
        simp only [Nat.sub_self, Nat.pow_zero, Nat.mul_one] at hV hdm
        omega
      · have : 1 ≤ q / 2 ^ 52 := Nat.div_pos (by omega) (by omega)
        omega
  · have hsum : 52 + d = mag.log2 + s := by omega
    have hbig : 2 ^ (52 + d) ≤ V q := by rw [hsum]; omega
    have hq : ¬ q < 2 ^ 52 := by
      intro hq
      have : V q = q := by unfold V; rw [if_pos hq]
      have h52 : 2 ^ 52 ≤ 2 ^ (52 + d) := Nat.pow_le_pow_right (by omega) (by omega)
      omega
    have hV := V_ge (q := q) (by omega)
    have hdm := Nat.div_add_mod q (2 ^ 52)
    have hf : q % 2 ^ 52 < 2 ^ 52 := Nat.mod_lt _ (by omega)
    have he1 : 1 ≤ q / 2 ^ 52 := Nat.div_pos (by omega) (by omega)
    generalize q / 2 ^ 52 = e at *
    generalize q % 2 ^ 52 = f at *
    have hlim : V q < 2 ^ (52 + e) := by
      have e2 : 2 ^ (52 + e) = 2 ^ 53 * 2 ^ (e - 1) := by rw [← Nat.pow_add]; congr 1; omega
      rw [hV, e2]
      exact Nat.mul_lt_mul_of_pos_right (by omega) (Nat.two_pow_pos _)
    have hde : d < e := by
      have : 52 + d < 52 + e := (Nat.pow_lt_pow_iff_right (a := 2) (by omega)).1 (Nat.lt_of_le_of_lt hbig hlim)
      omega
    have cancel : ∀ M, mag * 2 ^ s ≤ M * 2 ^ d → mag * 2 ^ (s - d) ≤ M * 2 ^ (d - s) := by
      intro M hM
      rcases Nat.le_total d s with hs | hs
      · have e1 : 2 ^ s = 2 ^ (s - d) * 2 ^ d := by rw [← Nat.pow_add]; congr 1; omega
        rw [e1, ← Nat.mul_assoc] at hM
        have := Nat.le_of_mul_le_mul_right hM (Nat.two_pow_pos d)
        rw [show d - s = 0 from by omega]; simpa using this
      · have e1 : 2 ^ d = 2 ^ (d - s) * 2 ^ s := by rw [← Nat.pow_add]; congr 1; omega
        rw [e1, ← Nat.mul_assoc] at hM
        have := Nat.le_of_mul_le_mul_right hM (Nat.two_pow_pos s)
        rw [show s - d = 0 from by omega]; simpa using this
    by_cases hd1 : d = e - 1
    · have hk := cut_le false (mag * 2 ^ (s - d)) (d - s) (2 ^ 52 + f) (cancel _ (by rw [hd1, ← hV]; exact h))
      have : (d + 1) * 2 ^ 52 = e * 2 ^ 52 := by congr 1; omega
      omega
    · have h53 : mag * 2 ^ s ≤ 2 ^ 53 * 2 ^ d := by
        have : 2 ^ 53 * 2 ^ d = 2 ^ (mag.log2 + 1 + s) := by rw [← Nat.pow_add]; congr 1; omega
        omega
      have hk := cut_le false (mag * 2 ^ (s - d)) (d - s) (2 ^ 53) (cancel _ h53)
      have : (d + 2) * 2 ^ 52 ≤ e * 2 ^ 52 := Nat.mul_le_mul_right _ (by omega)
      omega

theorem nearest_le (mag q : Nat) (place : Int) (hp : -1074 ≤ place) (h : mag * 2 ^ (place + 1074).toNat ≤ V q) : double.nearest false mag place ≤ q := by
  unfold Format.nearest
  by_cases hm : mag = 0
  · rw [if_pos hm]; simp [Format.word]
  · rw [if_neg hm]
    obtain ⟨s, rfl⟩ : ∃ s : Nat, place = (s : Int) - 1074 := ⟨(place + 1074).toNat, by omega⟩
    rw [show ((s : Int) - 1074 + 1074).toNat = s from by omega] at h
    have hr := rung_le mag s q hm h
    have lp : double.leastPlace = -1074 := by decide
    have fb : (double.fractionBits : Int) = 52 := rfl
    have hb : double.binade = 2 ^ 52 := rfl
    simp only [lp, fb, hb, Format.word, Bool.false_eq_true, if_false, Nat.shiftLeft_eq]
    have hl : max ((s : Int) - 1074 + (mag.log2 : Int) - 52) (-1074) = ((s + mag.log2 - 52 : Nat) : Int) - 1074 := by omega
    rw [hl]
    rw [show ((((s + mag.log2 - 52 : Nat) : Int) - 1074) - -1074).toNat = s + mag.log2 - 52 from by omega,
      show ((s : Int) - 1074 - (((s + mag.log2 - 52 : Nat) : Int) - 1074)).toNat = s - (s + mag.log2 - 52) from by omega,
      show ((((s + mag.log2 - 52 : Nat) : Int) - 1074) - ((s : Int) - 1074)).toNat = (s + mag.log2 - 52) - s from by omega]
    exact Nat.le_trans (Nat.min_le_left _ _) hr

theorem sw : double.signWeight = 2 ^ 63 := by decide
theorem bn : double.binade = 2 ^ 52 := rfl
theorem ir : double.infRung = 2047 * 2 ^ 52 := rfl
theorem lp : double.leastPlace = -1074 := by decide
theorem fb : (double.fractionBits : Int) = 52 := rfl

/-- A finite word that is not negative: its magnitude and place. -/
theorem read_pos (q : Nat) (h : q < 2047 * 2 ^ 52) : ∃ m s : Nat, double.read q = .number false m ((s : Int) - 1074) ∧ m * 2 ^ s = V q := by
  unfold Format.read
  simp only [sw, bn, ir, lp]
  have h1 : q / 2 ^ 63 = 0 := Nat.div_eq_of_lt (by omega)
  have h2 : q % 2 ^ 63 = q := Nat.mod_eq_of_lt (by omega)
  rw [h1, h2]
  by_cases hq : q < 2 ^ 52
  · refine ⟨q, 0, ?_, ?_⟩
    · rw [if_pos hq]; rfl
    · unfold V; rw [if_pos hq]; simp
  · refine ⟨2 ^ 52 + q % 2 ^ 52, q / 2 ^ 52 - 1, ?_, ?_⟩
    · rw [if_neg hq, if_pos h]
      simp; omega
    · unfold V; rw [if_neg hq]

/-- A difference of two finite words that are not negative: no greater than a rung that is no less than it, or negative. -/
theorem sub_le (r t q : Nat) (hr : r < 2047 * 2 ^ 52) (ht : t < 2047 * 2 ^ 52) (h : V r ≤ V t + V q) :
    ∃ z, double.sub r t = some z ∧ (z ≤ q ∨ 2 ^ 63 ≤ z) := by
  obtain ⟨m, s, e1, v1⟩ := read_pos r hr
  obtain ⟨n, u, e2, v2⟩ := read_pos t ht
  unfold Format.sub
  rw [e1, e2]
  simp only [Datum.opposite, Datum.sum, Option.map_some, Format.write]
  refine ⟨_, rfl, ?_⟩
  rw [show min ((s : Int) - 1074) ((u : Int) - 1074) = ((min s u : Nat) : Int) - 1074 from by omega]
  rw [show ((s : Int) - 1074 - (((min s u : Nat) : Int) - 1074)).toNat = s - min s u from by omega,
    show ((u : Int) - 1074 - (((min s u : Nat) : Int) - 1074)).toNat = u - min s u from by omega]
  generalize hk : min s u = k
  have hs : k ≤ s := by omega
  have hu : k ≤ u := by omega
  have hsig : signed false m (s - k) + signed (!false) n (u - k) = (m * 2 ^ (s - k) : Nat) - ((n * 2 ^ (u - k) : Nat) : Int) := by
    simp only [signed, Bool.not_false, Bool.false_eq_true, if_false, if_true, Nat.shiftLeft_eq]; omega
  rw [hsig]
  generalize ha : m * 2 ^ (s - k) = a
  generalize hb : n * 2 ^ (u - k) = b
  have hva : a * 2 ^ k = V r := by
    rw [← ha, ← v1, Nat.mul_assoc, ← Nat.pow_add]; congr 2; omega
  have hvb : b * 2 ^ k = V t := by
    rw [← hb, ← v2, Nat.mul_assoc, ← Nat.pow_add]; congr 2; omega
  by_cases hz : (a : Int) - (b : Int) = 0
  · left
    rw [if_pos hz]
    simp only [Bool.not_false, Bool.and_true]
    rw [hz]
    simp [Format.nearest, Format.word]
  · rw [if_neg hz]
    by_cases hn : (a : Int) - (b : Int) < 0
    · right
      simp only [hn, decide_true]
      unfold Format.nearest
      have h0 : ¬ ((a : Int) - (b : Int)).natAbs = 0 := by omega
      rw [if_neg h0]
      simp only [Format.word, if_true, sw]
      exact Nat.le_add_right _ _
    · left
      simp only [hn, decide_false]
      have hab : ((a : Int) - (b : Int)).natAbs = a - b := by omega
      rw [hab]
      refine nearest_le _ _ _ (by omega) ?_
      rw [show ((k : Int) - 1074 + 1074).toNat = k from by omega, Nat.sub_mul, hva, hvb]
      exact Nat.sub_le_of_le_add (by rw [Nat.add_comm]; exact h)

/-- Where nothing is left over, nothing is lost. -/
theorem cut_exact (neg : Bool) (M drop : Nat) (hM : M ≠ 0) : Toward.even.cut neg (M * 2 ^ drop) drop = M := by
  have h1 : drop ≤ (M * 2 ^ drop).log2 := (Nat.le_log2 (by have := Nat.two_pow_pos drop; exact Nat.mul_ne_zero hM (by omega))).2 (Nat.le_mul_of_pos_left _ (by omega))
  unfold Toward.cut
  rw [Nat.min_eq_left (by omega)]
  simp only [Nat.shiftLeft_eq, Nat.one_mul]
  have hg := Nat.two_pow_pos drop
  rw [Nat.mul_div_cancel _ hg, Nat.mul_mod_left]
  have h0 : ¬ 2 ^ drop < 2 * 0 := by omega
  have h2 : (2 ^ drop == 2 * 0) = false := by rw [beq_eq_false_iff_ne]; omega
  simp [h2]

theorem cut_ge (neg : Bool) (n drop M : Nat) (hd : drop ≤ n.log2 + 2) (h : M * 2 ^ drop ≤ n) : M ≤ Toward.even.cut neg n drop := by
  unfold Toward.cut
  rw [Nat.min_eq_left hd]
  simp only [Nat.shiftLeft_eq, Nat.one_mul]
  have := (Nat.le_div_iff_mul_le (Nat.two_pow_pos drop)).2 h
  omega

/-- A number less than the least that is normal, times 2^52. -/
theorem up_mul (r : Nat) (h0 : 0 < r) (h : r < 2 ^ 52) : double.mul r 4841369599423283200 = some (r.log2 * 2 ^ 52 + r * 2 ^ (52 - r.log2)) := by
  have hL : r.log2 < 52 := (Nat.log2_lt (by omega)).2 h
  have e1 : double.read r = .number false r (-1074) := by
    unfold Format.read
    simp only [sw, bn, ir, lp]
    rw [Nat.div_eq_of_lt (by omega), Nat.mod_eq_of_lt (by omega), if_pos h]; rfl
  have e2 : double.read 4841369599423283200 = .number false (2 ^ 52) 0 := by decide
  unfold Format.mul
  rw [e1, e2]
  simp only [Datum.product, Option.map_some, Format.write, Bool.xor_false, Bool.false_bne, bne_self_eq_false]
  congr 1
  unfold Format.nearest
  have hm : r * 2 ^ 52 ≠ 0 := Nat.mul_ne_zero (by omega) (by omega)
  have hlog : (r * 2 ^ 52).log2 = r.log2 + 52 := by
    apply (Nat.log2_eq_iff hm).2
    constructor
    · rw [Nat.pow_add]; exact Nat.mul_le_mul_right _ (Nat.log2_self_le (by omega))
    · rw [show r.log2 + 52 + 1 = (r.log2 + 1) + 52 from by omega, Nat.pow_add]; exact Nat.mul_lt_mul_of_pos_right Nat.lt_log2_self (Nat.two_pow_pos _)
  rw [if_neg hm, hlog]
  simp only [lp, fb, bn, ir, Format.word, Bool.false_eq_true, if_false, Nat.shiftLeft_eq]
  rw [show max ((-1074 : Int) + 0 + ((r.log2 + 52 : Nat) : Int) - 52) (-1074) = (r.log2 : Int) - 1074 from by omega]
  rw [show ((r.log2 : Int) - 1074 - -1074).toNat = r.log2 from by omega, show ((-1074 : Int) + 0 - ((r.log2 : Int) - 1074)).toNat = 0 from by omega,
    show ((r.log2 : Int) - 1074 - (-1074 + 0)).toNat = r.log2 from by omega]
  have e3 : r * 2 ^ 52 * 2 ^ 0 = (r * 2 ^ (52 - r.log2)) * 2 ^ r.log2 := by
    rw [Nat.mul_assoc r, ← Nat.pow_add, Nat.mul_assoc, ← Nat.pow_add]; congr 2; omega
  rw [e3, cut_exact false _ _ (Nat.mul_ne_zero (by omega) (by have := Nat.two_pow_pos (52 - r.log2); omega))]
  apply Nat.min_eq_left
  have : r * 2 ^ (52 - r.log2) < 2 ^ (r.log2 + 1) * 2 ^ (52 - r.log2) := Nat.mul_lt_mul_of_pos_right Nat.lt_log2_self (Nat.two_pow_pos _)
  rw [← Nat.pow_add, show r.log2 + 1 + (52 - r.log2) = 53 from by omega] at this
  have h2 : r.log2 * 2 ^ 52 ≤ 51 * 2 ^ 52 := Nat.mul_le_mul_right _ (by omega)
  exact Nat.le_trans (Nat.add_le_add h2 (Nat.le_of_lt this)) (by decide)

theorem read_norm (f E : Nat) (hf : f < 2 ^ 52) (hE : 1 ≤ E) (hE2 : E ≤ 2046) : double.read (E * 2 ^ 52 + f) = .number false (2 ^ 52 + f) ((E : Int) - 1075) := by
  unfold Format.read
  simp only [sw, bn, ir, lp]
  have hb : E * 2 ^ 52 ≤ 2046 * 2 ^ 52 := Nat.mul_le_mul_right _ hE2
  have hb0 : 1 * 2 ^ 52 ≤ E * 2 ^ 52 := Nat.mul_le_mul_right _ hE
  rw [Nat.div_eq_of_lt (by omega), Nat.mod_eq_of_lt (by omega), if_neg (by omega), if_pos (by omega)]
  have e1 : (E * 2 ^ 52 + f) % 2 ^ 52 = f := by omega
  have e2 : (E * 2 ^ 52 + f) / 2 ^ 52 = E := by omega
  rw [e1, e2]
  congr 1
  omega

theorem log_sig (f : Nat) (hf : f < 2 ^ 52) : (2 ^ 52 * (2 ^ 52 + f)).log2 = 104 := by
  apply (Nat.log2_eq_iff (by omega)).2
  omega

/-- Once. -/
theorem one_mul' (f E : Nat) (hf : f < 2 ^ 52) (hE : 1 ≤ E) (hE2 : E ≤ 2046) : double.mul 4607182418800017408 (E * 2 ^ 52 + f) = some (E * 2 ^ 52 + f) := by
  have e2 : double.read 4607182418800017408 = .number false (2 ^ 52) (-52) := by decide
  unfold Format.mul
  rw [read_norm f E hf hE hE2, e2]
  simp only [Datum.product, Option.map_some, Format.write, bne_self_eq_false]
  congr 1
  unfold Format.nearest
  rw [if_neg (by omega), log_sig f hf]
  simp only [lp, fb, bn, ir, Format.word, Bool.false_eq_true, if_false, Nat.shiftLeft_eq]
  rw [show max ((-52 : Int) + ((E : Int) - 1075) + ((104 : Nat) : Int) - 52) (-1074) = (E : Int) - 1075 from by omega]
  rw [show ((E : Int) - 1075 - -1074).toNat = E - 1 from by omega, show ((-52 : Int) + ((E : Int) - 1075) - ((E : Int) - 1075)).toNat = 0 from by omega,
    show ((E : Int) - 1075 - (-52 + ((E : Int) - 1075))).toNat = 52 from by omega]
  rw [Nat.pow_zero, Nat.mul_one, Nat.mul_comm (2 ^ 52) (2 ^ 52 + f), cut_exact false _ _ (by omega)]
  have hb : E * 2 ^ 52 ≤ 2046 * 2 ^ 52 := Nat.mul_le_mul_right _ hE2
  have hs : (E - 1) * 2 ^ 52 + 2 ^ 52 = E * 2 ^ 52 := by rw [← Nat.succ_mul]; congr 1; omega
  have hb0 : 1 * 2 ^ 52 ≤ E * 2 ^ 52 := Nat.mul_le_mul_right _ hE
  omega

/-- Times 2^-53, below the normal numbers. -/
theorem down_mul (f E : Nat) (hf : f < 2 ^ 52) (hE : 2 ≤ E) (hE2 : E ≤ 53) : ∃ t, double.mul 4368491638549381120 (E * 2 ^ 52 + f) = some t ∧ 2 ^ (E - 2) ≤ t ∧ t ≤ 2 ^ 52 := by
  have e2 : double.read 4368491638549381120 = .number false (2 ^ 52) (-105) := by decide
  unfold Format.mul
  rw [read_norm f E hf (by omega) (by omega), e2]
  simp only [Datum.product, Option.map_some, Format.write, bne_self_eq_false]
  refine ⟨_, rfl, ?_⟩
  unfold Format.nearest
  rw [if_neg (by omega), log_sig f hf]
  simp only [lp, fb, bn, ir, Format.word, Bool.false_eq_true, if_false, Nat.shiftLeft_eq]
  rw [show max ((-105 : Int) + ((E : Int) - 1075) + ((104 : Nat) : Int) - 52) (-1074) = -1074 from by omega]
  rw [show ((-1074 : Int) - -1074).toNat = 0 from by omega, show ((-105 : Int) + ((E : Int) - 1075) - -1074).toNat = 0 from by omega,
    show ((-1074 : Int) - (-105 + ((E : Int) - 1075))).toNat = 106 - E from by omega]
  rw [Nat.pow_zero, Nat.mul_one, Nat.zero_mul, Nat.zero_add]
  have k1 := cut_ge false (2 ^ 52 * (2 ^ 52 + f)) (106 - E) (2 ^ (E - 2)) (by rw [log_sig f hf]; omega) (by
    rw [← Nat.pow_add, show E - 2 + (106 - E) = 104 from by omega]; omega)
  have k2 := cut_le false (2 ^ 52 * (2 ^ 52 + f)) (106 - E) (2 ^ (E - 1)) (by
    rw [← Nat.pow_add, show E - 1 + (106 - E) = 105 from by omega]; omega)
  have k3 : 2 ^ (E - 1) ≤ 2 ^ 52 := Nat.pow_le_pow_right (by omega) (by omega)
  omega

/-- The place of the greatest digit. -/
def Lg (r : Nat) : Nat := if r < 2 ^ 52 then r.log2 else r / 2 ^ 52 + 51

theorem V_small {r : Nat} (h : r ≤ 2 ^ 53) : V r = r := by
  unfold V
  split
  · rfl
  · rename_i h1
    by_cases h2 : r = 2 ^ 53
    · subst h2; decide
    · have : r / 2 ^ 52 = 1 := by omega
      rw [this]; simp; omega

/-- From one rung to the next it is no more than this. -/
theorem gap (r a : Nat) (h0 : 0 < r) (ha : Lg r ≤ a + 52) : V r ≤ 2 ^ a + V (r - 1) := by
  have h2a := Nat.two_pow_pos a
  by_cases h : r ≤ 2 ^ 53
  · rw [V_small h, V_small (r := r - 1) (by omega)]; omega
  · unfold Lg at ha
    rw [if_neg (by omega)] at ha
    rw [V_ge (q := r) (by omega), V_ge (q := r - 1) (by omega)]
    obtain ⟨e, f, rfl, hf⟩ : ∃ e f, r = e * 2 ^ 52 + f ∧ f < 2 ^ 52 := ⟨r / 2 ^ 52, r % 2 ^ 52, by omega, by omega⟩
    have e1 : (e * 2 ^ 52 + f) / 2 ^ 52 = e := by omega
    have e2 : (e * 2 ^ 52 + f) % 2 ^ 52 = f := by omega
    rw [e1] at ha
    rw [e1, e2]
    have he : 2 ≤ e := by
      by_cases h3 : e ≤ 1
      · have : e * 2 ^ 52 ≤ 1 * 2 ^ 52 := Nat.mul_le_mul_right _ h3
        omega
      · omega
    have hp : 2 ^ (e - 1) ≤ 2 ^ a := Nat.pow_le_pow_right (by omega) (by omega)
    by_cases hf0 : f = 0
    · subst hf0
      have e3 : (e * 2 ^ 52 + 0 - 1) / 2 ^ 52 = e - 1 := by omega
      have e4 : (e * 2 ^ 52 + 0 - 1) % 2 ^ 52 = 2 ^ 52 - 1 := by omega
      rw [e3, e4]
      have e5 : 2 ^ (e - 1) = 2 * 2 ^ (e - 1 - 1) := by rw [← Nat.pow_succ']; congr 1; omega
      generalize 2 ^ (e - 1 - 1) = u at *
      rw [e5] at hp ⊢
      omega
    · have e3 : (e * 2 ^ 52 + f - 1) / 2 ^ 52 = e := by omega
      have e4 : (e * 2 ^ 52 + f - 1) % 2 ^ 52 = f - 1 := by omega
      rw [e3, e4]
      have : (2 ^ 52 + f) * 2 ^ (e - 1) = (2 ^ 52 + (f - 1)) * 2 ^ (e - 1) + 2 ^ (e - 1) := by rw [← Nat.succ_mul]; congr 1; omega
      omega

/-- What is taken away makes it less, by a rung at least. -/
theorem step_less (r t a : Nat) (hr : r < 2047 * 2 ^ 52) (h0 : 0 < r) (ht : t < 2047 * 2 ^ 52) (ha : Lg r ≤ a + 52) (hv : 2 ^ a ≤ V t) :
    ∃ z, double.sub r t = some z ∧ (z < r ∨ 2 ^ 63 ≤ z) := by
  obtain ⟨z, hz, h⟩ := sub_le r t (r - 1) hr ht (Nat.le_trans (gap r a h0 ha) (Nat.add_le_add_right hv _))
  exact ⟨z, hz, by omega⟩

/-- How two finite rungs stand. -/
theorem order_V (x y : Nat) (hx : x < 2047 * 2 ^ 52) (hy : y < 2047 * 2 ^ 52) : double.order x y = some (compare (V x) (V y)) := by
  obtain ⟨m, s, e1, v1⟩ := read_pos x hx
  obtain ⟨n, u, e2, v2⟩ := read_pos y hy
  unfold Format.order
  rw [e1, e2]
  simp only [Datum.order]
  rw [show min ((s : Int) - 1074) ((u : Int) - 1074) = ((min s u : Nat) : Int) - 1074 from by omega]
  rw [show ((s : Int) - 1074 - (((min s u : Nat) : Int) - 1074)).toNat = s - min s u from by omega,
    show ((u : Int) - 1074 - (((min s u : Nat) : Int) - 1074)).toNat = u - min s u from by omega]
  generalize hk : min s u = k
  have hs : k ≤ s := by omega
  have hu : k ≤ u := by omega
  simp only [signed, Bool.false_eq_true, if_false, Nat.shiftLeft_eq]
  have hva : m * 2 ^ (s - k) * 2 ^ k = V x := by rw [← v1, Nat.mul_assoc, ← Nat.pow_add]; congr 2; omega
  have hvb : n * 2 ^ (u - k) * 2 ^ k = V y := by rw [← v2, Nat.mul_assoc, ← Nat.pow_add]; congr 2; omega
  rw [← hva, ← hvb]
  have hp := Nat.two_pow_pos k
  generalize m * 2 ^ (s - k) = A
  generalize n * 2 ^ (u - k) = B
  congr 1
  rcases Nat.lt_trichotomy A B with h | h | h
  · rw [Int.compare_eq_lt.2 (by omega), Nat.compare_eq_lt.2 (Nat.mul_lt_mul_of_pos_right h hp)]
  · subst h; simp
  · rw [Int.compare_eq_gt.2 (by omega), Nat.compare_eq_gt.2 (Nat.mul_lt_mul_of_pos_right h hp)]
end Go.Proofs.YtjapohefiggbaaaGreatDoor.Fl
