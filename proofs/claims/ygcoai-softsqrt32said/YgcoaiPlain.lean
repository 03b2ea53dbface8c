/-
  Seat gcoai. The plain law: rounding a significand (rp) and rounding a fraction (rnd) agree.
-/
import Derived.Test.YgcoaiRnd
import Derived.Test.YgcoaiRoundE
namespace Go.Proofs.Ygcoai
open Go.RowKit

/-- m is n/d rounded to nearest, ties to even. -/
def RN (n d m : Nat) : Prop := 2 * (m * d) ≤ 2 * n + d ∧ 2 * n ≤ 2 * (m * d) + d ∧ (2 * n = 2 * (m * d) + d → m % 2 = 0) ∧ (2 * n + d = 2 * (m * d) → m % 2 = 0)

theorem RN.unique_lt {n d m m' : Nat} (hd : 0 < d) (h : RN n d m) (h' : RN n d m') (hl : m < m') : False := by
  obtain ⟨a1, a2, a3, a4⟩ := h
  obtain ⟨b1, b2, b3, b4⟩ := h'
  have h1 : (m + 1) * d ≤ m' * d := Nat.mul_le_mul_right d hl
  rw [Nat.add_mul, Nat.one_mul] at h1
  have h2 : m' * d = m * d + d := by omega
  have h3 : m' = m + 1 := by
    apply Nat.eq_of_mul_eq_mul_right hd
    rw [h2, Nat.add_mul, Nat.one_mul]
  have := a3 (by omega)
  have := b4 (by omega)
  omega
theorem RN.unique {n d m m' : Nat} (hd : 0 < d) (h : RN n d m) (h' : RN n d m') : m = m' := by
  rcases Nat.lt_trichotomy m m' with hl | hl | hl
  · exact (h.unique_lt hd h' hl).elim
  · exact hl
  · exact (h'.unique_lt hd h hl).elim

theorem rne_RN {n d : Nat} (hd : 0 < d) : RN n d (rne n d) := by
  have h1 := Nat.div_add_mod n d
  have h2 := Nat.mod_lt n hd
  unfold rne
  generalize n / d = q at *
  generalize n % d = r at *
  rw [Nat.mul_comm d q] at h1
  rcases Nat.lt_trichotomy (r * 2) d with h | h | h
  · rw [cmpI_lt h, show xr (-1) (decide (q % 2 = 1)) = false from by unfold xr; simp]
    simp only [Bool.false_eq_true, if_false, Nat.add_zero]
    refine ⟨by omega, by omega, fun _ => by omega, fun _ => by omega⟩
  · rw [cmpI_eq h]
    by_cases hq : q % 2 = 1
    · rw [show xr 0 (decide (q % 2 = 1)) = true from by unfold xr; simp [hq]]
      simp only [if_true]
      have e : (q + 1) * d = q * d + d := by rw [Nat.add_mul, Nat.one_mul]
      refine ⟨by omega, by omega, fun _ => by omega, fun _ => by omega⟩
    · rw [show xr 0 (decide (q % 2 = 1)) = false from by unfold xr; simp [hq]]
      simp only [Bool.false_eq_true, if_false, Nat.add_zero]
      refine ⟨by omega, by omega, fun _ => by omega, fun _ => by omega⟩
  · rw [cmpI_gt h, show xr 1 (decide (q % 2 = 1)) = true from by unfold xr; simp]
    simp only [if_true]
    have e : (q + 1) * d = q * d + d := by rw [Nat.add_mul, Nat.one_mul]
    refine ⟨by omega, by omega, fun _ => by omega, fun _ => by omega⟩

theorem rne_eq {n d m : Nat} (hd : 0 < d) (h : RN n d m) : rne n d = m := (rne_RN hd).unique hd h

theorem RN.mul {n d m c : Nat} (hc : 0 < c) : RN (n * c) (d * c) m ↔ RN n d m := by
  unfold RN
  have e1 : 2 * (m * (d * c)) = 2 * (m * d) * c := by grind
  have e2 : 2 * (n * c) + d * c = (2 * n + d) * c := by grind
  have e3 : 2 * (n * c) = 2 * n * c := by grind
  have e4 : 2 * (m * d) * c + d * c = (2 * (m * d) + d) * c := by grind
  rw [e1, e2, e3, e4]
  rw [Nat.mul_le_mul_right_iff hc, Nat.mul_le_mul_right_iff hc, Nat.mul_left_inj (by omega), Nat.mul_left_inj (by omega)]

theorem rne_congr {n d n' d' : Nat} (hd : 0 < d) (hd' : 0 < d') (h : n * d' = n' * d) : rne n d = rne n' d' := by
  apply rne_eq hd
  have h1 := rne_RN (n := n') hd'
  rw [← RN.mul hd]
  rw [← RN.mul hd', Nat.mul_right_comm]
  rw [Nat.mul_right_comm] at *
  have h2 := (RN.mul (n := n') (d := d') (m := rne n' d') (c := d * d) (Nat.mul_pos hd hd)).2 h1
  have e1 : n * d' * d = n' * (d * d) := by rw [h, Nat.mul_assoc]
  have e2 : d * d * d' = d' * (d * d) := by rw [Nat.mul_comm]
  first
    | (rw [e1, e2]; exact h2)
    | (rw [Nat.mul_right_comm n d d', e1, e2]; exact h2)

theorem rne_sticky {n d S k : Nat} (hd : 0 < d) (ho : S % 2 = 1) (hk : 2 ≤ k) (h1 : (S - 1) * d < n * 2 ^ k) (h2 : n * 2 ^ k < (S + 1) * d) : rne n d = rne S (2 ^ k) := by
  have hp := Nat.two_pow_pos k
  apply rne_eq hd
  obtain ⟨a1, a2, -, -⟩ := rne_RN (n := S) hp
  generalize rne S (2 ^ k) = m at *
  obtain ⟨j, rfl⟩ : ∃ j, k = j + 2 := ⟨k - 2, by omega⟩
  have e : 2 ^ (j + 2) = 4 * 2 ^ j := by rw [Nat.pow_add]; omega
  generalize 2 ^ (j + 2) = P at *
  generalize 2 ^ j = Q at *
  have hmP : m * P = 4 * (m * Q) := by rw [e]; grind
  have c1 : 2 * (m * P) ≤ 2 * (S - 1) + P := by omega
  have c2 : 2 * (S + 1) ≤ 2 * (m * P) + P := by omega
  have d1 := Nat.mul_le_mul_right d c1
  have d2 := Nat.mul_le_mul_right d c2
  have e1 : 2 * (m * P) * d = 2 * (m * d) * P := by grind
  have e2 : (2 * (S - 1) + P) * d = 2 * ((S - 1) * d) + d * P := by grind
  have e3 : 2 * (S + 1) * d = 2 * ((S + 1) * d) := by grind
  have e4 : (2 * (m * P) + P) * d = (2 * (m * d) + d) * P := by grind
  have e5 : 2 * (n * P) + d * P = (2 * n + d) * P := by grind
  have f1 : 2 * (m * d) * P < (2 * n + d) * P := by omega
  have f2 : 2 * n * P < (2 * (m * d) + d) * P := by
    have : 2 * n * P = 2 * (n * P) := by grind
    omega
  have g1 := Nat.lt_of_mul_lt_mul_right f1
  have g2 := Nat.lt_of_mul_lt_mul_right f2
  exact ⟨by omega, by omega, fun _ => by omega, fun _ => by omega⟩

theorem cut_rne {S k : Nat} (hS : S < 18446744073709551616) (_h0 : S ≠ 0) (hk : 1 ≤ k) : S / 2 ^ k + (if rsB (S / 2 ^ k) (cutR S k) then 1 else 0) = rne S (2 ^ k) := by
  unfold rne
  congr 1
  have hp := Nat.two_pow_pos k
  have h2 := Nat.mod_lt S hp
  have h1 := Nat.div_add_mod S (2 ^ k)
  unfold rsB xr cutR
  by_cases h : k ≤ 64
  · rw [if_pos h]
    have e0 : 18446744073709551616 = 2 ^ k * 2 ^ (64 - k) := by
      rw [← Nat.pow_add, show k + (64 - k) = 64 by omega]
    have e1 : S * 2 ^ (64 - k) % 18446744073709551616 = S % 2 ^ k * 2 ^ (64 - k) := by
      rw [e0, Nat.mul_mod_mul_right]
    rw [e1]
    have hq := Nat.two_pow_pos (64 - k)
    generalize S % 2 ^ k = r at *
    generalize S / 2 ^ k = q at *
    generalize 2 ^ (64 - k) = c at *
    generalize 2 ^ k = d at *
    have e2 : r * c * 2 = r * 2 * c := by grind
    rcases Nat.lt_trichotomy (r * 2) d with g | g | g
    · have := Nat.mul_lt_mul_of_pos_right g hq
      rw [cmpI_lt g, decide_eq_false (by omega), decide_eq_false (show ¬ r * c = 9223372036854775808 by omega)]
      rfl
    · have : r * 2 * c = d * c := by rw [g]
      rw [cmpI_eq g, decide_eq_false (by omega), decide_eq_true (show r * c = 9223372036854775808 by omega)]
      simp
    · have := Nat.mul_lt_mul_of_pos_right g hq
      rw [cmpI_gt g, decide_eq_true (show 9223372036854775808 < r * c by omega)]
      simp
  · rw [if_neg h]
    have hb : 2 ^ 65 ≤ 2 ^ k := Nat.pow_le_pow_right (by decide) (by omega)
    rw [Nat.mod_eq_of_lt (show S < 2 ^ k by omega), cmpI_lt (show S * 2 < 2 ^ k by omega)]
    simp

theorem eq_shift {n d a b a' b' : Nat} (h : n * 2 ^ a = d * 2 ^ b) (e : a + b' = a' + b) : n * 2 ^ a' = d * 2 ^ b' := by
  have h1 := le_shift (Nat.le_of_eq h) e
  have h2 := le_shift (Nat.le_of_eq h.symm) (a' := b') (b' := a') (by omega)
  omega

/-- Both roundings start alike. -/
theorem rp_rnd_of {N D sig : Nat} {exp : Int} (hN : N ≠ 0) (hD : D ≠ 0) (h0 : sig ≠ 0) (hs : sig < 18446744073709551616) {a b : Nat} (hx : (b : Int) - a = exp)
    (hl : 2 ^ (bl sig - 1) * D * 2 ^ b ≤ N * 2 ^ a) (hu : N * 2 ^ a < 2 ^ bl sig * D * 2 ^ b)
    (hr : ∀ e : Int, exp + bl sig - 1 ≤ e → rne (sN N (23 - e)) (sD D (23 - e)) = rne (sig * 2 ^ (64 - bl sig)) (2 ^ (40 + e - (exp + bl sig - 1)).toNat)) : rp exp sig = rnd N D := by
  have hb := bl_pos h0
  obtain ⟨s1, s2⟩ := sig_up h0 hs
  have hlg : lg N D = exp + bl sig - 1 := by
    refine lg_unique hN hD (a := a) (b := b + (bl sig - 1)) (by omega) ?_ ?_
    · have e : 2 ^ (bl sig - 1) * D * 2 ^ b = D * 2 ^ (b + (bl sig - 1)) := by rw [Nat.pow_add]; grind
      rw [← e]; exact hl
    · have e : 2 ^ bl sig * D * 2 ^ b = D * 2 ^ (b + (bl sig - 1) + 1) := by
        rw [show b + (bl sig - 1) + 1 = b + bl sig by omega, Nat.pow_add]; grind
      rw [← e]; exact hu
  unfold rp rnd
  dsimp only
  rw [if_neg hN, hlg]
  generalize hR : exp + (bl sig : Int) - 1 = rl at *
  by_cases h : 127 < rl
  · rw [if_pos h, if_pos (by omega)]
  · rw [if_neg h, if_neg (by omega)]
    unfold rpk
    dsimp only
    rw [hr _ (by omega), cut_rne s2 (by omega) (by omega)]

theorem rp_exact {N D sig : Nat} {exp : Int} (hN : N ≠ 0) (hD : D ≠ 0) (h0 : sig ≠ 0) (hs : sig < 18446744073709551616) {a b : Nat} (hx : (b : Int) - a = exp)
    (h : N * 2 ^ a = sig * D * 2 ^ b) : rp exp sig = rnd N D := by
  have hb := bl_pos h0
  have hb2 : bl sig ≤ 64 := bl_le_of_lt (k := 64) hs
  have h1 := bl_lt sig
  have h2 := bl_le h0
  refine rp_rnd_of hN hD h0 hs hx ?_ ?_ ?_
  · rw [h]; exact Nat.mul_le_mul_right _ (Nat.mul_le_mul_right _ h2)
  · rw [h]; exact Nat.mul_lt_mul_of_pos_right (Nat.mul_lt_mul_of_pos_right h1 (Nat.pos_of_ne_zero hD)) (Nat.two_pow_pos _)
  · intro e he
    apply rne_congr
    · unfold sD; exact Nat.mul_pos (Nat.pos_of_ne_zero hD) (Nat.two_pow_pos _)
    · exact Nat.two_pow_pos _
    · unfold sN sD
      have h3 := eq_shift h (a' := (23 - e).toNat + (40 + e - (exp + bl sig - 1)).toNat) (b' := (64 - bl sig) + (-(23 - e)).toNat) (by omega)
      rw [Nat.pow_add, Nat.pow_add] at h3
      grind

theorem rp_sticky {N D sig : Nat} {exp : Int} (hN : N ≠ 0) (hD : D ≠ 0) (hs : sig < 18446744073709551616) {a b : Nat} (hx : (b : Int) - a = exp) (ho : sig % 2 = 1) (hw : 26 ≤ bl sig)
    (hl : (sig - 1) * D * 2 ^ b < N * 2 ^ a) (hu : N * 2 ^ a < (sig + 1) * D * 2 ^ b) : rp exp sig = rnd N D := by
  have h0 : sig ≠ 0 := by omega
  have hb := bl_pos h0
  have hb2 : bl sig ≤ 64 := bl_le_of_lt (k := 64) hs
  have h1 := bl_lt sig
  have h2 := bl_le h0
  have e1 : 2 ^ (bl sig - 1) = 2 * 2 ^ (bl sig - 2) := by rw [show bl sig - 1 = bl sig - 2 + 1 by omega, Nat.pow_succ]; omega
  have e2 : 2 ^ bl sig = 2 * 2 ^ (bl sig - 1) := by rw [show bl sig = bl sig - 1 + 1 by omega, Nat.pow_succ]; simp; omega
  refine rp_rnd_of hN hD h0 hs hx ?_ ?_ ?_
  · refine Nat.le_of_lt (Nat.lt_of_le_of_lt ?_ hl)
    exact Nat.mul_le_mul_right _ (Nat.mul_le_mul_right _ (by omega))
  · refine Nat.lt_of_lt_of_le hu ?_
    exact Nat.mul_le_mul_right _ (Nat.mul_le_mul_right _ (by omega))
  · intro e he
    obtain ⟨k, hk⟩ : ∃ k : Nat, (k : Int) = e - exp - 23 := ⟨(e - exp - 23).toNat, by omega⟩
    have hk2 : 2 ≤ k := by omega
    have e3 : 2 ^ (40 + e - (exp + bl sig - 1)).toNat = 2 ^ k * 2 ^ (64 - bl sig) := by
      rw [← Nat.pow_add]; congr 1; omega
    rw [e3, rne_congr (n' := sig) (d' := 2 ^ k) (Nat.mul_pos (Nat.two_pow_pos _) (Nat.two_pow_pos _)) (Nat.two_pow_pos _) (by grind)]
    refine rne_sticky ?_ ho hk2 ?_ ?_
    · unfold sD; exact Nat.mul_pos (Nat.pos_of_ne_zero hD) (Nat.two_pow_pos _)
    · unfold sN sD
      have h3 := lt_shift hl (a' := (-(23 - e)).toNat) (b' := (23 - e).toNat + k) (by omega)
      rw [Nat.pow_add] at h3
      grind
    · unfold sN sD
      have h3 := lt_shift hu (a' := (23 - e).toNat + k) (b' := (-(23 - e)).toNat) (by omega)
      rw [Nat.pow_add] at h3
      grind

end Go.Proofs.Ygcoai
