/-
  Seat gcoai. The plain law of the quotient, and SoftDiv32 whole.
-/
import Derived.Test.YgcoaiSoftDiv
import Derived.Test.YgcoaiExDiv
namespace Go.Proofs.Ygcoai
open Go.RowKit

theorem rnd_zero (d : Nat) : rnd 0 d = 0 := by unfold rnd; rw [if_pos rfl]

theorem or_one_even {q : Nat} : q ||| 1 = q / 2 * 2 + 1 := by
  have h : (q ||| 1) % 2 = 1 := by rw [Nat.or_mod_two_eq_one]; right; rfl
  have h2 : (q ||| 1) / 2 = q / 2 := by
    rw [Nat.or_div_two]; simp
  omega

/-- The pattern of the quotient m/n times 2^x, with its lowest bit standing for the rest. -/
theorem rp_quot {m n N D : Nat} {x : Int} (h1 : 8388608 ≤ m) (h2 : m < 16777216) (h3 : 8388608 ≤ n) (h4 : n < 16777216) (hN : N ≠ 0) (hD : D ≠ 0) {a b : Nat} (hx : (b : Int) - a = x) (h : N * n * 2 ^ a = m * D * 2 ^ b) :
    rp (x - 63) (dq m n) = rnd N D := by
  obtain ⟨d1, d2, d3, d4⟩ := dq_bd h1 h2 h3 h4
  have hn : 0 < n := by omega
  have hq := Nat.div_add_mod (m * 9223372036854775808) n
  have hr := Nat.mod_lt (m * 9223372036854775808) hn
  have hm : m * 9223372036854775808 = m * 2 ^ 63 := by simp
  by_cases hz : m * 9223372036854775808 % n = 0
  · have hdq : dq m n = m * 9223372036854775808 / n := by unfold dq; rw [if_pos hz, Nat.or_zero]
    rw [hdq]
    generalize m * 9223372036854775808 / n = q at *
    refine rp_exact hN hD (by omega) d2 (a := a + 63) (b := b) (by omega) ?_
    apply Nat.eq_of_mul_eq_mul_right hn
    rw [Nat.pow_add]
    have e1 : N * (2 ^ a * 2 ^ 63) * n = N * n * 2 ^ a * 2 ^ 63 := by grind
    have e2 : q * D * 2 ^ b * n = n * q * (D * 2 ^ b) := by grind
    rw [hz, Nat.add_zero, hm] at hq
    rw [e1, e2, h, hq]
    grind
  · have hdq : dq m n = m * 9223372036854775808 / n / 2 * 2 + 1 := by unfold dq; rw [if_neg hz, or_one_even]
    generalize hs : dq m n = s at *
    generalize m * 9223372036854775808 / n = q at *
    generalize m * 9223372036854775808 % n = r at *
    have hb : 26 ≤ bl s := by
      rcases Nat.lt_or_ge (bl s) 26 with hl | hl
      · have h5 := bl_lt s
        have h6 : 2 ^ bl s ≤ 2 ^ 26 := Nat.pow_le_pow_right (by decide) (by omega)
        omega
      · exact hl
    have l1 : n * (s - 1) < m * 2 ^ 63 := by
      rw [← hm, ← hq]
      have : n * (s - 1) ≤ n * q := Nat.mul_le_mul_left n (by omega)
      omega
    have l2 : m * 2 ^ 63 < n * (s + 1) := by
      rw [← hm, ← hq]
      have : n * (q + 1) ≤ n * (s + 1) := Nat.mul_le_mul_left n (by omega)
      rw [Nat.mul_add, Nat.mul_one] at this
      omega
    have hp : 0 < D * 2 ^ b := Nat.mul_pos (Nat.pos_of_ne_zero hD) (Nat.two_pow_pos _)
    refine rp_sticky hN hD d4 (a := a + 63) (b := b) (by omega) (by omega) hb ?_ ?_
    · apply Nat.lt_of_mul_lt_mul_right (a := n)
      rw [Nat.pow_add]
      have e1 : N * (2 ^ a * 2 ^ 63) * n = N * n * 2 ^ a * 2 ^ 63 := by grind
      have e2 : (s - 1) * D * 2 ^ b * n = n * (s - 1) * (D * 2 ^ b) := by grind
      have e3 : m * D * 2 ^ b * 2 ^ 63 = m * 2 ^ 63 * (D * 2 ^ b) := by grind
      rw [e1, e2, h, e3]
      exact Nat.mul_lt_mul_of_pos_right l1 hp
    · apply Nat.lt_of_mul_lt_mul_right (a := n)
      rw [Nat.pow_add]
      have e1 : N * (2 ^ a * 2 ^ 63) * n = N * n * 2 ^ a * 2 ^ 63 := by grind
      have e2 : (s + 1) * D * 2 ^ b * n = n * (s + 1) * (D * 2 ^ b) := by grind
      have e3 : m * D * 2 ^ b * 2 ^ 63 = m * 2 ^ 63 * (D * 2 ^ b) := by grind
      rw [e1, e2, h, e3]
      exact Nat.mul_lt_mul_of_pos_right l2 hp

theorem sDiv_xDiv (a b : Nat) : sDiv a b = xDiv a b := by
  by_cases h4 : pC a = 4 ∨ pC b = 4
  · rw [sDiv_nan h4, xDiv_nan h4]
  have na : pN a = uS a := pN_uS (by omega)
  have nb : pN b = uS b := pN_uS (by omega)
  by_cases hb : (pC a = 3 ∧ pC b = 3) ∨ (pC a = 0 ∧ pC b = 0)
  · rw [sDiv_bad hb, xDiv_bad hb]
  by_cases h3 : pC a = 3 ∨ pC b = 0
  · rw [sDiv_inf h4 hb h3, xDiv_inf h4 hb h3, na, nb]
  have ka := parts_cases a
  have kb := parts_cases b
  by_cases hb3 : pC b = 3
  · rw [sDiv_zero h4 h3 (by omega), xDiv_zero h4 h3 hb3, na, nb]
  have fb : pC b = 1 ∨ pC b = 2 := by omega
  rw [xDiv_fin (by omega) (by omega) fb]
  by_cases ha0 : pC a = 0
  · rw [sDiv_zero h4 h3 (by omega), na, nb, vN_zero ha0, Nat.zero_mul, rnd_zero, Nat.zero_add]
  · have fa : pC a = 1 ∨ pC a = 2 := by omega
    have hpa := parts_fin fa
    have hpb := parts_fin fb
    rw [sDiv_fin fa fb, na, nb]
    congr 1
    refine rp_quot hpa.1 hpa.2.1 hpb.1 hpb.2.1 (Nat.mul_ne_zero (vN_ne fa) (vD_ne b)) (Nat.mul_ne_zero (vD_ne a) (vN_ne fb))
      (a := (-pX a).toNat + (pX b).toNat) (b := (pX a).toNat + (-pX b).toNat) (by omega) ?_
    unfold vN vD
    simp only [Nat.pow_add]
    generalize pM a = A, pM b = B, 2 ^ (pX a).toNat = p, 2 ^ (pX b).toNat = q, 2 ^ (-pX a).toNat = r, 2 ^ (-pX b).toNat = s
    grind

theorem softDiv32_any (w : World) (a b : Nat) (ha : a < 4294967296) (hb : b < 4294967296) :
    Calls Oaig.prog 6 #[.int .u32 a, .int .u32 b] w fun e w' => e = .returned (.bool true) ∧ Ext w w' :=
  rungDiv w a b (sDiv a b) ha hb (fun w => softDiv_any w a b ha hb) (fun w => by rw [sDiv_xDiv]; exact exactDiv_any w a b ha hb)

end Go.Proofs.Ygcoai
