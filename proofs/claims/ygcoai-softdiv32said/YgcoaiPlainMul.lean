/-
  Seat gcoai. The plain law of the product, and SoftMul32 whole.
-/
import Derived.Test.YgcoaiPlain
import Derived.Test.YgcoaiSoftMul
import Derived.Test.YgcoaiExMul
import Derived.Test.YgcoaiLaw
namespace Go.Proofs.Ygcoai
open Go.RowKit

theorem pN_uS {x : Nat} (h : pC x ≠ 4) : pN x = uS x := by unfold pN; rw [if_neg h]

theorem jamS_small {P : Nat} (h : P < 18446744073709551616) : jamS P = P * 2 ^ (64 - bl P) := by
  have hb2 : bl P ≤ 64 := bl_le_of_lt (k := 64) h
  have e : P * 2 ^ (128 - bl P) = P * 2 ^ (64 - bl P) * 18446744073709551616 := by
    rw [show 128 - bl P = (64 - bl P) + 64 by omega, Nat.pow_add]; grind
  unfold jamS
  rw [e, Nat.mul_mod_left, if_pos rfl, Nat.mul_div_cancel _ (by decide), Nat.or_zero]

theorem vN_ne {x : Nat} (h : pC x = 1 ∨ pC x = 2) : vN x ≠ 0 := by
  have := parts_fin h
  exact Nat.mul_ne_zero (by omega) (Nat.pos_iff_ne_zero.1 (Nat.two_pow_pos _))
theorem vN_zero {x : Nat} (h : pC x = 0) : vN x = 0 := by
  unfold vN; rw [(parts_zero (x := x) (by omega)).1, Nat.zero_mul]

theorem sMul_xMul (a b : Nat) : sMul a b = xMul a b := by
  by_cases h4 : pC a = 4 ∨ pC b = 4
  · rw [sMul_nan h4, xMul_nan h4]
  have na : pN a = uS a := pN_uS (by omega)
  have nb : pN b = uS b := pN_uS (by omega)
  by_cases h3 : pC a = 3 ∨ pC b = 3
  · by_cases hb : (pC a = 3 ∧ pC b = 0) ∨ (pC a = 0 ∧ pC b = 3)
    · rw [sMul_bad hb, xMul_bad hb]
    · rw [sMul_inf h4 hb h3, xMul_inf h4 hb h3, na, nb]
  · rw [xMul_fin h4 h3]
    by_cases h0 : pC a = 0 ∨ pC b = 0
    · rw [sMul_zero h4 h3 h0, na, nb]
      have : vN a * vN b = 0 := by
        rcases h0 with h | h
        · rw [vN_zero h, Nat.zero_mul]
        · rw [vN_zero h, Nat.mul_zero]
      rw [this]; unfold rnd; rw [if_pos rfl, Nat.zero_add]
    · have ka := parts_cases a
      have kb := parts_cases b
      have fa : pC a = 1 ∨ pC a = 2 := by omega
      have fb : pC b = 1 ∨ pC b = 2 := by omega
      have hpa := parts_fin fa
      have hpb := parts_fin fb
      rw [sMul_fin fa fb, na, nb]
      congr 1
      have hP1 : pM a * pM b ≠ 0 := Nat.mul_ne_zero (by omega) (by omega)
      have hP2 : pM a * pM b < 18446744073709551616 := Nat.lt_of_lt_of_le (Nat.mul_lt_mul_of_lt_of_lt hpa.2.1 hpb.2.1) (by decide)
      have hP3 : bl (pM a * pM b) ≤ 64 := bl_le_of_lt (k := 64) hP2
      have hj := jamS_bd hP1 (Nat.lt_trans hP2 (by decide))
      refine rp_exact (Nat.mul_ne_zero (vN_ne fa) (vN_ne fb)) (Nat.mul_ne_zero (vD_ne a) (vD_ne b)) (by omega) hj.2
        (a := 64 - bl (pM a * pM b) + (-pX a).toNat + (-pX b).toNat) (b := (pX a).toNat + (pX b).toNat) (by omega) ?_
      rw [jamS_small hP2]
      unfold vN vD
      generalize bl (pM a * pM b) = L
      simp only [Nat.pow_add]
      generalize pM a = A, pM b = B, 2 ^ (pX a).toNat = p, 2 ^ (pX b).toNat = q, 2 ^ (-pX a).toNat = r, 2 ^ (-pX b).toNat = s, 2 ^ (64 - L) = t
      grind

theorem softMul32_any (w : World) (a b : Nat) (ha : a < 4294967296) (hb : b < 4294967296) :
    Calls Oaig.prog 5 #[.int .u32 a, .int .u32 b] w fun e w' => e = .returned (.bool true) ∧ Ext w w' :=
  rungMul w a b (sMul a b) ha hb (fun w => softMul_any w a b ha hb) (fun w => by rw [sMul_xMul]; exact exactMul_any w a b ha hb)

end Go.Proofs.Ygcoai
