/-
  Seat gcoai. Plain facts for the root: the logarithm of a value, the size of the scaled root.
-/
import Derived.Test.YgcoaiExRoot
import Derived.Test.YgcoaiExMul
namespace Go.Proofs.Ygcoai
open Go.RowKit

theorem lg_val {a : Nat} (h : pC a = 1 ∨ pC a = 2) : lg (vN a) (vD a) = pX a + 23 := by
  have hp := parts_fin h
  have hN : vN a ≠ 0 := Nat.mul_ne_zero (by omega) (Nat.pos_iff_ne_zero.1 (Nat.two_pow_pos _))
  refine lg_unique hN (vD_ne a) (a := (-pX a).toNat) (b := (pX a).toNat + 23) (by omega) ?_ ?_
  · unfold vN vD
    have e : 2 ^ (-pX a).toNat * 2 ^ ((pX a).toNat + 23) = 8388608 * (2 ^ (pX a).toNat * 2 ^ (-pX a).toNat) := by rw [Nat.pow_add]; grind
    rw [e, Nat.mul_assoc]
    exact Nat.mul_le_mul_right _ hp.1
  · unfold vN vD
    have e : 2 ^ (-pX a).toNat * 2 ^ ((pX a).toNat + 23 + 1) = 16777216 * (2 ^ (pX a).toNat * 2 ^ (-pX a).toNat) := by rw [Nat.pow_add, Nat.pow_add]; grind
    rw [e, Nat.mul_assoc]
    exact Nat.mul_lt_mul_of_pos_right hp.2.1 (Nat.mul_pos (Nat.two_pow_pos _) (Nat.two_pow_pos _))

theorem lg_bl (n d : Nat) : (bl n : Int) - bl d = lg n d ∨ (bl n : Int) - bl d = lg n d + 1 := by
  unfold lg; dsimp only; split
  · right; omega
  · left; rfl

theorem root_scale {N D A B : Nat} {R k : Int} (hN : N ≠ 0) (hD : D ≠ 0) (hR : lg N D = 2 * R ∨ lg N D = 2 * R + 1) (hk : k = 2 * (23 - R)) (hA : A = N * 2 ^ k.toNat) (hB : B = D * 2 ^ (-k).toNat) :
    B ≠ 0 ∧ 70368744177664 ≤ A / B ∧ A / B < 281474976710656 := by
  have hB0 : 0 < B := by rw [hB]; exact Nat.mul_pos (Nat.pos_of_ne_zero hD) (Nat.two_pow_pos _)
  refine ⟨by omega, ?_, ?_⟩
  · rw [Nat.le_div_iff_mul_le hB0]
    have h1 := lg_lower hN hD (a := k.toNat) (b := ((k.toNat : Int) + lg N D).toNat) (by omega)
    have h2 : D * 2 ^ ((-k).toNat + 46) ≤ D * 2 ^ ((k.toNat : Int) + lg N D).toNat := Nat.mul_le_mul_left _ (Nat.pow_le_pow_right (by decide) (by omega))
    rw [Nat.pow_add] at h2
    rw [hA, hB]
    have e : 70368744177664 * (D * 2 ^ (-k).toNat) = D * (2 ^ (-k).toNat * 2 ^ 46) := by grind
    rw [e]
    exact Nat.le_trans h2 h1
  · apply Nat.div_lt_of_lt_mul
    have h1 := lg_upper hN hD (a := k.toNat) (b := ((k.toNat : Int) + lg N D + 1).toNat) (by omega)
    have h2 : D * 2 ^ ((k.toNat : Int) + lg N D + 1).toNat ≤ D * 2 ^ ((-k).toNat + 48) := Nat.mul_le_mul_left _ (Nat.pow_le_pow_right (by decide) (by omega))
    rw [Nat.pow_add] at h2
    rw [hA, hB]
    have e : D * 2 ^ (-k).toNat * 281474976710656 = D * (2 ^ (-k).toNat * 2 ^ 48) := by grind
    rw [e]
    exact Nat.lt_of_lt_of_le h1 h2

theorem rtUp_le {A B r : Nat} (hr : IsRoot r (A / B)) (h : A / B < 281474976710656) : rtUp A B r ≤ 16777216 := by
  have h1 : r < 16777216 := by
    rcases Nat.lt_or_ge r 16777216 with hl | hl
    · exact hl
    · have := Nat.mul_le_mul hl hl
      have := hr.1
      omega
  unfold rtUp
  split <;> omega

end Go.Proofs.Ygcoai
