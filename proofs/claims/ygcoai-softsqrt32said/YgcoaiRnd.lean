/-
  Seat gcoai. Rounding a fraction, with no Go in sight.
-/
import Derived.Test.YgcoaiExMake
namespace Go.Proofs.Ygcoai
open Go.RowKit

theorem lt_shift {n d a b a' b' : Nat} (h : n * 2 ^ a < d * 2 ^ b) (e : a + b' = a' + b) : n * 2 ^ a' < d * 2 ^ b' := by
  rcases Nat.le_total a a' with hl | hl
  · obtain ⟨c, rfl⟩ : ∃ c, a' = a + c := ⟨a' - a, by omega⟩
    obtain rfl : b' = b + c := by omega
    rw [Nat.pow_add, Nat.pow_add, ← Nat.mul_assoc, ← Nat.mul_assoc]
    exact Nat.mul_lt_mul_of_pos_right h (Nat.two_pow_pos c)
  · obtain ⟨c, rfl⟩ : ∃ c, a = a' + c := ⟨a - a', by omega⟩
    obtain rfl : b = b' + c := by omega
    rw [Nat.pow_add, Nat.pow_add, ← Nat.mul_assoc, ← Nat.mul_assoc] at h
    exact Nat.lt_of_mul_lt_mul_right h
theorem le_shift {n d a b a' b' : Nat} (h : n * 2 ^ a ≤ d * 2 ^ b) (e : a + b' = a' + b) : n * 2 ^ a' ≤ d * 2 ^ b' := by
  rcases Nat.lt_or_ge (d * 2 ^ b') (n * 2 ^ a') with hl | hl
  · have := lt_shift hl (a' := b) (b' := a) (by omega); omega
  · exact hl

theorem lg_upper {n d : Nat} (h0 : n ≠ 0) (h1 : d ≠ 0) {a b : Nat} (e : (b : Int) - a = lg n d + 1) : n * 2 ^ a < d * 2 ^ b := by
  have n1 := bl_lt n
  have d1 := bl_le h1
  have hp := bl_pos h1
  have hq := bl_pos h0
  unfold lg at e
  dsimp only at e
  split at e
  · rename_i h
    exact lt_shift h (by omega)
  · have s1 : n * 2 ^ (bl d - 1) < 2 ^ bl n * 2 ^ (bl d - 1) := Nat.mul_lt_mul_of_pos_right n1 (Nat.two_pow_pos _)
    have s2 : 2 ^ (bl d - 1) * 2 ^ bl n ≤ d * 2 ^ bl n := Nat.mul_le_mul_right _ d1
    have s3 : n * 2 ^ (bl d - 1) < d * 2 ^ bl n := by rw [Nat.mul_comm (2 ^ bl n)] at s1; omega
    exact lt_shift s3 (by omega)
theorem lg_lower {n d : Nat} (h0 : n ≠ 0) (h1 : d ≠ 0) {a b : Nat} (e : (b : Int) - a = lg n d) : d * 2 ^ b ≤ n * 2 ^ a := by
  have n1 := bl_le h0
  have d1 := bl_lt d
  have hp := bl_pos h1
  have hq := bl_pos h0
  unfold lg at e
  dsimp only at e
  split at e
  · have s1 : d * 2 ^ (bl n - 1) < 2 ^ bl d * 2 ^ (bl n - 1) := Nat.mul_lt_mul_of_pos_right d1 (Nat.two_pow_pos _)
    have s2 : 2 ^ (bl n - 1) * 2 ^ bl d ≤ n * 2 ^ bl d := Nat.mul_le_mul_right _ n1
    have s3 : d * 2 ^ (bl n - 1) ≤ n * 2 ^ bl d := by rw [Nat.mul_comm (2 ^ bl d)] at s1; omega
    exact le_shift s3 (by omega)
  · rename_i h
    exact le_shift (Nat.le_of_not_lt h) (by omega)
theorem lg_unique {n d : Nat} (h0 : n ≠ 0) (h1 : d ≠ 0) {e : Int} {a b : Nat} (he : (b : Int) - a = e) (l : d * 2 ^ b ≤ n * 2 ^ a) (u : n * 2 ^ a < d * 2 ^ (b + 1)) : lg n d = e := by
  rcases Int.lt_trichotomy (lg n d) e with h | h | h
  · exfalso
    obtain ⟨A, B, hA⟩ : ∃ A B : Nat, (B : Int) - A = lg n d + 1 := ⟨(-(lg n d + 1)).toNat, (lg n d + 1).toNat, by omega⟩
    have h2 := lg_upper h0 h1 hA
    have h4 := lt_shift h2 (a' := A + a) (b' := B + a) (by omega)
    have h5 := le_shift l (a' := b + A) (b' := a + A) (by omega)
    have h6 : d * 2 ^ (B + a) ≤ d * 2 ^ (b + A) := Nat.mul_le_mul_left _ (Nat.pow_le_pow_right (by decide) (by omega))
    rw [Nat.add_comm a A] at h5
    omega
  · exact h
  · exfalso
    obtain ⟨A, B, hA⟩ : ∃ A B : Nat, (B : Int) - A = lg n d := ⟨(-(lg n d)).toNat, (lg n d).toNat, by omega⟩
    have h2 := lg_lower h0 h1 hA
    have h4 := le_shift h2 (a' := B + a) (b' := A + a) (by omega)
    have h5 := lt_shift u (a' := a + A) (b' := b + 1 + A) (by omega)
    have h6 : d * 2 ^ (b + 1 + A) ≤ d * 2 ^ (B + a) := Nat.mul_le_mul_left _ (Nat.pow_le_pow_right (by decide) (by omega))
    rw [Nat.add_comm a A] at h5
    omega

/-- The fraction n/d times 2^k: numerator and denominator. -/
def sN (n : Nat) (k : Int) : Nat := n * 2 ^ k.toNat
def sD (d : Nat) (k : Int) : Nat := d * 2 ^ (-k).toNat

/-- n/d rounded to Binary32: the pattern without its sign. -/
def rnd (n d : Nat) : Nat :=
  if n = 0 then 0 else
  let e := max (lg n d) (-126)
  if 127 < e then 2139095040 else min 2139095040 ((e + 126).toNat * 8388608 + rne (sN n (23 - e)) (sD d (23 - e)))

theorem rne_le (n d : Nat) : rne n d ≤ n / d + 1 := by unfold rne; split <;> omega

theorem rne_bd {n d : Nat} (h0 : n ≠ 0) (h1 : d ≠ 0) {e : Int} (h : lg n d ≤ e) : rne (sN n (23 - e)) (sD d (23 - e)) ≤ 16777216 := by
  have h2 : n * 2 ^ (23 - e).toNat < d * 2 ^ ((-(23 - e)).toNat + 24) := by
    obtain ⟨A, B, hA⟩ : ∃ A B : Nat, (B : Int) - A = lg n d + 1 := ⟨(-(lg n d + 1)).toNat, (lg n d + 1).toNat, by omega⟩
    have h3 := lg_upper h0 h1 hA
    have h5 := lt_shift h3 (a' := A + (23 - e).toNat) (b' := B + (23 - e).toNat) (by omega)
    have h6 : d * 2 ^ (B + (23 - e).toNat) ≤ d * 2 ^ ((-(23 - e)).toNat + 24 + A) := Nat.mul_le_mul_left _ (Nat.pow_le_pow_right (by decide) (by omega))
    exact lt_shift (Nat.lt_of_lt_of_le h5 h6) (by omega)
  have h3 : sN n (23 - e) / sD d (23 - e) < 16777216 := by
    apply Nat.div_lt_of_lt_mul
    unfold sN sD
    rw [Nat.pow_add, ← Nat.mul_assoc] at h2
    exact h2
  have := rne_le (sN n (23 - e)) (sD d (23 - e))
  omega

theorem lgB_max (n d : Nat) : (127 < max (lgB n d) (-126) ↔ 127 < max (lg n d) (-126)) ∧ (¬ 127 < max (lgB n d) (-126) → max (lgB n d) (-126) = max (lg n d) (-126)) := by
  have hl : lg n d = (bl n : Int) - bl d - 1 ∨ lg n d = (bl n : Int) - bl d := by
    unfold lg; dsimp only; split
    · left; rfl
    · right; rfl
  unfold lgB
  dsimp only
  split
  · omega
  · split
    · omega
    · omega
theorem lgB_bd (n d : Nat) : -128 ≤ lgB n d ∧ lgB n d ≤ 128 := by
  have hl : lg n d = (bl n : Int) - bl d - 1 ∨ lg n d = (bl n : Int) - bl d := by
    unfold lg; dsimp only; split
    · left; rfl
    · right; rfl
  unfold lgB
  dsimp only
  split
  · omega
  · split
    · omega
    · omega

end Go.Proofs.Ygcoai
