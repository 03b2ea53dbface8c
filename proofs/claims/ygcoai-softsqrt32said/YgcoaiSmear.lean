/-
  Seat gcoai. Plain laws: all bits below the highest are set in six steps; the count of ones.
-/
import Derived.Test.YgcoaiBits
namespace Go.Proofs.Ygcoai

/-- Of a number of k bits, the t highest are set. -/
def Top (x k t : Nat) : Prop := x < 2 ^ k ∧ ∀ i, k ≤ i + t → i < k → x.testBit i = true

theorem top_start {x k : Nat} (_hk : 1 ≤ k) (h1 : 2 ^ (k - 1) ≤ x) (h2 : x < 2 ^ k) : Top x k 1 := by
  refine ⟨h2, fun i h3 h4 => ?_⟩
  obtain rfl : i = k - 1 := by omega
  have h5 : x / 2 ^ (k - 1) = 1 := by
    have e : 2 ^ k = 2 ^ (k - 1) * 2 := by rw [← Nat.pow_succ]; congr 1; omega
    apply Nat.div_eq_of_lt_le
    · omega
    · omega
  rw [Nat.testBit_eq_decide_div_mod_eq, h5]; rfl

theorem top_step {x k t : Nat} (h : Top x k t) : Top (x ||| x / 2 ^ t) k (2 * t) := by
  obtain ⟨h1, h2⟩ := h
  refine ⟨Nat.or_lt_two_pow h1 (Nat.lt_of_le_of_lt (Nat.div_le_self _ _) h1), fun i h3 h4 => ?_⟩
  rw [Nat.testBit_or, ← Nat.shiftRight_eq_div_pow, Nat.testBit_shiftRight]
  by_cases h5 : k ≤ i + t
  · rw [h2 i h5 h4]; rfl
  · rw [h2 (t + i) (by omega) (by omega)]; simp

theorem top_all {x k t : Nat} (h : Top x k t) (hk : k ≤ t) : x = 2 ^ k - 1 := by
  apply Nat.eq_of_testBit_eq
  intro i
  rw [Nat.testBit_two_pow_sub_one]
  by_cases hi : i < k
  · rw [h.2 i (by omega) hi]; simp [hi]
  · rw [Nat.testBit_lt_two_pow (Nat.lt_of_lt_of_le h.1 (Nat.pow_le_pow_right (by decide) (by omega)))]; simp [hi]

/-- The six steps. -/
theorem smear {x y1 y2 y3 y4 y5 y6 : Nat} (hx : x ≠ 0) (hl : x < 18446744073709551616) (h1 : y1 = x ||| x / 2) (h2 : y2 = y1 ||| y1 / 4) (h3 : y3 = y2 ||| y2 / 16) (h4 : y4 = y3 ||| y3 / 256) (h5 : y5 = y4 ||| y4 / 65536) (h6 : y6 = y5 ||| y5 / 4294967296) :
    y6 = 2 ^ bl x - 1 := by
  have hb : bl x ≤ 64 := bl_le_of_lt (k := 64) hl
  have t1 := top_start (bl_pos hx) (bl_le hx) (bl_lt x)
  have t2 := top_step t1
  rw [show x ||| x / 2 ^ 1 = y1 from h1.symm] at t2
  have t3 := top_step t2
  rw [show y1 ||| y1 / 2 ^ (2 * 1) = y2 from h2.symm] at t3
  have t4 := top_step t3
  rw [show y2 ||| y2 / 2 ^ (2 * (2 * 1)) = y3 from h3.symm] at t4
  have t5 := top_step t4
  rw [show y3 ||| y3 / 2 ^ (2 * (2 * (2 * 1))) = y4 from h4.symm] at t5
  have t6 := top_step t5
  rw [show y4 ||| y4 / 2 ^ (2 * (2 * (2 * (2 * 1)))) = y5 from h5.symm] at t6
  have t7 := top_step t6
  rw [show y5 ||| y5 / 2 ^ (2 * (2 * (2 * (2 * (2 * 1))))) = y6 from h6.symm] at t7
  exact top_all t7 (by omega)

theorem or_lt64 {a b : Nat} (ha : a < 18446744073709551616) (hb : b < 18446744073709551616) : a ||| b < 18446744073709551616 := by
  have := Nat.or_lt_two_pow (n := 64) (x := a) (y := b) (by omega) (by omega)
  omega

/-- The count of ones, in the program's steps. -/
def pc1 (m : Nat) : Nat := m - (m / 2 &&& 6148914691236517205)
def pc2 (m : Nat) : Nat := (m &&& 3689348814741910323) + (m / 4 &&& 3689348814741910323)
def pc3 (m : Nat) : Nat := m + m / 16 &&& 1085102592571150095
def pc4 (m : Nat) : Nat := m * 72340172838076673 % 18446744073709551616 / 72057594037927936

def pcAll : Nat → Bool
  | 0 => true
  | k + 1 => decide (pc4 (pc3 (pc2 (pc1 (2 ^ k - 1)))) = k) && pcAll k
theorem pcAll_true : pcAll 65 = true := by decide +kernel
theorem pc_at {n : Nat} (h : pcAll n = true) : ∀ k, k < n → pc4 (pc3 (pc2 (pc1 (2 ^ k - 1)))) = k := by
  induction n with
  | zero => intro k hk; omega
  | succ m ih =>
    intro k hk
    rw [pcAll, Bool.and_eq_true, decide_eq_true_eq] at h
    rcases Nat.eq_or_lt_of_le (Nat.le_of_lt_succ hk) with e | e
    · rw [e]; exact h.1
    · exact ih h.2 k e
theorem pc_bl {x : Nat} (hl : x < 18446744073709551616) : pc4 (pc3 (pc2 (pc1 (2 ^ bl x - 1)))) = bl x := by
  have hb : bl x ≤ 64 := bl_le_of_lt (k := 64) hl
  exact pc_at pcAll_true _ (by omega)

#print axioms smear
#print axioms pc_bl
end Go.Proofs.Ygcoai
