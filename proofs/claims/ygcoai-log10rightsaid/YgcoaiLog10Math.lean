/-
  Seat gcoai. The plain law of Log10Right: 10^p <= 2^e < 10^(p+1) for p = floor(e * 315653 / 2^20), -1100 <= e <= 1030. Checked by the kernel, number by number.
-/
namespace Go.Proofs.Ygcoai

/-- p + 400 for e = i - 1100. -/
def lgm (i : Nat) : Nat := (i * 315653 + 72212100) / 1048576

def lgChk (i : Nat) : Bool :=
  decide (lgm i ≤ 800) && decide (10 ^ (lgm i - 400) * 2 ^ (1100 - i) ≤ 2 ^ (i - 1100) * 10 ^ (400 - lgm i)) && decide (2 ^ (i - 1100) * 10 ^ (400 - (lgm i + 1)) < 10 ^ (lgm i + 1 - 400) * 2 ^ (1100 - i))

def lgAll : Nat → Bool
  | 0 => true
  | n + 1 => lgChk n && lgAll n

theorem lgAll_true : lgAll 2131 = true := by decide +kernel

theorem lgAll_at {n : Nat} (h : lgAll n = true) : ∀ i, i < n → lgChk i = true := by
  induction n with
  | zero => intro i hi; omega
  | succ k ih =>
    intro i hi
    rw [lgAll, Bool.and_eq_true] at h
    rcases Nat.eq_or_lt_of_le (Nat.le_of_lt_succ hi) with e | e
    · rw [e]; exact h.1
    · exact ih h.2 i e

theorem lg_at (i : Nat) (hi : i < 2131) : lgm i ≤ 800 ∧ 10 ^ (lgm i - 400) * 2 ^ (1100 - i) ≤ 2 ^ (i - 1100) * 10 ^ (400 - lgm i) ∧ 2 ^ (i - 1100) * 10 ^ (400 - (lgm i + 1)) < 10 ^ (lgm i + 1 - 400) * 2 ^ (1100 - i) := by
  have h := lgAll_at lgAll_true i hi
  unfold lgChk at h
  rw [Bool.and_eq_true, Bool.and_eq_true, decide_eq_true_eq, decide_eq_true_eq, decide_eq_true_eq] at h
  exact ⟨h.1.1, h.1.2, h.2⟩

/-- The law over Int. -/
theorem lg_int (e : Int) (h1 : -1100 ≤ e) (h2 : e ≤ 1030) (p : Int) (hp : p = e * 315653 / 1048576) :
    -400 ≤ p ∧ p ≤ 400 ∧ 10 ^ p.toNat * 2 ^ (-e).toNat ≤ 2 ^ e.toNat * 10 ^ (-p).toNat ∧ 2 ^ e.toNat * 10 ^ (-(p + 1)).toNat < 10 ^ (p + 1).toNat * 2 ^ (-e).toNat := by
  obtain ⟨i, hi⟩ : ∃ i : Nat, e = (i : Int) - 1100 := ⟨(e + 1100).toNat, by omega⟩
  obtain ⟨a, b, c⟩ := lg_at i (by omega)
  have hm : p = (lgm i : Int) - 400 := by unfold lgm; omega
  have e1 : e.toNat = i - 1100 := by omega
  have e2 : (-e).toNat = 1100 - i := by omega
  have e3 : p.toNat = lgm i - 400 := by omega
  have e4 : (-p).toNat = 400 - lgm i := by omega
  have e5 : (p + 1).toNat = lgm i + 1 - 400 := by omega
  have e6 : (-(p + 1)).toNat = 400 - (lgm i + 1) := by omega
  rw [e1, e2, e3, e4, e5, e6]
  exact ⟨by omega, by omega, b, c⟩

#print axioms lg_int
end Go.Proofs.Ygcoai
