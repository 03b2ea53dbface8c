/-
  Seat gcoai. The plain law of long division: what one round of divLong does to the numbers.
-/
import Derived.Test.YgcoaiDivLimb
namespace Go.Proofs.Ygcoai

theorem pow_pos32 (n : Nat) : 0 < 4294967296 ^ n := Nat.pow_pos (by decide)

/-- Limbs that are nought add nothing. -/
theorem vf_zero_above {f : Nat → Nat} {n m : Nat} (hnm : n ≤ m) (h : ∀ t, n ≤ t → t < m → f t = 0) : vf f m = vf f n := by
  induction m with
  | zero => obtain rfl : n = 0 := by omega
            rfl
  | succ k ih =>
    rcases Nat.lt_or_ge k n with hk | hk
    · obtain rfl : n = k + 1 := by omega
      rfl
    · rw [vf, ih hk (fun t h1 h2 => h t h1 (by omega)), h k hk (by omega)]; simp

theorem from_lt {f : Nat → Nat} {N j k : Nat} (h : ∀ t, t < N → f t < 4294967296) (hk : j + k ≤ N) : ∀ t, t < k → from_ f j t < 4294967296 := fun t ht => h (j + t) (by omega)

/-- The state of the division: the limbs from j on have been divided. -/
structure Div (A D m n j : Nat) (u q : Nat → Nat) : Prop where
  lim : ∀ t, t < m + 1 → u t < 4294967296
  sum : A = vf u (m + 1) + D * (4294967296 ^ j * vf (from_ q j) (m - n + 1 - j))
  rem : vf (from_ u j) n < D
  zero : ∀ t, j + n ≤ t → t < m + 1 → u t = 0

theorem dv_init {A D m n s : Nat} {u q d : Nat → Nat} (hn : 1 ≤ n) (hnm : n ≤ m) (hs : s ≤ 31) (hu : ∀ t, t < m + 1 → u t < 4294967296) (hA : vf u (m + 1) = A) (hlt : A < 2 ^ s * 4294967296 ^ m)
    (hD : vf d n = D) (hd : 2147483648 ≤ d (n - 1)) : Div A D m n (m - n + 1) u q := by
  refine ⟨hu, ?_, ?_, fun t h1 h2 => by omega⟩
  · rw [Nat.sub_self, vf, Nat.mul_zero, Nat.mul_zero, Nat.add_zero, hA]
  · have h1 := vf_from u (m - n + 1) n
    rw [show m - n + 1 + n = m + 1 from by omega, hA] at h1
    have h2 : 4294967296 ^ (m - n + 1) * vf (from_ u (m - n + 1)) n < 4294967296 ^ (m - n + 1) * (2 ^ s * 4294967296 ^ (n - 1)) := by
      have e : 4294967296 ^ (m - n + 1) * (2 ^ s * 4294967296 ^ (n - 1)) = 2 ^ s * 4294967296 ^ m := by
        have e0 : 4294967296 ^ m = 4294967296 ^ (m - n + 1) * 4294967296 ^ (n - 1) := by rw [← Nat.pow_add]; congr 1; omega
        rw [e0]
        ac_rfl
      rw [e]; omega
    have h3 := Nat.lt_of_mul_lt_mul_left h2
    have h4 : 2 ^ s * 4294967296 ^ (n - 1) ≤ d (n - 1) * 4294967296 ^ (n - 1) := by
      apply Nat.mul_le_mul_right
      have : 2 ^ s ≤ 2 ^ 31 := Nat.pow_le_pow_right (by decide) hs
      omega
    have h5 : vf d n = vf d (n - 1) + d (n - 1) * 4294967296 ^ (n - 1) := by
      obtain ⟨k, rfl⟩ : ∃ k, n = k + 1 := ⟨n - 1, by omega⟩
      rfl
    omega

/-- The window of n + 1 limbs. -/
theorem dv_win {A D m n i : Nat} {u q : Nat → Nat} (h : Div A D m n (i + 1) u q) (hi : i + n < m + 1) : vf (from_ u i) (n + 1) < D * 4294967296 := by
  have h1 := vf_cons u i n
  have h2 := h.rem
  have h3 := h.lim i (by omega)
  have : (vf (from_ u (i + 1)) n + 1) * 4294967296 ≤ D * 4294967296 := Nat.mul_le_mul_right _ h2
  omega

theorem dv_u2 {A D m n i : Nat} {u q d : Nat → Nat} (h : Div A D m n (i + 1) u q) (hn : 1 ≤ n) (hd : ∀ t, t < n → d t < 4294967296) (hD : vf d n = D) : u (i + n) ≤ d (n - 1) := by
  have h1 := h.rem
  obtain ⟨k, rfl⟩ : ∃ k, n = k + 1 := ⟨n - 1, by omega⟩
  rw [← hD, vf, vf] at h1
  have h2 := vf_lt (f := d) (n := k) (fun t ht => hd t (by omega))
  have e : from_ u (i + 1) k = u (i + (k + 1)) := by unfold from_; rw [show i + 1 + k = i + (k + 1) from by omega]
  rw [e] at h1
  show u (i + (k + 1)) ≤ d k
  rcases Nat.lt_or_ge (d k) (u (i + (k + 1))) with h3 | h3
  · have : (d k + 1) * 4294967296 ^ k ≤ u (i + (k + 1)) * 4294967296 ^ k := Nat.mul_le_mul_right _ h3
    rw [Nat.add_mul] at this
    omega
  · exact h3

/-- Of the top limbs. -/
theorem vf_top3 (f : Nat → Nat) (k : Nat) : vf f (k + 3) = vf f k + (f (k + 2) * 18446744073709551616 + f (k + 1) * 4294967296 + f k) * 4294967296 ^ k := by
  rw [vf, vf, vf, Nat.pow_succ (m := k), Nat.pow_succ (m := k + 1), Nat.pow_succ (m := k)]
  rw [Nat.add_mul, Nat.add_mul]
  have e1 : f (k + 1) * (4294967296 ^ k * 4294967296) = f (k + 1) * 4294967296 * 4294967296 ^ k := by ac_rfl
  have e2 : f (k + 2) * (4294967296 ^ k * 4294967296 * 4294967296) = f (k + 2) * 18446744073709551616 * 4294967296 ^ k := by
    rw [show (18446744073709551616 : Nat) = 4294967296 * 4294967296 from by decide]; ac_rfl
  omega
theorem vf_top2 (f : Nat → Nat) (k : Nat) : vf f (k + 2) = vf f k + (f (k + 1) * 4294967296 + f k) * 4294967296 ^ k := by
  rw [vf, vf, Nat.pow_succ, Nat.add_mul]
  have e1 : f (k + 1) * (4294967296 ^ k * 4294967296) = f (k + 1) * 4294967296 * 4294967296 ^ k := by ac_rfl
  omega

/-- The guess is the digit, or one more. -/
theorem gs_right {W D U3 D2 P lw ld g : Nat} (hW : W = lw + U3 * P) (hD : D = ld + D2 * P) (hlw : lw < P) (hld : ld < P) (hDp : 4294967296 * P ≤ D) (hWD : W < D * 4294967296) (hD2 : 0 < D2)
    (hg : g = min 4294967295 (U3 / D2)) : W / D ≤ g ∧ g ≤ W / D + 1 := by
  have hP : 0 < P := by omega
  have hDpos : 0 < D := by omega
  constructor
  · have h1 : W / D ≤ 4294967295 := by
      have : W / D < 4294967296 := Nat.div_lt_of_lt_mul hWD
      omega
    have h2 : W / D ≤ U3 / D2 := by
      rw [Nat.le_div_iff_mul_le hD2]
      have h3 : W / D * D ≤ W := Nat.div_mul_le_self _ _
      obtain ⟨q, hq⟩ : ∃ q, q = W / D := ⟨_, rfl⟩
      rw [← hq] at h3 ⊢
      have h4 : q * D2 * P ≤ q * D := by rw [hD, Nat.mul_add, Nat.mul_assoc]; omega
      have h5 : q * D2 * P < (U3 + 1) * P := by rw [Nat.add_mul]; omega
      have := Nat.lt_of_mul_lt_mul_right h5
      omega
    rw [hg]
    exact Nat.le_min.2 ⟨h1, h2⟩
  · have h1 : g * D2 ≤ U3 := (Nat.le_div_iff_mul_le hD2).1 (by omega)
    have h2 : g * D < W + D := by
      have e : g * D = g * ld + g * D2 * P := by rw [hD, Nat.mul_add, Nat.mul_assoc]
      have h3 : g * D2 * P ≤ U3 * P := Nat.mul_le_mul_right _ h1
      have h4 : g * ld ≤ 4294967295 * P := Nat.mul_le_mul (by omega) (by omega)
      omega
    rcases Nat.eq_zero_or_pos g with h0 | h0
    · rw [h0]; exact Nat.zero_le _
    · have h5 : (g - 1) * D ≤ W := by
        have : (g - 1) * D + D = g * D := by rw [← Nat.succ_mul]; congr 1; omega
        omega
      have := (Nat.le_div_iff_mul_le hDpos).2 h5
      omega

/-- The guess at the window. -/
theorem dv_guess {A D m n i : Nat} {u q d : Nat → Nat} (h : Div A D m n (i + 1) u q) (hn : 2 ≤ n) (hi : i + n < m + 1) (hd : ∀ t, t < n → d t < 4294967296) (hD : vf d n = D) (htop : 2147483648 ≤ d (n - 1)) :
    vf (from_ u i) (n + 1) / D ≤ gsd (u (i + n)) (u (i + n - 1)) (u (i + n - 2)) (d (n - 1)) (d (n - 2)) ∧ gsd (u (i + n)) (u (i + n - 1)) (u (i + n - 2)) (d (n - 1)) (d (n - 2)) ≤ vf (from_ u i) (n + 1) / D + 1 := by
  obtain ⟨k, rfl⟩ : ∃ k, n = k + 2 := ⟨n - 2, by omega⟩
  have hW := vf_top3 (from_ u i) k
  have hDD := vf_top2 d k
  have e1 : from_ u i (k + 2) = u (i + (k + 2)) := rfl
  have e2 : from_ u i (k + 1) = u (i + (k + 2) - 1) := by unfold from_; congr 1
  have e3 : from_ u i k = u (i + (k + 2) - 2) := by unfold from_; congr 1
  rw [e1, e2, e3] at hW
  rw [hD] at hDD
  show vf (from_ u i) (k + 3) / D ≤ _ ∧ _ ≤ vf (from_ u i) (k + 3) / D + 1
  have hwin := dv_win h hi
  have hk1 : k + 2 - 1 = k + 1 := rfl
  have hk2 : k + 2 - 2 = k := rfl
  rw [hk1] at htop
  rw [hk1, hk2]
  have hl1 := vf_lt (f := from_ u i) (n := k) (from_lt h.lim (by omega))
  have hl2 := vf_lt (f := d) (n := k) (fun t ht => hd t (by omega))
  refine gs_right hW hDD hl1 hl2 ?_ hwin (by omega) rfl
  have : 4294967296 * 4294967296 ^ k ≤ (d (k + 1) * 4294967296 + d k) * 4294967296 ^ k := Nat.mul_le_mul_right _ (by omega)
  omega

/-- What takeAway leaves. -/
theorem tk_borrow {W W' g D bo N : Nat} (hv : W' + g * D = W + bo * N) (hW' : W' < N) (hbo : bo ≤ 1) : (bo = 0 → g * D ≤ W ∧ W' = W - g * D) ∧ (bo = 1 → W < g * D ∧ W' + g * D = W + N) := by
  constructor
  · rintro rfl; omega
  · rintro rfl; omega

theorem dv_fit {W D g W' : Nat} (hD : 0 < D) (h1 : W / D ≤ g) (h2 : g * D ≤ W) (h3 : W' = W - g * D) : g = W / D ∧ W' = W % D := by
  have e : g = W / D := Nat.le_antisymm ((Nat.le_div_iff_mul_le hD).2 h2) h1
  refine ⟨e, ?_⟩
  have := Nat.div_add_mod W D
  rw [h3, e, Nat.mul_comm]; omega

theorem dv_over {W D g W' W'' cy N M : Nat} (hD : 0 < D) (hDM : D ≤ M) (hMN : M < N) (h1 : g ≤ W / D + 1) (h2 : W < g * D) (h3 : W' + g * D = W + N) (h4 : W'' + cy * N = W' + D) (h5 : W'' < N) : 1 ≤ g ∧ g - 1 = W / D ∧ W'' = W % D := by
  have hg : 1 ≤ g := by
    rcases Nat.eq_zero_or_pos g with h | h
    · rw [h, Nat.zero_mul] at h2; omega
    · exact h
  have e1 : (g - 1) * D + D = g * D := by rw [← Nat.succ_mul]; congr 1; omega
  have hq : W / D < g := Nat.div_lt_of_lt_mul (by rw [Nat.mul_comm]; exact h2)
  have hgq : g - 1 = W / D := by omega
  refine ⟨hg, hgq, ?_⟩
  have h6 := Nat.div_add_mod W D
  have h7 := Nat.mod_lt W hD
  rw [Nat.mul_comm, ← hgq] at h6
  -- W'' + cy N = W % D + N
  have h8 : W'' + cy * N = W % D + N := by omega
  rcases Nat.lt_trichotomy cy 1 with h | h | h
  · obtain rfl : cy = 0 := by omega
    omega
  · subst h; omega
  · have : 2 * N ≤ cy * N := Nat.mul_le_mul_right _ h
    omega

/-- The next state. -/
theorem dv_next {A D m n i : Nat} {u r q : Nat → Nat} (h : Div A D m n (i + 1) u q) (hi : i + n < m + 1) (hn : n ≤ m) (hDn : D < 4294967296 ^ n) (hDp : 0 < D) (hr : ∀ t, t < m + 1 → r t < 4294967296)
    (hout : ∀ t, t < i ∨ i + (n + 1) ≤ t → r t = u t) (hW : vf (from_ r i) (n + 1) = vf (from_ u i) (n + 1) % D) : Div A D m n i r (upd q i (vf (from_ u i) (n + 1) / D)) := by
  obtain ⟨W, hWd⟩ : ∃ W, W = vf (from_ u i) (n + 1) := ⟨_, rfl⟩
  have hmod := Nat.mod_lt W hDp
  have hz : ∀ t, i + n ≤ t → t < m + 1 → r t = 0 := by
    intro t h1 h2
    rcases Nat.eq_or_lt_of_le h1 with h3 | h3
    · rw [vf, ← hWd] at hW
      have e : from_ r i n = r t := by unfold from_; rw [h3]
      rw [e] at hW
      rcases Nat.eq_zero_or_pos (r t) with h4 | h4
      · exact h4
      · have : 1 * 4294967296 ^ n ≤ r t * 4294967296 ^ n := Nat.mul_le_mul_right _ h4
        omega
    · rw [hout t (by omega)]; exact h.zero t (by omega) h2
  refine ⟨hr, ?_, ?_, hz⟩
  · rw [h.sum]
    have eu : vf u (m + 1) = vf u i + 4294967296 ^ i * W := by
      have h1 := vf_from u i (m + 1 - i)
      rw [show i + (m + 1 - i) = m + 1 from by omega] at h1
      rw [h1, hWd]
      congr 2
      exact vf_zero_above (by omega) (fun t h1 h2 => h.zero (i + t) (by omega) (by omega))
    have er : vf r (m + 1) = vf u i + 4294967296 ^ i * (W % D) := by
      have h1 := vf_from r i (m + 1 - i)
      rw [show i + (m + 1 - i) = m + 1 from by omega] at h1
      rw [h1, vf_congr (f := r) (g := u) (fun t ht => hout t (by omega)), hWd, ← hW]
      congr 2
      exact vf_zero_above (by omega) (fun t h1 h2 => hz (i + t) (by omega) (by omega))
    have eq : vf (from_ (upd q i (W / D)) i) (m - n + 1 - i) = W / D + 4294967296 * vf (from_ q (i + 1)) (m - n + 1 - (i + 1)) := by
      rw [show m - n + 1 - i = m - n + 1 - (i + 1) + 1 from by omega, vf_cons, vf_from_upd_above (by omega)]
      unfold upd; rw [if_pos rfl]
    rw [← hWd, eu, er, eq, Nat.pow_succ]
    have h2 := Nat.div_add_mod W D
    obtain ⟨P, hP⟩ : ∃ P, P = 4294967296 ^ i := ⟨_, rfl⟩
    obtain ⟨Q, hQ⟩ : ∃ Q, Q = vf (from_ q (i + 1)) (m - n + 1 - (i + 1)) := ⟨_, rfl⟩
    rw [← hP, ← hQ]
    have e1 : P * W = P * (W % D) + D * (P * (W / D)) := by
      have : P * W = P * (D * (W / D) + W % D) := by rw [h2]
      rw [this, Nat.mul_add]
      have : P * (D * (W / D)) = D * (P * (W / D)) := by ac_rfl
      omega
    have e2 : D * (P * (W / D + 4294967296 * Q)) = D * (P * (W / D)) + D * (P * 4294967296 * Q) := by
      rw [Nat.mul_add, Nat.mul_add, Nat.mul_assoc P]
    omega
  · have h1 : vf (from_ r i) (n + 1) = vf (from_ r i) n := by
      rw [vf]
      have e : from_ r i n = 0 := hz (i + n) (Nat.le_refl _) hi
      rw [e]; simp
    rw [← h1, hW, ← hWd]; exact hmod

/-- The end. -/
theorem dv_done {a b A D m n s : Nat} {u q : Nat → Nat} (h : Div A D m n 0 u q) (hn : n ≤ m + 1) (hb : 0 < b) (hA : A = a * 2 ^ s) (hD : D = b * 2 ^ s) : vf q (m - n + 1) = a / b ∧ vf u (m + 1) / 2 ^ s = a % b := by
  have hp : 0 < 2 ^ s := Nat.pow_pos (by decide)
  have h1 := h.sum
  have h2 := h.rem
  rw [from_zero] at h1 h2
  have h3 : vf u (m + 1) = vf u n := vf_zero_above hn (fun t h1 h2 => h.zero t (by omega) h2)
  rw [Nat.pow_zero, Nat.one_mul, Nat.sub_zero] at h1
  have hDp : 0 < D := by rw [hD]; exact Nat.mul_pos hb hp
  have h4 : A / D = vf q (m - n + 1) := by
    rw [h1, Nat.add_mul_div_left _ _ hDp, Nat.div_eq_of_lt (by omega)]; omega
  have h5 : A % D = vf u (m + 1) := by
    rw [h1, Nat.add_mul_mod_self_left, Nat.mod_eq_of_lt (by omega)]
  constructor
  · rw [← h4, hA, hD, Nat.mul_div_mul_right _ _ hp]
  · rw [← h5, hA, hD, Nat.mul_mod_mul_right, Nat.mul_div_cancel _ hp]

#print axioms dv_done
end Go.Proofs.Ygcoai
