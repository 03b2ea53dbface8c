/-
  Seat gcoai. The plain law of the sum.
-/
import Derived.Test.YgcoaiPlain
import Derived.Test.YgcoaiSumE
namespace Go.Proofs.Ygcoai
open Go.RowKit

theorem rp_jam_exact {N D T A B : Nat} {e : Int} (hN : N ≠ 0) (hD : D ≠ 0) (hx : (B : Int) - A = e) (h0 : T ≠ 0) (hT : T < 340282366920938463463374607431768211456) (h : N * 2 ^ A = T * (D * 2 ^ B)) :
    rp (e - 64 + bl T) (jamS T) = rnd N D := by
  have hb : bl T ≤ 128 := bl_le_of_lt (k := 128) hT
  obtain ⟨j1, j2⟩ := jamS_bd h0 hT
  have hq := Nat.div_add_mod (T * 2 ^ (128 - bl T)) 18446744073709551616
  have hr := Nat.mod_lt (T * 2 ^ (128 - bl T)) (show 18446744073709551616 > 0 by decide)
  have hp : 0 < D * 2 ^ B := Nat.mul_pos (Nat.pos_of_ne_zero hD) (Nat.two_pow_pos _)
  have e0 : N * 2 ^ (A + (128 - bl T)) = T * 2 ^ (128 - bl T) * (D * 2 ^ B) := by
    rw [Nat.pow_add, ← Nat.mul_assoc, h]; grind
  by_cases hz : T * 2 ^ (128 - bl T) % 18446744073709551616 = 0
  · have hs : jamS T = T * 2 ^ (128 - bl T) / 18446744073709551616 := by unfold jamS; rw [if_pos hz, Nat.or_zero]
    rw [hs] at j1 j2 ⊢
    refine rp_exact hN hD (by omega) j2 (a := A + (128 - bl T)) (b := B + 64) (by omega) ?_
    rw [e0, ← hq, hz, Nat.add_zero, Nat.pow_add]
    generalize T * 2 ^ (128 - bl T) / 18446744073709551616 = Q
    grind
  · have hs : jamS T = T * 2 ^ (128 - bl T) / 18446744073709551616 / 2 * 2 + 1 := by unfold jamS; rw [if_neg hz, or_one]
    rw [hs] at j1 j2 ⊢
    generalize T * 2 ^ (128 - bl T) / 18446744073709551616 = Q at *
    generalize T * 2 ^ (128 - bl T) % 18446744073709551616 = R at *
    have hb2 : 26 ≤ bl (Q / 2 * 2 + 1) := by
      rcases Nat.lt_or_ge (bl (Q / 2 * 2 + 1)) 26 with hl | hl
      · have h5 := bl_lt (Q / 2 * 2 + 1)
        have h6 : 2 ^ bl (Q / 2 * 2 + 1) ≤ 2 ^ 26 := Nat.pow_le_pow_right (by decide) (by omega)
        omega
      · exact hl
    refine rp_sticky hN hD j2 (a := A + (128 - bl T)) (b := B + 64) (by omega) (by omega) hb2 ?_ ?_
    · have e1 : (Q / 2 * 2 + 1 - 1) * D * 2 ^ (B + 64) = (Q / 2 * 2 + 1 - 1) * 18446744073709551616 * (D * 2 ^ B) := by rw [Nat.pow_add]; grind
      rw [e0, e1]
      exact Nat.mul_lt_mul_of_pos_right (by omega) hp
    · have e1 : (Q / 2 * 2 + 1 + 1) * D * 2 ^ (B + 64) = (Q / 2 * 2 + 1 + 1) * 18446744073709551616 * (D * 2 ^ B) := by rw [Nat.pow_add]; grind
      rw [e0, e1]
      exact Nat.mul_lt_mul_of_pos_right (by omega) hp

theorem rp_jam_sticky {N D T A B : Nat} {e : Int} (hN : N ≠ 0) (hD : D ≠ 0) (hx : (B : Int) - A = e) (hT : T < 340282366920938463463374607431768211456) (ho : T % 2 = 1) (hw : 66 ≤ bl T)
    (hl : (T - 1) * (D * 2 ^ B) < N * 2 ^ A) (hu : N * 2 ^ A < (T + 1) * (D * 2 ^ B)) :
    rp (e - 64 + bl T) (jamS T) = rnd N D := by
  have h0 : T ≠ 0 := by omega
  have hb : bl T ≤ 128 := bl_le_of_lt (k := 128) hT
  obtain ⟨j1, j2⟩ := jamS_bd h0 hT
  have hp : 0 < D * 2 ^ B := Nat.mul_pos (Nat.pos_of_ne_zero hD) (Nat.two_pow_pos _)
  obtain ⟨s, hs⟩ : ∃ s, s = 128 - bl T := ⟨_, rfl⟩
  have hps := Nat.two_pow_pos s
  have e64 : 18446744073709551616 = 2 * 2 ^ (63 - s) * 2 ^ s := by
    rw [Nat.mul_assoc, ← Nat.pow_add, show 63 - s + s = 63 by omega]
  have hq := Nat.div_add_mod (T * 2 ^ s) 18446744073709551616
  have hr := Nat.mod_lt (T * 2 ^ s) (show 18446744073709551616 > 0 by decide)
  have hz : T * 2 ^ s % 18446744073709551616 ≠ 0 := by
    intro h
    rw [h, Nat.add_zero] at hq
    generalize T * 2 ^ s / 18446744073709551616 = Q at hq
    rw [e64] at hq
    have h1 : (2 * 2 ^ (63 - s) * Q) * 2 ^ s = T * 2 ^ s := by rw [← hq]; grind
    have h2 := Nat.eq_of_mul_eq_mul_right hps h1
    have h3 : T = 2 * (2 ^ (63 - s) * Q) := by rw [← h2, Nat.mul_assoc]
    omega
  have hsg : jamS T = T * 2 ^ s / 18446744073709551616 / 2 * 2 + 1 := by unfold jamS; rw [← hs, if_neg hz, or_one]
  rw [hsg] at j1 j2 ⊢
  generalize T * 2 ^ s / 18446744073709551616 = Q at *
  generalize T * 2 ^ s % 18446744073709551616 = R at *
  have hlow : Q * 18446744073709551616 ≤ (T - 1) * 2 ^ s := by
    have h1 : (Q * (2 * 2 ^ (63 - s))) * 2 ^ s < T * 2 ^ s := by
      rw [Nat.mul_assoc, ← e64, ← hq, Nat.mul_comm Q]; omega
    have h2 := Nat.lt_of_mul_lt_mul_right h1
    have h3 : Q * (2 * 2 ^ (63 - s)) * 2 ^ s ≤ (T - 1) * 2 ^ s := Nat.mul_le_mul_right _ (by omega)
    rw [Nat.mul_assoc, ← e64] at h3
    exact h3
  have hup : (T + 1) * 2 ^ s ≤ (Q + 1) * 18446744073709551616 := by
    have h1 : T * 2 ^ s < ((Q + 1) * (2 * 2 ^ (63 - s))) * 2 ^ s := by
      rw [Nat.mul_assoc (Q + 1), ← e64, ← hq]; omega
    have h2 := Nat.lt_of_mul_lt_mul_right h1
    have h3 : (T + 1) * 2 ^ s ≤ (Q + 1) * (2 * 2 ^ (63 - s)) * 2 ^ s := Nat.mul_le_mul_right _ (by omega)
    rw [Nat.mul_assoc (Q + 1), ← e64] at h3
    exact h3
  have hb2 : 26 ≤ bl (Q / 2 * 2 + 1) := by
    rcases Nat.lt_or_ge (bl (Q / 2 * 2 + 1)) 26 with hl | hl
    · have h5 := bl_lt (Q / 2 * 2 + 1)
      have h6 : 2 ^ bl (Q / 2 * 2 + 1) ≤ 2 ^ 26 := Nat.pow_le_pow_right (by decide) (by omega)
      omega
    · exact hl
  refine rp_sticky hN hD j2 (a := A + s) (b := B + 64) (by omega) (by omega) hb2 ?_ ?_
  · have e1 : (Q / 2 * 2 + 1 - 1) * D * 2 ^ (B + 64) = (Q / 2 * 2 + 1 - 1) * 18446744073709551616 * (D * 2 ^ B) := by rw [Nat.pow_add]; grind
    have e2 : N * 2 ^ (A + s) = N * 2 ^ A * 2 ^ s := by rw [Nat.pow_add]; grind
    rw [e1, e2]
    have h1 : (Q / 2 * 2 + 1 - 1) * 18446744073709551616 ≤ (T - 1) * 2 ^ s := Nat.le_trans (Nat.mul_le_mul_right _ (by omega)) hlow
    have h2 := Nat.mul_le_mul_right (D * 2 ^ B) h1
    have h3 := Nat.mul_lt_mul_of_pos_right hl hps
    have e3 : (T - 1) * (D * 2 ^ B) * 2 ^ s = (T - 1) * 2 ^ s * (D * 2 ^ B) := by grind
    omega
  · have e1 : (Q / 2 * 2 + 1 + 1) * D * 2 ^ (B + 64) = (Q / 2 * 2 + 1 + 1) * 18446744073709551616 * (D * 2 ^ B) := by rw [Nat.pow_add]; grind
    have e2 : N * 2 ^ (A + s) = N * 2 ^ A * 2 ^ s := by rw [Nat.pow_add]; grind
    rw [e1, e2]
    have h1 : (T + 1) * 2 ^ s ≤ (Q / 2 * 2 + 1 + 1) * 18446744073709551616 := Nat.le_trans hup (Nat.mul_le_mul_right _ (by omega))
    have h2 := Nat.mul_le_mul_right (D * 2 ^ B) h1
    have h3 := Nat.mul_lt_mul_of_pos_right hu hps
    have e3 : (T + 1) * (D * 2 ^ B) * 2 ^ s = (T + 1) * 2 ^ s * (D * 2 ^ B) := by grind
    omega

/-- What jam2 loses. -/
theorem jam2_cases (V g : Nat) : (V = jam2 V g * 2 ^ g) ∨ (V % 2 ^ g ≠ 0 ∧ jam2 V g % 2 = 1 ∧ (jam2 V g - 1) * 2 ^ g < V ∧ V < (jam2 V g + 1) * 2 ^ g) := by
  have hp := Nat.two_pow_pos g
  have hq := Nat.div_add_mod V (2 ^ g)
  have hr := Nat.mod_lt V hp
  by_cases hz : V % 2 ^ g = 0
  · left
    have : jam2 V g = V / 2 ^ g := by unfold jam2; rw [if_pos hz, Nat.or_zero]
    rw [this]
    rw [hz, Nat.add_zero, Nat.mul_comm] at hq
    exact hq.symm
  · right
    have : jam2 V g = V / 2 ^ g / 2 * 2 + 1 := by unfold jam2; rw [if_neg hz, or_one]
    rw [this]
    refine ⟨hz, by omega, ?_, ?_⟩
    · have h1 : (V / 2 ^ g / 2 * 2 + 1 - 1) * 2 ^ g ≤ V / 2 ^ g * 2 ^ g := Nat.mul_le_mul_right _ (by omega)
      rw [Nat.mul_comm (2 ^ g)] at hq
      omega
    · have h1 : (V / 2 ^ g + 1) * 2 ^ g ≤ (V / 2 ^ g / 2 * 2 + 1 + 1) * 2 ^ g := Nat.mul_le_mul_right _ (by omega)
      rw [Nat.add_mul, Nat.one_mul] at h1
      rw [Nat.mul_comm (2 ^ g)] at hq
      omega

theorem jam2_cap {V g : Nat} (h0 : V ≠ 0) (hV : V < 170141183460469231731687303715884105728) : jam2 V (min g 255) = jam2 V g := by
  rcases Nat.le_total g 255 with h | h
  · rw [Nat.min_eq_left h]
  · rw [Nat.min_eq_right h]
    have h1 : ∀ k, 255 ≤ k → jam2 V k = 1 := by
      intro k hk
      have h2 : V < 2 ^ k := Nat.lt_of_lt_of_le (Nat.lt_of_lt_of_le hV (by decide : 170141183460469231731687303715884105728 ≤ 2 ^ 255)) (Nat.pow_le_pow_right (by decide) hk)
      unfold jam2
      rw [Nat.div_eq_of_lt h2, Nat.mod_eq_of_lt h2, if_neg h0]
      rfl
    rw [h1 255 (Nat.le_refl _), h1 g h]

/-- Two fractions of one denominator, the first the greater: their sum and their difference as soft.sum rounds them. -/
theorem sumP_rnd {n1 n2 : Bool} {x1 x2 : Int} {m1 m2 N1 N2 D : Nat} (a1 : 8388608 ≤ m1) (a2 : m1 < 16777216) (b1 : 8388608 ≤ m2) (b2 : m2 < 16777216) (hD : D ≠ 0) (hx : x2 ≤ x1) (hm : x2 = x1 → m2 ≤ m1)
    {p1 q1 p2 q2 : Nat} (c1 : (q1 : Int) - p1 = x1) (c2 : (q2 : Int) - p2 = x2) (d1 : N1 * 2 ^ p1 = m1 * D * 2 ^ q1) (d2 : N2 * 2 ^ p2 = m2 * D * 2 ^ q2) :
    N2 ≤ N1 ∧ sumP n1 n2 (x1 - 103) (m1 * 549755813888 * 18446744073709551616) (m2 * 549755813888 * 18446744073709551616) (min (x1 - x2).toNat 255) =
      (if n1 = n2 then rnd (N1 + N2) D + sgn n1 else if N2 = N1 then 0 else rnd (N1 - N2) D + sgn n1) := by
  obtain ⟨g, hg⟩ : ∃ g, g = (x1 - x2).toNat := ⟨_, rfl⟩
  obtain ⟨A, hA⟩ : ∃ A, A = (103 - x1).toNat := ⟨_, rfl⟩
  obtain ⟨B, hB⟩ : ∃ B, B = (x1 - 103).toNat := ⟨_, rfl⟩
  obtain ⟨V1, hV1⟩ : ∃ V, V = m1 * 549755813888 * 18446744073709551616 := ⟨_, rfl⟩
  obtain ⟨V2, hV2⟩ : ∃ V, V = m2 * 549755813888 * 18446744073709551616 := ⟨_, rfl⟩
  have v1 : V1 = m1 * 2 ^ 103 := by rw [hV1, Nat.mul_assoc]
  have v2 : V2 = m2 * 2 ^ 103 := by rw [hV2, Nat.mul_assoc]
  have E1 : N1 * 2 ^ A = V1 * (D * 2 ^ B) := by
    have h := eq_shift d1 (a' := A) (b' := B + 103) (by omega)
    rw [h, v1, Nat.pow_add]; grind
  have E2 : N2 * 2 ^ A * 2 ^ g = V2 * (D * 2 ^ B) := by
    have h := eq_shift d2 (a' := A + g) (b' := B + 103) (by omega)
    rw [Nat.pow_add, ← Nat.mul_assoc] at h
    rw [h, v2, Nat.pow_add]; grind
  have hPA := Nat.two_pow_pos A
  have hPg := Nat.two_pow_pos g
  have hQ : 0 < D * 2 ^ B := Nat.mul_pos (Nat.pos_of_ne_zero hD) (Nat.two_pow_pos _)
  have hJ0 : jam2 V2 (min g 255) = jam2 V2 g := jam2_cap (by omega) (by omega)
  have hJ1 : jam2 V2 g ≤ V1 := by
    rcases Nat.eq_zero_or_pos g with h | h
    · rw [h, jam2_zero]
      have := hm (by omega)
      omega
    · rw [hV1, hV2]; exact jam2_small (by omega) (by omega) h
  have hJc := jam2_cases V2 g
  have hsmall : V2 % 2 ^ g ≠ 0 → jam2 V2 g ≤ 16777216 := by
    intro h
    have hg2 : 104 ≤ g := by
      rcases Nat.lt_or_ge g 104 with hl | hl
      · exfalso; apply h
        rw [v2, show (103 : Nat) = (103 - g) + g by omega, Nat.pow_add, ← Nat.mul_assoc, Nat.mul_mod_left]
      · exact hl
    have h1 := jam2_le V2 g
    have h2 : V2 / 2 ^ g ≤ V2 / 2 ^ 104 := Nat.div_le_div_left (Nat.pow_le_pow_right (by decide) hg2) (by decide)
    have h3 : V2 / 2 ^ 104 < 16777216 := Nat.div_lt_of_lt_mul (by omega)
    omega
  have hV1e : V1 = 2 * (m1 * 5070602400912917605986812821504) := by rw [hV1, Nat.mul_assoc]; omega
  rw [← hg, ← hV1, ← hV2]
  unfold sumP
  rw [hJ0]
  have hxe : (B : Int) - A = x1 - 103 := by omega
  have hV1l : V1 < 170141183460469231731687303715884105728 := by omega
  have hV1g : 85070591730234615865843651857942052864 ≤ V1 := by omega
  have hN1 : N1 ≠ 0 := by
    intro h
    rw [h, Nat.zero_mul] at E1
    have := Nat.mul_pos (show 0 < V1 by omega) hQ
    omega
  clear hV1 hV2 v1 v2 d1 d2 c1 c2 hg hA hB hm hx a1 a2 b1 b2 hJ0
  generalize jam2 V2 g = J at *
  rcases hJc with hJe | ⟨hJz, hJo, hJl, hJu⟩
  · have F2 : N2 * 2 ^ A = J * (D * 2 ^ B) := by
      apply Nat.eq_of_mul_eq_mul_right hPg
      rw [E2]
      conv => lhs; rw [hJe]
      grind
    clear hJe E2 hsmall
    have hle : N2 ≤ N1 := by
      have h := Nat.mul_le_mul_right (D * 2 ^ B) hJ1
      rw [← E1, ← F2] at h
      exact Nat.le_of_mul_le_mul_right h hPA
    refine ⟨hle, ?_⟩
    by_cases hn : n1 = n2
    · rw [if_pos hn, if_pos hn]
      congr 1
      exact rp_jam_exact (by omega) hD hxe (by omega) (by omega) (by rw [Nat.add_mul, Nat.add_mul, E1, F2])
    · rw [if_neg hn, if_neg hn]
      by_cases hv : V1 = J
      · have : N2 = N1 := by
          apply Nat.eq_of_mul_eq_mul_right hPA
          rw [E1, F2, hv]
        rw [if_pos hv, if_pos this]
      · have hne : N2 ≠ N1 := by
          intro h
          apply hv
          apply Nat.eq_of_mul_eq_mul_right hQ
          rw [← E1, ← F2, h]
        rw [if_neg hv, if_neg hne]
        congr 1
        exact rp_jam_exact (by omega) hD hxe (by omega) (by omega) (by rw [Nat.sub_mul, Nat.sub_mul, E1, F2])
  · have hsm := hsmall hJz
    have G1 : (J - 1) * (D * 2 ^ B) < N2 * 2 ^ A := by
      apply Nat.lt_of_mul_lt_mul_right (a := 2 ^ g)
      rw [E2, Nat.mul_right_comm]
      exact Nat.mul_lt_mul_of_pos_right hJl hQ
    have G2 : N2 * 2 ^ A < (J + 1) * (D * 2 ^ B) := by
      apply Nat.lt_of_mul_lt_mul_right (a := 2 ^ g)
      rw [E2, Nat.mul_right_comm]
      exact Nat.mul_lt_mul_of_pos_right hJu hQ
    clear hJl hJu E2 hsmall hJz
    have hJV : (J + 1) * (D * 2 ^ B) ≤ V1 * (D * 2 ^ B) := Nat.mul_le_mul_right _ (by omega)
    have hlt : N2 < N1 := by
      apply Nat.lt_of_mul_lt_mul_right (a := 2 ^ A)
      rw [E1]; omega
    have hbl : ∀ T, 42535295865117307932921825928971026432 ≤ T → 66 ≤ bl T := by
      intro T hT
      rcases Nat.lt_or_ge (bl T) 66 with hl | hl
      · have h5 := bl_lt T
        have h6 : 2 ^ bl T ≤ 2 ^ 66 := Nat.pow_le_pow_right (by decide) (by omega)
        omega
      · exact hl
    refine ⟨Nat.le_of_lt hlt, ?_⟩
    obtain ⟨K, rfl⟩ : ∃ K, J = K + 1 := ⟨J - 1, by omega⟩
    rw [Nat.add_sub_cancel] at G1
    have e1 : (K + 1 + 1) * (D * 2 ^ B) = K * (D * 2 ^ B) + 2 * (D * 2 ^ B) := by grind
    by_cases hn : n1 = n2
    · rw [if_pos hn, if_pos hn]
      congr 1
      refine rp_jam_sticky (by omega) hD hxe (by omega) (by omega) (hbl _ (by omega)) ?_ ?_
      · have e2 : (V1 + (K + 1) - 1) * (D * 2 ^ B) = V1 * (D * 2 ^ B) + K * (D * 2 ^ B) := by
          rw [show V1 + (K + 1) - 1 = V1 + K by omega, Nat.add_mul]
        rw [e2, Nat.add_mul, E1]; omega
      · have e2 : (V1 + (K + 1) + 1) * (D * 2 ^ B) = V1 * (D * 2 ^ B) + (K + 1 + 1) * (D * 2 ^ B) := by
          rw [show V1 + (K + 1) + 1 = V1 + (K + 1 + 1) by omega, Nat.add_mul]
        rw [e2, Nat.add_mul, E1]; omega
    · rw [if_neg hn, if_neg hn, if_neg (by omega), if_neg (by omega)]
      congr 1
      obtain ⟨U, hU⟩ : ∃ U, V1 = U + (K + 1 + 1) := ⟨V1 - (K + 1 + 1), by omega⟩
      have e4 : V1 * (D * 2 ^ B) = U * (D * 2 ^ B) + (K + 1 + 1) * (D * 2 ^ B) := by rw [hU, Nat.add_mul]
      refine rp_jam_sticky (by omega) hD hxe (by omega) (by omega) (hbl _ (by omega)) ?_ ?_
      · have e2 : (V1 - (K + 1) - 1) * (D * 2 ^ B) = U * (D * 2 ^ B) := by rw [show V1 - (K + 1) - 1 = U by omega]
        rw [e2, Nat.sub_mul, E1]; omega
      · have e2 : (V1 - (K + 1) + 1) * (D * 2 ^ B) = U * (D * 2 ^ B) + 2 * (D * 2 ^ B) := by rw [show V1 - (K + 1) + 1 = U + 2 by omega, Nat.add_mul]
        rw [e2, Nat.sub_mul, E1]; omega

end Go.Proofs.Ygcoai
