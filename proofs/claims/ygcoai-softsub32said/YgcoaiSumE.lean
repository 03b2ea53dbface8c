/-
  Seat gcoai. soft.sum (154): all its ways as one.
-/
import Derived.Test.YgcoaiSumA
import Derived.Test.YgcoaiSumB
namespace Go.Proofs.Ygcoai
open Go.RowKit

/-- soft.sum of two numbers that are not zero: the pattern. -/
def sumPat (na : Bool) (xa : Int) (ma : Nat) (nb : Bool) (xb : Int) (mb : Nat) : Nat :=
  if xb < xa ∨ (xb = xa ∧ mb ≤ ma) then sumP na nb (xa - 103) (ma * 549755813888 * 18446744073709551616) (mb * 549755813888 * 18446744073709551616) (min (xa - xb).toNat 255)
  else sumP nb na (xb - 103) (mb * 549755813888 * 18446744073709551616) (ma * 549755813888 * 18446744073709551616) (min (xb - xa).toNat 255)

theorem jam2_zero (V : Nat) : jam2 V 0 = V := by
  unfold jam2; rw [Nat.pow_zero, Nat.div_one, Nat.mod_one, if_pos rfl, Nat.or_zero]
theorem jam2_le (V k : Nat) : jam2 V k ≤ V / 2 ^ k + 1 := by
  unfold jam2
  split
  · rw [Nat.or_zero]; omega
  · rw [or_one]; omega
theorem jam2_small {h1 h2 k : Nat} (u1 : 4611686018427387904 ≤ h1) (v2 : h2 < 9223372036854775808) (hk : 0 < k) : jam2 (h2 * 18446744073709551616) k ≤ h1 * 18446744073709551616 := by
  have h := jam2_le (h2 * 18446744073709551616) k
  have h3 : 2 ^ 1 ≤ 2 ^ k := Nat.pow_le_pow_right (by decide) hk
  have h4 : h2 * 18446744073709551616 / 2 ^ k ≤ h2 * 18446744073709551616 / 2 ^ 1 := Nat.div_le_div_left h3 (by decide)
  omega

theorem sum_any (w : World) (na nb : Bool) (xa xb : Int) (ma mb : Nat) (a1 : 8388608 ≤ ma) (a2 : ma < 16777216) (a3 : -172 ≤ xa) (a4 : xa ≤ 104) (b1 : 8388608 ≤ mb) (b2 : mb < 16777216) (b3 : -172 ≤ xb) (b4 : xb ≤ 104) :
    Calls Oaig.prog 154 #[.agg #[.int .u8 8, .int .u8 23], .int .u8 0, num na (xa - 103) (ma * 549755813888) 0, num nb (xb - 103) (mb * 549755813888) 0] w fun e w' => ∃ fl : Int, e = .returned (.tuple #[.int .u64 (sumPat na xa ma nb xb mb : Nat), .int .u8 fl]) ∧ Ext w w' := by
  rcases Int.lt_trichotomy xa xb with h | h | h
  · have e : sumPat na xa ma nb xb mb = sumP nb na (xb - 103) (mb * 549755813888 * 18446744073709551616) (ma * 549755813888 * 18446744073709551616) (min (xb - xa).toNat 255) := by
      unfold sumPat; rw [if_neg (by omega)]
    rw [e]
    by_cases hf : (xb - xa).toNat ≤ 255
    · rw [Nat.min_eq_left hf]
      exact sum_nearS w nb na (xb - 103) (xa - 103) _ _ (xb - xa).toNat (by omega) (by omega) hf (by omega) (by omega) (by omega) (by omega) (by omega) (jam2_small (by omega) (by omega) (by omega))
    · rw [Nat.min_eq_right (by omega)]
      exact sum_farS w nb na (xb - 103) (xa - 103) _ _ (xb - xa).toNat (by omega) (by omega) (by omega) (by omega) (by omega) (by omega) (by omega) (jam2_small (by omega) (by omega) (by omega))
  · subst h
    by_cases hm : mb ≤ ma
    · have e : sumPat na xa ma nb xa mb = sumP na nb (xa - 103) (ma * 549755813888 * 18446744073709551616) (mb * 549755813888 * 18446744073709551616) 0 := by
        unfold sumPat; rw [if_pos (by omega), Int.sub_self]; rfl
      rw [e]
      exact sum_same w na nb (xa - 103) _ _ (by omega) (by omega) (by omega) (by omega) (by omega) (by omega) (by rw [jam2_zero]; omega)
    · have e : sumPat na xa ma nb xa mb = sumP nb na (xa - 103) (mb * 549755813888 * 18446744073709551616) (ma * 549755813888 * 18446744073709551616) 0 := by
        unfold sumPat; rw [if_neg (by omega), Int.sub_self]; rfl
      rw [e]
      exact sum_sameS w nb na (xa - 103) _ _ (by omega) (by omega) (by omega) (by omega) (by omega) (by omega) (by rw [jam2_zero]; omega)
  · have e : sumPat na xa ma nb xb mb = sumP na nb (xa - 103) (ma * 549755813888 * 18446744073709551616) (mb * 549755813888 * 18446744073709551616) (min (xa - xb).toNat 255) := by
      unfold sumPat; rw [if_pos (by omega)]
    rw [e]
    by_cases hf : (xa - xb).toNat ≤ 255
    · rw [Nat.min_eq_left hf]
      exact sum_near w na nb (xa - 103) (xb - 103) _ _ (xa - xb).toNat (by omega) (by omega) hf (by omega) (by omega) (by omega) (by omega) (by omega) (jam2_small (by omega) (by omega) (by omega))
    · rw [Nat.min_eq_right (by omega)]
      exact sum_far w na nb (xa - 103) (xb - 103) _ _ (xa - xb).toNat (by omega) (by omega) (by omega) (by omega) (by omega) (by omega) (by omega) (jam2_small (by omega) (by omega) (by omega))

end Go.Proofs.Ygcoai
