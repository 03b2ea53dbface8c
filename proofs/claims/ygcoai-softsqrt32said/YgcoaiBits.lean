/-
  Seat gcoai. nat.width32 (109), nat.BitLen (66), nat.Bit (134) at bit 0.
-/
import Derived.Test.YgcoaiCopy
namespace Go.Proofs.Ygcoai
open Go.RowKit

/-- The number of significant bits. -/
def bl (x : Nat) : Nat := if x = 0 then 0 else Nat.log2 x + 1

theorem bl_zero : bl 0 = 0 := rfl
theorem bl_lt (x : Nat) : x < 2 ^ bl x := by
  unfold bl; split
  · omega
  · exact Nat.lt_log2_self
theorem bl_le {x : Nat} (h : x ≠ 0) : 2 ^ (bl x - 1) ≤ x := by
  unfold bl; rw [if_neg h]; exact Nat.log2_self_le h
theorem bl_pos {x : Nat} (h : x ≠ 0) : 1 ≤ bl x := by unfold bl; rw [if_neg h]; omega
theorem bl_unique {x k : Nat} (hk : 1 ≤ k) (h1 : 2 ^ (k - 1) ≤ x) (h2 : x < 2 ^ k) : bl x = k := by
  have hx : x ≠ 0 := by have : 0 < 2 ^ (k - 1) := Nat.pow_pos (by decide); omega
  have h3 := bl_lt x
  have h4 := bl_le hx
  have h5 := bl_pos hx
  rcases Nat.lt_trichotomy (bl x) k with h | h | h
  · have : 2 ^ bl x ≤ 2 ^ (k - 1) := Nat.pow_le_pow_right (by decide) (by omega)
    omega
  · exact h
  · have : 2 ^ k ≤ 2 ^ (bl x - 1) := Nat.pow_le_pow_right (by decide) (by omega)
    omega
theorem bl_half {x : Nat} (h : x ≠ 0) : bl (x / 2) + 1 = bl x := by
  by_cases h1 : x = 1
  · subst h1; rfl
  · have h2 : x / 2 ≠ 0 := by omega
    have a := bl_lt (x / 2)
    have b := bl_le h2
    have c := bl_pos h2
    refine (bl_unique (by omega) ?_ ?_).symm
    · rw [Nat.add_sub_cancel, show bl (x / 2) = bl (x / 2) - 1 + 1 from by omega, Nat.pow_succ]; omega
    · rw [Nat.pow_succ]; omega
theorem bl_le_of_lt {x k : Nat} (h : x < 2 ^ k) : bl x ≤ k := by
  by_cases hx : x = 0
  · subst hx; rw [bl_zero]; omega
  · have := bl_le hx
    rcases Nat.lt_or_ge k (bl x) with h' | h'
    · have : 2 ^ k ≤ 2 ^ (bl x - 1) := Nat.pow_le_pow_right (by decide) (by omega)
      omega
    · exact h'

set_option maxHeartbeats 400000 in
theorem width32_any (w : World) (x : Nat) (hx : x < 4294967296) : Calls Oaig.prog 109 #[.int .u32 x] w fun e w' => e = .returned (.int .i64 (bl x)) ∧ w = w' := by
  have hb : bl x ≤ 32 := bl_le_of_lt (k := 32) hx
  go_enter Oaig.func109, Oaig.ntmps109
  go_wp2
  go_loop [0, 3] (fun y n => ∃ z k : Nat, y = .int .u32 z ∧ n = .int .i64 k ∧ z < 4294967296 ∧ bl z + k = bl x) (fun y _ => (intOf y).toNat)
  case atStart => exact ⟨x, 0, rfl, rfl, hx, by omega⟩
  case round =>
    obtain ⟨z, k, rfl, rfl, hz, hk⟩ := hrel
    by_cases h0 : z = 0
    · subst h0
      rw [bl_zero, Nat.zero_add] at hk
      have hk' : Hid _ := hk
      clear hk
      go_wp2
      go_ret
      exact ⟨ret_int (by rw [hk'.out]), rfl⟩
    · have h1 : ((z : Int) != 0) = true := by rw [bne_iff_ne]; omega
      have hh : Hid _ := bl_half h0
      have hkl : k ≤ 32 := by omega
      have Hk : Hid _ := hk
      clear hk
      go_wp2
      go_round
      case rel => exact ⟨z / 2, k + 1, by go_num, by go_num, by omega, by have := hh.out; have := Hk.out; omega⟩
      case measure => simp [intOf]; omega

/-- The bit length, by the top limb. -/
theorem bl_vf {f : Nat → Nat} {n : Nat} (hf : ∀ i, i < n + 1 → f i < 4294967296) (hn : f n ≠ 0) : bl (vf f (n + 1)) = 32 * n + bl (f n) := by
  have h1 := bl_lt (f n)
  have h2 := bl_le hn
  have h3 := bl_pos hn
  have hp : (4294967296 : Nat) ^ n = 2 ^ (32 * n) := by rw [show (4294967296 : Nat) = 2 ^ 32 from by decide, ← Nat.pow_mul]
  have hl := vf_lt (f := f) (n := n) (fun i hi => hf i (by omega))
  rw [vf, hp]
  rw [hp] at hl
  refine bl_unique (by omega) ?_ ?_
  · rw [show 32 * n + bl (f n) - 1 = (bl (f n) - 1) + 32 * n from by omega, Nat.pow_add]
    have := Nat.mul_le_mul_right (2 ^ (32 * n)) h2
    omega
  · rw [show 32 * n + bl (f n) = bl (f n) + 32 * n from by omega, Nat.pow_add]
    have := Nat.mul_le_mul_right (2 ^ (32 * n)) (Nat.succ_le_of_lt h1)
    rw [Nat.succ_mul] at this
    omega

set_option maxHeartbeats 400000 in
theorem bitLen_any {w : World} {a : Value} {x L : Nat} (ha : NatV w a x) (hx : Lt32 x L) (hL : L ≤ 100000) :
    Calls Oaig.prog 66 #[a] w fun e w' => e = .returned (.int .i64 (bl x)) ∧ w = w' := by
  have hA := ha
  obtain ⟨n, f, ⟨hf, ao, c, rfl, _, hca⟩, hn, hnil, rfl⟩ := ha
  have hnL := norm_len hn hx
  have q38 := eqnil38
  rcases Nat.eq_zero_or_pos n with h0 | h0
  · subst h0
    rw [hnil rfl] at hA ⊢
    go_enter Oaig.func66, Oaig.ntmps66
    go_wp2_with fail
    refine (trim_id hA hx (by omega)).mono ?_
    rintro e w' ⟨rfl, rfl⟩
    go_wp2
    go_ret
    exact ⟨rfl, rfl⟩
  · obtain ⟨m, rfl⟩ : ∃ m, n = m + 1 := ⟨n - 1, by omega⟩
    obtain ⟨b, o, rfl, hc⟩ := hca (by omega)
    have hcm := hc m (by omega)
    have hfm := hf m (by omega)
    have hb : bl (f m) ≤ 32 := bl_le_of_lt (k := 32) hfm
    have hv : Hid _ := bl_vf hf (by simpa using hn (by omega))
    clear hc hf hn hca
    go_enter Oaig.func66, Oaig.ntmps66
    go_wp2_with fail
    refine (trim_id hA hx (by omega)).mono ?_
    rintro e w' ⟨rfl, rfl⟩
    go_wp2_with fail
    refine (width32_any _ (f m) hfm).mono ?_
    rintro e w' ⟨rfl, rfl⟩
    go_wp2
    go_ret
    exact ⟨ret_int (by rw [hv.out]; push_cast; omega), rfl⟩

theorem vf_parity (f : Nat → Nat) (m : Nat) : vf f (m + 1) % 2 = f 0 % 2 := by
  induction m with
  | zero => simp [vf]
  | succ k ih =>
    have e : f (k + 1) * 4294967296 ^ (k + 1) = 2 * (f (k + 1) * 4294967296 ^ k * 2147483648) := by
      rw [Nat.pow_succ, ← Nat.mul_assoc]; omega
    rw [vf, e]; omega

set_option maxHeartbeats 400000 in
theorem bit0_any {w : World} {a : Value} {x L : Nat} (ha : NatV w a x) (hx : Lt32 x L) (_hL : L ≤ 100000) :
    Calls Oaig.prog 134 #[a, .int .i64 0] w fun e w' => e = .returned (.bool (decide (x % 2 = 1))) ∧ w = w' := by
  obtain ⟨n, f, ⟨hf, ao, c, rfl, _, hca⟩, hn, hnil, rfl⟩ := ha
  have hnL := norm_len hn hx
  rcases Nat.eq_zero_or_pos n with h0 | h0
  · subst h0
    rw [hnil rfl]
    go_enter Oaig.func134, Oaig.ntmps134
    go_wp2
    go_ret
    exact ⟨rfl, rfl⟩
  · obtain ⟨m, rfl⟩ : ∃ m, n = m + 1 := ⟨n - 1, by omega⟩
    obtain ⟨b, o, rfl, hc⟩ := hca (by omega)
    have hc0 := hc 0 (by omega)
    have hf0 := hf 0 (by omega)
    rw [Nat.add_zero] at hc0
    clear hc hf hca hn
    go_enter Oaig.func134, Oaig.ntmps134
    go_wp2
    go_ret
    refine ⟨ret_bool ?_, rfl⟩
    show (bits BinOp.and IntKind.u32 (f 0 : Int) 1 == 1) = _
    rw [show (1 : Int) = ((1 : Nat) : Int) from rfl, u32_and_nat _ _ hf0 (by decide), nat_mask1, vf_parity]
    by_cases h : f 0 % 2 = 1
    · rw [h]; rfl
    · rw [show f 0 % 2 = 0 from by omega]; rfl

#print axioms bit0_any

end Go.Proofs.Ygcoai
