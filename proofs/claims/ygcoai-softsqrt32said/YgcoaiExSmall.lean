/-
  Seat gcoai. exact.zero (115), overflow (135), raises (133), emin (89), emax (90), shift (130), toU64 (93).
-/
import Derived.Test.YgcoaiOpen
import Derived.Test.YgcoaiDivMod
namespace Go.Proofs.Ygcoai
open Go.RowKit

theorem xzero_any (w : World) (neg : Bool) : Calls Oaig.prog 115 #[.agg #[.int .u8 8, .int .u8 23], .bool neg] w fun e w' => e = .returned (.int .u64 (sgn neg : Nat)) ∧ Ext w w' := by
  cases neg
  · go_enter Oaig.func115, Oaig.ntmps115
    go_wp2
    go_ret
    exact ⟨rfl, (Ext.refl w).alloc _ _⟩
  · go_enter Oaig.func115, Oaig.ntmps115
    go_wp2_with fail
    refine (signBit_any _).mono ?_
    rintro e w1 ⟨rfl, hext1⟩
    go_wp2
    go_ret
    exact ⟨rfl, hext1.of_alloc⟩

theorem xoverflow_any (w : World) (neg : Bool) : Calls Oaig.prog 135 #[.agg #[.int .u8 8, .int .u8 23], .int .u8 0, .bool neg] w fun e w' => e = .returned (.tuple #[.int .u64 (2139095040 + sgn neg : Nat), .int .u8 20]) ∧ Ext w w' := by
  go_enter Oaig.func135, Oaig.ntmps135
  go_wp2_with fail
  refine (inf_any _ neg).mono ?_
  rintro e w1 ⟨rfl, hext1⟩
  go_wp2
  go_ret2
  exact ⟨rfl, hext1.of_alloc⟩

theorem emin_any (w : World) : Calls Oaig.prog 89 #[.agg #[.int .u8 8, .int .u8 23]] w fun e w' => e = .returned (.int .i64 (-126)) ∧ Ext w w' := by
  go_enter Oaig.func89, Oaig.ntmps89
  go_wp2_with fail
  refine (bias_any _).mono ?_
  rintro e w1 ⟨rfl, hext1⟩
  go_wp2
  go_ret
  exact ⟨rfl, hext1.of_alloc⟩

theorem emax_any (w : World) : Calls Oaig.prog 90 #[.agg #[.int .u8 8, .int .u8 23]] w fun e w' => e = .returned (.int .i64 127) ∧ Ext w w' := by
  go_enter Oaig.func90, Oaig.ntmps90
  go_wp2_with fail
  refine (bias_any _).mono ?_
  rintro e w1 ⟨rfl, hext1⟩
  go_wp2
  go_ret
  exact ⟨rfl, hext1.of_alloc⟩

/-- The rule. -/
def xr (h : Int) (odd : Bool) : Bool := decide (0 < h) || (decide (h = 0) && odd)

theorem xraises_any (w : World) (neg odd some : Bool) (h : Int) :
    Calls Oaig.prog 133 #[.int .u8 0, .bool neg, .bool odd, .agg #[.int .i8 h, .bool some]] w fun e w' => e = .returned (.bool (xr h odd)) ∧ Ext w w' := by
  rcases Int.lt_trichotomy 0 h with h1 | h1 | h1
  · have g1 : decide (0 < h) = true := decide_eq_true h1
    have hv : Hid (xr h odd = true) := by show xr h odd = true; unfold xr; simp [h1]
    clear h1
    go_enter Oaig.func133, Oaig.ntmps133
    go_wp2
    go_ret
    exact ⟨by rw [hv.out]; rfl, (Ext.refl w).alloc _ _⟩
  · subst h1
    have hv : Hid (xr 0 odd = odd) := by show xr 0 odd = odd; unfold xr; simp
    go_enter Oaig.func133, Oaig.ntmps133
    go_wp2
    go_ret
    exact ⟨by rw [hv.out]; rfl, (Ext.refl w).alloc _ _⟩
  · have g1 : decide (0 < h) = false := decide_eq_false (by omega)
    have g2 : (h == 0) = false := by rw [beq_eq_false_iff_ne]; omega
    have hv : Hid (xr h odd = false) := by show xr h odd = false; unfold xr; rw [g1, decide_eq_false (by omega)]; rfl
    clear h1
    go_enter Oaig.func133, Oaig.ntmps133
    go_wp2
    go_ret
    exact ⟨by rw [hv.out]; rfl, (Ext.refl w).alloc _ _⟩

set_option maxHeartbeats 1000000 in
theorem shift_neg {w : World} {nv dv : Value} {n d L : Nat} (hn : NatV w nv n) (hd : NatV w dv d) (ld : Lt32 d L) (hL : L ≤ 1000) (k : Int) (j : Nat) (hk : k = -(j : Int)) (hj1 : 1 ≤ j) (hj2 : j ≤ 60000) :
    Calls Oaig.prog 130 #[nv, dv, .int .i64 k] w fun e w' => ∃ nv' dv', e = .returned (.tuple #[nv', dv']) ∧ Ext w w' ∧ NatV w' nv' n ∧ NatV w' dv' (d * 2 ^ j) := by
  subst hk
  go_enter Oaig.func130, Oaig.ntmps130
  go_wp2_with fail
  refine (shl_any hd ld (by omega) j (by omega)).mono ?_
  rintro e w1 ⟨v1, rfl, hext1, hv1⟩
  go_wp2
  go_ret2
  exact ⟨_, _, rfl, hext1, hn.ext hext1, hv1⟩

set_option maxHeartbeats 1000000 in
theorem shift_pos {w : World} {nv dv : Value} {n d L : Nat} (hn : NatV w nv n) (hd : NatV w dv d) (ln : Lt32 n L) (hL : L ≤ 1000) (j : Nat) (hj2 : j ≤ 60000) :
    Calls Oaig.prog 130 #[nv, dv, .int .i64 j] w fun e w' => ∃ nv' dv', e = .returned (.tuple #[nv', dv']) ∧ Ext w w' ∧ NatV w' nv' (n * 2 ^ j) ∧ NatV w' dv' d := by
  go_enter Oaig.func130, Oaig.ntmps130
  go_wp2_with fail
  refine (shl_any hn ln (by omega) j (by omega)).mono ?_
  rintro e w1 ⟨v1, rfl, hext1, hv1⟩
  go_wp2
  go_ret2
  exact ⟨_, _, rfl, hext1, hv1, hd.ext hext1⟩

theorem shift_any {w : World} {nv dv : Value} {n d L : Nat} (hn : NatV w nv n) (hd : NatV w dv d) (ln : Lt32 n L) (ld : Lt32 d L) (hL : L ≤ 1000) (k : Int) (h1 : -60000 ≤ k) (h2 : k ≤ 60000) :
    Calls Oaig.prog 130 #[nv, dv, .int .i64 k] w fun e w' => ∃ nv' dv', e = .returned (.tuple #[nv', dv']) ∧ Ext w w' ∧ NatV w' nv' (n * 2 ^ k.toNat) ∧ NatV w' dv' (d * 2 ^ (-k).toNat) := by
  rcases Int.lt_or_le k 0 with h | h
  · refine (shift_neg hn hd ld hL k (-k).toNat (by omega) (by omega) (by omega)).mono ?_
    rintro e w' ⟨nv', dv', rfl, he, h3, h4⟩
    refine ⟨nv', dv', rfl, he, ?_, h4⟩
    rw [show k.toNat = 0 by omega]; simpa using h3
  · obtain ⟨j, rfl⟩ : ∃ j : Nat, k = j := ⟨k.toNat, by omega⟩
    refine (shift_pos hn hd ln hL j (by omega)).mono ?_
    rintro e w' ⟨nv', dv', rfl, he, h3, h4⟩
    refine ⟨nv', dv', rfl, he, by simpa using h3, ?_⟩
    rw [show (-(j : Int)).toNat = 0 by omega]; simpa using h4

end Go.Proofs.Ygcoai
