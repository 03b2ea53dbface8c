/-
  Seat gcoai. soft.roundPack (85) at Binary32, NearestEven.
-/
import Derived.Test.YgcoaiRp
import Derived.Deep.Cut
namespace Go.Proofs.Ygcoai
open Go.RowKit

theorem roundPack_zero (w : World) (neg : Bool) (exp : Int) :
    Calls Oaig.prog 85 #[.agg #[.int .u8 8, .int .u8 23], .int .u8 0, .bool neg, .int .i16 exp, .int .u64 0] w fun e w' => e = .returned (.tuple #[.int .u64 (sgn neg : Nat), .int .u8 0]) ∧ Ext w w' := by
  go_enter Oaig.func85, Oaig.ntmps85
  go_wp2_with fail
  refine (zero_any _ neg).mono ?_
  rintro e w1 ⟨rfl, hext1⟩
  go_wp2
  go_ret2
  exact ⟨rfl, hext1.of_alloc⟩

/-- The significand moved up. -/
theorem sig_up {sig : Nat} (h0 : sig ≠ 0) (hs : sig < 18446744073709551616) : 9223372036854775808 ≤ sig * 2 ^ (64 - bl sig) ∧ sig * 2 ^ (64 - bl sig) < 18446744073709551616 := by
  have h1 := bl_lt sig
  have h2 := bl_le h0
  have h3 := bl_pos h0
  have h4 : bl sig ≤ 64 := bl_le_of_lt (k := 64) hs
  constructor
  · have := Nat.mul_le_mul_right (2 ^ (64 - bl sig)) h2
    rw [← Nat.pow_add, show bl sig - 1 + (64 - bl sig) = 63 from by omega] at this
    omega
  · have := Nat.mul_lt_mul_of_pos_right h1 (Nat.pow_pos (n := 64 - bl sig) (show 0 < 2 by decide))
    rw [← Nat.pow_add, show bl sig + (64 - bl sig) = 64 from by omega] at this
    omega

set_option maxHeartbeats 1000000 in
theorem roundPack_big (w : World) (neg : Bool) (exp : Int) (sig : Nat) (h0 : sig ≠ 0) (hs : sig < 18446744073709551616) (hx1 : -2000 ≤ exp) (hx2 : exp ≤ 2000) (hbig : 127 < exp + bl sig - 1) :
    Calls Oaig.prog 85 #[.agg #[.int .u8 8, .int .u8 23], .int .u8 0, .bool neg, .int .i16 exp, .int .u64 sig] w fun e w' => ∃ fl : Int, e = .returned (.tuple #[.int .u64 (2139095040 + sgn neg : Nat), .int .u8 fl]) ∧ Ext w w' := by
  have g0 : ((sig : Int) == 0) = false := by rw [beq_eq_false_iff_ne]; omega
  have hb1 := bl_pos h0
  have hb2 : bl sig ≤ 64 := bl_le_of_lt (k := 64) hs
  go_enter Oaig.func85, Oaig.ntmps85
  go_wp2_with fail
  refine (clz_any _ sig h0 hs).mono ?_
  rintro e w' ⟨rfl, rfl⟩
  obtain ⟨ld, hld⟩ : ∃ ld, ld = 64 - bl sig := ⟨_, rfl⟩
  rw [← hld]
  have hld1 : ld ≤ 63 := by omega
  have hlr : 127 < exp - (ld : Int) + 63 := by omega
  clear hld hb1 hb2 hbig
  go_wp2_with fail
  refine (bias_any _).mono ?_
  rintro e w1 ⟨rfl, hext1⟩
  have hF : Blk w1 w.heap.size #[.int .u8 8, .int .u8 23] := (Blk.new w _ 25).ext hext1
  have a0 := hF.cell (i := 0) rfl
  have a1 := hF.cell (i := 1) rfl
  go_wp2_with fail
  refine (bias_any _).mono ?_
  rintro e w2 ⟨rfl, hext2⟩
  replace hF := hF.ext hext2
  replace a0 := hF.cell (i := 0) rfl
  replace a1 := hF.cell (i := 1) rfl
  go_wp2_with fail
  refine (overflow_any _ neg).mono ?_
  rintro e w3 ⟨rfl, hext3⟩
  go_wp2
  go_ret2
  exact ⟨_, rfl, hext1.of_alloc.trans (hext2.trans hext3)⟩

theorem cut_ex (w : World) (s k : Nat) (ki : Int) (hs : s < 18446744073709551616) (h0 : s ≠ 0) (h1 : 40 ≤ k) (h2 : k ≤ 30000) (hk : ki = k) :
    Calls Oaig.prog 126 #[.int .u64 s, .int .i16 ki] w fun e w' => ∃ n r : Nat, e = .returned (.tuple #[.int .u64 n, .int .u64 r]) ∧ Hid (n = s / 2 ^ k) ∧ Hid (r = cutR s k) ∧ n < 16777216 ∧ r < 18446744073709551616 ∧ Ext w w' := by
  subst hk
  refine (cut_any w s k hs h0 (by omega) h2).mono ?_
  rintro e w' ⟨rfl, hext⟩
  refine ⟨_, _, rfl, rfl, rfl, ?_, ?_, hext⟩
  · apply Nat.div_lt_of_lt_mul
    have : 2 ^ 40 ≤ 2 ^ k := Nat.pow_le_pow_right (by decide) h1
    have : 2 ^ 40 * 16777216 ≤ 2 ^ k * 16777216 := Nat.mul_le_mul_right _ this
    omega
  · unfold cutR; split <;> omega

theorem inf_false (w : World) : Calls Oaig.prog 81 #[.agg #[.int .u8 8, .int .u8 23], .bool false] w fun e w' => e = .returned (.int .u64 2139095040) ∧ Ext w w' := inf_any w false
theorem or_sgn {X : Nat} (hX : X < 2147483648) (neg : Bool) : bits BinOp.or IntKind.u64 (X : Int) ((sgn neg : Nat) : Int) = ((X + sgn neg : Nat) : Int) := by
  cases neg
  · rw [show sgn false = 0 from rfl, u64_or_nat _ _ (by omega) (by decide)]; simp
  · rw [show sgn true = 2147483648 from rfl, u64_or_nat _ _ (by omega) (by decide), Nat.or_comm, nat_join 31 _ _ (by decide) (by omega), Nat.add_comm]

/-- The pattern of the significand sig (64 bits when moved up) with the exponent e, k bits cut off. -/
def rpk (sig : Nat) (e : Int) (k : Nat) : Nat :=
  let S := sig * 2 ^ (64 - bl sig)
  let n := S / 2 ^ k + (if rsB (S / 2 ^ k) (cutR S k) then 1 else 0)
  min 2139095040 ((e + 126).toNat * 8388608 + n)

set_option maxHeartbeats 4000000 in
theorem roundPack_norm (w : World) (neg : Bool) (exp : Int) (sig : Nat) (rl : Int) (h0 : sig ≠ 0) (hs : sig < 18446744073709551616) (hx1 : -2000 ≤ exp) (hx2 : exp ≤ 2000) (hrl : Hid (rl = exp + bl sig - 1)) (hr1 : -126 ≤ rl) (hr2 : rl ≤ 127) :
    Calls Oaig.prog 85 #[.agg #[.int .u8 8, .int .u8 23], .int .u8 0, .bool neg, .int .i16 exp, .int .u64 sig] w fun e w' => ∃ fl : Int, e = .returned (.tuple #[.int .u64 (rpk sig rl 40 + sgn neg : Nat), .int .u8 fl]) ∧ Ext w w' := by
  have g0 : ((sig : Int) == 0) = false := by rw [beq_eq_false_iff_ne]; omega
  have hb1 := bl_pos h0
  have hb2 : bl sig ≤ 64 := bl_le_of_lt (k := 64) hs
  obtain ⟨s1, s2⟩ := sig_up h0 hs
  go_enter Oaig.func85, Oaig.ntmps85
  go_wp2_with fail
  refine (clz_any _ sig h0 hs).mono ?_
  rintro e w' ⟨rfl, rfl⟩
  obtain ⟨ld, hld⟩ : ∃ ld, ld = 64 - bl sig := ⟨_, rfl⟩
  obtain ⟨S, hS⟩ : ∃ S, S = sig * 2 ^ (64 - bl sig) := ⟨_, rfl⟩
  rw [← hS] at s1 s2
  rw [← hld] at hS ⊢
  have hld1 : ld ≤ 63 := by omega
  have hSi : IntKind.u64.wrap ((sig : Int) * 2 ^ ld) = (S : Int) := by
    have e : ((sig : Int) * 2 ^ ld) = ((sig * 2 ^ ld : Nat) : Int) := by simp
    rw [e, IntKind.wrap_u64, hS]; rw [hS] at s2; omega
  have hlr : exp - (ld : Int) + 63 = rl := by have := hrl.out; omega
  have HS : Hid (S = sig * 2 ^ (64 - bl sig)) := by show S = _; rw [hS, hld]
  clear hld hb1 hb2 hS hrl
  go_wp2_with fail
  refine (bias_any _).mono ?_
  rintro e w1 ⟨rfl, hext1⟩
  have hF : Blk w1 w.heap.size #[.int .u8 8, .int .u8 23] := (Blk.new w _ 25).ext hext1
  have a0 := hF.cell (i := 0) rfl
  have a1 := hF.cell (i := 1) rfl
  have hw1 := hext1.of_alloc
  clear hext1
  go_wp2_with fail
  refine (bias_any _).mono ?_
  rintro e w2 ⟨rfl, hext2⟩
  replace hF := hF.ext hext2
  replace a0 := hF.cell (i := 0) rfl
  replace a1 := hF.cell (i := 1) rfl
  replace hw1 := hw1.trans hext2
  clear hext2
  go_wp2_with fail
  refine (cut_ex _ S 40 _ s2 (by omega) (by omega) (by omega) (by omega)).mono ?_
  rintro e w3 ⟨n, R, rfl, hn, hR, hnl, hRl, hext3⟩
  replace hF := hF.ext hext3
  replace a0 := hF.cell (i := 0) rfl
  replace a1 := hF.cell (i := 1) rfl
  replace hw1 := hw1.trans hext3
  clear hext3 hSi s1 s2
  go_wp2_with fail
  refine (raises_any _ neg n R (by omega) hRl).mono ?_
  rintro e w' ⟨rfl, rfl⟩
  obtain ⟨b, hb⟩ : ∃ b, b = rsB n R := ⟨_, rfl⟩
  rw [← hb]
  have Hb : Hid _ := hb
  clear hb
  cases b
  · obtain ⟨X, hX⟩ : ∃ X : Nat, (X : Int) = (rl + 126) * 8388608 + (n : Int) := ⟨((rl + 126) * 8388608 + (n : Int)).toNat, by omega⟩
    have hXi : (rl + 126) * 8388608 + (n : Int) = (X : Int) := hX.symm
    have hXl : X < 2147483648 := by omega
    have hfin : Hid (rpk sig rl 40 = min 2139095040 X) := by
      show rpk sig rl 40 = min 2139095040 X
      unfold rpk; dsimp only; rw [← HS.out, ← hn.out, ← hR.out, ← Hb.out]; simp; omega
    clear hX
    go_wp2_with fail
    refine (inf_false _).mono ?_
    rintro e w4 ⟨rfl, hext4⟩
    replace hF := hF.ext hext4
    replace a0 := hF.cell (i := 0) rfl
    replace a1 := hF.cell (i := 1) rfl
    replace hw1 := hw1.trans hext4
    clear hext4
    by_cases hov : 2139095040 ≤ X
    · have q1 : decide ((2139095040 : Int) ≤ (X : Int)) = true := decide_eq_true (by omega)
      have hval : Hid (min 2139095040 X = 2139095040) := by show min 2139095040 X = 2139095040; omega
      clear hov
      go_wp2_with fail
      refine (overflow_any _ neg).mono ?_
      rintro e w5 ⟨rfl, hext5⟩
      go_wp2
      go_ret2
      exact ⟨_, by rw [hfin.out, hval.out]; rfl, hw1.trans hext5⟩
    · have q1 : decide ((2139095040 : Int) ≤ (X : Int)) = false := decide_eq_false (by omega)
      have hval : Hid (min 2139095040 X = X) := by show min 2139095040 X = X; omega
      have hor := or_sgn hXl neg
      clear hov
      by_cases hr0 : R = 0
      · have q2 : ((R : Int) == 0) = true := by rw [hr0]; rfl
        clear hr0
        go_wp2_with fail
        refine (zero_any _ neg).mono ?_
        rintro e w5 ⟨rfl, hext5⟩
        go_wp2
        go_ret2
        exact ⟨_, by rw [hfin.out, hval.out]; rfl, hw1.trans hext5⟩
      · have q2 : ((R : Int) == 0) = false := by rw [beq_eq_false_iff_ne]; omega
        clear hr0
        go_wp2_with fail
        refine (zero_any _ neg).mono ?_
        rintro e w5 ⟨rfl, hext5⟩
        go_wp2
        go_ret2
        exact ⟨_, by rw [hfin.out, hval.out]; rfl, hw1.trans hext5⟩
  · obtain ⟨X, hX⟩ : ∃ X : Nat, (X : Int) = (rl + 126) * 8388608 + ((n : Int) + 1) := ⟨((rl + 126) * 8388608 + ((n : Int) + 1)).toNat, by omega⟩
    have hXi : (rl + 126) * 8388608 + ((n : Int) + 1) = (X : Int) := hX.symm
    have hXl : X < 2147483648 := by omega
    have hfin : Hid (rpk sig rl 40 = min 2139095040 X) := by
      show rpk sig rl 40 = min 2139095040 X
      unfold rpk; dsimp only; rw [← HS.out, ← hn.out, ← hR.out, ← Hb.out]; simp; omega
    clear hX
    go_wp2_with fail
    refine (inf_false _).mono ?_
    rintro e w4 ⟨rfl, hext4⟩
    replace hF := hF.ext hext4
    replace a0 := hF.cell (i := 0) rfl
    replace a1 := hF.cell (i := 1) rfl
    replace hw1 := hw1.trans hext4
    clear hext4
    by_cases hov : 2139095040 ≤ X
    · have q1 : decide ((2139095040 : Int) ≤ (X : Int)) = true := decide_eq_true (by omega)
      have hval : Hid (min 2139095040 X = 2139095040) := by show min 2139095040 X = 2139095040; omega
      clear hov
      go_wp2_with fail
      refine (overflow_any _ neg).mono ?_
      rintro e w5 ⟨rfl, hext5⟩
      go_wp2
      go_ret2
      exact ⟨_, by rw [hfin.out, hval.out]; rfl, hw1.trans hext5⟩
    · have q1 : decide ((2139095040 : Int) ≤ (X : Int)) = false := decide_eq_false (by omega)
      have hval : Hid (min 2139095040 X = X) := by show min 2139095040 X = X; omega
      have hor := or_sgn hXl neg
      clear hov
      by_cases hr0 : R = 0
      · have q2 : ((R : Int) == 0) = true := by rw [hr0]; rfl
        clear hr0
        go_wp2_with fail
        refine (zero_any _ neg).mono ?_
        rintro e w5 ⟨rfl, hext5⟩
        go_wp2
        go_ret2
        exact ⟨_, by rw [hfin.out, hval.out]; rfl, hw1.trans hext5⟩
      · have q2 : ((R : Int) == 0) = false := by rw [beq_eq_false_iff_ne]; omega
        clear hr0
        go_wp2_with fail
        refine (zero_any _ neg).mono ?_
        rintro e w5 ⟨rfl, hext5⟩
        go_wp2
        go_ret2
        exact ⟨_, by rw [hfin.out, hval.out]; rfl, hw1.trans hext5⟩

set_option maxHeartbeats 4000000 in
theorem roundPack_deep (w : World) (neg : Bool) (exp : Int) (sig : Nat) (rl : Int) (h0 : sig ≠ 0) (hs : sig < 18446744073709551616) (hx1 : -2000 ≤ exp) (hx2 : exp ≤ 2000) (hrl : Hid (rl = exp + bl sig - 1)) (k : Nat) (hk : (k : Int) = -86 - rl) (hr1 : rl < -127) (hr2 : -2100 ≤ rl) :
    Calls Oaig.prog 85 #[.agg #[.int .u8 8, .int .u8 23], .int .u8 0, .bool neg, .int .i16 exp, .int .u64 sig] w fun e w' => ∃ fl : Int, e = .returned (.tuple #[.int .u64 (rpk sig (-126) k + sgn neg : Nat), .int .u8 fl]) ∧ Ext w w' := by
  have g0 : ((sig : Int) == 0) = false := by rw [beq_eq_false_iff_ne]; omega
  have hb1 := bl_pos h0
  have hb2 : bl sig ≤ 64 := bl_le_of_lt (k := 64) hs
  obtain ⟨s1, s2⟩ := sig_up h0 hs
  go_enter Oaig.func85, Oaig.ntmps85
  go_wp2_with fail
  refine (clz_any _ sig h0 hs).mono ?_
  rintro e w' ⟨rfl, rfl⟩
  obtain ⟨ld, hld⟩ : ∃ ld, ld = 64 - bl sig := ⟨_, rfl⟩
  obtain ⟨S, hS⟩ : ∃ S, S = sig * 2 ^ (64 - bl sig) := ⟨_, rfl⟩
  rw [← hS] at s1 s2
  rw [← hld] at hS ⊢
  have hld1 : ld ≤ 63 := by omega
  have hSi : IntKind.u64.wrap ((sig : Int) * 2 ^ ld) = (S : Int) := by
    have e : ((sig : Int) * 2 ^ ld) = ((sig * 2 ^ ld : Nat) : Int) := by simp
    rw [e, IntKind.wrap_u64, hS]; rw [hS] at s2; omega
  have hlr : exp - (ld : Int) + 63 = rl := by have := hrl.out; omega
  have HS : Hid (S = sig * 2 ^ (64 - bl sig)) := by show S = _; rw [hS, hld]
  clear hld hb1 hb2 hS hrl
  go_wp2_with fail
  refine (bias_any _).mono ?_
  rintro e w1 ⟨rfl, hext1⟩
  have hF : Blk w1 w.heap.size #[.int .u8 8, .int .u8 23] := (Blk.new w _ 25).ext hext1
  have a0 := hF.cell (i := 0) rfl
  have a1 := hF.cell (i := 1) rfl
  have hw1 := hext1.of_alloc
  clear hext1
  go_wp2_with fail
  refine (bias_any _).mono ?_
  rintro e w2 ⟨rfl, hext2⟩
  replace hF := hF.ext hext2
  replace a0 := hF.cell (i := 0) rfl
  replace a1 := hF.cell (i := 1) rfl
  replace hw1 := hw1.trans hext2
  clear hext2
  go_wp2_with fail
  refine (cut_ex _ S k _ s2 (by omega) (by omega) (by omega) (by omega)).mono ?_
  rintro e w3 ⟨n, R, rfl, hn, hR, hnl, hRl, hext3⟩
  replace hF := hF.ext hext3
  replace a0 := hF.cell (i := 0) rfl
  replace a1 := hF.cell (i := 1) rfl
  replace hw1 := hw1.trans hext3
  clear hext3 hSi s1 s2
  go_wp2_with fail
  refine (raises_any _ neg n R (by omega) hRl).mono ?_
  rintro e w' ⟨rfl, rfl⟩
  obtain ⟨b, hb⟩ : ∃ b, b = rsB n R := ⟨_, rfl⟩
  rw [← hb]
  have Hb : Hid _ := hb
  clear hb
  cases b
  · obtain ⟨X, hX⟩ : ∃ X : Nat, X = n := ⟨n, rfl⟩
    have hXl : X < 2147483648 := by omega
    have hfin : Hid (rpk sig (-126) k = min 2139095040 X) := by
      show rpk sig (-126) k = min 2139095040 X
      unfold rpk; dsimp only; rw [← HS.out, ← hn.out, ← hR.out, ← Hb.out]; simp; omega
    subst hX
    go_wp2_with fail
    refine (inf_false _).mono ?_
    rintro e w4 ⟨rfl, hext4⟩
    replace hF := hF.ext hext4
    replace a0 := hF.cell (i := 0) rfl
    replace a1 := hF.cell (i := 1) rfl
    replace hw1 := hw1.trans hext4
    clear hext4
    by_cases hov : 2139095040 ≤ X
    · have q1 : decide ((2139095040 : Int) ≤ (X : Int)) = true := decide_eq_true (by omega)
      have hval : Hid (min 2139095040 X = 2139095040) := by show min 2139095040 X = 2139095040; omega
      clear hov
      go_wp2_with fail
      refine (overflow_any _ neg).mono ?_
      rintro e w5 ⟨rfl, hext5⟩
      go_wp2
      go_ret2
      exact ⟨_, by rw [hfin.out, hval.out]; rfl, hw1.trans hext5⟩
    · have q1 : decide ((2139095040 : Int) ≤ (X : Int)) = false := decide_eq_false (by omega)
      have hval : Hid (min 2139095040 X = X) := by show min 2139095040 X = X; omega
      have hor := or_sgn hXl neg
      clear hov
      by_cases hr0 : R = 0
      · have q2 : ((R : Int) == 0) = true := by rw [hr0]; rfl
        clear hr0
        go_wp2_with fail
        refine (zero_any _ neg).mono ?_
        rintro e w5 ⟨rfl, hext5⟩
        go_wp2
        go_ret2
        exact ⟨_, by rw [hfin.out, hval.out]; rfl, hw1.trans hext5⟩
      · have q2 : ((R : Int) == 0) = false := by rw [beq_eq_false_iff_ne]; omega
        clear hr0
        go_wp2_with fail
        refine (zero_any _ neg).mono ?_
        rintro e w5 ⟨rfl, hext5⟩
        go_wp2
        go_ret2
        exact ⟨_, by rw [hfin.out, hval.out]; rfl, hw1.trans hext5⟩
  · obtain ⟨X, hX⟩ : ∃ X : Nat, (X : Int) = (n : Int) + 1 := ⟨n + 1, by omega⟩
    have hXi : (n : Int) + 1 = (X : Int) := hX.symm
    have hXl : X < 2147483648 := by omega
    have hfin : Hid (rpk sig (-126) k = min 2139095040 X) := by
      show rpk sig (-126) k = min 2139095040 X
      unfold rpk; dsimp only; rw [← HS.out, ← hn.out, ← hR.out, ← Hb.out]; simp; omega
    clear hX
    go_wp2_with fail
    refine (inf_false _).mono ?_
    rintro e w4 ⟨rfl, hext4⟩
    replace hF := hF.ext hext4
    replace a0 := hF.cell (i := 0) rfl
    replace a1 := hF.cell (i := 1) rfl
    replace hw1 := hw1.trans hext4
    clear hext4
    by_cases hov : 2139095040 ≤ X
    · have q1 : decide ((2139095040 : Int) ≤ (X : Int)) = true := decide_eq_true (by omega)
      have hval : Hid (min 2139095040 X = 2139095040) := by show min 2139095040 X = 2139095040; omega
      clear hov
      go_wp2_with fail
      refine (overflow_any _ neg).mono ?_
      rintro e w5 ⟨rfl, hext5⟩
      go_wp2
      go_ret2
      exact ⟨_, by rw [hfin.out, hval.out]; rfl, hw1.trans hext5⟩
    · have q1 : decide ((2139095040 : Int) ≤ (X : Int)) = false := decide_eq_false (by omega)
      have hval : Hid (min 2139095040 X = X) := by show min 2139095040 X = X; omega
      have hor := or_sgn hXl neg
      clear hov
      by_cases hr0 : R = 0
      · have q2 : ((R : Int) == 0) = true := by rw [hr0]; rfl
        clear hr0
        go_wp2_with fail
        refine (zero_any _ neg).mono ?_
        rintro e w5 ⟨rfl, hext5⟩
        go_wp2
        go_ret2
        exact ⟨_, by rw [hfin.out, hval.out]; rfl, hw1.trans hext5⟩
      · have q2 : ((R : Int) == 0) = false := by rw [beq_eq_false_iff_ne]; omega
        clear hr0
        go_wp2_with fail
        refine (zero_any _ neg).mono ?_
        rintro e w5 ⟨rfl, hext5⟩
        go_wp2
        go_ret2
        exact ⟨_, by rw [hfin.out, hval.out]; rfl, hw1.trans hext5⟩

end Go.Proofs.Ygcoai
