/-
  Seat gcoai. soft.roundPack (85): just below the normals; and the four ways as one.
-/
import Derived.Test.YgcoaiRound
import Derived.Deep.Cut
namespace Go.Proofs.Ygcoai
open Go.RowKit

set_option maxRecDepth 20000 in
set_option maxHeartbeats 4000000 in
theorem roundPack_edge (w : World) (neg : Bool) (exp : Int) (sig : Nat) (h0 : sig ≠ 0) (hs : sig < 18446744073709551616) (hx1 : -2000 ≤ exp) (hx2 : exp ≤ 2000) (rl : Int) (hrl : Hid (rl = exp + bl sig - 1)) (hrd : rl = -127) (k : Nat) (hk : (k : Int) = -86 - rl) :
    Calls Oaig.prog 85 #[.agg #[.int .u8 8, .int .u8 23], .int .u8 0, .bool neg, .int .i16 exp, .int .u64 sig] w fun e w' => ∃ fl : Int, e = .returned (.tuple #[.int .u64 (rpk sig (-126) k + sgn neg : Nat), .int .u8 fl]) ∧ Ext w w' := by
  have g0 : ((sig : Int) == 0) = false := by rw [beq_eq_false_iff_ne]; omega
  have hb1 := bl_pos h0
  have hb2 : bl sig ≤ 64 := bl_le_of_lt (k := 64) hs
  obtain ⟨s1, s2⟩ := sig_up h0 hs
  have hm : max rl (-126) = -126 := by omega
  have hl1 : rl < -126 := by omega
  have hl2 : (rl == -127) = true := by rw [hrd]; rfl
  have hrb : -200 < rl := by omega
  have hkb : k < 60 := by omega
  clear hrd
  go_enter Oaig.func85, Oaig.ntmps85
  go_wp2_with fail
  refine (clz_any _ sig h0 hs).mono ?_
  rintro e w' ⟨rfl, rfl⟩
  obtain ⟨ld, hld⟩ : ∃ ld, ld = 64 - bl sig := ⟨_, rfl⟩
  obtain ⟨S, hS⟩ : ∃ S, S = sig * 2 ^ (64 - bl sig) := ⟨_, rfl⟩
  rw [← hS] at s1 s2
  rw [← hld] at hS ⊢
  have hld1 : ld ≤ 63 := by omega
  have hSi : IntKind.u64.wrap ((sig : Int) * 2 ^ ld) = (S : Int) := by
    have e : ((sig : Int) * 2 ^ ld) = ((sig * 2 ^ ld : Nat) : Int) := by simp
    rw [e, IntKind.wrap_u64, hS]; rw [hS] at s2; omega
  have hlr : exp - (ld : Int) + 63 = rl := by have := hrl.out; omega
  have HS : Hid (S = sig * 2 ^ (64 - bl sig)) := by show S = _; rw [hS, hld]
  clear hld hb1 hb2 hS hrl
  go_wp2_with fail
  refine (bias_any _).mono ?_
  rintro e w1 ⟨rfl, hext1⟩
  have hF : Blk w1 w.heap.size #[.int .u8 8, .int .u8 23] := (Blk.new w _ 25).ext hext1
  have a0 := hF.cell (i := 0) rfl
  have a1 := hF.cell (i := 1) rfl
  have hw1 := hext1.of_alloc
  clear hext1
  go_wp2_with fail
  refine (bias_any _).mono ?_
  rintro e w2 ⟨rfl, hext2⟩
  replace hF := hF.ext hext2
  replace a0 := hF.cell (i := 0) rfl
  replace a1 := hF.cell (i := 1) rfl
  replace hw1 := hw1.trans hext2
  clear hext2
  go_upto_if 64 with fail
  go_cut [17] from 65 (fun t wc => ∃ tb, t = .bool tb ∧ Ext w wc ∧ Blk wc w.heap.size #[.int .u8 8, .int .u8 23])
  case first =>
    go_wp2_with fail
    refine (cut_ex _ S 40 _ s2 (by omega) (by omega) (by omega) (by omega)).mono ?_
    rintro e w3 ⟨n, R, rfl, hn, hR, hnl, hRl, hext3⟩
    replace hF := hF.ext hext3
    replace a0 := hF.cell (i := 0) rfl
    replace a1 := hF.cell (i := 1) rfl
    replace hw1 := hw1.trans hext3
    go_wp2_with fail
    refine (raises_any _ neg n R (by omega) hRl).mono ?_
    rintro e w' ⟨rfl, rfl⟩
    obtain ⟨b, hb⟩ : ∃ b, b = rsB n R := ⟨_, rfl⟩
    rw [← hb]
    clear hb
    cases b
    · go_wp2_with fail
      go_meet
      case rel => exact ⟨_, rfl, hw1, hF⟩
    · by_cases hne : n = 16777215
      · have hn1 : ((n : Int) != 16777215) = false := by rw [hne]; rfl
        clear hne
        go_wp2_with fail
        go_meet
        case rel => exact ⟨_, rfl, hw1, hF⟩
      · have hn1 : ((n : Int) != 16777215) = true := by rw [bne_iff_ne]; omega
        clear hne
        go_wp2_with fail
        go_meet
        case rel => exact ⟨_, rfl, hw1, hF⟩
  clear hF a0 a1 hw1
  obtain ⟨tb, rfl, hw1, hF⟩ := hcut
  have a0 := hF.cell (i := 0) rfl
  have a1 := hF.cell (i := 1) rfl
  go_wp2_with fail
  refine (cut_ex _ S k _ s2 (by omega) (by omega) (by omega) (by omega)).mono ?_
  rintro e w3 ⟨n, R, rfl, hn, hR, hnl, hRl, hext3⟩
  replace hF := hF.ext hext3
  replace a0 := hF.cell (i := 0) rfl
  replace a1 := hF.cell (i := 1) rfl
  replace hw1 := hw1.trans hext3
  clear hext3 hSi s1 s2
  go_wp2_with fail
  refine (raises_any _ neg n R (by omega) hRl).mono ?_
  rintro e w' ⟨rfl, rfl⟩
  obtain ⟨b, hb⟩ : ∃ b, b = rsB n R := ⟨_, rfl⟩
  rw [← hb]
  have Hb : Hid _ := hb
  clear hb
  cases b
  · obtain ⟨X, hX⟩ : ∃ X : Nat, X = n := ⟨n, rfl⟩
    have hXl : X < 2147483648 := by omega
    have hfin : Hid (rpk sig (-126) k = min 2139095040 X) := by
      show rpk sig (-126) k = min 2139095040 X
      unfold rpk; dsimp only; rw [← HS.out, ← hn.out, ← hR.out, ← Hb.out]; simp; omega
    subst hX
    go_wp2_with fail
    refine (inf_false _).mono ?_
    rintro e w4 ⟨rfl, hext4⟩
    replace hF := hF.ext hext4
    replace a0 := hF.cell (i := 0) rfl
    replace a1 := hF.cell (i := 1) rfl
    replace hw1 := hw1.trans hext4
    clear hext4
    by_cases hov : 2139095040 ≤ X
    · have q1 : decide ((2139095040 : Int) ≤ (X : Int)) = true := decide_eq_true (by omega)
      have hval : Hid (min 2139095040 X = 2139095040) := by show min 2139095040 X = 2139095040; omega
      clear hov
      go_wp2_with fail
      refine (overflow_any _ neg).mono ?_
      rintro e w5 ⟨rfl, hext5⟩
      go_wp2
      go_ret2
      exact ⟨_, by rw [hfin.out, hval.out]; rfl, hw1.trans hext5⟩
    · have q1 : decide ((2139095040 : Int) ≤ (X : Int)) = false := decide_eq_false (by omega)
      have hval : Hid (min 2139095040 X = X) := by show min 2139095040 X = X; omega
      have hor := or_sgn hXl neg
      clear hov
      by_cases hr0 : R = 0
      · have q2 : ((R : Int) == 0) = true := by rw [hr0]; rfl
        clear hr0
        go_wp2_with fail
        refine (zero_any _ neg).mono ?_
        rintro e w5 ⟨rfl, hext5⟩
        go_wp2
        go_ret2
        exact ⟨_, by rw [hfin.out, hval.out]; rfl, hw1.trans hext5⟩
      · have q2 : ((R : Int) == 0) = false := by rw [beq_eq_false_iff_ne]; omega
        clear hr0
        cases tb
        · go_wp2_with fail
          refine (zero_any _ neg).mono ?_
          rintro e w5 ⟨rfl, hext5⟩
          go_wp2
          go_ret2
          exact ⟨_, by rw [hfin.out, hval.out]; rfl, hw1.trans hext5⟩
        · go_wp2_with fail
          refine (zero_any _ neg).mono ?_
          rintro e w5 ⟨rfl, hext5⟩
          go_wp2
          go_ret2
          exact ⟨_, by rw [hfin.out, hval.out]; rfl, hw1.trans hext5⟩
  · obtain ⟨X, hX⟩ : ∃ X : Nat, (X : Int) = (n : Int) + 1 := ⟨n + 1, by omega⟩
    have hXi : (n : Int) + 1 = (X : Int) := hX.symm
    have hXl : X < 2147483648 := by omega
    have hfin : Hid (rpk sig (-126) k = min 2139095040 X) := by
      show rpk sig (-126) k = min 2139095040 X
      unfold rpk; dsimp only; rw [← HS.out, ← hn.out, ← hR.out, ← Hb.out]; simp; omega
    clear hX
    go_wp2_with fail
    refine (inf_false _).mono ?_
    rintro e w4 ⟨rfl, hext4⟩
    replace hF := hF.ext hext4
    replace a0 := hF.cell (i := 0) rfl
    replace a1 := hF.cell (i := 1) rfl
    replace hw1 := hw1.trans hext4
    clear hext4
    by_cases hov : 2139095040 ≤ X
    · have q1 : decide ((2139095040 : Int) ≤ (X : Int)) = true := decide_eq_true (by omega)
      have hval : Hid (min 2139095040 X = 2139095040) := by show min 2139095040 X = 2139095040; omega
      clear hov
      go_wp2_with fail
      refine (overflow_any _ neg).mono ?_
      rintro e w5 ⟨rfl, hext5⟩
      go_wp2
      go_ret2
      exact ⟨_, by rw [hfin.out, hval.out]; rfl, hw1.trans hext5⟩
    · have q1 : decide ((2139095040 : Int) ≤ (X : Int)) = false := decide_eq_false (by omega)
      have hval : Hid (min 2139095040 X = X) := by show min 2139095040 X = X; omega
      have hor := or_sgn hXl neg
      clear hov
      by_cases hr0 : R = 0
      · have q2 : ((R : Int) == 0) = true := by rw [hr0]; rfl
        clear hr0
        go_wp2_with fail
        refine (zero_any _ neg).mono ?_
        rintro e w5 ⟨rfl, hext5⟩
        go_wp2
        go_ret2
        exact ⟨_, by rw [hfin.out, hval.out]; rfl, hw1.trans hext5⟩
      · have q2 : ((R : Int) == 0) = false := by rw [beq_eq_false_iff_ne]; omega
        clear hr0
        cases tb
        · go_wp2_with fail
          refine (zero_any _ neg).mono ?_
          rintro e w5 ⟨rfl, hext5⟩
          go_wp2
          go_ret2
          exact ⟨_, by rw [hfin.out, hval.out]; rfl, hw1.trans hext5⟩
        · go_wp2_with fail
          refine (zero_any _ neg).mono ?_
          rintro e w5 ⟨rfl, hext5⟩
          go_wp2
          go_ret2
          exact ⟨_, by rw [hfin.out, hval.out]; rfl, hw1.trans hext5⟩

/-- What roundPack answers, without the sign. -/
def rp (exp : Int) (sig : Nat) : Nat :=
  let rl := exp + bl sig - 1
  if 127 < rl then 2139095040 else rpk sig (max rl (-126)) (40 + max rl (-126) - rl).toNat

theorem roundPack_any (w : World) (neg : Bool) (exp : Int) (sig : Nat) (h0 : sig ≠ 0) (hs : sig < 18446744073709551616) (hx1 : -2000 ≤ exp) (hx2 : exp ≤ 2000) :
    Calls Oaig.prog 85 #[.agg #[.int .u8 8, .int .u8 23], .int .u8 0, .bool neg, .int .i16 exp, .int .u64 sig] w fun e w' => ∃ fl : Int, e = .returned (.tuple #[.int .u64 (rp exp sig + sgn neg : Nat), .int .u8 fl]) ∧ Ext w w' := by
  have hb1 := bl_pos h0
  have hb2 : bl sig ≤ 64 := bl_le_of_lt (k := 64) hs
  obtain ⟨rl, hrl⟩ : ∃ rl : Int, rl = exp + bl sig - 1 := ⟨_, rfl⟩
  by_cases h1 : 127 < rl
  · have : rp exp sig = 2139095040 := by unfold rp; dsimp only; rw [← hrl, if_pos h1]
    rw [this]; exact roundPack_big w neg exp sig h0 hs hx1 hx2 (by omega)
  · by_cases h2 : -126 ≤ rl
    · have : rp exp sig = rpk sig rl 40 := by
        unfold rp; dsimp only; rw [← hrl, if_neg h1, show max rl (-126) = rl by omega, show (40 + rl - rl).toNat = 40 by omega]
      rw [this]; exact roundPack_norm w neg exp sig rl h0 hs hx1 hx2 hrl h2 (by omega)
    · obtain ⟨k, hk⟩ : ∃ k : Nat, (k : Int) = -86 - rl := ⟨(-86 - rl).toNat, by omega⟩
      have : rp exp sig = rpk sig (-126) k := by
        unfold rp; dsimp only; rw [← hrl, if_neg h1, show max rl (-126) = -126 by omega, show (40 + -126 - rl).toNat = k by omega]
      rw [this]
      by_cases h3 : rl = -127
      · exact roundPack_edge w neg exp sig h0 hs hx1 hx2 rl hrl h3 k hk
      · exact roundPack_deep w neg exp sig rl h0 hs hx1 hx2 hrl k hk (by omega) (by omega)

end Go.Proofs.Ygcoai
