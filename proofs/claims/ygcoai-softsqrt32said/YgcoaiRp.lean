/-
  Seat gcoai. soft.zero (78), soft.cut (126), soft.raises (127), soft.overflow (125), soft.heard (80) at Binary32, NearestEven.
-/
import Derived.Test.YgcoaiSignals
import Derived.BigQuiet
namespace Go.Proofs.Ygcoai
open Go.RowKit

theorem zero_any (w : World) (neg : Bool) : Calls Oaig.prog 78 #[.agg #[.int .u8 8, .int .u8 23], .bool neg] w fun e w' => e = .returned (.int .u64 (sgn neg : Nat)) ∧ Ext w w' := by
  cases neg
  · go_enter Oaig.func78, Oaig.ntmps78
    go_wp2
    go_ret
    exact ⟨rfl, (Ext.refl w).alloc _ _⟩
  · go_enter Oaig.func78, Oaig.ntmps78
    go_wp2_with fail
    refine (signBit_any _).mono ?_
    rintro e w1 ⟨rfl, hext1⟩
    go_wp2
    go_ret
    exact ⟨rfl, hext1.of_alloc⟩

theorem overflow_any (w : World) (neg : Bool) : Calls Oaig.prog 125 #[.agg #[.int .u8 8, .int .u8 23], .int .u8 0, .bool neg] w fun e w' => e = .returned (.tuple #[.int .u64 (2139095040 + sgn neg : Nat), .int .u8 20]) ∧ Ext w w' := by
  go_enter Oaig.func125, Oaig.ntmps125
  go_wp2_with fail
  refine (inf_any _ neg).mono ?_
  rintro e w1 ⟨rfl, hext1⟩
  go_wp2
  go_ret2
  exact ⟨rfl, hext1.of_alloc⟩

/-- Whether the floor n goes up for what was cut off (a fraction of 2^64). -/
def rsB (n rest : Nat) : Bool := decide (9223372036854775808 < rest) || (decide (rest = 9223372036854775808) && decide (n % 2 = 1))

set_option maxHeartbeats 1000000 in
theorem raises_any (w : World) (neg : Bool) (n rest : Nat) (hn : n < 18446744073709551616) (hr : rest < 18446744073709551616) :
    Calls Oaig.prog 127 #[.int .u8 0, .bool neg, .int .u64 n, .int .u64 rest] w fun e w' => e = .returned (.bool (rsB n rest)) ∧ w = w' := by
  rcases Nat.lt_trichotomy 9223372036854775808 rest with h | h | h
  · have g1 : decide ((9223372036854775808 : Int) < (rest : Int)) = true := decide_eq_true (by omega)
    have hb : rsB n rest = true := by unfold rsB; rw [decide_eq_true h]; rfl
    clear h
    go_enter Oaig.func127, Oaig.ntmps127
    go_wp2
    go_ret
    exact ⟨ret_bool hb.symm, rfl⟩
  · subst h
    have g3 : (bits BinOp.and IntKind.u64 (n : Int) 1 == 1) = decide (n % 2 = 1) := by
      rw [show (1 : Int) = ((1 : Nat) : Int) from rfl, u64_and_nat _ _ hn (by decide), nat_mask1]
      by_cases h : n % 2 = 1
      · rw [h]; rfl
      · rw [show n % 2 = 0 from by omega]; rfl
    have hb : rsB n 9223372036854775808 = decide (n % 2 = 1) := by unfold rsB; simp
    go_enter Oaig.func127, Oaig.ntmps127
    go_wp2
    go_ret
    exact ⟨ret_bool hb.symm, rfl⟩
  · have g1 : decide ((9223372036854775808 : Int) < (rest : Int)) = false := decide_eq_false (by omega)
    have g2 : ((rest : Int) == 9223372036854775808) = false := by rw [beq_eq_false_iff_ne]; omega
    have hb : rsB n rest = false := by unfold rsB; rw [decide_eq_false (by omega), decide_eq_false (by omega)]; rfl
    clear h
    go_enter Oaig.func127, Oaig.ntmps127
    go_wp2
    go_ret
    exact ⟨ret_bool hb.symm, rfl⟩

/-- The part of s / 2^k below the floor, as a fraction of 2^64; its lowest bit stands for all that lies deeper. -/
def cutR (s k : Nat) : Nat := if k ≤ 64 then s * 2 ^ (64 - k) % 18446744073709551616 else 1

set_option maxHeartbeats 1000000 in
theorem cut_low (w : World) (s k : Nat) (_hs : s < 18446744073709551616) (h1 : 1 ≤ k) (h2 : k ≤ 64) :
    Calls Oaig.prog 126 #[.int .u64 s, .int .i16 k] w fun e w' => e = .returned (.tuple #[.int .u64 (s / 2 ^ k : Nat), .int .u64 (cutR s k : Nat)]) ∧ Ext w w' := by
  have g1 : ((k : Int) == 0) = false := by rw [beq_eq_false_iff_ne]; omega
  have hc : cutR s k = s * 2 ^ (64 - k) % 18446744073709551616 := by unfold cutR; rw [if_pos h2]
  go_enter Oaig.func126, Oaig.ntmps126
  go_wp2_with fail
  go_quiet (fail)
  go_wp2
  go_ret2
  have e1 : ((s : Int) / 2 ^ k) = ((s / 2 ^ k : Nat) : Int) := by simp
  have e2 : IntKind.u64.wrap ((s : Int) * 2 ^ (64 - k)) = ((cutR s k : Nat) : Int) := by
    have e : ((s : Int) * 2 ^ (64 - k)) = ((s * 2 ^ (64 - k) : Nat) : Int) := by simp
    rw [e, IntKind.wrap_u64, hc]; omega
  refine ⟨?_, (Ext.refl w).drewN _⟩
  rw [← e1, ← e2]; rfl

theorem cut_deep (w : World) (s k : Nat) (hs : s < 18446744073709551616) (h0 : s ≠ 0) (h1 : 64 < k) (h2 : k ≤ 30000) :
    Calls Oaig.prog 126 #[.int .u64 s, .int .i16 k] w fun e w' => e = .returned (.tuple #[.int .u64 (s / 2 ^ k : Nat), .int .u64 (cutR s k : Nat)]) ∧ Ext w w' := by
  have g1 : ((k : Int) == 0) = false := by rw [beq_eq_false_iff_ne]; omega
  have g2 : ((s : Int) == 0) = false := by rw [beq_eq_false_iff_ne]; omega
  have hc : cutR s k = 1 := by unfold cutR; rw [if_neg (by omega)]
  have hd : s / 2 ^ k = 0 := by
    apply Nat.div_eq_of_lt
    have : 2 ^ 64 ≤ 2 ^ k := Nat.pow_le_pow_right (by decide) (by omega)
    omega
  rw [hc, hd]
  clear hc hd
  go_enter Oaig.func126, Oaig.ntmps126
  go_wp2
  go_ret2
  exact ⟨rfl, Ext.refl w⟩

/-- soft.cut. -/
theorem cut_any (w : World) (s k : Nat) (hs : s < 18446744073709551616) (h0 : s ≠ 0) (h1 : 1 ≤ k) (h2 : k ≤ 30000) :
    Calls Oaig.prog 126 #[.int .u64 s, .int .i16 k] w fun e w' => e = .returned (.tuple #[.int .u64 (s / 2 ^ k : Nat), .int .u64 (cutR s k : Nat)]) ∧ Ext w w' := by
  rcases Nat.lt_or_ge 64 k with h | h
  · exact cut_deep w s k hs h0 h h2
  · exact cut_low w s k hs h1 h

set_option maxHeartbeats 1000000 in
theorem heard_any (w : World) (x y : Nat) (hx : x < 4294967296) (hy : y < 4294967296) :
    Calls Oaig.prog 80 #[.agg #[.int .u8 8, .int .u8 23], .int .u64 x, .int .u64 y] w fun e w' => ∃ fl : Int, e = .returned (.int .u8 fl) ∧ Ext w w' := by
  go_enter Oaig.func80, Oaig.ntmps80
  go_wp2_with fail
  refine (signals_any _ x hx).mono ?_
  rintro e w1 ⟨b, rfl, hext1⟩
  have hF : Blk w1 w.heap.size #[.int .u8 8, .int .u8 23] := (Blk.new w _ 25).ext hext1
  have a0 := hF.cell (i := 0) rfl
  have a1 := hF.cell (i := 1) rfl
  cases b
  · go_wp2_with fail
    refine (signals_any _ y hy).mono ?_
    rintro e w2 ⟨b, rfl, hext2⟩
    cases b
    · go_wp2
      go_ret
      exact ⟨_, rfl, hext1.of_alloc.trans hext2⟩
    · go_wp2
      go_ret
      exact ⟨_, rfl, hext1.of_alloc.trans hext2⟩
  · go_wp2
    go_ret
    exact ⟨_, rfl, hext1.of_alloc⟩

end Go.Proofs.Ygcoai
