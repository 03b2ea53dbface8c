/-
  Seat gcoai. wide.Sqrt (84) of a word times 2^64.
-/
import Derived.Test.YgcoaiWRoot
import Derived.Deep.RegionHeld3
import Derived.BigQuiet
namespace Go.Proofs.Ygcoai
open Go.RowKit

theorem clz_even {H : Nat} (h1 : 4611686018427387904 ≤ H) (h2 : H < 18446744073709551616) : 64 - bl H = 0 ∨ 64 - bl H = 1 := by
  rcases Nat.lt_or_ge (bl H) 63 with h | h
  · have h3 := bl_lt H
    have h4 : 2 ^ bl H ≤ 2 ^ 62 := Nat.pow_le_pow_right (by decide) (by omega)
    omega
  · omega

/-- What wide.Sqrt answers at soft.Sqrt's operands. -/
def SqrtOut (H s : Nat) (b : Bool) : Prop := IsRoot s (H * 18446744073709551616) ∧ b = decide (s * s = H * 18446744073709551616) ∧ 9223372036854775808 ≤ s ∧ s < 18446744073709551616

theorem root_bd {s x k : Nat} (h : IsRoot s x) (hl : 2 ^ (2 * k) ≤ x) (hu : x < 2 ^ (2 * (k + 1))) : 2 ^ k ≤ s ∧ s < 2 ^ (k + 1) := by
  have e1 : 2 ^ (2 * k) = 2 ^ k * 2 ^ k := by rw [← Nat.pow_add]; congr 1; omega
  have e2 : 2 ^ (2 * (k + 1)) = 2 ^ (k + 1) * 2 ^ (k + 1) := by rw [← Nat.pow_add]; congr 1; omega
  refine ⟨?_, ?_⟩
  · rcases Nat.lt_or_ge s (2 ^ k) with hs | hs
    · exfalso
      have := Nat.mul_le_mul (show s + 1 ≤ 2 ^ k from hs) (show s + 1 ≤ 2 ^ k from hs)
      have := h.2; omega
    · exact hs
  · rcases Nat.lt_or_ge s (2 ^ (k + 1)) with hs | hs
    · exact hs
    · exfalso
      have := Nat.mul_le_mul hs hs
      have := h.1; omega

set_option maxRecDepth 20000 in
set_option maxHeartbeats 8000000 in
theorem wsqrt_any (w : World) (H : Nat) (h1 : 4611686018427387904 ≤ H) (h2 : H < 18446744073709551616) :
    Calls Oaig.prog 84 #[.agg #[.int .u64 (H : Int), .int .u64 0]] w fun e w' => ∃ (s : Nat) (b : Bool), e = .returned (.tuple #[.int .u64 s, .bool b]) ∧ SqrtOut H s b ∧ Ext w w' := by
  have f0 : ((H : Int) == 0) = false := by rw [beq_eq_false_iff_ne]; omega
  obtain ⟨z, hz⟩ : ∃ z, z = 64 - bl H := ⟨_, rfl⟩
  have hz2 := clz_even h1 h2
  rw [← hz] at hz2
  have hClz := fun w => clz_any w H (by omega) h2
  rw [← hz] at hClz
  have f1 : bits BinOp.andNot IntKind.u8 (z : Int) 1 = 0 := by
    rcases hz2 with h | h <;> rw [h] <;> rfl
  have hShl := fun w => wshl_any w H 0 0 (by decide) (by decide) (by omega)
  have e1 : (H * 18446744073709551616 + 0) * 2 ^ 0 / 18446744073709551616 = H := by rw [Nat.pow_zero, Nat.mul_one]; omega
  have e2 : (H * 18446744073709551616 + 0) * 2 ^ 0 % 18446744073709551616 = 0 := by rw [Nat.pow_zero, Nat.mul_one]; omega
  rw [e1, e2] at hShl
  have hRoot := fun w => root_any w H h1 h2
  replace hClz : Hid _ := hClz
  replace hShl : Hid _ := hShl
  replace hRoot : Hid _ := hRoot
  replace h1 : Hid _ := h1
  replace h2 : Hid _ := h2
  clear e1 e2 hz hz2
  go_enter Oaig.func84, Oaig.ntmps84
  go_wp2_with fail
  refine Calls.mono (hClz.out _) ?_
  rintro e w' ⟨rfl, rfl⟩
  go_wp2_with fail
  refine Calls.mono (hShl.out _) ?_
  rintro e w1 ⟨rfl, hext1⟩
  have hwx := hext1.of_alloc
  have hP : Blk w1 w.heap.size #[.int .u64 (H : Int), .int .u64 0] := Blk.one hext1
  clear hext1
  go_wp2_with fail
  refine Calls.mono (hRoot.out _) ?_
  rintro e w2 ⟨hi, rfl, hr, hext2⟩
  have hN : Blk w2 w1.heap.size #[.int .u64 (H : Int), .int .u64 0] := Blk.one hext2
  replace hP := hP.ext hext2.of_alloc
  replace hwx := hwx.trans hext2.of_alloc
  clear hext2
  have h1 := h1.out
  have h2 := h2.out
  obtain ⟨hb1, hb2⟩ := root_bd (k := 31) hr (Nat.le_trans (by decide) h1) (Nat.lt_of_lt_of_le h2 (by decide))
  replace hb1 : 2147483648 ≤ hi := hb1
  replace hb2 : hi < 4294967296 := hb2
  have hr1 := hr.1
  have hr2 := hr.2
  have er : (hi + 1) * (hi + 1) = hi * hi + 2 * hi + 1 := by grind
  obtain ⟨R0, hR0⟩ : ∃ y, y = H - hi * hi := ⟨_, rfl⟩
  rw [← hR0]
  have hR1 : R0 + hi * hi = H := by omega
  have hR2 : R0 ≤ 2 * hi := by omega
  obtain ⟨RH, hRH⟩ : ∃ y, y = R0 / 4294967296 := ⟨_, rfl⟩
  obtain ⟨RL, hRL⟩ : ∃ y, y = R0 % 4294967296 * 4294967296 := ⟨_, rfl⟩
  have hRLl : RL < 18446744073709551616 := by omega
  obtain ⟨D2, hD2⟩ : ∃ y, y = 2 * hi := ⟨_, rfl⟩
  obtain ⟨SB, hSB⟩ : ∃ y, y = hi * 4294967296 := ⟨_, rfl⟩
  obtain ⟨low, hlow⟩ : ∃ y, y = (R0 * 4294967296 + 0) / (2 * hi) := ⟨_, rfl⟩
  have hbl : bl D2 + 31 = 64 := by
    have : bl D2 = 33 := bl_unique (by decide) (Nat.le_trans (by decide : 2 ^ (33 - 1) ≤ 4294967296) (by omega)) (Nat.lt_of_lt_of_le (show D2 < 8589934592 by omega) (by decide))
    omega
  have hDiv := fun w => wdiv_any w RH RL D2 31 hi hbl (by rw [hD2, Nat.mul_right_comm, Nat.mul_comm _ hi]) (by omega) hRLl (by omega)
  have eY : RH * 18446744073709551616 + RL = R0 * 4294967296 + 0 := by omega
  rw [eY, hD2, ← hlow, ← hD2] at hDiv
  obtain ⟨md, hmd⟩ : ∃ y, y = (R0 * 4294967296 + 0) % D2 := ⟨_, rfl⟩
  rw [← hmd] at hDiv
  have b1 : (R0 : Int) / 4294967296 = (RH : Int) := by omega
  have b2 : IntKind.u64.wrap ((R0 : Int) * 4294967296) = (RL : Int) := by
    have e : R0 * 4294967296 % 18446744073709551616 = RL := by rw [hRL]; exact Nat.mul_mod_mul_right 4294967296 R0 4294967296
    rw [IntKind.wrap_u64, ← e]; simp
  have b3 : bits BinOp.or IntKind.u64 (RL : Int) 0 = (RL : Int) := by
    rw [show (0 : Int) = ((0 : Nat) : Int) from rfl, u64_or_nat _ _ (by omega) (by decide), Nat.or_zero]
  have b4 : IntKind.u64.wrap (2 * (hi : Int)) = (D2 : Int) := by rw [IntKind.wrap_u64]; omega
  have b5 : IntKind.u64.wrap ((hi : Int) * 4294967296) = (SB : Int) := by rw [IntKind.wrap_u64]; omega
  have hlb : low ≤ 4294967296 := by rw [hlow]; exact Nat.div_le_of_le_mul (by omega)
  have wl : IntKind.u64.wrap (low : Int) = (low : Int) := by rw [IntKind.wrap_u64]; omega
  obtain ⟨V, hV⟩ : ∃ y, y = H * 18446744073709551616 := ⟨_, rfl⟩
  have hxx : V = (H * 4294967296 + 0) * 4294967296 + 0 := by rw [hV, Nat.add_zero, Nat.add_zero, Nat.mul_assoc]
  have n0 := hN.cell (i := 0) rfl
  have n1 := hN.cell (i := 1) rfl
  replace hDiv : Hid _ := hDiv
  clear eY hmd er hbl hRH hRL
  by_cases hll : low ≤ 4294967295
  · have m1 : min (low : Int) 4294967295 = (low : Int) := by omega
    have hlX : low ≤ 4294967295 := hll
    obtain ⟨r, hrr⟩ : ∃ y, y = hi * 4294967296 + low := ⟨_, rfl⟩
    have hrl : r < 18446744073709551616 := by omega
    have a10 : bits BinOp.or IntKind.u64 (SB : Int) (low : Int) = (r : Int) := by
      rw [u64_or_nat _ _ (by omega) (by omega), nat_join 32 _ _ (show SB % 4294967296 = 0 by omega) (show low < 4294967296 by omega), hrr, hSB]
    have hz := zim (B := 4294967296) (c := low) (by decide) hR1 hr2 (by omega) (by decide) (by decide) hxx (by rw [← hlow]; omega)
    rw [← hrr] at hz
    have hM := fun w => mul64_any w r r hrl hrl
    have hC := fun w => wcmp_any w (r * r / 18446744073709551616) (r * r % 18446744073709551616) H 0 (Nat.mod_lt _ (by decide)) (by decide)
    have eR : r * r / 18446744073709551616 * 18446744073709551616 + r * r % 18446744073709551616 = r * r := by rw [Nat.mul_comm]; exact Nat.div_add_mod _ _
    rw [eR, Nat.add_zero, ← hV] at hC
    obtain ⟨RR, hRR⟩ : ∃ y, y = r * r := ⟨_, rfl⟩
    rw [← hRR] at hM hC hz
    obtain ⟨MA, hMA⟩ : ∃ y, y = RR / 18446744073709551616 := ⟨_, rfl⟩
    obtain ⟨MB, hMB⟩ : ∃ y, y = RR % 18446744073709551616 := ⟨_, rfl⟩
    rw [← hMA, ← hMB] at hM hC
    obtain ⟨cc, hcc⟩ : ∃ y, y = cmpI RR V := ⟨_, rfl⟩
    rw [← hcc] at hC
    replace hM : Hid _ := hM
    replace hC : Hid _ := hC
    clear eR
    by_cases hg : V < RR
    · have cg : 0 < cc := by rw [hcc, cmpI_gt hg]; decide
      have a12 : decide ((0 : Int) < cc) = true := decide_eq_true cg
      rw [if_pos hg] at hz
      have hr0 : r ≠ 0 := by intro h; rw [h] at hRR; omega
      obtain ⟨q, hq⟩ : ∃ y, y = r - 1 := ⟨_, rfl⟩
      rw [← hq] at hz
      have a13 : IntKind.u64.wrap ((r : Int) - 1) = (q : Int) := by rw [IntKind.wrap_u64]; omega
      have hql : q < 18446744073709551616 := by omega
      clear hq hr0
      obtain ⟨z1, z2⟩ := root_bd (k := 63) hz (Nat.le_trans (by decide : 2 ^ (2 * 63) ≤ 4611686018427387904 * 18446744073709551616) (by omega)) (Nat.lt_of_lt_of_le (show V < 340282366920938463463374607431768211456 by omega) (by decide))
      have hM2 := fun w => mul64_any w q q hql hql
      obtain ⟨QQ, hQQ⟩ : ∃ y, y = q * q := ⟨_, rfl⟩
      rw [← hQQ] at hM2
      obtain ⟨QA, hQA⟩ : ∃ y, y = QQ / 18446744073709551616 := ⟨_, rfl⟩
      obtain ⟨QB, hQB⟩ : ∃ y, y = QQ % 18446744073709551616 := ⟨_, rfl⟩
      rw [← hQA, ← hQB] at hM2
      replace hM2 : Hid _ := hM2
      have hne : (QA = H ∧ QB = 0 ∧ QQ = V) ∨ (((QA : Int) == (H : Int)) = false ∧ QQ ≠ V) ∨ (QA = H ∧ ((QB : Int) == 0) = false ∧ QQ ≠ V) := by
        by_cases i1 : QA = H
        · by_cases i2 : QB = 0
          · exact Or.inl ⟨i1, i2, by omega⟩
          · exact Or.inr (Or.inr ⟨i1, by rw [beq_eq_false_iff_ne]; omega, by omega⟩)
        · exact Or.inr (Or.inl ⟨by rw [beq_eq_false_iff_ne]; omega, by omega⟩)
      have hout : Hid (∀ b, b = decide (QQ = V) → SqrtOut H q b) := by
        intro b hb
        refine ⟨by rw [← hV]; exact hz, by rw [hb, hV, hQQ], z1, z2⟩
      rcases hne with ⟨rfl, rfl, hE⟩ | ⟨hE1, hE⟩ | ⟨rfl, hE1, hE⟩
      · have ho : Hid _ := hout.out true (decide_eq_true hE).symm
        clear hout hE hR1 hR2 hD2 hSB hlow hlb hxx hll hV hr hr1 hr2 hR0 hb1 hb2 z1 z2 hQQ hQA hQB hRR hMA hMB hcc cg hz hrr hrl hg hql hRLl h1 h2
        go_wp2_with fail
        refine Calls.mono (hDiv.out _) ?_
        rintro e w3 ⟨rfl, hext3⟩
        replace hN := hN.ext hext3
        replace hP := hP.ext hext3
        replace hwx := hwx.trans hext3
        clear hext3 n0 n1
        have d0 : ∀ w', Ext w3 w' → w'.cell? ⟨w1.heap.size, 0, none⟩ = some (.int .u64 (QA : Int)) := fun w' h => (hN.ext h).cell rfl
        have d1 : ∀ w', Ext w3 w' → w'.cell? ⟨w1.heap.size, 1, none⟩ = some (.int .u64 0) := fun w' h => (hN.ext h).cell rfl
        go_wp2_with fail
        go_region_held3 (fun w' => Ext w3 w') ((focus ((repeat (first | with_reducible assumption | with_reducible exact Ext.refl _ | with_reducible refine Ext.drew ?_ | with_reducible refine Ext.alloc ?_ _ _ | with_reducible refine Ext.setCell ?_ ?_ _ | with_reducible exact Nat.le_refl _ | (dsimp only; omega) | (simp only [World.size_alloc]; omega))); done))) (first
          | (go_at_call 102; refine Calls.mono (hM.out _) ?_; rintro e w4 ⟨rfl, hext4⟩; have hq4 : Ext w3 w4 := Ext.trans (by (focus ((repeat (first | with_reducible assumption | with_reducible exact Ext.refl _ | with_reducible refine Ext.drew ?_ | with_reducible refine Ext.alloc ?_ _ _ | with_reducible refine Ext.setCell ?_ ?_ _ | with_reducible exact Nat.le_refl _ | (dsimp only; omega) | (simp only [World.size_alloc]; omega))); done))) hext4)
          | (go_at_call 124; refine Calls.mono (hC.out _) ?_; rintro e w5 ⟨rfl, hext5⟩; have hq5 : Ext w3 w5 := Ext.trans (by (focus ((repeat (first | with_reducible assumption | with_reducible exact Ext.refl _ | with_reducible refine Ext.drew ?_ | with_reducible refine Ext.alloc ?_ _ _ | with_reducible refine Ext.setCell ?_ ?_ _ | with_reducible exact Nat.le_refl _ | (dsimp only; omega) | (simp only [World.size_alloc]; omega))); done))) hext5))
        all_goals (
          clear d0 d1
          replace hP := hP.ext hq5
          have d0 : ∀ w', Ext w5 w' → w'.cell? ⟨w.heap.size, 0, none⟩ = some (.int .u64 (QA : Int)) := fun w' h => (hP.ext h).cell rfl
          have d1 : ∀ w', Ext w5 w' → w'.cell? ⟨w.heap.size, 1, none⟩ = some (.int .u64 0) := fun w' h => (hP.ext h).cell rfl
          go_wp2_with fail
          go_region_held3 (fun w' => Ext w5 w') ((focus ((repeat (first | with_reducible assumption | with_reducible exact Ext.refl _ | with_reducible refine Ext.drew ?_ | with_reducible refine Ext.alloc ?_ _ _ | with_reducible refine Ext.setCell ?_ ?_ _ | with_reducible exact Nat.le_refl _ | (dsimp only; omega) | (simp only [World.size_alloc]; omega))); done))) (first
            | (go_at_call 102; refine Calls.mono (hM2.out _) ?_; rintro e w6 ⟨rfl, hext6⟩; have hq6 : Ext w5 w6 := Ext.trans (by (focus ((repeat (first | with_reducible assumption | with_reducible exact Ext.refl _ | with_reducible refine Ext.drew ?_ | with_reducible refine Ext.alloc ?_ _ _ | with_reducible refine Ext.setCell ?_ ?_ _ | with_reducible exact Nat.le_refl _ | (dsimp only; omega) | (simp only [World.size_alloc]; omega))); done))) hext6))
          all_goals (
            go_wp2
            go_ret2
            exact ⟨q, _, rfl, ho.out, hwx.trans (hq5.trans hq6)⟩))
      · have ho : Hid _ := hout.out false (decide_eq_false hE).symm
        clear hout hE hR1 hR2 hD2 hSB hlow hlb hxx hll hV hr hr1 hr2 hR0 hb1 hb2 z1 z2 hQQ hQA hQB hRR hMA hMB hcc cg hz hrr hrl hg hql hRLl h1 h2
        go_wp2_with fail
        refine Calls.mono (hDiv.out _) ?_
        rintro e w3 ⟨rfl, hext3⟩
        replace hN := hN.ext hext3
        replace hP := hP.ext hext3
        replace hwx := hwx.trans hext3
        clear hext3 n0 n1
        have d0 : ∀ w', Ext w3 w' → w'.cell? ⟨w1.heap.size, 0, none⟩ = some (.int .u64 (H : Int)) := fun w' h => (hN.ext h).cell rfl
        have d1 : ∀ w', Ext w3 w' → w'.cell? ⟨w1.heap.size, 1, none⟩ = some (.int .u64 0) := fun w' h => (hN.ext h).cell rfl
        go_wp2_with fail
        go_region_held3 (fun w' => Ext w3 w') ((focus ((repeat (first | with_reducible assumption | with_reducible exact Ext.refl _ | with_reducible refine Ext.drew ?_ | with_reducible refine Ext.alloc ?_ _ _ | with_reducible refine Ext.setCell ?_ ?_ _ | with_reducible exact Nat.le_refl _ | (dsimp only; omega) | (simp only [World.size_alloc]; omega))); done))) (first
          | (go_at_call 102; refine Calls.mono (hM.out _) ?_; rintro e w4 ⟨rfl, hext4⟩; have hq4 : Ext w3 w4 := Ext.trans (by (focus ((repeat (first | with_reducible assumption | with_reducible exact Ext.refl _ | with_reducible refine Ext.drew ?_ | with_reducible refine Ext.alloc ?_ _ _ | with_reducible refine Ext.setCell ?_ ?_ _ | with_reducible exact Nat.le_refl _ | (dsimp only; omega) | (simp only [World.size_alloc]; omega))); done))) hext4)
          | (go_at_call 124; refine Calls.mono (hC.out _) ?_; rintro e w5 ⟨rfl, hext5⟩; have hq5 : Ext w3 w5 := Ext.trans (by (focus ((repeat (first | with_reducible assumption | with_reducible exact Ext.refl _ | with_reducible refine Ext.drew ?_ | with_reducible refine Ext.alloc ?_ _ _ | with_reducible refine Ext.setCell ?_ ?_ _ | with_reducible exact Nat.le_refl _ | (dsimp only; omega) | (simp only [World.size_alloc]; omega))); done))) hext5))
        all_goals (
          clear d0 d1
          replace hP := hP.ext hq5
          have d0 : ∀ w', Ext w5 w' → w'.cell? ⟨w.heap.size, 0, none⟩ = some (.int .u64 (H : Int)) := fun w' h => (hP.ext h).cell rfl
          have d1 : ∀ w', Ext w5 w' → w'.cell? ⟨w.heap.size, 1, none⟩ = some (.int .u64 0) := fun w' h => (hP.ext h).cell rfl
          go_wp2_with fail
          go_region_held3 (fun w' => Ext w5 w') ((focus ((repeat (first | with_reducible assumption | with_reducible exact Ext.refl _ | with_reducible refine Ext.drew ?_ | with_reducible refine Ext.alloc ?_ _ _ | with_reducible refine Ext.setCell ?_ ?_ _ | with_reducible exact Nat.le_refl _ | (dsimp only; omega) | (simp only [World.size_alloc]; omega))); done))) (first
            | (go_at_call 102; refine Calls.mono (hM2.out _) ?_; rintro e w6 ⟨rfl, hext6⟩; have hq6 : Ext w5 w6 := Ext.trans (by (focus ((repeat (first | with_reducible assumption | with_reducible exact Ext.refl _ | with_reducible refine Ext.drew ?_ | with_reducible refine Ext.alloc ?_ _ _ | with_reducible refine Ext.setCell ?_ ?_ _ | with_reducible exact Nat.le_refl _ | (dsimp only; omega) | (simp only [World.size_alloc]; omega))); done))) hext6))
          all_goals (
            go_wp2
            go_ret2
            exact ⟨q, _, rfl, ho.out, hwx.trans (hq5.trans hq6)⟩))
      · have ho : Hid _ := hout.out false (decide_eq_false hE).symm
        clear hout hE hR1 hR2 hD2 hSB hlow hlb hxx hll hV hr hr1 hr2 hR0 hb1 hb2 z1 z2 hQQ hQA hQB hRR hMA hMB hcc cg hz hrr hrl hg hql hRLl h1 h2
        go_wp2_with fail
        refine Calls.mono (hDiv.out _) ?_
        rintro e w3 ⟨rfl, hext3⟩
        replace hN := hN.ext hext3
        replace hP := hP.ext hext3
        replace hwx := hwx.trans hext3
        clear hext3 n0 n1
        have d0 : ∀ w', Ext w3 w' → w'.cell? ⟨w1.heap.size, 0, none⟩ = some (.int .u64 (QA : Int)) := fun w' h => (hN.ext h).cell rfl
        have d1 : ∀ w', Ext w3 w' → w'.cell? ⟨w1.heap.size, 1, none⟩ = some (.int .u64 0) := fun w' h => (hN.ext h).cell rfl
        go_wp2_with fail
        go_region_held3 (fun w' => Ext w3 w') ((focus ((repeat (first | with_reducible assumption | with_reducible exact Ext.refl _ | with_reducible refine Ext.drew ?_ | with_reducible refine Ext.alloc ?_ _ _ | with_reducible refine Ext.setCell ?_ ?_ _ | with_reducible exact Nat.le_refl _ | (dsimp only; omega) | (simp only [World.size_alloc]; omega))); done))) (first
          | (go_at_call 102; refine Calls.mono (hM.out _) ?_; rintro e w4 ⟨rfl, hext4⟩; have hq4 : Ext w3 w4 := Ext.trans (by (focus ((repeat (first | with_reducible assumption | with_reducible exact Ext.refl _ | with_reducible refine Ext.drew ?_ | with_reducible refine Ext.alloc ?_ _ _ | with_reducible refine Ext.setCell ?_ ?_ _ | with_reducible exact Nat.le_refl _ | (dsimp only; omega) | (simp only [World.size_alloc]; omega))); done))) hext4)
          | (go_at_call 124; refine Calls.mono (hC.out _) ?_; rintro e w5 ⟨rfl, hext5⟩; have hq5 : Ext w3 w5 := Ext.trans (by (focus ((repeat (first | with_reducible assumption | with_reducible exact Ext.refl _ | with_reducible refine Ext.drew ?_ | with_reducible refine Ext.alloc ?_ _ _ | with_reducible refine Ext.setCell ?_ ?_ _ | with_reducible exact Nat.le_refl _ | (dsimp only; omega) | (simp only [World.size_alloc]; omega))); done))) hext5))
        all_goals (
          clear d0 d1
          replace hP := hP.ext hq5
          have d0 : ∀ w', Ext w5 w' → w'.cell? ⟨w.heap.size, 0, none⟩ = some (.int .u64 (QA : Int)) := fun w' h => (hP.ext h).cell rfl
          have d1 : ∀ w', Ext w5 w' → w'.cell? ⟨w.heap.size, 1, none⟩ = some (.int .u64 0) := fun w' h => (hP.ext h).cell rfl
          go_wp2_with fail
          go_region_held3 (fun w' => Ext w5 w') ((focus ((repeat (first | with_reducible assumption | with_reducible exact Ext.refl _ | with_reducible refine Ext.drew ?_ | with_reducible refine Ext.alloc ?_ _ _ | with_reducible refine Ext.setCell ?_ ?_ _ | with_reducible exact Nat.le_refl _ | (dsimp only; omega) | (simp only [World.size_alloc]; omega))); done))) (first
            | (go_at_call 102; refine Calls.mono (hM2.out _) ?_; rintro e w6 ⟨rfl, hext6⟩; have hq6 : Ext w5 w6 := Ext.trans (by (focus ((repeat (first | with_reducible assumption | with_reducible exact Ext.refl _ | with_reducible refine Ext.drew ?_ | with_reducible refine Ext.alloc ?_ _ _ | with_reducible refine Ext.setCell ?_ ?_ _ | with_reducible exact Nat.le_refl _ | (dsimp only; omega) | (simp only [World.size_alloc]; omega))); done))) hext6))
          all_goals (
            go_wp2
            go_ret2
            exact ⟨q, _, rfl, ho.out, hwx.trans (hq5.trans hq6)⟩))
    · have cg : ¬ 0 < cc := by
        rcases Nat.lt_or_eq_of_le (Nat.le_of_not_lt hg) with h | h
        · rw [hcc, cmpI_lt h]; decide
        · rw [hcc, cmpI_eq h]; decide
      have a12 : decide ((0 : Int) < cc) = false := decide_eq_false cg
      rw [if_neg hg] at hz
      obtain ⟨q, hq⟩ : ∃ y, y = r := ⟨_, rfl⟩
      subst hq
      have hql : q < 18446744073709551616 := hrl
      obtain ⟨z1, z2⟩ := root_bd (k := 63) hz (Nat.le_trans (by decide : 2 ^ (2 * 63) ≤ 4611686018427387904 * 18446744073709551616) (by omega)) (Nat.lt_of_lt_of_le (show V < 340282366920938463463374607431768211456 by omega) (by decide))
      have hM2 := fun w => mul64_any w q q hql hql
      obtain ⟨QQ, hQQ⟩ : ∃ y, y = q * q := ⟨_, rfl⟩
      rw [← hQQ] at hM2
      obtain ⟨QA, hQA⟩ : ∃ y, y = QQ / 18446744073709551616 := ⟨_, rfl⟩
      obtain ⟨QB, hQB⟩ : ∃ y, y = QQ % 18446744073709551616 := ⟨_, rfl⟩
      rw [← hQA, ← hQB] at hM2
      replace hM2 : Hid _ := hM2
      have hne : (QA = H ∧ QB = 0 ∧ QQ = V) ∨ (((QA : Int) == (H : Int)) = false ∧ QQ ≠ V) ∨ (QA = H ∧ ((QB : Int) == 0) = false ∧ QQ ≠ V) := by
        by_cases i1 : QA = H
        · by_cases i2 : QB = 0
          · exact Or.inl ⟨i1, i2, by omega⟩
          · exact Or.inr (Or.inr ⟨i1, by rw [beq_eq_false_iff_ne]; omega, by omega⟩)
        · exact Or.inr (Or.inl ⟨by rw [beq_eq_false_iff_ne]; omega, by omega⟩)
      have hout : Hid (∀ b, b = decide (QQ = V) → SqrtOut H q b) := by
        intro b hb
        refine ⟨by rw [← hV]; exact hz, by rw [hb, hV, hQQ], z1, z2⟩
      rcases hne with ⟨rfl, rfl, hE⟩ | ⟨hE1, hE⟩ | ⟨rfl, hE1, hE⟩
      · have ho : Hid _ := hout.out true (decide_eq_true hE).symm
        clear hout hE hR1 hR2 hD2 hSB hlow hlb hxx hll hV hr hr1 hr2 hR0 hb1 hb2 z1 z2 hQQ hQA hQB hRR hMA hMB hcc cg hz hrr hrl hg hql hRLl h1 h2
        go_wp2_with fail
        refine Calls.mono (hDiv.out _) ?_
        rintro e w3 ⟨rfl, hext3⟩
        replace hN := hN.ext hext3
        replace hP := hP.ext hext3
        replace hwx := hwx.trans hext3
        clear hext3 n0 n1
        have d0 : ∀ w', Ext w3 w' → w'.cell? ⟨w1.heap.size, 0, none⟩ = some (.int .u64 (QA : Int)) := fun w' h => (hN.ext h).cell rfl
        have d1 : ∀ w', Ext w3 w' → w'.cell? ⟨w1.heap.size, 1, none⟩ = some (.int .u64 0) := fun w' h => (hN.ext h).cell rfl
        go_wp2_with fail
        go_region_held3 (fun w' => Ext w3 w') ((focus ((repeat (first | with_reducible assumption | with_reducible exact Ext.refl _ | with_reducible refine Ext.drew ?_ | with_reducible refine Ext.alloc ?_ _ _ | with_reducible refine Ext.setCell ?_ ?_ _ | with_reducible exact Nat.le_refl _ | (dsimp only; omega) | (simp only [World.size_alloc]; omega))); done))) (first
          | (go_at_call 102; refine Calls.mono (hM.out _) ?_; rintro e w4 ⟨rfl, hext4⟩; have hq4 : Ext w3 w4 := Ext.trans (by (focus ((repeat (first | with_reducible assumption | with_reducible exact Ext.refl _ | with_reducible refine Ext.drew ?_ | with_reducible refine Ext.alloc ?_ _ _ | with_reducible refine Ext.setCell ?_ ?_ _ | with_reducible exact Nat.le_refl _ | (dsimp only; omega) | (simp only [World.size_alloc]; omega))); done))) hext4)
          | (go_at_call 124; refine Calls.mono (hC.out _) ?_; rintro e w5 ⟨rfl, hext5⟩; have hq5 : Ext w3 w5 := Ext.trans (by (focus ((repeat (first | with_reducible assumption | with_reducible exact Ext.refl _ | with_reducible refine Ext.drew ?_ | with_reducible refine Ext.alloc ?_ _ _ | with_reducible refine Ext.setCell ?_ ?_ _ | with_reducible exact Nat.le_refl _ | (dsimp only; omega) | (simp only [World.size_alloc]; omega))); done))) hext5))
        all_goals (
          clear d0 d1
          replace hP := hP.ext hq5
          have d0 : ∀ w', Ext w5 w' → w'.cell? ⟨w.heap.size, 0, none⟩ = some (.int .u64 (QA : Int)) := fun w' h => (hP.ext h).cell rfl
          have d1 : ∀ w', Ext w5 w' → w'.cell? ⟨w.heap.size, 1, none⟩ = some (.int .u64 0) := fun w' h => (hP.ext h).cell rfl
          go_wp2_with fail
          go_region_held3 (fun w' => Ext w5 w') ((focus ((repeat (first | with_reducible assumption | with_reducible exact Ext.refl _ | with_reducible refine Ext.drew ?_ | with_reducible refine Ext.alloc ?_ _ _ | with_reducible refine Ext.setCell ?_ ?_ _ | with_reducible exact Nat.le_refl _ | (dsimp only; omega) | (simp only [World.size_alloc]; omega))); done))) (first
            | (go_at_call 102; refine Calls.mono (hM2.out _) ?_; rintro e w6 ⟨rfl, hext6⟩; have hq6 : Ext w5 w6 := Ext.trans (by (focus ((repeat (first | with_reducible assumption | with_reducible exact Ext.refl _ | with_reducible refine Ext.drew ?_ | with_reducible refine Ext.alloc ?_ _ _ | with_reducible refine Ext.setCell ?_ ?_ _ | with_reducible exact Nat.le_refl _ | (dsimp only; omega) | (simp only [World.size_alloc]; omega))); done))) hext6))
          all_goals (
            go_wp2
            go_ret2
            exact ⟨q, _, rfl, ho.out, hwx.trans (hq5.trans hq6)⟩))
      · have ho : Hid _ := hout.out false (decide_eq_false hE).symm
        clear hout hE hR1 hR2 hD2 hSB hlow hlb hxx hll hV hr hr1 hr2 hR0 hb1 hb2 z1 z2 hQQ hQA hQB hRR hMA hMB hcc cg hz hrr hrl hg hql hRLl h1 h2
        go_wp2_with fail
        refine Calls.mono (hDiv.out _) ?_
        rintro e w3 ⟨rfl, hext3⟩
        replace hN := hN.ext hext3
        replace hP := hP.ext hext3
        replace hwx := hwx.trans hext3
        clear hext3 n0 n1
        have d0 : ∀ w', Ext w3 w' → w'.cell? ⟨w1.heap.size, 0, none⟩ = some (.int .u64 (H : Int)) := fun w' h => (hN.ext h).cell rfl
        have d1 : ∀ w', Ext w3 w' → w'.cell? ⟨w1.heap.size, 1, none⟩ = some (.int .u64 0) := fun w' h => (hN.ext h).cell rfl
        go_wp2_with fail
        go_region_held3 (fun w' => Ext w3 w') ((focus ((repeat (first | with_reducible assumption | with_reducible exact Ext.refl _ | with_reducible refine Ext.drew ?_ | with_reducible refine Ext.alloc ?_ _ _ | with_reducible refine Ext.setCell ?_ ?_ _ | with_reducible exact Nat.le_refl _ | (dsimp only; omega) | (simp only [World.size_alloc]; omega))); done))) (first
          | (go_at_call 102; refine Calls.mono (hM.out _) ?_; rintro e w4 ⟨rfl, hext4⟩; have hq4 : Ext w3 w4 := Ext.trans (by (focus ((repeat (first | with_reducible assumption | with_reducible exact Ext.refl _ | with_reducible refine Ext.drew ?_ | with_reducible refine Ext.alloc ?_ _ _ | with_reducible refine Ext.setCell ?_ ?_ _ | with_reducible exact Nat.le_refl _ | (dsimp only; omega) | (simp only [World.size_alloc]; omega))); done))) hext4)
          | (go_at_call 124; refine Calls.mono (hC.out _) ?_; rintro e w5 ⟨rfl, hext5⟩; have hq5 : Ext w3 w5 := Ext.trans (by (focus ((repeat (first | with_reducible assumption | with_reducible exact Ext.refl _ | with_reducible refine Ext.drew ?_ | with_reducible refine Ext.alloc ?_ _ _ | with_reducible refine Ext.setCell ?_ ?_ _ | with_reducible exact Nat.le_refl _ | (dsimp only; omega) | (simp only [World.size_alloc]; omega))); done))) hext5))
        all_goals (
          clear d0 d1
          replace hP := hP.ext hq5
          have d0 : ∀ w', Ext w5 w' → w'.cell? ⟨w.heap.size, 0, none⟩ = some (.int .u64 (H : Int)) := fun w' h => (hP.ext h).cell rfl
          have d1 : ∀ w', Ext w5 w' → w'.cell? ⟨w.heap.size, 1, none⟩ = some (.int .u64 0) := fun w' h => (hP.ext h).cell rfl
          go_wp2_with fail
          go_region_held3 (fun w' => Ext w5 w') ((focus ((repeat (first | with_reducible assumption | with_reducible exact Ext.refl _ | with_reducible refine Ext.drew ?_ | with_reducible refine Ext.alloc ?_ _ _ | with_reducible refine Ext.setCell ?_ ?_ _ | with_reducible exact Nat.le_refl _ | (dsimp only; omega) | (simp only [World.size_alloc]; omega))); done))) (first
            | (go_at_call 102; refine Calls.mono (hM2.out _) ?_; rintro e w6 ⟨rfl, hext6⟩; have hq6 : Ext w5 w6 := Ext.trans (by (focus ((repeat (first | with_reducible assumption | with_reducible exact Ext.refl _ | with_reducible refine Ext.drew ?_ | with_reducible refine Ext.alloc ?_ _ _ | with_reducible refine Ext.setCell ?_ ?_ _ | with_reducible exact Nat.le_refl _ | (dsimp only; omega) | (simp only [World.size_alloc]; omega))); done))) hext6))
          all_goals (
            go_wp2
            go_ret2
            exact ⟨q, _, rfl, ho.out, hwx.trans (hq5.trans hq6)⟩))
      · have ho : Hid _ := hout.out false (decide_eq_false hE).symm
        clear hout hE hR1 hR2 hD2 hSB hlow hlb hxx hll hV hr hr1 hr2 hR0 hb1 hb2 z1 z2 hQQ hQA hQB hRR hMA hMB hcc cg hz hrr hrl hg hql hRLl h1 h2
        go_wp2_with fail
        refine Calls.mono (hDiv.out _) ?_
        rintro e w3 ⟨rfl, hext3⟩
        replace hN := hN.ext hext3
        replace hP := hP.ext hext3
        replace hwx := hwx.trans hext3
        clear hext3 n0 n1
        have d0 : ∀ w', Ext w3 w' → w'.cell? ⟨w1.heap.size, 0, none⟩ = some (.int .u64 (QA : Int)) := fun w' h => (hN.ext h).cell rfl
        have d1 : ∀ w', Ext w3 w' → w'.cell? ⟨w1.heap.size, 1, none⟩ = some (.int .u64 0) := fun w' h => (hN.ext h).cell rfl
        go_wp2_with fail
        go_region_held3 (fun w' => Ext w3 w') ((focus ((repeat (first | with_reducible assumption | with_reducible exact Ext.refl _ | with_reducible refine Ext.drew ?_ | with_reducible refine Ext.alloc ?_ _ _ | with_reducible refine Ext.setCell ?_ ?_ _ | with_reducible exact Nat.le_refl _ | (dsimp only; omega) | (simp only [World.size_alloc]; omega))); done))) (first
          | (go_at_call 102; refine Calls.mono (hM.out _) ?_; rintro e w4 ⟨rfl, hext4⟩; have hq4 : Ext w3 w4 := Ext.trans (by (focus ((repeat (first | with_reducible assumption | with_reducible exact Ext.refl _ | with_reducible refine Ext.drew ?_ | with_reducible refine Ext.alloc ?_ _ _ | with_reducible refine Ext.setCell ?_ ?_ _ | with_reducible exact Nat.le_refl _ | (dsimp only; omega) | (simp only [World.size_alloc]; omega))); done))) hext4)
          | (go_at_call 124; refine Calls.mono (hC.out _) ?_; rintro e w5 ⟨rfl, hext5⟩; have hq5 : Ext w3 w5 := Ext.trans (by (focus ((repeat (first | with_reducible assumption | with_reducible exact Ext.refl _ | with_reducible refine Ext.drew ?_ | with_reducible refine Ext.alloc ?_ _ _ | with_reducible refine Ext.setCell ?_ ?_ _ | with_reducible exact Nat.le_refl _ | (dsimp only; omega) | (simp only [World.size_alloc]; omega))); done))) hext5))
        all_goals (
          clear d0 d1
          replace hP := hP.ext hq5
          have d0 : ∀ w', Ext w5 w' → w'.cell? ⟨w.heap.size, 0, none⟩ = some (.int .u64 (QA : Int)) := fun w' h => (hP.ext h).cell rfl
          have d1 : ∀ w', Ext w5 w' → w'.cell? ⟨w.heap.size, 1, none⟩ = some (.int .u64 0) := fun w' h => (hP.ext h).cell rfl
          go_wp2_with fail
          go_region_held3 (fun w' => Ext w5 w') ((focus ((repeat (first | with_reducible assumption | with_reducible exact Ext.refl _ | with_reducible refine Ext.drew ?_ | with_reducible refine Ext.alloc ?_ _ _ | with_reducible refine Ext.setCell ?_ ?_ _ | with_reducible exact Nat.le_refl _ | (dsimp only; omega) | (simp only [World.size_alloc]; omega))); done))) (first
            | (go_at_call 102; refine Calls.mono (hM2.out _) ?_; rintro e w6 ⟨rfl, hext6⟩; have hq6 : Ext w5 w6 := Ext.trans (by (focus ((repeat (first | with_reducible assumption | with_reducible exact Ext.refl _ | with_reducible refine Ext.drew ?_ | with_reducible refine Ext.alloc ?_ _ _ | with_reducible refine Ext.setCell ?_ ?_ _ | with_reducible exact Nat.le_refl _ | (dsimp only; omega) | (simp only [World.size_alloc]; omega))); done))) hext6))
          all_goals (
            go_wp2
            go_ret2
            exact ⟨q, _, rfl, ho.out, hwx.trans (hq5.trans hq6)⟩))
  · have m1 : min (low : Int) 4294967295 = 4294967295 := by omega
    have hlX : 4294967295 < low := by omega
    obtain ⟨r, hrr⟩ : ∃ y, y = hi * 4294967296 + 4294967295 := ⟨_, rfl⟩
    have hrl : r < 18446744073709551616 := by omega
    have a10 : bits BinOp.or IntKind.u64 (SB : Int) 4294967295 = (r : Int) := by
      rw [show (4294967295 : Int) = ((4294967295 : Nat) : Int) from rfl, u64_or_nat _ _ (by omega) (by omega), nat_join 32 _ _ (show SB % 4294967296 = 0 by omega) (show 4294967295 < 4294967296 by omega), hrr, hSB]
    have hz := zim (B := 4294967296) (c := 4294967295) (by decide) hR1 hr2 (by omega) (by decide) (by decide) hxx (by rw [← hlow]; omega)
    rw [← hrr] at hz
    have hM := fun w => mul64_any w r r hrl hrl
    have hC := fun w => wcmp_any w (r * r / 18446744073709551616) (r * r % 18446744073709551616) H 0 (Nat.mod_lt _ (by decide)) (by decide)
    have eR : r * r / 18446744073709551616 * 18446744073709551616 + r * r % 18446744073709551616 = r * r := by rw [Nat.mul_comm]; exact Nat.div_add_mod _ _
    rw [eR, Nat.add_zero, ← hV] at hC
    obtain ⟨RR, hRR⟩ : ∃ y, y = r * r := ⟨_, rfl⟩
    rw [← hRR] at hM hC hz
    obtain ⟨MA, hMA⟩ : ∃ y, y = RR / 18446744073709551616 := ⟨_, rfl⟩
    obtain ⟨MB, hMB⟩ : ∃ y, y = RR % 18446744073709551616 := ⟨_, rfl⟩
    rw [← hMA, ← hMB] at hM hC
    obtain ⟨cc, hcc⟩ : ∃ y, y = cmpI RR V := ⟨_, rfl⟩
    rw [← hcc] at hC
    replace hM : Hid _ := hM
    replace hC : Hid _ := hC
    clear eR
    by_cases hg : V < RR
    · have cg : 0 < cc := by rw [hcc, cmpI_gt hg]; decide
      have a12 : decide ((0 : Int) < cc) = true := decide_eq_true cg
      rw [if_pos hg] at hz
      have hr0 : r ≠ 0 := by intro h; rw [h] at hRR; omega
      obtain ⟨q, hq⟩ : ∃ y, y = r - 1 := ⟨_, rfl⟩
      rw [← hq] at hz
      have a13 : IntKind.u64.wrap ((r : Int) - 1) = (q : Int) := by rw [IntKind.wrap_u64]; omega
      have hql : q < 18446744073709551616 := by omega
      clear hq hr0
      obtain ⟨z1, z2⟩ := root_bd (k := 63) hz (Nat.le_trans (by decide : 2 ^ (2 * 63) ≤ 4611686018427387904 * 18446744073709551616) (by omega)) (Nat.lt_of_lt_of_le (show V < 340282366920938463463374607431768211456 by omega) (by decide))
      have hM2 := fun w => mul64_any w q q hql hql
      obtain ⟨QQ, hQQ⟩ : ∃ y, y = q * q := ⟨_, rfl⟩
      rw [← hQQ] at hM2
      obtain ⟨QA, hQA⟩ : ∃ y, y = QQ / 18446744073709551616 := ⟨_, rfl⟩
      obtain ⟨QB, hQB⟩ : ∃ y, y = QQ % 18446744073709551616 := ⟨_, rfl⟩
      rw [← hQA, ← hQB] at hM2
      replace hM2 : Hid _ := hM2
      have hne : (QA = H ∧ QB = 0 ∧ QQ = V) ∨ (((QA : Int) == (H : Int)) = false ∧ QQ ≠ V) ∨ (QA = H ∧ ((QB : Int) == 0) = false ∧ QQ ≠ V) := by
        by_cases i1 : QA = H
        · by_cases i2 : QB = 0
          · exact Or.inl ⟨i1, i2, by omega⟩
          · exact Or.inr (Or.inr ⟨i1, by rw [beq_eq_false_iff_ne]; omega, by omega⟩)
        · exact Or.inr (Or.inl ⟨by rw [beq_eq_false_iff_ne]; omega, by omega⟩)
      have hout : Hid (∀ b, b = decide (QQ = V) → SqrtOut H q b) := by
        intro b hb
        refine ⟨by rw [← hV]; exact hz, by rw [hb, hV, hQQ], z1, z2⟩
      rcases hne with ⟨rfl, rfl, hE⟩ | ⟨hE1, hE⟩ | ⟨rfl, hE1, hE⟩
      · have ho : Hid _ := hout.out true (decide_eq_true hE).symm
        clear hout hE hR1 hR2 hD2 hSB hlow hlb hxx hll hV hr hr1 hr2 hR0 hb1 hb2 z1 z2 hQQ hQA hQB hRR hMA hMB hcc cg hz hrr hrl hg hql hRLl h1 h2
        go_wp2_with fail
        refine Calls.mono (hDiv.out _) ?_
        rintro e w3 ⟨rfl, hext3⟩
        replace hN := hN.ext hext3
        replace hP := hP.ext hext3
        replace hwx := hwx.trans hext3
        clear hext3 n0 n1
        have d0 : ∀ w', Ext w3 w' → w'.cell? ⟨w1.heap.size, 0, none⟩ = some (.int .u64 (QA : Int)) := fun w' h => (hN.ext h).cell rfl
        have d1 : ∀ w', Ext w3 w' → w'.cell? ⟨w1.heap.size, 1, none⟩ = some (.int .u64 0) := fun w' h => (hN.ext h).cell rfl
        go_wp2_with fail
        go_region_held3 (fun w' => Ext w3 w') ((focus ((repeat (first | with_reducible assumption | with_reducible exact Ext.refl _ | with_reducible refine Ext.drew ?_ | with_reducible refine Ext.alloc ?_ _ _ | with_reducible refine Ext.setCell ?_ ?_ _ | with_reducible exact Nat.le_refl _ | (dsimp only; omega) | (simp only [World.size_alloc]; omega))); done))) (first
          | (go_at_call 102; refine Calls.mono (hM.out _) ?_; rintro e w4 ⟨rfl, hext4⟩; have hq4 : Ext w3 w4 := Ext.trans (by (focus ((repeat (first | with_reducible assumption | with_reducible exact Ext.refl _ | with_reducible refine Ext.drew ?_ | with_reducible refine Ext.alloc ?_ _ _ | with_reducible refine Ext.setCell ?_ ?_ _ | with_reducible exact Nat.le_refl _ | (dsimp only; omega) | (simp only [World.size_alloc]; omega))); done))) hext4)
          | (go_at_call 124; refine Calls.mono (hC.out _) ?_; rintro e w5 ⟨rfl, hext5⟩; have hq5 : Ext w3 w5 := Ext.trans (by (focus ((repeat (first | with_reducible assumption | with_reducible exact Ext.refl _ | with_reducible refine Ext.drew ?_ | with_reducible refine Ext.alloc ?_ _ _ | with_reducible refine Ext.setCell ?_ ?_ _ | with_reducible exact Nat.le_refl _ | (dsimp only; omega) | (simp only [World.size_alloc]; omega))); done))) hext5))
        all_goals (
          clear d0 d1
          replace hP := hP.ext hq5
          have d0 : ∀ w', Ext w5 w' → w'.cell? ⟨w.heap.size, 0, none⟩ = some (.int .u64 (QA : Int)) := fun w' h => (hP.ext h).cell rfl
          have d1 : ∀ w', Ext w5 w' → w'.cell? ⟨w.heap.size, 1, none⟩ = some (.int .u64 0) := fun w' h => (hP.ext h).cell rfl
          go_wp2_with fail
          go_region_held3 (fun w' => Ext w5 w') ((focus ((repeat (first | with_reducible assumption | with_reducible exact Ext.refl _ | with_reducible refine Ext.drew ?_ | with_reducible refine Ext.alloc ?_ _ _ | with_reducible refine Ext.setCell ?_ ?_ _ | with_reducible exact Nat.le_refl _ | (dsimp only; omega) | (simp only [World.size_alloc]; omega))); done))) (first
            | (go_at_call 102; refine Calls.mono (hM2.out _) ?_; rintro e w6 ⟨rfl, hext6⟩; have hq6 : Ext w5 w6 := Ext.trans (by (focus ((repeat (first | with_reducible assumption | with_reducible exact Ext.refl _ | with_reducible refine Ext.drew ?_ | with_reducible refine Ext.alloc ?_ _ _ | with_reducible refine Ext.setCell ?_ ?_ _ | with_reducible exact Nat.le_refl _ | (dsimp only; omega) | (simp only [World.size_alloc]; omega))); done))) hext6))
          all_goals (
            go_wp2
            go_ret2
            exact ⟨q, _, rfl, ho.out, hwx.trans (hq5.trans hq6)⟩))
      · have ho : Hid _ := hout.out false (decide_eq_false hE).symm
        clear hout hE hR1 hR2 hD2 hSB hlow hlb hxx hll hV hr hr1 hr2 hR0 hb1 hb2 z1 z2 hQQ hQA hQB hRR hMA hMB hcc cg hz hrr hrl hg hql hRLl h1 h2
        go_wp2_with fail
        refine Calls.mono (hDiv.out _) ?_
        rintro e w3 ⟨rfl, hext3⟩
        replace hN := hN.ext hext3
        replace hP := hP.ext hext3
        replace hwx := hwx.trans hext3
        clear hext3 n0 n1
        have d0 : ∀ w', Ext w3 w' → w'.cell? ⟨w1.heap.size, 0, none⟩ = some (.int .u64 (H : Int)) := fun w' h => (hN.ext h).cell rfl
        have d1 : ∀ w', Ext w3 w' → w'.cell? ⟨w1.heap.size, 1, none⟩ = some (.int .u64 0) := fun w' h => (hN.ext h).cell rfl
        go_wp2_with fail
        go_region_held3 (fun w' => Ext w3 w') ((focus ((repeat (first | with_reducible assumption | with_reducible exact Ext.refl _ | with_reducible refine Ext.drew ?_ | with_reducible refine Ext.alloc ?_ _ _ | with_reducible refine Ext.setCell ?_ ?_ _ | with_reducible exact Nat.le_refl _ | (dsimp only; omega) | (simp only [World.size_alloc]; omega))); done))) (first
          | (go_at_call 102; refine Calls.mono (hM.out _) ?_; rintro e w4 ⟨rfl, hext4⟩; have hq4 : Ext w3 w4 := Ext.trans (by (focus ((repeat (first | with_reducible assumption | with_reducible exact Ext.refl _ | with_reducible refine Ext.drew ?_ | with_reducible refine Ext.alloc ?_ _ _ | with_reducible refine Ext.setCell ?_ ?_ _ | with_reducible exact Nat.le_refl _ | (dsimp only; omega) | (simp only [World.size_alloc]; omega))); done))) hext4)
          | (go_at_call 124; refine Calls.mono (hC.out _) ?_; rintro e w5 ⟨rfl, hext5⟩; have hq5 : Ext w3 w5 := Ext.trans (by (focus ((repeat (first | with_reducible assumption | with_reducible exact Ext.refl _ | with_reducible refine Ext.drew ?_ | with_reducible refine Ext.alloc ?_ _ _ | with_reducible refine Ext.setCell ?_ ?_ _ | with_reducible exact Nat.le_refl _ | (dsimp only; omega) | (simp only [World.size_alloc]; omega))); done))) hext5))
        all_goals (
          clear d0 d1
          replace hP := hP.ext hq5
          have d0 : ∀ w', Ext w5 w' → w'.cell? ⟨w.heap.size, 0, none⟩ = some (.int .u64 (H : Int)) := fun w' h => (hP.ext h).cell rfl
          have d1 : ∀ w', Ext w5 w' → w'.cell? ⟨w.heap.size, 1, none⟩ = some (.int .u64 0) := fun w' h => (hP.ext h).cell rfl
          go_wp2_with fail
          go_region_held3 (fun w' => Ext w5 w') ((focus ((repeat (first | with_reducible assumption | with_reducible exact Ext.refl _ | with_reducible refine Ext.drew ?_ | with_reducible refine Ext.alloc ?_ _ _ | with_reducible refine Ext.setCell ?_ ?_ _ | with_reducible exact Nat.le_refl _ | (dsimp only; omega) | (simp only [World.size_alloc]; omega))); done))) (first
            | (go_at_call 102; refine Calls.mono (hM2.out _) ?_; rintro e w6 ⟨rfl, hext6⟩; have hq6 : Ext w5 w6 := Ext.trans (by (focus ((repeat (first | with_reducible assumption | with_reducible exact Ext.refl _ | with_reducible refine Ext.drew ?_ | with_reducible refine Ext.alloc ?_ _ _ | with_reducible refine Ext.setCell ?_ ?_ _ | with_reducible exact Nat.le_refl _ | (dsimp only; omega) | (simp only [World.size_alloc]; omega))); done))) hext6))
          all_goals (
            go_wp2
            go_ret2
            exact ⟨q, _, rfl, ho.out, hwx.trans (hq5.trans hq6)⟩))
      · have ho : Hid _ := hout.out false (decide_eq_false hE).symm
        clear hout hE hR1 hR2 hD2 hSB hlow hlb hxx hll hV hr hr1 hr2 hR0 hb1 hb2 z1 z2 hQQ hQA hQB hRR hMA hMB hcc cg hz hrr hrl hg hql hRLl h1 h2
        go_wp2_with fail
        refine Calls.mono (hDiv.out _) ?_
        rintro e w3 ⟨rfl, hext3⟩
        replace hN := hN.ext hext3
        replace hP := hP.ext hext3
        replace hwx := hwx.trans hext3
        clear hext3 n0 n1
        have d0 : ∀ w', Ext w3 w' → w'.cell? ⟨w1.heap.size, 0, none⟩ = some (.int .u64 (QA : Int)) := fun w' h => (hN.ext h).cell rfl
        have d1 : ∀ w', Ext w3 w' → w'.cell? ⟨w1.heap.size, 1, none⟩ = some (.int .u64 0) := fun w' h => (hN.ext h).cell rfl
        go_wp2_with fail
        go_region_held3 (fun w' => Ext w3 w') ((focus ((repeat (first | with_reducible assumption | with_reducible exact Ext.refl _ | with_reducible refine Ext.drew ?_ | with_reducible refine Ext.alloc ?_ _ _ | with_reducible refine Ext.setCell ?_ ?_ _ | with_reducible exact Nat.le_refl _ | (dsimp only; omega) | (simp only [World.size_alloc]; omega))); done))) (first
          | (go_at_call 102; refine Calls.mono (hM.out _) ?_; rintro e w4 ⟨rfl, hext4⟩; have hq4 : Ext w3 w4 := Ext.trans (by (focus ((repeat (first | with_reducible assumption | with_reducible exact Ext.refl _ | with_reducible refine Ext.drew ?_ | with_reducible refine Ext.alloc ?_ _ _ | with_reducible refine Ext.setCell ?_ ?_ _ | with_reducible exact Nat.le_refl _ | (dsimp only; omega) | (simp only [World.size_alloc]; omega))); done))) hext4)
          | (go_at_call 124; refine Calls.mono (hC.out _) ?_; rintro e w5 ⟨rfl, hext5⟩; have hq5 : Ext w3 w5 := Ext.trans (by (focus ((repeat (first | with_reducible assumption | with_reducible exact Ext.refl _ | with_reducible refine Ext.drew ?_ | with_reducible refine Ext.alloc ?_ _ _ | with_reducible refine Ext.setCell ?_ ?_ _ | with_reducible exact Nat.le_refl _ | (dsimp only; omega) | (simp only [World.size_alloc]; omega))); done))) hext5))
        all_goals (
          clear d0 d1
          replace hP := hP.ext hq5
          have d0 : ∀ w', Ext w5 w' → w'.cell? ⟨w.heap.size, 0, none⟩ = some (.int .u64 (QA : Int)) := fun w' h => (hP.ext h).cell rfl
          have d1 : ∀ w', Ext w5 w' → w'.cell? ⟨w.heap.size, 1, none⟩ = some (.int .u64 0) := fun w' h => (hP.ext h).cell rfl
          go_wp2_with fail
          go_region_held3 (fun w' => Ext w5 w') ((focus ((repeat (first | with_reducible assumption | with_reducible exact Ext.refl _ | with_reducible refine Ext.drew ?_ | with_reducible refine Ext.alloc ?_ _ _ | with_reducible refine Ext.setCell ?_ ?_ _ | with_reducible exact Nat.le_refl _ | (dsimp only; omega) | (simp only [World.size_alloc]; omega))); done))) (first
            | (go_at_call 102; refine Calls.mono (hM2.out _) ?_; rintro e w6 ⟨rfl, hext6⟩; have hq6 : Ext w5 w6 := Ext.trans (by (focus ((repeat (first | with_reducible assumption | with_reducible exact Ext.refl _ | with_reducible refine Ext.drew ?_ | with_reducible refine Ext.alloc ?_ _ _ | with_reducible refine Ext.setCell ?_ ?_ _ | with_reducible exact Nat.le_refl _ | (dsimp only; omega) | (simp only [World.size_alloc]; omega))); done))) hext6))
          all_goals (
            go_wp2
            go_ret2
            exact ⟨q, _, rfl, ho.out, hwx.trans (hq5.trans hq6)⟩))
    · have cg : ¬ 0 < cc := by
        rcases Nat.lt_or_eq_of_le (Nat.le_of_not_lt hg) with h | h
        · rw [hcc, cmpI_lt h]; decide
        · rw [hcc, cmpI_eq h]; decide
      have a12 : decide ((0 : Int) < cc) = false := decide_eq_false cg
      rw [if_neg hg] at hz
      obtain ⟨q, hq⟩ : ∃ y, y = r := ⟨_, rfl⟩
      subst hq
      have hql : q < 18446744073709551616 := hrl
      obtain ⟨z1, z2⟩ := root_bd (k := 63) hz (Nat.le_trans (by decide : 2 ^ (2 * 63) ≤ 4611686018427387904 * 18446744073709551616) (by omega)) (Nat.lt_of_lt_of_le (show V < 340282366920938463463374607431768211456 by omega) (by decide))
      have hM2 := fun w => mul64_any w q q hql hql
      obtain ⟨QQ, hQQ⟩ : ∃ y, y = q * q := ⟨_, rfl⟩
      rw [← hQQ] at hM2
      obtain ⟨QA, hQA⟩ : ∃ y, y = QQ / 18446744073709551616 := ⟨_, rfl⟩
      obtain ⟨QB, hQB⟩ : ∃ y, y = QQ % 18446744073709551616 := ⟨_, rfl⟩
      rw [← hQA, ← hQB] at hM2
      replace hM2 : Hid _ := hM2
      have hne : (QA = H ∧ QB = 0 ∧ QQ = V) ∨ (((QA : Int) == (H : Int)) = false ∧ QQ ≠ V) ∨ (QA = H ∧ ((QB : Int) == 0) = false ∧ QQ ≠ V) := by
        by_cases i1 : QA = H
        · by_cases i2 : QB = 0
          · exact Or.inl ⟨i1, i2, by omega⟩
          · exact Or.inr (Or.inr ⟨i1, by rw [beq_eq_false_iff_ne]; omega, by omega⟩)
        · exact Or.inr (Or.inl ⟨by rw [beq_eq_false_iff_ne]; omega, by omega⟩)
      have hout : Hid (∀ b, b = decide (QQ = V) → SqrtOut H q b) := by
        intro b hb
        refine ⟨by rw [← hV]; exact hz, by rw [hb, hV, hQQ], z1, z2⟩
      rcases hne with ⟨rfl, rfl, hE⟩ | ⟨hE1, hE⟩ | ⟨rfl, hE1, hE⟩
      · have ho : Hid _ := hout.out true (decide_eq_true hE).symm
        clear hout hE hR1 hR2 hD2 hSB hlow hlb hxx hll hV hr hr1 hr2 hR0 hb1 hb2 z1 z2 hQQ hQA hQB hRR hMA hMB hcc cg hz hrr hrl hg hql hRLl h1 h2
        go_wp2_with fail
        refine Calls.mono (hDiv.out _) ?_
        rintro e w3 ⟨rfl, hext3⟩
        replace hN := hN.ext hext3
        replace hP := hP.ext hext3
        replace hwx := hwx.trans hext3
        clear hext3 n0 n1
        have d0 : ∀ w', Ext w3 w' → w'.cell? ⟨w1.heap.size, 0, none⟩ = some (.int .u64 (QA : Int)) := fun w' h => (hN.ext h).cell rfl
        have d1 : ∀ w', Ext w3 w' → w'.cell? ⟨w1.heap.size, 1, none⟩ = some (.int .u64 0) := fun w' h => (hN.ext h).cell rfl
        go_wp2_with fail
        go_region_held3 (fun w' => Ext w3 w') ((focus ((repeat (first | with_reducible assumption | with_reducible exact Ext.refl _ | with_reducible refine Ext.drew ?_ | with_reducible refine Ext.alloc ?_ _ _ | with_reducible refine Ext.setCell ?_ ?_ _ | with_reducible exact Nat.le_refl _ | (dsimp only; omega) | (simp only [World.size_alloc]; omega))); done))) (first
          | (go_at_call 102; refine Calls.mono (hM.out _) ?_; rintro e w4 ⟨rfl, hext4⟩; have hq4 : Ext w3 w4 := Ext.trans (by (focus ((repeat (first | with_reducible assumption | with_reducible exact Ext.refl _ | with_reducible refine Ext.drew ?_ | with_reducible refine Ext.alloc ?_ _ _ | with_reducible refine Ext.setCell ?_ ?_ _ | with_reducible exact Nat.le_refl _ | (dsimp only; omega) | (simp only [World.size_alloc]; omega))); done))) hext4)
          | (go_at_call 124; refine Calls.mono (hC.out _) ?_; rintro e w5 ⟨rfl, hext5⟩; have hq5 : Ext w3 w5 := Ext.trans (by (focus ((repeat (first | with_reducible assumption | with_reducible exact Ext.refl _ | with_reducible refine Ext.drew ?_ | with_reducible refine Ext.alloc ?_ _ _ | with_reducible refine Ext.setCell ?_ ?_ _ | with_reducible exact Nat.le_refl _ | (dsimp only; omega) | (simp only [World.size_alloc]; omega))); done))) hext5))
        all_goals (
          clear d0 d1
          replace hP := hP.ext hq5
          have d0 : ∀ w', Ext w5 w' → w'.cell? ⟨w.heap.size, 0, none⟩ = some (.int .u64 (QA : Int)) := fun w' h => (hP.ext h).cell rfl
          have d1 : ∀ w', Ext w5 w' → w'.cell? ⟨w.heap.size, 1, none⟩ = some (.int .u64 0) := fun w' h => (hP.ext h).cell rfl
          go_wp2_with fail
          go_region_held3 (fun w' => Ext w5 w') ((focus ((repeat (first | with_reducible assumption | with_reducible exact Ext.refl _ | with_reducible refine Ext.drew ?_ | with_reducible refine Ext.alloc ?_ _ _ | with_reducible refine Ext.setCell ?_ ?_ _ | with_reducible exact Nat.le_refl _ | (dsimp only; omega) | (simp only [World.size_alloc]; omega))); done))) (first
            | (go_at_call 102; refine Calls.mono (hM2.out _) ?_; rintro e w6 ⟨rfl, hext6⟩; have hq6 : Ext w5 w6 := Ext.trans (by (focus ((repeat (first | with_reducible assumption | with_reducible exact Ext.refl _ | with_reducible refine Ext.drew ?_ | with_reducible refine Ext.alloc ?_ _ _ | with_reducible refine Ext.setCell ?_ ?_ _ | with_reducible exact Nat.le_refl _ | (dsimp only; omega) | (simp only [World.size_alloc]; omega))); done))) hext6))
          all_goals (
            go_wp2
            go_ret2
            exact ⟨q, _, rfl, ho.out, hwx.trans (hq5.trans hq6)⟩))
      · have ho : Hid _ := hout.out false (decide_eq_false hE).symm
        clear hout hE hR1 hR2 hD2 hSB hlow hlb hxx hll hV hr hr1 hr2 hR0 hb1 hb2 z1 z2 hQQ hQA hQB hRR hMA hMB hcc cg hz hrr hrl hg hql hRLl h1 h2
        go_wp2_with fail
        refine Calls.mono (hDiv.out _) ?_
        rintro e w3 ⟨rfl, hext3⟩
        replace hN := hN.ext hext3
        replace hP := hP.ext hext3
        replace hwx := hwx.trans hext3
        clear hext3 n0 n1
        have d0 : ∀ w', Ext w3 w' → w'.cell? ⟨w1.heap.size, 0, none⟩ = some (.int .u64 (H : Int)) := fun w' h => (hN.ext h).cell rfl
        have d1 : ∀ w', Ext w3 w' → w'.cell? ⟨w1.heap.size, 1, none⟩ = some (.int .u64 0) := fun w' h => (hN.ext h).cell rfl
        go_wp2_with fail
        go_region_held3 (fun w' => Ext w3 w') ((focus ((repeat (first | with_reducible assumption | with_reducible exact Ext.refl _ | with_reducible refine Ext.drew ?_ | with_reducible refine Ext.alloc ?_ _ _ | with_reducible refine Ext.setCell ?_ ?_ _ | with_reducible exact Nat.le_refl _ | (dsimp only; omega) | (simp only [World.size_alloc]; omega))); done))) (first
          | (go_at_call 102; refine Calls.mono (hM.out _) ?_; rintro e w4 ⟨rfl, hext4⟩; have hq4 : Ext w3 w4 := Ext.trans (by (focus ((repeat (first | with_reducible assumption | with_reducible exact Ext.refl _ | with_reducible refine Ext.drew ?_ | with_reducible refine Ext.alloc ?_ _ _ | with_reducible refine Ext.setCell ?_ ?_ _ | with_reducible exact Nat.le_refl _ | (dsimp only; omega) | (simp only [World.size_alloc]; omega))); done))) hext4)
          | (go_at_call 124; refine Calls.mono (hC.out _) ?_; rintro e w5 ⟨rfl, hext5⟩; have hq5 : Ext w3 w5 := Ext.trans (by (focus ((repeat (first | with_reducible assumption | with_reducible exact Ext.refl _ | with_reducible refine Ext.drew ?_ | with_reducible refine Ext.alloc ?_ _ _ | with_reducible refine Ext.setCell ?_ ?_ _ | with_reducible exact Nat.le_refl _ | (dsimp only; omega) | (simp only [World.size_alloc]; omega))); done))) hext5))
        all_goals (
          clear d0 d1
          replace hP := hP.ext hq5
          have d0 : ∀ w', Ext w5 w' → w'.cell? ⟨w.heap.size, 0, none⟩ = some (.int .u64 (H : Int)) := fun w' h => (hP.ext h).cell rfl
          have d1 : ∀ w', Ext w5 w' → w'.cell? ⟨w.heap.size, 1, none⟩ = some (.int .u64 0) := fun w' h => (hP.ext h).cell rfl
          go_wp2_with fail
          go_region_held3 (fun w' => Ext w5 w') ((focus ((repeat (first | with_reducible assumption | with_reducible exact Ext.refl _ | with_reducible refine Ext.drew ?_ | with_reducible refine Ext.alloc ?_ _ _ | with_reducible refine Ext.setCell ?_ ?_ _ | with_reducible exact Nat.le_refl _ | (dsimp only; omega) | (simp only [World.size_alloc]; omega))); done))) (first
            | (go_at_call 102; refine Calls.mono (hM2.out _) ?_; rintro e w6 ⟨rfl, hext6⟩; have hq6 : Ext w5 w6 := Ext.trans (by (focus ((repeat (first | with_reducible assumption | with_reducible exact Ext.refl _ | with_reducible refine Ext.drew ?_ | with_reducible refine Ext.alloc ?_ _ _ | with_reducible refine Ext.setCell ?_ ?_ _ | with_reducible exact Nat.le_refl _ | (dsimp only; omega) | (simp only [World.size_alloc]; omega))); done))) hext6))
          all_goals (
            go_wp2
            go_ret2
            exact ⟨q, _, rfl, ho.out, hwx.trans (hq5.trans hq6)⟩))
      · have ho : Hid _ := hout.out false (decide_eq_false hE).symm
        clear hout hE hR1 hR2 hD2 hSB hlow hlb hxx hll hV hr hr1 hr2 hR0 hb1 hb2 z1 z2 hQQ hQA hQB hRR hMA hMB hcc cg hz hrr hrl hg hql hRLl h1 h2
        go_wp2_with fail
        refine Calls.mono (hDiv.out _) ?_
        rintro e w3 ⟨rfl, hext3⟩
        replace hN := hN.ext hext3
        replace hP := hP.ext hext3
        replace hwx := hwx.trans hext3
        clear hext3 n0 n1
        have d0 : ∀ w', Ext w3 w' → w'.cell? ⟨w1.heap.size, 0, none⟩ = some (.int .u64 (QA : Int)) := fun w' h => (hN.ext h).cell rfl
        have d1 : ∀ w', Ext w3 w' → w'.cell? ⟨w1.heap.size, 1, none⟩ = some (.int .u64 0) := fun w' h => (hN.ext h).cell rfl
        go_wp2_with fail
        go_region_held3 (fun w' => Ext w3 w') ((focus ((repeat (first | with_reducible assumption | with_reducible exact Ext.refl _ | with_reducible refine Ext.drew ?_ | with_reducible refine Ext.alloc ?_ _ _ | with_reducible refine Ext.setCell ?_ ?_ _ | with_reducible exact Nat.le_refl _ | (dsimp only; omega) | (simp only [World.size_alloc]; omega))); done))) (first
          | (go_at_call 102; refine Calls.mono (hM.out _) ?_; rintro e w4 ⟨rfl, hext4⟩; have hq4 : Ext w3 w4 := Ext.trans (by (focus ((repeat (first | with_reducible assumption | with_reducible exact Ext.refl _ | with_reducible refine Ext.drew ?_ | with_reducible refine Ext.alloc ?_ _ _ | with_reducible refine Ext.setCell ?_ ?_ _ | with_reducible exact Nat.le_refl _ | (dsimp only; omega) | (simp only [World.size_alloc]; omega))); done))) hext4)
          | (go_at_call 124; refine Calls.mono (hC.out _) ?_; rintro e w5 ⟨rfl, hext5⟩; have hq5 : Ext w3 w5 := Ext.trans (by (focus ((repeat (first | with_reducible assumption | with_reducible exact Ext.refl _ | with_reducible refine Ext.drew ?_ | with_reducible refine Ext.alloc ?_ _ _ | with_reducible refine Ext.setCell ?_ ?_ _ | with_reducible exact Nat.le_refl _ | (dsimp only; omega) | (simp only [World.size_alloc]; omega))); done))) hext5))
        all_goals (
          clear d0 d1
          replace hP := hP.ext hq5
          have d0 : ∀ w', Ext w5 w' → w'.cell? ⟨w.heap.size, 0, none⟩ = some (.int .u64 (QA : Int)) := fun w' h => (hP.ext h).cell rfl
          have d1 : ∀ w', Ext w5 w' → w'.cell? ⟨w.heap.size, 1, none⟩ = some (.int .u64 0) := fun w' h => (hP.ext h).cell rfl
          go_wp2_with fail
          go_region_held3 (fun w' => Ext w5 w') ((focus ((repeat (first | with_reducible assumption | with_reducible exact Ext.refl _ | with_reducible refine Ext.drew ?_ | with_reducible refine Ext.alloc ?_ _ _ | with_reducible refine Ext.setCell ?_ ?_ _ | with_reducible exact Nat.le_refl _ | (dsimp only; omega) | (simp only [World.size_alloc]; omega))); done))) (first
            | (go_at_call 102; refine Calls.mono (hM2.out _) ?_; rintro e w6 ⟨rfl, hext6⟩; have hq6 : Ext w5 w6 := Ext.trans (by (focus ((repeat (first | with_reducible assumption | with_reducible exact Ext.refl _ | with_reducible refine Ext.drew ?_ | with_reducible refine Ext.alloc ?_ _ _ | with_reducible refine Ext.setCell ?_ ?_ _ | with_reducible exact Nat.le_refl _ | (dsimp only; omega) | (simp only [World.size_alloc]; omega))); done))) hext6))
          all_goals (
            go_wp2
            go_ret2
            exact ⟨q, _, rfl, ho.out, hwx.trans (hq5.trans hq6)⟩))

end Go.Proofs.Ygcoai
