/-
  Seat gcoai. The plain law of the root, and SoftSqrt32 whole.
-/
import Derived.Test.YgcoaiPlain
import Derived.Test.YgcoaiSoftSqrt
import Derived.Test.YgcoaiExSqrt
import Derived.Deep.RegionHeld3
namespace Go.Proofs.Ygcoai
open Go.RowKit

theorem cmpI_scale {x y c : Nat} (hc : 0 < c) : cmpI (x * c) (y * c) = cmpI x y := by
  rcases Nat.lt_trichotomy x y with h | h | h
  · rw [cmpI_lt h, cmpI_lt (Nat.mul_lt_mul_of_pos_right h hc)]
  · rw [h, cmpI_eq rfl, cmpI_eq rfl]
  · rw [cmpI_gt h, cmpI_gt (Nat.mul_lt_mul_of_pos_right h hc)]

/-- The root's upper bits, rounded to nearest even. -/
theorem root_round {q s S Q0 : Nat} (hq : IsRoot q Q0) (hs : IsRoot s (Q0 * (1099511627776 * 1099511627776))) (hS : S = if s * s = Q0 * (1099511627776 * 1099511627776) then s else s ||| 1) :
    rne S 1099511627776 = q + (if xr (cmpI (Q0 * 4) ((2 * q + 1) * (2 * q + 1))) (decide (q % 2 = 1)) then 1 else 0) := by
  obtain ⟨V, hV⟩ : ∃ V, V = Q0 * (1099511627776 * 1099511627776) := ⟨_, rfl⟩
  rw [← hV] at hs hS
  obtain ⟨h, hh⟩ : ∃ h, h = (2 * q + 1) * 549755813888 := ⟨_, rfl⟩
  have hcmp : cmpI (Q0 * 4) ((2 * q + 1) * (2 * q + 1)) = cmpI V (h * h) := by
    rw [← cmpI_scale (c := 549755813888 * 549755813888) (by decide)]
    congr 1
    · rw [hV, Nat.mul_assoc]
    · rw [hh]; grind
  rw [hcmp]
  have hlo : q * 1099511627776 ≤ s := by
    rcases Nat.lt_or_ge s (q * 1099511627776) with hl | hl
    · exfalso
      have h1 := Nat.mul_le_mul (show s + 1 ≤ q * 1099511627776 from hl) (show s + 1 ≤ q * 1099511627776 from hl)
      have h2 := Nat.mul_le_mul_right (1099511627776 * 1099511627776) hq.1
      have e1 : q * 1099511627776 * (q * 1099511627776) = q * q * (1099511627776 * 1099511627776) := by grind
      rw [e1] at h1
      rw [← hV] at h2
      have := hs.2
      omega
    · exact hl
  have hhi : s < (q + 1) * 1099511627776 := by
    rcases Nat.lt_or_ge s ((q + 1) * 1099511627776) with hl | hl
    · exact hl
    · exfalso
      have h1 := Nat.mul_le_mul hl hl
      have h2 := Nat.mul_lt_mul_of_pos_right hq.2 (show 0 < 1099511627776 * 1099511627776 by decide)
      have e1 : (q + 1) * 1099511627776 * ((q + 1) * 1099511627776) = (q + 1) * (q + 1) * (1099511627776 * 1099511627776) := by grind
      rw [e1] at h1
      rw [← hV] at h2
      have := hs.1
      omega
  have hSb : (S = s ∧ s * s = V) ∨ (S = s / 2 * 2 + 1 ∧ s * s ≠ V) := by
    rw [hS]
    by_cases he : s * s = V
    · left; rw [if_pos he]; exact ⟨rfl, he⟩
    · right; rw [if_neg he, or_one]; exact ⟨rfl, he⟩
  clear hS hcmp hV
  have hhe : h = q * 1099511627776 + 549755813888 := by omega
  apply rne_eq (by decide)
  rcases Nat.lt_trichotomy V (h * h) with hc | hc | hc
  · rw [cmpI_lt hc, show xr (-1) (decide (q % 2 = 1)) = false from by unfold xr; simp]
    simp only [Bool.false_eq_true, if_false, Nat.add_zero]
    have hsh : s < h := by
      rcases Nat.lt_or_ge s h with hl | hl
      · exact hl
      · have := Nat.mul_le_mul hl hl
        have := hs.1
        omega
    have hSl : S < h ∧ s ≤ S := by omega
    refine ⟨by omega, by omega, fun _ => by omega, fun _ => by omega⟩
  · rw [cmpI_eq hc]
    have hsh : s = h := hs.unique ⟨Nat.le_of_eq hc.symm, by rw [hc]; exact Nat.mul_lt_mul_of_lt_of_lt (Nat.lt_succ_self h) (Nat.lt_succ_self h)⟩
    have hSe : S = h := by
      rcases hSb with ⟨h1, _⟩ | ⟨_, h2⟩
      · omega
      · exfalso; apply h2; rw [hsh, hc]
    by_cases ho : q % 2 = 1
    · rw [show xr 0 (decide (q % 2 = 1)) = true from by unfold xr; simp [ho]]
      simp only [if_true]
      refine ⟨by omega, by omega, fun _ => by omega, fun _ => by omega⟩
    · rw [show xr 0 (decide (q % 2 = 1)) = false from by unfold xr; simp [ho]]
      simp only [Bool.false_eq_true, if_false, Nat.add_zero]
      refine ⟨by omega, by omega, fun _ => by omega, fun _ => by omega⟩
  · rw [cmpI_gt hc, show xr 1 (decide (q % 2 = 1)) = true from by unfold xr; simp]
    simp only [if_true]
    have hsh : h ≤ s := by
      rcases Nat.lt_or_ge s h with hl | hl
      · have := Nat.mul_le_mul (show s + 1 ≤ h from hl) (show s + 1 ≤ h from hl)
        have := hs.2
        omega
      · exact hl
    have hne : S ≠ h := by
      rcases hSb with ⟨h1, h2⟩ | ⟨h1, _⟩
      · intro he
        have : s = h := by omega
        rw [this] at h2
        omega
      · omega
    have hSl : s ≤ S ∧ S ≤ s + 1 := by omega
    refine ⟨by omega, by omega, fun _ => by omega, fun _ => by omega⟩

theorem class_bits {a : Nat} : (pC a = 3 → uE a = 255 ∧ uF a = 0) ∧ (pC a = 0 → uE a = 0 ∧ uF a = 0) := by
  unfold pC
  by_cases e1 : uE a = 255
  · rw [if_pos e1]
    by_cases e2 : uF a = 0
    · rw [if_pos e2]; exact ⟨fun _ => ⟨e1, e2⟩, fun h => by omega⟩
    · rw [if_neg e2]; exact ⟨fun h => by omega, fun h => by omega⟩
  · rw [if_neg e1]
    by_cases e2 : uE a = 0
    · rw [if_pos e2]
      by_cases e3 : uF a = 0
      · rw [if_pos e3]; exact ⟨fun h => by omega, fun _ => ⟨e2, e3⟩⟩
      · rw [if_neg e3]; exact ⟨fun h => by omega, fun h => by omega⟩
    · rw [if_neg e2]; exact ⟨fun h => by omega, fun h => by omega⟩

theorem inf_bits2 {a : Nat} (ha : a < 4294967296) (h : pC a = 3) : a = 2139095040 + sgn (uS a) := by
  obtain ⟨h1, h2⟩ := class_bits.1 h
  unfold uE at h1
  unfold uF at h2
  unfold sgn uS
  by_cases hs : a / 2147483648 % 2 = 1
  · rw [decide_eq_true hs, if_pos rfl]; omega
  · rw [decide_eq_false hs, if_neg (by decide)]; omega
theorem zero_bits {a : Nat} (ha : a < 4294967296) (h : pC a = 0) : a = sgn (uS a) := by
  obtain ⟨h1, h2⟩ := class_bits.2 h
  unfold uE at h1
  unfold uF at h2
  unfold sgn uS
  by_cases hs : a / 2147483648 % 2 = 1
  · rw [decide_eq_true hs, if_pos rfl]; omega
  · rw [decide_eq_false hs, if_neg (by decide)]; omega

theorem pN_uS2 {x : Nat} (h : pC x ≠ 4) : pN x = uS x := by unfold pN; rw [if_neg h]

theorem bl_top {S : Nat} (h1 : 9223372036854775808 ≤ S) (h2 : S < 18446744073709551616) : bl S = 64 :=
  bl_unique (by decide) (Nat.le_trans (by decide : 2 ^ (64 - 1) ≤ 9223372036854775808) h1) (Nat.lt_of_lt_of_le h2 (by decide))

/-- soft.Sqrt and exact.Sqrt answer alike. -/
theorem root_same {a r1 r2 : Nat} (ha : a < 4294967296) (h1 : SRoot a r1) (h2 : XRoot a r2) : r1 = r2 := by
  unfold SRoot at h1
  unfold XRoot at h2
  by_cases c4 : pC a = 4
  · rw [if_neg (by omega), if_pos c4] at h1
    rw [if_pos c4] at h2
    rw [h1, h2]
  have hn := pN_uS2 c4
  by_cases c0 : pC a = 0
  · rw [if_pos c0, hn] at h1
    rw [if_neg c4, if_pos c0] at h2
    rw [h1, h2]; exact (zero_bits ha c0).symm
  rw [if_neg c0, if_neg c4, hn] at h1
  rw [if_neg c4, if_neg c0] at h2
  by_cases hs : uS a = true
  · rw [if_pos hs] at h1 h2
    rw [h1, h2]
  rw [if_neg hs] at h1 h2
  by_cases c3 : pC a = 3
  · rw [if_pos c3] at h1 h2
    have := inf_bits2 ha c3
    rw [show uS a = false from by simpa using hs] at this
    rw [h1, h2, this]; rfl
  rw [if_neg c3] at h1 h2
  have ka := parts_cases a
  have hp := parts_fin (x := a) (by omega)
  obtain ⟨H, E, s, b, hH, ⟨hr, hb, s1, s2⟩, rfl⟩ := h1
  obtain ⟨R, k, A, B, q, hR, hk, hA, hB, hq, rfl⟩ := h2
  -- the common number under the root
  obtain ⟨t, ht, hV, hRE⟩ : ∃ t : Nat, pX a + k = t ∧ H * 18446744073709551616 = pM a * 2 ^ t * (1099511627776 * 1099511627776) ∧ R = E + 63 := by
    rcases hH with ⟨hH, hE⟩ | ⟨hH, hE⟩
    · exact ⟨24, by omega, by rw [hH, Nat.mul_assoc, Nat.mul_assoc], by omega⟩
    · exact ⟨23, by omega, by rw [hH, Nat.mul_assoc, Nat.mul_assoc], by omega⟩
  have hAB : A = pM a * 2 ^ t * B := by
    have h := eq_shift (n := pM a) (d := pM a) (a := (pX a).toNat + k.toNat) (b := (pX a).toNat + k.toNat) rfl (a' := (pX a).toNat + k.toNat) (b' := t + (-pX a).toNat + (-k).toNat) (by omega)
    rw [hA, hB]
    unfold vN vD
    rw [Nat.mul_assoc, ← Nat.pow_add, ← Nat.pow_add, Nat.mul_assoc, ← Nat.pow_add]
    rw [h]
    congr 2
    omega
  have hB0 : 0 < B := by
    rw [hB]; unfold vD; exact Nat.mul_pos (Nat.two_pow_pos _) (Nat.two_pow_pos _)
  have hQ : A / B = pM a * 2 ^ t := by rw [hAB, Nat.mul_div_cancel _ hB0]
  rw [hQ] at hq
  rw [hV] at hr hb
  obtain ⟨S, hS⟩ : ∃ S, S = (if b = true then s else s ||| 1) := ⟨_, rfl⟩
  rw [← hS]
  have hS2 : S = if s * s = pM a * 2 ^ t * (1099511627776 * 1099511627776) then s else s ||| 1 := by
    rw [hS, hb]
    by_cases he : s * s = pM a * 2 ^ t * (1099511627776 * 1099511627776)
    · rw [if_pos he, decide_eq_true he, if_pos rfl]
    · rw [if_neg he, decide_eq_false he, if_neg (by decide)]
  have hSb : 9223372036854775808 ≤ S ∧ S < 18446744073709551616 := by
    rw [hS2]
    split
    · exact ⟨s1, s2⟩
    · exact ⟨Nat.le_trans s1 Nat.left_le_or, Nat.or_lt_two_pow (n := 64) s2 (by decide)⟩
  have hbl := bl_top hSb.1 hSb.2
  have hrr := root_round hq hr hS2
  have hup : rtUp A B q = q + (if xr (cmpI (pM a * 2 ^ t * 4) ((2 * q + 1) * (2 * q + 1))) (decide (q % 2 = 1)) then 1 else 0) := by
    unfold rtUp
    have e1 : A * 2 ^ 2 = pM a * 2 ^ t * 4 * B := by rw [hAB]; grind
    have e2 : (q * 2 ^ 1 + 1) * (q * 2 ^ 1 + 1) * B = (2 * q + 1) * (2 * q + 1) * B := by rw [Nat.pow_one, Nat.mul_comm q 2]
    rw [e1, e2, cmpI_scale hB0]
  rw [hup, ← hrr]
  unfold rp
  dsimp only
  rw [hbl]
  have hrl : E + ((64 : Nat) : Int) - 1 = R := by omega
  rw [hrl, if_neg (by omega)]
  have hmx : max R (-126) = R := by omega
  rw [hmx, show (40 + R - R).toNat = 40 by omega]
  unfold rpk
  dsimp only
  rw [hbl, Nat.sub_self, Nat.pow_zero, Nat.mul_one, cut_rne hSb.2 (by omega) (by decide)]

set_option maxRecDepth 20000 in
set_option maxHeartbeats 2000000 in
theorem lawSqrt (w : World) (a : Nat) (ha : a < 4294967296) :
    Calls Oaig.prog 14 #[.agg #[.int .u8 8, .int .u8 23], .int .u8 0, .int .u64 a] w fun e w' => e = .returned (.bool true) ∧ Ext w w' := by
  go_enter Oaig.func14, Oaig.ntmps14
  go_wp2_with fail
  obtain ⟨W, hW⟩ : ∃ W, W = w.alloc (.cells #[.int .u8 8, .int .u8 23] 25) := ⟨_, rfl⟩
  have hF : Blk W w.heap.size #[.int .u8 8, .int .u8 23] := by rw [hW]; exact Blk.new _ _ _
  have hw : Ext w W := by rw [hW]; exact (Ext.refl w).alloc _ _
  have c0 : ∀ w', Ext W w' → w'.cell? ⟨w.heap.size, 0, none⟩ = some (.int .u8 8) := fun w' h => (hF.ext h).cell rfl
  have c1 : ∀ w', Ext W w' → w'.cell? ⟨w.heap.size, 1, none⟩ = some (.int .u8 23) := fun w' h => (hF.ext h).cell rfl
  rw [← hW]
  clear hW
  go_region_held3 (fun w' => Ext W w') ((focus ((repeat (first | with_reducible assumption | with_reducible exact Ext.refl _ | with_reducible refine Ext.drew ?_ | with_reducible refine Ext.alloc ?_ _ _ | with_reducible refine Ext.setCell ?_ ?_ _ | with_reducible exact Nat.le_refl _ | (dsimp only; omega) | (simp only [World.size_alloc]; omega))); done))) (first
    | (go_at_call 23; refine (ok_any _).mono ?_; rintro e w1 ⟨rfl, hext1⟩; have hq1 : Ext W w1 := Ext.trans (by (focus ((repeat (first | with_reducible assumption | with_reducible exact Ext.refl _ | with_reducible refine Ext.drew ?_ | with_reducible refine Ext.alloc ?_ _ _ | with_reducible refine Ext.setCell ?_ ?_ _ | with_reducible exact Nat.le_refl _ | (dsimp only; omega) | (simp only [World.size_alloc]; omega))); done))) hext1)
    | (go_at_call 26; refine (softSqrt_any _ a ha).mono ?_; rintro e w2 ⟨r1, rfl, hr1, hext2⟩; have hq2 : Ext W w2 := Ext.trans (by (focus ((repeat (first | with_reducible assumption | with_reducible exact Ext.refl _ | with_reducible refine Ext.drew ?_ | with_reducible refine Ext.alloc ?_ _ _ | with_reducible refine Ext.setCell ?_ ?_ _ | with_reducible exact Nat.le_refl _ | (dsimp only; omega) | (simp only [World.size_alloc]; omega))); done))) hext2)
    | (go_at_call 27; refine (exactSqrt_any _ a ha).mono ?_; rintro e w3 ⟨r2, rfl, hr2, hext3⟩; have hq3 : Ext W w3 := Ext.trans (by (focus ((repeat (first | with_reducible assumption | with_reducible exact Ext.refl _ | with_reducible refine Ext.drew ?_ | with_reducible refine Ext.alloc ?_ _ _ | with_reducible refine Ext.setCell ?_ ?_ _ | with_reducible exact Nat.le_refl _ | (dsimp only; omega) | (simp only [World.size_alloc]; omega))); done))) hext3; obtain rfl := root_same ha hr1 hr2))
  go_wp2
  go_ret
  exact ⟨by simp, hw.trans hq3⟩

set_option maxHeartbeats 1000000 in
theorem softSqrt32_any (w : World) (a : Nat) (ha : a < 4294967296) :
    Calls Oaig.prog 7 #[.int .u32 a] w fun e w' => e = .returned (.bool true) ∧ Ext w w' := by
  go_enter Oaig.func7, Oaig.ntmps7
  go_wp2_with fail
  refine (binary32_any _).mono ?_
  rintro e w1 ⟨rfl, hext1⟩
  go_wp2_with fail
  refine (lawSqrt _ a ha).mono ?_
  rintro e w2 ⟨rfl, hext2⟩
  go_wp2
  go_ret
  exact ⟨rfl, hext1.trans hext2⟩

end Go.Proofs.Ygcoai
