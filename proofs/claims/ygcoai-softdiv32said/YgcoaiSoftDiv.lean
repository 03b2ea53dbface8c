/-
  Seat gcoai. soft.DivFlags (72) and soft.Div (43) at Binary32, NearestEven.
-/
import Derived.Test.YgcoaiWDiv
import Derived.Test.YgcoaiSoftMul
namespace Go.Proofs.Ygcoai
open Go.RowKit

/-- The quotient's 63 or 64 bits, the lowest standing for all that lies deeper. -/
def dq (m n : Nat) : Nat := m * 9223372036854775808 / n ||| (if m * 9223372036854775808 % n = 0 then 0 else 1)

/-- What soft.Div answers. -/
def sDiv (a b : Nat) : Nat :=
  if pC a = 4 ∨ pC b = 4 then 2143289344
  else if (pC a = 3 ∧ pC b = 3) ∨ (pC a = 0 ∧ pC b = 0) then 2143289344
  else if pC a = 3 ∨ pC b = 0 then 2139095040 + sgn (pN a != pN b)
  else if pC a = 0 ∨ pC b = 3 then sgn (pN a != pN b)
  else rp (pX a - pX b - 63) (dq (pM a) (pM b)) + sgn (pN a != pN b)

theorem dq_bd {m n : Nat} (h1 : 8388608 ≤ m) (h2 : m < 16777216) (h3 : 8388608 ≤ n) (h4 : n < 16777216) :
    4611686018427387904 ≤ m * 9223372036854775808 / n ∧ m * 9223372036854775808 / n < 18446744073709551616 ∧ 4611686018427387904 ≤ dq m n ∧ dq m n < 18446744073709551616 := by
  have e1 : m * 9223372036854775808 / n < 18446744073709551616 := Nat.div_lt_of_lt_mul (by omega)
  have e2 : 4611686018427387904 ≤ m * 9223372036854775808 / n := (Nat.le_div_iff_mul_le (by omega)).2 (by omega)
  refine ⟨e2, e1, ?_, ?_⟩
  · exact Nat.le_trans e2 Nat.left_le_or
  · unfold dq
    exact Nat.or_lt_two_pow (n := 64) e1 (by split <;> decide)

set_option maxRecDepth 20000 in
/-- wide.Div at soft.Div's operands. -/
theorem wdiv_soft (w : World) (m n : Nat) (h1 : 8388608 ≤ m) (h2 : m < 16777216) (h3 : 8388608 ≤ n) (h4 : n < 16777216) :
    Calls Oaig.prog 113 #[.agg #[.int .u64 (m * 549755813888 : Nat), .int .u64 0], .int .u64 (n * 1099511627776 : Nat)] w fun e w' => ∃ q r : Nat, e = .returned (.tuple #[.int .u64 q, .int .u64 r, .bool true]) ∧ Hid (q = m * 9223372036854775808 / n) ∧ Hid (r = 0 ↔ m * 9223372036854775808 % n = 0) ∧ Ext w w' := by
  have e5 : n * 1099511627776 = n * 256 * 4294967296 := by omega
  obtain ⟨A, hA⟩ : ∃ A, A = m * 549755813888 := ⟨_, rfl⟩
  obtain ⟨d, hd⟩ : ∃ d, d = n * 1099511627776 := ⟨_, rfl⟩
  have hb : bl d = 64 := bl_unique (by decide) (Nat.le_trans (by decide : 2 ^ (64 - 1) ≤ 9223372036854775808) (by omega)) (Nat.lt_of_lt_of_le (show d < 18446744073709551616 by omega) (by decide))
  have e1 : A * 18446744073709551616 + 0 = m * 9223372036854775808 * 1099511627776 := by
    rw [hA, Nat.add_zero, Nat.mul_assoc, Nat.mul_assoc]
  have e2 : (A * 18446744073709551616 + 0) / d = m * 9223372036854775808 / n := by rw [e1, hd, Nat.mul_div_mul_right _ _ (by decide)]
  have e4 : (A * 18446744073709551616 + 0) % d = m * 9223372036854775808 % n * 1099511627776 := by rw [e1, hd, Nat.mul_mod_mul_right]
  obtain ⟨z, hz⟩ : ∃ z, z = m * 9223372036854775808 % n := ⟨_, rfl⟩
  rw [← hz] at e4 ⊢
  have e3 : z * 1099511627776 = 0 ↔ z = 0 := by omega
  rw [← e4] at e3
  rw [← hA, ← hd]
  refine (wdiv_any w A 0 d 0 (n * 256) (by omega) (by rw [Nat.pow_zero, Nat.mul_one, hd, e5]) (by omega) (by decide) (by omega)).mono ?_
  generalize A * 18446744073709551616 + 0 = V at *
  rintro e w' ⟨rfl, hx⟩
  exact ⟨_, _, rfl, e2, e3, hx⟩

theorem sDiv_nan {a b : Nat} (h : pC a = 4 ∨ pC b = 4) : sDiv a b = 2143289344 := by unfold sDiv; rw [if_pos h]
theorem sDiv_bad {a b : Nat} (h : (pC a = 3 ∧ pC b = 3) ∨ (pC a = 0 ∧ pC b = 0)) : sDiv a b = 2143289344 := by unfold sDiv; rw [if_neg (by omega), if_pos h]
theorem sDiv_inf {a b : Nat} (h4 : ¬ (pC a = 4 ∨ pC b = 4)) (hb : ¬ ((pC a = 3 ∧ pC b = 3) ∨ (pC a = 0 ∧ pC b = 0))) (h : pC a = 3 ∨ pC b = 0) : sDiv a b = 2139095040 + sgn (pN a != pN b) := by
  unfold sDiv; rw [if_neg h4, if_neg hb, if_pos h]
theorem sDiv_zero {a b : Nat} (h4 : ¬ (pC a = 4 ∨ pC b = 4)) (h3 : ¬ (pC a = 3 ∨ pC b = 0)) (h : pC a = 0 ∨ pC b = 3) : sDiv a b = sgn (pN a != pN b) := by
  unfold sDiv; rw [if_neg h4, if_neg (by omega), if_neg h3, if_pos h]
theorem sDiv_fin {a b : Nat} (h1 : pC a = 1 ∨ pC a = 2) (h2 : pC b = 1 ∨ pC b = 2) : sDiv a b = rp (pX a - pX b - 63) (dq (pM a) (pM b)) + sgn (pN a != pN b) := by
  unfold sDiv; rw [if_neg (by omega), if_neg (by omega), if_neg (by omega), if_neg (by omega)]

set_option maxRecDepth 20000 in
set_option maxHeartbeats 8000000 in
theorem divFlags_any (w : World) (a b : Nat) (ha : a < 4294967296) (hb : b < 4294967296) :
    Calls Oaig.prog 72 #[.agg #[.int .u8 8, .int .u8 23], .int .u8 0, .int .u64 a, .int .u64 b] w fun e w' => ∃ fl : Int, e = .returned (.tuple #[.int .u64 (sDiv a b : Nat), .int .u8 fl]) ∧ Ext w w' := by
  go_enter Oaig.func72, Oaig.ntmps72
  go_wp2_with fail
  refine (ok_any _).mono ?_
  rintro e W ⟨rfl, hext0⟩
  have hF : Blk W w.heap.size #[.int .u8 8, .int .u8 23] := (Blk.new w _ 25).ext hext0
  have hw0 := hext0.of_alloc
  clear hext0
  have c0 : ∀ w', Ext W w' → w'.cell? ⟨w.heap.size, 0, none⟩ = some (.int .u8 8) := fun w' h => (hF.ext h).cell rfl
  have c1 : ∀ w', Ext W w' → w'.cell? ⟨w.heap.size, 1, none⟩ = some (.int .u8 23) := fun w' h => (hF.ext h).cell rfl
  have a0 := hF.cell (i := 0) rfl
  have a1 := hF.cell (i := 1) rfl
  go_upto_region 3 with fail
  go_cut [10, 11] from 20 (fun p q wc => ∃ B1 B2, p = .pointer (some ⟨B1, 0, none⟩) ∧ q = .pointer (some ⟨B2, 0, none⟩) ∧ Ext W wc ∧ Blk wc B1 #[.bool (pN a), .int .i8 (pC a), .int .i16 (pX a), .int .u64 (pM a)] ∧ Blk wc B2 #[.bool (pN b), .int .i8 (pC b), .int .i16 (pX b), .int .u64 (pM b)])
  case first =>
    go_region_held3 (fun w' => Ext W w') ((focus ((repeat (first | with_reducible assumption | with_reducible exact Ext.refl _ | with_reducible refine Ext.drew ?_ | with_reducible refine Ext.alloc ?_ _ _ | with_reducible refine Ext.setCell ?_ ?_ _ | with_reducible exact Nat.le_refl _ | (dsimp only; omega) | (simp only [World.size_alloc]; omega))); done))) (first
      | (go_at_call_of 77 (Value.int IntKind.u64 (a : Int)); refine (unpack_any _ a ha).mono ?_; rintro e w1 ⟨rfl, hext1⟩
         have hq1 : Ext W w1 := Ext.trans (by (focus ((repeat (first | with_reducible assumption | with_reducible exact Ext.refl _ | with_reducible refine Ext.drew ?_ | with_reducible refine Ext.alloc ?_ _ _ | with_reducible refine Ext.setCell ?_ ?_ _ | with_reducible exact Nat.le_refl _ | (dsimp only; omega) | (simp only [World.size_alloc]; omega))); done))) hext1
         have hs1 := hq1.size
         (first
           | (have hP : Blk w1 W.heap.size #[.bool false, .int .i8 0, .int .i16 0, .int .u64 0] := Blk.two1 hext1.undrew; have hP' : Blk w1 (W.heap.size + 1) #[.bool false, .int .i8 0, .int .i16 0, .int .u64 0] := Blk.two2 hext1.undrew)
           | (have hP : Blk w1 W.heap.size #[.bool false, .int .i8 0, .int .i16 0, .int .u64 0] := Blk.one hext1.undrew; have hPl := hP.lt; have hPn := Nat.ne_of_lt hPl)
           | skip))
      | (go_at_call_of 77 (Value.int IntKind.u64 (b : Int)); refine (unpack_any _ b hb).mono ?_; rintro e w2 ⟨rfl, hext2⟩
         have hq2 : Ext W w2 := Ext.trans (by (focus ((repeat (first | with_reducible assumption | with_reducible exact Ext.refl _ | with_reducible refine Ext.drew ?_ | with_reducible refine Ext.alloc ?_ _ _ | with_reducible refine Ext.setCell ?_ ?_ _ | with_reducible exact Nat.le_refl _ | (dsimp only; omega) | (simp only [World.size_alloc]; omega))); done))) hext2
         have hs2 := hq2.size
         (first
           | (have hM := Blk.two1 hext2; have hM' := Blk.two2 hext2; have m0 := hM.cell (i := 0) rfl; have m1 := hM.cell (i := 1) rfl; have m2 := hM.cell (i := 2) rfl; have m3 := hM.cell (i := 3) rfl; have mz := hM.fz; have ml := hM.lt; have mn := Nat.ne_of_lt hM.lt; have k0 := hM'.cell (i := 0) rfl; have k1 := hM'.cell (i := 1) rfl; have k2 := hM'.cell (i := 2) rfl; have k3 := hM'.cell (i := 3) rfl; have kz := hM'.fz; have kl := hM'.lt; have kn := Nat.ne_of_lt hM'.lt)
           | (have hM := Blk.one hext2; have m0 := hM.cell (i := 0) rfl; have m1 := hM.cell (i := 1) rfl; have m2 := hM.cell (i := 2) rfl; have m3 := hM.cell (i := 3) rfl; have mz := hM.fz; have ml := hM.lt; have mn := Nat.ne_of_lt hM.lt)
           | skip)
         (first
           | (have hP2 := hP.ext hext2; have p0 := hP2.cell (i := 0) rfl; have p1 := hP2.cell (i := 1) rfl; have p2 := hP2.cell (i := 2) rfl; have p3 := hP2.cell (i := 3) rfl; have pz := hP2.fz; have pl := hP2.lt; have pn := Nat.ne_of_lt hP2.lt)
           | (have hP2 := hP.ext hext2.of_alloc; have p0 := hP2.cell (i := 0) rfl; have p1 := hP2.cell (i := 1) rfl; have p2 := hP2.cell (i := 2) rfl; have p3 := hP2.cell (i := 3) rfl; have pz := hP2.fz; have pl := hP2.lt; have pn := Nat.ne_of_lt hP2.lt)
           | skip)
         (first
           | (have hQ2 := hP'.ext hext2; have q0 := hQ2.cell (i := 0) rfl; have q1 := hQ2.cell (i := 1) rfl; have q2 := hQ2.cell (i := 2) rfl; have q3 := hQ2.cell (i := 3) rfl; have qz := hQ2.fz; have ql := hQ2.lt; have qn := Nat.ne_of_lt hQ2.lt)
           | skip)))
    all_goals (go_wp2_with fail; go_meet)
    all_goals (case rel => exact ⟨_, _, rfl, rfl, by (focus ((repeat (first | with_reducible assumption | with_reducible exact Ext.refl _ | with_reducible refine Ext.drew ?_ | with_reducible refine Ext.alloc ?_ _ _ | with_reducible refine Ext.setCell ?_ ?_ _ | with_reducible exact Nat.le_refl _ | (dsimp only; omega) | (simp only [World.size_alloc]; omega))); done)), by (focus ((repeat (first | with_reducible assumption | with_reducible exact Blk.new _ _ _ | with_reducible exact Blk.new' _ _ (by simp) | with_reducible refine Blk.alloc ?_ _ _ | with_reducible refine Blk.set4 (a := .bool false) (b := .int .i8 0) (c := .int .i16 0) (d := .int .u64 0) ?_ | with_reducible refine Blk.setOther4 ?_ ?_ | with_reducible refine Blk.setOther ?_ ?_ _ | with_reducible refine Blk.drew ?_ | (apply Ne.symm; with_reducible assumption) | omega)); done)), by (focus ((repeat (first | with_reducible assumption | with_reducible exact Blk.new _ _ _ | with_reducible exact Blk.new' _ _ (by simp) | with_reducible refine Blk.alloc ?_ _ _ | with_reducible refine Blk.set4 (a := .bool false) (b := .int .i8 0) (c := .int .i16 0) (d := .int .u64 0) ?_ | with_reducible refine Blk.setOther4 ?_ ?_ | with_reducible refine Blk.setOther ?_ ?_ _ | with_reducible refine Blk.drew ?_ | (apply Ne.symm; with_reducible assumption) | omega)); done))⟩)
  case rest =>
    obtain ⟨B1, B2, rfl, rfl, hxc, hB1, hB2⟩ := hcut
    have hwc := hw0.trans hxc
    have hFc := hF.ext hxc
    have ff0 := hFc.cell (i := 0) rfl
    have ff1 := hFc.cell (i := 1) rfl
    have fg0 : ∀ w', Ext wc w' → w'.cell? ⟨w.heap.size, 0, none⟩ = some (.int .u8 8) := fun w' h => (hFc.ext h).cell rfl
    have fg1 : ∀ w', Ext wc w' → w'.cell? ⟨w.heap.size, 1, none⟩ = some (.int .u8 23) := fun w' h => (hFc.ext h).cell rfl
    have x0 := hB1.cell (i := 0) rfl
    have x1 := hB1.cell (i := 1) rfl
    have x2 := hB1.cell (i := 2) rfl
    have x3 := hB1.cell (i := 3) rfl
    have y0 := hB2.cell (i := 0) rfl
    have y1 := hB2.cell (i := 1) rfl
    have y2 := hB2.cell (i := 2) rfl
    have y3 := hB2.cell (i := 3) rfl
    clear c0 c1 a0 a1
    obtain ⟨ca, hca⟩ : ∃ c, c = pC a := ⟨_, rfl⟩
    obtain ⟨cb, hcb⟩ : ∃ c, c = pC b := ⟨_, rfl⟩
    obtain ⟨na, hna⟩ : ∃ c, c = pN a := ⟨_, rfl⟩
    obtain ⟨nb, hnb⟩ : ∃ c, c = pN b := ⟨_, rfl⟩
    have ka := kinds a
    have kb := kinds b
    dsimp only [List.getElem_toArray, List.getElem_cons_succ, List.getElem_cons_zero] at x0 x1 x2 x3 y0 y1 y2 y3
    rw [← hca] at x1 ka
    rw [← hcb] at y1 kb
    rw [← hna] at x0
    rw [← hnb] at y0
    rcases ka with hka | hka | hka | hka
    · rw [hka] at x1
      clear kb
      have hfin : Hid (sDiv a b = 2143289344) := sDiv_nan (by omega)
      clear hca hcb hna hnb x2 x3 y2 y3
      go_wp2_with fail
      go_region_held3 (fun w' => Ext wc w') ((focus ((repeat (first | with_reducible assumption | with_reducible exact Ext.refl _ | with_reducible refine Ext.drew ?_ | with_reducible refine Ext.alloc ?_ _ _ | with_reducible refine Ext.setCell ?_ ?_ _ | with_reducible exact Nat.le_refl _ | (dsimp only; omega) | (simp only [World.size_alloc]; omega))); done))) (first
        | (go_at_call 79; refine (theNaN_any _).mono ?_; rintro e w3 ⟨rfl, hext3⟩; have hq3 : Ext wc w3 := Ext.trans (by (focus ((repeat (first | with_reducible assumption | with_reducible exact Ext.refl _ | with_reducible refine Ext.drew ?_ | with_reducible refine Ext.alloc ?_ _ _ | with_reducible refine Ext.setCell ?_ ?_ _ | with_reducible exact Nat.le_refl _ | (dsimp only; omega) | (simp only [World.size_alloc]; omega))); done))) hext3)
        | (go_at_call 80; refine (heard_any _ a b ha hb).mono ?_; rintro e w4 ⟨fl, rfl, hext4⟩; have hq4 : Ext wc w4 := Ext.trans (by (focus ((repeat (first | with_reducible assumption | with_reducible exact Ext.refl _ | with_reducible refine Ext.drew ?_ | with_reducible refine Ext.alloc ?_ _ _ | with_reducible refine Ext.setCell ?_ ?_ _ | with_reducible exact Nat.le_refl _ | (dsimp only; omega) | (simp only [World.size_alloc]; omega))); done))) hext4))
      all_goals (go_wp2; go_ret2; exact ⟨_, by rw [hfin.out]; rfl, hwc.trans (by (focus ((repeat (first | with_reducible assumption | with_reducible exact Ext.refl _ | with_reducible refine Ext.drew ?_ | with_reducible refine Ext.alloc ?_ _ _ | with_reducible refine Ext.setCell ?_ ?_ _ | with_reducible exact Nat.le_refl _ | (dsimp only; omega) | (simp only [World.size_alloc]; omega))); done)))⟩)
    · rw [hka] at x1
      rcases kb with hkb | hkb | hkb | hkb
      · rw [hkb] at y1
        have hfin : Hid (sDiv a b = 2143289344) := sDiv_nan (by omega)
        clear hca hcb hna hnb x2 x3 y2 y3
        go_wp2_with fail
        go_region_held3 (fun w' => Ext wc w') ((focus ((repeat (first | with_reducible assumption | with_reducible exact Ext.refl _ | with_reducible refine Ext.drew ?_ | with_reducible refine Ext.alloc ?_ _ _ | with_reducible refine Ext.setCell ?_ ?_ _ | with_reducible exact Nat.le_refl _ | (dsimp only; omega) | (simp only [World.size_alloc]; omega))); done))) (first
          | (go_at_call 79; refine (theNaN_any _).mono ?_; rintro e w3 ⟨rfl, hext3⟩; have hq3 : Ext wc w3 := Ext.trans (by (focus ((repeat (first | with_reducible assumption | with_reducible exact Ext.refl _ | with_reducible refine Ext.drew ?_ | with_reducible refine Ext.alloc ?_ _ _ | with_reducible refine Ext.setCell ?_ ?_ _ | with_reducible exact Nat.le_refl _ | (dsimp only; omega) | (simp only [World.size_alloc]; omega))); done))) hext3)
          | (go_at_call 80; refine (heard_any _ a b ha hb).mono ?_; rintro e w4 ⟨fl, rfl, hext4⟩; have hq4 : Ext wc w4 := Ext.trans (by (focus ((repeat (first | with_reducible assumption | with_reducible exact Ext.refl _ | with_reducible refine Ext.drew ?_ | with_reducible refine Ext.alloc ?_ _ _ | with_reducible refine Ext.setCell ?_ ?_ _ | with_reducible exact Nat.le_refl _ | (dsimp only; omega) | (simp only [World.size_alloc]; omega))); done))) hext4))
        all_goals (go_wp2; go_ret2; exact ⟨_, by rw [hfin.out]; rfl, hwc.trans (by (focus ((repeat (first | with_reducible assumption | with_reducible exact Ext.refl _ | with_reducible refine Ext.drew ?_ | with_reducible refine Ext.alloc ?_ _ _ | with_reducible refine Ext.setCell ?_ ?_ _ | with_reducible exact Nat.le_refl _ | (dsimp only; omega) | (simp only [World.size_alloc]; omega))); done)))⟩)
      · rw [hkb] at y1
        have hfin : Hid (sDiv a b = 2143289344) := sDiv_bad (by omega)
        clear hca hcb hna hnb
        go_wp2_with fail
        refine (theNaN_any _).mono ?_
        rintro e w3 ⟨rfl, hext3⟩
        go_wp2
        go_ret2
        exact ⟨_, by rw [hfin.out]; rfl, hwc.trans hext3⟩
      · rw [hkb] at y1
        have hfin : Hid (sDiv a b = 2139095040 + sgn (na != nb)) := by show sDiv a b = _; rw [hna, hnb]; exact sDiv_inf (by omega) (by omega) (by omega)
        clear hca hcb hna hnb
        go_wp2_with fail
        refine (inf_any _ (na != nb)).mono ?_
        rintro e w3 ⟨rfl, hext3⟩
        go_wp2
        go_ret2
        exact ⟨_, by rw [hfin.out]; rfl, hwc.trans hext3⟩
      · have gcb4 : (cb == 4) = false := by rw [beq_eq_false_iff_ne]; omega
        have gcb3 : (cb == 3) = false := by rw [beq_eq_false_iff_ne]; omega
        have gcb0 : (cb == 0) = false := by rw [beq_eq_false_iff_ne]; omega
        have hfin : Hid (sDiv a b = 2139095040 + sgn (na != nb)) := by show sDiv a b = _; rw [hna, hnb]; exact sDiv_inf (by omega) (by omega) (by omega)
        clear hca hcb hna hnb
        go_wp2_with fail
        refine (inf_any _ (na != nb)).mono ?_
        rintro e w3 ⟨rfl, hext3⟩
        go_wp2
        go_ret2
        exact ⟨_, by rw [hfin.out]; rfl, hwc.trans hext3⟩
    · rw [hka] at x1
      rcases kb with hkb | hkb | hkb | hkb
      · rw [hkb] at y1
        have hfin : Hid (sDiv a b = 2143289344) := sDiv_nan (by omega)
        clear hca hcb hna hnb x2 x3 y2 y3
        go_wp2_with fail
        go_region_held3 (fun w' => Ext wc w') ((focus ((repeat (first | with_reducible assumption | with_reducible exact Ext.refl _ | with_reducible refine Ext.drew ?_ | with_reducible refine Ext.alloc ?_ _ _ | with_reducible refine Ext.setCell ?_ ?_ _ | with_reducible exact Nat.le_refl _ | (dsimp only; omega) | (simp only [World.size_alloc]; omega))); done))) (first
          | (go_at_call 79; refine (theNaN_any _).mono ?_; rintro e w3 ⟨rfl, hext3⟩; have hq3 : Ext wc w3 := Ext.trans (by (focus ((repeat (first | with_reducible assumption | with_reducible exact Ext.refl _ | with_reducible refine Ext.drew ?_ | with_reducible refine Ext.alloc ?_ _ _ | with_reducible refine Ext.setCell ?_ ?_ _ | with_reducible exact Nat.le_refl _ | (dsimp only; omega) | (simp only [World.size_alloc]; omega))); done))) hext3)
          | (go_at_call 80; refine (heard_any _ a b ha hb).mono ?_; rintro e w4 ⟨fl, rfl, hext4⟩; have hq4 : Ext wc w4 := Ext.trans (by (focus ((repeat (first | with_reducible assumption | with_reducible exact Ext.refl _ | with_reducible refine Ext.drew ?_ | with_reducible refine Ext.alloc ?_ _ _ | with_reducible refine Ext.setCell ?_ ?_ _ | with_reducible exact Nat.le_refl _ | (dsimp only; omega) | (simp only [World.size_alloc]; omega))); done))) hext4))
        all_goals (go_wp2; go_ret2; exact ⟨_, by rw [hfin.out]; rfl, hwc.trans (by (focus ((repeat (first | with_reducible assumption | with_reducible exact Ext.refl _ | with_reducible refine Ext.drew ?_ | with_reducible refine Ext.alloc ?_ _ _ | with_reducible refine Ext.setCell ?_ ?_ _ | with_reducible exact Nat.le_refl _ | (dsimp only; omega) | (simp only [World.size_alloc]; omega))); done)))⟩)
      · rw [hkb] at y1
        have hfin : Hid (sDiv a b = sgn (na != nb)) := by show sDiv a b = _; rw [hna, hnb]; exact sDiv_zero (by omega) (by omega) (by omega)
        clear hca hcb hna hnb
        go_wp2_with fail
        refine (zero_any _ (na != nb)).mono ?_
        rintro e w3 ⟨rfl, hext3⟩
        go_wp2
        go_ret2
        exact ⟨_, by rw [hfin.out]; rfl, hwc.trans hext3⟩
      · rw [hkb] at y1
        have hfin : Hid (sDiv a b = 2143289344) := sDiv_bad (by omega)
        clear hca hcb hna hnb
        go_wp2_with fail
        refine (theNaN_any _).mono ?_
        rintro e w3 ⟨rfl, hext3⟩
        go_wp2
        go_ret2
        exact ⟨_, by rw [hfin.out]; rfl, hwc.trans hext3⟩
      · have gcb4 : (cb == 4) = false := by rw [beq_eq_false_iff_ne]; omega
        have gcb3 : (cb == 3) = false := by rw [beq_eq_false_iff_ne]; omega
        have gcb0 : (cb == 0) = false := by rw [beq_eq_false_iff_ne]; omega
        have hfin : Hid (sDiv a b = sgn (na != nb)) := by show sDiv a b = _; rw [hna, hnb]; exact sDiv_zero (by omega) (by omega) (by omega)
        clear hca hcb hna hnb
        go_wp2_with fail
        refine (zero_any _ (na != nb)).mono ?_
        rintro e w3 ⟨rfl, hext3⟩
        go_wp2
        go_ret2
        exact ⟨_, by rw [hfin.out]; rfl, hwc.trans hext3⟩
    · have gca4 : (ca == 4) = false := by rw [beq_eq_false_iff_ne]; omega
      have gca3 : (ca == 3) = false := by rw [beq_eq_false_iff_ne]; omega
      have gca0 : (ca == 0) = false := by rw [beq_eq_false_iff_ne]; omega
      rcases kb with hkb | hkb | hkb | hkb
      · rw [hkb] at y1
        have hfin : Hid (sDiv a b = 2143289344) := sDiv_nan (by omega)
        clear hca hcb hna hnb x2 x3 y2 y3
        go_wp2_with fail
        go_region_held3 (fun w' => Ext wc w') ((focus ((repeat (first | with_reducible assumption | with_reducible exact Ext.refl _ | with_reducible refine Ext.drew ?_ | with_reducible refine Ext.alloc ?_ _ _ | with_reducible refine Ext.setCell ?_ ?_ _ | with_reducible exact Nat.le_refl _ | (dsimp only; omega) | (simp only [World.size_alloc]; omega))); done))) (first
          | (go_at_call 79; refine (theNaN_any _).mono ?_; rintro e w3 ⟨rfl, hext3⟩; have hq3 : Ext wc w3 := Ext.trans (by (focus ((repeat (first | with_reducible assumption | with_reducible exact Ext.refl _ | with_reducible refine Ext.drew ?_ | with_reducible refine Ext.alloc ?_ _ _ | with_reducible refine Ext.setCell ?_ ?_ _ | with_reducible exact Nat.le_refl _ | (dsimp only; omega) | (simp only [World.size_alloc]; omega))); done))) hext3)
          | (go_at_call 80; refine (heard_any _ a b ha hb).mono ?_; rintro e w4 ⟨fl, rfl, hext4⟩; have hq4 : Ext wc w4 := Ext.trans (by (focus ((repeat (first | with_reducible assumption | with_reducible exact Ext.refl _ | with_reducible refine Ext.drew ?_ | with_reducible refine Ext.alloc ?_ _ _ | with_reducible refine Ext.setCell ?_ ?_ _ | with_reducible exact Nat.le_refl _ | (dsimp only; omega) | (simp only [World.size_alloc]; omega))); done))) hext4))
        all_goals (go_wp2; go_ret2; exact ⟨_, by rw [hfin.out]; rfl, hwc.trans (by (focus ((repeat (first | with_reducible assumption | with_reducible exact Ext.refl _ | with_reducible refine Ext.drew ?_ | with_reducible refine Ext.alloc ?_ _ _ | with_reducible refine Ext.setCell ?_ ?_ _ | with_reducible exact Nat.le_refl _ | (dsimp only; omega) | (simp only [World.size_alloc]; omega))); done)))⟩)
      · rw [hkb] at y1
        have hfin : Hid (sDiv a b = sgn (na != nb)) := by show sDiv a b = _; rw [hna, hnb]; exact sDiv_zero (by omega) (by omega) (by omega)
        clear hca hcb hna hnb
        go_wp2_with fail
        refine (zero_any _ (na != nb)).mono ?_
        rintro e w3 ⟨rfl, hext3⟩
        go_wp2
        go_ret2
        exact ⟨_, by rw [hfin.out]; rfl, hwc.trans hext3⟩
      · rw [hkb] at y1
        have hfin : Hid (sDiv a b = 2139095040 + sgn (na != nb)) := by show sDiv a b = _; rw [hna, hnb]; exact sDiv_inf (by omega) (by omega) (by omega)
        clear hca hcb hna hnb
        go_wp2_with fail
        refine (inf_any _ (na != nb)).mono ?_
        rintro e w3 ⟨rfl, hext3⟩
        go_wp2
        go_ret2
        exact ⟨_, by rw [hfin.out]; rfl, hwc.trans hext3⟩
      · have gcb4 : (cb == 4) = false := by rw [beq_eq_false_iff_ne]; omega
        have gcb3 : (cb == 3) = false := by rw [beq_eq_false_iff_ne]; omega
        have gcb0 : (cb == 0) = false := by rw [beq_eq_false_iff_ne]; omega
        have hpa := parts_fin (x := a) (by omega)
        have hpb := parts_fin (x := b) (by omega)
        obtain ⟨ma, hma⟩ : ∃ c, c = pM a := ⟨_, rfl⟩
        obtain ⟨mb, hmb⟩ : ∃ c, c = pM b := ⟨_, rfl⟩
        obtain ⟨xa, hxa⟩ : ∃ c, c = pX a := ⟨_, rfl⟩
        obtain ⟨xb, hxb⟩ : ∃ c, c = pX b := ⟨_, rfl⟩
        rw [← hma, ← hxa] at hpa
        rw [← hmb, ← hxb] at hpb
        rw [← hma] at x3
        rw [← hxa] at x2
        rw [← hmb] at y3
        rw [← hxb] at y2
        obtain ⟨m1, m2, m3, m4, -⟩ := hpa
        obtain ⟨n1, n2, n3, n4, -⟩ := hpb
        obtain ⟨d1, d2, d3, d4⟩ := dq_bd m1 m2 n1 n2
        have hfin : Hid (sDiv a b = rp (xa - xb - 63) (dq ma mb) + sgn (na != nb)) := by
          show sDiv a b = _
          rw [hna, hnb, hma, hmb, hxa, hxb]; exact sDiv_fin (by omega) (by omega)
        have hDiv := fun w' => wdiv_soft w' ma mb m1 m2 n1 n2
        obtain ⟨MA, hMA⟩ : ∃ c, c = ma * 1099511627776 := ⟨_, rfl⟩
        obtain ⟨MB, hMB⟩ : ∃ c, c = mb * 1099511627776 := ⟨_, rfl⟩
        obtain ⟨HA, hHA⟩ : ∃ c, c = ma * 549755813888 := ⟨_, rfl⟩
        have hTa := fun w' => top_any w' na ca xa ma m2 (by omega) (by omega)
        have hTb := fun w' => top_any w' nb cb xb mb n2 (by omega) (by omega)
        rw [← hMA] at hTa
        rw [← hMB] at hTb
        rw [← hMB, ← hHA] at hDiv
        have g1 : (MA : Int) / 2 = (HA : Int) := by omega
        have g2 : IntKind.u64.wrap ((MA : Int) * 9223372036854775808) = 0 := by
          have e : (MA : Int) * 9223372036854775808 = 18446744073709551616 * ((ma * 549755813888 : Nat) : Int) := by omega
          rw [IntKind.wrap_u64, e]; exact Int.mul_emod_right _ _
        replace hTa : Hid _ := hTa
        replace hTb : Hid _ := hTb
        replace hDiv : Hid _ := hDiv
        clear hca hcb hna hnb hma hmb hxa hxb hMA hMB hHA
        go_wp2_with fail
        refine Calls.mono (hTa.out _) ?_
        rintro e w3 ⟨rfl, hext3⟩
        replace ff0 := hext3.cell ff0
        replace ff1 := hext3.cell ff1
        replace y0 := hext3.cell y0
        replace y1 := hext3.cell y1
        replace y2 := hext3.cell y2
        replace y3 := hext3.cell y3
        go_wp2_with fail
        refine Calls.mono (hTb.out _) ?_
        rintro e w4 ⟨rfl, hext4⟩
        replace ff0 := hext4.cell ff0
        replace ff1 := hext4.cell ff1
        go_wp2_with fail
        refine Calls.mono (hDiv.out _) ?_
        rintro e w5 ⟨q, r, rfl, hq, hr, hext5⟩
        replace ff0 := hext5.cell ff0
        replace ff1 := hext5.cell ff1
        have hql : q < 18446744073709551616 := by rw [hq.out]; exact d2
        have hqn : q ≠ 0 := by have := hq.out; omega
        by_cases hr0 : r = 0
        · have q2 : ((r : Int) != 0) = false := by rw [hr0]; rfl
          have hdq : Hid (dq ma mb = q) := by show dq ma mb = q; unfold dq; rw [if_pos (hr.out.1 hr0), Nat.or_zero, hq.out]
          clear hr0
          go_wp2_with fail
          refine (roundPack_any _ (na != nb) (xa - 40 - (xb - 40) - 63) q hqn hql (by omega) (by omega)).mono ?_
          rintro e w6 ⟨fl, rfl, hext6⟩
          go_wp2
          go_ret2
          exact ⟨_, by rw [hfin.out, hdq.out, show xa - xb - 63 = xa - 40 - (xb - 40) - 63 by omega]; rfl, hwc.trans (hext3.trans (hext4.trans (hext5.trans hext6)))⟩
        · have q2 : ((r : Int) != 0) = true := by rw [bne_iff_ne]; omega
          obtain ⟨S, hS⟩ : ∃ S, S = q ||| 1 := ⟨_, rfl⟩
          have hor : bits BinOp.or IntKind.u64 (q : Int) 1 = (S : Int) := by rw [hS, show (1 : Int) = ((1 : Nat) : Int) from rfl, u64_or_nat _ _ hql (by decide)]
          have hdq' : dq ma mb = S := by unfold dq; rw [if_neg (fun h => hr0 (hr.out.2 h)), hS, hq.out]
          have hdq : Hid (dq ma mb = S) := hdq'
          have hSl : S < 18446744073709551616 := by omega
          have hSn : S ≠ 0 := by omega
          clear hr0 hdq' hS
          go_wp2_with fail
          refine (roundPack_any _ (na != nb) (xa - 40 - (xb - 40) - 63) S hSn hSl (by omega) (by omega)).mono ?_
          rintro e w6 ⟨fl, rfl, hext6⟩
          go_wp2
          go_ret2
          exact ⟨_, by rw [hfin.out, hdq.out, show xa - xb - 63 = xa - 40 - (xb - 40) - 63 by omega]; rfl, hwc.trans (hext3.trans (hext4.trans (hext5.trans hext6)))⟩

set_option maxHeartbeats 1000000 in
theorem softDiv_any (w : World) (a b : Nat) (ha : a < 4294967296) (hb : b < 4294967296) :
    Calls Oaig.prog 43 #[.agg #[.int .u8 8, .int .u8 23], .int .u8 0, .int .u64 a, .int .u64 b] w fun e w' => e = .returned (.int .u64 (sDiv a b : Nat)) ∧ Ext w w' := by
  go_enter Oaig.func43, Oaig.ntmps43
  go_wp2_with fail
  refine (divFlags_any _ a b ha hb).mono ?_
  rintro e w1 ⟨fl, rfl, hext1⟩
  go_wp2
  go_ret
  exact ⟨rfl, hext1.of_alloc⟩

end Go.Proofs.Ygcoai
