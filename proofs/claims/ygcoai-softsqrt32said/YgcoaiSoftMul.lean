/-
  Seat gcoai. soft.MulFlags (71) and soft.Mul (42) at Binary32, NearestEven.
-/
import Derived.Test.YgcoaiJam
import Derived.Test.YgcoaiTwo
import Derived.Deep.Cut
import Derived.Deep.RegionHeld3
namespace Go.Proofs.Ygcoai
open Go.RowKit

/-- What soft.Mul answers. -/
def sMul (a b : Nat) : Nat :=
  if pC a = 4 ∨ pC b = 4 then 2143289344
  else if (pC a = 3 ∧ pC b = 0) ∨ (pC a = 0 ∧ pC b = 3) then 2143289344
  else if pC a = 3 ∨ pC b = 3 then 2139095040 + sgn (pN a != pN b)
  else if pC a = 0 ∨ pC b = 0 then sgn (pN a != pN b)
  else rp (pX a + pX b - 64 + bl (pM a * pM b)) (jamS (pM a * pM b)) + sgn (pN a != pN b)

theorem kinds (x : Nat) : pC x = 4 ∨ pC x = 3 ∨ pC x = 0 ∨ (pC x = 1 ∨ pC x = 2) := by
  rcases parts_cases x with h | h | h | h | h <;> simp [h]

theorem jamS_bd {V : Nat} (h0 : V ≠ 0) (hV : V < 340282366920938463463374607431768211456) : 9223372036854775808 ≤ jamS V ∧ jamS V < 18446744073709551616 := by
  have h1 := bl_lt V
  have h2 := bl_le h0
  have h3 := bl_pos h0
  have h4 : bl V ≤ 128 := bl_le_of_lt (k := 128) hV
  have e1 : V * 2 ^ (128 - bl V) < 2 ^ 128 := by
    have := Nat.mul_lt_mul_of_pos_right h1 (Nat.two_pow_pos (128 - bl V))
    rw [← Nat.pow_add, show bl V + (128 - bl V) = 128 by omega] at this; exact this
  have e2 : 2 ^ 127 ≤ V * 2 ^ (128 - bl V) := by
    have := Nat.mul_le_mul_right (2 ^ (128 - bl V)) h2
    rw [← Nat.pow_add, show bl V - 1 + (128 - bl V) = 127 by omega] at this; exact this
  have f1 : V * 2 ^ (128 - bl V) / 18446744073709551616 < 18446744073709551616 := Nat.div_lt_of_lt_mul e1
  have f2 : 9223372036854775808 ≤ V * 2 ^ (128 - bl V) / 18446744073709551616 := (Nat.le_div_iff_mul_le (by decide)).2 e2
  unfold jamS
  split
  · simp only [Nat.or_zero]; exact ⟨f2, f1⟩
  · refine ⟨Nat.le_trans f2 Nat.left_le_or, ?_⟩
    exact Nat.or_lt_two_pow (n := 64) f1 (by decide)

theorem sMul_nan {a b : Nat} (h : pC a = 4 ∨ pC b = 4) : sMul a b = 2143289344 := by unfold sMul; rw [if_pos h]
theorem sMul_bad {a b : Nat} (h : (pC a = 3 ∧ pC b = 0) ∨ (pC a = 0 ∧ pC b = 3)) : sMul a b = 2143289344 := by unfold sMul; rw [if_neg (by omega), if_pos h]
theorem sMul_inf {a b : Nat} (h4 : ¬ (pC a = 4 ∨ pC b = 4)) (hb : ¬ ((pC a = 3 ∧ pC b = 0) ∨ (pC a = 0 ∧ pC b = 3))) (h : pC a = 3 ∨ pC b = 3) : sMul a b = 2139095040 + sgn (pN a != pN b) := by
  unfold sMul; rw [if_neg h4, if_neg hb, if_pos h]
theorem sMul_zero {a b : Nat} (h4 : ¬ (pC a = 4 ∨ pC b = 4)) (h3 : ¬ (pC a = 3 ∨ pC b = 3)) (h : pC a = 0 ∨ pC b = 0) : sMul a b = sgn (pN a != pN b) := by
  unfold sMul; rw [if_neg h4, if_neg (by omega), if_neg h3, if_pos h]
theorem sMul_fin {a b : Nat} (h1 : pC a = 1 ∨ pC a = 2) (h2 : pC b = 1 ∨ pC b = 2) : sMul a b = rp (pX a + pX b - 64 + bl (pM a * pM b)) (jamS (pM a * pM b)) + sgn (pN a != pN b) := by
  unfold sMul; rw [if_neg (by omega), if_neg (by omega), if_neg (by omega), if_neg (by omega)]

set_option maxRecDepth 20000 in
set_option maxHeartbeats 8000000 in
theorem mulFlags_any (w : World) (a b : Nat) (ha : a < 4294967296) (hb : b < 4294967296) :
    Calls Oaig.prog 71 #[.agg #[.int .u8 8, .int .u8 23], .int .u8 0, .int .u64 a, .int .u64 b] w fun e w' => ∃ fl : Int, e = .returned (.tuple #[.int .u64 (sMul a b : Nat), .int .u8 fl]) ∧ Ext w w' := by
  go_enter Oaig.func71, Oaig.ntmps71
  go_wp2_with fail
  refine (ok_any _).mono ?_
  rintro e W ⟨rfl, hext0⟩
  have hF : Blk W w.heap.size #[.int .u8 8, .int .u8 23] := (Blk.new w _ 25).ext hext0
  have hw0 := hext0.of_alloc
  clear hext0
  have c0 : ∀ w', Ext W w' → w'.cell? ⟨w.heap.size, 0, none⟩ = some (.int .u8 8) := fun w' h => (hF.ext h).cell rfl
  have c1 : ∀ w', Ext W w' → w'.cell? ⟨w.heap.size, 1, none⟩ = some (.int .u8 23) := fun w' h => (hF.ext h).cell rfl
  have a0 := hF.cell (i := 0) rfl
  have a1 := hF.cell (i := 1) rfl
  go_upto_region 3 with fail
  go_cut [10, 11] from 18 (fun p q wc => ∃ B1 B2, p = .pointer (some ⟨B1, 0, none⟩) ∧ q = .pointer (some ⟨B2, 0, none⟩) ∧ Ext W wc ∧ Blk wc B1 #[.bool (pN a), .int .i8 (pC a), .int .i16 (pX a), .int .u64 (pM a)] ∧ Blk wc B2 #[.bool (pN b), .int .i8 (pC b), .int .i16 (pX b), .int .u64 (pM b)])
  case first =>
    go_region_held3 (fun w' => Ext W w') ((focus ((repeat (first | with_reducible assumption | with_reducible exact Ext.refl _ | with_reducible refine Ext.drew ?_ | with_reducible refine Ext.alloc ?_ _ _ | with_reducible refine Ext.setCell ?_ ?_ _ | with_reducible exact Nat.le_refl _ | (dsimp only; omega) | (simp only [World.size_alloc]; omega))); done))) (first
      | (go_at_call_of 77 (Value.int IntKind.u64 (a : Int)); refine (unpack_any _ a ha).mono ?_; rintro e w1 ⟨rfl, hext1⟩
         have hq1 : Ext W w1 := Ext.trans (by (focus ((repeat (first | with_reducible assumption | with_reducible exact Ext.refl _ | with_reducible refine Ext.drew ?_ | with_reducible refine Ext.alloc ?_ _ _ | with_reducible refine Ext.setCell ?_ ?_ _ | with_reducible exact Nat.le_refl _ | (dsimp only; omega) | (simp only [World.size_alloc]; omega))); done))) hext1
         have hs1 := hq1.size
         (first
           | (have hP : Blk w1 W.heap.size #[.bool false, .int .i8 0, .int .i16 0, .int .u64 0] := Blk.two1 hext1.undrew; have hP' : Blk w1 (W.heap.size + 1) #[.bool false, .int .i8 0, .int .i16 0, .int .u64 0] := Blk.two2 hext1.undrew)
           | (have hP : Blk w1 W.heap.size #[.bool false, .int .i8 0, .int .i16 0, .int .u64 0] := Blk.one hext1.undrew; have hPl := hP.lt; have hPn := Nat.ne_of_lt hPl)
           | skip))
      | (go_at_call_of 77 (Value.int IntKind.u64 (b : Int)); refine (unpack_any _ b hb).mono ?_; rintro e w2 ⟨rfl, hext2⟩
         have hq2 : Ext W w2 := Ext.trans (by (focus ((repeat (first | with_reducible assumption | with_reducible exact Ext.refl _ | with_reducible refine Ext.drew ?_ | with_reducible refine Ext.alloc ?_ _ _ | with_reducible refine Ext.setCell ?_ ?_ _ | with_reducible exact Nat.le_refl _ | (dsimp only; omega) | (simp only [World.size_alloc]; omega))); done))) hext2
         have hs2 := hq2.size
         (first
           | (have hM := Blk.two1 hext2; have hM' := Blk.two2 hext2; have m0 := hM.cell (i := 0) rfl; have m1 := hM.cell (i := 1) rfl; have m2 := hM.cell (i := 2) rfl; have m3 := hM.cell (i := 3) rfl; have mz := hM.fz; have ml := hM.lt; have mn := Nat.ne_of_lt hM.lt; have k0 := hM'.cell (i := 0) rfl; have k1 := hM'.cell (i := 1) rfl; have k2 := hM'.cell (i := 2) rfl; have k3 := hM'.cell (i := 3) rfl; have kz := hM'.fz; have kl := hM'.lt; have kn := Nat.ne_of_lt hM'.lt)
           | (have hM := Blk.one hext2; have m0 := hM.cell (i := 0) rfl; have m1 := hM.cell (i := 1) rfl; have m2 := hM.cell (i := 2) rfl; have m3 := hM.cell (i := 3) rfl; have mz := hM.fz; have ml := hM.lt; have mn := Nat.ne_of_lt hM.lt)
           | skip)
         (first
           | (have hP2 := hP.ext hext2; have p0 := hP2.cell (i := 0) rfl; have p1 := hP2.cell (i := 1) rfl; have p2 := hP2.cell (i := 2) rfl; have p3 := hP2.cell (i := 3) rfl; have pz := hP2.fz; have pl := hP2.lt; have pn := Nat.ne_of_lt hP2.lt)
           | (have hP2 := hP.ext hext2.of_alloc; have p0 := hP2.cell (i := 0) rfl; have p1 := hP2.cell (i := 1) rfl; have p2 := hP2.cell (i := 2) rfl; have p3 := hP2.cell (i := 3) rfl; have pz := hP2.fz; have pl := hP2.lt; have pn := Nat.ne_of_lt hP2.lt)
           | skip)
         (first
           | (have hQ2 := hP'.ext hext2; have q0 := hQ2.cell (i := 0) rfl; have q1 := hQ2.cell (i := 1) rfl; have q2 := hQ2.cell (i := 2) rfl; have q3 := hQ2.cell (i := 3) rfl; have qz := hQ2.fz; have ql := hQ2.lt; have qn := Nat.ne_of_lt hQ2.lt)
           | skip)))
    all_goals (go_wp2_with fail; go_meet)
    all_goals (case rel => exact ⟨_, _, rfl, rfl, by (focus ((repeat (first | with_reducible assumption | with_reducible exact Ext.refl _ | with_reducible refine Ext.drew ?_ | with_reducible refine Ext.alloc ?_ _ _ | with_reducible refine Ext.setCell ?_ ?_ _ | with_reducible exact Nat.le_refl _ | (dsimp only; omega) | (simp only [World.size_alloc]; omega))); done)), by (focus ((repeat (first | with_reducible assumption | with_reducible exact Blk.new _ _ _ | with_reducible exact Blk.new' _ _ (by simp) | with_reducible refine Blk.alloc ?_ _ _ | with_reducible refine Blk.set4 (a := .bool false) (b := .int .i8 0) (c := .int .i16 0) (d := .int .u64 0) ?_ | with_reducible refine Blk.setOther4 ?_ ?_ | with_reducible refine Blk.setOther ?_ ?_ _ | with_reducible refine Blk.drew ?_ | (apply Ne.symm; with_reducible assumption) | omega)); done)), by (focus ((repeat (first | with_reducible assumption | with_reducible exact Blk.new _ _ _ | with_reducible exact Blk.new' _ _ (by simp) | with_reducible refine Blk.alloc ?_ _ _ | with_reducible refine Blk.set4 (a := .bool false) (b := .int .i8 0) (c := .int .i16 0) (d := .int .u64 0) ?_ | with_reducible refine Blk.setOther4 ?_ ?_ | with_reducible refine Blk.setOther ?_ ?_ _ | with_reducible refine Blk.drew ?_ | (apply Ne.symm; with_reducible assumption) | omega)); done))⟩)
  case rest =>
    obtain ⟨B1, B2, rfl, rfl, hxc, hB1, hB2⟩ := hcut
    have hwc := hw0.trans hxc
    have hFc := hF.ext hxc
    have ff0 := hFc.cell (i := 0) rfl
    have ff1 := hFc.cell (i := 1) rfl
    have fg0 : ∀ w', Ext wc w' → w'.cell? ⟨w.heap.size, 0, none⟩ = some (.int .u8 8) := fun w' h => (hFc.ext h).cell rfl
    have fg1 : ∀ w', Ext wc w' → w'.cell? ⟨w.heap.size, 1, none⟩ = some (.int .u8 23) := fun w' h => (hFc.ext h).cell rfl
    have x0 := hB1.cell (i := 0) rfl
    have x1 := hB1.cell (i := 1) rfl
    have x2 := hB1.cell (i := 2) rfl
    have x3 := hB1.cell (i := 3) rfl
    have y0 := hB2.cell (i := 0) rfl
    have y1 := hB2.cell (i := 1) rfl
    have y2 := hB2.cell (i := 2) rfl
    have y3 := hB2.cell (i := 3) rfl
    clear c0 c1 a0 a1
    obtain ⟨ca, hca⟩ : ∃ c, c = pC a := ⟨_, rfl⟩
    obtain ⟨cb, hcb⟩ : ∃ c, c = pC b := ⟨_, rfl⟩
    obtain ⟨na, hna⟩ : ∃ c, c = pN a := ⟨_, rfl⟩
    obtain ⟨nb, hnb⟩ : ∃ c, c = pN b := ⟨_, rfl⟩
    have ka := kinds a
    have kb := kinds b
    dsimp only [List.getElem_toArray, List.getElem_cons_succ, List.getElem_cons_zero] at x0 x1 x2 x3 y0 y1 y2 y3
    rw [← hca] at x1 ka
    rw [← hcb] at y1 kb
    rw [← hna] at x0
    rw [← hnb] at y0
    rcases ka with hka | hka | hka | hka
    · rw [hka] at x1
      clear kb
      have hfin : Hid (sMul a b = 2143289344) := sMul_nan (by omega)
      clear hca hcb hna hnb x2 x3 y2 y3
      go_wp2_with fail
      go_region_held3 (fun w' => Ext wc w') ((focus ((repeat (first | with_reducible assumption | with_reducible exact Ext.refl _ | with_reducible refine Ext.drew ?_ | with_reducible refine Ext.alloc ?_ _ _ | with_reducible refine Ext.setCell ?_ ?_ _ | with_reducible exact Nat.le_refl _ | (dsimp only; omega) | (simp only [World.size_alloc]; omega))); done))) (first
        | (go_at_call 79; refine (theNaN_any _).mono ?_; rintro e w3 ⟨rfl, hext3⟩; have hq3 : Ext wc w3 := Ext.trans (by (focus ((repeat (first | with_reducible assumption | with_reducible exact Ext.refl _ | with_reducible refine Ext.drew ?_ | with_reducible refine Ext.alloc ?_ _ _ | with_reducible refine Ext.setCell ?_ ?_ _ | with_reducible exact Nat.le_refl _ | (dsimp only; omega) | (simp only [World.size_alloc]; omega))); done))) hext3)
        | (go_at_call 80; refine (heard_any _ a b ha hb).mono ?_; rintro e w4 ⟨fl, rfl, hext4⟩; have hq4 : Ext wc w4 := Ext.trans (by (focus ((repeat (first | with_reducible assumption | with_reducible exact Ext.refl _ | with_reducible refine Ext.drew ?_ | with_reducible refine Ext.alloc ?_ _ _ | with_reducible refine Ext.setCell ?_ ?_ _ | with_reducible exact Nat.le_refl _ | (dsimp only; omega) | (simp only [World.size_alloc]; omega))); done))) hext4))
      all_goals (go_wp2; go_ret2; exact ⟨_, by rw [hfin.out]; rfl, hwc.trans (by (focus ((repeat (first | with_reducible assumption | with_reducible exact Ext.refl _ | with_reducible refine Ext.drew ?_ | with_reducible refine Ext.alloc ?_ _ _ | with_reducible refine Ext.setCell ?_ ?_ _ | with_reducible exact Nat.le_refl _ | (dsimp only; omega) | (simp only [World.size_alloc]; omega))); done)))⟩)
    · rw [hka] at x1
      rcases kb with hkb | hkb | hkb | hkb
      · rw [hkb] at y1
        have hfin : Hid (sMul a b = 2143289344) := sMul_nan (by omega)
        clear hca hcb hna hnb x2 x3 y2 y3
        go_wp2_with fail
        go_region_held3 (fun w' => Ext wc w') ((focus ((repeat (first | with_reducible assumption | with_reducible exact Ext.refl _ | with_reducible refine Ext.drew ?_ | with_reducible refine Ext.alloc ?_ _ _ | with_reducible refine Ext.setCell ?_ ?_ _ | with_reducible exact Nat.le_refl _ | (dsimp only; omega) | (simp only [World.size_alloc]; omega))); done))) (first
          | (go_at_call 79; refine (theNaN_any _).mono ?_; rintro e w3 ⟨rfl, hext3⟩; have hq3 : Ext wc w3 := Ext.trans (by (focus ((repeat (first | with_reducible assumption | with_reducible exact Ext.refl _ | with_reducible refine Ext.drew ?_ | with_reducible refine Ext.alloc ?_ _ _ | with_reducible refine Ext.setCell ?_ ?_ _ | with_reducible exact Nat.le_refl _ | (dsimp only; omega) | (simp only [World.size_alloc]; omega))); done))) hext3)
          | (go_at_call 80; refine (heard_any _ a b ha hb).mono ?_; rintro e w4 ⟨fl, rfl, hext4⟩; have hq4 : Ext wc w4 := Ext.trans (by (focus ((repeat (first | with_reducible assumption | with_reducible exact Ext.refl _ | with_reducible refine Ext.drew ?_ | with_reducible refine Ext.alloc ?_ _ _ | with_reducible refine Ext.setCell ?_ ?_ _ | with_reducible exact Nat.le_refl _ | (dsimp only; omega) | (simp only [World.size_alloc]; omega))); done))) hext4))
        all_goals (go_wp2; go_ret2; exact ⟨_, by rw [hfin.out]; rfl, hwc.trans (by (focus ((repeat (first | with_reducible assumption | with_reducible exact Ext.refl _ | with_reducible refine Ext.drew ?_ | with_reducible refine Ext.alloc ?_ _ _ | with_reducible refine Ext.setCell ?_ ?_ _ | with_reducible exact Nat.le_refl _ | (dsimp only; omega) | (simp only [World.size_alloc]; omega))); done)))⟩)
      · rw [hkb] at y1
        have hfin : Hid (sMul a b = 2139095040 + sgn (na != nb)) := by show sMul a b = _; rw [hna, hnb]; exact sMul_inf (by omega) (by omega) (by omega)
        clear hca hcb hna hnb
        go_wp2_with fail
        refine (inf_any _ (na != nb)).mono ?_
        rintro e w3 ⟨rfl, hext3⟩
        go_wp2
        go_ret2
        exact ⟨_, by rw [hfin.out]; rfl, hwc.trans hext3⟩
      · rw [hkb] at y1
        have hfin : Hid (sMul a b = 2143289344) := sMul_bad (by omega)
        clear hca hcb hna hnb
        go_wp2_with fail
        refine (theNaN_any _).mono ?_
        rintro e w3 ⟨rfl, hext3⟩
        go_wp2
        go_ret2
        exact ⟨_, by rw [hfin.out]; rfl, hwc.trans hext3⟩
      · have gcb4 : (cb == 4) = false := by rw [beq_eq_false_iff_ne]; omega
        have gcb3 : (cb == 3) = false := by rw [beq_eq_false_iff_ne]; omega
        have gcb0 : (cb == 0) = false := by rw [beq_eq_false_iff_ne]; omega
        have hfin : Hid (sMul a b = 2139095040 + sgn (na != nb)) := by show sMul a b = _; rw [hna, hnb]; exact sMul_inf (by omega) (by omega) (by omega)
        clear hca hcb hna hnb
        go_wp2_with fail
        refine (inf_any _ (na != nb)).mono ?_
        rintro e w3 ⟨rfl, hext3⟩
        go_wp2
        go_ret2
        exact ⟨_, by rw [hfin.out]; rfl, hwc.trans hext3⟩
    · rw [hka] at x1
      rcases kb with hkb | hkb | hkb | hkb
      · rw [hkb] at y1
        have hfin : Hid (sMul a b = 2143289344) := sMul_nan (by omega)
        clear hca hcb hna hnb x2 x3 y2 y3
        go_wp2_with fail
        go_region_held3 (fun w' => Ext wc w') ((focus ((repeat (first | with_reducible assumption | with_reducible exact Ext.refl _ | with_reducible refine Ext.drew ?_ | with_reducible refine Ext.alloc ?_ _ _ | with_reducible refine Ext.setCell ?_ ?_ _ | with_reducible exact Nat.le_refl _ | (dsimp only; omega) | (simp only [World.size_alloc]; omega))); done))) (first
          | (go_at_call 79; refine (theNaN_any _).mono ?_; rintro e w3 ⟨rfl, hext3⟩; have hq3 : Ext wc w3 := Ext.trans (by (focus ((repeat (first | with_reducible assumption | with_reducible exact Ext.refl _ | with_reducible refine Ext.drew ?_ | with_reducible refine Ext.alloc ?_ _ _ | with_reducible refine Ext.setCell ?_ ?_ _ | with_reducible exact Nat.le_refl _ | (dsimp only; omega) | (simp only [World.size_alloc]; omega))); done))) hext3)
          | (go_at_call 80; refine (heard_any _ a b ha hb).mono ?_; rintro e w4 ⟨fl, rfl, hext4⟩; have hq4 : Ext wc w4 := Ext.trans (by (focus ((repeat (first | with_reducible assumption | with_reducible exact Ext.refl _ | with_reducible refine Ext.drew ?_ | with_reducible refine Ext.alloc ?_ _ _ | with_reducible refine Ext.setCell ?_ ?_ _ | with_reducible exact Nat.le_refl _ | (dsimp only; omega) | (simp only [World.size_alloc]; omega))); done))) hext4))
        all_goals (go_wp2; go_ret2; exact ⟨_, by rw [hfin.out]; rfl, hwc.trans (by (focus ((repeat (first | with_reducible assumption | with_reducible exact Ext.refl _ | with_reducible refine Ext.drew ?_ | with_reducible refine Ext.alloc ?_ _ _ | with_reducible refine Ext.setCell ?_ ?_ _ | with_reducible exact Nat.le_refl _ | (dsimp only; omega) | (simp only [World.size_alloc]; omega))); done)))⟩)
      · rw [hkb] at y1
        have hfin : Hid (sMul a b = 2143289344) := sMul_bad (by omega)
        clear hca hcb hna hnb
        go_wp2_with fail
        refine (theNaN_any _).mono ?_
        rintro e w3 ⟨rfl, hext3⟩
        go_wp2
        go_ret2
        exact ⟨_, by rw [hfin.out]; rfl, hwc.trans hext3⟩
      · rw [hkb] at y1
        have hfin : Hid (sMul a b = sgn (na != nb)) := by show sMul a b = _; rw [hna, hnb]; exact sMul_zero (by omega) (by omega) (by omega)
        clear hca hcb hna hnb
        go_wp2_with fail
        refine (zero_any _ (na != nb)).mono ?_
        rintro e w3 ⟨rfl, hext3⟩
        go_wp2
        go_ret2
        exact ⟨_, by rw [hfin.out]; rfl, hwc.trans hext3⟩
      · have gcb4 : (cb == 4) = false := by rw [beq_eq_false_iff_ne]; omega
        have gcb3 : (cb == 3) = false := by rw [beq_eq_false_iff_ne]; omega
        have gcb0 : (cb == 0) = false := by rw [beq_eq_false_iff_ne]; omega
        have hfin : Hid (sMul a b = sgn (na != nb)) := by show sMul a b = _; rw [hna, hnb]; exact sMul_zero (by omega) (by omega) (by omega)
        clear hca hcb hna hnb
        go_wp2_with fail
        refine (zero_any _ (na != nb)).mono ?_
        rintro e w3 ⟨rfl, hext3⟩
        go_wp2
        go_ret2
        exact ⟨_, by rw [hfin.out]; rfl, hwc.trans hext3⟩
    · have gca4 : (ca == 4) = false := by rw [beq_eq_false_iff_ne]; omega
      have gca3 : (ca == 3) = false := by rw [beq_eq_false_iff_ne]; omega
      have gca0 : (ca == 0) = false := by rw [beq_eq_false_iff_ne]; omega
      rcases kb with hkb | hkb | hkb | hkb
      · rw [hkb] at y1
        have hfin : Hid (sMul a b = 2143289344) := sMul_nan (by omega)
        clear hca hcb hna hnb x2 x3 y2 y3
        go_wp2_with fail
        go_region_held3 (fun w' => Ext wc w') ((focus ((repeat (first | with_reducible assumption | with_reducible exact Ext.refl _ | with_reducible refine Ext.drew ?_ | with_reducible refine Ext.alloc ?_ _ _ | with_reducible refine Ext.setCell ?_ ?_ _ | with_reducible exact Nat.le_refl _ | (dsimp only; omega) | (simp only [World.size_alloc]; omega))); done))) (first
          | (go_at_call 79; refine (theNaN_any _).mono ?_; rintro e w3 ⟨rfl, hext3⟩; have hq3 : Ext wc w3 := Ext.trans (by (focus ((repeat (first | with_reducible assumption | with_reducible exact Ext.refl _ | with_reducible refine Ext.drew ?_ | with_reducible refine Ext.alloc ?_ _ _ | with_reducible refine Ext.setCell ?_ ?_ _ | with_reducible exact Nat.le_refl _ | (dsimp only; omega) | (simp only [World.size_alloc]; omega))); done))) hext3)
          | (go_at_call 80; refine (heard_any _ a b ha hb).mono ?_; rintro e w4 ⟨fl, rfl, hext4⟩; have hq4 : Ext wc w4 := Ext.trans (by (focus ((repeat (first | with_reducible assumption | with_reducible exact Ext.refl _ | with_reducible refine Ext.drew ?_ | with_reducible refine Ext.alloc ?_ _ _ | with_reducible refine Ext.setCell ?_ ?_ _ | with_reducible exact Nat.le_refl _ | (dsimp only; omega) | (simp only [World.size_alloc]; omega))); done))) hext4))
        all_goals (go_wp2; go_ret2; exact ⟨_, by rw [hfin.out]; rfl, hwc.trans (by (focus ((repeat (first | with_reducible assumption | with_reducible exact Ext.refl _ | with_reducible refine Ext.drew ?_ | with_reducible refine Ext.alloc ?_ _ _ | with_reducible refine Ext.setCell ?_ ?_ _ | with_reducible exact Nat.le_refl _ | (dsimp only; omega) | (simp only [World.size_alloc]; omega))); done)))⟩)
      · rw [hkb] at y1
        have hfin : Hid (sMul a b = 2139095040 + sgn (na != nb)) := by show sMul a b = _; rw [hna, hnb]; exact sMul_inf (by omega) (by omega) (by omega)
        clear hca hcb hna hnb
        go_wp2_with fail
        refine (inf_any _ (na != nb)).mono ?_
        rintro e w3 ⟨rfl, hext3⟩
        go_wp2
        go_ret2
        exact ⟨_, by rw [hfin.out]; rfl, hwc.trans hext3⟩
      · rw [hkb] at y1
        have hfin : Hid (sMul a b = sgn (na != nb)) := by show sMul a b = _; rw [hna, hnb]; exact sMul_zero (by omega) (by omega) (by omega)
        clear hca hcb hna hnb
        go_wp2_with fail
        refine (zero_any _ (na != nb)).mono ?_
        rintro e w3 ⟨rfl, hext3⟩
        go_wp2
        go_ret2
        exact ⟨_, by rw [hfin.out]; rfl, hwc.trans hext3⟩
      · have gcb4 : (cb == 4) = false := by rw [beq_eq_false_iff_ne]; omega
        have gcb3 : (cb == 3) = false := by rw [beq_eq_false_iff_ne]; omega
        have gcb0 : (cb == 0) = false := by rw [beq_eq_false_iff_ne]; omega
        have hpa := parts_fin (x := a) (by omega)
        have hpb := parts_fin (x := b) (by omega)
        obtain ⟨ma, hma⟩ : ∃ c, c = pM a := ⟨_, rfl⟩
        obtain ⟨mb, hmb⟩ : ∃ c, c = pM b := ⟨_, rfl⟩
        obtain ⟨xa, hxa⟩ : ∃ c, c = pX a := ⟨_, rfl⟩
        obtain ⟨xb, hxb⟩ : ∃ c, c = pX b := ⟨_, rfl⟩
        rw [← hma, ← hxa] at hpa
        rw [← hmb, ← hxb] at hpb
        rw [← hma] at x3
        rw [← hxa] at x2
        rw [← hmb] at y3
        rw [← hxb] at y2
        obtain ⟨P, hP⟩ : ∃ c, c = ma * mb := ⟨_, rfl⟩
        have hP1 : P ≠ 0 := by rw [hP]; exact Nat.mul_ne_zero (by omega) (by omega)
        have hP2 : P < 18446744073709551616 := by
          rw [hP]; exact Nat.lt_of_lt_of_le (Nat.mul_lt_mul_of_lt_of_lt hpa.2.1 hpb.2.1) (by decide)
        have hP3 : bl P ≤ 64 := bl_le_of_lt (k := 64) hP2
        have hP4 := bl_pos hP1
        have hj := jamS_bd hP1 (Nat.lt_trans hP2 (by decide))
        have hM := mul64_any wc ma mb (by omega) (by omega)
        have hfin : Hid (sMul a b = rp (xa + xb - 64 + bl P) (jamS P) + sgn (na != nb)) := by
          show sMul a b = _
          rw [hP, hna, hnb, hma, hmb, hxa, hxb]; exact sMul_fin (by omega) (by omega)
        have hq1 := hpa.2.2.1
        have hq2 := hpa.2.2.2.1
        have hb3 := hpb.2.2.1
        have hb4 := hpb.2.2.2.1
        have hm1 := hpa.2.1
        have hm2 := hpb.2.1
        have hMul : ∀ w', Calls Oaig.prog 102 #[.int .u64 ma, .int .u64 mb] w' fun e w'' => e = .returned (u128 0 P) ∧ Ext w' w'' := by
          intro w'
          have h := mul64_any w' ma mb (by omega) (by omega)
          rw [← hP, Nat.div_eq_of_lt hP2, Nat.mod_eq_of_lt hP2] at h
          exact h
        have hMul : Hid _ := hMul
        have xx2 : ∀ w', Ext wc w' → w'.cell? ⟨B1, 2, none⟩ = some (.int .i16 xa) := fun w' h => h.cell x2
        have xx3 : ∀ w', Ext wc w' → w'.cell? ⟨B1, 3, none⟩ = some (.int .u64 ma) := fun w' h => h.cell x3
        have yy2 : ∀ w', Ext wc w' → w'.cell? ⟨B2, 2, none⟩ = some (.int .i16 xb) := fun w' h => h.cell y2
        have yy3 : ∀ w', Ext wc w' → w'.cell? ⟨B2, 3, none⟩ = some (.int .u64 mb) := fun w' h => h.cell y3
        clear hca hcb hna hnb hma hmb hxa hxb hpa hpb hP hM
        go_wp2_with fail
        have hwr : IntKind.i16.wrap (xa + xb) = xa + xb := by simp only [wrap_i16]; omega
        go_region_held3 (fun w' => Ext wc w') ((focus ((repeat (first | with_reducible assumption | with_reducible exact Ext.refl _ | with_reducible refine Ext.drew ?_ | with_reducible refine Ext.alloc ?_ _ _ | with_reducible refine Ext.setCell ?_ ?_ _ | with_reducible exact Nat.le_refl _ | (dsimp only; omega) | (simp only [World.size_alloc]; omega))); done))) (first
          | (go_at_call 102; refine Calls.mono (hMul.out _) ?_; rintro e w3 ⟨rfl, hext3⟩; have hq3 : Ext wc w3 := Ext.trans (by (focus ((repeat (first | with_reducible assumption | with_reducible exact Ext.refl _ | with_reducible refine Ext.drew ?_ | with_reducible refine Ext.alloc ?_ _ _ | with_reducible refine Ext.setCell ?_ ?_ _ | with_reducible exact Nat.le_refl _ | (dsimp only; omega) | (simp only [World.size_alloc]; omega))); done))) hext3)
          | (go_at_call 112; refine (jam_any _ 0 P _ P (by omega) hP1 (by decide) hP2 (by omega) (by omega)).mono ?_; rintro e w4 ⟨rfl, hext4⟩; have hq4 : Ext wc w4 := Ext.trans (by (focus ((repeat (first | with_reducible assumption | with_reducible exact Ext.refl _ | with_reducible refine Ext.drew ?_ | with_reducible refine Ext.alloc ?_ _ _ | with_reducible refine Ext.setCell ?_ ?_ _ | with_reducible exact Nat.le_refl _ | (dsimp only; omega) | (simp only [World.size_alloc]; omega))); done))) hext4))
        have hz0 := fg0 _ hq4
        have hz1 := fg1 _ hq4
        go_wp2_with fail
        refine (roundPack_any _ (na != nb) (xa + xb - 64 + bl P) (jamS P) (by omega) hj.2 (by omega) (by omega)).mono ?_
        rintro e w5 ⟨fl, rfl, hext5⟩
        go_wp2
        go_ret2
        exact ⟨_, by rw [hfin.out]; rfl, hwc.trans (Ext.trans (by (focus ((repeat (first | with_reducible assumption | with_reducible exact Ext.refl _ | with_reducible refine Ext.drew ?_ | with_reducible refine Ext.alloc ?_ _ _ | with_reducible refine Ext.setCell ?_ ?_ _ | with_reducible exact Nat.le_refl _ | (dsimp only; omega) | (simp only [World.size_alloc]; omega))); done))) hext5)⟩

set_option maxHeartbeats 1000000 in
theorem softMul_any (w : World) (a b : Nat) (ha : a < 4294967296) (hb : b < 4294967296) :
    Calls Oaig.prog 42 #[.agg #[.int .u8 8, .int .u8 23], .int .u8 0, .int .u64 a, .int .u64 b] w fun e w' => e = .returned (.int .u64 (sMul a b : Nat)) ∧ Ext w w' := by
  go_enter Oaig.func42, Oaig.ntmps42
  go_wp2_with fail
  refine (mulFlags_any _ a b ha hb).mono ?_
  rintro e w1 ⟨fl, rfl, hext1⟩
  go_wp2
  go_ret
  exact ⟨rfl, hext1.of_alloc⟩

end Go.Proofs.Ygcoai
