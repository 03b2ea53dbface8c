/-
  Seat gcoai. exact.MulFlags (75) and exact.Mul (46) at Binary32, NearestEven.
-/
import Derived.Test.YgcoaiTwoX
import Derived.Test.YgcoaiSoftMul
namespace Go.Proofs.Ygcoai
open Go.RowKit

def xMul (a b : Nat) : Nat :=
  if pC a = 4 ∨ pC b = 4 then 2143289344
  else if (pC a = 3 ∧ pC b = 0) ∨ (pC a = 0 ∧ pC b = 3) then 2143289344
  else if pC a = 3 ∨ pC b = 3 then 2139095040 + sgn (uS a != uS b)
  else rnd (vN a * vN b) (vD a * vD b) + sgn (uS a != uS b)

theorem parts_bd (x : Nat) : pM x < 16777216 ∧ -172 ≤ pX x ∧ pX x ≤ 104 := by
  rcases parts_cases x with h | h | h | h | h
  · rw [(parts_zero (x := x) (by omega)).1, (parts_zero (x := x) (by omega)).2]; omega
  · have := parts_fin (x := x) (by omega); omega
  · have := parts_fin (x := x) (by omega); omega
  · rw [(parts_zero (x := x) (by omega)).1, (parts_zero (x := x) (by omega)).2]; omega
  · rw [(parts_zero (x := x) (by omega)).1, (parts_zero (x := x) (by omega)).2]; omega
theorem vN_lt (x : Nat) : Lt32 (vN x) 6 := by
  obtain ⟨h1, h2, h3⟩ := parts_bd x
  have h4 : Lt32 (pM x) 1 := Nat.lt_trans h1 (by decide)
  exact (h4.shl (k := (pX x).toNat)).mono (Nat.le_refl _) (by omega)
theorem vD_lt (x : Nat) : Lt32 (vD x) 7 := by
  obtain ⟨h1, h2, h3⟩ := parts_bd x
  have h5 := ((lt32_one 1 (by omega)).shl (k := (-pX x).toNat)).mono (Nat.le_refl _) (show 1 + (-pX x).toNat / 32 + 1 ≤ 7 by omega)
  rw [Nat.one_mul] at h5
  exact h5
theorem vD_ne (x : Nat) : vD x ≠ 0 := Nat.pos_iff_ne_zero.1 (Nat.two_pow_pos _)

theorem xMul_nan {a b : Nat} (h : pC a = 4 ∨ pC b = 4) : xMul a b = 2143289344 := by unfold xMul; rw [if_pos h]
theorem xMul_bad {a b : Nat} (h : (pC a = 3 ∧ pC b = 0) ∨ (pC a = 0 ∧ pC b = 3)) : xMul a b = 2143289344 := by unfold xMul; rw [if_neg (by omega), if_pos h]
theorem xMul_inf {a b : Nat} (h4 : ¬ (pC a = 4 ∨ pC b = 4)) (hb : ¬ ((pC a = 3 ∧ pC b = 0) ∨ (pC a = 0 ∧ pC b = 3))) (h : pC a = 3 ∨ pC b = 3) : xMul a b = 2139095040 + sgn (uS a != uS b) := by
  unfold xMul; rw [if_neg h4, if_neg hb, if_pos h]
theorem xMul_fin {a b : Nat} (h4 : ¬ (pC a = 4 ∨ pC b = 4)) (h3 : ¬ (pC a = 3 ∨ pC b = 3)) : xMul a b = rnd (vN a * vN b) (vD a * vD b) + sgn (uS a != uS b) := by
  unfold xMul; rw [if_neg h4, if_neg (by omega), if_neg h3]

set_option maxRecDepth 20000 in
set_option maxHeartbeats 8000000 in
theorem xmulFlags_any (w : World) (a b : Nat) (ha : a < 4294967296) (hb : b < 4294967296) :
    Calls Oaig.prog 75 #[.agg #[.int .u8 8, .int .u8 23], .int .u8 0, .int .u64 a, .int .u64 b] w fun e w' => ∃ fl : Int, e = .returned (.tuple #[.int .u64 (xMul a b : Nat), .int .u8 fl]) ∧ Ext w w' := by
  go_enter Oaig.func75, Oaig.ntmps75
  go_wp2_with fail
  refine (ok_any _).mono ?_
  rintro e W ⟨rfl, hext0⟩
  have hF : Blk W w.heap.size #[.int .u8 8, .int .u8 23] := (Blk.new w _ 25).ext hext0
  have hw0 := hext0.of_alloc
  clear hext0
  have c0 : ∀ w', Ext W w' → w'.cell? ⟨w.heap.size, 0, none⟩ = some (.int .u8 8) := fun w' h => (hF.ext h).cell rfl
  have c1 : ∀ w', Ext W w' → w'.cell? ⟨w.heap.size, 1, none⟩ = some (.int .u8 23) := fun w' h => (hF.ext h).cell rfl
  have a0 := hF.cell (i := 0) rfl
  have a1 := hF.cell (i := 1) rfl
  go_upto_region 3 with fail
  go_cut [10, 11] from 16 (fun p q wc => ∃ B1 B2 ng1 ao1 n1 k1 ao2 n2 k2 ng2 ao3 n3 k3 ao4 n4 k4, p = .pointer (some ⟨B1, 0, none⟩) ∧ q = .pointer (some ⟨B2, 0, none⟩) ∧ Ext W wc ∧ Blk wc B1 #[.int .u64 a, .bool (uS a), .int .i8 (pC a), .bool ng1, .slice ao1 n1 k1, .slice ao2 n2 k2] ∧ Blk wc B2 #[.int .u64 b, .bool (uS b), .int .i8 (pC b), .bool ng2, .slice ao3 n3 k3, .slice ao4 n4 k4] ∧ NatV wc (.slice ao1 n1 k1) (vN a) ∧ NatV wc (.slice ao2 n2 k2) (vD a) ∧ NatV wc (.slice ao3 n3 k3) (vN b) ∧ NatV wc (.slice ao4 n4 k4) (vD b) ∧ (pC a ≤ 2 → ng1 = pN a) ∧ (pC b ≤ 2 → ng2 = pN b))
  case first =>
    go_region_held3 (fun w' => Ext W w') ((focus ((repeat (first | with_reducible assumption | with_reducible exact Ext.refl _ | with_reducible refine Ext.drew ?_ | with_reducible refine Ext.alloc ?_ _ _ | with_reducible refine Ext.setCell ?_ ?_ _ | with_reducible exact Nat.le_refl _ | (dsimp only; omega) | (simp only [World.size_alloc]; omega))); done))) (first
      | (go_at_call_of 86 (Value.int IntKind.u64 (a : Int)); refine (open_any _ a ha).mono ?_; rintro e w1 ⟨ng1, nv1, dv1, rfl, hext1, hn1, hd1, hg1⟩
         obtain ⟨ao1, n1, k1, rfl⟩ := hn1.form
         obtain ⟨ao2, n2, k2, rfl⟩ := hd1.form
         have hq1 : Ext W w1 := Ext.trans (by (focus ((repeat (first | with_reducible assumption | with_reducible exact Ext.refl _ | with_reducible refine Ext.drew ?_ | with_reducible refine Ext.alloc ?_ _ _ | with_reducible refine Ext.setCell ?_ ?_ _ | with_reducible exact Nat.le_refl _ | (dsimp only; omega) | (simp only [World.size_alloc]; omega))); done))) hext1
         have hs1 := hq1.size
         (first
           | (have hP : Blk w1 W.heap.size #[.int .u64 0, .bool false, .int .i8 0, .bool false, .slice none 0 0, .slice none 0 0] := Blk.two1 hext1.undrew; have hP' : Blk w1 (W.heap.size + 1) #[.int .u64 0, .bool false, .int .i8 0, .bool false, .slice none 0 0, .slice none 0 0] := Blk.two2 hext1.undrew)
           | (have hP : Blk w1 W.heap.size #[.int .u64 0, .bool false, .int .i8 0, .bool false, .slice none 0 0, .slice none 0 0] := Blk.one hext1.undrew; have hPl := hP.lt; have hPn := Nat.ne_of_lt hPl)
           | skip))
      | (go_at_call_of 86 (Value.int IntKind.u64 (b : Int)); refine (open_any _ b hb).mono ?_; rintro e w2 ⟨ng2, nv2, dv2, rfl, hext2, hn2, hd2, hg2⟩
         obtain ⟨ao3, n3, k3, rfl⟩ := hn2.form
         obtain ⟨ao4, n4, k4, rfl⟩ := hd2.form
         have hx12 : Ext w1 w2 := Ext.trans (by (focus ((repeat (first | with_reducible assumption | with_reducible exact Ext.refl _ | with_reducible refine Ext.drew ?_ | with_reducible refine Ext.alloc ?_ _ _ | with_reducible refine Ext.setCell ?_ ?_ _ | with_reducible exact Nat.le_refl _ | (dsimp only; omega) | (simp only [World.size_alloc]; omega))); done))) hext2
         have hn12 := hn1.ext hx12
         have hd12 := hd1.ext hx12
         have hq2 : Ext W w2 := Ext.trans (by (focus ((repeat (first | with_reducible assumption | with_reducible exact Ext.refl _ | with_reducible refine Ext.drew ?_ | with_reducible refine Ext.alloc ?_ _ _ | with_reducible refine Ext.setCell ?_ ?_ _ | with_reducible exact Nat.le_refl _ | (dsimp only; omega) | (simp only [World.size_alloc]; omega))); done))) hext2
         have hs2 := hq2.size
         (first
           | (have hM := Blk.two1 hext2; have hM' := Blk.two2 hext2; have m0 := hM.cell (i := 0) rfl; have m1 := hM.cell (i := 1) rfl; have m2 := hM.cell (i := 2) rfl; have m3 := hM.cell (i := 3) rfl; have m4 := hM.cell (i := 4) rfl; have m5 := hM.cell (i := 5) rfl; have mz := hM.fz; have ml := hM.lt; have mn := Nat.ne_of_lt hM.lt; have k0 := hM'.cell (i := 0) rfl; have k1 := hM'.cell (i := 1) rfl; have k2 := hM'.cell (i := 2) rfl; have k3 := hM'.cell (i := 3) rfl; have k4 := hM'.cell (i := 4) rfl; have k5 := hM'.cell (i := 5) rfl; have kz := hM'.fz; have kl := hM'.lt; have kn := Nat.ne_of_lt hM'.lt)
           | (have hM := Blk.one hext2; have m0 := hM.cell (i := 0) rfl; have m1 := hM.cell (i := 1) rfl; have m2 := hM.cell (i := 2) rfl; have m3 := hM.cell (i := 3) rfl; have m4 := hM.cell (i := 4) rfl; have m5 := hM.cell (i := 5) rfl; have mz := hM.fz; have ml := hM.lt; have mn := Nat.ne_of_lt hM.lt)
           | skip)
         (first
           | (have hP2 := hP.ext hx12; have p0 := hP2.cell (i := 0) rfl; have p1 := hP2.cell (i := 1) rfl; have p2 := hP2.cell (i := 2) rfl; have p3 := hP2.cell (i := 3) rfl; have p4 := hP2.cell (i := 4) rfl; have p5 := hP2.cell (i := 5) rfl; have pz := hP2.fz; have pl := hP2.lt; have pn := Nat.ne_of_lt hP2.lt)
           | skip)
         (first
           | (have hQ2 := hP'.ext hx12; have q0 := hQ2.cell (i := 0) rfl; have q1 := hQ2.cell (i := 1) rfl; have q2 := hQ2.cell (i := 2) rfl; have q3 := hQ2.cell (i := 3) rfl; have q4 := hQ2.cell (i := 4) rfl; have q5 := hQ2.cell (i := 5) rfl; have qz := hQ2.fz; have ql := hQ2.lt; have qn := Nat.ne_of_lt hQ2.lt)
           | skip)))
    all_goals (go_wp2_with fail; go_meet)
    all_goals (case rel => exact ⟨_, _, _, _, _, _, _, _, _, _, _, _, _, _, _, _, rfl, rfl, by (focus ((repeat (first | with_reducible assumption | with_reducible exact Ext.refl _ | with_reducible refine Ext.drew ?_ | with_reducible refine Ext.alloc ?_ _ _ | with_reducible refine Ext.setCell ?_ ?_ _ | with_reducible exact Nat.le_refl _ | (dsimp only; omega) | (simp only [World.size_alloc]; omega))); done)), by (focus ((repeat (first | with_reducible assumption | with_reducible exact Blk.new _ _ _ | with_reducible exact Blk.new' _ _ (by simp) | with_reducible refine Blk.alloc ?_ _ _ | with_reducible refine Blk.set6 (a := .int .u64 0) (b := .bool false) (c := .int .i8 0) (d := .bool false) (e := .slice none 0 0) (f := .slice none 0 0) ?_ | with_reducible refine Blk.setOther ?_ ?_ _ | with_reducible refine Blk.drew ?_ | (apply Ne.symm; with_reducible assumption) | omega)); done)), by (focus ((repeat (first | with_reducible assumption | with_reducible exact Blk.new _ _ _ | with_reducible exact Blk.new' _ _ (by simp) | with_reducible refine Blk.alloc ?_ _ _ | with_reducible refine Blk.set6 (a := .int .u64 0) (b := .bool false) (c := .int .i8 0) (d := .bool false) (e := .slice none 0 0) (f := .slice none 0 0) ?_ | with_reducible refine Blk.setOther ?_ ?_ _ | with_reducible refine Blk.drew ?_ | (apply Ne.symm; with_reducible assumption) | omega)); done)), by (focus ((repeat (first | with_reducible assumption | with_reducible refine NatV.allocd ?_ | with_reducible refine NatV.drewd ?_ | with_reducible refine NatV.set6 (cs := #[.int .u64 0, .bool false, .int .i8 0, .bool false, .slice none 0 0, .slice none 0 0]) ?_ ?_ (by simp [NL]) (by simp [NL]) | with_reducible exact Blk.new _ _ _ | with_reducible exact Blk.new' _ _ (by simp) | with_reducible refine Blk.alloc ?_ _ _ | with_reducible refine Blk.set6 (a := .int .u64 0) (b := .bool false) (c := .int .i8 0) (d := .bool false) (e := .slice none 0 0) (f := .slice none 0 0) ?_ | with_reducible refine Blk.setOther ?_ ?_ _ | with_reducible refine Blk.drew ?_ | (apply Ne.symm; with_reducible assumption) | omega)); done)), by (focus ((repeat (first | with_reducible assumption | with_reducible refine NatV.allocd ?_ | with_reducible refine NatV.drewd ?_ | with_reducible refine NatV.set6 (cs := #[.int .u64 0, .bool false, .int .i8 0, .bool false, .slice none 0 0, .slice none 0 0]) ?_ ?_ (by simp [NL]) (by simp [NL]) | with_reducible exact Blk.new _ _ _ | with_reducible exact Blk.new' _ _ (by simp) | with_reducible refine Blk.alloc ?_ _ _ | with_reducible refine Blk.set6 (a := .int .u64 0) (b := .bool false) (c := .int .i8 0) (d := .bool false) (e := .slice none 0 0) (f := .slice none 0 0) ?_ | with_reducible refine Blk.setOther ?_ ?_ _ | with_reducible refine Blk.drew ?_ | (apply Ne.symm; with_reducible assumption) | omega)); done)), by (focus ((repeat (first | with_reducible assumption | with_reducible refine NatV.allocd ?_ | with_reducible refine NatV.drewd ?_ | with_reducible refine NatV.set6 (cs := #[.int .u64 0, .bool false, .int .i8 0, .bool false, .slice none 0 0, .slice none 0 0]) ?_ ?_ (by simp [NL]) (by simp [NL]) | with_reducible exact Blk.new _ _ _ | with_reducible exact Blk.new' _ _ (by simp) | with_reducible refine Blk.alloc ?_ _ _ | with_reducible refine Blk.set6 (a := .int .u64 0) (b := .bool false) (c := .int .i8 0) (d := .bool false) (e := .slice none 0 0) (f := .slice none 0 0) ?_ | with_reducible refine Blk.setOther ?_ ?_ _ | with_reducible refine Blk.drew ?_ | (apply Ne.symm; with_reducible assumption) | omega)); done)), by (focus ((repeat (first | with_reducible assumption | with_reducible refine NatV.allocd ?_ | with_reducible refine NatV.drewd ?_ | with_reducible refine NatV.set6 (cs := #[.int .u64 0, .bool false, .int .i8 0, .bool false, .slice none 0 0, .slice none 0 0]) ?_ ?_ (by simp [NL]) (by simp [NL]) | with_reducible exact Blk.new _ _ _ | with_reducible exact Blk.new' _ _ (by simp) | with_reducible refine Blk.alloc ?_ _ _ | with_reducible refine Blk.set6 (a := .int .u64 0) (b := .bool false) (c := .int .i8 0) (d := .bool false) (e := .slice none 0 0) (f := .slice none 0 0) ?_ | with_reducible refine Blk.setOther ?_ ?_ _ | with_reducible refine Blk.drew ?_ | (apply Ne.symm; with_reducible assumption) | omega)); done)), hg1, hg2⟩)
  case rest =>
    obtain ⟨B1, B2, ng1, ao1, n1, k1, ao2, n2, k2, ng2, ao3, n3, k3, ao4, n4, k4, rfl, rfl, hxc, hB1, hB2, hna, hda, hnb, hdb, _, _⟩ := hcut
    have hwc := hw0.trans hxc
    have hFc := hF.ext hxc
    have ff0 := hFc.cell (i := 0) rfl
    have ff1 := hFc.cell (i := 1) rfl
    have fg0 : ∀ w', Ext wc w' → w'.cell? ⟨w.heap.size, 0, none⟩ = some (.int .u8 8) := fun w' h => (hFc.ext h).cell rfl
    have fg1 : ∀ w', Ext wc w' → w'.cell? ⟨w.heap.size, 1, none⟩ = some (.int .u8 23) := fun w' h => (hFc.ext h).cell rfl
    have x1 := hB1.cell (i := 1) rfl
    have y1 := hB2.cell (i := 1) rfl
    have x2 := hB1.cell (i := 2) rfl
    have y2 := hB2.cell (i := 2) rfl
    have x4 := hB1.cell (i := 4) rfl
    have y4 := hB2.cell (i := 4) rfl
    have x5 := hB1.cell (i := 5) rfl
    have y5 := hB2.cell (i := 5) rfl
    clear c0 c1 a0 a1
    obtain ⟨ca, hca⟩ : ∃ c, c = pC a := ⟨_, rfl⟩
    obtain ⟨cb, hcb⟩ : ∃ c, c = pC b := ⟨_, rfl⟩
    obtain ⟨sa, hsa⟩ : ∃ c, c = uS a := ⟨_, rfl⟩
    obtain ⟨sb, hsb⟩ : ∃ c, c = uS b := ⟨_, rfl⟩
    have ka := kinds a
    have kb := kinds b
    dsimp only [List.getElem_toArray, List.getElem_cons_succ, List.getElem_cons_zero] at x1 x2 x4 x5 y1 y2 y4 y5
    rw [← hca] at x2 ka
    rw [← hcb] at y2 kb
    rw [← hsa] at x1
    rw [← hsb] at y1
    rcases ka with hka | hka | hka | hka
    · rw [hka] at x2
      clear kb
      have hfin : Hid (xMul a b = 2143289344) := xMul_nan (by omega)
      clear hca hcb hsa hsb x4 x5 y4 y5
      go_wp2_with fail
      go_region_held3 (fun w' => Ext wc w') ((focus ((repeat (first | with_reducible assumption | with_reducible exact Ext.refl _ | with_reducible refine Ext.drew ?_ | with_reducible refine Ext.alloc ?_ _ _ | with_reducible refine Ext.setCell ?_ ?_ _ | with_reducible exact Nat.le_refl _ | (dsimp only; omega) | (simp only [World.size_alloc]; omega))); done))) (first
        | (go_at_call 79; refine (theNaN_any _).mono ?_; rintro e w3 ⟨rfl, hext3⟩; have hq3 : Ext wc w3 := Ext.trans (by (focus ((repeat (first | with_reducible assumption | with_reducible exact Ext.refl _ | with_reducible refine Ext.drew ?_ | with_reducible refine Ext.alloc ?_ _ _ | with_reducible refine Ext.setCell ?_ ?_ _ | with_reducible exact Nat.le_refl _ | (dsimp only; omega) | (simp only [World.size_alloc]; omega))); done))) hext3)
        | (go_at_call 87; refine (xheard_any _ a b ha hb).mono ?_; rintro e w4 ⟨fl, rfl, hext4⟩; have hq4 : Ext wc w4 := Ext.trans (by (focus ((repeat (first | with_reducible assumption | with_reducible exact Ext.refl _ | with_reducible refine Ext.drew ?_ | with_reducible refine Ext.alloc ?_ _ _ | with_reducible refine Ext.setCell ?_ ?_ _ | with_reducible exact Nat.le_refl _ | (dsimp only; omega) | (simp only [World.size_alloc]; omega))); done))) hext4))
      all_goals (go_wp2; go_ret2; exact ⟨_, by rw [hfin.out]; rfl, hwc.trans (by (focus ((repeat (first | with_reducible assumption | with_reducible exact Ext.refl _ | with_reducible refine Ext.drew ?_ | with_reducible refine Ext.alloc ?_ _ _ | with_reducible refine Ext.setCell ?_ ?_ _ | with_reducible exact Nat.le_refl _ | (dsimp only; omega) | (simp only [World.size_alloc]; omega))); done)))⟩)
    · rw [hka] at x2
      rcases kb with hkb | hkb | hkb | hkb
      · rw [hkb] at y2
        have hfin : Hid (xMul a b = 2143289344) := xMul_nan (by omega)
        clear hca hcb hsa hsb x4 x5 y4 y5
        go_wp2_with fail
        go_region_held3 (fun w' => Ext wc w') ((focus ((repeat (first | with_reducible assumption | with_reducible exact Ext.refl _ | with_reducible refine Ext.drew ?_ | with_reducible refine Ext.alloc ?_ _ _ | with_reducible refine Ext.setCell ?_ ?_ _ | with_reducible exact Nat.le_refl _ | (dsimp only; omega) | (simp only [World.size_alloc]; omega))); done))) (first
          | (go_at_call 79; refine (theNaN_any _).mono ?_; rintro e w3 ⟨rfl, hext3⟩; have hq3 : Ext wc w3 := Ext.trans (by (focus ((repeat (first | with_reducible assumption | with_reducible exact Ext.refl _ | with_reducible refine Ext.drew ?_ | with_reducible refine Ext.alloc ?_ _ _ | with_reducible refine Ext.setCell ?_ ?_ _ | with_reducible exact Nat.le_refl _ | (dsimp only; omega) | (simp only [World.size_alloc]; omega))); done))) hext3)
          | (go_at_call 87; refine (xheard_any _ a b ha hb).mono ?_; rintro e w4 ⟨fl, rfl, hext4⟩; have hq4 : Ext wc w4 := Ext.trans (by (focus ((repeat (first | with_reducible assumption | with_reducible exact Ext.refl _ | with_reducible refine Ext.drew ?_ | with_reducible refine Ext.alloc ?_ _ _ | with_reducible refine Ext.setCell ?_ ?_ _ | with_reducible exact Nat.le_refl _ | (dsimp only; omega) | (simp only [World.size_alloc]; omega))); done))) hext4))
        all_goals (go_wp2; go_ret2; exact ⟨_, by rw [hfin.out]; rfl, hwc.trans (by (focus ((repeat (first | with_reducible assumption | with_reducible exact Ext.refl _ | with_reducible refine Ext.drew ?_ | with_reducible refine Ext.alloc ?_ _ _ | with_reducible refine Ext.setCell ?_ ?_ _ | with_reducible exact Nat.le_refl _ | (dsimp only; omega) | (simp only [World.size_alloc]; omega))); done)))⟩)
      · rw [hkb] at y2
        have hfin : Hid (xMul a b = 2139095040 + sgn (sa != sb)) := by show xMul a b = _; rw [hsa, hsb]; exact xMul_inf (by omega) (by omega) (by omega)
        clear hca hcb hsa hsb
        go_wp2_with fail
        refine (inf_any _ (sa != sb)).mono ?_
        rintro e w3 ⟨rfl, hext3⟩
        go_wp2
        go_ret2
        exact ⟨_, by rw [hfin.out]; rfl, hwc.trans hext3⟩
      · rw [hkb] at y2
        have hfin : Hid (xMul a b = 2143289344) := xMul_bad (by omega)
        clear hca hcb hsa hsb
        go_wp2_with fail
        refine (theNaN_any _).mono ?_
        rintro e w3 ⟨rfl, hext3⟩
        go_wp2
        go_ret2
        exact ⟨_, by rw [hfin.out]; rfl, hwc.trans hext3⟩
      · have gcb4 : (cb == 4) = false := by rw [beq_eq_false_iff_ne]; omega
        have gcb3 : (cb == 3) = false := by rw [beq_eq_false_iff_ne]; omega
        have gcb0 : (cb == 0) = false := by rw [beq_eq_false_iff_ne]; omega
        have hfin : Hid (xMul a b = 2139095040 + sgn (sa != sb)) := by show xMul a b = _; rw [hsa, hsb]; exact xMul_inf (by omega) (by omega) (by omega)
        clear hca hcb hsa hsb
        go_wp2_with fail
        refine (inf_any _ (sa != sb)).mono ?_
        rintro e w3 ⟨rfl, hext3⟩
        go_wp2
        go_ret2
        exact ⟨_, by rw [hfin.out]; rfl, hwc.trans hext3⟩
    · rw [hka] at x2
      rcases kb with hkb | hkb | hkb | hkb
      · rw [hkb] at y2
        have hfin : Hid (xMul a b = 2143289344) := xMul_nan (by omega)
        clear hca hcb hsa hsb x4 x5 y4 y5
        go_wp2_with fail
        go_region_held3 (fun w' => Ext wc w') ((focus ((repeat (first | with_reducible assumption | with_reducible exact Ext.refl _ | with_reducible refine Ext.drew ?_ | with_reducible refine Ext.alloc ?_ _ _ | with_reducible refine Ext.setCell ?_ ?_ _ | with_reducible exact Nat.le_refl _ | (dsimp only; omega) | (simp only [World.size_alloc]; omega))); done))) (first
          | (go_at_call 79; refine (theNaN_any _).mono ?_; rintro e w3 ⟨rfl, hext3⟩; have hq3 : Ext wc w3 := Ext.trans (by (focus ((repeat (first | with_reducible assumption | with_reducible exact Ext.refl _ | with_reducible refine Ext.drew ?_ | with_reducible refine Ext.alloc ?_ _ _ | with_reducible refine Ext.setCell ?_ ?_ _ | with_reducible exact Nat.le_refl _ | (dsimp only; omega) | (simp only [World.size_alloc]; omega))); done))) hext3)
          | (go_at_call 87; refine (xheard_any _ a b ha hb).mono ?_; rintro e w4 ⟨fl, rfl, hext4⟩; have hq4 : Ext wc w4 := Ext.trans (by (focus ((repeat (first | with_reducible assumption | with_reducible exact Ext.refl _ | with_reducible refine Ext.drew ?_ | with_reducible refine Ext.alloc ?_ _ _ | with_reducible refine Ext.setCell ?_ ?_ _ | with_reducible exact Nat.le_refl _ | (dsimp only; omega) | (simp only [World.size_alloc]; omega))); done))) hext4))
        all_goals (go_wp2; go_ret2; exact ⟨_, by rw [hfin.out]; rfl, hwc.trans (by (focus ((repeat (first | with_reducible assumption | with_reducible exact Ext.refl _ | with_reducible refine Ext.drew ?_ | with_reducible refine Ext.alloc ?_ _ _ | with_reducible refine Ext.setCell ?_ ?_ _ | with_reducible exact Nat.le_refl _ | (dsimp only; omega) | (simp only [World.size_alloc]; omega))); done)))⟩)
      · rw [hkb] at y2
        have hfin : Hid (xMul a b = 2143289344) := xMul_bad (by omega)
        clear hca hcb hsa hsb
        go_wp2_with fail
        refine (theNaN_any _).mono ?_
        rintro e w3 ⟨rfl, hext3⟩
        go_wp2
        go_ret2
        exact ⟨_, by rw [hfin.out]; rfl, hwc.trans hext3⟩
      · rw [hkb] at y2
        have hfin : Hid (xMul a b = rnd (vN a * vN b) (vD a * vD b) + sgn (sa != sb)) := by
          show xMul a b = _
          rw [hsa, hsb]; exact xMul_fin (by omega) (by omega)
        have xx4 : ∀ w', Ext wc w' → w'.cell? ⟨B1, 4, none⟩ = some (.slice ao1 n1 k1) := fun w' h => h.cell x4
        have xx5 : ∀ w', Ext wc w' → w'.cell? ⟨B1, 5, none⟩ = some (.slice ao2 n2 k2) := fun w' h => h.cell x5
        have yy4 : ∀ w', Ext wc w' → w'.cell? ⟨B2, 4, none⟩ = some (.slice ao3 n3 k3) := fun w' h => h.cell y4
        have yy5 : ∀ w', Ext wc w' → w'.cell? ⟨B2, 5, none⟩ = some (.slice ao4 n4 k4) := fun w' h => h.cell y5
        have l1 : Lt32 (vN a) 7 := (vN_lt a).mono (Nat.le_refl _) (by omega)
        have l2 : Lt32 (vN b) 7 := (vN_lt b).mono (Nat.le_refl _) (by omega)
        have l3 := vD_lt a
        have l4 := vD_lt b
        have l5 : Lt32 (vN a * vN b) 14 := l1.mul l2
        have l6 : Lt32 (vD a * vD b) 14 := l3.mul l4
        have l7 : vD a * vD b ≠ 0 := Nat.mul_ne_zero (vD_ne a) (vD_ne b)
        clear hca hcb hsa hsb
        go_wp2_with fail
        go_region_held3 (fun w' => Ext wc w') ((focus ((repeat (first | with_reducible assumption | with_reducible exact Ext.refl _ | with_reducible refine Ext.drew ?_ | with_reducible refine Ext.alloc ?_ _ _ | with_reducible refine Ext.setCell ?_ ?_ _ | with_reducible exact Nat.le_refl _ | (dsimp only; omega) | (simp only [World.size_alloc]; omega))); done))) (first
          | (go_at_call_of 39 (Value.slice ao1 n1 k1); refine (mul_any (hna.ext (by (focus ((repeat (first | with_reducible assumption | with_reducible exact Ext.refl _ | with_reducible refine Ext.drew ?_ | with_reducible refine Ext.alloc ?_ _ _ | with_reducible refine Ext.setCell ?_ ?_ _ | with_reducible exact Nat.le_refl _ | (dsimp only; omega) | (simp only [World.size_alloc]; omega))); done)))) (hnb.ext (by (focus ((repeat (first | with_reducible assumption | with_reducible exact Ext.refl _ | with_reducible refine Ext.drew ?_ | with_reducible refine Ext.alloc ?_ _ _ | with_reducible refine Ext.setCell ?_ ?_ _ | with_reducible exact Nat.le_refl _ | (dsimp only; omega) | (simp only [World.size_alloc]; omega))); done)))) l1 l2 (by omega)).mono ?_; rintro e w3 ⟨v3, rfl, hext3, hv3⟩; have hq3 : Ext wc w3 := Ext.trans (by (focus ((repeat (first | with_reducible assumption | with_reducible exact Ext.refl _ | with_reducible refine Ext.drew ?_ | with_reducible refine Ext.alloc ?_ _ _ | with_reducible refine Ext.setCell ?_ ?_ _ | with_reducible exact Nat.le_refl _ | (dsimp only; omega) | (simp only [World.size_alloc]; omega))); done))) hext3; obtain ⟨ao5, n5, k5, rfl⟩ := hv3.form)
          | (go_at_call_of 39 (Value.slice ao2 n2 k2); refine (mul_any (hda.ext (by (focus ((repeat (first | with_reducible assumption | with_reducible exact Ext.refl _ | with_reducible refine Ext.drew ?_ | with_reducible refine Ext.alloc ?_ _ _ | with_reducible refine Ext.setCell ?_ ?_ _ | with_reducible exact Nat.le_refl _ | (dsimp only; omega) | (simp only [World.size_alloc]; omega))); done)))) (hdb.ext (by (focus ((repeat (first | with_reducible assumption | with_reducible exact Ext.refl _ | with_reducible refine Ext.drew ?_ | with_reducible refine Ext.alloc ?_ _ _ | with_reducible refine Ext.setCell ?_ ?_ _ | with_reducible exact Nat.le_refl _ | (dsimp only; omega) | (simp only [World.size_alloc]; omega))); done)))) l3 l4 (by omega)).mono ?_; rintro e w4 ⟨v4, rfl, hext4, hv4⟩; have hq4 : Ext wc w4 := Ext.trans (by (focus ((repeat (first | with_reducible assumption | with_reducible exact Ext.refl _ | with_reducible refine Ext.drew ?_ | with_reducible refine Ext.alloc ?_ _ _ | with_reducible refine Ext.setCell ?_ ?_ _ | with_reducible exact Nat.le_refl _ | (dsimp only; omega) | (simp only [World.size_alloc]; omega))); done))) hext4; obtain ⟨ao6, n6, k6, rfl⟩ := hv4.form; have hv34 := hv3.ext hext4)
          | (go_at_call 116; refine (roundFlags_any (sa != sb) (hv34.ext (by (focus ((repeat (first | with_reducible assumption | with_reducible exact Ext.refl _ | with_reducible refine Ext.drew ?_ | with_reducible refine Ext.alloc ?_ _ _ | with_reducible refine Ext.setCell ?_ ?_ _ | with_reducible exact Nat.le_refl _ | (dsimp only; omega) | (simp only [World.size_alloc]; omega))); done)))) (hv4.ext (by (focus ((repeat (first | with_reducible assumption | with_reducible exact Ext.refl _ | with_reducible refine Ext.drew ?_ | with_reducible refine Ext.alloc ?_ _ _ | with_reducible refine Ext.setCell ?_ ?_ _ | with_reducible exact Nat.le_refl _ | (dsimp only; omega) | (simp only [World.size_alloc]; omega))); done)))) l5 l6 (by omega) l7).mono ?_; rintro e w5 ⟨fl, rfl, hext5⟩; have hq5 : Ext wc w5 := Ext.trans (by (focus ((repeat (first | with_reducible assumption | with_reducible exact Ext.refl _ | with_reducible refine Ext.drew ?_ | with_reducible refine Ext.alloc ?_ _ _ | with_reducible refine Ext.setCell ?_ ?_ _ | with_reducible exact Nat.le_refl _ | (dsimp only; omega) | (simp only [World.size_alloc]; omega))); done))) hext5))
        go_wp2
        go_ret2
        exact ⟨_, by rw [hfin.out]; rfl, hwc.trans hq5⟩
      · have gcb4 : (cb == 4) = false := by rw [beq_eq_false_iff_ne]; omega
        have gcb3 : (cb == 3) = false := by rw [beq_eq_false_iff_ne]; omega
        have gcb0 : (cb == 0) = false := by rw [beq_eq_false_iff_ne]; omega
        have hfin : Hid (xMul a b = rnd (vN a * vN b) (vD a * vD b) + sgn (sa != sb)) := by
          show xMul a b = _
          rw [hsa, hsb]; exact xMul_fin (by omega) (by omega)
        have xx4 : ∀ w', Ext wc w' → w'.cell? ⟨B1, 4, none⟩ = some (.slice ao1 n1 k1) := fun w' h => h.cell x4
        have xx5 : ∀ w', Ext wc w' → w'.cell? ⟨B1, 5, none⟩ = some (.slice ao2 n2 k2) := fun w' h => h.cell x5
        have yy4 : ∀ w', Ext wc w' → w'.cell? ⟨B2, 4, none⟩ = some (.slice ao3 n3 k3) := fun w' h => h.cell y4
        have yy5 : ∀ w', Ext wc w' → w'.cell? ⟨B2, 5, none⟩ = some (.slice ao4 n4 k4) := fun w' h => h.cell y5
        have l1 : Lt32 (vN a) 7 := (vN_lt a).mono (Nat.le_refl _) (by omega)
        have l2 : Lt32 (vN b) 7 := (vN_lt b).mono (Nat.le_refl _) (by omega)
        have l3 := vD_lt a
        have l4 := vD_lt b
        have l5 : Lt32 (vN a * vN b) 14 := l1.mul l2
        have l6 : Lt32 (vD a * vD b) 14 := l3.mul l4
        have l7 : vD a * vD b ≠ 0 := Nat.mul_ne_zero (vD_ne a) (vD_ne b)
        clear hca hcb hsa hsb
        go_wp2_with fail
        go_region_held3 (fun w' => Ext wc w') ((focus ((repeat (first | with_reducible assumption | with_reducible exact Ext.refl _ | with_reducible refine Ext.drew ?_ | with_reducible refine Ext.alloc ?_ _ _ | with_reducible refine Ext.setCell ?_ ?_ _ | with_reducible exact Nat.le_refl _ | (dsimp only; omega) | (simp only [World.size_alloc]; omega))); done))) (first
          | (go_at_call_of 39 (Value.slice ao1 n1 k1); refine (mul_any (hna.ext (by (focus ((repeat (first | with_reducible assumption | with_reducible exact Ext.refl _ | with_reducible refine Ext.drew ?_ | with_reducible refine Ext.alloc ?_ _ _ | with_reducible refine Ext.setCell ?_ ?_ _ | with_reducible exact Nat.le_refl _ | (dsimp only; omega) | (simp only [World.size_alloc]; omega))); done)))) (hnb.ext (by (focus ((repeat (first | with_reducible assumption | with_reducible exact Ext.refl _ | with_reducible refine Ext.drew ?_ | with_reducible refine Ext.alloc ?_ _ _ | with_reducible refine Ext.setCell ?_ ?_ _ | with_reducible exact Nat.le_refl _ | (dsimp only; omega) | (simp only [World.size_alloc]; omega))); done)))) l1 l2 (by omega)).mono ?_; rintro e w3 ⟨v3, rfl, hext3, hv3⟩; have hq3 : Ext wc w3 := Ext.trans (by (focus ((repeat (first | with_reducible assumption | with_reducible exact Ext.refl _ | with_reducible refine Ext.drew ?_ | with_reducible refine Ext.alloc ?_ _ _ | with_reducible refine Ext.setCell ?_ ?_ _ | with_reducible exact Nat.le_refl _ | (dsimp only; omega) | (simp only [World.size_alloc]; omega))); done))) hext3; obtain ⟨ao5, n5, k5, rfl⟩ := hv3.form)
          | (go_at_call_of 39 (Value.slice ao2 n2 k2); refine (mul_any (hda.ext (by (focus ((repeat (first | with_reducible assumption | with_reducible exact Ext.refl _ | with_reducible refine Ext.drew ?_ | with_reducible refine Ext.alloc ?_ _ _ | with_reducible refine Ext.setCell ?_ ?_ _ | with_reducible exact Nat.le_refl _ | (dsimp only; omega) | (simp only [World.size_alloc]; omega))); done)))) (hdb.ext (by (focus ((repeat (first | with_reducible assumption | with_reducible exact Ext.refl _ | with_reducible refine Ext.drew ?_ | with_reducible refine Ext.alloc ?_ _ _ | with_reducible refine Ext.setCell ?_ ?_ _ | with_reducible exact Nat.le_refl _ | (dsimp only; omega) | (simp only [World.size_alloc]; omega))); done)))) l3 l4 (by omega)).mono ?_; rintro e w4 ⟨v4, rfl, hext4, hv4⟩; have hq4 : Ext wc w4 := Ext.trans (by (focus ((repeat (first | with_reducible assumption | with_reducible exact Ext.refl _ | with_reducible refine Ext.drew ?_ | with_reducible refine Ext.alloc ?_ _ _ | with_reducible refine Ext.setCell ?_ ?_ _ | with_reducible exact Nat.le_refl _ | (dsimp only; omega) | (simp only [World.size_alloc]; omega))); done))) hext4; obtain ⟨ao6, n6, k6, rfl⟩ := hv4.form; have hv34 := hv3.ext hext4)
          | (go_at_call 116; refine (roundFlags_any (sa != sb) (hv34.ext (by (focus ((repeat (first | with_reducible assumption | with_reducible exact Ext.refl _ | with_reducible refine Ext.drew ?_ | with_reducible refine Ext.alloc ?_ _ _ | with_reducible refine Ext.setCell ?_ ?_ _ | with_reducible exact Nat.le_refl _ | (dsimp only; omega) | (simp only [World.size_alloc]; omega))); done)))) (hv4.ext (by (focus ((repeat (first | with_reducible assumption | with_reducible exact Ext.refl _ | with_reducible refine Ext.drew ?_ | with_reducible refine Ext.alloc ?_ _ _ | with_reducible refine Ext.setCell ?_ ?_ _ | with_reducible exact Nat.le_refl _ | (dsimp only; omega) | (simp only [World.size_alloc]; omega))); done)))) l5 l6 (by omega) l7).mono ?_; rintro e w5 ⟨fl, rfl, hext5⟩; have hq5 : Ext wc w5 := Ext.trans (by (focus ((repeat (first | with_reducible assumption | with_reducible exact Ext.refl _ | with_reducible refine Ext.drew ?_ | with_reducible refine Ext.alloc ?_ _ _ | with_reducible refine Ext.setCell ?_ ?_ _ | with_reducible exact Nat.le_refl _ | (dsimp only; omega) | (simp only [World.size_alloc]; omega))); done))) hext5))
        go_wp2
        go_ret2
        exact ⟨_, by rw [hfin.out]; rfl, hwc.trans hq5⟩
    · have gca4 : (ca == 4) = false := by rw [beq_eq_false_iff_ne]; omega
      have gca3 : (ca == 3) = false := by rw [beq_eq_false_iff_ne]; omega
      have gca0 : (ca == 0) = false := by rw [beq_eq_false_iff_ne]; omega
      rcases kb with hkb | hkb | hkb | hkb
      · rw [hkb] at y2
        have hfin : Hid (xMul a b = 2143289344) := xMul_nan (by omega)
        clear hca hcb hsa hsb x4 x5 y4 y5
        go_wp2_with fail
        go_region_held3 (fun w' => Ext wc w') ((focus ((repeat (first | with_reducible assumption | with_reducible exact Ext.refl _ | with_reducible refine Ext.drew ?_ | with_reducible refine Ext.alloc ?_ _ _ | with_reducible refine Ext.setCell ?_ ?_ _ | with_reducible exact Nat.le_refl _ | (dsimp only; omega) | (simp only [World.size_alloc]; omega))); done))) (first
          | (go_at_call 79; refine (theNaN_any _).mono ?_; rintro e w3 ⟨rfl, hext3⟩; have hq3 : Ext wc w3 := Ext.trans (by (focus ((repeat (first | with_reducible assumption | with_reducible exact Ext.refl _ | with_reducible refine Ext.drew ?_ | with_reducible refine Ext.alloc ?_ _ _ | with_reducible refine Ext.setCell ?_ ?_ _ | with_reducible exact Nat.le_refl _ | (dsimp only; omega) | (simp only [World.size_alloc]; omega))); done))) hext3)
          | (go_at_call 87; refine (xheard_any _ a b ha hb).mono ?_; rintro e w4 ⟨fl, rfl, hext4⟩; have hq4 : Ext wc w4 := Ext.trans (by (focus ((repeat (first | with_reducible assumption | with_reducible exact Ext.refl _ | with_reducible refine Ext.drew ?_ | with_reducible refine Ext.alloc ?_ _ _ | with_reducible refine Ext.setCell ?_ ?_ _ | with_reducible exact Nat.le_refl _ | (dsimp only; omega) | (simp only [World.size_alloc]; omega))); done))) hext4))
        all_goals (go_wp2; go_ret2; exact ⟨_, by rw [hfin.out]; rfl, hwc.trans (by (focus ((repeat (first | with_reducible assumption | with_reducible exact Ext.refl _ | with_reducible refine Ext.drew ?_ | with_reducible refine Ext.alloc ?_ _ _ | with_reducible refine Ext.setCell ?_ ?_ _ | with_reducible exact Nat.le_refl _ | (dsimp only; omega) | (simp only [World.size_alloc]; omega))); done)))⟩)
      · rw [hkb] at y2
        have hfin : Hid (xMul a b = 2139095040 + sgn (sa != sb)) := by show xMul a b = _; rw [hsa, hsb]; exact xMul_inf (by omega) (by omega) (by omega)
        clear hca hcb hsa hsb
        go_wp2_with fail
        refine (inf_any _ (sa != sb)).mono ?_
        rintro e w3 ⟨rfl, hext3⟩
        go_wp2
        go_ret2
        exact ⟨_, by rw [hfin.out]; rfl, hwc.trans hext3⟩
      · rw [hkb] at y2
        have hfin : Hid (xMul a b = rnd (vN a * vN b) (vD a * vD b) + sgn (sa != sb)) := by
          show xMul a b = _
          rw [hsa, hsb]; exact xMul_fin (by omega) (by omega)
        have xx4 : ∀ w', Ext wc w' → w'.cell? ⟨B1, 4, none⟩ = some (.slice ao1 n1 k1) := fun w' h => h.cell x4
        have xx5 : ∀ w', Ext wc w' → w'.cell? ⟨B1, 5, none⟩ = some (.slice ao2 n2 k2) := fun w' h => h.cell x5
        have yy4 : ∀ w', Ext wc w' → w'.cell? ⟨B2, 4, none⟩ = some (.slice ao3 n3 k3) := fun w' h => h.cell y4
        have yy5 : ∀ w', Ext wc w' → w'.cell? ⟨B2, 5, none⟩ = some (.slice ao4 n4 k4) := fun w' h => h.cell y5
        have l1 : Lt32 (vN a) 7 := (vN_lt a).mono (Nat.le_refl _) (by omega)
        have l2 : Lt32 (vN b) 7 := (vN_lt b).mono (Nat.le_refl _) (by omega)
        have l3 := vD_lt a
        have l4 := vD_lt b
        have l5 : Lt32 (vN a * vN b) 14 := l1.mul l2
        have l6 : Lt32 (vD a * vD b) 14 := l3.mul l4
        have l7 : vD a * vD b ≠ 0 := Nat.mul_ne_zero (vD_ne a) (vD_ne b)
        clear hca hcb hsa hsb
        go_wp2_with fail
        go_region_held3 (fun w' => Ext wc w') ((focus ((repeat (first | with_reducible assumption | with_reducible exact Ext.refl _ | with_reducible refine Ext.drew ?_ | with_reducible refine Ext.alloc ?_ _ _ | with_reducible refine Ext.setCell ?_ ?_ _ | with_reducible exact Nat.le_refl _ | (dsimp only; omega) | (simp only [World.size_alloc]; omega))); done))) (first
          | (go_at_call_of 39 (Value.slice ao1 n1 k1); refine (mul_any (hna.ext (by (focus ((repeat (first | with_reducible assumption | with_reducible exact Ext.refl _ | with_reducible refine Ext.drew ?_ | with_reducible refine Ext.alloc ?_ _ _ | with_reducible refine Ext.setCell ?_ ?_ _ | with_reducible exact Nat.le_refl _ | (dsimp only; omega) | (simp only [World.size_alloc]; omega))); done)))) (hnb.ext (by (focus ((repeat (first | with_reducible assumption | with_reducible exact Ext.refl _ | with_reducible refine Ext.drew ?_ | with_reducible refine Ext.alloc ?_ _ _ | with_reducible refine Ext.setCell ?_ ?_ _ | with_reducible exact Nat.le_refl _ | (dsimp only; omega) | (simp only [World.size_alloc]; omega))); done)))) l1 l2 (by omega)).mono ?_; rintro e w3 ⟨v3, rfl, hext3, hv3⟩; have hq3 : Ext wc w3 := Ext.trans (by (focus ((repeat (first | with_reducible assumption | with_reducible exact Ext.refl _ | with_reducible refine Ext.drew ?_ | with_reducible refine Ext.alloc ?_ _ _ | with_reducible refine Ext.setCell ?_ ?_ _ | with_reducible exact Nat.le_refl _ | (dsimp only; omega) | (simp only [World.size_alloc]; omega))); done))) hext3; obtain ⟨ao5, n5, k5, rfl⟩ := hv3.form)
          | (go_at_call_of 39 (Value.slice ao2 n2 k2); refine (mul_any (hda.ext (by (focus ((repeat (first | with_reducible assumption | with_reducible exact Ext.refl _ | with_reducible refine Ext.drew ?_ | with_reducible refine Ext.alloc ?_ _ _ | with_reducible refine Ext.setCell ?_ ?_ _ | with_reducible exact Nat.le_refl _ | (dsimp only; omega) | (simp only [World.size_alloc]; omega))); done)))) (hdb.ext (by (focus ((repeat (first | with_reducible assumption | with_reducible exact Ext.refl _ | with_reducible refine Ext.drew ?_ | with_reducible refine Ext.alloc ?_ _ _ | with_reducible refine Ext.setCell ?_ ?_ _ | with_reducible exact Nat.le_refl _ | (dsimp only; omega) | (simp only [World.size_alloc]; omega))); done)))) l3 l4 (by omega)).mono ?_; rintro e w4 ⟨v4, rfl, hext4, hv4⟩; have hq4 : Ext wc w4 := Ext.trans (by (focus ((repeat (first | with_reducible assumption | with_reducible exact Ext.refl _ | with_reducible refine Ext.drew ?_ | with_reducible refine Ext.alloc ?_ _ _ | with_reducible refine Ext.setCell ?_ ?_ _ | with_reducible exact Nat.le_refl _ | (dsimp only; omega) | (simp only [World.size_alloc]; omega))); done))) hext4; obtain ⟨ao6, n6, k6, rfl⟩ := hv4.form; have hv34 := hv3.ext hext4)
          | (go_at_call 116; refine (roundFlags_any (sa != sb) (hv34.ext (by (focus ((repeat (first | with_reducible assumption | with_reducible exact Ext.refl _ | with_reducible refine Ext.drew ?_ | with_reducible refine Ext.alloc ?_ _ _ | with_reducible refine Ext.setCell ?_ ?_ _ | with_reducible exact Nat.le_refl _ | (dsimp only; omega) | (simp only [World.size_alloc]; omega))); done)))) (hv4.ext (by (focus ((repeat (first | with_reducible assumption | with_reducible exact Ext.refl _ | with_reducible refine Ext.drew ?_ | with_reducible refine Ext.alloc ?_ _ _ | with_reducible refine Ext.setCell ?_ ?_ _ | with_reducible exact Nat.le_refl _ | (dsimp only; omega) | (simp only [World.size_alloc]; omega))); done)))) l5 l6 (by omega) l7).mono ?_; rintro e w5 ⟨fl, rfl, hext5⟩; have hq5 : Ext wc w5 := Ext.trans (by (focus ((repeat (first | with_reducible assumption | with_reducible exact Ext.refl _ | with_reducible refine Ext.drew ?_ | with_reducible refine Ext.alloc ?_ _ _ | with_reducible refine Ext.setCell ?_ ?_ _ | with_reducible exact Nat.le_refl _ | (dsimp only; omega) | (simp only [World.size_alloc]; omega))); done))) hext5))
        go_wp2
        go_ret2
        exact ⟨_, by rw [hfin.out]; rfl, hwc.trans hq5⟩
      · have gcb4 : (cb == 4) = false := by rw [beq_eq_false_iff_ne]; omega
        have gcb3 : (cb == 3) = false := by rw [beq_eq_false_iff_ne]; omega
        have gcb0 : (cb == 0) = false := by rw [beq_eq_false_iff_ne]; omega
        have hfin : Hid (xMul a b = rnd (vN a * vN b) (vD a * vD b) + sgn (sa != sb)) := by
          show xMul a b = _
          rw [hsa, hsb]; exact xMul_fin (by omega) (by omega)
        have xx4 : ∀ w', Ext wc w' → w'.cell? ⟨B1, 4, none⟩ = some (.slice ao1 n1 k1) := fun w' h => h.cell x4
        have xx5 : ∀ w', Ext wc w' → w'.cell? ⟨B1, 5, none⟩ = some (.slice ao2 n2 k2) := fun w' h => h.cell x5
        have yy4 : ∀ w', Ext wc w' → w'.cell? ⟨B2, 4, none⟩ = some (.slice ao3 n3 k3) := fun w' h => h.cell y4
        have yy5 : ∀ w', Ext wc w' → w'.cell? ⟨B2, 5, none⟩ = some (.slice ao4 n4 k4) := fun w' h => h.cell y5
        have l1 : Lt32 (vN a) 7 := (vN_lt a).mono (Nat.le_refl _) (by omega)
        have l2 : Lt32 (vN b) 7 := (vN_lt b).mono (Nat.le_refl _) (by omega)
        have l3 := vD_lt a
        have l4 := vD_lt b
        have l5 : Lt32 (vN a * vN b) 14 := l1.mul l2
        have l6 : Lt32 (vD a * vD b) 14 := l3.mul l4
        have l7 : vD a * vD b ≠ 0 := Nat.mul_ne_zero (vD_ne a) (vD_ne b)
        clear hca hcb hsa hsb
        go_wp2_with fail
        go_region_held3 (fun w' => Ext wc w') ((focus ((repeat (first | with_reducible assumption | with_reducible exact Ext.refl _ | with_reducible refine Ext.drew ?_ | with_reducible refine Ext.alloc ?_ _ _ | with_reducible refine Ext.setCell ?_ ?_ _ | with_reducible exact Nat.le_refl _ | (dsimp only; omega) | (simp only [World.size_alloc]; omega))); done))) (first
          | (go_at_call_of 39 (Value.slice ao1 n1 k1); refine (mul_any (hna.ext (by (focus ((repeat (first | with_reducible assumption | with_reducible exact Ext.refl _ | with_reducible refine Ext.drew ?_ | with_reducible refine Ext.alloc ?_ _ _ | with_reducible refine Ext.setCell ?_ ?_ _ | with_reducible exact Nat.le_refl _ | (dsimp only; omega) | (simp only [World.size_alloc]; omega))); done)))) (hnb.ext (by (focus ((repeat (first | with_reducible assumption | with_reducible exact Ext.refl _ | with_reducible refine Ext.drew ?_ | with_reducible refine Ext.alloc ?_ _ _ | with_reducible refine Ext.setCell ?_ ?_ _ | with_reducible exact Nat.le_refl _ | (dsimp only; omega) | (simp only [World.size_alloc]; omega))); done)))) l1 l2 (by omega)).mono ?_; rintro e w3 ⟨v3, rfl, hext3, hv3⟩; have hq3 : Ext wc w3 := Ext.trans (by (focus ((repeat (first | with_reducible assumption | with_reducible exact Ext.refl _ | with_reducible refine Ext.drew ?_ | with_reducible refine Ext.alloc ?_ _ _ | with_reducible refine Ext.setCell ?_ ?_ _ | with_reducible exact Nat.le_refl _ | (dsimp only; omega) | (simp only [World.size_alloc]; omega))); done))) hext3; obtain ⟨ao5, n5, k5, rfl⟩ := hv3.form)
          | (go_at_call_of 39 (Value.slice ao2 n2 k2); refine (mul_any (hda.ext (by (focus ((repeat (first | with_reducible assumption | with_reducible exact Ext.refl _ | with_reducible refine Ext.drew ?_ | with_reducible refine Ext.alloc ?_ _ _ | with_reducible refine Ext.setCell ?_ ?_ _ | with_reducible exact Nat.le_refl _ | (dsimp only; omega) | (simp only [World.size_alloc]; omega))); done)))) (hdb.ext (by (focus ((repeat (first | with_reducible assumption | with_reducible exact Ext.refl _ | with_reducible refine Ext.drew ?_ | with_reducible refine Ext.alloc ?_ _ _ | with_reducible refine Ext.setCell ?_ ?_ _ | with_reducible exact Nat.le_refl _ | (dsimp only; omega) | (simp only [World.size_alloc]; omega))); done)))) l3 l4 (by omega)).mono ?_; rintro e w4 ⟨v4, rfl, hext4, hv4⟩; have hq4 : Ext wc w4 := Ext.trans (by (focus ((repeat (first | with_reducible assumption | with_reducible exact Ext.refl _ | with_reducible refine Ext.drew ?_ | with_reducible refine Ext.alloc ?_ _ _ | with_reducible refine Ext.setCell ?_ ?_ _ | with_reducible exact Nat.le_refl _ | (dsimp only; omega) | (simp only [World.size_alloc]; omega))); done))) hext4; obtain ⟨ao6, n6, k6, rfl⟩ := hv4.form; have hv34 := hv3.ext hext4)
          | (go_at_call 116; refine (roundFlags_any (sa != sb) (hv34.ext (by (focus ((repeat (first | with_reducible assumption | with_reducible exact Ext.refl _ | with_reducible refine Ext.drew ?_ | with_reducible refine Ext.alloc ?_ _ _ | with_reducible refine Ext.setCell ?_ ?_ _ | with_reducible exact Nat.le_refl _ | (dsimp only; omega) | (simp only [World.size_alloc]; omega))); done)))) (hv4.ext (by (focus ((repeat (first | with_reducible assumption | with_reducible exact Ext.refl _ | with_reducible refine Ext.drew ?_ | with_reducible refine Ext.alloc ?_ _ _ | with_reducible refine Ext.setCell ?_ ?_ _ | with_reducible exact Nat.le_refl _ | (dsimp only; omega) | (simp only [World.size_alloc]; omega))); done)))) l5 l6 (by omega) l7).mono ?_; rintro e w5 ⟨fl, rfl, hext5⟩; have hq5 : Ext wc w5 := Ext.trans (by (focus ((repeat (first | with_reducible assumption | with_reducible exact Ext.refl _ | with_reducible refine Ext.drew ?_ | with_reducible refine Ext.alloc ?_ _ _ | with_reducible refine Ext.setCell ?_ ?_ _ | with_reducible exact Nat.le_refl _ | (dsimp only; omega) | (simp only [World.size_alloc]; omega))); done))) hext5))
        go_wp2
        go_ret2
        exact ⟨_, by rw [hfin.out]; rfl, hwc.trans hq5⟩

set_option maxHeartbeats 1000000 in
theorem exactMul_any (w : World) (a b : Nat) (ha : a < 4294967296) (hb : b < 4294967296) :
    Calls Oaig.prog 46 #[.agg #[.int .u8 8, .int .u8 23], .int .u8 0, .int .u64 a, .int .u64 b] w fun e w' => e = .returned (.int .u64 (xMul a b : Nat)) ∧ Ext w w' := by
  go_enter Oaig.func46, Oaig.ntmps46
  go_wp2_with fail
  refine (xmulFlags_any _ a b ha hb).mono ?_
  rintro e w1 ⟨fl, rfl, hext1⟩
  go_wp2
  go_ret
  exact ⟨rfl, hext1.of_alloc⟩

end Go.Proofs.Ygcoai
