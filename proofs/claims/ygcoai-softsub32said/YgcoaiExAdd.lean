/-
  Seat gcoai. exact.AddFlags (73), exact.Add (44), exact.SubFlags (74), exact.Sub (45) at Binary32, NearestEven.
-/
import Derived.Test.YgcoaiAddRat
import Derived.Test.YgcoaiSoftAdd
namespace Go.Proofs.Ygcoai
open Go.RowKit

/-- What exact.Add answers. -/
def xAdd (a b : Nat) : Nat :=
  if pC a = 4 ∨ pC b = 4 then 2143289344
  else if pC a = 3 ∧ pC b = 3 ∧ uS a ≠ uS b then 2143289344
  else if pC a = 3 then a
  else if pC b = 3 then b
  else if uS a = uS b then rnd (vN a * vD b + vN b * vD a) (vD a * vD b) + sgn (uS a)
  else if vN b * vD a = vN a * vD b then 0
  else if vN b * vD a ≤ vN a * vD b then rnd (vN a * vD b - vN b * vD a) (vD a * vD b) + sgn (uS a)
  else rnd (vN b * vD a - vN a * vD b) (vD a * vD b) + sgn (uS b)

theorem xAdd_nan {a b : Nat} (h : pC a = 4 ∨ pC b = 4) : xAdd a b = 2143289344 := by unfold xAdd; rw [if_pos h]
theorem xAdd_bad {a b : Nat} (h1 : pC a = 3) (h2 : pC b = 3) (h : uS a ≠ uS b) : xAdd a b = 2143289344 := by unfold xAdd; rw [if_neg (by omega), if_pos ⟨h1, h2, h⟩]
theorem xAdd_infA {a b : Nat} (h4 : ¬ (pC a = 4 ∨ pC b = 4)) (h3 : pC a = 3) (h : pC b = 3 → uS a = uS b) : xAdd a b = a := by
  unfold xAdd; rw [if_neg h4, if_neg (fun h' => h'.2.2 (h h'.2.1)), if_pos h3]
theorem xAdd_infB {a b : Nat} (h4 : ¬ (pC a = 4 ∨ pC b = 4)) (ha : pC a ≠ 3) (hb : pC b = 3) : xAdd a b = b := by
  unfold xAdd; rw [if_neg h4, if_neg (fun h' => ha h'.1), if_neg ha, if_pos hb]
theorem xAdd_fin {a b : Nat} (ha : pC a ≤ 2) (hb : pC b ≤ 2) : xAdd a b =
    (if uS a = uS b then rnd (vN a * vD b + vN b * vD a) (vD a * vD b) + sgn (uS a)
    else if vN b * vD a = vN a * vD b then 0
    else if vN b * vD a ≤ vN a * vD b then rnd (vN a * vD b - vN b * vD a) (vD a * vD b) + sgn (uS a)
    else rnd (vN b * vD a - vN a * vD b) (vD a * vD b) + sgn (uS b)) := by
  unfold xAdd; rw [if_neg (by omega), if_neg (fun h' => by omega), if_neg (by omega), if_neg (by omega)]

theorem pN_uS' {x : Nat} (h : pC x ≠ 4) : pN x = uS x := by unfold pN; rw [if_neg h]

set_option maxRecDepth 20000 in
set_option maxHeartbeats 8000000 in
theorem xaddFlags_any (w : World) (a b : Nat) (ha : a < 4294967296) (hb : b < 4294967296) :
    Calls Oaig.prog 73 #[.agg #[.int .u8 8, .int .u8 23], .int .u8 0, .int .u64 a, .int .u64 b] w fun e w' => ∃ fl : Int, e = .returned (.tuple #[.int .u64 (xAdd a b : Nat), .int .u8 fl]) ∧ Ext w w' := by
  go_enter Oaig.func73, Oaig.ntmps73
  go_wp2_with fail
  refine (ok_any _).mono ?_
  rintro e W ⟨rfl, hext0⟩
  have hF : Blk W w.heap.size #[.int .u8 8, .int .u8 23] := (Blk.new w _ 25).ext hext0
  have hw0 := hext0.of_alloc
  clear hext0
  have c0 : ∀ w', Ext W w' → w'.cell? ⟨w.heap.size, 0, none⟩ = some (.int .u8 8) := fun w' h => (hF.ext h).cell rfl
  have c1 : ∀ w', Ext W w' → w'.cell? ⟨w.heap.size, 1, none⟩ = some (.int .u8 23) := fun w' h => (hF.ext h).cell rfl
  have a0 := hF.cell (i := 0) rfl
  have a1 := hF.cell (i := 1) rfl
  go_upto_region 3 with fail
  go_cut [10, 11] from 16 (fun p q wc => ∃ B1 B2 ng1 ao1 n1 k1 ao2 n2 k2 ng2 ao3 n3 k3 ao4 n4 k4, p = .pointer (some ⟨B1, 0, none⟩) ∧ q = .pointer (some ⟨B2, 0, none⟩) ∧ Ext W wc ∧ Blk wc B1 #[.int .u64 a, .bool (uS a), .int .i8 (pC a), .bool ng1, .slice ao1 n1 k1, .slice ao2 n2 k2] ∧ Blk wc B2 #[.int .u64 b, .bool (uS b), .int .i8 (pC b), .bool ng2, .slice ao3 n3 k3, .slice ao4 n4 k4] ∧ NatV wc (.slice ao1 n1 k1) (vN a) ∧ NatV wc (.slice ao2 n2 k2) (vD a) ∧ NatV wc (.slice ao3 n3 k3) (vN b) ∧ NatV wc (.slice ao4 n4 k4) (vD b) ∧ (pC a ≤ 2 → ng1 = pN a) ∧ (pC b ≤ 2 → ng2 = pN b))
  case first =>
    go_region_held3 (fun w' => Ext W w') ((focus ((repeat (first | with_reducible assumption | with_reducible exact Ext.refl _ | with_reducible refine Ext.drew ?_ | with_reducible refine Ext.alloc ?_ _ _ | with_reducible refine Ext.setCell ?_ ?_ _ | with_reducible exact Nat.le_refl _ | (dsimp only; omega) | (simp only [World.size_alloc]; omega))); done))) (first
      | (go_at_call_of 86 (Value.int IntKind.u64 (a : Int)); refine (open_any _ a ha).mono ?_; rintro e w1 ⟨ng1, nv1, dv1, rfl, hext1, hn1, hd1, hg1⟩
         obtain ⟨ao1, n1, k1, rfl⟩ := hn1.form
         obtain ⟨ao2, n2, k2, rfl⟩ := hd1.form
         have hq1 : Ext W w1 := Ext.trans (by (focus ((repeat (first | with_reducible assumption | with_reducible exact Ext.refl _ | with_reducible refine Ext.drew ?_ | with_reducible refine Ext.alloc ?_ _ _ | with_reducible refine Ext.setCell ?_ ?_ _ | with_reducible exact Nat.le_refl _ | (dsimp only; omega) | (simp only [World.size_alloc]; omega))); done))) hext1
         have hs1 := hq1.size
         (first
           | (have hP : Blk w1 W.heap.size #[.int .u64 0, .bool false, .int .i8 0, .bool false, .slice none 0 0, .slice none 0 0] := Blk.two1 hext1.undrew; have hP' : Blk w1 (W.heap.size + 1) #[.int .u64 0, .bool false, .int .i8 0, .bool false, .slice none 0 0, .slice none 0 0] := Blk.two2 hext1.undrew)
           | (have hP : Blk w1 W.heap.size #[.int .u64 0, .bool false, .int .i8 0, .bool false, .slice none 0 0, .slice none 0 0] := Blk.one hext1.undrew; have hPl := hP.lt; have hPn := Nat.ne_of_lt hPl)
           | skip))
      | (go_at_call_of 86 (Value.int IntKind.u64 (b : Int)); refine (open_any _ b hb).mono ?_; rintro e w2 ⟨ng2, nv2, dv2, rfl, hext2, hn2, hd2, hg2⟩
         obtain ⟨ao3, n3, k3, rfl⟩ := hn2.form
         obtain ⟨ao4, n4, k4, rfl⟩ := hd2.form
         have hx12 : Ext w1 w2 := Ext.trans (by (focus ((repeat (first | with_reducible assumption | with_reducible exact Ext.refl _ | with_reducible refine Ext.drew ?_ | with_reducible refine Ext.alloc ?_ _ _ | with_reducible refine Ext.setCell ?_ ?_ _ | with_reducible exact Nat.le_refl _ | (dsimp only; omega) | (simp only [World.size_alloc]; omega))); done))) hext2
         have hn12 := hn1.ext hx12
         have hd12 := hd1.ext hx12
         have hq2 : Ext W w2 := Ext.trans (by (focus ((repeat (first | with_reducible assumption | with_reducible exact Ext.refl _ | with_reducible refine Ext.drew ?_ | with_reducible refine Ext.alloc ?_ _ _ | with_reducible refine Ext.setCell ?_ ?_ _ | with_reducible exact Nat.le_refl _ | (dsimp only; omega) | (simp only [World.size_alloc]; omega))); done))) hext2
         have hs2 := hq2.size
         (first
           | (have hM := Blk.two1 hext2; have hM' := Blk.two2 hext2; have m0 := hM.cell (i := 0) rfl; have m1 := hM.cell (i := 1) rfl; have m2 := hM.cell (i := 2) rfl; have m3 := hM.cell (i := 3) rfl; have m4 := hM.cell (i := 4) rfl; have m5 := hM.cell (i := 5) rfl; have mz := hM.fz; have ml := hM.lt; have mn := Nat.ne_of_lt hM.lt; have k0 := hM'.cell (i := 0) rfl; have k1 := hM'.cell (i := 1) rfl; have k2 := hM'.cell (i := 2) rfl; have k3 := hM'.cell (i := 3) rfl; have k4 := hM'.cell (i := 4) rfl; have k5 := hM'.cell (i := 5) rfl; have kz := hM'.fz; have kl := hM'.lt; have kn := Nat.ne_of_lt hM'.lt)
           | (have hM := Blk.one hext2; have m0 := hM.cell (i := 0) rfl; have m1 := hM.cell (i := 1) rfl; have m2 := hM.cell (i := 2) rfl; have m3 := hM.cell (i := 3) rfl; have m4 := hM.cell (i := 4) rfl; have m5 := hM.cell (i := 5) rfl; have mz := hM.fz; have ml := hM.lt; have mn := Nat.ne_of_lt hM.lt)
           | skip)
         (first
           | (have hP2 := hP.ext hx12; have p0 := hP2.cell (i := 0) rfl; have p1 := hP2.cell (i := 1) rfl; have p2 := hP2.cell (i := 2) rfl; have p3 := hP2.cell (i := 3) rfl; have p4 := hP2.cell (i := 4) rfl; have p5 := hP2.cell (i := 5) rfl; have pz := hP2.fz; have pl := hP2.lt; have pn := Nat.ne_of_lt hP2.lt)
           | skip)
         (first
           | (have hQ2 := hP'.ext hx12; have q0 := hQ2.cell (i := 0) rfl; have q1 := hQ2.cell (i := 1) rfl; have q2 := hQ2.cell (i := 2) rfl; have q3 := hQ2.cell (i := 3) rfl; have q4 := hQ2.cell (i := 4) rfl; have q5 := hQ2.cell (i := 5) rfl; have qz := hQ2.fz; have ql := hQ2.lt; have qn := Nat.ne_of_lt hQ2.lt)
           | skip)))
    all_goals (go_wp2_with fail; go_meet)
    all_goals (case rel => exact ⟨_, _, _, _, _, _, _, _, _, _, _, _, _, _, _, _, rfl, rfl, by (focus ((repeat (first | with_reducible assumption | with_reducible exact Ext.refl _ | with_reducible refine Ext.drew ?_ | with_reducible refine Ext.alloc ?_ _ _ | with_reducible refine Ext.setCell ?_ ?_ _ | with_reducible exact Nat.le_refl _ | (dsimp only; omega) | (simp only [World.size_alloc]; omega))); done)), by (focus ((repeat (first | with_reducible assumption | with_reducible exact Blk.new _ _ _ | with_reducible exact Blk.new' _ _ (by simp) | with_reducible refine Blk.alloc ?_ _ _ | with_reducible refine Blk.set6 (a := .int .u64 0) (b := .bool false) (c := .int .i8 0) (d := .bool false) (e := .slice none 0 0) (f := .slice none 0 0) ?_ | with_reducible refine Blk.setOther ?_ ?_ _ | with_reducible refine Blk.drew ?_ | (apply Ne.symm; with_reducible assumption) | omega)); done)), by (focus ((repeat (first | with_reducible assumption | with_reducible exact Blk.new _ _ _ | with_reducible exact Blk.new' _ _ (by simp) | with_reducible refine Blk.alloc ?_ _ _ | with_reducible refine Blk.set6 (a := .int .u64 0) (b := .bool false) (c := .int .i8 0) (d := .bool false) (e := .slice none 0 0) (f := .slice none 0 0) ?_ | with_reducible refine Blk.setOther ?_ ?_ _ | with_reducible refine Blk.drew ?_ | (apply Ne.symm; with_reducible assumption) | omega)); done)), by (focus ((repeat (first | with_reducible assumption | with_reducible refine NatV.allocd ?_ | with_reducible refine NatV.drewd ?_ | with_reducible refine NatV.set6 (cs := #[.int .u64 0, .bool false, .int .i8 0, .bool false, .slice none 0 0, .slice none 0 0]) ?_ ?_ (by simp [NL]) (by simp [NL]) | with_reducible exact Blk.new _ _ _ | with_reducible exact Blk.new' _ _ (by simp) | with_reducible refine Blk.alloc ?_ _ _ | with_reducible refine Blk.set6 (a := .int .u64 0) (b := .bool false) (c := .int .i8 0) (d := .bool false) (e := .slice none 0 0) (f := .slice none 0 0) ?_ | with_reducible refine Blk.setOther ?_ ?_ _ | with_reducible refine Blk.drew ?_ | (apply Ne.symm; with_reducible assumption) | omega)); done)), by (focus ((repeat (first | with_reducible assumption | with_reducible refine NatV.allocd ?_ | with_reducible refine NatV.drewd ?_ | with_reducible refine NatV.set6 (cs := #[.int .u64 0, .bool false, .int .i8 0, .bool false, .slice none 0 0, .slice none 0 0]) ?_ ?_ (by simp [NL]) (by simp [NL]) | with_reducible exact Blk.new _ _ _ | with_reducible exact Blk.new' _ _ (by simp) | with_reducible refine Blk.alloc ?_ _ _ | with_reducible refine Blk.set6 (a := .int .u64 0) (b := .bool false) (c := .int .i8 0) (d := .bool false) (e := .slice none 0 0) (f := .slice none 0 0) ?_ | with_reducible refine Blk.setOther ?_ ?_ _ | with_reducible refine Blk.drew ?_ | (apply Ne.symm; with_reducible assumption) | omega)); done)), by (focus ((repeat (first | with_reducible assumption | with_reducible refine NatV.allocd ?_ | with_reducible refine NatV.drewd ?_ | with_reducible refine NatV.set6 (cs := #[.int .u64 0, .bool false, .int .i8 0, .bool false, .slice none 0 0, .slice none 0 0]) ?_ ?_ (by simp [NL]) (by simp [NL]) | with_reducible exact Blk.new _ _ _ | with_reducible exact Blk.new' _ _ (by simp) | with_reducible refine Blk.alloc ?_ _ _ | with_reducible refine Blk.set6 (a := .int .u64 0) (b := .bool false) (c := .int .i8 0) (d := .bool false) (e := .slice none 0 0) (f := .slice none 0 0) ?_ | with_reducible refine Blk.setOther ?_ ?_ _ | with_reducible refine Blk.drew ?_ | (apply Ne.symm; with_reducible assumption) | omega)); done)), by (focus ((repeat (first | with_reducible assumption | with_reducible refine NatV.allocd ?_ | with_reducible refine NatV.drewd ?_ | with_reducible refine NatV.set6 (cs := #[.int .u64 0, .bool false, .int .i8 0, .bool false, .slice none 0 0, .slice none 0 0]) ?_ ?_ (by simp [NL]) (by simp [NL]) | with_reducible exact Blk.new _ _ _ | with_reducible exact Blk.new' _ _ (by simp) | with_reducible refine Blk.alloc ?_ _ _ | with_reducible refine Blk.set6 (a := .int .u64 0) (b := .bool false) (c := .int .i8 0) (d := .bool false) (e := .slice none 0 0) (f := .slice none 0 0) ?_ | with_reducible refine Blk.setOther ?_ ?_ _ | with_reducible refine Blk.drew ?_ | (apply Ne.symm; with_reducible assumption) | omega)); done)), hg1, hg2⟩)
  case rest =>
    obtain ⟨B1, B2, ng1, ao1, n1, k1, ao2, n2, k2, ng2, ao3, n3, k3, ao4, n4, k4, rfl, rfl, hxc, hB1, hB2, hna, hda, hnb, hdb, hg1, hg2⟩ := hcut
    have hwc := hw0.trans hxc
    have hFc := hF.ext hxc
    have ff0 := hFc.cell (i := 0) rfl
    have ff1 := hFc.cell (i := 1) rfl
    have fg0 : ∀ w', Ext wc w' → w'.cell? ⟨w.heap.size, 0, none⟩ = some (.int .u8 8) := fun w' h => (hFc.ext h).cell rfl
    have fg1 : ∀ w', Ext wc w' → w'.cell? ⟨w.heap.size, 1, none⟩ = some (.int .u8 23) := fun w' h => (hFc.ext h).cell rfl
    have x0 := hB1.cell (i := 0) rfl
    have y0 := hB2.cell (i := 0) rfl
    have x1 := hB1.cell (i := 1) rfl
    have y1 := hB2.cell (i := 1) rfl
    have x2 := hB1.cell (i := 2) rfl
    have y2 := hB2.cell (i := 2) rfl
    have x3 := hB1.cell (i := 3) rfl
    have y3 := hB2.cell (i := 3) rfl
    have x4 := hB1.cell (i := 4) rfl
    have y4 := hB2.cell (i := 4) rfl
    have x5 := hB1.cell (i := 5) rfl
    have y5 := hB2.cell (i := 5) rfl
    clear c0 c1 a0 a1
    obtain ⟨ca, hca⟩ : ∃ c, c = pC a := ⟨_, rfl⟩
    obtain ⟨cb, hcb⟩ : ∃ c, c = pC b := ⟨_, rfl⟩
    obtain ⟨sa, hsa⟩ : ∃ c, c = uS a := ⟨_, rfl⟩
    obtain ⟨sb, hsb⟩ : ∃ c, c = uS b := ⟨_, rfl⟩
    have ka := kinds a
    have kb := kinds b
    dsimp only [List.getElem_toArray, List.getElem_cons_succ, List.getElem_cons_zero] at x0 x1 x2 x3 x4 x5 y0 y1 y2 y3 y4 y5
    rw [← hca] at x2 ka
    rw [← hcb] at y2 kb
    rw [← hsa] at x1
    rw [← hsb] at y1
    rcases ka with hka | hka | hka | hka
    · rw [hka] at x2
      clear kb
      have hfin : Hid (xAdd a b = 2143289344) := xAdd_nan (by omega)
      clear hca hcb hsa hsb x0 x3 x4 x5 y0 y3 y4 y5 hg1 hg2
      go_wp2_with fail
      go_region_held3 (fun w' => Ext wc w') ((focus ((repeat (first | with_reducible assumption | with_reducible exact Ext.refl _ | with_reducible refine Ext.drew ?_ | with_reducible refine Ext.alloc ?_ _ _ | with_reducible refine Ext.setCell ?_ ?_ _ | with_reducible exact Nat.le_refl _ | (dsimp only; omega) | (simp only [World.size_alloc]; omega))); done))) (first
        | (go_at_call 79; refine (theNaN_any _).mono ?_; rintro e w3 ⟨rfl, hext3⟩; have hq3 : Ext wc w3 := Ext.trans (by (focus ((repeat (first | with_reducible assumption | with_reducible exact Ext.refl _ | with_reducible refine Ext.drew ?_ | with_reducible refine Ext.alloc ?_ _ _ | with_reducible refine Ext.setCell ?_ ?_ _ | with_reducible exact Nat.le_refl _ | (dsimp only; omega) | (simp only [World.size_alloc]; omega))); done))) hext3)
        | (go_at_call 87; refine (xheard_any _ a b ha hb).mono ?_; rintro e w4 ⟨fl, rfl, hext4⟩; have hq4 : Ext wc w4 := Ext.trans (by (focus ((repeat (first | with_reducible assumption | with_reducible exact Ext.refl _ | with_reducible refine Ext.drew ?_ | with_reducible refine Ext.alloc ?_ _ _ | with_reducible refine Ext.setCell ?_ ?_ _ | with_reducible exact Nat.le_refl _ | (dsimp only; omega) | (simp only [World.size_alloc]; omega))); done))) hext4))
      all_goals (go_wp2; go_ret2; exact ⟨_, by rw [hfin.out]; rfl, hwc.trans (by (focus ((repeat (first | with_reducible assumption | with_reducible exact Ext.refl _ | with_reducible refine Ext.drew ?_ | with_reducible refine Ext.alloc ?_ _ _ | with_reducible refine Ext.setCell ?_ ?_ _ | with_reducible exact Nat.le_refl _ | (dsimp only; omega) | (simp only [World.size_alloc]; omega))); done)))⟩)
    · rw [hka] at x2
      rcases kb with hkb | hkb | hkb | hkb
      · rw [hkb] at y2
        have hfin : Hid (xAdd a b = 2143289344) := xAdd_nan (by omega)
        clear hca hcb hsa hsb x0 x3 x4 x5 y0 y3 y4 y5 hg1 hg2
        go_wp2_with fail
        go_region_held3 (fun w' => Ext wc w') ((focus ((repeat (first | with_reducible assumption | with_reducible exact Ext.refl _ | with_reducible refine Ext.drew ?_ | with_reducible refine Ext.alloc ?_ _ _ | with_reducible refine Ext.setCell ?_ ?_ _ | with_reducible exact Nat.le_refl _ | (dsimp only; omega) | (simp only [World.size_alloc]; omega))); done))) (first
          | (go_at_call 79; refine (theNaN_any _).mono ?_; rintro e w3 ⟨rfl, hext3⟩; have hq3 : Ext wc w3 := Ext.trans (by (focus ((repeat (first | with_reducible assumption | with_reducible exact Ext.refl _ | with_reducible refine Ext.drew ?_ | with_reducible refine Ext.alloc ?_ _ _ | with_reducible refine Ext.setCell ?_ ?_ _ | with_reducible exact Nat.le_refl _ | (dsimp only; omega) | (simp only [World.size_alloc]; omega))); done))) hext3)
          | (go_at_call 87; refine (xheard_any _ a b ha hb).mono ?_; rintro e w4 ⟨fl, rfl, hext4⟩; have hq4 : Ext wc w4 := Ext.trans (by (focus ((repeat (first | with_reducible assumption | with_reducible exact Ext.refl _ | with_reducible refine Ext.drew ?_ | with_reducible refine Ext.alloc ?_ _ _ | with_reducible refine Ext.setCell ?_ ?_ _ | with_reducible exact Nat.le_refl _ | (dsimp only; omega) | (simp only [World.size_alloc]; omega))); done))) hext4))
        all_goals (go_wp2; go_ret2; exact ⟨_, by rw [hfin.out]; rfl, hwc.trans (by (focus ((repeat (first | with_reducible assumption | with_reducible exact Ext.refl _ | with_reducible refine Ext.drew ?_ | with_reducible refine Ext.alloc ?_ _ _ | with_reducible refine Ext.setCell ?_ ?_ _ | with_reducible exact Nat.le_refl _ | (dsimp only; omega) | (simp only [World.size_alloc]; omega))); done)))⟩)
      · rw [hkb] at y2
        by_cases hn : sa = sb
        · subst hn
          have hfin : Hid (xAdd a b = a) := xAdd_infA (by omega) (by omega) (fun _ => by rw [← hsa, ← hsb])
          clear hca hcb hsa hsb hg1 hg2
          go_wp2
          go_ret2
          exact ⟨_, by rw [hfin.out]; rfl, hwc⟩
        · have hfin : Hid (xAdd a b = 2143289344) := xAdd_bad (by omega) (by omega) (by rw [← hsa, ← hsb]; exact hn)
          clear hca hcb hsa hsb hg1 hg2
          rcases bool_ne hn with ⟨rfl, rfl⟩ | ⟨rfl, rfl⟩
          all_goals (
            clear hn
            go_wp2_with fail
            refine (theNaN_any _).mono ?_
            rintro e w3 ⟨rfl, hext3⟩
            go_wp2
            go_ret2
            exact ⟨_, by rw [hfin.out]; rfl, hwc.trans hext3⟩)
      · rw [hkb] at y2
        have hfin : Hid (xAdd a b = a) := xAdd_infA (by omega) (by omega) (fun h' => by omega)
        clear hca hcb hsa hsb hg1 hg2
        go_wp2
        go_ret2
        exact ⟨_, by rw [hfin.out]; rfl, hwc⟩
      · have gcb4 : (cb == 4) = false := by rw [beq_eq_false_iff_ne]; omega
        have gcb3 : (cb == 3) = false := by rw [beq_eq_false_iff_ne]; omega
        have gcb0 : (cb == 0) = false := by rw [beq_eq_false_iff_ne]; omega
        have hfin : Hid (xAdd a b = a) := xAdd_infA (by omega) (by omega) (fun h' => by omega)
        clear hca hcb hsa hsb hg1 hg2
        go_wp2
        go_ret2
        exact ⟨_, by rw [hfin.out]; rfl, hwc⟩
    · rw [hka] at x2
      rcases kb with hkb | hkb | hkb | hkb
      · rw [hkb] at y2
        have hfin : Hid (xAdd a b = 2143289344) := xAdd_nan (by omega)
        clear hca hcb hsa hsb x0 x3 x4 x5 y0 y3 y4 y5 hg1 hg2
        go_wp2_with fail
        go_region_held3 (fun w' => Ext wc w') ((focus ((repeat (first | with_reducible assumption | with_reducible exact Ext.refl _ | with_reducible refine Ext.drew ?_ | with_reducible refine Ext.alloc ?_ _ _ | with_reducible refine Ext.setCell ?_ ?_ _ | with_reducible exact Nat.le_refl _ | (dsimp only; omega) | (simp only [World.size_alloc]; omega))); done))) (first
          | (go_at_call 79; refine (theNaN_any _).mono ?_; rintro e w3 ⟨rfl, hext3⟩; have hq3 : Ext wc w3 := Ext.trans (by (focus ((repeat (first | with_reducible assumption | with_reducible exact Ext.refl _ | with_reducible refine Ext.drew ?_ | with_reducible refine Ext.alloc ?_ _ _ | with_reducible refine Ext.setCell ?_ ?_ _ | with_reducible exact Nat.le_refl _ | (dsimp only; omega) | (simp only [World.size_alloc]; omega))); done))) hext3)
          | (go_at_call 87; refine (xheard_any _ a b ha hb).mono ?_; rintro e w4 ⟨fl, rfl, hext4⟩; have hq4 : Ext wc w4 := Ext.trans (by (focus ((repeat (first | with_reducible assumption | with_reducible exact Ext.refl _ | with_reducible refine Ext.drew ?_ | with_reducible refine Ext.alloc ?_ _ _ | with_reducible refine Ext.setCell ?_ ?_ _ | with_reducible exact Nat.le_refl _ | (dsimp only; omega) | (simp only [World.size_alloc]; omega))); done))) hext4))
        all_goals (go_wp2; go_ret2; exact ⟨_, by rw [hfin.out]; rfl, hwc.trans (by (focus ((repeat (first | with_reducible assumption | with_reducible exact Ext.refl _ | with_reducible refine Ext.drew ?_ | with_reducible refine Ext.alloc ?_ _ _ | with_reducible refine Ext.setCell ?_ ?_ _ | with_reducible exact Nat.le_refl _ | (dsimp only; omega) | (simp only [World.size_alloc]; omega))); done)))⟩)
      · rw [hkb] at y2
        have hfin : Hid (xAdd a b = b) := xAdd_infB (by omega) (by omega) (by omega)
        clear hca hcb hsa hsb hg1 hg2
        go_wp2
        go_ret2
        exact ⟨_, by rw [hfin.out]; rfl, hwc⟩
      · rw [hkb] at y2
        obtain rfl : ng1 = sa := by rw [hg1 (by omega), hsa]; exact pN_uS' (by omega)
        obtain rfl : ng2 = sb := by rw [hg2 (by omega), hsb]; exact pN_uS' (by omega)
        have hfn := xAdd_fin (a := a) (b := b) (by omega) (by omega)
        rw [← hsa, ← hsb] at hfn
        have l1 : Lt32 (vN a) 7 := (vN_lt a).mono (Nat.le_refl _) (by omega)
        have l2 : Lt32 (vN b) 7 := (vN_lt b).mono (Nat.le_refl _) (by omega)
        have l3 := vD_lt a
        have l4 := vD_lt b
        have l5 : Lt32 (vN a * vD b) 14 := l1.mul l4
        have l6 : Lt32 (vN b * vD a) 14 := l2.mul l3
        have l7 : Lt32 (vD a * vD b) 15 := (l3.mul l4).mono (Nat.le_refl _) (by omega)
        have l8 : vD a * vD b ≠ 0 := Nat.mul_ne_zero (vD_ne a) (vD_ne b)
        obtain ⟨xA, hxA⟩ : ∃ x, x = vN a * vD b := ⟨_, rfl⟩
        obtain ⟨xB, hxB⟩ : ∃ x, x = vN b * vD a := ⟨_, rfl⟩
        clear hca hcb hsa hsb hg1 hg2
        by_cases hn : ng1 = ng2
        · subst hn
          by_cases hz : vN a * vD b + vN b * vD a = 0
          · have hfin : Hid (xAdd a b = sgn ng1) := by show xAdd a b = _; rw [hfn, if_pos rfl, hz]; unfold rnd; rw [if_pos rfl, Nat.zero_add]
            clear hfn
            go_wp2_with fail
            refine (addRat_eq ng1 hna hda hnb hdb l1 l3 l2 l4).mono ?_
            rintro e w3 ⟨u3, u4, rfl, hext3, hv3, hd3⟩
            obtain ⟨ao5, n5, k5, rfl⟩ := hv3.form
            obtain ⟨ao6, n6, k6, rfl⟩ := hd3.form
            have e3 := hv3.zero hz
            have q38 : ∀ (w : World) (n' c' : Nat), (binOp .eql 38 (.slice ao5 n5 k5) (.slice none n' c')).run Oaig.prog w = .ok (.bool true) w := by
              intro w n' c'; rw [e3]; exact eqnil38 w none 0 0 n' c'
            clear e3
            have z0 : (w3.alloc (.cells #[.bool ng1, .slice ao5 n5 k5, .slice ao6 n6 k6] 40)).cell? ⟨w.heap.size, 0, none⟩ = some (.int .u8 8) := ((hFc.ext hext3).alloc _ _).cell rfl
            have z1 : (w3.alloc (.cells #[.bool ng1, .slice ao5 n5 k5, .slice ao6 n6 k6] 40)).cell? ⟨w.heap.size, 1, none⟩ = some (.int .u8 23) := ((hFc.ext hext3).alloc _ _).cell rfl
            have z2 : (w3.alloc (.cells #[.bool ng1, .slice ao5 n5 k5, .slice ao6 n6 k6] 40)).cell? ⟨B1, 1, none⟩ = some (.bool ng1) := ((Ext.refl _).alloc _ _).cell (hext3.cell x1)
            have z3 : (w3.alloc (.cells #[.bool ng1, .slice ao5 n5 k5, .slice ao6 n6 k6] 40)).cell? ⟨B2, 1, none⟩ = some (.bool ng1) := ((Ext.refl _).alloc _ _).cell (hext3.cell y1)
            clear ff0 ff1
            go_wp2_with fail
            refine (xzero_any _ ng1).mono ?_
            rintro e w4 ⟨rfl, hext4⟩
            go_wp2
            go_ret2
            exact ⟨_, by rw [hfin.out]; rfl, hwc.trans (hext3.trans hext4.of_alloc)⟩
          · have hfin : Hid (xAdd a b = rnd (vN a * vD b + vN b * vD a) (vD a * vD b) + sgn ng1) := by show xAdd a b = _; rw [hfn, if_pos rfl]
            clear hfn
            go_wp2_with fail
            refine (addRat_eq ng1 hna hda hnb hdb l1 l3 l2 l4).mono ?_
            rintro e w3 ⟨u3, u4, rfl, hext3, hv3, hd3⟩
            obtain ⟨ao5, n5, k5, rfl⟩ := hv3.form
            obtain ⟨ao6, n6, k6, rfl⟩ := hd3.form
            have e3 := hv3.notNil hz
            have q38 : ∀ (w : World) (n' c' : Nat), (binOp .eql 38 (.slice ao5 n5 k5) (.slice none n' c')).run Oaig.prog w = .ok (.bool false) w := by
              intro w n' c'; rw [← e3]; exact eqnil38 w ao5 n5 k5 n' c'
            clear e3
            have z0 : (w3.alloc (.cells #[.bool ng1, .slice ao5 n5 k5, .slice ao6 n6 k6] 40)).cell? ⟨w.heap.size, 0, none⟩ = some (.int .u8 8) := ((hFc.ext hext3).alloc _ _).cell rfl
            have z1 : (w3.alloc (.cells #[.bool ng1, .slice ao5 n5 k5, .slice ao6 n6 k6] 40)).cell? ⟨w.heap.size, 1, none⟩ = some (.int .u8 23) := ((hFc.ext hext3).alloc _ _).cell rfl
            have z2 : (w3.alloc (.cells #[.bool ng1, .slice ao5 n5 k5, .slice ao6 n6 k6] 40)).cell? ⟨B1, 1, none⟩ = some (.bool ng1) := ((Ext.refl _).alloc _ _).cell (hext3.cell x1)
            have z3 : (w3.alloc (.cells #[.bool ng1, .slice ao5 n5 k5, .slice ao6 n6 k6] 40)).cell? ⟨B2, 1, none⟩ = some (.bool ng1) := ((Ext.refl _).alloc _ _).cell (hext3.cell y1)
            clear ff0 ff1
            go_wp2_with fail
            refine (roundFlags_any ng1 (hv3.ext ((Ext.refl _).alloc _ _)) (hd3.ext ((Ext.refl _).alloc _ _)) (l5.add l6) l7 (by omega) l8).mono ?_
            rintro e w4 ⟨fl, rfl, hext4⟩
            go_wp2
            go_ret2
            exact ⟨_, by rw [hfin.out]; rfl, hwc.trans (hext3.trans hext4.of_alloc)⟩
        · rw [if_neg hn] at hfn
          have hnf : (ng1 == ng2) = false := by rw [beq_eq_false_iff_ne]; exact hn
          by_cases hz : vN b * vD a = vN a * vD b
          · have hfin : Hid (xAdd a b = sgn false) := by show xAdd a b = _; rw [hfn, if_pos hz]; rfl
            clear hfn
            go_wp2_with fail
            refine (addRat_ge ng1 ng2 hna hda hnb hdb l1 l3 l2 l4 hn (Nat.le_of_eq hz)).mono ?_
            rintro e w3 ⟨u3, u4, rfl, hext3, hv3, hd3⟩
            obtain ⟨ao5, n5, k5, rfl⟩ := hv3.form
            obtain ⟨ao6, n6, k6, rfl⟩ := hd3.form
            have e3 := hv3.zero (by rw [hz]; exact Nat.sub_self _)
            have q38 : ∀ (w : World) (n' c' : Nat), (binOp .eql 38 (.slice ao5 n5 k5) (.slice none n' c')).run Oaig.prog w = .ok (.bool true) w := by
              intro w n' c'; rw [e3]; exact eqnil38 w none 0 0 n' c'
            clear e3
            have z0 : (w3.alloc (.cells #[.bool ng1, .slice ao5 n5 k5, .slice ao6 n6 k6] 40)).cell? ⟨w.heap.size, 0, none⟩ = some (.int .u8 8) := ((hFc.ext hext3).alloc _ _).cell rfl
            have z1 : (w3.alloc (.cells #[.bool ng1, .slice ao5 n5 k5, .slice ao6 n6 k6] 40)).cell? ⟨w.heap.size, 1, none⟩ = some (.int .u8 23) := ((hFc.ext hext3).alloc _ _).cell rfl
            have z2 : (w3.alloc (.cells #[.bool ng1, .slice ao5 n5 k5, .slice ao6 n6 k6] 40)).cell? ⟨B1, 1, none⟩ = some (.bool ng1) := ((Ext.refl _).alloc _ _).cell (hext3.cell x1)
            have z3 : (w3.alloc (.cells #[.bool ng1, .slice ao5 n5 k5, .slice ao6 n6 k6] 40)).cell? ⟨B2, 1, none⟩ = some (.bool ng2) := ((Ext.refl _).alloc _ _).cell (hext3.cell y1)
            clear ff0 ff1
            go_wp2_with fail
            refine (xzero_any _ false).mono ?_
            rintro e w4 ⟨rfl, hext4⟩
            go_wp2
            go_ret2
            exact ⟨_, by rw [hfin.out]; rfl, hwc.trans (hext3.trans hext4.of_alloc)⟩
          · by_cases hle : vN b * vD a ≤ vN a * vD b
            · have hfin : Hid (xAdd a b = rnd (vN a * vD b - vN b * vD a) (vD a * vD b) + sgn ng1) := by show xAdd a b = _; rw [hfn, if_neg hz, if_pos hle]
              clear hfn
              go_wp2_with fail
              refine (addRat_ge ng1 ng2 hna hda hnb hdb l1 l3 l2 l4 hn hle).mono ?_
              rintro e w3 ⟨u3, u4, rfl, hext3, hv3, hd3⟩
              obtain ⟨ao5, n5, k5, rfl⟩ := hv3.form
              obtain ⟨ao6, n6, k6, rfl⟩ := hd3.form
              have e3 := hv3.notNil (show vN a * vD b - vN b * vD a ≠ 0 by omega)
              have q38 : ∀ (w : World) (n' c' : Nat), (binOp .eql 38 (.slice ao5 n5 k5) (.slice none n' c')).run Oaig.prog w = .ok (.bool false) w := by
                intro w n' c'; rw [← e3]; exact eqnil38 w ao5 n5 k5 n' c'
              clear e3
              have z0 : (w3.alloc (.cells #[.bool ng1, .slice ao5 n5 k5, .slice ao6 n6 k6] 40)).cell? ⟨w.heap.size, 0, none⟩ = some (.int .u8 8) := ((hFc.ext hext3).alloc _ _).cell rfl
              have z1 : (w3.alloc (.cells #[.bool ng1, .slice ao5 n5 k5, .slice ao6 n6 k6] 40)).cell? ⟨w.heap.size, 1, none⟩ = some (.int .u8 23) := ((hFc.ext hext3).alloc _ _).cell rfl
              have z2 : (w3.alloc (.cells #[.bool ng1, .slice ao5 n5 k5, .slice ao6 n6 k6] 40)).cell? ⟨B1, 1, none⟩ = some (.bool ng1) := ((Ext.refl _).alloc _ _).cell (hext3.cell x1)
              have z3 : (w3.alloc (.cells #[.bool ng1, .slice ao5 n5 k5, .slice ao6 n6 k6] 40)).cell? ⟨B2, 1, none⟩ = some (.bool ng2) := ((Ext.refl _).alloc _ _).cell (hext3.cell y1)
              clear ff0 ff1
              go_wp2_with fail
              refine (roundFlags_any ng1 (hv3.ext ((Ext.refl _).alloc _ _)) (hd3.ext ((Ext.refl _).alloc _ _)) (l5.mono (Nat.sub_le _ _) (by omega)) l7 (by omega) l8).mono ?_
              rintro e w4 ⟨fl, rfl, hext4⟩
              go_wp2
              go_ret2
              exact ⟨_, by rw [hfin.out]; rfl, hwc.trans (hext3.trans hext4.of_alloc)⟩
            · have hfin : Hid (xAdd a b = rnd (vN b * vD a - vN a * vD b) (vD a * vD b) + sgn ng2) := by show xAdd a b = _; rw [hfn, if_neg hz, if_neg hle]
              clear hfn
              go_wp2_with fail
              refine (addRat_lt ng1 ng2 hna hda hnb hdb l1 l3 l2 l4 hn (Nat.lt_of_not_le hle)).mono ?_
              rintro e w3 ⟨u3, u4, rfl, hext3, hv3, hd3⟩
              obtain ⟨ao5, n5, k5, rfl⟩ := hv3.form
              obtain ⟨ao6, n6, k6, rfl⟩ := hd3.form
              have e3 := hv3.notNil (show vN b * vD a - vN a * vD b ≠ 0 by omega)
              have q38 : ∀ (w : World) (n' c' : Nat), (binOp .eql 38 (.slice ao5 n5 k5) (.slice none n' c')).run Oaig.prog w = .ok (.bool false) w := by
                intro w n' c'; rw [← e3]; exact eqnil38 w ao5 n5 k5 n' c'
              clear e3
              have z0 : (w3.alloc (.cells #[.bool ng2, .slice ao5 n5 k5, .slice ao6 n6 k6] 40)).cell? ⟨w.heap.size, 0, none⟩ = some (.int .u8 8) := ((hFc.ext hext3).alloc _ _).cell rfl
              have z1 : (w3.alloc (.cells #[.bool ng2, .slice ao5 n5 k5, .slice ao6 n6 k6] 40)).cell? ⟨w.heap.size, 1, none⟩ = some (.int .u8 23) := ((hFc.ext hext3).alloc _ _).cell rfl
              have z2 : (w3.alloc (.cells #[.bool ng2, .slice ao5 n5 k5, .slice ao6 n6 k6] 40)).cell? ⟨B1, 1, none⟩ = some (.bool ng1) := ((Ext.refl _).alloc _ _).cell (hext3.cell x1)
              have z3 : (w3.alloc (.cells #[.bool ng2, .slice ao5 n5 k5, .slice ao6 n6 k6] 40)).cell? ⟨B2, 1, none⟩ = some (.bool ng2) := ((Ext.refl _).alloc _ _).cell (hext3.cell y1)
              clear ff0 ff1
              go_wp2_with fail
              refine (roundFlags_any ng2 (hv3.ext ((Ext.refl _).alloc _ _)) (hd3.ext ((Ext.refl _).alloc _ _)) (l6.mono (Nat.sub_le _ _) (by omega)) l7 (by omega) l8).mono ?_
              rintro e w4 ⟨fl, rfl, hext4⟩
              go_wp2
              go_ret2
              exact ⟨_, by rw [hfin.out]; rfl, hwc.trans (hext3.trans hext4.of_alloc)⟩
      · have gcb4 : (cb == 4) = false := by rw [beq_eq_false_iff_ne]; omega
        have gcb3 : (cb == 3) = false := by rw [beq_eq_false_iff_ne]; omega
        have gcb0 : (cb == 0) = false := by rw [beq_eq_false_iff_ne]; omega
        obtain rfl : ng1 = sa := by rw [hg1 (by omega), hsa]; exact pN_uS' (by omega)
        obtain rfl : ng2 = sb := by rw [hg2 (by omega), hsb]; exact pN_uS' (by omega)
        have hfn := xAdd_fin (a := a) (b := b) (by omega) (by omega)
        rw [← hsa, ← hsb] at hfn
        have l1 : Lt32 (vN a) 7 := (vN_lt a).mono (Nat.le_refl _) (by omega)
        have l2 : Lt32 (vN b) 7 := (vN_lt b).mono (Nat.le_refl _) (by omega)
        have l3 := vD_lt a
        have l4 := vD_lt b
        have l5 : Lt32 (vN a * vD b) 14 := l1.mul l4
        have l6 : Lt32 (vN b * vD a) 14 := l2.mul l3
        have l7 : Lt32 (vD a * vD b) 15 := (l3.mul l4).mono (Nat.le_refl _) (by omega)
        have l8 : vD a * vD b ≠ 0 := Nat.mul_ne_zero (vD_ne a) (vD_ne b)
        obtain ⟨xA, hxA⟩ : ∃ x, x = vN a * vD b := ⟨_, rfl⟩
        obtain ⟨xB, hxB⟩ : ∃ x, x = vN b * vD a := ⟨_, rfl⟩
        clear hca hcb hsa hsb hg1 hg2
        by_cases hn : ng1 = ng2
        · subst hn
          by_cases hz : vN a * vD b + vN b * vD a = 0
          · have hfin : Hid (xAdd a b = sgn ng1) := by show xAdd a b = _; rw [hfn, if_pos rfl, hz]; unfold rnd; rw [if_pos rfl, Nat.zero_add]
            clear hfn
            go_wp2_with fail
            refine (addRat_eq ng1 hna hda hnb hdb l1 l3 l2 l4).mono ?_
            rintro e w3 ⟨u3, u4, rfl, hext3, hv3, hd3⟩
            obtain ⟨ao5, n5, k5, rfl⟩ := hv3.form
            obtain ⟨ao6, n6, k6, rfl⟩ := hd3.form
            have e3 := hv3.zero hz
            have q38 : ∀ (w : World) (n' c' : Nat), (binOp .eql 38 (.slice ao5 n5 k5) (.slice none n' c')).run Oaig.prog w = .ok (.bool true) w := by
              intro w n' c'; rw [e3]; exact eqnil38 w none 0 0 n' c'
            clear e3
            have z0 : (w3.alloc (.cells #[.bool ng1, .slice ao5 n5 k5, .slice ao6 n6 k6] 40)).cell? ⟨w.heap.size, 0, none⟩ = some (.int .u8 8) := ((hFc.ext hext3).alloc _ _).cell rfl
            have z1 : (w3.alloc (.cells #[.bool ng1, .slice ao5 n5 k5, .slice ao6 n6 k6] 40)).cell? ⟨w.heap.size, 1, none⟩ = some (.int .u8 23) := ((hFc.ext hext3).alloc _ _).cell rfl
            have z2 : (w3.alloc (.cells #[.bool ng1, .slice ao5 n5 k5, .slice ao6 n6 k6] 40)).cell? ⟨B1, 1, none⟩ = some (.bool ng1) := ((Ext.refl _).alloc _ _).cell (hext3.cell x1)
            have z3 : (w3.alloc (.cells #[.bool ng1, .slice ao5 n5 k5, .slice ao6 n6 k6] 40)).cell? ⟨B2, 1, none⟩ = some (.bool ng1) := ((Ext.refl _).alloc _ _).cell (hext3.cell y1)
            clear ff0 ff1
            go_wp2_with fail
            refine (xzero_any _ ng1).mono ?_
            rintro e w4 ⟨rfl, hext4⟩
            go_wp2
            go_ret2
            exact ⟨_, by rw [hfin.out]; rfl, hwc.trans (hext3.trans hext4.of_alloc)⟩
          · have hfin : Hid (xAdd a b = rnd (vN a * vD b + vN b * vD a) (vD a * vD b) + sgn ng1) := by show xAdd a b = _; rw [hfn, if_pos rfl]
            clear hfn
            go_wp2_with fail
            refine (addRat_eq ng1 hna hda hnb hdb l1 l3 l2 l4).mono ?_
            rintro e w3 ⟨u3, u4, rfl, hext3, hv3, hd3⟩
            obtain ⟨ao5, n5, k5, rfl⟩ := hv3.form
            obtain ⟨ao6, n6, k6, rfl⟩ := hd3.form
            have e3 := hv3.notNil hz
            have q38 : ∀ (w : World) (n' c' : Nat), (binOp .eql 38 (.slice ao5 n5 k5) (.slice none n' c')).run Oaig.prog w = .ok (.bool false) w := by
              intro w n' c'; rw [← e3]; exact eqnil38 w ao5 n5 k5 n' c'
            clear e3
            have z0 : (w3.alloc (.cells #[.bool ng1, .slice ao5 n5 k5, .slice ao6 n6 k6] 40)).cell? ⟨w.heap.size, 0, none⟩ = some (.int .u8 8) := ((hFc.ext hext3).alloc _ _).cell rfl
            have z1 : (w3.alloc (.cells #[.bool ng1, .slice ao5 n5 k5, .slice ao6 n6 k6] 40)).cell? ⟨w.heap.size, 1, none⟩ = some (.int .u8 23) := ((hFc.ext hext3).alloc _ _).cell rfl
            have z2 : (w3.alloc (.cells #[.bool ng1, .slice ao5 n5 k5, .slice ao6 n6 k6] 40)).cell? ⟨B1, 1, none⟩ = some (.bool ng1) := ((Ext.refl _).alloc _ _).cell (hext3.cell x1)
            have z3 : (w3.alloc (.cells #[.bool ng1, .slice ao5 n5 k5, .slice ao6 n6 k6] 40)).cell? ⟨B2, 1, none⟩ = some (.bool ng1) := ((Ext.refl _).alloc _ _).cell (hext3.cell y1)
            clear ff0 ff1
            go_wp2_with fail
            refine (roundFlags_any ng1 (hv3.ext ((Ext.refl _).alloc _ _)) (hd3.ext ((Ext.refl _).alloc _ _)) (l5.add l6) l7 (by omega) l8).mono ?_
            rintro e w4 ⟨fl, rfl, hext4⟩
            go_wp2
            go_ret2
            exact ⟨_, by rw [hfin.out]; rfl, hwc.trans (hext3.trans hext4.of_alloc)⟩
        · rw [if_neg hn] at hfn
          have hnf : (ng1 == ng2) = false := by rw [beq_eq_false_iff_ne]; exact hn
          by_cases hz : vN b * vD a = vN a * vD b
          · have hfin : Hid (xAdd a b = sgn false) := by show xAdd a b = _; rw [hfn, if_pos hz]; rfl
            clear hfn
            go_wp2_with fail
            refine (addRat_ge ng1 ng2 hna hda hnb hdb l1 l3 l2 l4 hn (Nat.le_of_eq hz)).mono ?_
            rintro e w3 ⟨u3, u4, rfl, hext3, hv3, hd3⟩
            obtain ⟨ao5, n5, k5, rfl⟩ := hv3.form
            obtain ⟨ao6, n6, k6, rfl⟩ := hd3.form
            have e3 := hv3.zero (by rw [hz]; exact Nat.sub_self _)
            have q38 : ∀ (w : World) (n' c' : Nat), (binOp .eql 38 (.slice ao5 n5 k5) (.slice none n' c')).run Oaig.prog w = .ok (.bool true) w := by
              intro w n' c'; rw [e3]; exact eqnil38 w none 0 0 n' c'
            clear e3
            have z0 : (w3.alloc (.cells #[.bool ng1, .slice ao5 n5 k5, .slice ao6 n6 k6] 40)).cell? ⟨w.heap.size, 0, none⟩ = some (.int .u8 8) := ((hFc.ext hext3).alloc _ _).cell rfl
            have z1 : (w3.alloc (.cells #[.bool ng1, .slice ao5 n5 k5, .slice ao6 n6 k6] 40)).cell? ⟨w.heap.size, 1, none⟩ = some (.int .u8 23) := ((hFc.ext hext3).alloc _ _).cell rfl
            have z2 : (w3.alloc (.cells #[.bool ng1, .slice ao5 n5 k5, .slice ao6 n6 k6] 40)).cell? ⟨B1, 1, none⟩ = some (.bool ng1) := ((Ext.refl _).alloc _ _).cell (hext3.cell x1)
            have z3 : (w3.alloc (.cells #[.bool ng1, .slice ao5 n5 k5, .slice ao6 n6 k6] 40)).cell? ⟨B2, 1, none⟩ = some (.bool ng2) := ((Ext.refl _).alloc _ _).cell (hext3.cell y1)
            clear ff0 ff1
            go_wp2_with fail
            refine (xzero_any _ false).mono ?_
            rintro e w4 ⟨rfl, hext4⟩
            go_wp2
            go_ret2
            exact ⟨_, by rw [hfin.out]; rfl, hwc.trans (hext3.trans hext4.of_alloc)⟩
          · by_cases hle : vN b * vD a ≤ vN a * vD b
            · have hfin : Hid (xAdd a b = rnd (vN a * vD b - vN b * vD a) (vD a * vD b) + sgn ng1) := by show xAdd a b = _; rw [hfn, if_neg hz, if_pos hle]
              clear hfn
              go_wp2_with fail
              refine (addRat_ge ng1 ng2 hna hda hnb hdb l1 l3 l2 l4 hn hle).mono ?_
              rintro e w3 ⟨u3, u4, rfl, hext3, hv3, hd3⟩
              obtain ⟨ao5, n5, k5, rfl⟩ := hv3.form
              obtain ⟨ao6, n6, k6, rfl⟩ := hd3.form
              have e3 := hv3.notNil (show vN a * vD b - vN b * vD a ≠ 0 by omega)
              have q38 : ∀ (w : World) (n' c' : Nat), (binOp .eql 38 (.slice ao5 n5 k5) (.slice none n' c')).run Oaig.prog w = .ok (.bool false) w := by
                intro w n' c'; rw [← e3]; exact eqnil38 w ao5 n5 k5 n' c'
              clear e3
              have z0 : (w3.alloc (.cells #[.bool ng1, .slice ao5 n5 k5, .slice ao6 n6 k6] 40)).cell? ⟨w.heap.size, 0, none⟩ = some (.int .u8 8) := ((hFc.ext hext3).alloc _ _).cell rfl
              have z1 : (w3.alloc (.cells #[.bool ng1, .slice ao5 n5 k5, .slice ao6 n6 k6] 40)).cell? ⟨w.heap.size, 1, none⟩ = some (.int .u8 23) := ((hFc.ext hext3).alloc _ _).cell rfl
              have z2 : (w3.alloc (.cells #[.bool ng1, .slice ao5 n5 k5, .slice ao6 n6 k6] 40)).cell? ⟨B1, 1, none⟩ = some (.bool ng1) := ((Ext.refl _).alloc _ _).cell (hext3.cell x1)
              have z3 : (w3.alloc (.cells #[.bool ng1, .slice ao5 n5 k5, .slice ao6 n6 k6] 40)).cell? ⟨B2, 1, none⟩ = some (.bool ng2) := ((Ext.refl _).alloc _ _).cell (hext3.cell y1)
              clear ff0 ff1
              go_wp2_with fail
              refine (roundFlags_any ng1 (hv3.ext ((Ext.refl _).alloc _ _)) (hd3.ext ((Ext.refl _).alloc _ _)) (l5.mono (Nat.sub_le _ _) (by omega)) l7 (by omega) l8).mono ?_
              rintro e w4 ⟨fl, rfl, hext4⟩
              go_wp2
              go_ret2
              exact ⟨_, by rw [hfin.out]; rfl, hwc.trans (hext3.trans hext4.of_alloc)⟩
            · have hfin : Hid (xAdd a b = rnd (vN b * vD a - vN a * vD b) (vD a * vD b) + sgn ng2) := by show xAdd a b = _; rw [hfn, if_neg hz, if_neg hle]
              clear hfn
              go_wp2_with fail
              refine (addRat_lt ng1 ng2 hna hda hnb hdb l1 l3 l2 l4 hn (Nat.lt_of_not_le hle)).mono ?_
              rintro e w3 ⟨u3, u4, rfl, hext3, hv3, hd3⟩
              obtain ⟨ao5, n5, k5, rfl⟩ := hv3.form
              obtain ⟨ao6, n6, k6, rfl⟩ := hd3.form
              have e3 := hv3.notNil (show vN b * vD a - vN a * vD b ≠ 0 by omega)
              have q38 : ∀ (w : World) (n' c' : Nat), (binOp .eql 38 (.slice ao5 n5 k5) (.slice none n' c')).run Oaig.prog w = .ok (.bool false) w := by
                intro w n' c'; rw [← e3]; exact eqnil38 w ao5 n5 k5 n' c'
              clear e3
              have z0 : (w3.alloc (.cells #[.bool ng2, .slice ao5 n5 k5, .slice ao6 n6 k6] 40)).cell? ⟨w.heap.size, 0, none⟩ = some (.int .u8 8) := ((hFc.ext hext3).alloc _ _).cell rfl
              have z1 : (w3.alloc (.cells #[.bool ng2, .slice ao5 n5 k5, .slice ao6 n6 k6] 40)).cell? ⟨w.heap.size, 1, none⟩ = some (.int .u8 23) := ((hFc.ext hext3).alloc _ _).cell rfl
              have z2 : (w3.alloc (.cells #[.bool ng2, .slice ao5 n5 k5, .slice ao6 n6 k6] 40)).cell? ⟨B1, 1, none⟩ = some (.bool ng1) := ((Ext.refl _).alloc _ _).cell (hext3.cell x1)
              have z3 : (w3.alloc (.cells #[.bool ng2, .slice ao5 n5 k5, .slice ao6 n6 k6] 40)).cell? ⟨B2, 1, none⟩ = some (.bool ng2) := ((Ext.refl _).alloc _ _).cell (hext3.cell y1)
              clear ff0 ff1
              go_wp2_with fail
              refine (roundFlags_any ng2 (hv3.ext ((Ext.refl _).alloc _ _)) (hd3.ext ((Ext.refl _).alloc _ _)) (l6.mono (Nat.sub_le _ _) (by omega)) l7 (by omega) l8).mono ?_
              rintro e w4 ⟨fl, rfl, hext4⟩
              go_wp2
              go_ret2
              exact ⟨_, by rw [hfin.out]; rfl, hwc.trans (hext3.trans hext4.of_alloc)⟩
    · have gca4 : (ca == 4) = false := by rw [beq_eq_false_iff_ne]; omega
      have gca3 : (ca == 3) = false := by rw [beq_eq_false_iff_ne]; omega
      have gca0 : (ca == 0) = false := by rw [beq_eq_false_iff_ne]; omega
      rcases kb with hkb | hkb | hkb | hkb
      · rw [hkb] at y2
        have hfin : Hid (xAdd a b = 2143289344) := xAdd_nan (by omega)
        clear hca hcb hsa hsb x0 x3 x4 x5 y0 y3 y4 y5 hg1 hg2
        go_wp2_with fail
        go_region_held3 (fun w' => Ext wc w') ((focus ((repeat (first | with_reducible assumption | with_reducible exact Ext.refl _ | with_reducible refine Ext.drew ?_ | with_reducible refine Ext.alloc ?_ _ _ | with_reducible refine Ext.setCell ?_ ?_ _ | with_reducible exact Nat.le_refl _ | (dsimp only; omega) | (simp only [World.size_alloc]; omega))); done))) (first
          | (go_at_call 79; refine (theNaN_any _).mono ?_; rintro e w3 ⟨rfl, hext3⟩; have hq3 : Ext wc w3 := Ext.trans (by (focus ((repeat (first | with_reducible assumption | with_reducible exact Ext.refl _ | with_reducible refine Ext.drew ?_ | with_reducible refine Ext.alloc ?_ _ _ | with_reducible refine Ext.setCell ?_ ?_ _ | with_reducible exact Nat.le_refl _ | (dsimp only; omega) | (simp only [World.size_alloc]; omega))); done))) hext3)
          | (go_at_call 87; refine (xheard_any _ a b ha hb).mono ?_; rintro e w4 ⟨fl, rfl, hext4⟩; have hq4 : Ext wc w4 := Ext.trans (by (focus ((repeat (first | with_reducible assumption | with_reducible exact Ext.refl _ | with_reducible refine Ext.drew ?_ | with_reducible refine Ext.alloc ?_ _ _ | with_reducible refine Ext.setCell ?_ ?_ _ | with_reducible exact Nat.le_refl _ | (dsimp only; omega) | (simp only [World.size_alloc]; omega))); done))) hext4))
        all_goals (go_wp2; go_ret2; exact ⟨_, by rw [hfin.out]; rfl, hwc.trans (by (focus ((repeat (first | with_reducible assumption | with_reducible exact Ext.refl _ | with_reducible refine Ext.drew ?_ | with_reducible refine Ext.alloc ?_ _ _ | with_reducible refine Ext.setCell ?_ ?_ _ | with_reducible exact Nat.le_refl _ | (dsimp only; omega) | (simp only [World.size_alloc]; omega))); done)))⟩)
      · rw [hkb] at y2
        have hfin : Hid (xAdd a b = b) := xAdd_infB (by omega) (by omega) (by omega)
        clear hca hcb hsa hsb hg1 hg2
        go_wp2
        go_ret2
        exact ⟨_, by rw [hfin.out]; rfl, hwc⟩
      · rw [hkb] at y2
        obtain rfl : ng1 = sa := by rw [hg1 (by omega), hsa]; exact pN_uS' (by omega)
        obtain rfl : ng2 = sb := by rw [hg2 (by omega), hsb]; exact pN_uS' (by omega)
        have hfn := xAdd_fin (a := a) (b := b) (by omega) (by omega)
        rw [← hsa, ← hsb] at hfn
        have l1 : Lt32 (vN a) 7 := (vN_lt a).mono (Nat.le_refl _) (by omega)
        have l2 : Lt32 (vN b) 7 := (vN_lt b).mono (Nat.le_refl _) (by omega)
        have l3 := vD_lt a
        have l4 := vD_lt b
        have l5 : Lt32 (vN a * vD b) 14 := l1.mul l4
        have l6 : Lt32 (vN b * vD a) 14 := l2.mul l3
        have l7 : Lt32 (vD a * vD b) 15 := (l3.mul l4).mono (Nat.le_refl _) (by omega)
        have l8 : vD a * vD b ≠ 0 := Nat.mul_ne_zero (vD_ne a) (vD_ne b)
        obtain ⟨xA, hxA⟩ : ∃ x, x = vN a * vD b := ⟨_, rfl⟩
        obtain ⟨xB, hxB⟩ : ∃ x, x = vN b * vD a := ⟨_, rfl⟩
        clear hca hcb hsa hsb hg1 hg2
        by_cases hn : ng1 = ng2
        · subst hn
          by_cases hz : vN a * vD b + vN b * vD a = 0
          · have hfin : Hid (xAdd a b = sgn ng1) := by show xAdd a b = _; rw [hfn, if_pos rfl, hz]; unfold rnd; rw [if_pos rfl, Nat.zero_add]
            clear hfn
            go_wp2_with fail
            refine (addRat_eq ng1 hna hda hnb hdb l1 l3 l2 l4).mono ?_
            rintro e w3 ⟨u3, u4, rfl, hext3, hv3, hd3⟩
            obtain ⟨ao5, n5, k5, rfl⟩ := hv3.form
            obtain ⟨ao6, n6, k6, rfl⟩ := hd3.form
            have e3 := hv3.zero hz
            have q38 : ∀ (w : World) (n' c' : Nat), (binOp .eql 38 (.slice ao5 n5 k5) (.slice none n' c')).run Oaig.prog w = .ok (.bool true) w := by
              intro w n' c'; rw [e3]; exact eqnil38 w none 0 0 n' c'
            clear e3
            have z0 : (w3.alloc (.cells #[.bool ng1, .slice ao5 n5 k5, .slice ao6 n6 k6] 40)).cell? ⟨w.heap.size, 0, none⟩ = some (.int .u8 8) := ((hFc.ext hext3).alloc _ _).cell rfl
            have z1 : (w3.alloc (.cells #[.bool ng1, .slice ao5 n5 k5, .slice ao6 n6 k6] 40)).cell? ⟨w.heap.size, 1, none⟩ = some (.int .u8 23) := ((hFc.ext hext3).alloc _ _).cell rfl
            have z2 : (w3.alloc (.cells #[.bool ng1, .slice ao5 n5 k5, .slice ao6 n6 k6] 40)).cell? ⟨B1, 1, none⟩ = some (.bool ng1) := ((Ext.refl _).alloc _ _).cell (hext3.cell x1)
            have z3 : (w3.alloc (.cells #[.bool ng1, .slice ao5 n5 k5, .slice ao6 n6 k6] 40)).cell? ⟨B2, 1, none⟩ = some (.bool ng1) := ((Ext.refl _).alloc _ _).cell (hext3.cell y1)
            clear ff0 ff1
            go_wp2_with fail
            refine (xzero_any _ ng1).mono ?_
            rintro e w4 ⟨rfl, hext4⟩
            go_wp2
            go_ret2
            exact ⟨_, by rw [hfin.out]; rfl, hwc.trans (hext3.trans hext4.of_alloc)⟩
          · have hfin : Hid (xAdd a b = rnd (vN a * vD b + vN b * vD a) (vD a * vD b) + sgn ng1) := by show xAdd a b = _; rw [hfn, if_pos rfl]
            clear hfn
            go_wp2_with fail
            refine (addRat_eq ng1 hna hda hnb hdb l1 l3 l2 l4).mono ?_
            rintro e w3 ⟨u3, u4, rfl, hext3, hv3, hd3⟩
            obtain ⟨ao5, n5, k5, rfl⟩ := hv3.form
            obtain ⟨ao6, n6, k6, rfl⟩ := hd3.form
            have e3 := hv3.notNil hz
            have q38 : ∀ (w : World) (n' c' : Nat), (binOp .eql 38 (.slice ao5 n5 k5) (.slice none n' c')).run Oaig.prog w = .ok (.bool false) w := by
              intro w n' c'; rw [← e3]; exact eqnil38 w ao5 n5 k5 n' c'
            clear e3
            have z0 : (w3.alloc (.cells #[.bool ng1, .slice ao5 n5 k5, .slice ao6 n6 k6] 40)).cell? ⟨w.heap.size, 0, none⟩ = some (.int .u8 8) := ((hFc.ext hext3).alloc _ _).cell rfl
            have z1 : (w3.alloc (.cells #[.bool ng1, .slice ao5 n5 k5, .slice ao6 n6 k6] 40)).cell? ⟨w.heap.size, 1, none⟩ = some (.int .u8 23) := ((hFc.ext hext3).alloc _ _).cell rfl
            have z2 : (w3.alloc (.cells #[.bool ng1, .slice ao5 n5 k5, .slice ao6 n6 k6] 40)).cell? ⟨B1, 1, none⟩ = some (.bool ng1) := ((Ext.refl _).alloc _ _).cell (hext3.cell x1)
            have z3 : (w3.alloc (.cells #[.bool ng1, .slice ao5 n5 k5, .slice ao6 n6 k6] 40)).cell? ⟨B2, 1, none⟩ = some (.bool ng1) := ((Ext.refl _).alloc _ _).cell (hext3.cell y1)
            clear ff0 ff1
            go_wp2_with fail
            refine (roundFlags_any ng1 (hv3.ext ((Ext.refl _).alloc _ _)) (hd3.ext ((Ext.refl _).alloc _ _)) (l5.add l6) l7 (by omega) l8).mono ?_
            rintro e w4 ⟨fl, rfl, hext4⟩
            go_wp2
            go_ret2
            exact ⟨_, by rw [hfin.out]; rfl, hwc.trans (hext3.trans hext4.of_alloc)⟩
        · rw [if_neg hn] at hfn
          have hnf : (ng1 == ng2) = false := by rw [beq_eq_false_iff_ne]; exact hn
          by_cases hz : vN b * vD a = vN a * vD b
          · have hfin : Hid (xAdd a b = sgn false) := by show xAdd a b = _; rw [hfn, if_pos hz]; rfl
            clear hfn
            go_wp2_with fail
            refine (addRat_ge ng1 ng2 hna hda hnb hdb l1 l3 l2 l4 hn (Nat.le_of_eq hz)).mono ?_
            rintro e w3 ⟨u3, u4, rfl, hext3, hv3, hd3⟩
            obtain ⟨ao5, n5, k5, rfl⟩ := hv3.form
            obtain ⟨ao6, n6, k6, rfl⟩ := hd3.form
            have e3 := hv3.zero (by rw [hz]; exact Nat.sub_self _)
            have q38 : ∀ (w : World) (n' c' : Nat), (binOp .eql 38 (.slice ao5 n5 k5) (.slice none n' c')).run Oaig.prog w = .ok (.bool true) w := by
              intro w n' c'; rw [e3]; exact eqnil38 w none 0 0 n' c'
            clear e3
            have z0 : (w3.alloc (.cells #[.bool ng1, .slice ao5 n5 k5, .slice ao6 n6 k6] 40)).cell? ⟨w.heap.size, 0, none⟩ = some (.int .u8 8) := ((hFc.ext hext3).alloc _ _).cell rfl
            have z1 : (w3.alloc (.cells #[.bool ng1, .slice ao5 n5 k5, .slice ao6 n6 k6] 40)).cell? ⟨w.heap.size, 1, none⟩ = some (.int .u8 23) := ((hFc.ext hext3).alloc _ _).cell rfl
            have z2 : (w3.alloc (.cells #[.bool ng1, .slice ao5 n5 k5, .slice ao6 n6 k6] 40)).cell? ⟨B1, 1, none⟩ = some (.bool ng1) := ((Ext.refl _).alloc _ _).cell (hext3.cell x1)
            have z3 : (w3.alloc (.cells #[.bool ng1, .slice ao5 n5 k5, .slice ao6 n6 k6] 40)).cell? ⟨B2, 1, none⟩ = some (.bool ng2) := ((Ext.refl _).alloc _ _).cell (hext3.cell y1)
            clear ff0 ff1
            go_wp2_with fail
            refine (xzero_any _ false).mono ?_
            rintro e w4 ⟨rfl, hext4⟩
            go_wp2
            go_ret2
            exact ⟨_, by rw [hfin.out]; rfl, hwc.trans (hext3.trans hext4.of_alloc)⟩
          · by_cases hle : vN b * vD a ≤ vN a * vD b
            · have hfin : Hid (xAdd a b = rnd (vN a * vD b - vN b * vD a) (vD a * vD b) + sgn ng1) := by show xAdd a b = _; rw [hfn, if_neg hz, if_pos hle]
              clear hfn
              go_wp2_with fail
              refine (addRat_ge ng1 ng2 hna hda hnb hdb l1 l3 l2 l4 hn hle).mono ?_
              rintro e w3 ⟨u3, u4, rfl, hext3, hv3, hd3⟩
              obtain ⟨ao5, n5, k5, rfl⟩ := hv3.form
              obtain ⟨ao6, n6, k6, rfl⟩ := hd3.form
              have e3 := hv3.notNil (show vN a * vD b - vN b * vD a ≠ 0 by omega)
              have q38 : ∀ (w : World) (n' c' : Nat), (binOp .eql 38 (.slice ao5 n5 k5) (.slice none n' c')).run Oaig.prog w = .ok (.bool false) w := by
                intro w n' c'; rw [← e3]; exact eqnil38 w ao5 n5 k5 n' c'
              clear e3
              have z0 : (w3.alloc (.cells #[.bool ng1, .slice ao5 n5 k5, .slice ao6 n6 k6] 40)).cell? ⟨w.heap.size, 0, none⟩ = some (.int .u8 8) := ((hFc.ext hext3).alloc _ _).cell rfl
              have z1 : (w3.alloc (.cells #[.bool ng1, .slice ao5 n5 k5, .slice ao6 n6 k6] 40)).cell? ⟨w.heap.size, 1, none⟩ = some (.int .u8 23) := ((hFc.ext hext3).alloc _ _).cell rfl
              have z2 : (w3.alloc (.cells #[.bool ng1, .slice ao5 n5 k5, .slice ao6 n6 k6] 40)).cell? ⟨B1, 1, none⟩ = some (.bool ng1) := ((Ext.refl _).alloc _ _).cell (hext3.cell x1)
              have z3 : (w3.alloc (.cells #[.bool ng1, .slice ao5 n5 k5, .slice ao6 n6 k6] 40)).cell? ⟨B2, 1, none⟩ = some (.bool ng2) := ((Ext.refl _).alloc _ _).cell (hext3.cell y1)
              clear ff0 ff1
              go_wp2_with fail
              refine (roundFlags_any ng1 (hv3.ext ((Ext.refl _).alloc _ _)) (hd3.ext ((Ext.refl _).alloc _ _)) (l5.mono (Nat.sub_le _ _) (by omega)) l7 (by omega) l8).mono ?_
              rintro e w4 ⟨fl, rfl, hext4⟩
              go_wp2
              go_ret2
              exact ⟨_, by rw [hfin.out]; rfl, hwc.trans (hext3.trans hext4.of_alloc)⟩
            · have hfin : Hid (xAdd a b = rnd (vN b * vD a - vN a * vD b) (vD a * vD b) + sgn ng2) := by show xAdd a b = _; rw [hfn, if_neg hz, if_neg hle]
              clear hfn
              go_wp2_with fail
              refine (addRat_lt ng1 ng2 hna hda hnb hdb l1 l3 l2 l4 hn (Nat.lt_of_not_le hle)).mono ?_
              rintro e w3 ⟨u3, u4, rfl, hext3, hv3, hd3⟩
              obtain ⟨ao5, n5, k5, rfl⟩ := hv3.form
              obtain ⟨ao6, n6, k6, rfl⟩ := hd3.form
              have e3 := hv3.notNil (show vN b * vD a - vN a * vD b ≠ 0 by omega)
              have q38 : ∀ (w : World) (n' c' : Nat), (binOp .eql 38 (.slice ao5 n5 k5) (.slice none n' c')).run Oaig.prog w = .ok (.bool false) w := by
                intro w n' c'; rw [← e3]; exact eqnil38 w ao5 n5 k5 n' c'
              clear e3
              have z0 : (w3.alloc (.cells #[.bool ng2, .slice ao5 n5 k5, .slice ao6 n6 k6] 40)).cell? ⟨w.heap.size, 0, none⟩ = some (.int .u8 8) := ((hFc.ext hext3).alloc _ _).cell rfl
              have z1 : (w3.alloc (.cells #[.bool ng2, .slice ao5 n5 k5, .slice ao6 n6 k6] 40)).cell? ⟨w.heap.size, 1, none⟩ = some (.int .u8 23) := ((hFc.ext hext3).alloc _ _).cell rfl
              have z2 : (w3.alloc (.cells #[.bool ng2, .slice ao5 n5 k5, .slice ao6 n6 k6] 40)).cell? ⟨B1, 1, none⟩ = some (.bool ng1) := ((Ext.refl _).alloc _ _).cell (hext3.cell x1)
              have z3 : (w3.alloc (.cells #[.bool ng2, .slice ao5 n5 k5, .slice ao6 n6 k6] 40)).cell? ⟨B2, 1, none⟩ = some (.bool ng2) := ((Ext.refl _).alloc _ _).cell (hext3.cell y1)
              clear ff0 ff1
              go_wp2_with fail
              refine (roundFlags_any ng2 (hv3.ext ((Ext.refl _).alloc _ _)) (hd3.ext ((Ext.refl _).alloc _ _)) (l6.mono (Nat.sub_le _ _) (by omega)) l7 (by omega) l8).mono ?_
              rintro e w4 ⟨fl, rfl, hext4⟩
              go_wp2
              go_ret2
              exact ⟨_, by rw [hfin.out]; rfl, hwc.trans (hext3.trans hext4.of_alloc)⟩
      · have gcb4 : (cb == 4) = false := by rw [beq_eq_false_iff_ne]; omega
        have gcb3 : (cb == 3) = false := by rw [beq_eq_false_iff_ne]; omega
        have gcb0 : (cb == 0) = false := by rw [beq_eq_false_iff_ne]; omega
        obtain rfl : ng1 = sa := by rw [hg1 (by omega), hsa]; exact pN_uS' (by omega)
        obtain rfl : ng2 = sb := by rw [hg2 (by omega), hsb]; exact pN_uS' (by omega)
        have hfn := xAdd_fin (a := a) (b := b) (by omega) (by omega)
        rw [← hsa, ← hsb] at hfn
        have l1 : Lt32 (vN a) 7 := (vN_lt a).mono (Nat.le_refl _) (by omega)
        have l2 : Lt32 (vN b) 7 := (vN_lt b).mono (Nat.le_refl _) (by omega)
        have l3 := vD_lt a
        have l4 := vD_lt b
        have l5 : Lt32 (vN a * vD b) 14 := l1.mul l4
        have l6 : Lt32 (vN b * vD a) 14 := l2.mul l3
        have l7 : Lt32 (vD a * vD b) 15 := (l3.mul l4).mono (Nat.le_refl _) (by omega)
        have l8 : vD a * vD b ≠ 0 := Nat.mul_ne_zero (vD_ne a) (vD_ne b)
        obtain ⟨xA, hxA⟩ : ∃ x, x = vN a * vD b := ⟨_, rfl⟩
        obtain ⟨xB, hxB⟩ : ∃ x, x = vN b * vD a := ⟨_, rfl⟩
        clear hca hcb hsa hsb hg1 hg2
        by_cases hn : ng1 = ng2
        · subst hn
          by_cases hz : vN a * vD b + vN b * vD a = 0
          · have hfin : Hid (xAdd a b = sgn ng1) := by show xAdd a b = _; rw [hfn, if_pos rfl, hz]; unfold rnd; rw [if_pos rfl, Nat.zero_add]
            clear hfn
            go_wp2_with fail
            refine (addRat_eq ng1 hna hda hnb hdb l1 l3 l2 l4).mono ?_
            rintro e w3 ⟨u3, u4, rfl, hext3, hv3, hd3⟩
            obtain ⟨ao5, n5, k5, rfl⟩ := hv3.form
            obtain ⟨ao6, n6, k6, rfl⟩ := hd3.form
            have e3 := hv3.zero hz
            have q38 : ∀ (w : World) (n' c' : Nat), (binOp .eql 38 (.slice ao5 n5 k5) (.slice none n' c')).run Oaig.prog w = .ok (.bool true) w := by
              intro w n' c'; rw [e3]; exact eqnil38 w none 0 0 n' c'
            clear e3
            have z0 : (w3.alloc (.cells #[.bool ng1, .slice ao5 n5 k5, .slice ao6 n6 k6] 40)).cell? ⟨w.heap.size, 0, none⟩ = some (.int .u8 8) := ((hFc.ext hext3).alloc _ _).cell rfl
            have z1 : (w3.alloc (.cells #[.bool ng1, .slice ao5 n5 k5, .slice ao6 n6 k6] 40)).cell? ⟨w.heap.size, 1, none⟩ = some (.int .u8 23) := ((hFc.ext hext3).alloc _ _).cell rfl
            have z2 : (w3.alloc (.cells #[.bool ng1, .slice ao5 n5 k5, .slice ao6 n6 k6] 40)).cell? ⟨B1, 1, none⟩ = some (.bool ng1) := ((Ext.refl _).alloc _ _).cell (hext3.cell x1)
            have z3 : (w3.alloc (.cells #[.bool ng1, .slice ao5 n5 k5, .slice ao6 n6 k6] 40)).cell? ⟨B2, 1, none⟩ = some (.bool ng1) := ((Ext.refl _).alloc _ _).cell (hext3.cell y1)
            clear ff0 ff1
            go_wp2_with fail
            refine (xzero_any _ ng1).mono ?_
            rintro e w4 ⟨rfl, hext4⟩
            go_wp2
            go_ret2
            exact ⟨_, by rw [hfin.out]; rfl, hwc.trans (hext3.trans hext4.of_alloc)⟩
          · have hfin : Hid (xAdd a b = rnd (vN a * vD b + vN b * vD a) (vD a * vD b) + sgn ng1) := by show xAdd a b = _; rw [hfn, if_pos rfl]
            clear hfn
            go_wp2_with fail
            refine (addRat_eq ng1 hna hda hnb hdb l1 l3 l2 l4).mono ?_
            rintro e w3 ⟨u3, u4, rfl, hext3, hv3, hd3⟩
            obtain ⟨ao5, n5, k5, rfl⟩ := hv3.form
            obtain ⟨ao6, n6, k6, rfl⟩ := hd3.form
            have e3 := hv3.notNil hz
            have q38 : ∀ (w : World) (n' c' : Nat), (binOp .eql 38 (.slice ao5 n5 k5) (.slice none n' c')).run Oaig.prog w = .ok (.bool false) w := by
              intro w n' c'; rw [← e3]; exact eqnil38 w ao5 n5 k5 n' c'
            clear e3
            have z0 : (w3.alloc (.cells #[.bool ng1, .slice ao5 n5 k5, .slice ao6 n6 k6] 40)).cell? ⟨w.heap.size, 0, none⟩ = some (.int .u8 8) := ((hFc.ext hext3).alloc _ _).cell rfl
            have z1 : (w3.alloc (.cells #[.bool ng1, .slice ao5 n5 k5, .slice ao6 n6 k6] 40)).cell? ⟨w.heap.size, 1, none⟩ = some (.int .u8 23) := ((hFc.ext hext3).alloc _ _).cell rfl
            have z2 : (w3.alloc (.cells #[.bool ng1, .slice ao5 n5 k5, .slice ao6 n6 k6] 40)).cell? ⟨B1, 1, none⟩ = some (.bool ng1) := ((Ext.refl _).alloc _ _).cell (hext3.cell x1)
            have z3 : (w3.alloc (.cells #[.bool ng1, .slice ao5 n5 k5, .slice ao6 n6 k6] 40)).cell? ⟨B2, 1, none⟩ = some (.bool ng1) := ((Ext.refl _).alloc _ _).cell (hext3.cell y1)
            clear ff0 ff1
            go_wp2_with fail
            refine (roundFlags_any ng1 (hv3.ext ((Ext.refl _).alloc _ _)) (hd3.ext ((Ext.refl _).alloc _ _)) (l5.add l6) l7 (by omega) l8).mono ?_
            rintro e w4 ⟨fl, rfl, hext4⟩
            go_wp2
            go_ret2
            exact ⟨_, by rw [hfin.out]; rfl, hwc.trans (hext3.trans hext4.of_alloc)⟩
        · rw [if_neg hn] at hfn
          have hnf : (ng1 == ng2) = false := by rw [beq_eq_false_iff_ne]; exact hn
          by_cases hz : vN b * vD a = vN a * vD b
          · have hfin : Hid (xAdd a b = sgn false) := by show xAdd a b = _; rw [hfn, if_pos hz]; rfl
            clear hfn
            go_wp2_with fail
            refine (addRat_ge ng1 ng2 hna hda hnb hdb l1 l3 l2 l4 hn (Nat.le_of_eq hz)).mono ?_
            rintro e w3 ⟨u3, u4, rfl, hext3, hv3, hd3⟩
            obtain ⟨ao5, n5, k5, rfl⟩ := hv3.form
            obtain ⟨ao6, n6, k6, rfl⟩ := hd3.form
            have e3 := hv3.zero (by rw [hz]; exact Nat.sub_self _)
            have q38 : ∀ (w : World) (n' c' : Nat), (binOp .eql 38 (.slice ao5 n5 k5) (.slice none n' c')).run Oaig.prog w = .ok (.bool true) w := by
              intro w n' c'; rw [e3]; exact eqnil38 w none 0 0 n' c'
            clear e3
            have z0 : (w3.alloc (.cells #[.bool ng1, .slice ao5 n5 k5, .slice ao6 n6 k6] 40)).cell? ⟨w.heap.size, 0, none⟩ = some (.int .u8 8) := ((hFc.ext hext3).alloc _ _).cell rfl
            have z1 : (w3.alloc (.cells #[.bool ng1, .slice ao5 n5 k5, .slice ao6 n6 k6] 40)).cell? ⟨w.heap.size, 1, none⟩ = some (.int .u8 23) := ((hFc.ext hext3).alloc _ _).cell rfl
            have z2 : (w3.alloc (.cells #[.bool ng1, .slice ao5 n5 k5, .slice ao6 n6 k6] 40)).cell? ⟨B1, 1, none⟩ = some (.bool ng1) := ((Ext.refl _).alloc _ _).cell (hext3.cell x1)
            have z3 : (w3.alloc (.cells #[.bool ng1, .slice ao5 n5 k5, .slice ao6 n6 k6] 40)).cell? ⟨B2, 1, none⟩ = some (.bool ng2) := ((Ext.refl _).alloc _ _).cell (hext3.cell y1)
            clear ff0 ff1
            go_wp2_with fail
            refine (xzero_any _ false).mono ?_
            rintro e w4 ⟨rfl, hext4⟩
            go_wp2
            go_ret2
            exact ⟨_, by rw [hfin.out]; rfl, hwc.trans (hext3.trans hext4.of_alloc)⟩
          · by_cases hle : vN b * vD a ≤ vN a * vD b
            · have hfin : Hid (xAdd a b = rnd (vN a * vD b - vN b * vD a) (vD a * vD b) + sgn ng1) := by show xAdd a b = _; rw [hfn, if_neg hz, if_pos hle]
              clear hfn
              go_wp2_with fail
              refine (addRat_ge ng1 ng2 hna hda hnb hdb l1 l3 l2 l4 hn hle).mono ?_
              rintro e w3 ⟨u3, u4, rfl, hext3, hv3, hd3⟩
              obtain ⟨ao5, n5, k5, rfl⟩ := hv3.form
              obtain ⟨ao6, n6, k6, rfl⟩ := hd3.form
              have e3 := hv3.notNil (show vN a * vD b - vN b * vD a ≠ 0 by omega)
              have q38 : ∀ (w : World) (n' c' : Nat), (binOp .eql 38 (.slice ao5 n5 k5) (.slice none n' c')).run Oaig.prog w = .ok (.bool false) w := by
                intro w n' c'; rw [← e3]; exact eqnil38 w ao5 n5 k5 n' c'
              clear e3
              have z0 : (w3.alloc (.cells #[.bool ng1, .slice ao5 n5 k5, .slice ao6 n6 k6] 40)).cell? ⟨w.heap.size, 0, none⟩ = some (.int .u8 8) := ((hFc.ext hext3).alloc _ _).cell rfl
              have z1 : (w3.alloc (.cells #[.bool ng1, .slice ao5 n5 k5, .slice ao6 n6 k6] 40)).cell? ⟨w.heap.size, 1, none⟩ = some (.int .u8 23) := ((hFc.ext hext3).alloc _ _).cell rfl
              have z2 : (w3.alloc (.cells #[.bool ng1, .slice ao5 n5 k5, .slice ao6 n6 k6] 40)).cell? ⟨B1, 1, none⟩ = some (.bool ng1) := ((Ext.refl _).alloc _ _).cell (hext3.cell x1)
              have z3 : (w3.alloc (.cells #[.bool ng1, .slice ao5 n5 k5, .slice ao6 n6 k6] 40)).cell? ⟨B2, 1, none⟩ = some (.bool ng2) := ((Ext.refl _).alloc _ _).cell (hext3.cell y1)
              clear ff0 ff1
              go_wp2_with fail
              refine (roundFlags_any ng1 (hv3.ext ((Ext.refl _).alloc _ _)) (hd3.ext ((Ext.refl _).alloc _ _)) (l5.mono (Nat.sub_le _ _) (by omega)) l7 (by omega) l8).mono ?_
              rintro e w4 ⟨fl, rfl, hext4⟩
              go_wp2
              go_ret2
              exact ⟨_, by rw [hfin.out]; rfl, hwc.trans (hext3.trans hext4.of_alloc)⟩
            · have hfin : Hid (xAdd a b = rnd (vN b * vD a - vN a * vD b) (vD a * vD b) + sgn ng2) := by show xAdd a b = _; rw [hfn, if_neg hz, if_neg hle]
              clear hfn
              go_wp2_with fail
              refine (addRat_lt ng1 ng2 hna hda hnb hdb l1 l3 l2 l4 hn (Nat.lt_of_not_le hle)).mono ?_
              rintro e w3 ⟨u3, u4, rfl, hext3, hv3, hd3⟩
              obtain ⟨ao5, n5, k5, rfl⟩ := hv3.form
              obtain ⟨ao6, n6, k6, rfl⟩ := hd3.form
              have e3 := hv3.notNil (show vN b * vD a - vN a * vD b ≠ 0 by omega)
              have q38 : ∀ (w : World) (n' c' : Nat), (binOp .eql 38 (.slice ao5 n5 k5) (.slice none n' c')).run Oaig.prog w = .ok (.bool false) w := by
                intro w n' c'; rw [← e3]; exact eqnil38 w ao5 n5 k5 n' c'
              clear e3
              have z0 : (w3.alloc (.cells #[.bool ng2, .slice ao5 n5 k5, .slice ao6 n6 k6] 40)).cell? ⟨w.heap.size, 0, none⟩ = some (.int .u8 8) := ((hFc.ext hext3).alloc _ _).cell rfl
              have z1 : (w3.alloc (.cells #[.bool ng2, .slice ao5 n5 k5, .slice ao6 n6 k6] 40)).cell? ⟨w.heap.size, 1, none⟩ = some (.int .u8 23) := ((hFc.ext hext3).alloc _ _).cell rfl
              have z2 : (w3.alloc (.cells #[.bool ng2, .slice ao5 n5 k5, .slice ao6 n6 k6] 40)).cell? ⟨B1, 1, none⟩ = some (.bool ng1) := ((Ext.refl _).alloc _ _).cell (hext3.cell x1)
              have z3 : (w3.alloc (.cells #[.bool ng2, .slice ao5 n5 k5, .slice ao6 n6 k6] 40)).cell? ⟨B2, 1, none⟩ = some (.bool ng2) := ((Ext.refl _).alloc _ _).cell (hext3.cell y1)
              clear ff0 ff1
              go_wp2_with fail
              refine (roundFlags_any ng2 (hv3.ext ((Ext.refl _).alloc _ _)) (hd3.ext ((Ext.refl _).alloc _ _)) (l6.mono (Nat.sub_le _ _) (by omega)) l7 (by omega) l8).mono ?_
              rintro e w4 ⟨fl, rfl, hext4⟩
              go_wp2
              go_ret2
              exact ⟨_, by rw [hfin.out]; rfl, hwc.trans (hext3.trans hext4.of_alloc)⟩

set_option maxHeartbeats 1000000 in
theorem exactAdd_any (w : World) (a b : Nat) (ha : a < 4294967296) (hb : b < 4294967296) :
    Calls Oaig.prog 44 #[.agg #[.int .u8 8, .int .u8 23], .int .u8 0, .int .u64 a, .int .u64 b] w fun e w' => e = .returned (.int .u64 (xAdd a b : Nat)) ∧ Ext w w' := by
  go_enter Oaig.func44, Oaig.ntmps44
  go_wp2_with fail
  refine (xaddFlags_any _ a b ha hb).mono ?_
  rintro e w1 ⟨fl, rfl, hext1⟩
  go_wp2
  go_ret
  exact ⟨rfl, hext1.of_alloc⟩

set_option maxRecDepth 20000 in
set_option maxHeartbeats 2000000 in
theorem xsubFlags_any (w : World) (a b : Nat) (ha : a < 4294967296) (hb : b < 4294967296) :
    Calls Oaig.prog 74 #[.agg #[.int .u8 8, .int .u8 23], .int .u8 0, .int .u64 a, .int .u64 b] w fun e w' => ∃ fl : Int, e = .returned (.tuple #[.int .u64 (xAdd a (flipS b) : Nat), .int .u8 fl]) ∧ Ext w w' := by
  have hfl := flipS_lt hb
  have hfx := flipS_xor hb
  have hAdd := fun w => xaddFlags_any w a (flipS b) ha hfl
  obtain ⟨c, hc⟩ : ∃ c, c = flipS b := ⟨_, rfl⟩
  rw [← hc] at hAdd hfx
  rw [← hc]
  clear hc hfl
  replace hAdd : Hid _ := hAdd
  go_enter Oaig.func74, Oaig.ntmps74
  go_wp2_with fail
  obtain ⟨W, hW⟩ : ∃ W, W = w.alloc (.cells #[.int .u8 8, .int .u8 23] 25) := ⟨_, rfl⟩
  have hF : Blk W w.heap.size #[.int .u8 8, .int .u8 23] := by rw [hW]; exact Blk.new _ _ _
  have hwW : Ext w W := by rw [hW]; exact (Ext.refl w).alloc _ _
  rw [← hW]
  clear hW
  have c0 : ∀ w', Ext W w' → w'.cell? ⟨w.heap.size, 0, none⟩ = some (.int .u8 8) := fun w' h => (hF.ext h).cell rfl
  have c1 : ∀ w', Ext W w' → w'.cell? ⟨w.heap.size, 1, none⟩ = some (.int .u8 23) := fun w' h => (hF.ext h).cell rfl
  go_region_held3 (fun w' => Ext W w') ((focus ((repeat (first | with_reducible assumption | with_reducible exact Ext.refl _ | with_reducible refine Ext.drew ?_ | with_reducible refine Ext.alloc ?_ _ _ | with_reducible refine Ext.setCell ?_ ?_ _ | with_reducible exact Nat.le_refl _ | (dsimp only; omega) | (simp only [World.size_alloc]; omega))); done))) (first
    | (go_at_call 111; refine (signBit_any _).mono ?_; rintro e w3 ⟨rfl, hext3⟩; have hq3 : Ext W w3 := Ext.trans (by (focus ((repeat (first | with_reducible assumption | with_reducible exact Ext.refl _ | with_reducible refine Ext.drew ?_ | with_reducible refine Ext.alloc ?_ _ _ | with_reducible refine Ext.setCell ?_ ?_ _ | with_reducible exact Nat.le_refl _ | (dsimp only; omega) | (simp only [World.size_alloc]; omega))); done))) hext3)
    | (go_at_call 73; refine Calls.mono (hAdd.out _) ?_; rintro e w4 ⟨fl, rfl, hext4⟩; have hq4 : Ext W w4 := Ext.trans (by (focus ((repeat (first | with_reducible assumption | with_reducible exact Ext.refl _ | with_reducible refine Ext.drew ?_ | with_reducible refine Ext.alloc ?_ _ _ | with_reducible refine Ext.setCell ?_ ?_ _ | with_reducible exact Nat.le_refl _ | (dsimp only; omega) | (simp only [World.size_alloc]; omega))); done))) hext4))
  all_goals (
    go_wp2
    go_ret2
    exact ⟨_, rfl, hwW.trans hq4⟩)

set_option maxHeartbeats 1000000 in
theorem exactSub_any (w : World) (a b : Nat) (ha : a < 4294967296) (hb : b < 4294967296) :
    Calls Oaig.prog 45 #[.agg #[.int .u8 8, .int .u8 23], .int .u8 0, .int .u64 a, .int .u64 b] w fun e w' => e = .returned (.int .u64 (xAdd a (flipS b) : Nat)) ∧ Ext w w' := by
  go_enter Oaig.func45, Oaig.ntmps45
  go_wp2_with fail
  refine (xsubFlags_any _ a b ha hb).mono ?_
  rintro e w1 ⟨fl, rfl, hext1⟩
  go_wp2
  go_ret
  exact ⟨rfl, hext1.of_alloc⟩

end Go.Proofs.Ygcoai
