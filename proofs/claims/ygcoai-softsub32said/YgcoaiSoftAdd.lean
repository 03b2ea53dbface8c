/-
  Seat gcoai. soft.AddFlags (69), soft.Add (40), soft.SubFlags (70), soft.Sub (41) at Binary32, NearestEven.
-/
import Derived.Test.YgcoaiAddFin
namespace Go.Proofs.Ygcoai
open Go.RowKit

/-- What soft.Add answers. -/
def sAdd (a b : Nat) : Nat :=
  if pC a = 4 ∨ pC b = 4 then 2143289344
  else if pC a = 3 ∧ pC b = 3 ∧ pN a ≠ pN b then 2143289344
  else if pC a = 3 then 2139095040 + sgn (pN a)
  else if pC b = 3 then 2139095040 + sgn (pN b)
  else if pC a = 0 ∧ pC b = 0 then sgn (pN a && pN b)
  else if pC a = 0 then rp (pX b) (pM b) + sgn (pN b)
  else if pC b = 0 then rp (pX a) (pM a) + sgn (pN a)
  else sumPat (pN a) (pX a) (pM a) (pN b) (pX b) (pM b)

theorem bool_ne {a b : Bool} (h : a ≠ b) : (a = true ∧ b = false) ∨ (a = false ∧ b = true) := by cases a <;> cases b <;> simp_all

theorem sAdd_nan {a b : Nat} (h : pC a = 4 ∨ pC b = 4) : sAdd a b = 2143289344 := by unfold sAdd; rw [if_pos h]
theorem sAdd_bad {a b : Nat} (h1 : pC a = 3) (h2 : pC b = 3) (h : pN a ≠ pN b) : sAdd a b = 2143289344 := by unfold sAdd; rw [if_neg (by omega), if_pos ⟨h1, h2, h⟩]
theorem sAdd_infA {a b : Nat} (h4 : ¬ (pC a = 4 ∨ pC b = 4)) (h3 : pC a = 3) (h : pC b = 3 → pN a = pN b) : sAdd a b = 2139095040 + sgn (pN a) := by
  unfold sAdd; rw [if_neg h4, if_neg (fun h' => h'.2.2 (h h'.2.1)), if_pos h3]
theorem sAdd_infB {a b : Nat} (h4 : ¬ (pC a = 4 ∨ pC b = 4)) (ha : pC a ≠ 3) (hb : pC b = 3) : sAdd a b = 2139095040 + sgn (pN b) := by
  unfold sAdd; rw [if_neg h4, if_neg (fun h' => ha h'.1), if_neg ha, if_pos hb]
theorem sAdd_zz {a b : Nat} (ha : pC a = 0) (hb : pC b = 0) : sAdd a b = sgn (pN a && pN b) := by
  unfold sAdd; rw [if_neg (by omega), if_neg (fun h' => by omega), if_neg (by omega), if_neg (by omega), if_pos ⟨ha, hb⟩]
theorem sAdd_zf {a b : Nat} (ha : pC a = 0) (hb : pC b = 1 ∨ pC b = 2) : sAdd a b = rp (pX b) (pM b) + sgn (pN b) := by
  unfold sAdd; rw [if_neg (by omega), if_neg (fun h' => by omega), if_neg (by omega), if_neg (by omega), if_neg (by omega), if_pos ha]
theorem sAdd_fz {a b : Nat} (ha : pC a = 1 ∨ pC a = 2) (hb : pC b = 0) : sAdd a b = rp (pX a) (pM a) + sgn (pN a) := by
  unfold sAdd; rw [if_neg (by omega), if_neg (fun h' => by omega), if_neg (by omega), if_neg (by omega), if_neg (by omega), if_neg (by omega), if_pos hb]
theorem sAdd_ff {a b : Nat} (ha : pC a = 1 ∨ pC a = 2) (hb : pC b = 1 ∨ pC b = 2) : sAdd a b = sumPat (pN a) (pX a) (pM a) (pN b) (pX b) (pM b) := by
  unfold sAdd; rw [if_neg (by omega), if_neg (fun h' => by omega), if_neg (by omega), if_neg (by omega), if_neg (by omega), if_neg (by omega), if_neg (by omega)]

set_option maxRecDepth 20000 in
set_option maxHeartbeats 8000000 in
theorem addFlags_any (w : World) (a b : Nat) (ha : a < 4294967296) (hb : b < 4294967296) :
    Calls Oaig.prog 69 #[.agg #[.int .u8 8, .int .u8 23], .int .u8 0, .int .u64 a, .int .u64 b] w fun e w' => ∃ fl : Int, e = .returned (.tuple #[.int .u64 (sAdd a b : Nat), .int .u8 fl]) ∧ Ext w w' := by
  go_enter Oaig.func69, Oaig.ntmps69
  go_wp2_with fail
  refine (ok_any _).mono ?_
  rintro e W ⟨rfl, hext0⟩
  have hF : Blk W w.heap.size #[.int .u8 8, .int .u8 23] := (Blk.new w _ 25).ext hext0
  have hw0 := hext0.of_alloc
  clear hext0
  have c0 : ∀ w', Ext W w' → w'.cell? ⟨w.heap.size, 0, none⟩ = some (.int .u8 8) := fun w' h => (hF.ext h).cell rfl
  have c1 : ∀ w', Ext W w' → w'.cell? ⟨w.heap.size, 1, none⟩ = some (.int .u8 23) := fun w' h => (hF.ext h).cell rfl
  have a0 := hF.cell (i := 0) rfl
  have a1 := hF.cell (i := 1) rfl
  go_upto_region 3 with fail
  go_cut [10, 11] from 12 (fun p q wc => ∃ B1 B2, p = .pointer (some ⟨B1, 0, none⟩) ∧ q = .pointer (some ⟨B2, 0, none⟩) ∧ Ext W wc ∧ Blk wc B1 #[.bool (pN a), .int .i8 (pC a), .int .i16 (pX a), .int .u64 (pM a)] ∧ Blk wc B2 #[.bool (pN b), .int .i8 (pC b), .int .i16 (pX b), .int .u64 (pM b)])
  case first =>
    go_region_held3 (fun w' => Ext W w') ((focus ((repeat (first | with_reducible assumption | with_reducible exact Ext.refl _ | with_reducible refine Ext.drew ?_ | with_reducible refine Ext.alloc ?_ _ _ | with_reducible refine Ext.setCell ?_ ?_ _ | with_reducible exact Nat.le_refl _ | (dsimp only; omega) | (simp only [World.size_alloc]; omega))); done))) (first
      | (go_at_call_of 77 (Value.int IntKind.u64 (a : Int)); refine (unpack_any _ a ha).mono ?_; rintro e w1 ⟨rfl, hext1⟩
         have hq1 : Ext W w1 := Ext.trans (by (focus ((repeat (first | with_reducible assumption | with_reducible exact Ext.refl _ | with_reducible refine Ext.drew ?_ | with_reducible refine Ext.alloc ?_ _ _ | with_reducible refine Ext.setCell ?_ ?_ _ | with_reducible exact Nat.le_refl _ | (dsimp only; omega) | (simp only [World.size_alloc]; omega))); done))) hext1
         have hs1 := hq1.size
         (first
           | (have hP : Blk w1 W.heap.size #[.bool false, .int .i8 0, .int .i16 0, .int .u64 0] := Blk.two1 hext1.undrew; have hP' : Blk w1 (W.heap.size + 1) #[.bool false, .int .i8 0, .int .i16 0, .int .u64 0] := Blk.two2 hext1.undrew)
           | (have hP : Blk w1 W.heap.size #[.bool false, .int .i8 0, .int .i16 0, .int .u64 0] := Blk.one hext1.undrew; have hPl := hP.lt; have hPn := Nat.ne_of_lt hPl)
           | skip))
      | (go_at_call_of 77 (Value.int IntKind.u64 (b : Int)); refine (unpack_any _ b hb).mono ?_; rintro e w2 ⟨rfl, hext2⟩
         have hq2 : Ext W w2 := Ext.trans (by (focus ((repeat (first | with_reducible assumption | with_reducible exact Ext.refl _ | with_reducible refine Ext.drew ?_ | with_reducible refine Ext.alloc ?_ _ _ | with_reducible refine Ext.setCell ?_ ?_ _ | with_reducible exact Nat.le_refl _ | (dsimp only; omega) | (simp only [World.size_alloc]; omega))); done))) hext2
         have hs2 := hq2.size
         (first
           | (have hM := Blk.two1 hext2; have hM' := Blk.two2 hext2; have m0 := hM.cell (i := 0) rfl; have m1 := hM.cell (i := 1) rfl; have m2 := hM.cell (i := 2) rfl; have m3 := hM.cell (i := 3) rfl; have mz := hM.fz; have ml := hM.lt; have mn := Nat.ne_of_lt hM.lt; have k0 := hM'.cell (i := 0) rfl; have k1 := hM'.cell (i := 1) rfl; have k2 := hM'.cell (i := 2) rfl; have k3 := hM'.cell (i := 3) rfl; have kz := hM'.fz; have kl := hM'.lt; have kn := Nat.ne_of_lt hM'.lt)
           | (have hM := Blk.one hext2; have m0 := hM.cell (i := 0) rfl; have m1 := hM.cell (i := 1) rfl; have m2 := hM.cell (i := 2) rfl; have m3 := hM.cell (i := 3) rfl; have mz := hM.fz; have ml := hM.lt; have mn := Nat.ne_of_lt hM.lt)
           | skip)
         (first
           | (have hP2 := hP.ext hext2; have p0 := hP2.cell (i := 0) rfl; have p1 := hP2.cell (i := 1) rfl; have p2 := hP2.cell (i := 2) rfl; have p3 := hP2.cell (i := 3) rfl; have pz := hP2.fz; have pl := hP2.lt; have pn := Nat.ne_of_lt hP2.lt)
           | (have hP2 := hP.ext hext2.of_alloc; have p0 := hP2.cell (i := 0) rfl; have p1 := hP2.cell (i := 1) rfl; have p2 := hP2.cell (i := 2) rfl; have p3 := hP2.cell (i := 3) rfl; have pz := hP2.fz; have pl := hP2.lt; have pn := Nat.ne_of_lt hP2.lt)
           | skip)
         (first
           | (have hQ2 := hP'.ext hext2; have q0 := hQ2.cell (i := 0) rfl; have q1 := hQ2.cell (i := 1) rfl; have q2 := hQ2.cell (i := 2) rfl; have q3 := hQ2.cell (i := 3) rfl; have qz := hQ2.fz; have ql := hQ2.lt; have qn := Nat.ne_of_lt hQ2.lt)
           | skip)))
    all_goals (go_wp2_with fail; go_meet)
    all_goals (case rel => exact ⟨_, _, rfl, rfl, by (focus ((repeat (first | with_reducible assumption | with_reducible exact Ext.refl _ | with_reducible refine Ext.drew ?_ | with_reducible refine Ext.alloc ?_ _ _ | with_reducible refine Ext.setCell ?_ ?_ _ | with_reducible exact Nat.le_refl _ | (dsimp only; omega) | (simp only [World.size_alloc]; omega))); done)), by (focus ((repeat (first | with_reducible assumption | with_reducible exact Blk.new _ _ _ | with_reducible exact Blk.new' _ _ (by simp) | with_reducible refine Blk.alloc ?_ _ _ | with_reducible refine Blk.set4 (a := .bool false) (b := .int .i8 0) (c := .int .i16 0) (d := .int .u64 0) ?_ | with_reducible refine Blk.setOther4 ?_ ?_ | with_reducible refine Blk.setOther ?_ ?_ _ | with_reducible refine Blk.drew ?_ | (apply Ne.symm; with_reducible assumption) | omega)); done)), by (focus ((repeat (first | with_reducible assumption | with_reducible exact Blk.new _ _ _ | with_reducible exact Blk.new' _ _ (by simp) | with_reducible refine Blk.alloc ?_ _ _ | with_reducible refine Blk.set4 (a := .bool false) (b := .int .i8 0) (c := .int .i16 0) (d := .int .u64 0) ?_ | with_reducible refine Blk.setOther4 ?_ ?_ | with_reducible refine Blk.setOther ?_ ?_ _ | with_reducible refine Blk.drew ?_ | (apply Ne.symm; with_reducible assumption) | omega)); done))⟩)
  case rest =>
    obtain ⟨B1, B2, rfl, rfl, hxc, hB1, hB2⟩ := hcut
    have hwc := hw0.trans hxc
    have hFc := hF.ext hxc
    have ff0 := hFc.cell (i := 0) rfl
    have ff1 := hFc.cell (i := 1) rfl
    have fg0 : ∀ w', Ext wc w' → w'.cell? ⟨w.heap.size, 0, none⟩ = some (.int .u8 8) := fun w' h => (hFc.ext h).cell rfl
    have fg1 : ∀ w', Ext wc w' → w'.cell? ⟨w.heap.size, 1, none⟩ = some (.int .u8 23) := fun w' h => (hFc.ext h).cell rfl
    have x0 := hB1.cell (i := 0) rfl
    have x1 := hB1.cell (i := 1) rfl
    have x2 := hB1.cell (i := 2) rfl
    have x3 := hB1.cell (i := 3) rfl
    have y0 := hB2.cell (i := 0) rfl
    have y1 := hB2.cell (i := 1) rfl
    have y2 := hB2.cell (i := 2) rfl
    have y3 := hB2.cell (i := 3) rfl
    clear c0 c1 a0 a1
    obtain ⟨ca, hca⟩ : ∃ c, c = pC a := ⟨_, rfl⟩
    obtain ⟨cb, hcb⟩ : ∃ c, c = pC b := ⟨_, rfl⟩
    obtain ⟨na, hna⟩ : ∃ c, c = pN a := ⟨_, rfl⟩
    obtain ⟨nb, hnb⟩ : ∃ c, c = pN b := ⟨_, rfl⟩
    have ka := kinds a
    have kb := kinds b
    dsimp only [List.getElem_toArray, List.getElem_cons_succ, List.getElem_cons_zero] at x0 x1 x2 x3 y0 y1 y2 y3
    rw [← hca] at x1 ka
    rw [← hcb] at y1 kb
    rw [← hna] at x0
    rw [← hnb] at y0
    rcases ka with hka | hka | hka | hka
    · rw [hka] at x1
      clear kb
      have hfin : Hid (sAdd a b = 2143289344) := sAdd_nan (by omega)
      clear hca hcb hna hnb x2 x3 y2 y3
      go_wp2_with fail
      go_region_held3 (fun w' => Ext wc w') ((focus ((repeat (first | with_reducible assumption | with_reducible exact Ext.refl _ | with_reducible refine Ext.drew ?_ | with_reducible refine Ext.alloc ?_ _ _ | with_reducible refine Ext.setCell ?_ ?_ _ | with_reducible exact Nat.le_refl _ | (dsimp only; omega) | (simp only [World.size_alloc]; omega))); done))) (first
        | (go_at_call 79; refine (theNaN_any _).mono ?_; rintro e w3 ⟨rfl, hext3⟩; have hq3 : Ext wc w3 := Ext.trans (by (focus ((repeat (first | with_reducible assumption | with_reducible exact Ext.refl _ | with_reducible refine Ext.drew ?_ | with_reducible refine Ext.alloc ?_ _ _ | with_reducible refine Ext.setCell ?_ ?_ _ | with_reducible exact Nat.le_refl _ | (dsimp only; omega) | (simp only [World.size_alloc]; omega))); done))) hext3)
        | (go_at_call 80; refine (heard_any _ a b ha hb).mono ?_; rintro e w4 ⟨fl, rfl, hext4⟩; have hq4 : Ext wc w4 := Ext.trans (by (focus ((repeat (first | with_reducible assumption | with_reducible exact Ext.refl _ | with_reducible refine Ext.drew ?_ | with_reducible refine Ext.alloc ?_ _ _ | with_reducible refine Ext.setCell ?_ ?_ _ | with_reducible exact Nat.le_refl _ | (dsimp only; omega) | (simp only [World.size_alloc]; omega))); done))) hext4))
      all_goals (go_wp2; go_ret2; exact ⟨_, by rw [hfin.out]; rfl, hwc.trans (by (focus ((repeat (first | with_reducible assumption | with_reducible exact Ext.refl _ | with_reducible refine Ext.drew ?_ | with_reducible refine Ext.alloc ?_ _ _ | with_reducible refine Ext.setCell ?_ ?_ _ | with_reducible exact Nat.le_refl _ | (dsimp only; omega) | (simp only [World.size_alloc]; omega))); done)))⟩)
    · rw [hka] at x1
      rcases kb with hkb | hkb | hkb | hkb
      · rw [hkb] at y1
        have hfin : Hid (sAdd a b = 2143289344) := sAdd_nan (by omega)
        clear hca hcb hna hnb x2 x3 y2 y3
        go_wp2_with fail
        go_region_held3 (fun w' => Ext wc w') ((focus ((repeat (first | with_reducible assumption | with_reducible exact Ext.refl _ | with_reducible refine Ext.drew ?_ | with_reducible refine Ext.alloc ?_ _ _ | with_reducible refine Ext.setCell ?_ ?_ _ | with_reducible exact Nat.le_refl _ | (dsimp only; omega) | (simp only [World.size_alloc]; omega))); done))) (first
          | (go_at_call 79; refine (theNaN_any _).mono ?_; rintro e w3 ⟨rfl, hext3⟩; have hq3 : Ext wc w3 := Ext.trans (by (focus ((repeat (first | with_reducible assumption | with_reducible exact Ext.refl _ | with_reducible refine Ext.drew ?_ | with_reducible refine Ext.alloc ?_ _ _ | with_reducible refine Ext.setCell ?_ ?_ _ | with_reducible exact Nat.le_refl _ | (dsimp only; omega) | (simp only [World.size_alloc]; omega))); done))) hext3)
          | (go_at_call 80; refine (heard_any _ a b ha hb).mono ?_; rintro e w4 ⟨fl, rfl, hext4⟩; have hq4 : Ext wc w4 := Ext.trans (by (focus ((repeat (first | with_reducible assumption | with_reducible exact Ext.refl _ | with_reducible refine Ext.drew ?_ | with_reducible refine Ext.alloc ?_ _ _ | with_reducible refine Ext.setCell ?_ ?_ _ | with_reducible exact Nat.le_refl _ | (dsimp only; omega) | (simp only [World.size_alloc]; omega))); done))) hext4))
        all_goals (go_wp2; go_ret2; exact ⟨_, by rw [hfin.out]; rfl, hwc.trans (by (focus ((repeat (first | with_reducible assumption | with_reducible exact Ext.refl _ | with_reducible refine Ext.drew ?_ | with_reducible refine Ext.alloc ?_ _ _ | with_reducible refine Ext.setCell ?_ ?_ _ | with_reducible exact Nat.le_refl _ | (dsimp only; omega) | (simp only [World.size_alloc]; omega))); done)))⟩)
      · rw [hkb] at y1
        by_cases hn : na = nb
        · subst hn
          have hfin : Hid (sAdd a b = 2139095040 + sgn na) := by show sAdd a b = _; rw [hna]; exact sAdd_infA (by omega) (by omega) (fun _ => by rw [← hna, ← hnb])
          clear hca hcb hna hnb
          go_wp2_with fail
          refine (inf_any _ na).mono ?_
          rintro e w3 ⟨rfl, hext3⟩
          go_wp2
          go_ret2
          exact ⟨_, by rw [hfin.out]; rfl, hwc.trans hext3⟩
        · have hfin : Hid (sAdd a b = 2143289344) := sAdd_bad (by omega) (by omega) (by rw [← hna, ← hnb]; exact hn)
          clear hca hcb hna hnb
          rcases bool_ne hn with ⟨rfl, rfl⟩ | ⟨rfl, rfl⟩
          all_goals (
            clear hn
            go_wp2_with fail
            refine (theNaN_any _).mono ?_
            rintro e w3 ⟨rfl, hext3⟩
            go_wp2
            go_ret2
            exact ⟨_, by rw [hfin.out]; rfl, hwc.trans hext3⟩)
      · rw [hkb] at y1
        have hfin : Hid (sAdd a b = 2139095040 + sgn na) := by show sAdd a b = _; rw [hna]; exact sAdd_infA (by omega) (by omega) (fun h' => by omega)
        clear hca hcb hna hnb
        go_wp2_with fail
        refine (inf_any _ na).mono ?_
        rintro e w3 ⟨rfl, hext3⟩
        go_wp2
        go_ret2
        exact ⟨_, by rw [hfin.out]; rfl, hwc.trans hext3⟩
      · have gcb4 : (cb == 4) = false := by rw [beq_eq_false_iff_ne]; omega
        have gcb3 : (cb == 3) = false := by rw [beq_eq_false_iff_ne]; omega
        have gcb0 : (cb == 0) = false := by rw [beq_eq_false_iff_ne]; omega
        have hfin : Hid (sAdd a b = 2139095040 + sgn na) := by show sAdd a b = _; rw [hna]; exact sAdd_infA (by omega) (by omega) (fun h' => by omega)
        clear hca hcb hna hnb
        go_wp2_with fail
        refine (inf_any _ na).mono ?_
        rintro e w3 ⟨rfl, hext3⟩
        go_wp2
        go_ret2
        exact ⟨_, by rw [hfin.out]; rfl, hwc.trans hext3⟩
    · rw [hka] at x1
      rcases kb with hkb | hkb | hkb | hkb
      · rw [hkb] at y1
        have hfin : Hid (sAdd a b = 2143289344) := sAdd_nan (by omega)
        clear hca hcb hna hnb x2 x3 y2 y3
        go_wp2_with fail
        go_region_held3 (fun w' => Ext wc w') ((focus ((repeat (first | with_reducible assumption | with_reducible exact Ext.refl _ | with_reducible refine Ext.drew ?_ | with_reducible refine Ext.alloc ?_ _ _ | with_reducible refine Ext.setCell ?_ ?_ _ | with_reducible exact Nat.le_refl _ | (dsimp only; omega) | (simp only [World.size_alloc]; omega))); done))) (first
          | (go_at_call 79; refine (theNaN_any _).mono ?_; rintro e w3 ⟨rfl, hext3⟩; have hq3 : Ext wc w3 := Ext.trans (by (focus ((repeat (first | with_reducible assumption | with_reducible exact Ext.refl _ | with_reducible refine Ext.drew ?_ | with_reducible refine Ext.alloc ?_ _ _ | with_reducible refine Ext.setCell ?_ ?_ _ | with_reducible exact Nat.le_refl _ | (dsimp only; omega) | (simp only [World.size_alloc]; omega))); done))) hext3)
          | (go_at_call 80; refine (heard_any _ a b ha hb).mono ?_; rintro e w4 ⟨fl, rfl, hext4⟩; have hq4 : Ext wc w4 := Ext.trans (by (focus ((repeat (first | with_reducible assumption | with_reducible exact Ext.refl _ | with_reducible refine Ext.drew ?_ | with_reducible refine Ext.alloc ?_ _ _ | with_reducible refine Ext.setCell ?_ ?_ _ | with_reducible exact Nat.le_refl _ | (dsimp only; omega) | (simp only [World.size_alloc]; omega))); done))) hext4))
        all_goals (go_wp2; go_ret2; exact ⟨_, by rw [hfin.out]; rfl, hwc.trans (by (focus ((repeat (first | with_reducible assumption | with_reducible exact Ext.refl _ | with_reducible refine Ext.drew ?_ | with_reducible refine Ext.alloc ?_ _ _ | with_reducible refine Ext.setCell ?_ ?_ _ | with_reducible exact Nat.le_refl _ | (dsimp only; omega) | (simp only [World.size_alloc]; omega))); done)))⟩)
      · rw [hkb] at y1
        have hfin : Hid (sAdd a b = 2139095040 + sgn nb) := by show sAdd a b = _; rw [hnb]; exact sAdd_infB (by omega) (by omega) (by omega)
        clear hca hcb hna hnb
        go_wp2_with fail
        refine (inf_any _ nb).mono ?_
        rintro e w3 ⟨rfl, hext3⟩
        go_wp2
        go_ret2
        exact ⟨_, by rw [hfin.out]; rfl, hwc.trans hext3⟩
      · rw [hkb] at y1
        obtain ⟨ma, hma⟩ : ∃ c, c = pM a := ⟨_, rfl⟩
        obtain ⟨xa, hxa⟩ : ∃ c, c = pX a := ⟨_, rfl⟩
        rw [← hma] at x3
        rw [← hxa] at x2
        obtain ⟨mb, hmb⟩ : ∃ c, c = pM b := ⟨_, rfl⟩
        obtain ⟨xb, hxb⟩ : ∃ c, c = pX b := ⟨_, rfl⟩
        rw [← hmb] at y3
        rw [← hxb] at y2
        have hfin : Hid (sAdd a b = sgn (na && nb)) := by
          show sAdd a b = _
          rw [hna, hnb]; exact sAdd_zz (by omega) (by omega)
        have hC := fun w => addFin_zz w na nb xa xb ma mb
        replace hC : Hid _ := hC
        clear hca hcb hna hnb hma hmb hxa hxb
        go_wp2_with fail
        refine Calls.mono (hC.out _) ?_
        rintro e w3 ⟨fl, rfl, hext3⟩
        go_wp2
        go_ret2
        exact ⟨_, by rw [hfin.out]; rfl, hwc.trans hext3⟩
      · have gcb4 : (cb == 4) = false := by rw [beq_eq_false_iff_ne]; omega
        have gcb3 : (cb == 3) = false := by rw [beq_eq_false_iff_ne]; omega
        have gcb0 : (cb == 0) = false := by rw [beq_eq_false_iff_ne]; omega
        obtain ⟨ma, hma⟩ : ∃ c, c = pM a := ⟨_, rfl⟩
        obtain ⟨xa, hxa⟩ : ∃ c, c = pX a := ⟨_, rfl⟩
        rw [← hma] at x3
        rw [← hxa] at x2
        have hpb := parts_fin (x := b) (by omega)
        obtain ⟨mb, hmb⟩ : ∃ c, c = pM b := ⟨_, rfl⟩
        obtain ⟨xb, hxb⟩ : ∃ c, c = pX b := ⟨_, rfl⟩
        rw [← hmb, ← hxb] at hpb
        rw [← hmb] at y3
        rw [← hxb] at y2
        obtain ⟨k1, k2, k3, k4, -⟩ := hpb
        have hfin : Hid (sAdd a b = rp xb mb + sgn nb) := by
          show sAdd a b = _
          rw [hnb, hmb, hxb]; exact sAdd_zf (by omega) (by omega)
        have hC := fun w => addFin_zf w na nb cb xa xb ma mb (by omega) k1 k2 k3 k4
        replace hC : Hid _ := hC
        clear hca hcb hna hnb hma hmb hxa hxb
        go_wp2_with fail
        refine Calls.mono (hC.out _) ?_
        rintro e w3 ⟨fl, rfl, hext3⟩
        go_wp2
        go_ret2
        exact ⟨_, by rw [hfin.out]; rfl, hwc.trans hext3⟩
    · have gca4 : (ca == 4) = false := by rw [beq_eq_false_iff_ne]; omega
      have gca3 : (ca == 3) = false := by rw [beq_eq_false_iff_ne]; omega
      have gca0 : (ca == 0) = false := by rw [beq_eq_false_iff_ne]; omega
      rcases kb with hkb | hkb | hkb | hkb
      · rw [hkb] at y1
        have hfin : Hid (sAdd a b = 2143289344) := sAdd_nan (by omega)
        clear hca hcb hna hnb x2 x3 y2 y3
        go_wp2_with fail
        go_region_held3 (fun w' => Ext wc w') ((focus ((repeat (first | with_reducible assumption | with_reducible exact Ext.refl _ | with_reducible refine Ext.drew ?_ | with_reducible refine Ext.alloc ?_ _ _ | with_reducible refine Ext.setCell ?_ ?_ _ | with_reducible exact Nat.le_refl _ | (dsimp only; omega) | (simp only [World.size_alloc]; omega))); done))) (first
          | (go_at_call 79; refine (theNaN_any _).mono ?_; rintro e w3 ⟨rfl, hext3⟩; have hq3 : Ext wc w3 := Ext.trans (by (focus ((repeat (first | with_reducible assumption | with_reducible exact Ext.refl _ | with_reducible refine Ext.drew ?_ | with_reducible refine Ext.alloc ?_ _ _ | with_reducible refine Ext.setCell ?_ ?_ _ | with_reducible exact Nat.le_refl _ | (dsimp only; omega) | (simp only [World.size_alloc]; omega))); done))) hext3)
          | (go_at_call 80; refine (heard_any _ a b ha hb).mono ?_; rintro e w4 ⟨fl, rfl, hext4⟩; have hq4 : Ext wc w4 := Ext.trans (by (focus ((repeat (first | with_reducible assumption | with_reducible exact Ext.refl _ | with_reducible refine Ext.drew ?_ | with_reducible refine Ext.alloc ?_ _ _ | with_reducible refine Ext.setCell ?_ ?_ _ | with_reducible exact Nat.le_refl _ | (dsimp only; omega) | (simp only [World.size_alloc]; omega))); done))) hext4))
        all_goals (go_wp2; go_ret2; exact ⟨_, by rw [hfin.out]; rfl, hwc.trans (by (focus ((repeat (first | with_reducible assumption | with_reducible exact Ext.refl _ | with_reducible refine Ext.drew ?_ | with_reducible refine Ext.alloc ?_ _ _ | with_reducible refine Ext.setCell ?_ ?_ _ | with_reducible exact Nat.le_refl _ | (dsimp only; omega) | (simp only [World.size_alloc]; omega))); done)))⟩)
      · rw [hkb] at y1
        have hfin : Hid (sAdd a b = 2139095040 + sgn nb) := by show sAdd a b = _; rw [hnb]; exact sAdd_infB (by omega) (by omega) (by omega)
        clear hca hcb hna hnb
        go_wp2_with fail
        refine (inf_any _ nb).mono ?_
        rintro e w3 ⟨rfl, hext3⟩
        go_wp2
        go_ret2
        exact ⟨_, by rw [hfin.out]; rfl, hwc.trans hext3⟩
      · rw [hkb] at y1
        have hpa := parts_fin (x := a) (by omega)
        obtain ⟨ma, hma⟩ : ∃ c, c = pM a := ⟨_, rfl⟩
        obtain ⟨xa, hxa⟩ : ∃ c, c = pX a := ⟨_, rfl⟩
        rw [← hma, ← hxa] at hpa
        rw [← hma] at x3
        rw [← hxa] at x2
        obtain ⟨m1, m2, m3, m4, -⟩ := hpa
        obtain ⟨mb, hmb⟩ : ∃ c, c = pM b := ⟨_, rfl⟩
        obtain ⟨xb, hxb⟩ : ∃ c, c = pX b := ⟨_, rfl⟩
        rw [← hmb] at y3
        rw [← hxb] at y2
        have hfin : Hid (sAdd a b = rp xa ma + sgn na) := by
          show sAdd a b = _
          rw [hna, hma, hxa]; exact sAdd_fz (by omega) (by omega)
        have hC := fun w => addFin_fz w na nb ca xa xb ma mb (by omega) m1 m2 m3 m4
        replace hC : Hid _ := hC
        clear hca hcb hna hnb hma hmb hxa hxb
        go_wp2_with fail
        refine Calls.mono (hC.out _) ?_
        rintro e w3 ⟨fl, rfl, hext3⟩
        go_wp2
        go_ret2
        exact ⟨_, by rw [hfin.out]; rfl, hwc.trans hext3⟩
      · have gcb4 : (cb == 4) = false := by rw [beq_eq_false_iff_ne]; omega
        have gcb3 : (cb == 3) = false := by rw [beq_eq_false_iff_ne]; omega
        have gcb0 : (cb == 0) = false := by rw [beq_eq_false_iff_ne]; omega
        have hpa := parts_fin (x := a) (by omega)
        obtain ⟨ma, hma⟩ : ∃ c, c = pM a := ⟨_, rfl⟩
        obtain ⟨xa, hxa⟩ : ∃ c, c = pX a := ⟨_, rfl⟩
        rw [← hma, ← hxa] at hpa
        rw [← hma] at x3
        rw [← hxa] at x2
        obtain ⟨m1, m2, m3, m4, -⟩ := hpa
        have hpb := parts_fin (x := b) (by omega)
        obtain ⟨mb, hmb⟩ : ∃ c, c = pM b := ⟨_, rfl⟩
        obtain ⟨xb, hxb⟩ : ∃ c, c = pX b := ⟨_, rfl⟩
        rw [← hmb, ← hxb] at hpb
        rw [← hmb] at y3
        rw [← hxb] at y2
        obtain ⟨k1, k2, k3, k4, -⟩ := hpb
        have hfin : Hid (sAdd a b = sumPat na xa ma nb xb mb) := by
          show sAdd a b = _
          rw [hna, hnb, hma, hmb, hxa, hxb]; exact sAdd_ff (by omega) (by omega)
        have hC := fun w => addFin_ff w na nb ca cb xa xb ma mb (by omega) (by omega) m1 m2 m3 m4 k1 k2 k3 k4
        replace hC : Hid _ := hC
        clear hca hcb hna hnb hma hmb hxa hxb
        go_wp2_with fail
        refine Calls.mono (hC.out _) ?_
        rintro e w3 ⟨fl, rfl, hext3⟩
        go_wp2
        go_ret2
        exact ⟨_, by rw [hfin.out]; rfl, hwc.trans hext3⟩

set_option maxHeartbeats 1000000 in
theorem softAdd_any (w : World) (a b : Nat) (ha : a < 4294967296) (hb : b < 4294967296) :
    Calls Oaig.prog 40 #[.agg #[.int .u8 8, .int .u8 23], .int .u8 0, .int .u64 a, .int .u64 b] w fun e w' => e = .returned (.int .u64 (sAdd a b : Nat)) ∧ Ext w w' := by
  go_enter Oaig.func40, Oaig.ntmps40
  go_wp2_with fail
  refine (addFlags_any _ a b ha hb).mono ?_
  rintro e w1 ⟨fl, rfl, hext1⟩
  go_wp2
  go_ret
  exact ⟨rfl, hext1.of_alloc⟩

/-- The other sign. -/
def flipS (b : Nat) : Nat := if b < 2147483648 then b + 2147483648 else b - 2147483648

theorem flipS_lt {b : Nat} (h : b < 4294967296) : flipS b < 4294967296 := by unfold flipS; split <;> omega
theorem flipS_plain {b : Nat} (h : b < 4294967296) : b ^^^ 2147483648 = flipS b := by
  have h1 : (b ^^^ 2147483648) % 2 ^ 31 = b % 2 ^ 31 := by
    rw [Nat.xor_mod_two_pow, show 2147483648 % 2 ^ 31 = 0 from by decide, Nat.xor_zero]
  have h2 : (b ^^^ 2147483648) / 2 ^ 31 = b / 2 ^ 31 ^^^ 1 := by
    rw [Nat.xor_div_two_pow]
  have h3 : b / 2 ^ 31 = 0 ∨ b / 2 ^ 31 = 1 := by omega
  unfold flipS
  rcases h3 with h3 | h3
  · rw [h3, show (0 ^^^ 1 : Nat) = 1 from by decide] at h2
    rw [if_pos (by omega)]; omega
  · rw [h3, show (1 ^^^ 1 : Nat) = 0 from by decide] at h2
    rw [if_neg (by omega)]; omega
theorem flipS_xor {b : Nat} (h : b < 4294967296) : bits BinOp.xor IntKind.u64 (b : Int) 2147483648 = ((flipS b : Nat) : Int) := by
  rw [show (2147483648 : Int) = ((2147483648 : Nat) : Int) from rfl, u64_xor_nat _ _ (by omega) (by decide), flipS_plain h]

set_option maxRecDepth 20000 in
set_option maxHeartbeats 2000000 in
theorem subFlags_any (w : World) (a b : Nat) (ha : a < 4294967296) (hb : b < 4294967296) :
    Calls Oaig.prog 70 #[.agg #[.int .u8 8, .int .u8 23], .int .u8 0, .int .u64 a, .int .u64 b] w fun e w' => ∃ fl : Int, e = .returned (.tuple #[.int .u64 (sAdd a (flipS b) : Nat), .int .u8 fl]) ∧ Ext w w' := by
  have hfl := flipS_lt hb
  have hfx := flipS_xor hb
  have hAdd := fun w => addFlags_any w a (flipS b) ha hfl
  obtain ⟨c, hc⟩ : ∃ c, c = flipS b := ⟨_, rfl⟩
  rw [← hc] at hAdd hfx
  rw [← hc]
  clear hc hfl
  replace hAdd : Hid _ := hAdd
  go_enter Oaig.func70, Oaig.ntmps70
  go_wp2_with fail
  obtain ⟨W, hW⟩ : ∃ W, W = w.alloc (.cells #[.int .u8 8, .int .u8 23] 25) := ⟨_, rfl⟩
  have hF : Blk W w.heap.size #[.int .u8 8, .int .u8 23] := by rw [hW]; exact Blk.new _ _ _
  have hwW : Ext w W := by rw [hW]; exact (Ext.refl w).alloc _ _
  rw [← hW]
  clear hW
  have c0 : ∀ w', Ext W w' → w'.cell? ⟨w.heap.size, 0, none⟩ = some (.int .u8 8) := fun w' h => (hF.ext h).cell rfl
  have c1 : ∀ w', Ext W w' → w'.cell? ⟨w.heap.size, 1, none⟩ = some (.int .u8 23) := fun w' h => (hF.ext h).cell rfl
  go_region_held3 (fun w' => Ext W w') ((focus ((repeat (first | with_reducible assumption | with_reducible exact Ext.refl _ | with_reducible refine Ext.drew ?_ | with_reducible refine Ext.alloc ?_ _ _ | with_reducible refine Ext.setCell ?_ ?_ _ | with_reducible exact Nat.le_refl _ | (dsimp only; omega) | (simp only [World.size_alloc]; omega))); done))) (first
    | (go_at_call 111; refine (signBit_any _).mono ?_; rintro e w3 ⟨rfl, hext3⟩; have hq3 : Ext W w3 := Ext.trans (by (focus ((repeat (first | with_reducible assumption | with_reducible exact Ext.refl _ | with_reducible refine Ext.drew ?_ | with_reducible refine Ext.alloc ?_ _ _ | with_reducible refine Ext.setCell ?_ ?_ _ | with_reducible exact Nat.le_refl _ | (dsimp only; omega) | (simp only [World.size_alloc]; omega))); done))) hext3)
    | (go_at_call 69; refine Calls.mono (hAdd.out _) ?_; rintro e w4 ⟨fl, rfl, hext4⟩; have hq4 : Ext W w4 := Ext.trans (by (focus ((repeat (first | with_reducible assumption | with_reducible exact Ext.refl _ | with_reducible refine Ext.drew ?_ | with_reducible refine Ext.alloc ?_ _ _ | with_reducible refine Ext.setCell ?_ ?_ _ | with_reducible exact Nat.le_refl _ | (dsimp only; omega) | (simp only [World.size_alloc]; omega))); done))) hext4))
  all_goals (
    go_wp2
    go_ret2
    exact ⟨_, rfl, hwW.trans hq4⟩)

set_option maxHeartbeats 1000000 in
theorem softSub_any (w : World) (a b : Nat) (ha : a < 4294967296) (hb : b < 4294967296) :
    Calls Oaig.prog 41 #[.agg #[.int .u8 8, .int .u8 23], .int .u8 0, .int .u64 a, .int .u64 b] w fun e w' => e = .returned (.int .u64 (sAdd a (flipS b) : Nat)) ∧ Ext w w' := by
  go_enter Oaig.func41, Oaig.ntmps41
  go_wp2_with fail
  refine (subFlags_any _ a b ha hb).mono ?_
  rintro e w1 ⟨fl, rfl, hext1⟩
  go_wp2
  go_ret
  exact ⟨rfl, hext1.of_alloc⟩

end Go.Proofs.Ygcoai
