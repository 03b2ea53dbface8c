/-
  Seat gcoai. exact.addRat (114).
-/
import Derived.Test.YgcoaiExMul
namespace Go.Proofs.Ygcoai
open Go.RowKit

set_option maxRecDepth 20000 in
set_option maxHeartbeats 4000000 in
theorem addRat_eq {w : World} (n1 : Bool) {v1 v2 v3 v4 : Value} {x1 y1 x2 y2 : Nat} (hx1 : NatV w v1 x1) (hy1 : NatV w v2 y1) (hx2 : NatV w v3 x2) (hy2 : NatV w v4 y2) (l1 : Lt32 x1 7) (l2 : Lt32 y1 7) (l3 : Lt32 x2 7) (l4 : Lt32 y2 7) :
    Calls Oaig.prog 114 #[.agg #[.bool n1, v1, v2], .agg #[.bool n1, v3, v4]] w fun e w' => ∃ nv dv, e = .returned (.agg #[.bool n1, nv, dv]) ∧ Ext w w' ∧ NatV w' nv (x1 * y2 + x2 * y1) ∧ NatV w' dv (y1 * y2) := by
  obtain ⟨ao1, k1, c1, rfl⟩ := hx1.form
  obtain ⟨ao2, k2, c2, rfl⟩ := hy1.form
  obtain ⟨ao3, k3, c3, rfl⟩ := hx2.form
  obtain ⟨ao4, k4, c4, rfl⟩ := hy2.form
  have m1 : Lt32 (x1 * y2) 14 := l1.mul l4
  have m2 : Lt32 (x2 * y1) 14 := l3.mul l2
  have hA : Blk (((w.alloc (.cells #[.bool n1, .slice ao1 k1 c1, .slice ao2 k2 c2] 40)).alloc (.cells #[.bool n1, .slice ao3 k3 c3, .slice ao4 k4 c4] 40)).alloc (.cells #[.bool false, .slice none 0 0, .slice none 0 0] 40)) w.heap.size #[.bool n1, .slice ao1 k1 c1, .slice ao2 k2 c2] := by (focus ((repeat (first | with_reducible assumption | with_reducible exact Blk.new _ _ _ | with_reducible exact Blk.new' _ _ (by simp) | with_reducible refine Blk.alloc ?_ _ _ | with_reducible refine Blk.set4 (a := .bool false) (b := .int .i8 0) (c := .int .i16 0) (d := .int .u64 0) ?_ | with_reducible refine Blk.setOther4 ?_ ?_ | with_reducible refine Blk.setOther ?_ ?_ _ | with_reducible refine Blk.drew ?_ | (apply Ne.symm; with_reducible assumption) | omega)); done))
  have hB : Blk (((w.alloc (.cells #[.bool n1, .slice ao1 k1 c1, .slice ao2 k2 c2] 40)).alloc (.cells #[.bool n1, .slice ao3 k3 c3, .slice ao4 k4 c4] 40)).alloc (.cells #[.bool false, .slice none 0 0, .slice none 0 0] 40)) (w.heap.size + 1) #[.bool n1, .slice ao3 k3 c3, .slice ao4 k4 c4] := by (focus ((repeat (first | with_reducible assumption | with_reducible exact Blk.new _ _ _ | with_reducible exact Blk.new' _ _ (by simp) | with_reducible refine Blk.alloc ?_ _ _ | with_reducible refine Blk.set4 (a := .bool false) (b := .int .i8 0) (c := .int .i16 0) (d := .int .u64 0) ?_ | with_reducible refine Blk.setOther4 ?_ ?_ | with_reducible refine Blk.setOther ?_ ?_ _ | with_reducible refine Blk.drew ?_ | (apply Ne.symm; with_reducible assumption) | omega)); done))
  have hC : Blk (((w.alloc (.cells #[.bool n1, .slice ao1 k1 c1, .slice ao2 k2 c2] 40)).alloc (.cells #[.bool n1, .slice ao3 k3 c3, .slice ao4 k4 c4] 40)).alloc (.cells #[.bool false, .slice none 0 0, .slice none 0 0] 40)) (w.heap.size + 1 + 1) #[.bool false, .slice none 0 0, .slice none 0 0] := by (focus ((repeat (first | with_reducible assumption | with_reducible exact Blk.new _ _ _ | with_reducible exact Blk.new' _ _ (by simp) | with_reducible refine Blk.alloc ?_ _ _ | with_reducible refine Blk.set4 (a := .bool false) (b := .int .i8 0) (c := .int .i16 0) (d := .int .u64 0) ?_ | with_reducible refine Blk.setOther4 ?_ ?_ | with_reducible refine Blk.setOther ?_ ?_ _ | with_reducible refine Blk.drew ?_ | (apply Ne.symm; with_reducible assumption) | omega)); done))
  have hwW : Ext w (((w.alloc (.cells #[.bool n1, .slice ao1 k1 c1, .slice ao2 k2 c2] 40)).alloc (.cells #[.bool n1, .slice ao3 k3 c3, .slice ao4 k4 c4] 40)).alloc (.cells #[.bool false, .slice none 0 0, .slice none 0 0] 40)) := by (focus ((repeat (first | with_reducible assumption | with_reducible exact Ext.refl _ | with_reducible refine Ext.drew ?_ | with_reducible refine Ext.alloc ?_ _ _ | with_reducible refine Ext.setCell ?_ ?_ _ | with_reducible exact Nat.le_refl _ | (dsimp only; omega) | (simp only [World.size_alloc]; omega))); done))
  go_enter Oaig.func114, Oaig.ntmps114
  go_wp2_with fail
  obtain ⟨W, hW⟩ : ∃ W, W = (((w.alloc (.cells #[.bool n1, .slice ao1 k1 c1, .slice ao2 k2 c2] 40)).alloc (.cells #[.bool n1, .slice ao3 k3 c3, .slice ao4 k4 c4] 40)).alloc (.cells #[.bool false, .slice none 0 0, .slice none 0 0] 40)) := ⟨_, rfl⟩
  rw [← hW] at hA hB hC hwW ⊢
  clear hW
  have d0 : ∀ w', Ext W w' → w'.cell? ⟨w.heap.size, 1, none⟩ = some (.slice ao1 k1 c1) := fun w' h => (hA.ext h).cell rfl
  have d1 : ∀ w', Ext W w' → w'.cell? ⟨w.heap.size, 2, none⟩ = some (.slice ao2 k2 c2) := fun w' h => (hA.ext h).cell rfl
  have d2 : ∀ w', Ext W w' → w'.cell? ⟨w.heap.size + 1, 1, none⟩ = some (.slice ao3 k3 c3) := fun w' h => (hB.ext h).cell rfl
  have d3 : ∀ w', Ext W w' → w'.cell? ⟨w.heap.size + 1, 2, none⟩ = some (.slice ao4 k4 c4) := fun w' h => (hB.ext h).cell rfl
  replace hx1 := hx1.ext hwW
  replace hx2 := hx2.ext hwW
  replace hy1 := hy1.ext hwW
  replace hy2 := hy2.ext hwW
  go_region_held3 (fun w' => Ext W w') ((focus ((repeat (first | with_reducible assumption | with_reducible exact Ext.refl _ | with_reducible refine Ext.drew ?_ | with_reducible refine Ext.alloc ?_ _ _ | with_reducible refine Ext.setCell ?_ ?_ _ | with_reducible exact Nat.le_refl _ | (dsimp only; omega) | (simp only [World.size_alloc]; omega))); done))) (first
    | (go_at_call_of 39 (Value.slice ao1 k1 c1); refine (mul_any (hx1.ext (by (focus ((repeat (first | with_reducible assumption | with_reducible exact Ext.refl _ | with_reducible refine Ext.drew ?_ | with_reducible refine Ext.alloc ?_ _ _ | with_reducible refine Ext.setCell ?_ ?_ _ | with_reducible exact Nat.le_refl _ | (dsimp only; omega) | (simp only [World.size_alloc]; omega))); done)))) (hy2.ext (by (focus ((repeat (first | with_reducible assumption | with_reducible exact Ext.refl _ | with_reducible refine Ext.drew ?_ | with_reducible refine Ext.alloc ?_ _ _ | with_reducible refine Ext.setCell ?_ ?_ _ | with_reducible exact Nat.le_refl _ | (dsimp only; omega) | (simp only [World.size_alloc]; omega))); done)))) l1 l4 (by omega)).mono ?_; rintro e w3 ⟨u3, rfl, hext3, hv3⟩; have hq3 : Ext W w3 := Ext.trans (by (focus ((repeat (first | with_reducible assumption | with_reducible exact Ext.refl _ | with_reducible refine Ext.drew ?_ | with_reducible refine Ext.alloc ?_ _ _ | with_reducible refine Ext.setCell ?_ ?_ _ | with_reducible exact Nat.le_refl _ | (dsimp only; omega) | (simp only [World.size_alloc]; omega))); done))) hext3; obtain ⟨ao5, k5, c5, rfl⟩ := hv3.form)
    | (go_at_call_of 39 (Value.slice ao3 k3 c3); refine (mul_any (hx2.ext (by (focus ((repeat (first | with_reducible assumption | with_reducible exact Ext.refl _ | with_reducible refine Ext.drew ?_ | with_reducible refine Ext.alloc ?_ _ _ | with_reducible refine Ext.setCell ?_ ?_ _ | with_reducible exact Nat.le_refl _ | (dsimp only; omega) | (simp only [World.size_alloc]; omega))); done)))) (hy1.ext (by (focus ((repeat (first | with_reducible assumption | with_reducible exact Ext.refl _ | with_reducible refine Ext.drew ?_ | with_reducible refine Ext.alloc ?_ _ _ | with_reducible refine Ext.setCell ?_ ?_ _ | with_reducible exact Nat.le_refl _ | (dsimp only; omega) | (simp only [World.size_alloc]; omega))); done)))) l3 l2 (by omega)).mono ?_; rintro e w4 ⟨u4, rfl, hext4, hv4⟩; have hq4 : Ext W w4 := Ext.trans (by (focus ((repeat (first | with_reducible assumption | with_reducible exact Ext.refl _ | with_reducible refine Ext.drew ?_ | with_reducible refine Ext.alloc ?_ _ _ | with_reducible refine Ext.setCell ?_ ?_ _ | with_reducible exact Nat.le_refl _ | (dsimp only; omega) | (simp only [World.size_alloc]; omega))); done))) hext4; obtain ⟨ao6, k6, c6, rfl⟩ := hv4.form; replace hv3 := hv3.ext (Ext.trans (by (focus ((repeat (first | with_reducible assumption | with_reducible exact Ext.refl _ | with_reducible refine Ext.drew ?_ | with_reducible refine Ext.alloc ?_ _ _ | with_reducible refine Ext.setCell ?_ ?_ _ | with_reducible exact Nat.le_refl _ | (dsimp only; omega) | (simp only [World.size_alloc]; omega))); done))) hext4)))
  clear d0 d1 d2 d3 hx1 hx2
  have hA4 := hA.ext hq4
  have hB4 := hB.ext hq4
  have p2 := hA4.cell (i := 2) rfl
  have q2 := hB4.cell (i := 2) rfl
  go_wp2_with fail
  refine (mul_any (hy1.ext hq4) (hy2.ext hq4) l2 l4 (by omega)).mono ?_
  rintro e w5 ⟨u5, rfl, hext5, hv5⟩
  obtain ⟨ao7, k7, c7, rfl⟩ := hv5.form
  have hq5 := hq4.trans hext5
  replace hv3 := hv3.ext hext5
  replace hv4 := hv4.ext hext5
  replace hA := hA.ext hq5
  replace hB := hB.ext hq5
  replace hC := hC.ext hq5
  replace hwW := hwW.trans hq5
  clear hA4 hB4 p2 q2 hq3 hq4 hq5 hext3 hext4 hext5 hy1 hy2
  have p0 := hA.cell (i := 0) rfl
  have q0 := hB.cell (i := 0) rfl
  go_wp2_with fail
  have d0 : ∀ w', (Ext w w' ∧ Blk w' w.heap.size #[.bool n1, .slice ao1 k1 c1, .slice ao2 k2 c2]) → w'.cell? ⟨w.heap.size, 0, none⟩ = some (.bool n1) := fun w' h => h.2.cell rfl
  go_region_held3 (fun w' => Ext w w' ∧ Blk w' w.heap.size #[.bool n1, .slice ao1 k1 c1, .slice ao2 k2 c2]) (first | with_reducible assumption | (refine ⟨?_, ?_⟩; (focus ((repeat (first | with_reducible assumption | with_reducible exact Ext.refl _ | with_reducible refine Ext.drew ?_ | with_reducible refine Ext.alloc ?_ _ _ | with_reducible refine Ext.setCell ?_ ?_ _ | with_reducible exact Nat.le_refl _ | (dsimp only; omega) | (simp only [World.size_alloc]; omega))); done)); (focus ((repeat (first | with_reducible assumption | with_reducible exact Blk.new _ _ _ | with_reducible exact Blk.new' _ _ (by simp) | with_reducible refine Blk.alloc ?_ _ _ | with_reducible refine Blk.set4 (a := .bool false) (b := .int .i8 0) (c := .int .i16 0) (d := .int .u64 0) ?_ | with_reducible refine Blk.setOther4 ?_ ?_ | with_reducible refine Blk.setOther ?_ ?_ _ | with_reducible refine Blk.drew ?_ | (apply Ne.symm; with_reducible assumption) | omega)); done)))) (first
    | (go_at_call 53; refine (add_any (hv3.ext (by (focus ((repeat (first | with_reducible assumption | with_reducible exact Ext.refl _ | with_reducible refine Ext.drew ?_ | with_reducible refine Ext.alloc ?_ _ _ | with_reducible refine Ext.setCell ?_ ?_ _ | with_reducible exact Nat.le_refl _ | (dsimp only; omega) | (simp only [World.size_alloc]; omega))); done)))) (hv4.ext (by (focus ((repeat (first | with_reducible assumption | with_reducible exact Ext.refl _ | with_reducible refine Ext.drew ?_ | with_reducible refine Ext.alloc ?_ _ _ | with_reducible refine Ext.setCell ?_ ?_ _ | with_reducible exact Nat.le_refl _ | (dsimp only; omega) | (simp only [World.size_alloc]; omega))); done)))) m1 m2 (by omega)).mono ?_; rintro e w6 ⟨u6, rfl, hext6, hv6⟩; obtain ⟨ao8, k8, c8, rfl⟩ := hv6.form; have hq6 : Ext w5 w6 := Ext.trans (by (focus ((repeat (first | with_reducible assumption | with_reducible exact Ext.refl _ | with_reducible refine Ext.drew ?_ | with_reducible refine Ext.alloc ?_ _ _ | with_reducible refine Ext.setCell ?_ ?_ _ | with_reducible exact Nat.le_refl _ | (dsimp only; omega) | (simp only [World.size_alloc]; omega))); done))) hext6; have hq6' : Ext w w6 := hwW.trans hq6; have ha6 := hA.ext hq6; have hr6 := hC.ext hq6; have hd6 := hv5.ext hq6; have s0 := hr6.cell (i := 0) rfl; have s1 := hr6.cell (i := 1) rfl; have s2 := hr6.cell (i := 2) rfl; have sz := hr6.fz))
  go_wp2_with fail
  have hR := hr6.set3 (a' := .bool n1) (b' := .slice ao8 k8 c8) (c' := .slice ao7 k7 c7)
  exact bodyPost_ret (v := .agg #[.bool n1, .slice ao8 k8 c8, .slice ao7 k7 c7]) (by simp [results, Oaig.results114, go_sem, hR.cell (i := 0) rfl, hR.cell (i := 1) rfl, hR.cell (i := 2) rfl]) rfl ⟨_, _, rfl, Ext.set3 hq6' (by omega) _ _ _, hv6.set3 hr6 (by simp [NL]) (by simp [NL]), hd6.set3 hr6 (by simp [NL]) (by simp [NL])⟩

set_option maxRecDepth 20000 in
set_option maxHeartbeats 4000000 in
theorem addRat_ge {w : World} (n1 n2 : Bool) {v1 v2 v3 v4 : Value} {x1 y1 x2 y2 : Nat} (hx1 : NatV w v1 x1) (hy1 : NatV w v2 y1) (hx2 : NatV w v3 x2) (hy2 : NatV w v4 y2) (l1 : Lt32 x1 7) (l2 : Lt32 y1 7) (l3 : Lt32 x2 7) (l4 : Lt32 y2 7) (hn : n1 ≠ n2) (hg : x2 * y1 ≤ x1 * y2) :
    Calls Oaig.prog 114 #[.agg #[.bool n1, v1, v2], .agg #[.bool n2, v3, v4]] w fun e w' => ∃ nv dv, e = .returned (.agg #[.bool n1, nv, dv]) ∧ Ext w w' ∧ NatV w' nv (x1 * y2 - x2 * y1) ∧ NatV w' dv (y1 * y2) := by
  obtain ⟨ao1, k1, c1, rfl⟩ := hx1.form
  obtain ⟨ao2, k2, c2, rfl⟩ := hy1.form
  obtain ⟨ao3, k3, c3, rfl⟩ := hx2.form
  obtain ⟨ao4, k4, c4, rfl⟩ := hy2.form
  have m1 : Lt32 (x1 * y2) 14 := l1.mul l4
  have m2 : Lt32 (x2 * y1) 14 := l3.mul l2
  have f1 : (n1 == n2) = false := by rw [beq_eq_false_iff_ne]; exact hn
  have f2 : decide (x2 * y1 ≤ x1 * y2) = true := decide_eq_true hg
  have hA : Blk (((w.alloc (.cells #[.bool n1, .slice ao1 k1 c1, .slice ao2 k2 c2] 40)).alloc (.cells #[.bool n2, .slice ao3 k3 c3, .slice ao4 k4 c4] 40)).alloc (.cells #[.bool false, .slice none 0 0, .slice none 0 0] 40)) w.heap.size #[.bool n1, .slice ao1 k1 c1, .slice ao2 k2 c2] := by (focus ((repeat (first | with_reducible assumption | with_reducible exact Blk.new _ _ _ | with_reducible exact Blk.new' _ _ (by simp) | with_reducible refine Blk.alloc ?_ _ _ | with_reducible refine Blk.set4 (a := .bool false) (b := .int .i8 0) (c := .int .i16 0) (d := .int .u64 0) ?_ | with_reducible refine Blk.setOther4 ?_ ?_ | with_reducible refine Blk.setOther ?_ ?_ _ | with_reducible refine Blk.drew ?_ | (apply Ne.symm; with_reducible assumption) | omega)); done))
  have hB : Blk (((w.alloc (.cells #[.bool n1, .slice ao1 k1 c1, .slice ao2 k2 c2] 40)).alloc (.cells #[.bool n2, .slice ao3 k3 c3, .slice ao4 k4 c4] 40)).alloc (.cells #[.bool false, .slice none 0 0, .slice none 0 0] 40)) (w.heap.size + 1) #[.bool n2, .slice ao3 k3 c3, .slice ao4 k4 c4] := by (focus ((repeat (first | with_reducible assumption | with_reducible exact Blk.new _ _ _ | with_reducible exact Blk.new' _ _ (by simp) | with_reducible refine Blk.alloc ?_ _ _ | with_reducible refine Blk.set4 (a := .bool false) (b := .int .i8 0) (c := .int .i16 0) (d := .int .u64 0) ?_ | with_reducible refine Blk.setOther4 ?_ ?_ | with_reducible refine Blk.setOther ?_ ?_ _ | with_reducible refine Blk.drew ?_ | (apply Ne.symm; with_reducible assumption) | omega)); done))
  have hC : Blk (((w.alloc (.cells #[.bool n1, .slice ao1 k1 c1, .slice ao2 k2 c2] 40)).alloc (.cells #[.bool n2, .slice ao3 k3 c3, .slice ao4 k4 c4] 40)).alloc (.cells #[.bool false, .slice none 0 0, .slice none 0 0] 40)) (w.heap.size + 1 + 1) #[.bool false, .slice none 0 0, .slice none 0 0] := by (focus ((repeat (first | with_reducible assumption | with_reducible exact Blk.new _ _ _ | with_reducible exact Blk.new' _ _ (by simp) | with_reducible refine Blk.alloc ?_ _ _ | with_reducible refine Blk.set4 (a := .bool false) (b := .int .i8 0) (c := .int .i16 0) (d := .int .u64 0) ?_ | with_reducible refine Blk.setOther4 ?_ ?_ | with_reducible refine Blk.setOther ?_ ?_ _ | with_reducible refine Blk.drew ?_ | (apply Ne.symm; with_reducible assumption) | omega)); done))
  have hwW : Ext w (((w.alloc (.cells #[.bool n1, .slice ao1 k1 c1, .slice ao2 k2 c2] 40)).alloc (.cells #[.bool n2, .slice ao3 k3 c3, .slice ao4 k4 c4] 40)).alloc (.cells #[.bool false, .slice none 0 0, .slice none 0 0] 40)) := by (focus ((repeat (first | with_reducible assumption | with_reducible exact Ext.refl _ | with_reducible refine Ext.drew ?_ | with_reducible refine Ext.alloc ?_ _ _ | with_reducible refine Ext.setCell ?_ ?_ _ | with_reducible exact Nat.le_refl _ | (dsimp only; omega) | (simp only [World.size_alloc]; omega))); done))
  go_enter Oaig.func114, Oaig.ntmps114
  go_wp2_with fail
  obtain ⟨W, hW⟩ : ∃ W, W = (((w.alloc (.cells #[.bool n1, .slice ao1 k1 c1, .slice ao2 k2 c2] 40)).alloc (.cells #[.bool n2, .slice ao3 k3 c3, .slice ao4 k4 c4] 40)).alloc (.cells #[.bool false, .slice none 0 0, .slice none 0 0] 40)) := ⟨_, rfl⟩
  rw [← hW] at hA hB hC hwW ⊢
  clear hW
  have d0 : ∀ w', Ext W w' → w'.cell? ⟨w.heap.size, 1, none⟩ = some (.slice ao1 k1 c1) := fun w' h => (hA.ext h).cell rfl
  have d1 : ∀ w', Ext W w' → w'.cell? ⟨w.heap.size, 2, none⟩ = some (.slice ao2 k2 c2) := fun w' h => (hA.ext h).cell rfl
  have d2 : ∀ w', Ext W w' → w'.cell? ⟨w.heap.size + 1, 1, none⟩ = some (.slice ao3 k3 c3) := fun w' h => (hB.ext h).cell rfl
  have d3 : ∀ w', Ext W w' → w'.cell? ⟨w.heap.size + 1, 2, none⟩ = some (.slice ao4 k4 c4) := fun w' h => (hB.ext h).cell rfl
  replace hx1 := hx1.ext hwW
  replace hx2 := hx2.ext hwW
  replace hy1 := hy1.ext hwW
  replace hy2 := hy2.ext hwW
  go_region_held3 (fun w' => Ext W w') ((focus ((repeat (first | with_reducible assumption | with_reducible exact Ext.refl _ | with_reducible refine Ext.drew ?_ | with_reducible refine Ext.alloc ?_ _ _ | with_reducible refine Ext.setCell ?_ ?_ _ | with_reducible exact Nat.le_refl _ | (dsimp only; omega) | (simp only [World.size_alloc]; omega))); done))) (first
    | (go_at_call_of 39 (Value.slice ao1 k1 c1); refine (mul_any (hx1.ext (by (focus ((repeat (first | with_reducible assumption | with_reducible exact Ext.refl _ | with_reducible refine Ext.drew ?_ | with_reducible refine Ext.alloc ?_ _ _ | with_reducible refine Ext.setCell ?_ ?_ _ | with_reducible exact Nat.le_refl _ | (dsimp only; omega) | (simp only [World.size_alloc]; omega))); done)))) (hy2.ext (by (focus ((repeat (first | with_reducible assumption | with_reducible exact Ext.refl _ | with_reducible refine Ext.drew ?_ | with_reducible refine Ext.alloc ?_ _ _ | with_reducible refine Ext.setCell ?_ ?_ _ | with_reducible exact Nat.le_refl _ | (dsimp only; omega) | (simp only [World.size_alloc]; omega))); done)))) l1 l4 (by omega)).mono ?_; rintro e w3 ⟨u3, rfl, hext3, hv3⟩; have hq3 : Ext W w3 := Ext.trans (by (focus ((repeat (first | with_reducible assumption | with_reducible exact Ext.refl _ | with_reducible refine Ext.drew ?_ | with_reducible refine Ext.alloc ?_ _ _ | with_reducible refine Ext.setCell ?_ ?_ _ | with_reducible exact Nat.le_refl _ | (dsimp only; omega) | (simp only [World.size_alloc]; omega))); done))) hext3; obtain ⟨ao5, k5, c5, rfl⟩ := hv3.form)
    | (go_at_call_of 39 (Value.slice ao3 k3 c3); refine (mul_any (hx2.ext (by (focus ((repeat (first | with_reducible assumption | with_reducible exact Ext.refl _ | with_reducible refine Ext.drew ?_ | with_reducible refine Ext.alloc ?_ _ _ | with_reducible refine Ext.setCell ?_ ?_ _ | with_reducible exact Nat.le_refl _ | (dsimp only; omega) | (simp only [World.size_alloc]; omega))); done)))) (hy1.ext (by (focus ((repeat (first | with_reducible assumption | with_reducible exact Ext.refl _ | with_reducible refine Ext.drew ?_ | with_reducible refine Ext.alloc ?_ _ _ | with_reducible refine Ext.setCell ?_ ?_ _ | with_reducible exact Nat.le_refl _ | (dsimp only; omega) | (simp only [World.size_alloc]; omega))); done)))) l3 l2 (by omega)).mono ?_; rintro e w4 ⟨u4, rfl, hext4, hv4⟩; have hq4 : Ext W w4 := Ext.trans (by (focus ((repeat (first | with_reducible assumption | with_reducible exact Ext.refl _ | with_reducible refine Ext.drew ?_ | with_reducible refine Ext.alloc ?_ _ _ | with_reducible refine Ext.setCell ?_ ?_ _ | with_reducible exact Nat.le_refl _ | (dsimp only; omega) | (simp only [World.size_alloc]; omega))); done))) hext4; obtain ⟨ao6, k6, c6, rfl⟩ := hv4.form; replace hv3 := hv3.ext (Ext.trans (by (focus ((repeat (first | with_reducible assumption | with_reducible exact Ext.refl _ | with_reducible refine Ext.drew ?_ | with_reducible refine Ext.alloc ?_ _ _ | with_reducible refine Ext.setCell ?_ ?_ _ | with_reducible exact Nat.le_refl _ | (dsimp only; omega) | (simp only [World.size_alloc]; omega))); done))) hext4)))
  clear d0 d1 d2 d3 hx1 hx2
  have hA4 := hA.ext hq4
  have hB4 := hB.ext hq4
  have p2 := hA4.cell (i := 2) rfl
  have q2 := hB4.cell (i := 2) rfl
  go_wp2_with fail
  refine (mul_any (hy1.ext hq4) (hy2.ext hq4) l2 l4 (by omega)).mono ?_
  rintro e w5 ⟨u5, rfl, hext5, hv5⟩
  obtain ⟨ao7, k7, c7, rfl⟩ := hv5.form
  have hq5 := hq4.trans hext5
  replace hv3 := hv3.ext hext5
  replace hv4 := hv4.ext hext5
  replace hA := hA.ext hq5
  replace hB := hB.ext hq5
  replace hC := hC.ext hq5
  replace hwW := hwW.trans hq5
  clear hA4 hB4 p2 q2 hq3 hq4 hq5 hext3 hext4 hext5 hy1 hy2
  have p0 := hA.cell (i := 0) rfl
  have q0 := hB.cell (i := 0) rfl
  go_wp2_with fail
  refine (sub_any hv3 hv4 m1 m2 (by omega)).mono ?_
  rw [f2]
  rintro e w6 ⟨u6, rfl, hext6, hv6⟩
  obtain ⟨ao8, k8, c8, rfl⟩ := hv6.form
  replace hC := hC.ext hext6
  replace hA := hA.ext hext6
  replace hv5 := hv5.ext hext6
  replace p0 := hA.cell (i := 0) rfl
  have s0 := hC.cell (i := 0) rfl
  have s1 := hC.cell (i := 1) rfl
  have s2 := hC.cell (i := 2) rfl
  have sz := hC.fz
  have sl := hC.lt
  go_wp2_with fail
  have hR := hC.set3 (a' := .bool n1) (b' := .slice ao8 k8 c8) (c' := .slice ao7 k7 c7)
  exact bodyPost_ret (v := .agg #[.bool n1, .slice ao8 k8 c8, .slice ao7 k7 c7]) (by simp [results, Oaig.results114, go_sem, hR.cell (i := 0) rfl, hR.cell (i := 1) rfl, hR.cell (i := 2) rfl]) rfl ⟨_, _, rfl, Ext.set3 (hwW.trans hext6) (by omega) _ _ _, hv6.set3 hC (by simp [NL]) (by simp [NL]), hv5.set3 hC (by simp [NL]) (by simp [NL])⟩

set_option maxRecDepth 20000 in
set_option maxHeartbeats 4000000 in
theorem addRat_lt {w : World} (n1 n2 : Bool) {v1 v2 v3 v4 : Value} {x1 y1 x2 y2 : Nat} (hx1 : NatV w v1 x1) (hy1 : NatV w v2 y1) (hx2 : NatV w v3 x2) (hy2 : NatV w v4 y2) (l1 : Lt32 x1 7) (l2 : Lt32 y1 7) (l3 : Lt32 x2 7) (l4 : Lt32 y2 7) (hn : n1 ≠ n2) (hg : x1 * y2 < x2 * y1) :
    Calls Oaig.prog 114 #[.agg #[.bool n1, v1, v2], .agg #[.bool n2, v3, v4]] w fun e w' => ∃ nv dv, e = .returned (.agg #[.bool n2, nv, dv]) ∧ Ext w w' ∧ NatV w' nv (x2 * y1 - x1 * y2) ∧ NatV w' dv (y1 * y2) := by
  obtain ⟨ao1, k1, c1, rfl⟩ := hx1.form
  obtain ⟨ao2, k2, c2, rfl⟩ := hy1.form
  obtain ⟨ao3, k3, c3, rfl⟩ := hx2.form
  obtain ⟨ao4, k4, c4, rfl⟩ := hy2.form
  have m1 : Lt32 (x1 * y2) 14 := l1.mul l4
  have m2 : Lt32 (x2 * y1) 14 := l3.mul l2
  have f1 : (n1 == n2) = false := by rw [beq_eq_false_iff_ne]; exact hn
  have f2 : decide (x2 * y1 ≤ x1 * y2) = false := decide_eq_false (by omega)
  have hA : Blk (((w.alloc (.cells #[.bool n1, .slice ao1 k1 c1, .slice ao2 k2 c2] 40)).alloc (.cells #[.bool n2, .slice ao3 k3 c3, .slice ao4 k4 c4] 40)).alloc (.cells #[.bool false, .slice none 0 0, .slice none 0 0] 40)) w.heap.size #[.bool n1, .slice ao1 k1 c1, .slice ao2 k2 c2] := by (focus ((repeat (first | with_reducible assumption | with_reducible exact Blk.new _ _ _ | with_reducible exact Blk.new' _ _ (by simp) | with_reducible refine Blk.alloc ?_ _ _ | with_reducible refine Blk.set4 (a := .bool false) (b := .int .i8 0) (c := .int .i16 0) (d := .int .u64 0) ?_ | with_reducible refine Blk.setOther4 ?_ ?_ | with_reducible refine Blk.setOther ?_ ?_ _ | with_reducible refine Blk.drew ?_ | (apply Ne.symm; with_reducible assumption) | omega)); done))
  have hB : Blk (((w.alloc (.cells #[.bool n1, .slice ao1 k1 c1, .slice ao2 k2 c2] 40)).alloc (.cells #[.bool n2, .slice ao3 k3 c3, .slice ao4 k4 c4] 40)).alloc (.cells #[.bool false, .slice none 0 0, .slice none 0 0] 40)) (w.heap.size + 1) #[.bool n2, .slice ao3 k3 c3, .slice ao4 k4 c4] := by (focus ((repeat (first | with_reducible assumption | with_reducible exact Blk.new _ _ _ | with_reducible exact Blk.new' _ _ (by simp) | with_reducible refine Blk.alloc ?_ _ _ | with_reducible refine Blk.set4 (a := .bool false) (b := .int .i8 0) (c := .int .i16 0) (d := .int .u64 0) ?_ | with_reducible refine Blk.setOther4 ?_ ?_ | with_reducible refine Blk.setOther ?_ ?_ _ | with_reducible refine Blk.drew ?_ | (apply Ne.symm; with_reducible assumption) | omega)); done))
  have hC : Blk (((w.alloc (.cells #[.bool n1, .slice ao1 k1 c1, .slice ao2 k2 c2] 40)).alloc (.cells #[.bool n2, .slice ao3 k3 c3, .slice ao4 k4 c4] 40)).alloc (.cells #[.bool false, .slice none 0 0, .slice none 0 0] 40)) (w.heap.size + 1 + 1) #[.bool false, .slice none 0 0, .slice none 0 0] := by (focus ((repeat (first | with_reducible assumption | with_reducible exact Blk.new _ _ _ | with_reducible exact Blk.new' _ _ (by simp) | with_reducible refine Blk.alloc ?_ _ _ | with_reducible refine Blk.set4 (a := .bool false) (b := .int .i8 0) (c := .int .i16 0) (d := .int .u64 0) ?_ | with_reducible refine Blk.setOther4 ?_ ?_ | with_reducible refine Blk.setOther ?_ ?_ _ | with_reducible refine Blk.drew ?_ | (apply Ne.symm; with_reducible assumption) | omega)); done))
  have hwW : Ext w (((w.alloc (.cells #[.bool n1, .slice ao1 k1 c1, .slice ao2 k2 c2] 40)).alloc (.cells #[.bool n2, .slice ao3 k3 c3, .slice ao4 k4 c4] 40)).alloc (.cells #[.bool false, .slice none 0 0, .slice none 0 0] 40)) := by (focus ((repeat (first | with_reducible assumption | with_reducible exact Ext.refl _ | with_reducible refine Ext.drew ?_ | with_reducible refine Ext.alloc ?_ _ _ | with_reducible refine Ext.setCell ?_ ?_ _ | with_reducible exact Nat.le_refl _ | (dsimp only; omega) | (simp only [World.size_alloc]; omega))); done))
  go_enter Oaig.func114, Oaig.ntmps114
  go_wp2_with fail
  obtain ⟨W, hW⟩ : ∃ W, W = (((w.alloc (.cells #[.bool n1, .slice ao1 k1 c1, .slice ao2 k2 c2] 40)).alloc (.cells #[.bool n2, .slice ao3 k3 c3, .slice ao4 k4 c4] 40)).alloc (.cells #[.bool false, .slice none 0 0, .slice none 0 0] 40)) := ⟨_, rfl⟩
  rw [← hW] at hA hB hC hwW ⊢
  clear hW
  have d0 : ∀ w', Ext W w' → w'.cell? ⟨w.heap.size, 1, none⟩ = some (.slice ao1 k1 c1) := fun w' h => (hA.ext h).cell rfl
  have d1 : ∀ w', Ext W w' → w'.cell? ⟨w.heap.size, 2, none⟩ = some (.slice ao2 k2 c2) := fun w' h => (hA.ext h).cell rfl
  have d2 : ∀ w', Ext W w' → w'.cell? ⟨w.heap.size + 1, 1, none⟩ = some (.slice ao3 k3 c3) := fun w' h => (hB.ext h).cell rfl
  have d3 : ∀ w', Ext W w' → w'.cell? ⟨w.heap.size + 1, 2, none⟩ = some (.slice ao4 k4 c4) := fun w' h => (hB.ext h).cell rfl
  replace hx1 := hx1.ext hwW
  replace hx2 := hx2.ext hwW
  replace hy1 := hy1.ext hwW
  replace hy2 := hy2.ext hwW
  go_region_held3 (fun w' => Ext W w') ((focus ((repeat (first | with_reducible assumption | with_reducible exact Ext.refl _ | with_reducible refine Ext.drew ?_ | with_reducible refine Ext.alloc ?_ _ _ | with_reducible refine Ext.setCell ?_ ?_ _ | with_reducible exact Nat.le_refl _ | (dsimp only; omega) | (simp only [World.size_alloc]; omega))); done))) (first
    | (go_at_call_of 39 (Value.slice ao1 k1 c1); refine (mul_any (hx1.ext (by (focus ((repeat (first | with_reducible assumption | with_reducible exact Ext.refl _ | with_reducible refine Ext.drew ?_ | with_reducible refine Ext.alloc ?_ _ _ | with_reducible refine Ext.setCell ?_ ?_ _ | with_reducible exact Nat.le_refl _ | (dsimp only; omega) | (simp only [World.size_alloc]; omega))); done)))) (hy2.ext (by (focus ((repeat (first | with_reducible assumption | with_reducible exact Ext.refl _ | with_reducible refine Ext.drew ?_ | with_reducible refine Ext.alloc ?_ _ _ | with_reducible refine Ext.setCell ?_ ?_ _ | with_reducible exact Nat.le_refl _ | (dsimp only; omega) | (simp only [World.size_alloc]; omega))); done)))) l1 l4 (by omega)).mono ?_; rintro e w3 ⟨u3, rfl, hext3, hv3⟩; have hq3 : Ext W w3 := Ext.trans (by (focus ((repeat (first | with_reducible assumption | with_reducible exact Ext.refl _ | with_reducible refine Ext.drew ?_ | with_reducible refine Ext.alloc ?_ _ _ | with_reducible refine Ext.setCell ?_ ?_ _ | with_reducible exact Nat.le_refl _ | (dsimp only; omega) | (simp only [World.size_alloc]; omega))); done))) hext3; obtain ⟨ao5, k5, c5, rfl⟩ := hv3.form)
    | (go_at_call_of 39 (Value.slice ao3 k3 c3); refine (mul_any (hx2.ext (by (focus ((repeat (first | with_reducible assumption | with_reducible exact Ext.refl _ | with_reducible refine Ext.drew ?_ | with_reducible refine Ext.alloc ?_ _ _ | with_reducible refine Ext.setCell ?_ ?_ _ | with_reducible exact Nat.le_refl _ | (dsimp only; omega) | (simp only [World.size_alloc]; omega))); done)))) (hy1.ext (by (focus ((repeat (first | with_reducible assumption | with_reducible exact Ext.refl _ | with_reducible refine Ext.drew ?_ | with_reducible refine Ext.alloc ?_ _ _ | with_reducible refine Ext.setCell ?_ ?_ _ | with_reducible exact Nat.le_refl _ | (dsimp only; omega) | (simp only [World.size_alloc]; omega))); done)))) l3 l2 (by omega)).mono ?_; rintro e w4 ⟨u4, rfl, hext4, hv4⟩; have hq4 : Ext W w4 := Ext.trans (by (focus ((repeat (first | with_reducible assumption | with_reducible exact Ext.refl _ | with_reducible refine Ext.drew ?_ | with_reducible refine Ext.alloc ?_ _ _ | with_reducible refine Ext.setCell ?_ ?_ _ | with_reducible exact Nat.le_refl _ | (dsimp only; omega) | (simp only [World.size_alloc]; omega))); done))) hext4; obtain ⟨ao6, k6, c6, rfl⟩ := hv4.form; replace hv3 := hv3.ext (Ext.trans (by (focus ((repeat (first | with_reducible assumption | with_reducible exact Ext.refl _ | with_reducible refine Ext.drew ?_ | with_reducible refine Ext.alloc ?_ _ _ | with_reducible refine Ext.setCell ?_ ?_ _ | with_reducible exact Nat.le_refl _ | (dsimp only; omega) | (simp only [World.size_alloc]; omega))); done))) hext4)))
  clear d0 d1 d2 d3 hx1 hx2
  have hA4 := hA.ext hq4
  have hB4 := hB.ext hq4
  have p2 := hA4.cell (i := 2) rfl
  have q2 := hB4.cell (i := 2) rfl
  go_wp2_with fail
  refine (mul_any (hy1.ext hq4) (hy2.ext hq4) l2 l4 (by omega)).mono ?_
  rintro e w5 ⟨u5, rfl, hext5, hv5⟩
  obtain ⟨ao7, k7, c7, rfl⟩ := hv5.form
  have hq5 := hq4.trans hext5
  replace hv3 := hv3.ext hext5
  replace hv4 := hv4.ext hext5
  replace hA := hA.ext hq5
  replace hB := hB.ext hq5
  replace hC := hC.ext hq5
  replace hwW := hwW.trans hq5
  clear hA4 hB4 p2 q2 hq3 hq4 hq5 hext3 hext4 hext5 hy1 hy2
  have p0 := hA.cell (i := 0) rfl
  have q0 := hB.cell (i := 0) rfl
  go_wp2_with fail
  refine (sub_any hv3 hv4 m1 m2 (by omega)).mono ?_
  rw [f2]
  rintro e w6 ⟨u6, rfl, hext6, hv6⟩
  obtain ⟨ao8, k8, c8, rfl⟩ := hv6.form
  go_wp2_with fail
  refine (sub_any (hv4.ext hext6) (hv3.ext hext6) m2 m1 (by omega)).mono ?_
  rintro e w7 ⟨u7, rfl, hext7, hv7⟩
  obtain ⟨ao9, k9, c9, rfl⟩ := hv7.form
  replace hC := hC.ext (hext6.trans hext7)
  replace hB := hB.ext (hext6.trans hext7)
  replace hv5 := hv5.ext (hext6.trans hext7)
  replace q0 := hB.cell (i := 0) rfl
  have s0 := hC.cell (i := 0) rfl
  have s1 := hC.cell (i := 1) rfl
  have s2 := hC.cell (i := 2) rfl
  have sz := hC.fz
  have sl := hC.lt
  go_wp2_with fail
  have hR := hC.set3 (a' := .bool n2) (b' := .slice ao9 k9 c9) (c' := .slice ao7 k7 c7)
  exact bodyPost_ret (v := .agg #[.bool n2, .slice ao9 k9 c9, .slice ao7 k7 c7]) (by simp [results, Oaig.results114, go_sem, hR.cell (i := 0) rfl, hR.cell (i := 1) rfl, hR.cell (i := 2) rfl]) rfl ⟨_, _, rfl, Ext.set3 (hwW.trans (hext6.trans hext7)) (by omega) _ _ _, hv7.set3 hC (by simp [NL]) (by simp [NL]), hv5.set3 hC (by simp [NL]) (by simp [NL])⟩

end Go.Proofs.Ygcoai
