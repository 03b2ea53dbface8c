/-
  Seat gcoai. soft.addFinite (110) at Binary32, NearestEven.
-/
import Derived.Test.YgcoaiSumE
import Derived.Deep.RegionHeld3
namespace Go.Proofs.Ygcoai
open Go.RowKit

/-- Parts in a slot. -/
abbrev parts (n : Bool) (c x : Int) (m : Nat) : Value := .agg #[.bool n, .int .i8 c, .int .i16 x, .int .u64 (m : Nat)]

set_option maxRecDepth 20000 in
set_option maxHeartbeats 4000000 in
theorem addFin_zz (w : World) (na nb : Bool) (xa xb : Int) (ma mb : Nat) :
    Calls Oaig.prog 110 #[.agg #[.int .u8 8, .int .u8 23], .int .u8 0, parts na 0 xa ma, parts nb 0 xb mb] w fun e w' => ∃ fl : Int, e = .returned (.tuple #[.int .u64 (sgn (na && nb) : Nat), .int .u8 fl]) ∧ Ext w w' := by
  cases na <;> cases nb
  all_goals (
    go_enter Oaig.func110, Oaig.ntmps110
    go_wp2_with fail
    refine (zero_any _ _).mono ?_
    rintro e w1 ⟨rfl, hext1⟩
    go_wp2
    go_ret2
    exact ⟨_, rfl, Ext.trans (by (focus ((repeat (first | with_reducible assumption | with_reducible exact Ext.refl _ | with_reducible refine Ext.drew ?_ | with_reducible refine Ext.alloc ?_ _ _ | with_reducible refine Ext.setCell ?_ ?_ _ | with_reducible exact Nat.le_refl _ | (dsimp only; omega) | (simp only [World.size_alloc]; omega))); done))) hext1⟩)

set_option maxRecDepth 20000 in
set_option maxHeartbeats 4000000 in
theorem addFin_zf (w : World) (na nb : Bool) (cb xa xb : Int) (ma mb : Nat) (hc : cb = 1 ∨ cb = 2) (b1 : 8388608 ≤ mb) (b2 : mb < 16777216) (b3 : -172 ≤ xb) (b4 : xb ≤ 104) :
    Calls Oaig.prog 110 #[.agg #[.int .u8 8, .int .u8 23], .int .u8 0, parts na 0 xa ma, parts nb cb xb mb] w fun e w' => ∃ fl : Int, e = .returned (.tuple #[.int .u64 (rp xb mb + sgn nb : Nat), .int .u8 fl]) ∧ Ext w w' := by
  have g1 : (cb == 0) = false := by rw [beq_eq_false_iff_ne]; omega
  clear hc
  go_enter Oaig.func110, Oaig.ntmps110
  go_wp2_with fail
  refine (roundPack_any _ nb xb mb (by omega) (by omega) (by omega) (by omega)).mono ?_
  rintro e w1 ⟨fl, rfl, hext1⟩
  go_wp2
  go_ret2
  exact ⟨_, rfl, Ext.trans (by (focus ((repeat (first | with_reducible assumption | with_reducible exact Ext.refl _ | with_reducible refine Ext.drew ?_ | with_reducible refine Ext.alloc ?_ _ _ | with_reducible refine Ext.setCell ?_ ?_ _ | with_reducible exact Nat.le_refl _ | (dsimp only; omega) | (simp only [World.size_alloc]; omega))); done))) hext1⟩

set_option maxRecDepth 20000 in
set_option maxHeartbeats 4000000 in
theorem addFin_fz (w : World) (na nb : Bool) (ca xa xb : Int) (ma mb : Nat) (hc : ca = 1 ∨ ca = 2) (b1 : 8388608 ≤ ma) (b2 : ma < 16777216) (b3 : -172 ≤ xa) (b4 : xa ≤ 104) :
    Calls Oaig.prog 110 #[.agg #[.int .u8 8, .int .u8 23], .int .u8 0, parts na ca xa ma, parts nb 0 xb mb] w fun e w' => ∃ fl : Int, e = .returned (.tuple #[.int .u64 (rp xa ma + sgn na : Nat), .int .u8 fl]) ∧ Ext w w' := by
  have g1 : (ca == 0) = false := by rw [beq_eq_false_iff_ne]; omega
  clear hc
  go_enter Oaig.func110, Oaig.ntmps110
  go_wp2_with fail
  refine (roundPack_any _ na xa ma (by omega) (by omega) (by omega) (by omega)).mono ?_
  rintro e w1 ⟨fl, rfl, hext1⟩
  go_wp2
  go_ret2
  exact ⟨_, rfl, Ext.trans (by (focus ((repeat (first | with_reducible assumption | with_reducible exact Ext.refl _ | with_reducible refine Ext.drew ?_ | with_reducible refine Ext.alloc ?_ _ _ | with_reducible refine Ext.setCell ?_ ?_ _ | with_reducible exact Nat.le_refl _ | (dsimp only; omega) | (simp only [World.size_alloc]; omega))); done))) hext1⟩

set_option maxRecDepth 20000 in
set_option maxHeartbeats 4000000 in
theorem addFin_ff (w : World) (na nb : Bool) (ca cb xa xb : Int) (ma mb : Nat) (ha : ca = 1 ∨ ca = 2) (hb : cb = 1 ∨ cb = 2) (a1 : 8388608 ≤ ma) (a2 : ma < 16777216) (a3 : -172 ≤ xa) (a4 : xa ≤ 104) (b1 : 8388608 ≤ mb) (b2 : mb < 16777216) (b3 : -172 ≤ xb) (b4 : xb ≤ 104) :
    Calls Oaig.prog 110 #[.agg #[.int .u8 8, .int .u8 23], .int .u8 0, parts na ca xa ma, parts nb cb xb mb] w fun e w' => ∃ fl : Int, e = .returned (.tuple #[.int .u64 (sumPat na xa ma nb xb mb : Nat), .int .u8 fl]) ∧ Ext w w' := by
  have g1 : (ca == 0) = false := by rw [beq_eq_false_iff_ne]; omega
  have g2 : (cb == 0) = false := by rw [beq_eq_false_iff_ne]; omega
  have hSum := fun w => sum_any w na nb xa xb ma mb a1 a2 a3 a4 b1 b2 b3 b4
  have hNa := fun w => numberOf_any w na ca xa ma a2 (by omega) (by omega)
  have hNb := fun w => numberOf_any w nb cb xb mb b2 (by omega) (by omega)
  obtain ⟨P, hP⟩ : ∃ P, P = sumPat na xa ma nb xb mb := ⟨_, rfl⟩
  obtain ⟨ya, hya⟩ : ∃ y, y = xa - 103 := ⟨_, rfl⟩
  obtain ⟨yb, hyb⟩ : ∃ y, y = xb - 103 := ⟨_, rfl⟩
  obtain ⟨qa, hqa⟩ : ∃ q, q = ma * 549755813888 := ⟨_, rfl⟩
  obtain ⟨qb, hqb⟩ : ∃ q, q = mb * 549755813888 := ⟨_, rfl⟩
  rw [← hP, ← hya, ← hyb, ← hqa, ← hqb] at hSum
  rw [← hya, ← hqa] at hNa
  rw [← hyb, ← hqb] at hNb
  rw [← hP]
  clear hP hya hyb hqa hqb ha hb a1 a2 a3 a4 b1 b2 b3 b4
  replace hSum : Hid _ := hSum
  replace hNa : Hid _ := hNa
  replace hNb : Hid _ := hNb
  go_enter Oaig.func110, Oaig.ntmps110
  go_wp2_with fail
  obtain ⟨W, hW⟩ : ∃ W, W = (((w.alloc (.cells #[.int .u8 8, .int .u8 23] 25)).alloc (.cells #[.bool na, .int .i8 ca, .int .i16 xa, .int .u64 (ma : Int)] 98)).alloc (.cells #[.bool nb, .int .i8 cb, .int .i16 xb, .int .u64 (mb : Int)] 98)) := ⟨_, rfl⟩
  have hF : Blk W w.heap.size #[.int .u8 8, .int .u8 23] := by rw [hW]; (focus ((repeat (first | with_reducible assumption | with_reducible exact Blk.new _ _ _ | with_reducible exact Blk.new' _ _ (by simp) | with_reducible refine Blk.alloc ?_ _ _ | with_reducible refine Blk.set4 (a := .bool false) (b := .int .i8 0) (c := .int .i16 0) (d := .int .u64 0) ?_ | with_reducible refine Blk.setOther4 ?_ ?_ | with_reducible refine Blk.setOther ?_ ?_ _ | with_reducible refine Blk.drew ?_ | (apply Ne.symm; with_reducible assumption) | omega)); done))
  have hA : Blk W (w.heap.size + 1) #[.bool na, .int .i8 ca, .int .i16 xa, .int .u64 (ma : Int)] := by rw [hW]; (focus ((repeat (first | with_reducible assumption | with_reducible exact Blk.new _ _ _ | with_reducible exact Blk.new' _ _ (by simp) | with_reducible refine Blk.alloc ?_ _ _ | with_reducible refine Blk.set4 (a := .bool false) (b := .int .i8 0) (c := .int .i16 0) (d := .int .u64 0) ?_ | with_reducible refine Blk.setOther4 ?_ ?_ | with_reducible refine Blk.setOther ?_ ?_ _ | with_reducible refine Blk.drew ?_ | (apply Ne.symm; with_reducible assumption) | omega)); done))
  have hB : Blk W (w.heap.size + 1 + 1) #[.bool nb, .int .i8 cb, .int .i16 xb, .int .u64 (mb : Int)] := by rw [hW]; (focus ((repeat (first | with_reducible assumption | with_reducible exact Blk.new _ _ _ | with_reducible exact Blk.new' _ _ (by simp) | with_reducible refine Blk.alloc ?_ _ _ | with_reducible refine Blk.set4 (a := .bool false) (b := .int .i8 0) (c := .int .i16 0) (d := .int .u64 0) ?_ | with_reducible refine Blk.setOther4 ?_ ?_ | with_reducible refine Blk.setOther ?_ ?_ _ | with_reducible refine Blk.drew ?_ | (apply Ne.symm; with_reducible assumption) | omega)); done))
  have hwW : Ext w W := by rw [hW]; (focus ((repeat (first | with_reducible assumption | with_reducible exact Ext.refl _ | with_reducible refine Ext.drew ?_ | with_reducible refine Ext.alloc ?_ _ _ | with_reducible refine Ext.setCell ?_ ?_ _ | with_reducible exact Nat.le_refl _ | (dsimp only; omega) | (simp only [World.size_alloc]; omega))); done))
  rw [← hW]
  clear hW
  have f0 : ∀ w', Ext W w' → w'.cell? ⟨w.heap.size, 0, none⟩ = some (.int .u8 8) := fun w' h => (hF.ext h).cell rfl
  have f1 : ∀ w', Ext W w' → w'.cell? ⟨w.heap.size, 1, none⟩ = some (.int .u8 23) := fun w' h => (hF.ext h).cell rfl
  have p0 : ∀ w', Ext W w' → w'.cell? ⟨w.heap.size + 1, 0, none⟩ = some (.bool na) := fun w' h => (hA.ext h).cell rfl
  have p1 : ∀ w', Ext W w' → w'.cell? ⟨w.heap.size + 1, 1, none⟩ = some (.int .i8 ca) := fun w' h => (hA.ext h).cell rfl
  have p2 : ∀ w', Ext W w' → w'.cell? ⟨w.heap.size + 1, 2, none⟩ = some (.int .i16 xa) := fun w' h => (hA.ext h).cell rfl
  have p3 : ∀ w', Ext W w' → w'.cell? ⟨w.heap.size + 1, 3, none⟩ = some (.int .u64 (ma : Int)) := fun w' h => (hA.ext h).cell rfl
  have q0 : ∀ w', Ext W w' → w'.cell? ⟨w.heap.size + 1 + 1, 0, none⟩ = some (.bool nb) := fun w' h => (hB.ext h).cell rfl
  have q1 : ∀ w', Ext W w' → w'.cell? ⟨w.heap.size + 1 + 1, 1, none⟩ = some (.int .i8 cb) := fun w' h => (hB.ext h).cell rfl
  have q2 : ∀ w', Ext W w' → w'.cell? ⟨w.heap.size + 1 + 1, 2, none⟩ = some (.int .i16 xb) := fun w' h => (hB.ext h).cell rfl
  have q3 : ∀ w', Ext W w' → w'.cell? ⟨w.heap.size + 1 + 1, 3, none⟩ = some (.int .u64 (mb : Int)) := fun w' h => (hB.ext h).cell rfl
  clear hF hA hB
  go_region_held3 (fun w' => Ext W w') ((focus ((repeat (first | with_reducible assumption | with_reducible exact Ext.refl _ | with_reducible refine Ext.drew ?_ | with_reducible refine Ext.alloc ?_ _ _ | with_reducible refine Ext.setCell ?_ ?_ _ | with_reducible exact Nat.le_refl _ | (dsimp only; omega) | (simp only [World.size_alloc]; omega))); done))) (first
    | (go_at_call_of 155 (Value.agg #[.bool na, .int .i8 ca, .int .i16 xa, .int .u64 (ma : Int)]); refine Calls.mono (hNa.out _) ?_; rintro e w3 ⟨rfl, hext3⟩; have hq3 : Ext W w3 := Ext.trans (by (focus ((repeat (first | with_reducible assumption | with_reducible exact Ext.refl _ | with_reducible refine Ext.drew ?_ | with_reducible refine Ext.alloc ?_ _ _ | with_reducible refine Ext.setCell ?_ ?_ _ | with_reducible exact Nat.le_refl _ | (dsimp only; omega) | (simp only [World.size_alloc]; omega))); done))) hext3)
    | (go_at_call_of 155 (Value.agg #[.bool nb, .int .i8 cb, .int .i16 xb, .int .u64 (mb : Int)]); refine Calls.mono (hNb.out _) ?_; rintro e w4 ⟨rfl, hext4⟩; have hq4 : Ext W w4 := Ext.trans (by (focus ((repeat (first | with_reducible assumption | with_reducible exact Ext.refl _ | with_reducible refine Ext.drew ?_ | with_reducible refine Ext.alloc ?_ _ _ | with_reducible refine Ext.setCell ?_ ?_ _ | with_reducible exact Nat.le_refl _ | (dsimp only; omega) | (simp only [World.size_alloc]; omega))); done))) hext4)
    | (go_at_call 154; refine Calls.mono (hSum.out _) ?_; rintro e w5 ⟨fl, rfl, hext5⟩; have hq5 : Ext W w5 := Ext.trans (by (focus ((repeat (first | with_reducible assumption | with_reducible exact Ext.refl _ | with_reducible refine Ext.drew ?_ | with_reducible refine Ext.alloc ?_ _ _ | with_reducible refine Ext.setCell ?_ ?_ _ | with_reducible exact Nat.le_refl _ | (dsimp only; omega) | (simp only [World.size_alloc]; omega))); done))) hext5))
  all_goals (
    go_wp2
    go_ret2
    exact ⟨_, rfl, hwW.trans hq5⟩)

end Go.Proofs.Ygcoai
