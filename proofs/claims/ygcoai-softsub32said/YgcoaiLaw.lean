/-
  Seat gcoai. law.softBin (24), law.exactBin (25), law.SoftBin (12) and the rungs at Binary32, NearestEven.
-/
import Derived.Test.YgcoaiTwo
import Derived.Test.YgcoaiIeee
import Derived.Deep.RegionHeld3
namespace Go.Proofs.Ygcoai
open Go.RowKit

/-- Two words: a function of this program answers this word at these operands, from every world. -/
def Ans (fn : Nat) (a b r : Nat) : Prop := ∀ w, Calls Oaig.prog fn #[.agg #[.int .u8 8, .int .u8 23], .int .u8 0, .int .u64 a, .int .u64 b] w fun e w' => e = .returned (.int .u64 r) ∧ Ext w w'

set_option maxHeartbeats 1000000 in
theorem softBin0 (w : World) (a b r : Nat) (hS : Ans 40 a b r) :
    Calls Oaig.prog 24 #[.agg #[.int .u8 8, .int .u8 23], .int .u8 0, .int .u8 0, .int .u64 a, .int .u64 b] w fun e w' => e = .returned (.int .u64 r) ∧ Ext w w' := by
  go_enter Oaig.func24, Oaig.ntmps24
  go_wp2_with fail
  refine Calls.mono (hS _) ?_
  rintro e w1 ⟨rfl, hext1⟩
  go_wp2
  go_ret
  exact ⟨rfl, hext1.of_alloc⟩

set_option maxHeartbeats 1000000 in
theorem exactBin0 (w : World) (a b r : Nat) (hS : Ans 44 a b r) :
    Calls Oaig.prog 25 #[.agg #[.int .u8 8, .int .u8 23], .int .u8 0, .int .u8 0, .int .u64 a, .int .u64 b] w fun e w' => e = .returned (.int .u64 r) ∧ Ext w w' := by
  go_enter Oaig.func25, Oaig.ntmps25
  go_wp2_with fail
  refine Calls.mono (hS _) ?_
  rintro e w1 ⟨rfl, hext1⟩
  go_wp2
  go_ret
  exact ⟨rfl, hext1.of_alloc⟩

set_option maxRecDepth 20000 in
set_option maxHeartbeats 2000000 in
theorem softLaw0 (w : World) (a b r : Nat) (hS : Ans 40 a b r) (hX : Ans 44 a b r) :
    Calls Oaig.prog 12 #[.agg #[.int .u8 8, .int .u8 23], .int .u8 0, .int .u8 0, .int .u64 a, .int .u64 b] w fun e w' => e = .returned (.bool true) ∧ Ext w w' := by
  go_enter Oaig.func12, Oaig.ntmps12
  go_wp2_with fail
  obtain ⟨W, hW⟩ : ∃ W, W = w.alloc (.cells #[.int .u8 8, .int .u8 23] 25) := ⟨_, rfl⟩
  have hF : Blk W w.heap.size #[.int .u8 8, .int .u8 23] := by rw [hW]; exact Blk.new _ _ _
  have hw : Ext w W := by rw [hW]; exact (Ext.refl w).alloc _ _
  have c0 : ∀ w', Ext W w' → w'.cell? ⟨w.heap.size, 0, none⟩ = some (.int .u8 8) := fun w' h => (hF.ext h).cell rfl
  have c1 : ∀ w', Ext W w' → w'.cell? ⟨w.heap.size, 1, none⟩ = some (.int .u8 23) := fun w' h => (hF.ext h).cell rfl
  rw [← hW]
  clear hW
  have hS' : Hid (Ans 40 a b r) := hS
  have hX' : Hid (Ans 44 a b r) := hX
  clear hS hX
  go_region_held3 (fun w' => Ext W w') ((focus ((repeat (first | with_reducible assumption | with_reducible exact Ext.refl _ | with_reducible refine Ext.drew ?_ | with_reducible refine Ext.alloc ?_ _ _ | with_reducible refine Ext.setCell ?_ ?_ _ | with_reducible exact Nat.le_refl _ | (dsimp only; omega) | (simp only [World.size_alloc]; omega))); done))) (first
    | (go_at_call 23; refine (ok_any _).mono ?_; rintro e w1 ⟨rfl, hext1⟩; have hq1 : Ext W w1 := Ext.trans (by (focus ((repeat (first | with_reducible assumption | with_reducible exact Ext.refl _ | with_reducible refine Ext.drew ?_ | with_reducible refine Ext.alloc ?_ _ _ | with_reducible refine Ext.setCell ?_ ?_ _ | with_reducible exact Nat.le_refl _ | (dsimp only; omega) | (simp only [World.size_alloc]; omega))); done))) hext1)
    | (go_at_call 24; refine (softBin0 _ a b r hS'.out).mono ?_; rintro e w2 ⟨rfl, hext2⟩; have hq2 : Ext W w2 := Ext.trans (by (focus ((repeat (first | with_reducible assumption | with_reducible exact Ext.refl _ | with_reducible refine Ext.drew ?_ | with_reducible refine Ext.alloc ?_ _ _ | with_reducible refine Ext.setCell ?_ ?_ _ | with_reducible exact Nat.le_refl _ | (dsimp only; omega) | (simp only [World.size_alloc]; omega))); done))) hext2)
    | (go_at_call 25; refine (exactBin0 _ a b r hX'.out).mono ?_; rintro e w3 ⟨rfl, hext3⟩; have hq3 : Ext W w3 := Ext.trans (by (focus ((repeat (first | with_reducible assumption | with_reducible exact Ext.refl _ | with_reducible refine Ext.drew ?_ | with_reducible refine Ext.alloc ?_ _ _ | with_reducible refine Ext.setCell ?_ ?_ _ | with_reducible exact Nat.le_refl _ | (dsimp only; omega) | (simp only [World.size_alloc]; omega))); done))) hext3))
  go_wp2
  go_ret
  exact ⟨by simp, hw.trans hq3⟩

set_option maxHeartbeats 1000000 in
theorem softBin1 (w : World) (a b r : Nat) (hS : Ans 41 a b r) :
    Calls Oaig.prog 24 #[.agg #[.int .u8 8, .int .u8 23], .int .u8 0, .int .u8 1, .int .u64 a, .int .u64 b] w fun e w' => e = .returned (.int .u64 r) ∧ Ext w w' := by
  go_enter Oaig.func24, Oaig.ntmps24
  go_wp2_with fail
  refine Calls.mono (hS _) ?_
  rintro e w1 ⟨rfl, hext1⟩
  go_wp2
  go_ret
  exact ⟨rfl, hext1.of_alloc⟩

set_option maxHeartbeats 1000000 in
theorem exactBin1 (w : World) (a b r : Nat) (hS : Ans 45 a b r) :
    Calls Oaig.prog 25 #[.agg #[.int .u8 8, .int .u8 23], .int .u8 0, .int .u8 1, .int .u64 a, .int .u64 b] w fun e w' => e = .returned (.int .u64 r) ∧ Ext w w' := by
  go_enter Oaig.func25, Oaig.ntmps25
  go_wp2_with fail
  refine Calls.mono (hS _) ?_
  rintro e w1 ⟨rfl, hext1⟩
  go_wp2
  go_ret
  exact ⟨rfl, hext1.of_alloc⟩

set_option maxRecDepth 20000 in
set_option maxHeartbeats 2000000 in
theorem softLaw1 (w : World) (a b r : Nat) (hS : Ans 41 a b r) (hX : Ans 45 a b r) :
    Calls Oaig.prog 12 #[.agg #[.int .u8 8, .int .u8 23], .int .u8 0, .int .u8 1, .int .u64 a, .int .u64 b] w fun e w' => e = .returned (.bool true) ∧ Ext w w' := by
  go_enter Oaig.func12, Oaig.ntmps12
  go_wp2_with fail
  obtain ⟨W, hW⟩ : ∃ W, W = w.alloc (.cells #[.int .u8 8, .int .u8 23] 25) := ⟨_, rfl⟩
  have hF : Blk W w.heap.size #[.int .u8 8, .int .u8 23] := by rw [hW]; exact Blk.new _ _ _
  have hw : Ext w W := by rw [hW]; exact (Ext.refl w).alloc _ _
  have c0 : ∀ w', Ext W w' → w'.cell? ⟨w.heap.size, 0, none⟩ = some (.int .u8 8) := fun w' h => (hF.ext h).cell rfl
  have c1 : ∀ w', Ext W w' → w'.cell? ⟨w.heap.size, 1, none⟩ = some (.int .u8 23) := fun w' h => (hF.ext h).cell rfl
  rw [← hW]
  clear hW
  have hS' : Hid (Ans 41 a b r) := hS
  have hX' : Hid (Ans 45 a b r) := hX
  clear hS hX
  go_region_held3 (fun w' => Ext W w') ((focus ((repeat (first | with_reducible assumption | with_reducible exact Ext.refl _ | with_reducible refine Ext.drew ?_ | with_reducible refine Ext.alloc ?_ _ _ | with_reducible refine Ext.setCell ?_ ?_ _ | with_reducible exact Nat.le_refl _ | (dsimp only; omega) | (simp only [World.size_alloc]; omega))); done))) (first
    | (go_at_call 23; refine (ok_any _).mono ?_; rintro e w1 ⟨rfl, hext1⟩; have hq1 : Ext W w1 := Ext.trans (by (focus ((repeat (first | with_reducible assumption | with_reducible exact Ext.refl _ | with_reducible refine Ext.drew ?_ | with_reducible refine Ext.alloc ?_ _ _ | with_reducible refine Ext.setCell ?_ ?_ _ | with_reducible exact Nat.le_refl _ | (dsimp only; omega) | (simp only [World.size_alloc]; omega))); done))) hext1)
    | (go_at_call 24; refine (softBin1 _ a b r hS'.out).mono ?_; rintro e w2 ⟨rfl, hext2⟩; have hq2 : Ext W w2 := Ext.trans (by (focus ((repeat (first | with_reducible assumption | with_reducible exact Ext.refl _ | with_reducible refine Ext.drew ?_ | with_reducible refine Ext.alloc ?_ _ _ | with_reducible refine Ext.setCell ?_ ?_ _ | with_reducible exact Nat.le_refl _ | (dsimp only; omega) | (simp only [World.size_alloc]; omega))); done))) hext2)
    | (go_at_call 25; refine (exactBin1 _ a b r hX'.out).mono ?_; rintro e w3 ⟨rfl, hext3⟩; have hq3 : Ext W w3 := Ext.trans (by (focus ((repeat (first | with_reducible assumption | with_reducible exact Ext.refl _ | with_reducible refine Ext.drew ?_ | with_reducible refine Ext.alloc ?_ _ _ | with_reducible refine Ext.setCell ?_ ?_ _ | with_reducible exact Nat.le_refl _ | (dsimp only; omega) | (simp only [World.size_alloc]; omega))); done))) hext3))
  go_wp2
  go_ret
  exact ⟨by simp, hw.trans hq3⟩

set_option maxHeartbeats 1000000 in
theorem softBin2 (w : World) (a b r : Nat) (hS : Ans 42 a b r) :
    Calls Oaig.prog 24 #[.agg #[.int .u8 8, .int .u8 23], .int .u8 0, .int .u8 2, .int .u64 a, .int .u64 b] w fun e w' => e = .returned (.int .u64 r) ∧ Ext w w' := by
  go_enter Oaig.func24, Oaig.ntmps24
  go_wp2_with fail
  refine Calls.mono (hS _) ?_
  rintro e w1 ⟨rfl, hext1⟩
  go_wp2
  go_ret
  exact ⟨rfl, hext1.of_alloc⟩

set_option maxHeartbeats 1000000 in
theorem exactBin2 (w : World) (a b r : Nat) (hS : Ans 46 a b r) :
    Calls Oaig.prog 25 #[.agg #[.int .u8 8, .int .u8 23], .int .u8 0, .int .u8 2, .int .u64 a, .int .u64 b] w fun e w' => e = .returned (.int .u64 r) ∧ Ext w w' := by
  go_enter Oaig.func25, Oaig.ntmps25
  go_wp2_with fail
  refine Calls.mono (hS _) ?_
  rintro e w1 ⟨rfl, hext1⟩
  go_wp2
  go_ret
  exact ⟨rfl, hext1.of_alloc⟩

set_option maxRecDepth 20000 in
set_option maxHeartbeats 2000000 in
theorem softLaw2 (w : World) (a b r : Nat) (hS : Ans 42 a b r) (hX : Ans 46 a b r) :
    Calls Oaig.prog 12 #[.agg #[.int .u8 8, .int .u8 23], .int .u8 0, .int .u8 2, .int .u64 a, .int .u64 b] w fun e w' => e = .returned (.bool true) ∧ Ext w w' := by
  go_enter Oaig.func12, Oaig.ntmps12
  go_wp2_with fail
  obtain ⟨W, hW⟩ : ∃ W, W = w.alloc (.cells #[.int .u8 8, .int .u8 23] 25) := ⟨_, rfl⟩
  have hF : Blk W w.heap.size #[.int .u8 8, .int .u8 23] := by rw [hW]; exact Blk.new _ _ _
  have hw : Ext w W := by rw [hW]; exact (Ext.refl w).alloc _ _
  have c0 : ∀ w', Ext W w' → w'.cell? ⟨w.heap.size, 0, none⟩ = some (.int .u8 8) := fun w' h => (hF.ext h).cell rfl
  have c1 : ∀ w', Ext W w' → w'.cell? ⟨w.heap.size, 1, none⟩ = some (.int .u8 23) := fun w' h => (hF.ext h).cell rfl
  rw [← hW]
  clear hW
  have hS' : Hid (Ans 42 a b r) := hS
  have hX' : Hid (Ans 46 a b r) := hX
  clear hS hX
  go_region_held3 (fun w' => Ext W w') ((focus ((repeat (first | with_reducible assumption | with_reducible exact Ext.refl _ | with_reducible refine Ext.drew ?_ | with_reducible refine Ext.alloc ?_ _ _ | with_reducible refine Ext.setCell ?_ ?_ _ | with_reducible exact Nat.le_refl _ | (dsimp only; omega) | (simp only [World.size_alloc]; omega))); done))) (first
    | (go_at_call 23; refine (ok_any _).mono ?_; rintro e w1 ⟨rfl, hext1⟩; have hq1 : Ext W w1 := Ext.trans (by (focus ((repeat (first | with_reducible assumption | with_reducible exact Ext.refl _ | with_reducible refine Ext.drew ?_ | with_reducible refine Ext.alloc ?_ _ _ | with_reducible refine Ext.setCell ?_ ?_ _ | with_reducible exact Nat.le_refl _ | (dsimp only; omega) | (simp only [World.size_alloc]; omega))); done))) hext1)
    | (go_at_call 24; refine (softBin2 _ a b r hS'.out).mono ?_; rintro e w2 ⟨rfl, hext2⟩; have hq2 : Ext W w2 := Ext.trans (by (focus ((repeat (first | with_reducible assumption | with_reducible exact Ext.refl _ | with_reducible refine Ext.drew ?_ | with_reducible refine Ext.alloc ?_ _ _ | with_reducible refine Ext.setCell ?_ ?_ _ | with_reducible exact Nat.le_refl _ | (dsimp only; omega) | (simp only [World.size_alloc]; omega))); done))) hext2)
    | (go_at_call 25; refine (exactBin2 _ a b r hX'.out).mono ?_; rintro e w3 ⟨rfl, hext3⟩; have hq3 : Ext W w3 := Ext.trans (by (focus ((repeat (first | with_reducible assumption | with_reducible exact Ext.refl _ | with_reducible refine Ext.drew ?_ | with_reducible refine Ext.alloc ?_ _ _ | with_reducible refine Ext.setCell ?_ ?_ _ | with_reducible exact Nat.le_refl _ | (dsimp only; omega) | (simp only [World.size_alloc]; omega))); done))) hext3))
  go_wp2
  go_ret
  exact ⟨by simp, hw.trans hq3⟩

set_option maxHeartbeats 1000000 in
theorem softBin3 (w : World) (a b r : Nat) (hS : Ans 43 a b r) :
    Calls Oaig.prog 24 #[.agg #[.int .u8 8, .int .u8 23], .int .u8 0, .int .u8 3, .int .u64 a, .int .u64 b] w fun e w' => e = .returned (.int .u64 r) ∧ Ext w w' := by
  go_enter Oaig.func24, Oaig.ntmps24
  go_wp2_with fail
  refine Calls.mono (hS _) ?_
  rintro e w1 ⟨rfl, hext1⟩
  go_wp2
  go_ret
  exact ⟨rfl, hext1.of_alloc⟩

set_option maxHeartbeats 1000000 in
theorem exactBin3 (w : World) (a b r : Nat) (hS : Ans 47 a b r) :
    Calls Oaig.prog 25 #[.agg #[.int .u8 8, .int .u8 23], .int .u8 0, .int .u8 3, .int .u64 a, .int .u64 b] w fun e w' => e = .returned (.int .u64 r) ∧ Ext w w' := by
  go_enter Oaig.func25, Oaig.ntmps25
  go_wp2_with fail
  refine Calls.mono (hS _) ?_
  rintro e w1 ⟨rfl, hext1⟩
  go_wp2
  go_ret
  exact ⟨rfl, hext1.of_alloc⟩

set_option maxRecDepth 20000 in
set_option maxHeartbeats 2000000 in
theorem softLaw3 (w : World) (a b r : Nat) (hS : Ans 43 a b r) (hX : Ans 47 a b r) :
    Calls Oaig.prog 12 #[.agg #[.int .u8 8, .int .u8 23], .int .u8 0, .int .u8 3, .int .u64 a, .int .u64 b] w fun e w' => e = .returned (.bool true) ∧ Ext w w' := by
  go_enter Oaig.func12, Oaig.ntmps12
  go_wp2_with fail
  obtain ⟨W, hW⟩ : ∃ W, W = w.alloc (.cells #[.int .u8 8, .int .u8 23] 25) := ⟨_, rfl⟩
  have hF : Blk W w.heap.size #[.int .u8 8, .int .u8 23] := by rw [hW]; exact Blk.new _ _ _
  have hw : Ext w W := by rw [hW]; exact (Ext.refl w).alloc _ _
  have c0 : ∀ w', Ext W w' → w'.cell? ⟨w.heap.size, 0, none⟩ = some (.int .u8 8) := fun w' h => (hF.ext h).cell rfl
  have c1 : ∀ w', Ext W w' → w'.cell? ⟨w.heap.size, 1, none⟩ = some (.int .u8 23) := fun w' h => (hF.ext h).cell rfl
  rw [← hW]
  clear hW
  have hS' : Hid (Ans 43 a b r) := hS
  have hX' : Hid (Ans 47 a b r) := hX
  clear hS hX
  go_region_held3 (fun w' => Ext W w') ((focus ((repeat (first | with_reducible assumption | with_reducible exact Ext.refl _ | with_reducible refine Ext.drew ?_ | with_reducible refine Ext.alloc ?_ _ _ | with_reducible refine Ext.setCell ?_ ?_ _ | with_reducible exact Nat.le_refl _ | (dsimp only; omega) | (simp only [World.size_alloc]; omega))); done))) (first
    | (go_at_call 23; refine (ok_any _).mono ?_; rintro e w1 ⟨rfl, hext1⟩; have hq1 : Ext W w1 := Ext.trans (by (focus ((repeat (first | with_reducible assumption | with_reducible exact Ext.refl _ | with_reducible refine Ext.drew ?_ | with_reducible refine Ext.alloc ?_ _ _ | with_reducible refine Ext.setCell ?_ ?_ _ | with_reducible exact Nat.le_refl _ | (dsimp only; omega) | (simp only [World.size_alloc]; omega))); done))) hext1)
    | (go_at_call 24; refine (softBin3 _ a b r hS'.out).mono ?_; rintro e w2 ⟨rfl, hext2⟩; have hq2 : Ext W w2 := Ext.trans (by (focus ((repeat (first | with_reducible assumption | with_reducible exact Ext.refl _ | with_reducible refine Ext.drew ?_ | with_reducible refine Ext.alloc ?_ _ _ | with_reducible refine Ext.setCell ?_ ?_ _ | with_reducible exact Nat.le_refl _ | (dsimp only; omega) | (simp only [World.size_alloc]; omega))); done))) hext2)
    | (go_at_call 25; refine (exactBin3 _ a b r hX'.out).mono ?_; rintro e w3 ⟨rfl, hext3⟩; have hq3 : Ext W w3 := Ext.trans (by (focus ((repeat (first | with_reducible assumption | with_reducible exact Ext.refl _ | with_reducible refine Ext.drew ?_ | with_reducible refine Ext.alloc ?_ _ _ | with_reducible refine Ext.setCell ?_ ?_ _ | with_reducible exact Nat.le_refl _ | (dsimp only; omega) | (simp only [World.size_alloc]; omega))); done))) hext3))
  go_wp2
  go_ret
  exact ⟨by simp, hw.trans hq3⟩

set_option maxHeartbeats 1000000 in
theorem rungAdd (w : World) (a b r : Nat) (ha : a < 4294967296) (hb : b < 4294967296) (hS : Ans 40 a b r) (hX : Ans 44 a b r) :
    Calls Oaig.prog 3 #[.int .u32 a, .int .u32 b] w fun e w' => e = .returned (.bool true) ∧ Ext w w' := by
  go_enter Oaig.func3, Oaig.ntmps3
  go_wp2_with fail
  refine (binary32_any _).mono ?_
  rintro e w1 ⟨rfl, hext1⟩
  go_wp2_with fail
  refine (softLaw0 _ a b r hS hX).mono ?_
  rintro e w2 ⟨rfl, hext2⟩
  go_wp2
  go_ret
  exact ⟨rfl, hext1.trans hext2⟩

set_option maxHeartbeats 1000000 in
theorem rungSub (w : World) (a b r : Nat) (ha : a < 4294967296) (hb : b < 4294967296) (hS : Ans 41 a b r) (hX : Ans 45 a b r) :
    Calls Oaig.prog 4 #[.int .u32 a, .int .u32 b] w fun e w' => e = .returned (.bool true) ∧ Ext w w' := by
  go_enter Oaig.func4, Oaig.ntmps4
  go_wp2_with fail
  refine (binary32_any _).mono ?_
  rintro e w1 ⟨rfl, hext1⟩
  go_wp2_with fail
  refine (softLaw1 _ a b r hS hX).mono ?_
  rintro e w2 ⟨rfl, hext2⟩
  go_wp2
  go_ret
  exact ⟨rfl, hext1.trans hext2⟩

set_option maxHeartbeats 1000000 in
theorem rungMul (w : World) (a b r : Nat) (ha : a < 4294967296) (hb : b < 4294967296) (hS : Ans 42 a b r) (hX : Ans 46 a b r) :
    Calls Oaig.prog 5 #[.int .u32 a, .int .u32 b] w fun e w' => e = .returned (.bool true) ∧ Ext w w' := by
  go_enter Oaig.func5, Oaig.ntmps5
  go_wp2_with fail
  refine (binary32_any _).mono ?_
  rintro e w1 ⟨rfl, hext1⟩
  go_wp2_with fail
  refine (softLaw2 _ a b r hS hX).mono ?_
  rintro e w2 ⟨rfl, hext2⟩
  go_wp2
  go_ret
  exact ⟨rfl, hext1.trans hext2⟩

set_option maxHeartbeats 1000000 in
theorem rungDiv (w : World) (a b r : Nat) (ha : a < 4294967296) (hb : b < 4294967296) (hS : Ans 43 a b r) (hX : Ans 47 a b r) :
    Calls Oaig.prog 6 #[.int .u32 a, .int .u32 b] w fun e w' => e = .returned (.bool true) ∧ Ext w w' := by
  go_enter Oaig.func6, Oaig.ntmps6
  go_wp2_with fail
  refine (binary32_any _).mono ?_
  rintro e w1 ⟨rfl, hext1⟩
  go_wp2_with fail
  refine (softLaw3 _ a b r hS hX).mono ?_
  rintro e w2 ⟨rfl, hext2⟩
  go_wp2
  go_ret
  exact ⟨rfl, hext1.trans hext2⟩

end Go.Proofs.Ygcoai
