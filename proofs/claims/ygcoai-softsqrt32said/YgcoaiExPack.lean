/-
  Seat gcoai. exact.pack (92).
-/
import Derived.Test.YgcoaiExRaised
namespace Go.Proofs.Ygcoai
open Go.RowKit

set_option maxRecDepth 20000 in
set_option maxHeartbeats 2000000 in
theorem pack_any (w : World) (neg s tiny : Bool) (h : Int) (e : Int) (E n : Nat) (hE : Hid (e = E - 126)) (hE2 : E ≤ 253) (hn : n ≤ 16777216) :
    Calls Oaig.prog 92 #[.agg #[.int .u8 8, .int .u8 23], .int .u8 0, .bool neg, .int .i64 e, .int .u64 n, .agg #[.int .i8 h, .bool s], .bool tiny] w fun r w' => ∃ fl : Int, r = .returned (.tuple #[.int .u64 (min 2139095040 (E * 8388608 + n) + sgn neg : Nat), .int .u8 fl]) ∧ Ext w w' := by
  obtain ⟨X, hX⟩ : ∃ X, X = E * 8388608 + n := ⟨_, rfl⟩
  have hXl : X < 2147483648 := by omega
  have e1 : IntKind.i64.wrap (e + 126) = (E : Int) := by rw [wrap_i64]; have := hE.out; omega
  have e2 : IntKind.u64.wrap (E : Int) = (E : Int) := by rw [IntKind.wrap_u64]; omega
  have e3 : IntKind.u64.wrap ((E : Int) * 2 ^ 23) = (E : Int) * 8388608 := by rw [IntKind.wrap_u64]; omega
  have e3' : IntKind.u64.wrap ((E : Int) * 8388608) = (E : Int) * 8388608 := by rw [IntKind.wrap_u64]; omega
  have e4 : IntKind.u64.wrap ((E : Int) * 8388608 + n) = (X : Int) := by rw [IntKind.wrap_u64]; omega
  have hf : Hid (E * 8388608 + n = X) := hX.symm
  have hor := or_sgn hXl neg
  clear hX
  go_enter Oaig.func92, Oaig.ntmps92
  go_wp2_with fail
  obtain ⟨W, hW⟩ : ∃ W, W = (w.alloc (.cells #[.int .u8 8, .int .u8 23] 25)).alloc (.cells #[.int .i8 h, .bool s] 114) := ⟨_, rfl⟩
  have hF : Blk W w.heap.size #[.int .u8 8, .int .u8 23] := by rw [hW]; exact Blk.two1 (Ext.refl _)
  have hR : Blk W (w.heap.size + 1) #[.int .i8 h, .bool s] := by rw [hW]; exact Blk.two2 (Ext.refl _)
  have hw : Ext w W := by rw [hW]; exact ((Ext.refl w).alloc _ _).alloc _ _
  have d0 : ∀ w', Ext W w' → w'.cell? ⟨w.heap.size, 0, none⟩ = some (.int .u8 8) := fun w' h => (hF.ext h).cell rfl
  have d1 : ∀ w', Ext W w' → w'.cell? ⟨w.heap.size, 1, none⟩ = some (.int .u8 23) := fun w' h => (hF.ext h).cell rfl
  rw [← hW]
  clear hW
  go_region_held3 (fun w' => Ext W w') ((focus ((repeat (first | with_reducible assumption | with_reducible exact Ext.refl _ | with_reducible refine Ext.drew ?_ | with_reducible refine Ext.alloc ?_ _ _ | with_reducible refine Ext.setCell ?_ ?_ _ | with_reducible exact Nat.le_refl _ | (dsimp only; omega) | (simp only [World.size_alloc]; omega))); done))) (first
    | (go_at_call 89; refine (emin_any _).mono ?_; rintro e w3 ⟨rfl, hext3⟩; have hq3 : Ext W w3 := Ext.trans (by (focus ((repeat (first | with_reducible assumption | with_reducible exact Ext.refl _ | with_reducible refine Ext.drew ?_ | with_reducible refine Ext.alloc ?_ _ _ | with_reducible refine Ext.setCell ?_ ?_ _ | with_reducible exact Nat.le_refl _ | (dsimp only; omega) | (simp only [World.size_alloc]; omega))); done))) hext3))
  have f0 := d0 _ hq3
  have f1 := d1 _ hq3
  have g0 := (hR.ext hq3).cell (i := 0) rfl
  have g1 := (hR.ext hq3).cell (i := 1) rfl
  clear d0 d1
  go_wp2_with fail
  refine (inf_false _).mono ?_
  rintro e w4 ⟨rfl, hext4⟩
  have hw4 := (hw.trans hq3).trans hext4
  replace f0 := hext4.cell f0
  replace f1 := hext4.cell f1
  replace g0 := hext4.cell g0
  replace g1 := hext4.cell g1
  clear hext4
  by_cases hov : 2139095040 ≤ X
  · have q1 : decide ((2139095040 : Int) ≤ (X : Int)) = true := decide_eq_true (by omega)
    have hval : Hid (min 2139095040 X = 2139095040) := by show min 2139095040 X = 2139095040; omega
    clear hov
    go_wp2_with fail
    refine (xoverflow_any _ neg).mono ?_
    rintro e w5 ⟨rfl, hext5⟩
    go_wp2
    go_ret2
    exact ⟨_, by rw [hf.out, hval.out]; rfl, hw4.trans hext5⟩
  · have q1 : decide ((2139095040 : Int) ≤ (X : Int)) = false := decide_eq_false (by omega)
    have hval : Hid (min 2139095040 X = X) := by show min 2139095040 X = X; omega
    clear hov
    cases s
    · go_wp2_with fail
      refine (xzero_any _ neg).mono ?_
      rintro e w5 ⟨rfl, hext5⟩
      go_wp2
      go_ret2
      exact ⟨_, by rw [hf.out, hval.out]; rfl, hw4.trans hext5⟩
    · cases tiny
      · go_wp2_with fail
        refine (xzero_any _ neg).mono ?_
        rintro e w5 ⟨rfl, hext5⟩
        go_wp2
        go_ret2
        exact ⟨_, by rw [hf.out, hval.out]; rfl, hw4.trans hext5⟩
      · go_wp2_with fail
        refine (xzero_any _ neg).mono ?_
        rintro e w5 ⟨rfl, hext5⟩
        go_wp2
        go_ret2
        exact ⟨_, by rw [hf.out, hval.out]; rfl, hw4.trans hext5⟩

end Go.Proofs.Ygcoai
