/-
  Seat gcoai. wide.Cmp (124), wide.Add (101), wide.Sub (175), wide.Shr (83), wide.ShrJam (174).
-/
import Derived.Test.YgcoaiJam
import Derived.Test.YgcoaiTwo
import Derived.Test.YgcoaiCmp
import Derived.Deep.RegionHeld3
namespace Go.Proofs.Ygcoai
open Go.RowKit

set_option maxRecDepth 20000 in
set_option maxHeartbeats 2000000 in
theorem wcmp_lt (w : World) (h1 l1 h2 l2 : Nat) (h : h1 < h2) :
    Calls Oaig.prog 124 #[u128 h1 l1, u128 h2 l2] w fun e w' => e = .returned (.int .i8 (-1)) ∧ Ext w w' := by
  have f1 : decide (h1 < h2) = true := decide_eq_true h
  clear h
  go_enter Oaig.func124, Oaig.ntmps124
  go_wp2
  go_ret
  exact ⟨rfl, by (focus ((repeat (first | with_reducible assumption | with_reducible exact Ext.refl _ | with_reducible refine Ext.drew ?_ | with_reducible refine Ext.alloc ?_ _ _ | with_reducible refine Ext.setCell ?_ ?_ _ | with_reducible exact Nat.le_refl _ | (dsimp only; omega) | (simp only [World.size_alloc]; omega))); done))⟩

set_option maxRecDepth 20000 in
set_option maxHeartbeats 2000000 in
theorem wcmp_gt (w : World) (h1 l1 h2 l2 : Nat) (h : h2 < h1) :
    Calls Oaig.prog 124 #[u128 h1 l1, u128 h2 l2] w fun e w' => e = .returned (.int .i8 1) ∧ Ext w w' := by
  have f1 : decide (h1 < h2) = false := decide_eq_false (by omega)
  have f2 : ((h1 : Int) == (h2 : Int)) = false := by rw [beq_eq_false_iff_ne]; omega
  clear h
  go_enter Oaig.func124, Oaig.ntmps124
  go_wp2
  go_ret
  exact ⟨rfl, by (focus ((repeat (first | with_reducible assumption | with_reducible exact Ext.refl _ | with_reducible refine Ext.drew ?_ | with_reducible refine Ext.alloc ?_ _ _ | with_reducible refine Ext.setCell ?_ ?_ _ | with_reducible exact Nat.le_refl _ | (dsimp only; omega) | (simp only [World.size_alloc]; omega))); done))⟩

set_option maxRecDepth 20000 in
set_option maxHeartbeats 2000000 in
theorem wcmp_lt2 (w : World) (h1 l1 l2 : Nat) (h : l1 < l2) :
    Calls Oaig.prog 124 #[u128 h1 l1, u128 h1 l2] w fun e w' => e = .returned (.int .i8 (-1)) ∧ Ext w w' := by
  have f1 : decide (l1 < l2) = true := decide_eq_true h
  clear h
  go_enter Oaig.func124, Oaig.ntmps124
  go_wp2
  go_ret
  exact ⟨rfl, by (focus ((repeat (first | with_reducible assumption | with_reducible exact Ext.refl _ | with_reducible refine Ext.drew ?_ | with_reducible refine Ext.alloc ?_ _ _ | with_reducible refine Ext.setCell ?_ ?_ _ | with_reducible exact Nat.le_refl _ | (dsimp only; omega) | (simp only [World.size_alloc]; omega))); done))⟩

set_option maxRecDepth 20000 in
set_option maxHeartbeats 2000000 in
theorem wcmp_gt2 (w : World) (h1 l1 l2 : Nat) (h : l2 < l1) :
    Calls Oaig.prog 124 #[u128 h1 l1, u128 h1 l2] w fun e w' => e = .returned (.int .i8 1) ∧ Ext w w' := by
  have f1 : decide (l1 < l2) = false := decide_eq_false (by omega)
  have f2 : ((l1 : Int) == (l2 : Int)) = false := by rw [beq_eq_false_iff_ne]; omega
  clear h
  go_enter Oaig.func124, Oaig.ntmps124
  go_wp2
  go_ret
  exact ⟨rfl, by (focus ((repeat (first | with_reducible assumption | with_reducible exact Ext.refl _ | with_reducible refine Ext.drew ?_ | with_reducible refine Ext.alloc ?_ _ _ | with_reducible refine Ext.setCell ?_ ?_ _ | with_reducible exact Nat.le_refl _ | (dsimp only; omega) | (simp only [World.size_alloc]; omega))); done))⟩

set_option maxRecDepth 20000 in
set_option maxHeartbeats 2000000 in
theorem wcmp_eq (w : World) (h1 l1 : Nat) :
    Calls Oaig.prog 124 #[u128 h1 l1, u128 h1 l1] w fun e w' => e = .returned (.int .i8 0) ∧ Ext w w' := by
  go_enter Oaig.func124, Oaig.ntmps124
  go_wp2
  go_ret
  exact ⟨rfl, by (focus ((repeat (first | with_reducible assumption | with_reducible exact Ext.refl _ | with_reducible refine Ext.drew ?_ | with_reducible refine Ext.alloc ?_ _ _ | with_reducible refine Ext.setCell ?_ ?_ _ | with_reducible exact Nat.le_refl _ | (dsimp only; omega) | (simp only [World.size_alloc]; omega))); done))⟩

theorem wcmp_any (w : World) (h1 l1 h2 l2 : Nat) (k1 : l1 < 18446744073709551616) (k2 : l2 < 18446744073709551616) :
    Calls Oaig.prog 124 #[u128 h1 l1, u128 h2 l2] w fun e w' => e = .returned (.int .i8 (cmpI (h1 * 18446744073709551616 + l1) (h2 * 18446744073709551616 + l2))) ∧ Ext w w' := by
  rcases Nat.lt_trichotomy h1 h2 with h | h | h
  · rw [cmpI_lt (by omega)]; exact wcmp_lt w h1 l1 h2 l2 h
  · subst h
    rcases Nat.lt_trichotomy l1 l2 with h | h | h
    · rw [cmpI_lt (by omega)]; exact wcmp_lt2 w h1 l1 l2 h
    · subst h
      rw [cmpI_eq rfl]; exact wcmp_eq w h1 l1
    · rw [cmpI_gt (by omega)]; exact wcmp_gt2 w h1 l1 l2 h
  · rw [cmpI_gt (by omega)]; exact wcmp_gt w h1 l1 h2 l2 h

set_option maxRecDepth 20000 in
set_option maxHeartbeats 2000000 in
theorem wadd_any (w : World) (h1 l1 h2 l2 H L : Nat) (k1 : l1 < 18446744073709551616) (k2 : l2 < 18446744073709551616) (kL : L < 18446744073709551616) (kH : H < 18446744073709551616)
    (h : H * 18446744073709551616 + L = h1 * 18446744073709551616 + l1 + (h2 * 18446744073709551616 + l2)) :
    Calls Oaig.prog 101 #[u128 h1 l1, u128 h2 l2] w fun e w' => ∃ c, e = .returned (.tuple #[u128 H L, .bool c]) ∧ Ext w w' := by
  obtain ⟨S, hS⟩ : ∃ S, S = h1 + h2 := ⟨_, rfl⟩
  have f0 : IntKind.u64.wrap ((h1 : Int) + (h2 : Int)) = (S : Int) := by rw [IntKind.wrap_u64]; omega
  have f1 : IntKind.u64.wrap ((l1 : Int) + (l2 : Int)) = (L : Int) := by rw [IntKind.wrap_u64]; omega
  have f5 : decide (S < h1) = false := decide_eq_false (by omega)
  by_cases hc : L < l1
  · have f2 : decide (L < l1) = true := decide_eq_true hc
    have f3 : IntKind.u64.wrap ((S : Int) + 1) = (H : Int) := by rw [IntKind.wrap_u64]; omega
    have f4 : ((H : Int) == 0) = false := by rw [beq_eq_false_iff_ne]; omega
    clear hc h hS
    go_enter Oaig.func101, Oaig.ntmps101
    go_wp2_with fail
    exact bodyPost_ret (v := .tuple #[u128 H L, .bool false]) (by simp [results, Oaig.results101, go_sem]) rfl ⟨_, rfl, by (focus ((repeat (first | with_reducible assumption | with_reducible exact Ext.refl _ | with_reducible refine Ext.drew ?_ | with_reducible refine Ext.alloc ?_ _ _ | with_reducible refine Ext.setCell ?_ ?_ _ | with_reducible exact Nat.le_refl _ | (dsimp only; omega) | (simp only [World.size_alloc]; omega))); done))⟩
  · have f2 : decide (L < l1) = false := decide_eq_false hc
    obtain rfl : S = H := by omega
    clear hc h hS
    go_enter Oaig.func101, Oaig.ntmps101
    go_wp2_with fail
    exact bodyPost_ret (v := .tuple #[u128 S L, .bool false]) (by simp [results, Oaig.results101, go_sem]) rfl ⟨_, rfl, by (focus ((repeat (first | with_reducible assumption | with_reducible exact Ext.refl _ | with_reducible refine Ext.drew ?_ | with_reducible refine Ext.alloc ?_ _ _ | with_reducible refine Ext.setCell ?_ ?_ _ | with_reducible exact Nat.le_refl _ | (dsimp only; omega) | (simp only [World.size_alloc]; omega))); done))⟩

set_option maxRecDepth 20000 in
set_option maxHeartbeats 4000000 in
theorem wsub_any (w : World) (h1 l1 h2 l2 H L : Nat) (k1 : l1 < 18446744073709551616) (k2 : l2 < 18446744073709551616) (kL : L < 18446744073709551616) (j1 : h1 < 18446744073709551616)
    (h : H * 18446744073709551616 + L + (h2 * 18446744073709551616 + l2) = h1 * 18446744073709551616 + l1) :
    Calls Oaig.prog 175 #[u128 h1 l1, u128 h2 l2] w fun e w' => ∃ c, e = .returned (.tuple #[u128 H L, .bool c]) ∧ Ext w w' := by
  have hCmp := fun w => wcmp_any w h1 l1 h2 l2 k1 k2
  have f1 : IntKind.u64.wrap ((l1 : Int) - (l2 : Int)) = (L : Int) := by rw [IntKind.wrap_u64]; omega
  obtain ⟨S, hS⟩ : ∃ S, S = h1 - h2 := ⟨_, rfl⟩
  have f0 : IntKind.u64.wrap ((h1 : Int) - (h2 : Int)) = (S : Int) := by rw [IntKind.wrap_u64]; omega
  have hA : Blk (((w.alloc (.cells #[.int .u64 (h1 : Int), .int .u64 (l1 : Int)] 62)).alloc (.cells #[.int .u64 (h2 : Int), .int .u64 (l2 : Int)] 62)).alloc (.cells #[.int .u64 0, .int .u64 0] 62)) w.heap.size #[.int .u64 (h1 : Int), .int .u64 (l1 : Int)] := by (focus ((repeat (first | with_reducible assumption | with_reducible exact Blk.new _ _ _ | with_reducible exact Blk.new' _ _ (by simp) | with_reducible refine Blk.alloc ?_ _ _ | with_reducible refine Blk.set4 (a := .bool false) (b := .int .i8 0) (c := .int .i16 0) (d := .int .u64 0) ?_ | with_reducible refine Blk.setOther4 ?_ ?_ | with_reducible refine Blk.setOther ?_ ?_ _ | with_reducible refine Blk.drew ?_ | (apply Ne.symm; with_reducible assumption) | omega)); done))
  have hB : Blk (((w.alloc (.cells #[.int .u64 (h1 : Int), .int .u64 (l1 : Int)] 62)).alloc (.cells #[.int .u64 (h2 : Int), .int .u64 (l2 : Int)] 62)).alloc (.cells #[.int .u64 0, .int .u64 0] 62)) (w.heap.size + 1) #[.int .u64 (h2 : Int), .int .u64 (l2 : Int)] := by (focus ((repeat (first | with_reducible assumption | with_reducible exact Blk.new _ _ _ | with_reducible exact Blk.new' _ _ (by simp) | with_reducible refine Blk.alloc ?_ _ _ | with_reducible refine Blk.set4 (a := .bool false) (b := .int .i8 0) (c := .int .i16 0) (d := .int .u64 0) ?_ | with_reducible refine Blk.setOther4 ?_ ?_ | with_reducible refine Blk.setOther ?_ ?_ _ | with_reducible refine Blk.drew ?_ | (apply Ne.symm; with_reducible assumption) | omega)); done))
  have hC : Blk (((w.alloc (.cells #[.int .u64 (h1 : Int), .int .u64 (l1 : Int)] 62)).alloc (.cells #[.int .u64 (h2 : Int), .int .u64 (l2 : Int)] 62)).alloc (.cells #[.int .u64 0, .int .u64 0] 62)) (w.heap.size + 1 + 1) #[.int .u64 0, .int .u64 0] := by (focus ((repeat (first | with_reducible assumption | with_reducible exact Blk.new _ _ _ | with_reducible exact Blk.new' _ _ (by simp) | with_reducible refine Blk.alloc ?_ _ _ | with_reducible refine Blk.set4 (a := .bool false) (b := .int .i8 0) (c := .int .i16 0) (d := .int .u64 0) ?_ | with_reducible refine Blk.setOther4 ?_ ?_ | with_reducible refine Blk.setOther ?_ ?_ _ | with_reducible refine Blk.drew ?_ | (apply Ne.symm; with_reducible assumption) | omega)); done))
  have hwW : Ext w (((w.alloc (.cells #[.int .u64 (h1 : Int), .int .u64 (l1 : Int)] 62)).alloc (.cells #[.int .u64 (h2 : Int), .int .u64 (l2 : Int)] 62)).alloc (.cells #[.int .u64 0, .int .u64 0] 62)) := by (focus ((repeat (first | with_reducible assumption | with_reducible exact Ext.refl _ | with_reducible refine Ext.drew ?_ | with_reducible refine Ext.alloc ?_ _ _ | with_reducible refine Ext.setCell ?_ ?_ _ | with_reducible exact Nat.le_refl _ | (dsimp only; omega) | (simp only [World.size_alloc]; omega))); done))
  obtain ⟨c, hc⟩ : ∃ c, c = cmpI (h1 * 18446744073709551616 + l1) (h2 * 18446744073709551616 + l2) := ⟨_, rfl⟩
  rw [← hc] at hCmp
  clear hc
  replace hCmp : Hid _ := hCmp
  by_cases hl : l1 < l2
  · have f2 : decide (l1 < l2) = true := decide_eq_true hl
    have f3 : IntKind.u64.wrap ((S : Int) - 1) = (H : Int) := by rw [IntKind.wrap_u64]; omega
    clear hl h hS
    go_enter Oaig.func175, Oaig.ntmps175
    go_wp2_with fail
    obtain ⟨W, hW⟩ : ∃ W, W = (((w.alloc (.cells #[.int .u64 (h1 : Int), .int .u64 (l1 : Int)] 62)).alloc (.cells #[.int .u64 (h2 : Int), .int .u64 (l2 : Int)] 62)).alloc (.cells #[.int .u64 0, .int .u64 0] 62)) := ⟨_, rfl⟩
    rw [← hW] at hA hB hC hwW ⊢
    clear hW
    have d0 : ∀ w', (Ext w w' ∧ Blk w' w.heap.size #[.int .u64 (h1 : Int), .int .u64 (l1 : Int)] ∧ Blk w' (w.heap.size + 1) #[.int .u64 (h2 : Int), .int .u64 (l2 : Int)]) → w'.cell? ⟨w.heap.size, 0, none⟩ = some (.int .u64 (h1 : Int)) := fun w' h => h.2.1.cell rfl
    have d1 : ∀ w', (Ext w w' ∧ Blk w' w.heap.size #[.int .u64 (h1 : Int), .int .u64 (l1 : Int)] ∧ Blk w' (w.heap.size + 1) #[.int .u64 (h2 : Int), .int .u64 (l2 : Int)]) → w'.cell? ⟨w.heap.size, 1, none⟩ = some (.int .u64 (l1 : Int)) := fun w' h => h.2.1.cell rfl
    have d2 : ∀ w', (Ext w w' ∧ Blk w' w.heap.size #[.int .u64 (h1 : Int), .int .u64 (l1 : Int)] ∧ Blk w' (w.heap.size + 1) #[.int .u64 (h2 : Int), .int .u64 (l2 : Int)]) → w'.cell? ⟨w.heap.size + 1, 0, none⟩ = some (.int .u64 (h2 : Int)) := fun w' h => h.2.2.cell rfl
    have d3 : ∀ w', (Ext w w' ∧ Blk w' w.heap.size #[.int .u64 (h1 : Int), .int .u64 (l1 : Int)] ∧ Blk w' (w.heap.size + 1) #[.int .u64 (h2 : Int), .int .u64 (l2 : Int)]) → w'.cell? ⟨w.heap.size + 1, 1, none⟩ = some (.int .u64 (l2 : Int)) := fun w' h => h.2.2.cell rfl
    go_region_held3 (fun w' => Ext w w' ∧ Blk w' w.heap.size #[.int .u64 (h1 : Int), .int .u64 (l1 : Int)] ∧ Blk w' (w.heap.size + 1) #[.int .u64 (h2 : Int), .int .u64 (l2 : Int)]) (first | with_reducible assumption | (refine ⟨?_, ?_, ?_⟩; (focus ((repeat (first | with_reducible assumption | with_reducible exact Ext.refl _ | with_reducible refine Ext.drew ?_ | with_reducible refine Ext.alloc ?_ _ _ | with_reducible refine Ext.setCell ?_ ?_ _ | with_reducible exact Nat.le_refl _ | (dsimp only; omega) | (simp only [World.size_alloc]; omega))); done)); (focus ((repeat (first | with_reducible assumption | with_reducible exact Blk.new _ _ _ | with_reducible exact Blk.new' _ _ (by simp) | with_reducible refine Blk.alloc ?_ _ _ | with_reducible refine Blk.set4 (a := .bool false) (b := .int .i8 0) (c := .int .i16 0) (d := .int .u64 0) ?_ | with_reducible refine Blk.setOther4 ?_ ?_ | with_reducible refine Blk.setOther ?_ ?_ _ | with_reducible refine Blk.drew ?_ | (apply Ne.symm; with_reducible assumption) | omega)); done)); (focus ((repeat (first | with_reducible assumption | with_reducible exact Blk.new _ _ _ | with_reducible exact Blk.new' _ _ (by simp) | with_reducible refine Blk.alloc ?_ _ _ | with_reducible refine Blk.set4 (a := .bool false) (b := .int .i8 0) (c := .int .i16 0) (d := .int .u64 0) ?_ | with_reducible refine Blk.setOther4 ?_ ?_ | with_reducible refine Blk.setOther ?_ ?_ _ | with_reducible refine Blk.drew ?_ | (apply Ne.symm; with_reducible assumption) | omega)); done)))) (first
      | (go_at_call 124; refine Calls.mono (hCmp.out _) ?_; rintro e w4 ⟨rfl, hext4⟩; have hq4 : Ext W w4 := Ext.trans (by (focus ((repeat (first | with_reducible assumption | with_reducible exact Ext.refl _ | with_reducible refine Ext.drew ?_ | with_reducible refine Ext.alloc ?_ _ _ | with_reducible refine Ext.setCell ?_ ?_ _ | with_reducible exact Nat.le_refl _ | (dsimp only; omega) | (simp only [World.size_alloc]; omega))); done))) hext4; have hq4' : Ext w w4 := hwW.trans hq4; have ha4 := hA.ext hq4; have hb4 := hB.ext hq4; have hr4 := hC.ext hq4; have s0 := hr4.cell (i := 0) rfl; have s1 := hr4.cell (i := 1) rfl; have sz := hr4.fz))
    go_wp2_with fail
    have hF := hr4.set2 (a' := .int .u64 (H : Int)) (b' := .int .u64 (L : Int))
    exact bodyPost_ret (v := .tuple #[u128 H L, .bool (decide (c < 0))]) (by simp [results, Oaig.results175, go_sem, hF.cell (i := 0) rfl, hF.cell (i := 1) rfl]) rfl ⟨_, rfl, Ext.set2 hq4' (by omega) _ _⟩
  · have f2 : decide (l1 < l2) = false := decide_eq_false hl
    obtain rfl : S = H := by omega
    clear hl h hS
    go_enter Oaig.func175, Oaig.ntmps175
    go_wp2_with fail
    obtain ⟨W, hW⟩ : ∃ W, W = (((w.alloc (.cells #[.int .u64 (h1 : Int), .int .u64 (l1 : Int)] 62)).alloc (.cells #[.int .u64 (h2 : Int), .int .u64 (l2 : Int)] 62)).alloc (.cells #[.int .u64 0, .int .u64 0] 62)) := ⟨_, rfl⟩
    rw [← hW] at hA hB hC hwW ⊢
    clear hW
    have d0 : ∀ w', (Ext w w' ∧ Blk w' w.heap.size #[.int .u64 (h1 : Int), .int .u64 (l1 : Int)] ∧ Blk w' (w.heap.size + 1) #[.int .u64 (h2 : Int), .int .u64 (l2 : Int)]) → w'.cell? ⟨w.heap.size, 0, none⟩ = some (.int .u64 (h1 : Int)) := fun w' h => h.2.1.cell rfl
    have d1 : ∀ w', (Ext w w' ∧ Blk w' w.heap.size #[.int .u64 (h1 : Int), .int .u64 (l1 : Int)] ∧ Blk w' (w.heap.size + 1) #[.int .u64 (h2 : Int), .int .u64 (l2 : Int)]) → w'.cell? ⟨w.heap.size, 1, none⟩ = some (.int .u64 (l1 : Int)) := fun w' h => h.2.1.cell rfl
    have d2 : ∀ w', (Ext w w' ∧ Blk w' w.heap.size #[.int .u64 (h1 : Int), .int .u64 (l1 : Int)] ∧ Blk w' (w.heap.size + 1) #[.int .u64 (h2 : Int), .int .u64 (l2 : Int)]) → w'.cell? ⟨w.heap.size + 1, 0, none⟩ = some (.int .u64 (h2 : Int)) := fun w' h => h.2.2.cell rfl
    have d3 : ∀ w', (Ext w w' ∧ Blk w' w.heap.size #[.int .u64 (h1 : Int), .int .u64 (l1 : Int)] ∧ Blk w' (w.heap.size + 1) #[.int .u64 (h2 : Int), .int .u64 (l2 : Int)]) → w'.cell? ⟨w.heap.size + 1, 1, none⟩ = some (.int .u64 (l2 : Int)) := fun w' h => h.2.2.cell rfl
    go_region_held3 (fun w' => Ext w w' ∧ Blk w' w.heap.size #[.int .u64 (h1 : Int), .int .u64 (l1 : Int)] ∧ Blk w' (w.heap.size + 1) #[.int .u64 (h2 : Int), .int .u64 (l2 : Int)]) (first | with_reducible assumption | (refine ⟨?_, ?_, ?_⟩; (focus ((repeat (first | with_reducible assumption | with_reducible exact Ext.refl _ | with_reducible refine Ext.drew ?_ | with_reducible refine Ext.alloc ?_ _ _ | with_reducible refine Ext.setCell ?_ ?_ _ | with_reducible exact Nat.le_refl _ | (dsimp only; omega) | (simp only [World.size_alloc]; omega))); done)); (focus ((repeat (first | with_reducible assumption | with_reducible exact Blk.new _ _ _ | with_reducible exact Blk.new' _ _ (by simp) | with_reducible refine Blk.alloc ?_ _ _ | with_reducible refine Blk.set4 (a := .bool false) (b := .int .i8 0) (c := .int .i16 0) (d := .int .u64 0) ?_ | with_reducible refine Blk.setOther4 ?_ ?_ | with_reducible refine Blk.setOther ?_ ?_ _ | with_reducible refine Blk.drew ?_ | (apply Ne.symm; with_reducible assumption) | omega)); done)); (focus ((repeat (first | with_reducible assumption | with_reducible exact Blk.new _ _ _ | with_reducible exact Blk.new' _ _ (by simp) | with_reducible refine Blk.alloc ?_ _ _ | with_reducible refine Blk.set4 (a := .bool false) (b := .int .i8 0) (c := .int .i16 0) (d := .int .u64 0) ?_ | with_reducible refine Blk.setOther4 ?_ ?_ | with_reducible refine Blk.setOther ?_ ?_ _ | with_reducible refine Blk.drew ?_ | (apply Ne.symm; with_reducible assumption) | omega)); done)))) (first
      | (go_at_call 124; refine Calls.mono (hCmp.out _) ?_; rintro e w4 ⟨rfl, hext4⟩; have hq4 : Ext W w4 := Ext.trans (by (focus ((repeat (first | with_reducible assumption | with_reducible exact Ext.refl _ | with_reducible refine Ext.drew ?_ | with_reducible refine Ext.alloc ?_ _ _ | with_reducible refine Ext.setCell ?_ ?_ _ | with_reducible exact Nat.le_refl _ | (dsimp only; omega) | (simp only [World.size_alloc]; omega))); done))) hext4; have hq4' : Ext w w4 := hwW.trans hq4; have ha4 := hA.ext hq4; have hb4 := hB.ext hq4; have hr4 := hC.ext hq4; have s0 := hr4.cell (i := 0) rfl; have s1 := hr4.cell (i := 1) rfl; have sz := hr4.fz))
    go_wp2_with fail
    have hF := hr4.set2 (a' := .int .u64 (S : Int)) (b' := .int .u64 (L : Int))
    exact bodyPost_ret (v := .tuple #[u128 S L, .bool (decide (c < 0))]) (by simp [results, Oaig.results175, go_sem, hF.cell (i := 0) rfl, hF.cell (i := 1) rfl]) rfl ⟨_, rfl, Ext.set2 hq4' (by omega) _ _⟩

set_option maxHeartbeats 2000000 in
theorem wshr_hi (w : World) (hi lo k : Nat) (hh : hi < 18446744073709551616) (hk : 64 ≤ k) (hk2 : k < 256) :
    Calls Oaig.prog 83 #[u128 hi lo, .int .u8 k] w fun e w' => e = .returned (u128 0 (hi / 2 ^ (k - 64))) ∧ Ext w w' := by
  obtain ⟨L, hL⟩ : ∃ L, L = hi / 2 ^ (k - 64) := ⟨_, rfl⟩
  rw [← hL]
  have hw2 : ((hi : Int) / 2 ^ (min (k - 64) 64)) = (L : Int) := by
    rw [hL]
    rcases Nat.le_total (k - 64) 64 with h | h
    · rw [Nat.min_eq_left h]; simp
    · rw [Nat.min_eq_right h]
      have e1 : hi / 2 ^ (k - 64) = 0 := Nat.div_eq_of_lt (Nat.lt_of_lt_of_le hh (Nat.pow_le_pow_right (n := 2) (by decide) h : 2 ^ 64 ≤ 2 ^ (k - 64)))
      rw [e1]; omega
  clear hL
  go_enter Oaig.func83, Oaig.ntmps83
  go_wp2_with fail
  have hF := Blk.new' (w := w.alloc (.cells #[.int .u64 (hi : Int), .int .u64 (lo : Int)] 62)) #[.int .u64 0, .int .u64 (L : Int)] 62 (B := w.heap.size + 1) (by simp)
  exact bodyPost_ret (v := u128 0 L) (by simp [results, Oaig.results83, go_sem, hF.cell (i := 0) rfl, hF.cell (i := 1) rfl]) rfl ⟨rfl, ((Ext.refl w).alloc _ _).alloc _ _⟩

theorem wshr_plain (hi lo k : Nat) (hlo : lo < 18446744073709551616) (hk : k < 64) :
    lo / 2 ^ k ||| (hi * 2 ^ (64 - k) % 18446744073709551616) = (hi * 18446744073709551616 + lo) / 2 ^ k % 18446744073709551616 := by
  have e : 18446744073709551616 = 2 ^ (64 - k) * 2 ^ k := by rw [← Nat.pow_add, show 64 - k + k = 64 by omega]
  have hq : lo / 2 ^ k < 2 ^ (64 - k) := by
    apply Nat.div_lt_of_lt_mul; rw [Nat.mul_comm, ← e]; exact hlo
  have hm : hi * 2 ^ (64 - k) % 18446744073709551616 % 2 ^ (64 - k) = 0 := by
    conv => lhs; rw [e, Nat.mod_mul_right_mod]
    exact Nat.mul_mod_left _ _
  rw [Nat.or_comm, nat_join (64 - k) _ _ hm hq]
  have h1 : (hi * 18446744073709551616 + lo) / 2 ^ k = hi * 2 ^ (64 - k) + lo / 2 ^ k := by
    conv => lhs; rw [e, ← Nat.mul_assoc, Nat.add_comm, Nat.add_mul_div_right _ _ (Nat.two_pow_pos k), Nat.add_comm]
  rw [h1]
  have hm2 : hi * 2 ^ (64 - k) % 18446744073709551616 + lo / 2 ^ k < 18446744073709551616 := by
    have h2 : hi * 2 ^ (64 - k) % 18446744073709551616 = 2 ^ (64 - k) * (hi % 2 ^ k) := by
      rw [show 18446744073709551616 = 2 ^ (64 - k) * 2 ^ k from e, Nat.mul_comm hi, Nat.mul_mod_mul_left]
    have h3 : hi % 2 ^ k + 1 ≤ 2 ^ k := Nat.mod_lt _ (Nat.two_pow_pos k)
    have h4 := Nat.mul_le_mul_left (2 ^ (64 - k)) h3
    rw [← e, Nat.mul_add, Nat.mul_one, ← h2] at h4
    omega
  rw [Nat.add_mod]
  conv => rhs; rw [Nat.mod_eq_of_lt (a := lo / 2 ^ k) (Nat.lt_of_le_of_lt (Nat.div_le_self _ _) hlo)]
  exact (Nat.mod_eq_of_lt hm2).symm

set_option maxHeartbeats 2000000 in
theorem wshr_lo (w : World) (hi lo k : Nat) (_hh : hi < 18446744073709551616) (hlo : lo < 18446744073709551616) (hk : k < 64) :
    Calls Oaig.prog 83 #[u128 hi lo, .int .u8 k] w fun e w' => e = .returned (u128 (hi / 2 ^ k) ((hi * 18446744073709551616 + lo) / 2 ^ k % 18446744073709551616)) ∧ Ext w w' := by
  obtain ⟨H, hH⟩ : ∃ H, H = hi / 2 ^ k := ⟨_, rfl⟩
  obtain ⟨L, hL⟩ : ∃ L, L = (hi * 18446744073709551616 + lo) / 2 ^ k % 18446744073709551616 := ⟨_, rfl⟩
  rw [← hH, ← hL]
  have hw1 : ((hi : Int) / 2 ^ k) = (H : Int) := by rw [hH]; simp
  have hw2 : ((lo : Int) / 2 ^ k) = ((lo / 2 ^ k : Nat) : Int) := by simp
  have hw3 : IntKind.u64.wrap ((hi : Int) * 2 ^ (64 - k)) = ((hi * 2 ^ (64 - k) % 18446744073709551616 : Nat) : Int) := by rw [IntKind.wrap_u64]; simp
  have hor : bits BinOp.or IntKind.u64 ((lo : Int) / 2 ^ k) (IntKind.u64.wrap ((hi : Int) * 2 ^ (64 - k))) = (L : Int) := by
    rw [hw2, hw3, u64_or_nat _ _ (Nat.lt_of_le_of_lt (Nat.div_le_self _ _) hlo) (Nat.mod_lt _ (by decide)), wshr_plain hi lo k hlo hk, hL]
  clear hw2 hw3 hH hL
  go_enter Oaig.func83, Oaig.ntmps83
  go_wp2_with fail
  have hF := Blk.new' (w := w.alloc (.cells #[.int .u64 (hi : Int), .int .u64 (lo : Int)] 62)) #[.int .u64 (H : Int), .int .u64 (L : Int)] 62 (B := w.heap.size + 1) (by simp)
  exact bodyPost_ret (v := u128 H L) (by simp [results, Oaig.results83, go_sem, hF.cell (i := 0) rfl, hF.cell (i := 1) rfl]) rfl ⟨rfl, ((Ext.refl w).alloc _ _).alloc _ _⟩

/-- A number cut at 2^k, its lowest bit standing for what was cut off. -/
def jam2 (V k : Nat) : Nat := V / 2 ^ k ||| (if V % 2 ^ k = 0 then 0 else 1)

/-- wide.Shr. -/
theorem wshr_any (w : World) (hi lo k : Nat) (hh : hi < 18446744073709551616) (hlo : lo < 18446744073709551616) (hk : k < 256) :
    Calls Oaig.prog 83 #[u128 hi lo, .int .u8 k] w fun e w' => e = .returned (u128 ((hi * 18446744073709551616 + lo) / 2 ^ k / 18446744073709551616) ((hi * 18446744073709551616 + lo) / 2 ^ k % 18446744073709551616)) ∧ Ext w w' := by
  rcases Nat.lt_or_ge k 64 with h | h
  · have e : (hi * 18446744073709551616 + lo) / 2 ^ k / 18446744073709551616 = hi / 2 ^ k := by
      rw [Nat.div_div_eq_div_mul, Nat.mul_comm (2 ^ k), ← Nat.div_div_eq_div_mul, show (hi * 18446744073709551616 + lo) / 18446744073709551616 = hi by omega]
    rw [e]
    exact wshr_lo w hi lo k hh hlo h
  · have e : (hi * 18446744073709551616 + lo) / 2 ^ k = hi / 2 ^ (k - 64) := by
      rw [show (2 : Nat) ^ k = 18446744073709551616 * 2 ^ (k - 64) by rw [show (18446744073709551616 : Nat) = 2 ^ 64 from by decide, ← Nat.pow_add, show 64 + (k - 64) = k by omega], ← Nat.div_div_eq_div_mul, show (hi * 18446744073709551616 + lo) / 18446744073709551616 = hi by omega]
    have hl : hi / 2 ^ (k - 64) < 18446744073709551616 := Nat.lt_of_le_of_lt (Nat.div_le_self _ _) hh
    rw [e, Nat.div_eq_of_lt hl, Nat.mod_eq_of_lt hl]
    exact wshr_hi w hi lo k hh h hk

set_option maxHeartbeats 2000000 in
theorem shl_zero (w : World) (k : Nat) (hk : 64 ≤ k) (hk2 : k < 256) :
    Calls Oaig.prog 123 #[u128 0 0, .int .u8 k] w fun e w' => e = .returned (u128 0 0) ∧ Ext w w' := by
  go_enter Oaig.func123, Oaig.ntmps123
  go_wp2_with fail
  have hF := Blk.new' (w := w.alloc (.cells #[.int .u64 0, .int .u64 0] 62)) #[.int .u64 0, .int .u64 0] 62 (B := w.heap.size + 1) (by simp)
  exact bodyPost_ret (v := u128 0 0) (by simp [results, Oaig.results123, go_sem, hF.cell (i := 0) rfl, hF.cell (i := 1) rfl]) rfl ⟨rfl, ((Ext.refl w).alloc _ _).alloc _ _⟩

/-- wide.Shl where nothing goes out at the top. -/
theorem wshl_any (w : World) (hi lo k : Nat) (hlo : lo < 18446744073709551616) (hk : k < 256) (hV : (hi * 18446744073709551616 + lo) * 2 ^ k < 340282366920938463463374607431768211456) :
    Calls Oaig.prog 123 #[u128 hi lo, .int .u8 k] w fun e w' => e = .returned (u128 ((hi * 18446744073709551616 + lo) * 2 ^ k / 18446744073709551616) ((hi * 18446744073709551616 + lo) * 2 ^ k % 18446744073709551616)) ∧ Ext w w' := by
  have hp := Nat.two_pow_pos k
  have hV1 : hi * 18446744073709551616 + lo < 340282366920938463463374607431768211456 := Nat.lt_of_le_of_lt (Nat.le_mul_of_pos_right _ hp) hV
  have hd : (hi * 18446744073709551616 + lo) * 2 ^ k / 18446744073709551616 < 18446744073709551616 := Nat.div_lt_of_lt_mul hV
  rcases Nat.lt_or_ge k 64 with h | h
  · have e1 : (hi * 18446744073709551616 + lo) * 2 ^ k % 18446744073709551616 = lo * 2 ^ k % 18446744073709551616 := by
      rw [Nat.add_mul, Nat.mul_right_comm, Nat.add_comm, Nat.add_mul_mod_self_right]
    have h1 := shl_lo w hi lo k (by omega) hlo h
    rw [Nat.mod_eq_of_lt hd, ← e1] at h1
    exact h1
  · rcases Nat.eq_zero_or_pos (hi * 18446744073709551616 + lo) with h0 | h0
    · obtain rfl : hi = 0 := by omega
      obtain rfl : lo = 0 := by omega
      have h1 := shl_zero w k h hk
      have e : (0 * 18446744073709551616 + 0) * 2 ^ k = 0 := by simp
      rw [e]
      exact h1
    · have hk2 : k < 128 := by
        rcases Nat.lt_or_ge k 128 with hk2 | hk2
        · exact hk2
        · have h2 : 2 ^ 128 ≤ 2 ^ k := Nat.pow_le_pow_right (by decide) hk2
          have h3 : 1 * 2 ^ k ≤ (hi * 18446744073709551616 + lo) * 2 ^ k := Nat.mul_le_mul_right _ h0
          omega
      have e2 : 2 ^ k = 2 ^ (k - 64) * 18446744073709551616 := by
        rw [show (18446744073709551616 : Nat) = 2 ^ 64 from by decide, ← Nat.pow_add, show k - 64 + 64 = k by omega]
      have e3 : (hi * 18446744073709551616 + lo) * 2 ^ k = (hi * 18446744073709551616 + lo) * 2 ^ (k - 64) * 18446744073709551616 := by rw [e2, Nat.mul_assoc]
      have hp2 := Nat.two_pow_pos (k - 64)
      rw [e3] at hV hd ⊢
      have hl : (hi * 18446744073709551616 + lo) * 2 ^ (k - 64) < 18446744073709551616 := by omega
      have h4 : hi * 18446744073709551616 + lo < 18446744073709551616 := Nat.lt_of_le_of_lt (Nat.le_mul_of_pos_right _ hp2) hl
      obtain rfl : hi = 0 := by omega
      rw [Nat.zero_mul, Nat.zero_add] at hl ⊢
      have h1 := shl_hi w 0 lo k (by decide) hlo h hk2
      rw [Nat.mod_eq_of_lt hl] at h1
      rw [Nat.mul_div_cancel _ (by decide), Nat.mul_mod_left]
      exact h1

end Go.Proofs.Ygcoai
