/-
  Seat gcoai. exact.open (86) at Binary32.
-/
import Derived.Test.YgcoaiExVal
namespace Go.Proofs.Ygcoai
open Go.RowKit

theorem Blk.set6 {w : World} {B : Nat} {a b c d e f a' b' c' d' e' f' : Value} (h : Blk w B #[a, b, c, d, e, f]) :
    Blk ((((((w.setCell ⟨B, 0, none⟩ a').setCell ⟨B, 1, none⟩ b').setCell ⟨B, 2, none⟩ c').setCell ⟨B, 3, none⟩ d').setCell ⟨B, 4, none⟩ e').setCell ⟨B, 5, none⟩ f') B #[a', b', c', d', e', f'] :=
  (((((h.set' 0 a' rfl).set' 1 b' rfl).set' 2 c' rfl).set' 3 d' rfl).set' 4 e' rfl).set' 5 f' rfl
theorem Ext.set6 {w w' : World} (h : Ext w w') {B : Nat} (hB : w.heap.size ≤ B) (a' b' c' d' e' f' : Value) :
    Ext w ((((((w'.setCell ⟨B, 0, none⟩ a').setCell ⟨B, 1, none⟩ b').setCell ⟨B, 2, none⟩ c').setCell ⟨B, 3, none⟩ d').setCell ⟨B, 4, none⟩ e').setCell ⟨B, 5, none⟩ f') :=
  (((((h.setCell hB _).setCell hB _).setCell hB _).setCell hB _).setCell hB _).setCell hB _
theorem NatV.set6 {w : World} {v : Value} {x B : Nat} {cs : Array Value} {a' b' c' d' e' f' : Value} (h : NatV w v x) (hB : Blk w B cs) (hn : NL cs) (hn' : NL #[a', b', c', d', e', f']) :
    NatV ((((((w.setCell ⟨B, 0, none⟩ a').setCell ⟨B, 1, none⟩ b').setCell ⟨B, 2, none⟩ c').setCell ⟨B, 3, none⟩ d').setCell ⟨B, 4, none⟩ e').setCell ⟨B, 5, none⟩ f') v x := by
  have h0 := hB.noLimb hn
  have h1 := h0.set ⟨B, 0, none⟩ (hn' a' (by simp))
  have h2 := h1.set ⟨B, 1, none⟩ (hn' b' (by simp))
  have h3 := h2.set ⟨B, 2, none⟩ (hn' c' (by simp))
  have h4 := h3.set ⟨B, 3, none⟩ (hn' d' (by simp))
  have h5 := h4.set ⟨B, 4, none⟩ (hn' e' (by simp))
  exact (((((h.set h0 _ _).set h1 _ _).set h2 _ _).set h3 _ _).set h4 _ _).set h5 _ _

set_option maxRecDepth 20000 in
set_option maxHeartbeats 2000000 in
theorem open_any (w : World) (x : Nat) (hx : x < 4294967296) :
    Calls Oaig.prog 86 #[.agg #[.int .u8 8, .int .u8 23], .int .u64 x] w fun e w' => ∃ ng nv dv, e = .returned (.agg #[.int .u64 x, .bool (uS x), .int .i8 (pC x), .bool ng, nv, dv]) ∧ Ext w w' ∧ NatV w' nv (vN x) ∧ NatV w' dv (vD x) ∧ (pC x ≤ 2 → ng = pN x) := by
  have hmask : bits BinOp.and IntKind.u64 (x : Int) 4294967295 = (x : Int) := by
    have h := u64_and_nat x 4294967295 (by omega) (by decide)
    have e : (x &&& 4294967295) = x % 4294967296 := Nat.and_two_pow_sub_one_eq_mod x 32
    rw [e, Nat.mod_eq_of_lt hx] at h
    exact h
  have hand := andS hx
  go_enter Oaig.func86, Oaig.ntmps86
  go_wp2_with fail
  refine (mask_any _).mono ?_
  rintro e w1 ⟨rfl, hext1⟩
  have hF : Blk w1 w.heap.size #[.int .u8 8, .int .u8 23] := Blk.two1 hext1
  have hR : Blk w1 (w.heap.size + 1) #[.int .u64 0, .bool false, .int .i8 0, .bool false, .slice none 0 0, .slice none 0 0] := Blk.two2 hext1
  have hw := hext1.of_alloc2
  have a0 := hF.cell (i := 0) rfl
  have a1 := hF.cell (i := 1) rfl
  clear hext1
  go_wp2_with fail
  refine (value_any _ x hx).mono ?_
  rintro e w2 ⟨ng, nv, dv, rfl, hext2, hn2, hd2, hng⟩
  obtain ⟨ao1, n1, k1, rfl⟩ := hn2.form
  obtain ⟨ao2, n2, k2, rfl⟩ := hd2.form
  have hng : Hid _ := hng
  replace hw := hw.trans hext2
  replace hF := hF.ext hext2
  replace hR := hR.ext hext2
  replace a0 := hF.cell (i := 0) rfl
  replace a1 := hF.cell (i := 1) rfl
  clear hext2
  go_wp2_with fail
  obtain ⟨W, hW⟩ : ∃ W, W = w2.alloc (.cells #[.bool ng, .slice ao1 n1 k1, .slice ao2 n2 k2] 40) := ⟨_, rfl⟩
  have hV : Blk W w2.heap.size #[.bool ng, .slice ao1 n1 k1, .slice ao2 n2 k2] := by rw [hW]; exact Blk.new _ _ _
  have hRW : Blk W (w.heap.size + 1) #[.int .u64 0, .bool false, .int .i8 0, .bool false, .slice none 0 0, .slice none 0 0] := by rw [hW]; exact hR.alloc _ _
  have hFW : Blk W w.heap.size #[.int .u8 8, .int .u8 23] := by rw [hW]; exact hF.alloc _ _
  have hwW : Ext w W := by rw [hW]; exact hw.alloc _ _
  have hxW : Ext w2 W := by rw [hW]; exact (Ext.refl _).alloc _ _
  have hlt := hR.lt
  have hne : w2.heap.size ≠ w.heap.size + 1 := by omega
  have hne2 : w.heap.size ≠ w.heap.size + 1 := by omega
  have b0 := hV.cell (i := 0) rfl
  have b1 := hV.cell (i := 1) rfl
  have b2 := hV.cell (i := 2) rfl
  have f0 := hFW.cell (i := 0) rfl
  have f1 := hFW.cell (i := 1) rfl
  rw [← hW]
  clear hW hF a0 a1 hR hw
  have d0 : ∀ w', (Ext w w' ∧ Blk w' w.heap.size #[.int .u8 8, .int .u8 23] ∧ Blk w' w2.heap.size #[.bool ng, .slice ao1 n1 k1, .slice ao2 n2 k2]) → w'.cell? ⟨w2.heap.size, 0, none⟩ = some (.bool ng) := fun w' h => h.2.2.cell rfl
  have d1 : ∀ w', (Ext w w' ∧ Blk w' w.heap.size #[.int .u8 8, .int .u8 23] ∧ Blk w' w2.heap.size #[.bool ng, .slice ao1 n1 k1, .slice ao2 n2 k2]) → w'.cell? ⟨w2.heap.size, 1, none⟩ = some (.slice ao1 n1 k1) := fun w' h => h.2.2.cell rfl
  have d2 : ∀ w', (Ext w w' ∧ Blk w' w.heap.size #[.int .u8 8, .int .u8 23] ∧ Blk w' w2.heap.size #[.bool ng, .slice ao1 n1 k1, .slice ao2 n2 k2]) → w'.cell? ⟨w2.heap.size, 2, none⟩ = some (.slice ao2 n2 k2) := fun w' h => h.2.2.cell rfl
  have d3 : ∀ w', (Ext w w' ∧ Blk w' w.heap.size #[.int .u8 8, .int .u8 23] ∧ Blk w' w2.heap.size #[.bool ng, .slice ao1 n1 k1, .slice ao2 n2 k2]) → w'.cell? ⟨w.heap.size, 0, none⟩ = some (.int .u8 8) := fun w' h => h.2.1.cell rfl
  have d4 : ∀ w', (Ext w w' ∧ Blk w' w.heap.size #[.int .u8 8, .int .u8 23] ∧ Blk w' w2.heap.size #[.bool ng, .slice ao1 n1 k1, .slice ao2 n2 k2]) → w'.cell? ⟨w.heap.size, 1, none⟩ = some (.int .u8 23) := fun w' h => h.2.1.cell rfl
  go_region_held3 (fun w' => Ext w w' ∧ Blk w' w.heap.size #[.int .u8 8, .int .u8 23] ∧ Blk w' w2.heap.size #[.bool ng, .slice ao1 n1 k1, .slice ao2 n2 k2]) (first | with_reducible assumption | (refine ⟨?_, ?_, ?_⟩; (focus ((repeat (first | with_reducible assumption | with_reducible exact Ext.refl _ | with_reducible refine Ext.drew ?_ | with_reducible refine Ext.alloc ?_ _ _ | with_reducible refine Ext.setCell ?_ ?_ _ | with_reducible exact Nat.le_refl _ | (dsimp only; omega) | (simp only [World.size_alloc]; omega))); done)); (focus ((repeat (first | with_reducible assumption | with_reducible exact Blk.new _ _ _ | with_reducible exact Blk.new' _ _ (by simp) | with_reducible refine Blk.alloc ?_ _ _ | with_reducible refine Blk.set4 (a := .bool false) (b := .int .i8 0) (c := .int .i16 0) (d := .int .u64 0) ?_ | with_reducible refine Blk.setOther4 ?_ ?_ | with_reducible refine Blk.setOther ?_ ?_ _ | with_reducible refine Blk.drew ?_ | (apply Ne.symm; with_reducible assumption) | omega)); done)); (focus ((repeat (first | with_reducible assumption | with_reducible exact Blk.new _ _ _ | with_reducible exact Blk.new' _ _ (by simp) | with_reducible refine Blk.alloc ?_ _ _ | with_reducible refine Blk.set4 (a := .bool false) (b := .int .i8 0) (c := .int .i16 0) (d := .int .u64 0) ?_ | with_reducible refine Blk.setOther4 ?_ ?_ | with_reducible refine Blk.setOther ?_ ?_ _ | with_reducible refine Blk.drew ?_ | (apply Ne.symm; with_reducible assumption) | omega)); done)))) (first
    | (go_at_call 111; refine (signBit_any _).mono ?_; rintro e w4 ⟨rfl, hext4⟩; have hq4 : Ext W w4 := Ext.trans (by (focus ((repeat (first | with_reducible assumption | with_reducible exact Ext.refl _ | with_reducible refine Ext.drew ?_ | with_reducible refine Ext.alloc ?_ _ _ | with_reducible refine Ext.setCell ?_ ?_ _ | with_reducible exact Nat.le_refl _ | (dsimp only; omega) | (simp only [World.size_alloc]; omega))); done))) hext4; have hq4' : Ext w w4 := hwW.trans hq4; have hf4 := hFW.ext hq4; have hp4 := hV.ext hq4; have hr4 := hRW.ext hq4; have s0 := hr4.cell (i := 0) rfl; have s1 := hr4.cell (i := 1) rfl; have s2 := hr4.cell (i := 2) rfl; have s3 := hr4.cell (i := 3) rfl; have s4 := hr4.cell (i := 4) rfl; have s5 := hr4.cell (i := 5) rfl; have sz := hr4.fz))
  go_wp2
  have hR4 := hr4.set6 (a' := .int .u64 x) (b' := .bool (uS x)) (c' := .int .i8 (pC x)) (d' := .bool ng) (e' := .slice ao1 n1 k1) (f' := .slice ao2 n2 k2)
  exact bodyPost_ret (v := .agg #[.int .u64 x, .bool (uS x), .int .i8 (pC x), .bool ng, .slice ao1 n1 k1, .slice ao2 n2 k2]) (by simp [results, Oaig.results86, go_sem, hR4.cell (i := 0) rfl, hR4.cell (i := 1) rfl, hR4.cell (i := 2) rfl, hR4.cell (i := 3) rfl, hR4.cell (i := 4) rfl, hR4.cell (i := 5) rfl]) rfl ⟨_, _, _, rfl, Ext.set6 hq4' (by omega) _ _ _ _ _ _, (hn2.ext (hxW.trans hq4)).set6 hr4 (by simp [NL]) (by simp [NL]), (hd2.ext (hxW.trans hq4)).set6 hr4 (by simp [NL]) (by simp [NL]), hng.out⟩

end Go.Proofs.Ygcoai
