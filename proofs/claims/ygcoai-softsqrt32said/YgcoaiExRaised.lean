/-
  Seat gcoai. exact.floor (166), exact.raised (158), exact.pack (92).
-/
import Derived.Test.YgcoaiExFloor
import Derived.Test.YgcoaiRoundE
namespace Go.Proofs.Ygcoai
open Go.RowKit

theorem lt32_div {n d L : Nat} (h : Lt32 n L) : Lt32 (n / d) L := h.mono (Nat.div_le_self _ _) (Nat.le_refl _)
theorem lt32_mod {n d L : Nat} (h : Lt32 n L) : Lt32 (n % d) L := h.mono (Nat.mod_le _ _) (Nat.le_refl _)

set_option maxHeartbeats 1000000 in
theorem floor_any {w : World} {nv dv : Value} {n d L : Nat} (hn : NatV w nv n) (hd : NatV w dv d) (ln : Lt32 n L) (ld : Lt32 d L) (hL : L ≤ 1000) (h0 : d ≠ 0) :
    Calls Oaig.prog 166 #[nv, dv] w fun e w' => ∃ qv s, e = .returned (.tuple #[qv, .agg #[.int .i8 (cmpI (n % d * 2) d), .bool s]]) ∧ Ext w w' ∧ NatV w' qv (n / d) := by
  have q38 := nenil38
  go_enter Oaig.func166, Oaig.ntmps166
  go_wp2_with fail
  refine (divMod_any (hn.ext ((Ext.refl w).alloc _ _)) (hd.ext ((Ext.refl w).alloc _ _)) ln ld (by omega) h0).mono ?_
  rintro e w1 ⟨qv, rv, rfl, hext1, hq1, hr1⟩
  obtain ⟨ao1, n1, k1, rfl⟩ := hq1.form
  obtain ⟨ao2, n2, k2, rfl⟩ := hr1.form
  go_wp2_with fail
  refine (shl_any hr1 (lt32_mod ln) (by omega) 1 (by omega)).mono ?_
  rintro e w2 ⟨v2, rfl, hext2, hv2⟩
  go_wp2_with fail
  refine (cmp_any hv2 (hd.ext (hext1.of_alloc.trans hext2)) ((lt32_mod ln).shl (k := 1)) (ld.mono (Nat.le_refl _) (by omega)) (by omega)).mono ?_
  rintro e w3 ⟨rfl, hext3⟩
  obtain ⟨C, hC⟩ : ∃ C, C = cmpI (n % d * 2 ^ 1) d := ⟨_, rfl⟩
  have hC' : Hid (cmpI (n % d * 2) d = C) := by rw [hC]; rfl
  rw [← hC]
  clear hC
  obtain ⟨sb, hsb⟩ : ∃ b, b = !ao2.isNone := ⟨_, rfl⟩
  replace q38 : ∀ (w : World) (n' c' : Nat), (binOp .neq 38 (.slice ao2 n2 k2) (.slice none n' c')).run Oaig.prog w = .ok (.bool sb) w := by rw [hsb]; exact fun w n' c' => nenil38 w ao2 n2 k2 n' c'
  clear hsb
  have hall := (hext1.trans hext2).trans hext3
  have hB : Blk w3 w.heap.size #[.int .i8 0, .bool false] := (Blk.new w _ 114).ext hall
  have c0 := hB.cell (i := 0) rfl
  have c1 := hB.cell (i := 1) rfl
  have cz := hB.fz
  go_wp2
  have hR := hB.set2 (a' := .int .i8 C) (b' := .bool sb)
  have hno := hB.noLimb (by simp)
  exact bodyPost_ret (v := .tuple #[.slice ao1 n1 k1, .agg #[.int .i8 C, .bool sb]]) (by simp [results, Oaig.results166, go_sem, hR.cell (i := 0) rfl, hR.cell (i := 1) rfl]) rfl ⟨_, _, by rw [hC'.out], Ext.set2 hall.of_alloc (Nat.le_refl _) _ _, (((hq1.ext (hext2.trans hext3)).set hno _ _).set (hno.set _ (by simp)) _ _)⟩

/-- The quotient rounded to nearest, ties to even. -/
def rne (n d : Nat) : Nat := n / d + (if xr (cmpI (n % d * 2) d) (decide (n / d % 2 = 1)) then 1 else 0)

set_option maxRecDepth 20000 in
set_option maxHeartbeats 2000000 in
theorem raised_any {w : World} (neg : Bool) {nv dv : Value} {n d L : Nat} (hn : NatV w nv n) (hd : NatV w dv d) (ln : Lt32 n L) (ld : Lt32 d L) (hL : L ≤ 1000) (h0 : d ≠ 0) :
    Calls Oaig.prog 158 #[.int .u8 0, .bool neg, nv, dv] w fun e w' => ∃ qv h s, e = .returned (.tuple #[qv, .agg #[.int .i8 h, .bool s]]) ∧ Ext w w' ∧ NatV w' qv (rne n d) := by
  go_enter Oaig.func158, Oaig.ntmps158
  go_wp2_with fail
  refine (floor_any (hn.ext ((Ext.refl w).alloc _ _)) (hd.ext ((Ext.refl w).alloc _ _)) ln ld hL h0).mono ?_
  rintro e w1 ⟨qv, s, rfl, hext1, hq1⟩
  obtain ⟨C, hC⟩ : ∃ C, C = cmpI (n % d * 2) d := ⟨_, rfl⟩
  obtain ⟨od, hod⟩ : ∃ b, b = decide (n / d % 2 = 1) := ⟨_, rfl⟩
  obtain ⟨b, hb⟩ : ∃ b, b = xr C od := ⟨_, rfl⟩
  have hv : Hid (rne n d = n / d + (if b then 1 else 0)) := by show rne n d = _; unfold rne; rw [hb, hC, hod]
  rw [← hC]
  have hbit : ∀ w', NatV w' qv (n / d) → Calls Oaig.prog 134 #[qv, .int .i64 0] w' fun e w'' => e = .returned (.bool od) ∧ w' = w'' := by
    intro w' h; rw [hod]; exact bit0_any h (lt32_div ln) (by omega)
  have hrs : ∀ w', Calls Oaig.prog 133 #[.int .u8 0, .bool neg, .bool od, .agg #[.int .i8 C, .bool s]] w' fun e w'' => e = .returned (.bool b) ∧ Ext w' w'' := by
    intro w'; rw [hb]; exact xraises_any w' neg od s C
  have hbit : Hid _ := hbit
  have hrs : Hid _ := hrs
  clear hC hod hb
  have hB : Blk w1 w.heap.size #[.int .i8 0, .bool false] := (Blk.new w _ 114).ext hext1
  have hw := hext1.of_alloc
  clear hext1
  go_wp2_with fail
  obtain ⟨W, hW⟩ : ∃ W, W = w1.alloc (.cells #[.int .i8 C, .bool s] 114) := ⟨_, rfl⟩
  have hP : Blk W w1.heap.size #[.int .i8 C, .bool s] := by rw [hW]; exact Blk.new _ _ _
  have hBW : Blk W w.heap.size #[.int .i8 0, .bool false] := by rw [hW]; exact hB.alloc _ _
  have hwW : Ext w W := by rw [hW]; exact hw.alloc _ _
  have hqW : NatV W qv (n / d) := by rw [hW]; exact hq1.ext ((Ext.refl _).alloc _ _)
  have hlt := hB.lt
  have hne : w1.heap.size ≠ w.heap.size := by omega
  rw [← hW]
  have d0 : ∀ w', Ext W w' → w'.cell? ⟨w1.heap.size, 0, none⟩ = some (.int .i8 C) := fun w' h => (hP.ext h).cell rfl
  have d1 : ∀ w', Ext W w' → w'.cell? ⟨w1.heap.size, 1, none⟩ = some (.bool s) := fun w' h => (hP.ext h).cell rfl
  have p0 := hP.cell (i := 0) rfl
  have p1 := hP.cell (i := 1) rfl
  clear hW hq1 hB hw
  go_region_held3 (fun w' => Ext W w') ((focus ((repeat (first | with_reducible assumption | with_reducible exact Ext.refl _ | with_reducible refine Ext.drew ?_ | with_reducible refine Ext.alloc ?_ _ _ | with_reducible refine Ext.setCell ?_ ?_ _ | with_reducible exact Nat.le_refl _ | (dsimp only; omega) | (simp only [World.size_alloc]; omega))); done))) (first
    | (go_at_call 134; refine Calls.mono (hbit.out _ (hqW.ext (by (focus ((repeat (first | with_reducible assumption | with_reducible exact Ext.refl _ | with_reducible refine Ext.drew ?_ | with_reducible refine Ext.alloc ?_ _ _ | with_reducible refine Ext.setCell ?_ ?_ _ | with_reducible exact Nat.le_refl _ | (dsimp only; omega) | (simp only [World.size_alloc]; omega))); done))))) ?_; rintro e w3 ⟨rfl, rfl⟩)
    | (go_at_call 133; refine Calls.mono (hrs.out _) ?_; rintro e w4 ⟨rfl, hext4⟩; have hq4 : Ext W w4 := Ext.trans (by (focus ((repeat (first | with_reducible assumption | with_reducible exact Ext.refl _ | with_reducible refine Ext.drew ?_ | with_reducible refine Ext.alloc ?_ _ _ | with_reducible refine Ext.setCell ?_ ?_ _ | with_reducible exact Nat.le_refl _ | (dsimp only; omega) | (simp only [World.size_alloc]; omega))); done))) hext4))
  have r0 := (hP.ext hq4).cell (i := 0) rfl
  have r1 := (hP.ext hq4).cell (i := 1) rfl
  have hB4 := hBW.ext hq4
  have hq := hqW.ext hq4
  have hw4 := hwW.trans hq4
  clear d0 d1 p0 p1
  cases b
  · have hv2 : Hid (rne n d = n / d) := by show rne n d = n / d; rw [hv.out]; rfl
    have s0 := hB4.cell (i := 0) rfl
    have s1 := hB4.cell (i := 1) rfl
    have sz := hB4.fz
    obtain ⟨ao1, n1, k1, rfl⟩ := hq.form
    go_wp2_with fail
    go_region
    go_wp2
    have hR := (hB4.set2 (a' := .int .i8 C) (b' := .bool s)).drew
    have hno := hB4.noLimb (by simp)
    exact bodyPost_ret (v := .tuple #[.slice ao1 n1 k1, .agg #[.int .i8 C, .bool s]]) (by simp [results, Oaig.results158, go_sem, hR.cell (i := 0) rfl, hR.cell (i := 1) rfl]) rfl ⟨_, _, _, rfl, (Ext.set2 hw4 (Nat.le_refl _) _ _).drew, by rw [hv2.out]; exact ((hq.set hno _ _).set (hno.set _ (by simp)) _ _).ext (Ext.refl _).drew⟩
  · have hv2 : Hid (rne n d = n / d + 1) := by show rne n d = n / d + 1; rw [hv.out]; rfl
    go_wp2_with fail
    refine (succ_any hq (lt32_div ln) (by omega)).mono ?_
    rintro e w5 ⟨v5, rfl, hext5, hv5⟩
    replace hB4 := hB4.ext hext5
    replace hw4 := hw4.trans hext5
    replace r0 := hext5.cell r0
    replace r1 := hext5.cell r1
    clear hq
    have hq := hv5
    have s0 := hB4.cell (i := 0) rfl
    have s1 := hB4.cell (i := 1) rfl
    have sz := hB4.fz
    obtain ⟨ao1, n1, k1, rfl⟩ := hq.form
    go_wp2_with fail
    go_region
    go_wp2
    have hR := (hB4.set2 (a' := .int .i8 C) (b' := .bool s)).drew
    have hno := hB4.noLimb (by simp)
    exact bodyPost_ret (v := .tuple #[.slice ao1 n1 k1, .agg #[.int .i8 C, .bool s]]) (by simp [results, Oaig.results158, go_sem, hR.cell (i := 0) rfl, hR.cell (i := 1) rfl]) rfl ⟨_, _, _, rfl, (Ext.set2 hw4 (Nat.le_refl _) _ _).drew, by rw [hv2.out]; exact ((hq.set hno _ _).set (hno.set _ (by simp)) _ _).ext (Ext.refl _).drew⟩

end Go.Proofs.Ygcoai
