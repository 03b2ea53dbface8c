/-
  Seat gcoai. exact.whole (161), exact.scaled (162), exact.Value (129), exact.open (86) at Binary32.
-/
import Derived.Test.YgcoaiTwo
import Derived.Test.YgcoaiSignals
import Derived.Deep.Cut
import Derived.Deep.RegionHeld3
namespace Go.Proofs.Ygcoai
open Go.RowKit

theorem wrap_i64 (n : Int) : IntKind.i64.wrap n = (n + 9223372036854775808) % 18446744073709551616 - 9223372036854775808 := by
  simp [IntKind.wrap, IntKind.bits, IntKind.signed]; omega

/-- No cell is a limb. -/
def NL (cs : Array Value) : Prop := ∀ v ∈ cs, ∀ z, v ≠ .int .u32 z

theorem NatV.over {w : World} {v : Value} {x B i : Nat} {cs : Array Value} (h : NatV w v x) (hB : Blk w B cs) (hn : NL cs) (u : Value) : NatV (w.setCell ⟨B, i, none⟩ u) v x :=
  h.set (hB.noLimb hn) _ _

theorem NatV.set3 {w : World} {v : Value} {x B : Nat} {a b c a' b' c' : Value} (h : NatV w v x) (hB : Blk w B #[a, b, c]) (hn : NL #[a, b, c]) (hn' : NL #[a', b', c']) :
    NatV (((w.setCell ⟨B, 0, none⟩ a').setCell ⟨B, 1, none⟩ b').setCell ⟨B, 2, none⟩ c') v x := by
  have n0 := hn a (by simp)
  have n1 := hn b (by simp)
  have n2 := hn c (by simp)
  have m0 := hn' a' (by simp)
  have m1 := hn' b' (by simp)
  have m2 := hn' c' (by simp)
  refine NatV.over (NatV.over (NatV.over h hB hn _) (hB.set' 0 a' rfl) ?_ _) ((hB.set' 0 a' rfl).set' 1 b' rfl) ?_ _
  · intro u hu z; simp at hu; rcases hu with rfl | rfl | rfl <;> first | exact m0 z | exact n1 z | exact n2 z
  · intro u hu z; simp at hu; rcases hu with rfl | rfl | rfl <;> first | exact m0 z | exact m1 z | exact n2 z

set_option maxHeartbeats 1000000 in
theorem whole_any {w : World} (neg : Bool) {nv : Value} {x : Nat} (hv : NatV w nv x) :
    Calls Oaig.prog 161 #[.bool neg, nv] w fun e w' => ∃ dv, e = .returned (.agg #[.bool neg, nv, dv]) ∧ Ext w w' ∧ NatV w' dv 1 := by
  obtain ⟨ao1, n1, k1, rfl⟩ := hv.form
  go_enter Oaig.func161, Oaig.ntmps161
  go_wp2_with fail
  refine (fromU64_int _ 1 1 (by decide) rfl).mono ?_
  rintro e w1 ⟨v1, rfl, hext1, hv1⟩
  obtain ⟨ao2, n2, k2, rfl⟩ := hv1.form
  have hB : Blk w1 w.heap.size #[.bool false, .slice none 0 0, .slice none 0 0] := (Blk.new w _ 40).ext hext1
  have c0 := hB.cell (i := 0) rfl
  have c1 := hB.cell (i := 1) rfl
  have c2 := hB.cell (i := 2) rfl
  have cz := hB.fz
  go_wp2
  have hR := hB.set3 (a' := .bool neg) (b' := .slice ao1 n1 k1) (c' := .slice ao2 n2 k2)
  exact bodyPost_ret (v := .agg #[.bool neg, .slice ao1 n1 k1, .slice ao2 n2 k2]) (by simp [results, Oaig.results161, go_sem, hR.cell (i := 0) rfl, hR.cell (i := 1) rfl, hR.cell (i := 2) rfl]) rfl ⟨_, rfl, Ext.set3 hext1.of_alloc (Nat.le_refl _) _ _ _, hv1.set3 hB (by simp [NL]) (by simp [NL])⟩

set_option maxHeartbeats 1000000 in
theorem scaled_neg {w : World} (neg : Bool) {nv : Value} {x : Nat} (hv : NatV w nv x) (k : Int) (j : Nat) (hk : k = -(j : Int)) (hj1 : 1 ≤ j) (hj2 : j ≤ 60000) :
    Calls Oaig.prog 162 #[.bool neg, nv, .int .i64 k] w fun e w' => ∃ dv, e = .returned (.agg #[.bool neg, nv, dv]) ∧ Ext w w' ∧ NatV w' dv (2 ^ j) := by
  subst hk
  obtain ⟨ao1, n1, k1, rfl⟩ := hv.form
  go_enter Oaig.func162, Oaig.ntmps162
  go_wp2_with fail
  refine (fromU64_int _ 1 1 (by decide) rfl).mono ?_
  rintro e w1 ⟨v1, rfl, hext1, hv1⟩
  go_wp2_with fail
  refine (shl_any hv1 (lt32_one 1 (by omega)) (by omega) j (by omega)).mono ?_
  rintro e w2 ⟨v2, rfl, hext2, hv2⟩
  obtain ⟨ao2, n2, k2, rfl⟩ := hv2.form
  rw [Nat.one_mul] at hv2
  have hB : Blk w2 w.heap.size #[.bool false, .slice none 0 0, .slice none 0 0] := (Blk.new w _ 40).ext (hext1.trans hext2)
  have c0 := hB.cell (i := 0) rfl
  have c1 := hB.cell (i := 1) rfl
  have c2 := hB.cell (i := 2) rfl
  have cz := hB.fz
  go_wp2
  have hR := hB.set3 (a' := .bool neg) (b' := .slice ao1 n1 k1) (c' := .slice ao2 n2 k2)
  exact bodyPost_ret (v := .agg #[.bool neg, .slice ao1 n1 k1, .slice ao2 n2 k2]) (by simp [results, Oaig.results162, go_sem, hR.cell (i := 0) rfl, hR.cell (i := 1) rfl, hR.cell (i := 2) rfl]) rfl ⟨_, rfl, Ext.set3 (hext1.trans hext2).of_alloc (Nat.le_refl _) _ _ _, hv2.set3 hB (by simp [NL]) (by simp [NL])⟩

set_option maxHeartbeats 1000000 in
theorem scaled_pos {w : World} (neg : Bool) {nv : Value} {x : Nat} (hv : NatV w nv x) (hx : Lt32 x 10) (j : Nat) (hj2 : j ≤ 60000) :
    Calls Oaig.prog 162 #[.bool neg, nv, .int .i64 j] w fun e w' => ∃ nv' dv, e = .returned (.agg #[.bool neg, nv', dv]) ∧ Ext w w' ∧ NatV w' nv' (x * 2 ^ j) ∧ NatV w' dv 1 := by
  obtain ⟨ao1, n1, k1, rfl⟩ := hv.form
  go_enter Oaig.func162, Oaig.ntmps162
  go_wp2_with fail
  refine (shl_any (hv.ext ((Ext.refl w).alloc _ _)) hx (by omega) j (by omega)).mono ?_
  rintro e w1 ⟨v1, rfl, hext1, hv1⟩
  obtain ⟨ao2, n2, k2, rfl⟩ := hv1.form
  go_wp2_with fail
  refine (whole_any neg hv1).mono ?_
  rintro e w2 ⟨v2, rfl, hext2, hv2⟩
  obtain ⟨ao3, n3, k3, rfl⟩ := hv2.form
  have hB : Blk w2 w.heap.size #[.bool false, .slice none 0 0, .slice none 0 0] := (Blk.new w _ 40).ext (hext1.trans hext2)
  have c0 := hB.cell (i := 0) rfl
  have c1 := hB.cell (i := 1) rfl
  have c2 := hB.cell (i := 2) rfl
  have cz := hB.fz
  go_wp2
  have hR := hB.set3 (a' := .bool neg) (b' := .slice ao2 n2 k2) (c' := .slice ao3 n3 k3)
  exact bodyPost_ret (v := .agg #[.bool neg, .slice ao2 n2 k2, .slice ao3 n3 k3]) (by simp [results, Oaig.results162, go_sem, hR.cell (i := 0) rfl, hR.cell (i := 1) rfl, hR.cell (i := 2) rfl]) rfl ⟨_, _, rfl, Ext.set3 (hext1.trans hext2).of_alloc (Nat.le_refl _) _ _ _, (hv1.ext hext2).set3 hB (by simp [NL]) (by simp [NL]), hv2.set3 hB (by simp [NL]) (by simp [NL])⟩

/-- The value's numerator and denominator. -/
def vN (x : Nat) : Nat := pM x * 2 ^ (pX x).toNat
def vD (x : Nat) : Nat := 2 ^ (-pX x).toNat

theorem scaled_any {w : World} (neg : Bool) {nv : Value} {x : Nat} (hv : NatV w nv x) (hx : Lt32 x 10) (k : Int) (h1 : -60000 ≤ k) (h2 : k ≤ 60000) :
    Calls Oaig.prog 162 #[.bool neg, nv, .int .i64 k] w fun e w' => ∃ nv' dv, e = .returned (.agg #[.bool neg, nv', dv]) ∧ Ext w w' ∧ NatV w' nv' (x * 2 ^ k.toNat) ∧ NatV w' dv (2 ^ (-k).toNat) := by
  rcases Int.lt_or_le k 0 with h | h
  · refine (scaled_neg neg hv k (-k).toNat (by omega) (by omega) (by omega)).mono ?_
    rintro e w' ⟨dv, rfl, he, hd⟩
    refine ⟨nv, dv, rfl, he, ?_, hd⟩
    rw [show k.toNat = 0 by omega]; simpa using hv.ext he
  · obtain ⟨j, rfl⟩ : ∃ j : Nat, k = j := ⟨k.toNat, by omega⟩
    refine (scaled_pos neg hv hx j (by omega)).mono ?_
    rintro e w' ⟨nv', dv, rfl, he, hn, hd⟩
    refine ⟨nv', dv, rfl, he, by simpa using hn, ?_⟩
    rw [show (-(j : Int)).toNat = 0 by omega]; exact hd

set_option maxRecDepth 20000 in
set_option maxHeartbeats 2000000 in
theorem value_fin (w : World) (x : Nat) (hx : x < 4294967296) (hc : pC x = 0 ∨ pC x = 1 ∨ pC x = 2) :
    Calls Oaig.prog 129 #[.agg #[.int .u8 8, .int .u8 23], .int .u64 x] w fun e w' => ∃ nv dv, e = .returned (.tuple #[.agg #[.bool (pN x), nv, dv], .int .i8 (pC x)]) ∧ Ext w w' ∧ NatV w' nv (vN x) ∧ NatV w' dv (vD x) := by
  have hm : pM x < 16777216 := by
    rcases hc with h | h
    · rw [(parts_zero (x := x) (by omega)).1]; omega
    · exact (parts_fin (x := x) (by omega)).2.1
  have hX : -172 ≤ pX x ∧ pX x ≤ 104 := by
    rcases hc with h | h
    · rw [(parts_zero (x := x) (by omega)).2]; omega
    · have := parts_fin (x := x) (by omega); omega
  have hl : Lt32 (pM x) 10 := Lt32.mono (y := 16777216) (L := 1) (show 16777216 < 4294967296 ^ 1 by decide) (by omega) (by omega)
  obtain ⟨cx, hcx⟩ : ∃ c, c = pC x := ⟨_, rfl⟩
  obtain ⟨nx, hnx⟩ : ∃ c, c = pN x := ⟨_, rfl⟩
  obtain ⟨mx, hmx⟩ : ∃ c, c = pM x := ⟨_, rfl⟩
  obtain ⟨xx, hxx⟩ : ∃ c, c = pX x := ⟨_, rfl⟩
  have hU := fun w' => unpack_any w' x hx
  unfold vN vD
  rw [← hcx, ← hnx, ← hmx, ← hxx]
  rw [← hcx, ← hnx, ← hmx, ← hxx] at hU
  rw [← hcx] at hc
  rw [← hmx] at hm hl
  rw [← hxx] at hX
  have hU : Hid _ := hU
  have hx1 := hX.1
  have hx2 := hX.2
  have g4 : (cx == 4) = false := by rw [beq_eq_false_iff_ne]; omega
  have g3 : (cx == 3) = false := by rw [beq_eq_false_iff_ne]; omega
  clear hcx hnx hmx hxx hX hx hc
  go_enter Oaig.func129, Oaig.ntmps129
  go_wp2_with fail
  refine (ok_any _).mono ?_
  rintro e w1 ⟨rfl, hext1⟩
  have hF : Blk w1 w.heap.size #[.int .u8 8, .int .u8 23] := Blk.two1 hext1
  have hR : Blk w1 (w.heap.size + 1) #[.bool false, .slice none 0 0, .slice none 0 0] := Blk.two2 hext1
  have hw := hext1.of_alloc2
  have a0 := hF.cell (i := 0) rfl
  have a1 := hF.cell (i := 1) rfl
  clear hext1
  go_wp2_with fail
  refine Calls.mono (hU.out _) ?_
  rintro e w2 ⟨rfl, hext2⟩
  replace hw := hw.trans hext2
  replace hF := hF.ext hext2
  replace hR := hR.ext hext2
  replace a0 := hF.cell (i := 0) rfl
  replace a1 := hF.cell (i := 1) rfl
  have r0 := hR.cell (i := 0) rfl
  have r1 := hR.cell (i := 1) rfl
  have r2 := hR.cell (i := 2) rfl
  clear hext2 hU
  go_wp2_with fail
  obtain ⟨W, hW⟩ : ∃ W, W = w2.alloc (.cells #[.bool nx, .int .i8 cx, .int .i16 xx, .int .u64 mx] 98) := ⟨_, rfl⟩
  have hP : Blk W w2.heap.size #[.bool nx, .int .i8 cx, .int .i16 xx, .int .u64 mx] := by rw [hW]; exact Blk.new _ _ _
  have hRW : Blk W (w.heap.size + 1) #[.bool false, .slice none 0 0, .slice none 0 0] := by rw [hW]; exact hR.alloc _ _
  have hwW : Ext w W := by rw [hW]; exact hw.alloc _ _
  have hlt := hR.lt
  have hne : w2.heap.size ≠ w.heap.size + 1 := by omega
  have hwr : IntKind.i64.wrap xx = xx := by simp only [wrap_i64]; omega
  have b0 := hP.cell (i := 0) rfl
  have b1 := hP.cell (i := 1) rfl
  have b2 := hP.cell (i := 2) rfl
  have b3 := hP.cell (i := 3) rfl
  rw [← hW]
  clear hW hF a0 a1 r0 r1 r2 hR hw
  have d0 : ∀ w', (Ext w w' ∧ Blk w' w2.heap.size #[.bool nx, .int .i8 cx, .int .i16 xx, .int .u64 mx]) → w'.cell? ⟨w2.heap.size, 0, none⟩ = some (.bool nx) := fun w' h => h.2.cell rfl
  have d1 : ∀ w', (Ext w w' ∧ Blk w' w2.heap.size #[.bool nx, .int .i8 cx, .int .i16 xx, .int .u64 mx]) → w'.cell? ⟨w2.heap.size, 1, none⟩ = some (.int .i8 cx) := fun w' h => h.2.cell rfl
  have d2 : ∀ w', (Ext w w' ∧ Blk w' w2.heap.size #[.bool nx, .int .i8 cx, .int .i16 xx, .int .u64 mx]) → w'.cell? ⟨w2.heap.size, 2, none⟩ = some (.int .i16 xx) := fun w' h => h.2.cell rfl
  have d3 : ∀ w', (Ext w w' ∧ Blk w' w2.heap.size #[.bool nx, .int .i8 cx, .int .i16 xx, .int .u64 mx]) → w'.cell? ⟨w2.heap.size, 3, none⟩ = some (.int .u64 mx) := fun w' h => h.2.cell rfl
  go_region_held3 (fun w' => Ext w w' ∧ Blk w' w2.heap.size #[.bool nx, .int .i8 cx, .int .i16 xx, .int .u64 mx]) (first | with_reducible assumption | (refine ⟨?_, ?_⟩; (focus ((repeat (first | with_reducible assumption | with_reducible exact Ext.refl _ | with_reducible refine Ext.drew ?_ | with_reducible refine Ext.alloc ?_ _ _ | with_reducible refine Ext.setCell ?_ ?_ _ | with_reducible exact Nat.le_refl _ | (dsimp only; omega) | (simp only [World.size_alloc]; omega))); done)); (focus ((repeat (first | with_reducible assumption | with_reducible exact Blk.new _ _ _ | with_reducible exact Blk.new' _ _ (by simp) | with_reducible refine Blk.alloc ?_ _ _ | with_reducible refine Blk.set4 (a := .bool false) (b := .int .i8 0) (c := .int .i16 0) (d := .int .u64 0) ?_ | with_reducible refine Blk.setOther4 ?_ ?_ | with_reducible refine Blk.setOther ?_ ?_ _ | with_reducible refine Blk.drew ?_ | (apply Ne.symm; with_reducible assumption) | omega)); done)))) (first
    | (go_at_call 37; refine (fromU64_any _ mx (by omega)).mono ?_; rintro e w3 ⟨v3, rfl, hext3, hv3⟩; have hq3 : Ext W w3 := Ext.trans (by (focus ((repeat (first | with_reducible assumption | with_reducible exact Ext.refl _ | with_reducible refine Ext.drew ?_ | with_reducible refine Ext.alloc ?_ _ _ | with_reducible refine Ext.setCell ?_ ?_ _ | with_reducible exact Nat.le_refl _ | (dsimp only; omega) | (simp only [World.size_alloc]; omega))); done))) hext3; have hq3' : Ext w w3 := hwW.trans hq3; have hp3 := hP.ext hq3)
    | (go_at_call 162; refine (scaled_any nx hv3 hl xx (by omega) (by omega)).mono ?_; rintro e w4 ⟨nv4, dv4, rfl, hext4, hn4, hd4⟩; have hq4 : Ext W w4 := Ext.trans (by (focus ((repeat (first | with_reducible assumption | with_reducible exact Ext.refl _ | with_reducible refine Ext.drew ?_ | with_reducible refine Ext.alloc ?_ _ _ | with_reducible refine Ext.setCell ?_ ?_ _ | with_reducible exact Nat.le_refl _ | (dsimp only; omega) | (simp only [World.size_alloc]; omega))); done))) hext4; have hq4' : Ext w w4 := hwW.trans hq4; have hp4 := hP.ext hq4; have hr4 := hRW.ext hq4; have s0 := hr4.cell (i := 0) rfl; have s1 := hr4.cell (i := 1) rfl; have s2 := hr4.cell (i := 2) rfl; have sz := hr4.fz; obtain ⟨ao1, n1, k1, rfl⟩ := hn4.form; obtain ⟨ao2, n2, k2, rfl⟩ := hd4.form))
  go_wp2
  have hR4 := hr4.set3 (a' := .bool nx) (b' := .slice ao1 n1 k1) (c' := .slice ao2 n2 k2)
  exact bodyPost_ret (v := .tuple #[.agg #[.bool nx, .slice ao1 n1 k1, .slice ao2 n2 k2], .int .i8 cx]) (by simp [results, Oaig.results129, go_sem, hR4.cell (i := 0) rfl, hR4.cell (i := 1) rfl, hR4.cell (i := 2) rfl]) rfl ⟨_, _, rfl, Ext.set3 hq4' (by omega) _ _ _, hn4.set3 hr4 (by simp [NL]) (by simp [NL]), hd4.set3 hr4 (by simp [NL]) (by simp [NL])⟩

set_option maxRecDepth 20000 in
set_option maxHeartbeats 2000000 in
theorem value_inf (w : World) (x : Nat) (hx : x < 4294967296) (hc : pC x = 3) :
    Calls Oaig.prog 129 #[.agg #[.int .u8 8, .int .u8 23], .int .u64 x] w fun e w' => ∃ nv dv, e = .returned (.tuple #[.agg #[.bool false, nv, dv], .int .i8 3]) ∧ Ext w w' ∧ NatV w' nv 0 ∧ NatV w' dv 1 := by
  obtain ⟨nx, hnx⟩ : ∃ c, c = pN x := ⟨_, rfl⟩
  obtain ⟨mx, hmx⟩ : ∃ c, c = pM x := ⟨_, rfl⟩
  obtain ⟨xx, hxx⟩ : ∃ c, c = pX x := ⟨_, rfl⟩
  have hU := fun w' => unpack_any w' x hx
  rw [hc, ← hnx, ← hmx, ← hxx] at hU
  have hU : Hid _ := hU
  clear hnx hmx hxx hx hc
  go_enter Oaig.func129, Oaig.ntmps129
  go_wp2_with fail
  refine (ok_any _).mono ?_
  rintro e w1 ⟨rfl, hext1⟩
  have hF : Blk w1 w.heap.size #[.int .u8 8, .int .u8 23] := Blk.two1 hext1
  have hR : Blk w1 (w.heap.size + 1) #[.bool false, .slice none 0 0, .slice none 0 0] := Blk.two2 hext1
  have hw := hext1.of_alloc2
  have a0 := hF.cell (i := 0) rfl
  have a1 := hF.cell (i := 1) rfl
  clear hext1
  go_wp2_with fail
  refine Calls.mono (hU.out _) ?_
  rintro e w2 ⟨rfl, hext2⟩
  replace hw := hw.trans hext2
  replace hF := hF.ext hext2
  replace hR := hR.ext hext2
  replace a0 := hF.cell (i := 0) rfl
  replace a1 := hF.cell (i := 1) rfl
  have r0 := hR.cell (i := 0) rfl
  have r1 := hR.cell (i := 1) rfl
  have r2 := hR.cell (i := 2) rfl
  clear hext2 hU
  go_wp2_with fail
  obtain ⟨W, hW⟩ : ∃ W, W = w2.alloc (.cells #[.bool nx, .int .i8 3, .int .i16 xx, .int .u64 mx] 98) := ⟨_, rfl⟩
  have hP : Blk W w2.heap.size #[.bool nx, .int .i8 3, .int .i16 xx, .int .u64 mx] := by rw [hW]; exact Blk.new _ _ _
  have hRW : Blk W (w.heap.size + 1) #[.bool false, .slice none 0 0, .slice none 0 0] := by rw [hW]; exact hR.alloc _ _
  have hwW : Ext w W := by rw [hW]; exact hw.alloc _ _
  have hlt := hR.lt
  have hne : w2.heap.size ≠ w.heap.size + 1 := by omega
  have b1 := hP.cell (i := 1) rfl
  rw [← hW]
  clear hW hF a0 a1 r0 r1 r2 hR hw
  have d1 : ∀ w', (Ext w w' ∧ Blk w' w2.heap.size #[.bool nx, .int .i8 3, .int .i16 xx, .int .u64 mx]) → w'.cell? ⟨w2.heap.size, 1, none⟩ = some (.int .i8 3) := fun w' h => h.2.cell rfl
  go_region_held3 (fun w' => Ext w w' ∧ Blk w' w2.heap.size #[.bool nx, .int .i8 3, .int .i16 xx, .int .u64 mx]) (first | with_reducible assumption | (refine ⟨?_, ?_⟩; (focus ((repeat (first | with_reducible assumption | with_reducible exact Ext.refl _ | with_reducible refine Ext.drew ?_ | with_reducible refine Ext.alloc ?_ _ _ | with_reducible refine Ext.setCell ?_ ?_ _ | with_reducible exact Nat.le_refl _ | (dsimp only; omega) | (simp only [World.size_alloc]; omega))); done)); (focus ((repeat (first | with_reducible assumption | with_reducible exact Blk.new _ _ _ | with_reducible exact Blk.new' _ _ (by simp) | with_reducible refine Blk.alloc ?_ _ _ | with_reducible refine Blk.set4 (a := .bool false) (b := .int .i8 0) (c := .int .i16 0) (d := .int .u64 0) ?_ | with_reducible refine Blk.setOther4 ?_ ?_ | with_reducible refine Blk.setOther ?_ ?_ _ | with_reducible refine Blk.drew ?_ | (apply Ne.symm; with_reducible assumption) | omega)); done)))) (first
    | (go_at_call 161; refine (whole_any false (natV_nil _)).mono ?_; rintro e w4 ⟨dv4, rfl, hext4, hd4⟩; have hq4 : Ext W w4 := Ext.trans (by (focus ((repeat (first | with_reducible assumption | with_reducible exact Ext.refl _ | with_reducible refine Ext.drew ?_ | with_reducible refine Ext.alloc ?_ _ _ | with_reducible refine Ext.setCell ?_ ?_ _ | with_reducible exact Nat.le_refl _ | (dsimp only; omega) | (simp only [World.size_alloc]; omega))); done))) hext4; have hq4' : Ext w w4 := hwW.trans hq4; have hp4 := hP.ext hq4; have hr4 := hRW.ext hq4; have s0 := hr4.cell (i := 0) rfl; have s1 := hr4.cell (i := 1) rfl; have s2 := hr4.cell (i := 2) rfl; have sz := hr4.fz; obtain ⟨ao2, n2, k2, rfl⟩ := hd4.form))
  go_wp2
  have hR4 := hr4.set3 (a' := .bool false) (b' := .slice none 0 0) (c' := .slice ao2 n2 k2)
  exact bodyPost_ret (v := .tuple #[.agg #[.bool false, .slice none 0 0, .slice ao2 n2 k2], .int .i8 3]) (by simp [results, Oaig.results129, go_sem, hR4.cell (i := 0) rfl, hR4.cell (i := 1) rfl, hR4.cell (i := 2) rfl]) rfl ⟨_, _, rfl, Ext.set3 hq4' (by omega) _ _ _, natV_nil _, hd4.set3 hr4 (by simp [NL]) (by simp [NL])⟩

set_option maxRecDepth 20000 in
set_option maxHeartbeats 2000000 in
theorem value_nan (w : World) (x : Nat) (hx : x < 4294967296) (hc : pC x = 4) :
    Calls Oaig.prog 129 #[.agg #[.int .u8 8, .int .u8 23], .int .u64 x] w fun e w' => ∃ nv dv, e = .returned (.tuple #[.agg #[.bool false, nv, dv], .int .i8 4]) ∧ Ext w w' ∧ NatV w' nv 0 ∧ NatV w' dv 1 := by
  obtain ⟨nx, hnx⟩ : ∃ c, c = pN x := ⟨_, rfl⟩
  obtain ⟨mx, hmx⟩ : ∃ c, c = pM x := ⟨_, rfl⟩
  obtain ⟨xx, hxx⟩ : ∃ c, c = pX x := ⟨_, rfl⟩
  have hU := fun w' => unpack_any w' x hx
  rw [hc, ← hnx, ← hmx, ← hxx] at hU
  have hU : Hid _ := hU
  clear hnx hmx hxx hx hc
  go_enter Oaig.func129, Oaig.ntmps129
  go_wp2_with fail
  refine (ok_any _).mono ?_
  rintro e w1 ⟨rfl, hext1⟩
  have hF : Blk w1 w.heap.size #[.int .u8 8, .int .u8 23] := Blk.two1 hext1
  have hR : Blk w1 (w.heap.size + 1) #[.bool false, .slice none 0 0, .slice none 0 0] := Blk.two2 hext1
  have hw := hext1.of_alloc2
  have a0 := hF.cell (i := 0) rfl
  have a1 := hF.cell (i := 1) rfl
  clear hext1
  go_wp2_with fail
  refine Calls.mono (hU.out _) ?_
  rintro e w2 ⟨rfl, hext2⟩
  replace hw := hw.trans hext2
  replace hF := hF.ext hext2
  replace hR := hR.ext hext2
  replace a0 := hF.cell (i := 0) rfl
  replace a1 := hF.cell (i := 1) rfl
  have r0 := hR.cell (i := 0) rfl
  have r1 := hR.cell (i := 1) rfl
  have r2 := hR.cell (i := 2) rfl
  clear hext2 hU
  go_wp2_with fail
  obtain ⟨W, hW⟩ : ∃ W, W = w2.alloc (.cells #[.bool nx, .int .i8 4, .int .i16 xx, .int .u64 mx] 98) := ⟨_, rfl⟩
  have hP : Blk W w2.heap.size #[.bool nx, .int .i8 4, .int .i16 xx, .int .u64 mx] := by rw [hW]; exact Blk.new _ _ _
  have hRW : Blk W (w.heap.size + 1) #[.bool false, .slice none 0 0, .slice none 0 0] := by rw [hW]; exact hR.alloc _ _
  have hwW : Ext w W := by rw [hW]; exact hw.alloc _ _
  have hlt := hR.lt
  have hne : w2.heap.size ≠ w.heap.size + 1 := by omega
  have b1 := hP.cell (i := 1) rfl
  rw [← hW]
  clear hW hF a0 a1 r0 r1 r2 hR hw
  have d1 : ∀ w', (Ext w w' ∧ Blk w' w2.heap.size #[.bool nx, .int .i8 4, .int .i16 xx, .int .u64 mx]) → w'.cell? ⟨w2.heap.size, 1, none⟩ = some (.int .i8 4) := fun w' h => h.2.cell rfl
  go_region_held3 (fun w' => Ext w w' ∧ Blk w' w2.heap.size #[.bool nx, .int .i8 4, .int .i16 xx, .int .u64 mx]) (first | with_reducible assumption | (refine ⟨?_, ?_⟩; (focus ((repeat (first | with_reducible assumption | with_reducible exact Ext.refl _ | with_reducible refine Ext.drew ?_ | with_reducible refine Ext.alloc ?_ _ _ | with_reducible refine Ext.setCell ?_ ?_ _ | with_reducible exact Nat.le_refl _ | (dsimp only; omega) | (simp only [World.size_alloc]; omega))); done)); (focus ((repeat (first | with_reducible assumption | with_reducible exact Blk.new _ _ _ | with_reducible exact Blk.new' _ _ (by simp) | with_reducible refine Blk.alloc ?_ _ _ | with_reducible refine Blk.set4 (a := .bool false) (b := .int .i8 0) (c := .int .i16 0) (d := .int .u64 0) ?_ | with_reducible refine Blk.setOther4 ?_ ?_ | with_reducible refine Blk.setOther ?_ ?_ _ | with_reducible refine Blk.drew ?_ | (apply Ne.symm; with_reducible assumption) | omega)); done)))) (first
    | (go_at_call 161; refine (whole_any false (natV_nil _)).mono ?_; rintro e w4 ⟨dv4, rfl, hext4, hd4⟩; have hq4 : Ext W w4 := Ext.trans (by (focus ((repeat (first | with_reducible assumption | with_reducible exact Ext.refl _ | with_reducible refine Ext.drew ?_ | with_reducible refine Ext.alloc ?_ _ _ | with_reducible refine Ext.setCell ?_ ?_ _ | with_reducible exact Nat.le_refl _ | (dsimp only; omega) | (simp only [World.size_alloc]; omega))); done))) hext4; have hq4' : Ext w w4 := hwW.trans hq4; have hp4 := hP.ext hq4; have hr4 := hRW.ext hq4; have s0 := hr4.cell (i := 0) rfl; have s1 := hr4.cell (i := 1) rfl; have s2 := hr4.cell (i := 2) rfl; have sz := hr4.fz; obtain ⟨ao2, n2, k2, rfl⟩ := hd4.form))
  go_wp2
  have hR4 := hr4.set3 (a' := .bool false) (b' := .slice none 0 0) (c' := .slice ao2 n2 k2)
  exact bodyPost_ret (v := .tuple #[.agg #[.bool false, .slice none 0 0, .slice ao2 n2 k2], .int .i8 4]) (by simp [results, Oaig.results129, go_sem, hR4.cell (i := 0) rfl, hR4.cell (i := 1) rfl, hR4.cell (i := 2) rfl]) rfl ⟨_, _, rfl, Ext.set3 hq4' (by omega) _ _ _, natV_nil _, hd4.set3 hr4 (by simp [NL]) (by simp [NL])⟩

theorem value_any (w : World) (x : Nat) (hx : x < 4294967296) :
    Calls Oaig.prog 129 #[.agg #[.int .u8 8, .int .u8 23], .int .u64 x] w fun e w' => ∃ ng nv dv, e = .returned (.tuple #[.agg #[.bool ng, nv, dv], .int .i8 (pC x)]) ∧ Ext w w' ∧ NatV w' nv (vN x) ∧ NatV w' dv (vD x) ∧ (pC x ≤ 2 → ng = pN x) := by
  have hk := parts_cases x
  by_cases h : pC x = 3 ∨ pC x = 4
  · have hz := parts_zero (x := x) (by omega)
    have e1 : vN x = 0 := by unfold vN; rw [hz.1]; simp
    have e2 : vD x = 1 := by unfold vD; rw [hz.2]; rfl
    rw [e1, e2]
    rcases h with h | h
    · rw [h]
      refine (value_inf w x hx h).mono ?_
      rintro e w' ⟨nv, dv, rfl, h1, h2, h3⟩
      exact ⟨_, _, _, rfl, h1, h2, h3, fun h => absurd h (by decide)⟩
    · rw [h]
      refine (value_nan w x hx h).mono ?_
      rintro e w' ⟨nv, dv, rfl, h1, h2, h3⟩
      exact ⟨_, _, _, rfl, h1, h2, h3, fun h => absurd h (by decide)⟩
  · refine (value_fin w x hx (by omega)).mono ?_
    rintro e w' ⟨nv, dv, rfl, h1, h2, h3⟩
    exact ⟨_, _, _, rfl, h1, h2, h3, fun _ => rfl⟩

end Go.Proofs.Ygcoai
