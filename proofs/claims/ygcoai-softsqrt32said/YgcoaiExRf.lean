/-
  Seat gcoai. exact.RoundFlags (116) at Binary32, NearestEven.
-/
import Derived.Test.YgcoaiRnd
namespace Go.Proofs.Ygcoai
open Go.RowKit


set_option maxRecDepth 20000 in
set_option maxHeartbeats 2000000 in
theorem roundFlags_zero {w : World} (neg : Bool) {nv dv : Value} {n d L : Nat} (hn : NatV w nv n) (hd : NatV w dv d) (ln : Lt32 n L) (ld : Lt32 d L) (hL : L ≤ 50) (h0 : d ≠ 0) (hz : n = 0) :
    Calls Oaig.prog 116 #[.agg #[.int .u8 8, .int .u8 23], .int .u8 0, .agg #[.bool neg, nv, dv]] w fun e w' => ∃ fl : Int, e = .returned (.tuple #[.int .u64 (rnd n d + sgn neg : Nat), .int .u8 fl]) ∧ Ext w w' := by
  have hr : Hid (rnd n d = 0) := by show rnd n d = 0; unfold rnd; rw [if_pos hz]
  obtain ⟨ao1, n1, k1, rfl⟩ := hn.form
  obtain ⟨ao2, n2, k2, rfl⟩ := hd.form
  go_enter Oaig.func116, Oaig.ntmps116
  go_wp2_with fail
  refine (ok_any _).mono ?_
  rintro e w1 ⟨rfl, hext1⟩
  have hF : Blk w1 w.heap.size #[.int .u8 8, .int .u8 23] := Blk.two1 hext1
  have hQ : Blk w1 (w.heap.size + 1) #[.bool neg, .slice ao1 n1 k1, .slice ao2 n2 k2] := Blk.two2 hext1
  have hw := hext1.of_alloc2
  have a0 := hF.cell (i := 0) rfl
  have a1 := hF.cell (i := 1) rfl
  have b0 := hQ.cell (i := 0) rfl
  have b1 := hQ.cell (i := 1) rfl
  have b2 := hQ.cell (i := 2) rfl
  clear hext1
  go_wp2_with fail
  refine (makeRat_any neg (hn.ext hw) (hd.ext hw) ln ld (by omega) h0).mono ?_
  rintro e w2 ⟨nv2, dv2, rfl, hext2, hn2, hd2⟩
  obtain ⟨ao3, n3, k3, rfl⟩ := hn2.form
  obtain ⟨ao4, n4, k4, rfl⟩ := hd2.form
  replace hF := hF.ext hext2
  replace hQ := hQ.ext hext2
  replace hw := hw.trans hext2
  replace a0 := hF.cell (i := 0) rfl
  replace a1 := hF.cell (i := 1) rfl
  replace b0 := hQ.cell (i := 0) rfl
  replace b1 := hQ.cell (i := 1) rfl
  replace b2 := hQ.cell (i := 2) rfl
  have bz := hQ.fz
  clear hext2
  obtain ⟨W, hW⟩ : ∃ W, W = ((w2.setCell ⟨w.heap.size + 1, 0, none⟩ (.bool neg)).setCell ⟨w.heap.size + 1, 1, none⟩ (.slice ao3 n3 k3)).setCell ⟨w.heap.size + 1, 2, none⟩ (.slice ao4 n4 k4) := ⟨_, rfl⟩
  have hFW : Blk W w.heap.size #[.int .u8 8, .int .u8 23] := by rw [hW]; exact ((hF.setOther (by omega) _).setOther (by omega) _).setOther (by omega) _
  have hQW : Blk W (w.heap.size + 1) #[.bool neg, .slice ao3 n3 k3, .slice ao4 n4 k4] := by rw [hW]; exact hQ.set3
  have hwW : Ext w W := by rw [hW]; exact Ext.set3 hw (by omega) _ _ _
  have hnW : NatV W (.slice ao3 n3 k3) n := by rw [hW]; exact hn2.set3 hQ (by simp [NL]) (by simp [NL])
  have hdW : NatV W (.slice ao4 n4 k4) d := by rw [hW]; exact hd2.set3 hQ (by simp [NL]) (by simp [NL])
  have e3 := hn2.zero hz
  have q38 : ∀ (w : World) (n' c' : Nat), (binOp .eql 38 (.slice ao3 n3 k3) (.slice none n' c')).run Oaig.prog w = .ok (.bool true) w := by
    intro w n' c'; rw [e3]; exact eqnil38 w none 0 0 n' c'
  have x0 := hFW.cell (i := 0) rfl
  have x1 := hFW.cell (i := 1) rfl
  have x2 := hQW.cell (i := 0) rfl
  rw [hW] at x0 x1 x2
  clear e3 hn2 hd2
  have hWW : Hid _ := hW
  clear hW hFW hQW hnW hdW hF hQ
  go_wp2_with fail
  refine (xzero_any _ neg).mono ?_
  rintro e w3 ⟨rfl, hext3⟩
  go_wp2
  go_ret2
  refine ⟨_, by rw [hr.out, Nat.zero_add]; rfl, ?_⟩
  rw [← hWW.out] at hext3
  exact hwW.trans hext3

theorem NatV.notNil {w : World} {ao : Option Addr} {n c x : Nat} (h : NatV w (.slice ao n c) x) (hx : x ≠ 0) : ao.isNone = false := by
  cases ao with
  | some a => rfl
  | none =>
    exfalso
    obtain ⟨m, f, ⟨_, ao', c', hs, _, hc⟩, _, _, hv⟩ := h
    cases hs
    by_cases hm : n = 0
    · subst hm; exact hx hv.symm
    · obtain ⟨b, o, hb, _⟩ := hc hm; exact absurd hb (by simp)

set_option maxRecDepth 20000 in
set_option maxHeartbeats 4000000 in
theorem roundFlags_over {w : World} (neg : Bool) {nv dv : Value} {n d L : Nat} (hn : NatV w nv n) (hd : NatV w dv d) (ln : Lt32 n L) (ld : Lt32 d L) (hL : L ≤ 50) (h0 : d ≠ 0) (hz : n ≠ 0) (hR : Hid (lgB n d = 128)) :
    Calls Oaig.prog 116 #[.agg #[.int .u8 8, .int .u8 23], .int .u8 0, .agg #[.bool neg, nv, dv]] w fun e w' => ∃ fl : Int, e = .returned (.tuple #[.int .u64 (rnd n d + sgn neg : Nat), .int .u8 fl]) ∧ Ext w w' := by
  obtain ⟨ao1, n1, k1, rfl⟩ := hn.form
  obtain ⟨ao2, n2, k2, rfl⟩ := hd.form
  go_enter Oaig.func116, Oaig.ntmps116
  go_wp2_with fail
  refine (ok_any _).mono ?_
  rintro e w1 ⟨rfl, hext1⟩
  have hF : Blk w1 w.heap.size #[.int .u8 8, .int .u8 23] := Blk.two1 hext1
  have hQ : Blk w1 (w.heap.size + 1) #[.bool neg, .slice ao1 n1 k1, .slice ao2 n2 k2] := Blk.two2 hext1
  have hw := hext1.of_alloc2
  have a0 := hF.cell (i := 0) rfl
  have a1 := hF.cell (i := 1) rfl
  have b0 := hQ.cell (i := 0) rfl
  have b1 := hQ.cell (i := 1) rfl
  have b2 := hQ.cell (i := 2) rfl
  clear hext1
  go_wp2_with fail
  refine (makeRat_any neg (hn.ext hw) (hd.ext hw) ln ld (by omega) h0).mono ?_
  rintro e w2 ⟨nv2, dv2, rfl, hext2, hn2, hd2⟩
  obtain ⟨ao3, n3, k3, rfl⟩ := hn2.form
  obtain ⟨ao4, n4, k4, rfl⟩ := hd2.form
  replace hF := hF.ext hext2
  replace hQ := hQ.ext hext2
  replace hw := hw.trans hext2
  replace a0 := hF.cell (i := 0) rfl
  replace a1 := hF.cell (i := 1) rfl
  replace b0 := hQ.cell (i := 0) rfl
  replace b1 := hQ.cell (i := 1) rfl
  replace b2 := hQ.cell (i := 2) rfl
  have bz := hQ.fz
  clear hext2
  obtain ⟨W, hW⟩ : ∃ W, W = ((w2.setCell ⟨w.heap.size + 1, 0, none⟩ (.bool neg)).setCell ⟨w.heap.size + 1, 1, none⟩ (.slice ao3 n3 k3)).setCell ⟨w.heap.size + 1, 2, none⟩ (.slice ao4 n4 k4) := ⟨_, rfl⟩
  have hFW : Blk W w.heap.size #[.int .u8 8, .int .u8 23] := by rw [hW]; exact ((hF.setOther (by omega) _).setOther (by omega) _).setOther (by omega) _
  have hQW : Blk W (w.heap.size + 1) #[.bool neg, .slice ao3 n3 k3, .slice ao4 n4 k4] := by rw [hW]; exact hQ.set3
  have hwW : Ext w W := by rw [hW]; exact Ext.set3 hw (by omega) _ _ _
  have hnW : NatV W (.slice ao3 n3 k3) n := by rw [hW]; exact hn2.set3 hQ (by simp [NL]) (by simp [NL])
  have hdW : NatV W (.slice ao4 n4 k4) d := by rw [hW]; exact hd2.set3 hQ (by simp [NL]) (by simp [NL])
  have e3 := hn2.notNil hz
  have q38 : ∀ (w : World) (n' c' : Nat), (binOp .eql 38 (.slice ao3 n3 k3) (.slice none n' c')).run Oaig.prog w = .ok (.bool false) w := by
    intro w n' c'; rw [← e3]; exact eqnil38 w ao3 n3 k3 n' c'
  clear e3 hn2 hd2 hF hQ hw
  replace hW : Hid _ := hW
  go_wp2_with fail
  rw [← hW.out]
  clear hW a0 a1 b0 b1 b2 bz
  have f0 : ∀ w', Ext W w' → w'.cell? ⟨w.heap.size, 0, none⟩ = some (.int .u8 8) := fun w' h => (hFW.ext h).cell rfl
  have f1 : ∀ w', Ext W w' → w'.cell? ⟨w.heap.size, 1, none⟩ = some (.int .u8 23) := fun w' h => (hFW.ext h).cell rfl
  have q0 : ∀ w', Ext W w' → w'.cell? ⟨w.heap.size + 1, 0, none⟩ = some (.bool neg) := fun w' h => (hQW.ext h).cell rfl
  have q1 : ∀ w', Ext W w' → w'.cell? ⟨w.heap.size + 1, 1, none⟩ = some (.slice ao3 n3 k3) := fun w' h => (hQW.ext h).cell rfl
  have q2 : ∀ w', Ext W w' → w'.cell? ⟨w.heap.size + 1, 2, none⟩ = some (.slice ao4 n4 k4) := fun w' h => (hQW.ext h).cell rfl
  have hlog : ∀ w', Ext W w' → Calls Oaig.prog 88 #[.slice ao3 n3 k3, .slice ao4 n4 k4, .int .i64 (-127), .int .i64 127] w' fun e w'' => e = .returned (.int .i64 128) ∧ Ext w' w'' := by
    intro w' h
    have hh := log2_any (hnW.ext h) (hdW.ext h) ln ld (by omega)
    rw [hR.out] at hh
    exact hh
  replace hlog : Hid _ := hlog
  go_region_held3 (fun w' => Ext W w') ((focus ((repeat (first | with_reducible assumption | with_reducible exact Ext.refl _ | with_reducible refine Ext.drew ?_ | with_reducible refine Ext.alloc ?_ _ _ | with_reducible refine Ext.setCell ?_ ?_ _ | with_reducible exact Nat.le_refl _ | (dsimp only; omega) | (simp only [World.size_alloc]; omega))); done))) (first
    | (go_at_call 89; refine (emin_any _).mono ?_; rintro e w3 ⟨rfl, hext3⟩; have hq3 : Ext W w3 := Ext.trans (by (focus ((repeat (first | with_reducible assumption | with_reducible exact Ext.refl _ | with_reducible refine Ext.drew ?_ | with_reducible refine Ext.alloc ?_ _ _ | with_reducible refine Ext.setCell ?_ ?_ _ | with_reducible exact Nat.le_refl _ | (dsimp only; omega) | (simp only [World.size_alloc]; omega))); done))) hext3)
    | (go_at_call 90; refine (emax_any _).mono ?_; rintro e w4 ⟨rfl, hext4⟩; have hq4 : Ext W w4 := Ext.trans (by (focus ((repeat (first | with_reducible assumption | with_reducible exact Ext.refl _ | with_reducible refine Ext.drew ?_ | with_reducible refine Ext.alloc ?_ _ _ | with_reducible refine Ext.setCell ?_ ?_ _ | with_reducible exact Nat.le_refl _ | (dsimp only; omega) | (simp only [World.size_alloc]; omega))); done))) hext4)
    | (go_at_call 88; refine Calls.mono (hlog.out _ (by (focus ((repeat (first | with_reducible assumption | with_reducible exact Ext.refl _ | with_reducible refine Ext.drew ?_ | with_reducible refine Ext.alloc ?_ _ _ | with_reducible refine Ext.setCell ?_ ?_ _ | with_reducible exact Nat.le_refl _ | (dsimp only; omega) | (simp only [World.size_alloc]; omega))); done)))) ?_; rintro e w5 ⟨rfl, hext5⟩; have hq5 : Ext W w5 := Ext.trans (by (focus ((repeat (first | with_reducible assumption | with_reducible exact Ext.refl _ | with_reducible refine Ext.drew ?_ | with_reducible refine Ext.alloc ?_ _ _ | with_reducible refine Ext.setCell ?_ ?_ _ | with_reducible exact Nat.le_refl _ | (dsimp only; omega) | (simp only [World.size_alloc]; omega))); done))) hext5))
  have f0_5 := f0 _ hq5
  have f1_5 := f1 _ hq5
  have q0_5 := q0 _ hq5
  have q1_5 := q1 _ hq5
  have q2_5 := q2 _ hq5
  go_wp2_with fail
  refine (emin_any _).mono ?_
  rintro e w6 ⟨rfl, hext6⟩
  have hq6 : Ext W w6 := Ext.trans (by (focus ((repeat (first | with_reducible assumption | with_reducible exact Ext.refl _ | with_reducible refine Ext.drew ?_ | with_reducible refine Ext.alloc ?_ _ _ | with_reducible refine Ext.setCell ?_ ?_ _ | with_reducible exact Nat.le_refl _ | (dsimp only; omega) | (simp only [World.size_alloc]; omega))); done))) hext6
  have f0_6 := f0 _ hq6
  have f1_6 := f1 _ hq6
  have q0_6 := q0 _ hq6
  have q1_6 := q1 _ hq6
  have q2_6 := q2 _ hq6
  clear f0_5 f1_5 q0_5 q1_5 q2_5
  go_wp2_with fail
  refine (emax_any _).mono ?_
  rintro e w7 ⟨rfl, hext7⟩
  have hq7 : Ext W w7 := Ext.trans (by (focus ((repeat (first | with_reducible assumption | with_reducible exact Ext.refl _ | with_reducible refine Ext.drew ?_ | with_reducible refine Ext.alloc ?_ _ _ | with_reducible refine Ext.setCell ?_ ?_ _ | with_reducible exact Nat.le_refl _ | (dsimp only; omega) | (simp only [World.size_alloc]; omega))); done))) hext7
  have f0_7 := f0 _ hq7
  have f1_7 := f1 _ hq7
  have q0_7 := q0 _ hq7
  have q1_7 := q1 _ hq7
  have q2_7 := q2 _ hq7
  clear f0_6 f1_6 q0_6 q1_6 q2_6
  have hval : Hid (rnd n d = 2139095040) := by
    have hlm := lgB_max n d
    rw [hR.out] at hlm
    show rnd n d = _
    unfold rnd
    dsimp only
    rw [if_neg hz, if_pos (hlm.1.1 (by decide))]
  go_wp2_with fail
  refine (xoverflow_any _ neg).mono ?_
  rintro e w8 ⟨rfl, hext8⟩
  go_wp2
  go_ret2
  exact ⟨_, by rw [hval.out]; rfl, hwW.trans (Ext.trans (by (focus ((repeat (first | with_reducible assumption | with_reducible exact Ext.refl _ | with_reducible refine Ext.drew ?_ | with_reducible refine Ext.alloc ?_ _ _ | with_reducible refine Ext.setCell ?_ ?_ _ | with_reducible exact Nat.le_refl _ | (dsimp only; omega) | (simp only [World.size_alloc]; omega))); done))) hext8)⟩

set_option maxRecDepth 20000 in
set_option maxHeartbeats 4000000 in
theorem roundFlags_norm {w : World} (neg : Bool) {nv dv : Value} {n d L : Nat} (hn : NatV w nv n) (hd : NatV w dv d) (ln : Lt32 n L) (ld : Lt32 d L) (hL : L ≤ 50) (h0 : d ≠ 0) (hz : n ≠ 0) (R : Int) (hR : Hid (lgB n d = R)) (hr1 : -126 ≤ R) (hr2 : R ≤ 127) (E : Nat) (hE : Hid (R = E - 126)) :
    Calls Oaig.prog 116 #[.agg #[.int .u8 8, .int .u8 23], .int .u8 0, .agg #[.bool neg, nv, dv]] w fun e w' => ∃ fl : Int, e = .returned (.tuple #[.int .u64 (rnd n d + sgn neg : Nat), .int .u8 fl]) ∧ Ext w w' := by
  obtain ⟨ao1, n1, k1, rfl⟩ := hn.form
  obtain ⟨ao2, n2, k2, rfl⟩ := hd.form
  go_enter Oaig.func116, Oaig.ntmps116
  go_wp2_with fail
  refine (ok_any _).mono ?_
  rintro e w1 ⟨rfl, hext1⟩
  have hF : Blk w1 w.heap.size #[.int .u8 8, .int .u8 23] := Blk.two1 hext1
  have hQ : Blk w1 (w.heap.size + 1) #[.bool neg, .slice ao1 n1 k1, .slice ao2 n2 k2] := Blk.two2 hext1
  have hw := hext1.of_alloc2
  have a0 := hF.cell (i := 0) rfl
  have a1 := hF.cell (i := 1) rfl
  have b0 := hQ.cell (i := 0) rfl
  have b1 := hQ.cell (i := 1) rfl
  have b2 := hQ.cell (i := 2) rfl
  clear hext1
  go_wp2_with fail
  refine (makeRat_any neg (hn.ext hw) (hd.ext hw) ln ld (by omega) h0).mono ?_
  rintro e w2 ⟨nv2, dv2, rfl, hext2, hn2, hd2⟩
  obtain ⟨ao3, n3, k3, rfl⟩ := hn2.form
  obtain ⟨ao4, n4, k4, rfl⟩ := hd2.form
  replace hF := hF.ext hext2
  replace hQ := hQ.ext hext2
  replace hw := hw.trans hext2
  replace a0 := hF.cell (i := 0) rfl
  replace a1 := hF.cell (i := 1) rfl
  replace b0 := hQ.cell (i := 0) rfl
  replace b1 := hQ.cell (i := 1) rfl
  replace b2 := hQ.cell (i := 2) rfl
  have bz := hQ.fz
  clear hext2
  obtain ⟨W, hW⟩ : ∃ W, W = ((w2.setCell ⟨w.heap.size + 1, 0, none⟩ (.bool neg)).setCell ⟨w.heap.size + 1, 1, none⟩ (.slice ao3 n3 k3)).setCell ⟨w.heap.size + 1, 2, none⟩ (.slice ao4 n4 k4) := ⟨_, rfl⟩
  have hFW : Blk W w.heap.size #[.int .u8 8, .int .u8 23] := by rw [hW]; exact ((hF.setOther (by omega) _).setOther (by omega) _).setOther (by omega) _
  have hQW : Blk W (w.heap.size + 1) #[.bool neg, .slice ao3 n3 k3, .slice ao4 n4 k4] := by rw [hW]; exact hQ.set3
  have hwW : Ext w W := by rw [hW]; exact Ext.set3 hw (by omega) _ _ _
  have hnW : NatV W (.slice ao3 n3 k3) n := by rw [hW]; exact hn2.set3 hQ (by simp [NL]) (by simp [NL])
  have hdW : NatV W (.slice ao4 n4 k4) d := by rw [hW]; exact hd2.set3 hQ (by simp [NL]) (by simp [NL])
  have e3 := hn2.notNil hz
  have q38 : ∀ (w : World) (n' c' : Nat), (binOp .eql 38 (.slice ao3 n3 k3) (.slice none n' c')).run Oaig.prog w = .ok (.bool false) w := by
    intro w n' c'; rw [← e3]; exact eqnil38 w ao3 n3 k3 n' c'
  clear e3 hn2 hd2 hF hQ hw
  replace hW : Hid _ := hW
  go_wp2_with fail
  rw [← hW.out]
  clear hW a0 a1 b0 b1 b2 bz
  have f0 : ∀ w', Ext W w' → w'.cell? ⟨w.heap.size, 0, none⟩ = some (.int .u8 8) := fun w' h => (hFW.ext h).cell rfl
  have f1 : ∀ w', Ext W w' → w'.cell? ⟨w.heap.size, 1, none⟩ = some (.int .u8 23) := fun w' h => (hFW.ext h).cell rfl
  have q0 : ∀ w', Ext W w' → w'.cell? ⟨w.heap.size + 1, 0, none⟩ = some (.bool neg) := fun w' h => (hQW.ext h).cell rfl
  have q1 : ∀ w', Ext W w' → w'.cell? ⟨w.heap.size + 1, 1, none⟩ = some (.slice ao3 n3 k3) := fun w' h => (hQW.ext h).cell rfl
  have q2 : ∀ w', Ext W w' → w'.cell? ⟨w.heap.size + 1, 2, none⟩ = some (.slice ao4 n4 k4) := fun w' h => (hQW.ext h).cell rfl
  have hlog : ∀ w', Ext W w' → Calls Oaig.prog 88 #[.slice ao3 n3 k3, .slice ao4 n4 k4, .int .i64 (-127), .int .i64 127] w' fun e w'' => e = .returned (.int .i64 R) ∧ Ext w' w'' := by
    intro w' h
    have hh := log2_any (hnW.ext h) (hdW.ext h) ln ld (by omega)
    rw [hR.out] at hh
    exact hh
  replace hlog : Hid _ := hlog
  have hmx : max R (-126) = R := by omega
  have hg : (R == -127) = false := by rw [beq_eq_false_iff_ne]; omega
  go_region_held3 (fun w' => Ext W w') ((focus ((repeat (first | with_reducible assumption | with_reducible exact Ext.refl _ | with_reducible refine Ext.drew ?_ | with_reducible refine Ext.alloc ?_ _ _ | with_reducible refine Ext.setCell ?_ ?_ _ | with_reducible exact Nat.le_refl _ | (dsimp only; omega) | (simp only [World.size_alloc]; omega))); done))) (first
    | (go_at_call 89; refine (emin_any _).mono ?_; rintro e w3 ⟨rfl, hext3⟩; have hq3 : Ext W w3 := Ext.trans (by (focus ((repeat (first | with_reducible assumption | with_reducible exact Ext.refl _ | with_reducible refine Ext.drew ?_ | with_reducible refine Ext.alloc ?_ _ _ | with_reducible refine Ext.setCell ?_ ?_ _ | with_reducible exact Nat.le_refl _ | (dsimp only; omega) | (simp only [World.size_alloc]; omega))); done))) hext3)
    | (go_at_call 90; refine (emax_any _).mono ?_; rintro e w4 ⟨rfl, hext4⟩; have hq4 : Ext W w4 := Ext.trans (by (focus ((repeat (first | with_reducible assumption | with_reducible exact Ext.refl _ | with_reducible refine Ext.drew ?_ | with_reducible refine Ext.alloc ?_ _ _ | with_reducible refine Ext.setCell ?_ ?_ _ | with_reducible exact Nat.le_refl _ | (dsimp only; omega) | (simp only [World.size_alloc]; omega))); done))) hext4)
    | (go_at_call 88; refine Calls.mono (hlog.out _ (by (focus ((repeat (first | with_reducible assumption | with_reducible exact Ext.refl _ | with_reducible refine Ext.drew ?_ | with_reducible refine Ext.alloc ?_ _ _ | with_reducible refine Ext.setCell ?_ ?_ _ | with_reducible exact Nat.le_refl _ | (dsimp only; omega) | (simp only [World.size_alloc]; omega))); done)))) ?_; rintro e w5 ⟨rfl, hext5⟩; have hq5 : Ext W w5 := Ext.trans (by (focus ((repeat (first | with_reducible assumption | with_reducible exact Ext.refl _ | with_reducible refine Ext.drew ?_ | with_reducible refine Ext.alloc ?_ _ _ | with_reducible refine Ext.setCell ?_ ?_ _ | with_reducible exact Nat.le_refl _ | (dsimp only; omega) | (simp only [World.size_alloc]; omega))); done))) hext5))
  have f0_5 := f0 _ hq5
  have f1_5 := f1 _ hq5
  have q0_5 := q0 _ hq5
  have q1_5 := q1 _ hq5
  have q2_5 := q2 _ hq5
  go_wp2_with fail
  refine (emin_any _).mono ?_
  rintro e w6 ⟨rfl, hext6⟩
  have hq6 : Ext W w6 := Ext.trans (by (focus ((repeat (first | with_reducible assumption | with_reducible exact Ext.refl _ | with_reducible refine Ext.drew ?_ | with_reducible refine Ext.alloc ?_ _ _ | with_reducible refine Ext.setCell ?_ ?_ _ | with_reducible exact Nat.le_refl _ | (dsimp only; omega) | (simp only [World.size_alloc]; omega))); done))) hext6
  have f0_6 := f0 _ hq6
  have f1_6 := f1 _ hq6
  have q0_6 := q0 _ hq6
  have q1_6 := q1 _ hq6
  have q2_6 := q2 _ hq6
  clear f0_5 f1_5 q0_5 q1_5 q2_5
  go_wp2_with fail
  refine (emax_any _).mono ?_
  rintro e w7 ⟨rfl, hext7⟩
  have hq7 : Ext W w7 := Ext.trans (by (focus ((repeat (first | with_reducible assumption | with_reducible exact Ext.refl _ | with_reducible refine Ext.drew ?_ | with_reducible refine Ext.alloc ?_ _ _ | with_reducible refine Ext.setCell ?_ ?_ _ | with_reducible exact Nat.le_refl _ | (dsimp only; omega) | (simp only [World.size_alloc]; omega))); done))) hext7
  have f0_7 := f0 _ hq7
  have f1_7 := f1 _ hq7
  have q0_7 := q0 _ hq7
  have q1_7 := q1 _ hq7
  have q2_7 := q2 _ hq7
  clear f0_6 f1_6 q0_6 q1_6 q2_6
  have hEl : lg n d ≤ R ∧ rnd n d = min 2139095040 (E * 8388608 + rne (sN n (23 - R)) (sD d (23 - R))) := by
    have hlm := lgB_max n d
    rw [hR.out] at hlm
    have hx := hlm.2 (by omega)
    have hy : max (lg n d) (-126) = R := by omega
    refine ⟨by omega, ?_⟩
    unfold rnd
    dsimp only
    rw [if_neg hz, hy, if_neg (by omega)]
    rw [show (R + 126).toNat = E by have := hE.out; omega]
  have hbd : rne (sN n (23 - R)) (sD d (23 - R)) ≤ 16777216 := rne_bd hz h0 hEl.1
  have hval : Hid (rnd n d = min 2139095040 (E * 8388608 + rne (sN n (23 - R)) (sD d (23 - R)))) := hEl.2
  have l1 : Lt32 (sN n (23 - R)) (L + 10) := (ln.shl (k := ((23 - R)).toNat)).mono (Nat.le_refl _) (by omega)
  have l2 : Lt32 (sD d (23 - R)) (L + 10) := (ld.shl (k := (-(23 - R)).toNat)).mono (Nat.le_refl _) (by omega)
  have l3 : sD d (23 - R) ≠ 0 := Nat.mul_ne_zero h0 (Nat.pos_iff_ne_zero.1 (Nat.two_pow_pos _))
  clear hEl
  go_wp2_with fail
  refine (shift_any (hnW.ext hq7) (hdW.ext hq7) ln ld (by omega) (23 - R) (by omega) (by omega)).mono ?_
  rintro e w8 ⟨nv8, dv8, rfl, hext8, hn8, hd8⟩
  have hq8 : Ext W w8 := Ext.trans (by (focus ((repeat (first | with_reducible assumption | with_reducible exact Ext.refl _ | with_reducible refine Ext.drew ?_ | with_reducible refine Ext.alloc ?_ _ _ | with_reducible refine Ext.setCell ?_ ?_ _ | with_reducible exact Nat.le_refl _ | (dsimp only; omega) | (simp only [World.size_alloc]; omega))); done))) hext8
  have f0_8 := f0 _ hq8
  have f1_8 := f1 _ hq8
  have q0_8 := q0 _ hq8
  have q1_8 := q1 _ hq8
  have q2_8 := q2 _ hq8
  clear f0_7 f1_7 q0_7 q1_7 q2_7
  change NatV w8 nv8 (sN n (23 - R)) at hn8
  change NatV w8 dv8 (sD d (23 - R)) at hd8
  go_wp2_with fail
  refine (raised_any neg hn8 hd8 l1 l2 (by omega) l3).mono ?_
  rintro e w9 ⟨qv9, h9, s9, rfl, hext9, hv9⟩
  have hq9 : Ext W w9 := Ext.trans (by (focus ((repeat (first | with_reducible assumption | with_reducible exact Ext.refl _ | with_reducible refine Ext.drew ?_ | with_reducible refine Ext.alloc ?_ _ _ | with_reducible refine Ext.setCell ?_ ?_ _ | with_reducible exact Nat.le_refl _ | (dsimp only; omega) | (simp only [World.size_alloc]; omega))); done))) hext9
  have f0_9 := f0 _ hq9
  have f1_9 := f1 _ hq9
  have q0_9 := q0 _ hq9
  have q1_9 := q1 _ hq9
  have q2_9 := q2 _ hq9
  clear f0_8 f1_8 q0_8 q1_8 q2_8
  have t1 := (hFW.ext hq9).lt
  have t2 := (hQW.ext hq9).lt
  go_wp2_with fail
  refine (emin_any _).mono ?_
  rintro e w10 ⟨rfl, hext10⟩
  have hq10 : Ext W w10 := Ext.trans (by (focus ((repeat (first | with_reducible assumption | with_reducible exact Ext.refl _ | with_reducible refine Ext.drew ?_ | with_reducible refine Ext.alloc ?_ _ _ | with_reducible refine Ext.setCell ?_ ?_ _ | with_reducible exact Nat.le_refl _ | (dsimp only; omega) | (simp only [World.size_alloc]; omega))); done))) hext10
  have hz10 : Blk w10 w9.heap.size #[.int .i8 h9, .bool s9] := Blk.one hext10
  have hv10 := hv9.ext hext10.of_alloc
  have f0_10 := f0 _ hq10
  have f1_10 := f1 _ hq10
  have q0_10 := q0 _ hq10
  have q1_10 := q1 _ hq10
  have q2_10 := q2 _ hq10
  clear f0_9 f1_9 q0_9 q1_9 q2_9
  go_wp2_with fail
  refine (emin_any _).mono ?_
  rintro e w11 ⟨rfl, hext11⟩
  have hq11 : Ext W w11 := Ext.trans (by (focus ((repeat (first | with_reducible assumption | with_reducible exact Ext.refl _ | with_reducible refine Ext.drew ?_ | with_reducible refine Ext.alloc ?_ _ _ | with_reducible refine Ext.setCell ?_ ?_ _ | with_reducible exact Nat.le_refl _ | (dsimp only; omega) | (simp only [World.size_alloc]; omega))); done))) hext11
  have hz11 := hz10.ext hext11
  have hv11 := hv10.ext hext11
  have f0_11 := f0 _ hq11
  have f1_11 := f1 _ hq11
  have q0_11 := q0 _ hq11
  have q1_11 := q1 _ hq11
  have q2_11 := q2 _ hq11
  clear f0_10 f1_10 q0_10 q1_10 q2_10
  clear t1 t2 hz10 hv10 f0 f1 q0 q1 q2
  go_wp2_with fail
  have hFx := hFW.ext hq11
  have hQx := hQW.ext hq11
  have y0 : ∀ w', Ext w11 w' → w'.cell? ⟨w.heap.size, 0, none⟩ = some (.int .u8 8) := fun w' h => (hFx.ext h).cell rfl
  have y1 : ∀ w', Ext w11 w' → w'.cell? ⟨w.heap.size, 1, none⟩ = some (.int .u8 23) := fun w' h => (hFx.ext h).cell rfl
  have y2 : ∀ w', Ext w11 w' → w'.cell? ⟨w.heap.size + 1, 0, none⟩ = some (.bool neg) := fun w' h => (hQx.ext h).cell rfl
  have y3 : ∀ w', Ext w11 w' → w'.cell? ⟨w9.heap.size, 0, none⟩ = some (.int .i8 h9) := fun w' h => (hz11.ext h).cell rfl
  have y4 : ∀ w', Ext w11 w' → w'.cell? ⟨w9.heap.size, 1, none⟩ = some (.bool s9) := fun w' h => (hz11.ext h).cell rfl
  have hpk : Hid (∀ w' t, Calls Oaig.prog 92 #[.agg #[.int .u8 8, .int .u8 23], .int .u8 0, .bool neg, .int .i64 R, .int .u64 (rne (sN n (23 - R)) (sD d (23 - R)) : Nat), .agg #[.int .i8 h9, .bool s9], .bool t] w' fun r w'' => ∃ fl : Int, r = .returned (.tuple #[.int .u64 (rnd n d + sgn neg : Nat), .int .u8 fl]) ∧ Ext w' w'') := by
    show ∀ w' t, _
    intro w' t
    rw [hval.out]
    exact pack_any w' neg s9 t h9 R E _ hE (by have := hE.out; omega) hbd
  go_region_held3 (fun w' => Ext w11 w') ((focus ((repeat (first | with_reducible assumption | with_reducible exact Ext.refl _ | with_reducible refine Ext.drew ?_ | with_reducible refine Ext.alloc ?_ _ _ | with_reducible refine Ext.setCell ?_ ?_ _ | with_reducible exact Nat.le_refl _ | (dsimp only; omega) | (simp only [World.size_alloc]; omega))); done))) (first
    | (go_at_call 93; refine (toU64_any (hv11.ext (by (focus ((repeat (first | with_reducible assumption | with_reducible exact Ext.refl _ | with_reducible refine Ext.drew ?_ | with_reducible refine Ext.alloc ?_ _ _ | with_reducible refine Ext.setCell ?_ ?_ _ | with_reducible exact Nat.le_refl _ | (dsimp only; omega) | (simp only [World.size_alloc]; omega))); done)))) (by omega)).mono ?_; rintro e w12 ⟨rfl, rfl⟩)
    | (go_at_call 92; refine Calls.mono (hpk.out _ _) ?_; rintro e w13 ⟨fl, rfl, hext13⟩; have hq13 : Ext w11 w13 := Ext.trans (by (focus ((repeat (first | with_reducible assumption | with_reducible exact Ext.refl _ | with_reducible refine Ext.drew ?_ | with_reducible refine Ext.alloc ?_ _ _ | with_reducible refine Ext.setCell ?_ ?_ _ | with_reducible exact Nat.le_refl _ | (dsimp only; omega) | (simp only [World.size_alloc]; omega))); done))) hext13))
  go_wp2
  go_ret2
  exact ⟨_, rfl, (hwW.trans hq11).trans hq13⟩

set_option maxRecDepth 20000 in
set_option maxHeartbeats 4000000 in
theorem roundFlags_deep {w : World} (neg : Bool) {nv dv : Value} {n d L : Nat} (hn : NatV w nv n) (hd : NatV w dv d) (ln : Lt32 n L) (ld : Lt32 d L) (hL : L ≤ 50) (h0 : d ≠ 0) (hz : n ≠ 0) (hR : Hid (lgB n d = -128)) :
    Calls Oaig.prog 116 #[.agg #[.int .u8 8, .int .u8 23], .int .u8 0, .agg #[.bool neg, nv, dv]] w fun e w' => ∃ fl : Int, e = .returned (.tuple #[.int .u64 (rnd n d + sgn neg : Nat), .int .u8 fl]) ∧ Ext w w' := by
  obtain ⟨ao1, n1, k1, rfl⟩ := hn.form
  obtain ⟨ao2, n2, k2, rfl⟩ := hd.form
  go_enter Oaig.func116, Oaig.ntmps116
  go_wp2_with fail
  refine (ok_any _).mono ?_
  rintro e w1 ⟨rfl, hext1⟩
  have hF : Blk w1 w.heap.size #[.int .u8 8, .int .u8 23] := Blk.two1 hext1
  have hQ : Blk w1 (w.heap.size + 1) #[.bool neg, .slice ao1 n1 k1, .slice ao2 n2 k2] := Blk.two2 hext1
  have hw := hext1.of_alloc2
  have a0 := hF.cell (i := 0) rfl
  have a1 := hF.cell (i := 1) rfl
  have b0 := hQ.cell (i := 0) rfl
  have b1 := hQ.cell (i := 1) rfl
  have b2 := hQ.cell (i := 2) rfl
  clear hext1
  go_wp2_with fail
  refine (makeRat_any neg (hn.ext hw) (hd.ext hw) ln ld (by omega) h0).mono ?_
  rintro e w2 ⟨nv2, dv2, rfl, hext2, hn2, hd2⟩
  obtain ⟨ao3, n3, k3, rfl⟩ := hn2.form
  obtain ⟨ao4, n4, k4, rfl⟩ := hd2.form
  replace hF := hF.ext hext2
  replace hQ := hQ.ext hext2
  replace hw := hw.trans hext2
  replace a0 := hF.cell (i := 0) rfl
  replace a1 := hF.cell (i := 1) rfl
  replace b0 := hQ.cell (i := 0) rfl
  replace b1 := hQ.cell (i := 1) rfl
  replace b2 := hQ.cell (i := 2) rfl
  have bz := hQ.fz
  clear hext2
  obtain ⟨W, hW⟩ : ∃ W, W = ((w2.setCell ⟨w.heap.size + 1, 0, none⟩ (.bool neg)).setCell ⟨w.heap.size + 1, 1, none⟩ (.slice ao3 n3 k3)).setCell ⟨w.heap.size + 1, 2, none⟩ (.slice ao4 n4 k4) := ⟨_, rfl⟩
  have hFW : Blk W w.heap.size #[.int .u8 8, .int .u8 23] := by rw [hW]; exact ((hF.setOther (by omega) _).setOther (by omega) _).setOther (by omega) _
  have hQW : Blk W (w.heap.size + 1) #[.bool neg, .slice ao3 n3 k3, .slice ao4 n4 k4] := by rw [hW]; exact hQ.set3
  have hwW : Ext w W := by rw [hW]; exact Ext.set3 hw (by omega) _ _ _
  have hnW : NatV W (.slice ao3 n3 k3) n := by rw [hW]; exact hn2.set3 hQ (by simp [NL]) (by simp [NL])
  have hdW : NatV W (.slice ao4 n4 k4) d := by rw [hW]; exact hd2.set3 hQ (by simp [NL]) (by simp [NL])
  have e3 := hn2.notNil hz
  have q38 : ∀ (w : World) (n' c' : Nat), (binOp .eql 38 (.slice ao3 n3 k3) (.slice none n' c')).run Oaig.prog w = .ok (.bool false) w := by
    intro w n' c'; rw [← e3]; exact eqnil38 w ao3 n3 k3 n' c'
  clear e3 hn2 hd2 hF hQ hw
  replace hW : Hid _ := hW
  go_wp2_with fail
  rw [← hW.out]
  clear hW a0 a1 b0 b1 b2 bz
  have f0 : ∀ w', Ext W w' → w'.cell? ⟨w.heap.size, 0, none⟩ = some (.int .u8 8) := fun w' h => (hFW.ext h).cell rfl
  have f1 : ∀ w', Ext W w' → w'.cell? ⟨w.heap.size, 1, none⟩ = some (.int .u8 23) := fun w' h => (hFW.ext h).cell rfl
  have q0 : ∀ w', Ext W w' → w'.cell? ⟨w.heap.size + 1, 0, none⟩ = some (.bool neg) := fun w' h => (hQW.ext h).cell rfl
  have q1 : ∀ w', Ext W w' → w'.cell? ⟨w.heap.size + 1, 1, none⟩ = some (.slice ao3 n3 k3) := fun w' h => (hQW.ext h).cell rfl
  have q2 : ∀ w', Ext W w' → w'.cell? ⟨w.heap.size + 1, 2, none⟩ = some (.slice ao4 n4 k4) := fun w' h => (hQW.ext h).cell rfl
  have hlog : ∀ w', Ext W w' → Calls Oaig.prog 88 #[.slice ao3 n3 k3, .slice ao4 n4 k4, .int .i64 (-127), .int .i64 127] w' fun e w'' => e = .returned (.int .i64 (-128)) ∧ Ext w' w'' := by
    intro w' h
    have hh := log2_any (hnW.ext h) (hdW.ext h) ln ld (by omega)
    rw [hR.out] at hh
    exact hh
  replace hlog : Hid _ := hlog
  have hE : Hid ((-126 : Int) = ((0 : Nat) : Int) - 126) := by show (-126 : Int) = ((0 : Nat) : Int) - 126; omega
  go_region_held3 (fun w' => Ext W w') ((focus ((repeat (first | with_reducible assumption | with_reducible exact Ext.refl _ | with_reducible refine Ext.drew ?_ | with_reducible refine Ext.alloc ?_ _ _ | with_reducible refine Ext.setCell ?_ ?_ _ | with_reducible exact Nat.le_refl _ | (dsimp only; omega) | (simp only [World.size_alloc]; omega))); done))) (first
    | (go_at_call 89; refine (emin_any _).mono ?_; rintro e w3 ⟨rfl, hext3⟩; have hq3 : Ext W w3 := Ext.trans (by (focus ((repeat (first | with_reducible assumption | with_reducible exact Ext.refl _ | with_reducible refine Ext.drew ?_ | with_reducible refine Ext.alloc ?_ _ _ | with_reducible refine Ext.setCell ?_ ?_ _ | with_reducible exact Nat.le_refl _ | (dsimp only; omega) | (simp only [World.size_alloc]; omega))); done))) hext3)
    | (go_at_call 90; refine (emax_any _).mono ?_; rintro e w4 ⟨rfl, hext4⟩; have hq4 : Ext W w4 := Ext.trans (by (focus ((repeat (first | with_reducible assumption | with_reducible exact Ext.refl _ | with_reducible refine Ext.drew ?_ | with_reducible refine Ext.alloc ?_ _ _ | with_reducible refine Ext.setCell ?_ ?_ _ | with_reducible exact Nat.le_refl _ | (dsimp only; omega) | (simp only [World.size_alloc]; omega))); done))) hext4)
    | (go_at_call 88; refine Calls.mono (hlog.out _ (by (focus ((repeat (first | with_reducible assumption | with_reducible exact Ext.refl _ | with_reducible refine Ext.drew ?_ | with_reducible refine Ext.alloc ?_ _ _ | with_reducible refine Ext.setCell ?_ ?_ _ | with_reducible exact Nat.le_refl _ | (dsimp only; omega) | (simp only [World.size_alloc]; omega))); done)))) ?_; rintro e w5 ⟨rfl, hext5⟩; have hq5 : Ext W w5 := Ext.trans (by (focus ((repeat (first | with_reducible assumption | with_reducible exact Ext.refl _ | with_reducible refine Ext.drew ?_ | with_reducible refine Ext.alloc ?_ _ _ | with_reducible refine Ext.setCell ?_ ?_ _ | with_reducible exact Nat.le_refl _ | (dsimp only; omega) | (simp only [World.size_alloc]; omega))); done))) hext5))
  have f0_5 := f0 _ hq5
  have f1_5 := f1 _ hq5
  have q0_5 := q0 _ hq5
  have q1_5 := q1 _ hq5
  have q2_5 := q2 _ hq5
  go_wp2_with fail
  refine (emin_any _).mono ?_
  rintro e w6 ⟨rfl, hext6⟩
  have hq6 : Ext W w6 := Ext.trans (by (focus ((repeat (first | with_reducible assumption | with_reducible exact Ext.refl _ | with_reducible refine Ext.drew ?_ | with_reducible refine Ext.alloc ?_ _ _ | with_reducible refine Ext.setCell ?_ ?_ _ | with_reducible exact Nat.le_refl _ | (dsimp only; omega) | (simp only [World.size_alloc]; omega))); done))) hext6
  have f0_6 := f0 _ hq6
  have f1_6 := f1 _ hq6
  have q0_6 := q0 _ hq6
  have q1_6 := q1 _ hq6
  have q2_6 := q2 _ hq6
  clear f0_5 f1_5 q0_5 q1_5 q2_5
  go_wp2_with fail
  refine (emax_any _).mono ?_
  rintro e w7 ⟨rfl, hext7⟩
  have hq7 : Ext W w7 := Ext.trans (by (focus ((repeat (first | with_reducible assumption | with_reducible exact Ext.refl _ | with_reducible refine Ext.drew ?_ | with_reducible refine Ext.alloc ?_ _ _ | with_reducible refine Ext.setCell ?_ ?_ _ | with_reducible exact Nat.le_refl _ | (dsimp only; omega) | (simp only [World.size_alloc]; omega))); done))) hext7
  have f0_7 := f0 _ hq7
  have f1_7 := f1 _ hq7
  have q0_7 := q0 _ hq7
  have q1_7 := q1 _ hq7
  have q2_7 := q2 _ hq7
  clear f0_6 f1_6 q0_6 q1_6 q2_6
  have hEl : lg n d ≤ (-126) ∧ rnd n d = min 2139095040 (0 * 8388608 + rne (sN n (149 : Int)) (sD d (149 : Int))) := by
    have hlm := lgB_max n d
    rw [hR.out] at hlm
    have hx := hlm.2 (by omega)
    have hy : max (lg n d) (-126) = (-126) := by omega
    refine ⟨by omega, ?_⟩
    unfold rnd
    dsimp only
    rw [if_neg hz, hy, if_neg (by omega)]
    rfl
  have hbd : rne (sN n (149 : Int)) (sD d (149 : Int)) ≤ 16777216 := rne_bd hz h0 hEl.1
  have hval : Hid (rnd n d = min 2139095040 (0 * 8388608 + rne (sN n (149 : Int)) (sD d (149 : Int)))) := hEl.2
  have l1 : Lt32 (sN n (149 : Int)) (L + 10) := (ln.shl (k := ((149 : Int)).toNat)).mono (Nat.le_refl _) (by omega)
  have l2 : Lt32 (sD d (149 : Int)) (L + 10) := (ld.shl (k := (-(149 : Int)).toNat)).mono (Nat.le_refl _) (by omega)
  have l3 : sD d (149 : Int) ≠ 0 := Nat.mul_ne_zero h0 (Nat.pos_iff_ne_zero.1 (Nat.two_pow_pos _))
  clear hEl
  go_wp2_with fail
  refine (shift_any (hnW.ext hq7) (hdW.ext hq7) ln ld (by omega) (149 : Int) (by omega) (by omega)).mono ?_
  rintro e w8 ⟨nv8, dv8, rfl, hext8, hn8, hd8⟩
  have hq8 : Ext W w8 := Ext.trans (by (focus ((repeat (first | with_reducible assumption | with_reducible exact Ext.refl _ | with_reducible refine Ext.drew ?_ | with_reducible refine Ext.alloc ?_ _ _ | with_reducible refine Ext.setCell ?_ ?_ _ | with_reducible exact Nat.le_refl _ | (dsimp only; omega) | (simp only [World.size_alloc]; omega))); done))) hext8
  have f0_8 := f0 _ hq8
  have f1_8 := f1 _ hq8
  have q0_8 := q0 _ hq8
  have q1_8 := q1 _ hq8
  have q2_8 := q2 _ hq8
  clear f0_7 f1_7 q0_7 q1_7 q2_7
  change NatV w8 nv8 (sN n (149 : Int)) at hn8
  change NatV w8 dv8 (sD d (149 : Int)) at hd8
  go_wp2_with fail
  refine (raised_any neg hn8 hd8 l1 l2 (by omega) l3).mono ?_
  rintro e w9 ⟨qv9, h9, s9, rfl, hext9, hv9⟩
  have hq9 : Ext W w9 := Ext.trans (by (focus ((repeat (first | with_reducible assumption | with_reducible exact Ext.refl _ | with_reducible refine Ext.drew ?_ | with_reducible refine Ext.alloc ?_ _ _ | with_reducible refine Ext.setCell ?_ ?_ _ | with_reducible exact Nat.le_refl _ | (dsimp only; omega) | (simp only [World.size_alloc]; omega))); done))) hext9
  have f0_9 := f0 _ hq9
  have f1_9 := f1 _ hq9
  have q0_9 := q0 _ hq9
  have q1_9 := q1 _ hq9
  have q2_9 := q2 _ hq9
  clear f0_8 f1_8 q0_8 q1_8 q2_8
  have t1 := (hFW.ext hq9).lt
  have t2 := (hQW.ext hq9).lt
  go_wp2_with fail
  refine (emin_any _).mono ?_
  rintro e w10 ⟨rfl, hext10⟩
  have hq10 : Ext W w10 := Ext.trans (by (focus ((repeat (first | with_reducible assumption | with_reducible exact Ext.refl _ | with_reducible refine Ext.drew ?_ | with_reducible refine Ext.alloc ?_ _ _ | with_reducible refine Ext.setCell ?_ ?_ _ | with_reducible exact Nat.le_refl _ | (dsimp only; omega) | (simp only [World.size_alloc]; omega))); done))) hext10
  have hz10 : Blk w10 w9.heap.size #[.int .i8 h9, .bool s9] := Blk.one hext10
  have hv10 := hv9.ext hext10.of_alloc
  have f0_10 := f0 _ hq10
  have f1_10 := f1 _ hq10
  have q0_10 := q0 _ hq10
  have q1_10 := q1 _ hq10
  have q2_10 := q2 _ hq10
  clear f0_9 f1_9 q0_9 q1_9 q2_9
  go_wp2_with fail
  refine (emin_any _).mono ?_
  rintro e w11 ⟨rfl, hext11⟩
  have hq11 : Ext W w11 := Ext.trans (by (focus ((repeat (first | with_reducible assumption | with_reducible exact Ext.refl _ | with_reducible refine Ext.drew ?_ | with_reducible refine Ext.alloc ?_ _ _ | with_reducible refine Ext.setCell ?_ ?_ _ | with_reducible exact Nat.le_refl _ | (dsimp only; omega) | (simp only [World.size_alloc]; omega))); done))) hext11
  have hz11 := hz10.ext hext11
  have hv11 := hv10.ext hext11
  have f0_11 := f0 _ hq11
  have f1_11 := f1 _ hq11
  have q0_11 := q0 _ hq11
  have q1_11 := q1 _ hq11
  have q2_11 := q2 _ hq11
  clear f0_10 f1_10 q0_10 q1_10 q2_10
  clear t1 t2 hz10 hv10 f0 f1 q0 q1 q2
  go_wp2_with fail
  have hFx := hFW.ext hq11
  have hQx := hQW.ext hq11
  have y0 : ∀ w', Ext w11 w' → w'.cell? ⟨w.heap.size, 0, none⟩ = some (.int .u8 8) := fun w' h => (hFx.ext h).cell rfl
  have y1 : ∀ w', Ext w11 w' → w'.cell? ⟨w.heap.size, 1, none⟩ = some (.int .u8 23) := fun w' h => (hFx.ext h).cell rfl
  have y2 : ∀ w', Ext w11 w' → w'.cell? ⟨w.heap.size + 1, 0, none⟩ = some (.bool neg) := fun w' h => (hQx.ext h).cell rfl
  have y3 : ∀ w', Ext w11 w' → w'.cell? ⟨w9.heap.size, 0, none⟩ = some (.int .i8 h9) := fun w' h => (hz11.ext h).cell rfl
  have y4 : ∀ w', Ext w11 w' → w'.cell? ⟨w9.heap.size, 1, none⟩ = some (.bool s9) := fun w' h => (hz11.ext h).cell rfl
  have hpk : Hid (∀ w' t, Calls Oaig.prog 92 #[.agg #[.int .u8 8, .int .u8 23], .int .u8 0, .bool neg, .int .i64 (-126), .int .u64 (rne (sN n (149 : Int)) (sD d (149 : Int)) : Nat), .agg #[.int .i8 h9, .bool s9], .bool t] w' fun r w'' => ∃ fl : Int, r = .returned (.tuple #[.int .u64 (rnd n d + sgn neg : Nat), .int .u8 fl]) ∧ Ext w' w'') := by
    show ∀ w' t, _
    intro w' t
    rw [hval.out]
    exact pack_any w' neg s9 t h9 (-126) 0 _ hE (by have := hE.out; omega) hbd
  go_region_held3 (fun w' => Ext w11 w') ((focus ((repeat (first | with_reducible assumption | with_reducible exact Ext.refl _ | with_reducible refine Ext.drew ?_ | with_reducible refine Ext.alloc ?_ _ _ | with_reducible refine Ext.setCell ?_ ?_ _ | with_reducible exact Nat.le_refl _ | (dsimp only; omega) | (simp only [World.size_alloc]; omega))); done))) (first
    | (go_at_call 93; refine (toU64_any (hv11.ext (by (focus ((repeat (first | with_reducible assumption | with_reducible exact Ext.refl _ | with_reducible refine Ext.drew ?_ | with_reducible refine Ext.alloc ?_ _ _ | with_reducible refine Ext.setCell ?_ ?_ _ | with_reducible exact Nat.le_refl _ | (dsimp only; omega) | (simp only [World.size_alloc]; omega))); done)))) (by omega)).mono ?_; rintro e w12 ⟨rfl, rfl⟩)
    | (go_at_call 92; refine Calls.mono (hpk.out _ _) ?_; rintro e w13 ⟨fl, rfl, hext13⟩; have hq13 : Ext w11 w13 := Ext.trans (by (focus ((repeat (first | with_reducible assumption | with_reducible exact Ext.refl _ | with_reducible refine Ext.drew ?_ | with_reducible refine Ext.alloc ?_ _ _ | with_reducible refine Ext.setCell ?_ ?_ _ | with_reducible exact Nat.le_refl _ | (dsimp only; omega) | (simp only [World.size_alloc]; omega))); done))) hext13))
  go_wp2
  go_ret2
  exact ⟨_, rfl, (hwW.trans hq11).trans hq13⟩

end Go.Proofs.Ygcoai
