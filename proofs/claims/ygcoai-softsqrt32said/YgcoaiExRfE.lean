/-
  Seat gcoai. exact.RoundFlags (116), just below the normals, and in one statement, at Binary32, NearestEven.
-/
import Derived.Test.YgcoaiExRf
namespace Go.Proofs.Ygcoai
open Go.RowKit


set_option maxRecDepth 20000 in
set_option maxHeartbeats 4000000 in
theorem roundFlags_edge {w : World} (neg : Bool) {nv dv : Value} {n d L : Nat} (hn : NatV w nv n) (hd : NatV w dv d) (ln : Lt32 n L) (ld : Lt32 d L) (hL : L ≤ 50) (h0 : d ≠ 0) (hz : n ≠ 0) (hR : Hid (lgB n d = -127)) :
    Calls Oaig.prog 116 #[.agg #[.int .u8 8, .int .u8 23], .int .u8 0, .agg #[.bool neg, nv, dv]] w fun e w' => ∃ fl : Int, e = .returned (.tuple #[.int .u64 (rnd n d + sgn neg : Nat), .int .u8 fl]) ∧ Ext w w' := by
  obtain ⟨ao1, n1, k1, rfl⟩ := hn.form
  obtain ⟨ao2, n2, k2, rfl⟩ := hd.form
  go_enter Oaig.func116, Oaig.ntmps116
  go_wp2_with fail
  refine (ok_any _).mono ?_
  rintro e w1 ⟨rfl, hext1⟩
  have hF : Blk w1 w.heap.size #[.int .u8 8, .int .u8 23] := Blk.two1 hext1
  have hQ : Blk w1 (w.heap.size + 1) #[.bool neg, .slice ao1 n1 k1, .slice ao2 n2 k2] := Blk.two2 hext1
  have hw := hext1.of_alloc2
  have a0 := hF.cell (i := 0) rfl
  have a1 := hF.cell (i := 1) rfl
  have b0 := hQ.cell (i := 0) rfl
  have b1 := hQ.cell (i := 1) rfl
  have b2 := hQ.cell (i := 2) rfl
  clear hext1
  go_wp2_with fail
  refine (makeRat_any neg (hn.ext hw) (hd.ext hw) ln ld (by omega) h0).mono ?_
  rintro e w2 ⟨nv2, dv2, rfl, hext2, hn2, hd2⟩
  obtain ⟨ao3, n3, k3, rfl⟩ := hn2.form
  obtain ⟨ao4, n4, k4, rfl⟩ := hd2.form
  replace hF := hF.ext hext2
  replace hQ := hQ.ext hext2
  replace hw := hw.trans hext2
  replace a0 := hF.cell (i := 0) rfl
  replace a1 := hF.cell (i := 1) rfl
  replace b0 := hQ.cell (i := 0) rfl
  replace b1 := hQ.cell (i := 1) rfl
  replace b2 := hQ.cell (i := 2) rfl
  have bz := hQ.fz
  clear hext2
  obtain ⟨W, hW⟩ : ∃ W, W = ((w2.setCell ⟨w.heap.size + 1, 0, none⟩ (.bool neg)).setCell ⟨w.heap.size + 1, 1, none⟩ (.slice ao3 n3 k3)).setCell ⟨w.heap.size + 1, 2, none⟩ (.slice ao4 n4 k4) := ⟨_, rfl⟩
  have hFW : Blk W w.heap.size #[.int .u8 8, .int .u8 23] := by rw [hW]; exact ((hF.setOther (by omega) _).setOther (by omega) _).setOther (by omega) _
  have hQW : Blk W (w.heap.size + 1) #[.bool neg, .slice ao3 n3 k3, .slice ao4 n4 k4] := by rw [hW]; exact hQ.set3
  have hwW : Ext w W := by rw [hW]; exact Ext.set3 hw (by omega) _ _ _
  have hnW : NatV W (.slice ao3 n3 k3) n := by rw [hW]; exact hn2.set3 hQ (by simp [NL]) (by simp [NL])
  have hdW : NatV W (.slice ao4 n4 k4) d := by rw [hW]; exact hd2.set3 hQ (by simp [NL]) (by simp [NL])
  have e3 := hn2.notNil hz
  have q38 : ∀ (w : World) (n' c' : Nat), (binOp .eql 38 (.slice ao3 n3 k3) (.slice none n' c')).run Oaig.prog w = .ok (.bool false) w := by
    intro w n' c'; rw [← e3]; exact eqnil38 w ao3 n3 k3 n' c'
  clear e3 hn2 hd2 hF hQ hw
  replace hW : Hid _ := hW
  go_wp2_with fail
  rw [← hW.out]
  clear hW a0 a1 b0 b1 b2 bz
  have f0 : ∀ w', Ext W w' → w'.cell? ⟨w.heap.size, 0, none⟩ = some (.int .u8 8) := fun w' h => (hFW.ext h).cell rfl
  have f1 : ∀ w', Ext W w' → w'.cell? ⟨w.heap.size, 1, none⟩ = some (.int .u8 23) := fun w' h => (hFW.ext h).cell rfl
  have q0 : ∀ w', Ext W w' → w'.cell? ⟨w.heap.size + 1, 0, none⟩ = some (.bool neg) := fun w' h => (hQW.ext h).cell rfl
  have q1 : ∀ w', Ext W w' → w'.cell? ⟨w.heap.size + 1, 1, none⟩ = some (.slice ao3 n3 k3) := fun w' h => (hQW.ext h).cell rfl
  have q2 : ∀ w', Ext W w' → w'.cell? ⟨w.heap.size + 1, 2, none⟩ = some (.slice ao4 n4 k4) := fun w' h => (hQW.ext h).cell rfl
  have hlog : ∀ w', Ext W w' → Calls Oaig.prog 88 #[.slice ao3 n3 k3, .slice ao4 n4 k4, .int .i64 (-127), .int .i64 127] w' fun e w'' => e = .returned (.int .i64 (-127)) ∧ Ext w' w'' := by
    intro w' h
    have hh := log2_any (hnW.ext h) (hdW.ext h) ln ld (by omega)
    rw [hR.out] at hh
    exact hh
  replace hlog : Hid _ := hlog
  have hE : Hid ((-126 : Int) = ((0 : Nat) : Int) - 126) := by show (-126 : Int) = ((0 : Nat) : Int) - 126; omega
  go_region_held3 (fun w' => Ext W w') ((focus ((repeat (first | with_reducible assumption | with_reducible exact Ext.refl _ | with_reducible refine Ext.drew ?_ | with_reducible refine Ext.alloc ?_ _ _ | with_reducible refine Ext.setCell ?_ ?_ _ | with_reducible exact Nat.le_refl _ | (dsimp only; omega) | (simp only [World.size_alloc]; omega))); done))) (first
    | (go_at_call 89; refine (emin_any _).mono ?_; rintro e w3 ⟨rfl, hext3⟩; have hq3 : Ext W w3 := Ext.trans (by (focus ((repeat (first | with_reducible assumption | with_reducible exact Ext.refl _ | with_reducible refine Ext.drew ?_ | with_reducible refine Ext.alloc ?_ _ _ | with_reducible refine Ext.setCell ?_ ?_ _ | with_reducible exact Nat.le_refl _ | (dsimp only; omega) | (simp only [World.size_alloc]; omega))); done))) hext3)
    | (go_at_call 90; refine (emax_any _).mono ?_; rintro e w4 ⟨rfl, hext4⟩; have hq4 : Ext W w4 := Ext.trans (by (focus ((repeat (first | with_reducible assumption | with_reducible exact Ext.refl _ | with_reducible refine Ext.drew ?_ | with_reducible refine Ext.alloc ?_ _ _ | with_reducible refine Ext.setCell ?_ ?_ _ | with_reducible exact Nat.le_refl _ | (dsimp only; omega) | (simp only [World.size_alloc]; omega))); done))) hext4)
    | (go_at_call 88; refine Calls.mono (hlog.out _ (by (focus ((repeat (first | with_reducible assumption | with_reducible exact Ext.refl _ | with_reducible refine Ext.drew ?_ | with_reducible refine Ext.alloc ?_ _ _ | with_reducible refine Ext.setCell ?_ ?_ _ | with_reducible exact Nat.le_refl _ | (dsimp only; omega) | (simp only [World.size_alloc]; omega))); done)))) ?_; rintro e w5 ⟨rfl, hext5⟩; have hq5 : Ext W w5 := Ext.trans (by (focus ((repeat (first | with_reducible assumption | with_reducible exact Ext.refl _ | with_reducible refine Ext.drew ?_ | with_reducible refine Ext.alloc ?_ _ _ | with_reducible refine Ext.setCell ?_ ?_ _ | with_reducible exact Nat.le_refl _ | (dsimp only; omega) | (simp only [World.size_alloc]; omega))); done))) hext5))
  have f0_5 := f0 _ hq5
  have f1_5 := f1 _ hq5
  have q0_5 := q0 _ hq5
  have q1_5 := q1 _ hq5
  have q2_5 := q2 _ hq5
  go_wp2_with fail
  refine (emin_any _).mono ?_
  rintro e w6 ⟨rfl, hext6⟩
  have hq6 : Ext W w6 := Ext.trans (by (focus ((repeat (first | with_reducible assumption | with_reducible exact Ext.refl _ | with_reducible refine Ext.drew ?_ | with_reducible refine Ext.alloc ?_ _ _ | with_reducible refine Ext.setCell ?_ ?_ _ | with_reducible exact Nat.le_refl _ | (dsimp only; omega) | (simp only [World.size_alloc]; omega))); done))) hext6
  have f0_6 := f0 _ hq6
  have f1_6 := f1 _ hq6
  have q0_6 := q0 _ hq6
  have q1_6 := q1 _ hq6
  have q2_6 := q2 _ hq6
  clear f0_5 f1_5 q0_5 q1_5 q2_5
  go_wp2_with fail
  refine (emax_any _).mono ?_
  rintro e w7 ⟨rfl, hext7⟩
  have hq7 : Ext W w7 := Ext.trans (by (focus ((repeat (first | with_reducible assumption | with_reducible exact Ext.refl _ | with_reducible refine Ext.drew ?_ | with_reducible refine Ext.alloc ?_ _ _ | with_reducible refine Ext.setCell ?_ ?_ _ | with_reducible exact Nat.le_refl _ | (dsimp only; omega) | (simp only [World.size_alloc]; omega))); done))) hext7
  have f0_7 := f0 _ hq7
  have f1_7 := f1 _ hq7
  have q0_7 := q0 _ hq7
  have q1_7 := q1 _ hq7
  have q2_7 := q2 _ hq7
  clear f0_6 f1_6 q0_6 q1_6 q2_6
  have hEl : lg n d ≤ (-126) ∧ rnd n d = min 2139095040 (0 * 8388608 + rne (sN n (149 : Int)) (sD d (149 : Int))) := by
    have hlm := lgB_max n d
    rw [hR.out] at hlm
    have hx := hlm.2 (by omega)
    have hy : max (lg n d) (-126) = (-126) := by omega
    refine ⟨by omega, ?_⟩
    unfold rnd
    dsimp only
    rw [if_neg hz, hy, if_neg (by omega)]
    rfl
  have hbd : rne (sN n (149 : Int)) (sD d (149 : Int)) ≤ 16777216 := rne_bd hz h0 hEl.1
  have hval : Hid (rnd n d = min 2139095040 (0 * 8388608 + rne (sN n (149 : Int)) (sD d (149 : Int)))) := hEl.2
  have l1 : Lt32 (sN n (149 : Int)) (L + 10) := (ln.shl (k := ((149 : Int)).toNat)).mono (Nat.le_refl _) (by omega)
  have l2 : Lt32 (sD d (149 : Int)) (L + 10) := (ld.shl (k := (-(149 : Int)).toNat)).mono (Nat.le_refl _) (by omega)
  have l3 : sD d (149 : Int) ≠ 0 := Nat.mul_ne_zero h0 (Nat.pos_iff_ne_zero.1 (Nat.two_pow_pos _))
  clear hEl
  go_wp2_with fail
  refine (shift_any (hnW.ext hq7) (hdW.ext hq7) ln ld (by omega) (149 : Int) (by omega) (by omega)).mono ?_
  rintro e w8 ⟨nv8, dv8, rfl, hext8, hn8, hd8⟩
  have hq8 : Ext W w8 := Ext.trans (by (focus ((repeat (first | with_reducible assumption | with_reducible exact Ext.refl _ | with_reducible refine Ext.drew ?_ | with_reducible refine Ext.alloc ?_ _ _ | with_reducible refine Ext.setCell ?_ ?_ _ | with_reducible exact Nat.le_refl _ | (dsimp only; omega) | (simp only [World.size_alloc]; omega))); done))) hext8
  have f0_8 := f0 _ hq8
  have f1_8 := f1 _ hq8
  have q0_8 := q0 _ hq8
  have q1_8 := q1 _ hq8
  have q2_8 := q2 _ hq8
  clear f0_7 f1_7 q0_7 q1_7 q2_7
  change NatV w8 nv8 (sN n (149 : Int)) at hn8
  change NatV w8 dv8 (sD d (149 : Int)) at hd8
  go_wp2_with fail
  refine (raised_any neg hn8 hd8 l1 l2 (by omega) l3).mono ?_
  rintro e w9 ⟨qv9, h9, s9, rfl, hext9, hv9⟩
  have hq9 : Ext W w9 := Ext.trans (by (focus ((repeat (first | with_reducible assumption | with_reducible exact Ext.refl _ | with_reducible refine Ext.drew ?_ | with_reducible refine Ext.alloc ?_ _ _ | with_reducible refine Ext.setCell ?_ ?_ _ | with_reducible exact Nat.le_refl _ | (dsimp only; omega) | (simp only [World.size_alloc]; omega))); done))) hext9
  have f0_9 := f0 _ hq9
  have f1_9 := f1 _ hq9
  have q0_9 := q0 _ hq9
  have q1_9 := q1 _ hq9
  have q2_9 := q2 _ hq9
  clear f0_8 f1_8 q0_8 q1_8 q2_8
  have t1 := (hFW.ext hq9).lt
  have t2 := (hQW.ext hq9).lt
  go_wp2_with fail
  refine (emin_any _).mono ?_
  rintro e w10 ⟨rfl, hext10⟩
  have hq10 : Ext W w10 := Ext.trans (by (focus ((repeat (first | with_reducible assumption | with_reducible exact Ext.refl _ | with_reducible refine Ext.drew ?_ | with_reducible refine Ext.alloc ?_ _ _ | with_reducible refine Ext.setCell ?_ ?_ _ | with_reducible exact Nat.le_refl _ | (dsimp only; omega) | (simp only [World.size_alloc]; omega))); done))) hext10
  have hz10 : Blk w10 w9.heap.size #[.int .i8 h9, .bool s9] := Blk.one hext10
  have hv10 := hv9.ext hext10.of_alloc
  have f0_10 := f0 _ hq10
  have f1_10 := f1 _ hq10
  have q0_10 := q0 _ hq10
  have q1_10 := q1 _ hq10
  have q2_10 := q2 _ hq10
  clear f0_9 f1_9 q0_9 q1_9 q2_9
  go_wp2_with fail
  refine (emin_any _).mono ?_
  rintro e w11 ⟨rfl, hext11⟩
  have hq11 : Ext W w11 := Ext.trans (by (focus ((repeat (first | with_reducible assumption | with_reducible exact Ext.refl _ | with_reducible refine Ext.drew ?_ | with_reducible refine Ext.alloc ?_ _ _ | with_reducible refine Ext.setCell ?_ ?_ _ | with_reducible exact Nat.le_refl _ | (dsimp only; omega) | (simp only [World.size_alloc]; omega))); done))) hext11
  have hz11 := hz10.ext hext11
  have hv11 := hv10.ext hext11
  have f0_11 := f0 _ hq11
  have f1_11 := f1 _ hq11
  have q0_11 := q0 _ hq11
  have q1_11 := q1 _ hq11
  have q2_11 := q2 _ hq11
  clear f0_10 f1_10 q0_10 q1_10 q2_10
  have l4 : Lt32 (sN n (150 : Int)) (L + 10) := (ln.shl (k := (150 : Int).toNat)).mono (Nat.le_refl _) (by omega)
  have l5 : Lt32 (sD d (150 : Int)) (L + 10) := (ld.shl (k := (-150 : Int).toNat)).mono (Nat.le_refl _) (by omega)
  have l6 : sD d (150 : Int) ≠ 0 := Nat.mul_ne_zero h0 (Nat.pos_iff_ne_zero.1 (Nat.two_pow_pos _))
  have l7 : Lt32 (rne (sN n (150 : Int)) (sD d (150 : Int))) (L + 11) := by
    have h1 := rne_le (sN n (150 : Int)) (sD d (150 : Int))
    have h2 : Lt32 (sN n (150 : Int) + 1) (L + 11) := l4.add (y := 1) (lt32_one _ (by omega))
    exact h2.mono (Nat.le_trans h1 (Nat.add_le_add_right (Nat.div_le_self _ _) 1)) (Nat.le_refl _)
  go_wp2_with fail
  refine (shift_any (hnW.ext hq11) (hdW.ext hq11) ln ld (by omega) 150 (by omega) (by omega)).mono ?_
  rintro e w14 ⟨nv14, dv14, rfl, hext14, hn14, hd14⟩
  have hq14 : Ext W w14 := Ext.trans (by (focus ((repeat (first | with_reducible assumption | with_reducible exact Ext.refl _ | with_reducible refine Ext.drew ?_ | with_reducible refine Ext.alloc ?_ _ _ | with_reducible refine Ext.setCell ?_ ?_ _ | with_reducible exact Nat.le_refl _ | (dsimp only; omega) | (simp only [World.size_alloc]; omega))); done))) hext14
  have hz14 := hz11.ext hext14
  have hv14 := hv11.ext hext14
  have f0_14 := f0 _ hq14
  have f1_14 := f1 _ hq14
  have q0_14 := q0 _ hq14
  have q1_14 := q1 _ hq14
  have q2_14 := q2 _ hq14
  clear f0_11 f1_11 q0_11 q1_11 q2_11
  change NatV w14 nv14 (sN n (150 : Int)) at hn14
  change NatV w14 dv14 (sD d (150 : Int)) at hd14
  go_wp2_with fail
  refine (raised_any neg hn14 hd14 l4 l5 (by omega) l6).mono ?_
  rintro e w15 ⟨qv15, h15, s15, rfl, hext15, hv15⟩
  have hq15 : Ext W w15 := Ext.trans (by (focus ((repeat (first | with_reducible assumption | with_reducible exact Ext.refl _ | with_reducible refine Ext.drew ?_ | with_reducible refine Ext.alloc ?_ _ _ | with_reducible refine Ext.setCell ?_ ?_ _ | with_reducible exact Nat.le_refl _ | (dsimp only; omega) | (simp only [World.size_alloc]; omega))); done))) hext15
  have hz15 := hz14.ext hext15
  have hvv15 := hv14.ext hext15
  have f0_15 := f0 _ hq15
  have f1_15 := f1 _ hq15
  have q0_15 := q0 _ hq15
  have q1_15 := q1 _ hq15
  have q2_15 := q2 _ hq15
  clear f0_14 f1_14 q0_14 q1_14 q2_14
  have t3 := (hFW.ext hq15).lt
  have t4 := (hQW.ext hq15).lt
  go_wp2_with fail
  obtain ⟨w16, hW16⟩ : ∃ V, V = w15.alloc (.cells #[.int .i8 h15, .bool s15] 114) := ⟨_, rfl⟩
  have he16 : Ext w15 w16 := by rw [hW16]; exact (Ext.refl _).alloc _ _
  have hq16 : Ext W w16 := hq15.trans he16
  have hz16 := hz15.ext he16
  have hv16 := hvv15.ext he16
  have hb16 := hv15.ext he16
  rw [← hW16]
  clear hW16
  clear f0_15 f1_15 q0_15 q1_15 q2_15
  have i0 : ∀ w', Ext w16 w' → w'.cell? ⟨w.heap.size, 0, none⟩ = some (.int .u8 8) := fun w' h => (hFW.ext (hq16.trans h)).cell rfl
  have i1 : ∀ w', Ext w16 w' → w'.cell? ⟨w.heap.size, 1, none⟩ = some (.int .u8 23) := fun w' h => (hFW.ext (hq16.trans h)).cell rfl
  go_region_held3 (fun w' => Ext w16 w') ((focus ((repeat (first | with_reducible assumption | with_reducible exact Ext.refl _ | with_reducible refine Ext.drew ?_ | with_reducible refine Ext.alloc ?_ _ _ | with_reducible refine Ext.setCell ?_ ?_ _ | with_reducible exact Nat.le_refl _ | (dsimp only; omega) | (simp only [World.size_alloc]; omega))); done))) (first
    | (go_at_call 66; refine (bitLen_any (hb16.ext (by (focus ((repeat (first | with_reducible assumption | with_reducible exact Ext.refl _ | with_reducible refine Ext.drew ?_ | with_reducible refine Ext.alloc ?_ _ _ | with_reducible refine Ext.setCell ?_ ?_ _ | with_reducible exact Nat.le_refl _ | (dsimp only; omega) | (simp only [World.size_alloc]; omega))); done)))) l7 (by omega)).mono ?_; rintro e w17 ⟨rfl, rfl⟩))
  clear i0 i1 t3 t4
  clear t1 t2 hz10 hv10 f0 f1 q0 q1 q2
  go_wp2_with fail
  have hFx := hFW.ext hq16
  have hQx := hQW.ext hq16
  have y0 : ∀ w', Ext w16 w' → w'.cell? ⟨w.heap.size, 0, none⟩ = some (.int .u8 8) := fun w' h => (hFx.ext h).cell rfl
  have y1 : ∀ w', Ext w16 w' → w'.cell? ⟨w.heap.size, 1, none⟩ = some (.int .u8 23) := fun w' h => (hFx.ext h).cell rfl
  have y2 : ∀ w', Ext w16 w' → w'.cell? ⟨w.heap.size + 1, 0, none⟩ = some (.bool neg) := fun w' h => (hQx.ext h).cell rfl
  have y3 : ∀ w', Ext w16 w' → w'.cell? ⟨w9.heap.size, 0, none⟩ = some (.int .i8 h9) := fun w' h => (hz16.ext h).cell rfl
  have y4 : ∀ w', Ext w16 w' → w'.cell? ⟨w9.heap.size, 1, none⟩ = some (.bool s9) := fun w' h => (hz16.ext h).cell rfl
  have hpk : Hid (∀ w' t, Calls Oaig.prog 92 #[.agg #[.int .u8 8, .int .u8 23], .int .u8 0, .bool neg, .int .i64 (-126), .int .u64 (rne (sN n (149 : Int)) (sD d (149 : Int)) : Nat), .agg #[.int .i8 h9, .bool s9], .bool t] w' fun r w'' => ∃ fl : Int, r = .returned (.tuple #[.int .u64 (rnd n d + sgn neg : Nat), .int .u8 fl]) ∧ Ext w' w'') := by
    show ∀ w' t, _
    intro w' t
    rw [hval.out]
    exact pack_any w' neg s9 t h9 (-126) 0 _ hE (by have := hE.out; omega) hbd
  go_region_held3 (fun w' => Ext w16 w') ((focus ((repeat (first | with_reducible assumption | with_reducible exact Ext.refl _ | with_reducible refine Ext.drew ?_ | with_reducible refine Ext.alloc ?_ _ _ | with_reducible refine Ext.setCell ?_ ?_ _ | with_reducible exact Nat.le_refl _ | (dsimp only; omega) | (simp only [World.size_alloc]; omega))); done))) (first
    | (go_at_call 93; refine (toU64_any (hv16.ext (by (focus ((repeat (first | with_reducible assumption | with_reducible exact Ext.refl _ | with_reducible refine Ext.drew ?_ | with_reducible refine Ext.alloc ?_ _ _ | with_reducible refine Ext.setCell ?_ ?_ _ | with_reducible exact Nat.le_refl _ | (dsimp only; omega) | (simp only [World.size_alloc]; omega))); done)))) (by omega)).mono ?_; rintro e w12 ⟨rfl, rfl⟩)
    | (go_at_call 92; refine Calls.mono (hpk.out _ _) ?_; rintro e w13 ⟨fl, rfl, hext13⟩; have hq13 : Ext w16 w13 := Ext.trans (by (focus ((repeat (first | with_reducible assumption | with_reducible exact Ext.refl _ | with_reducible refine Ext.drew ?_ | with_reducible refine Ext.alloc ?_ _ _ | with_reducible refine Ext.setCell ?_ ?_ _ | with_reducible exact Nat.le_refl _ | (dsimp only; omega) | (simp only [World.size_alloc]; omega))); done))) hext13))
  go_wp2
  go_ret2
  exact ⟨_, rfl, (hwW.trans hq16).trans hq13⟩

theorem roundFlags_any {w : World} (neg : Bool) {nv dv : Value} {n d L : Nat} (hn : NatV w nv n) (hd : NatV w dv d) (ln : Lt32 n L) (ld : Lt32 d L) (hL : L ≤ 50) (h0 : d ≠ 0) :
    Calls Oaig.prog 116 #[.agg #[.int .u8 8, .int .u8 23], .int .u8 0, .agg #[.bool neg, nv, dv]] w fun e w' => ∃ fl : Int, e = .returned (.tuple #[.int .u64 (rnd n d + sgn neg : Nat), .int .u8 fl]) ∧ Ext w w' := by
  by_cases hz : n = 0
  · exact roundFlags_zero neg hn hd ln ld hL h0 hz
  · have hb := lgB_bd n d
    by_cases h1 : lgB n d = 128
    · exact roundFlags_over neg hn hd ln ld hL h0 hz h1
    · by_cases h2 : lgB n d = -128
      · exact roundFlags_deep neg hn hd ln ld hL h0 hz h2
      · by_cases h3 : lgB n d = -127
        · exact roundFlags_edge neg hn hd ln ld hL h0 hz h3
        · exact roundFlags_norm neg hn hd ln ld hL h0 hz (lgB n d) rfl (by omega) (by omega) (lgB n d + 126).toNat (by show lgB n d = _; omega)

end Go.Proofs.Ygcoai
