/-
  Seat gcoai. exact.log2 (88) at the bounds of the root, and exact.rootAt (91), to nearest even.
-/
import Derived.Test.YgcoaiNSqrt
import Derived.Test.YgcoaiRnd
import Derived.Test.YgcoaiTwo
namespace Go.Proofs.Ygcoai
open Go.RowKit

set_option maxHeartbeats 1000000 in
theorem log2w_any {w : World} {nv dv : Value} {n d L : Nat} (hn : NatV w nv n) (hd : NatV w dv d) (ln : Lt32 n L) (ld : Lt32 d L) (hL : L ≤ 100) (lo hi : Int) (hlo : -500 ≤ lo) (hlo2 : lo ≤ 500) (hhi : -500 ≤ hi) (hhi2 : hi ≤ 500) (hb1 : lo ≤ (bl n : Int) - bl d) (hb2 : (bl n : Int) - bl d ≤ hi + 1) :
    Calls Oaig.prog 88 #[nv, dv, .int .i64 lo, .int .i64 hi] w fun e w' => e = .returned (.int .i64 (lg n d)) ∧ Ext w w' := by
  obtain ⟨E, hE⟩ : ∃ E : Int, E = (bl n : Int) - bl d := ⟨_, rfl⟩
  rw [← hE] at hb1 hb2
  have b1 := bl_lt32 ln
  have b2 := bl_lt32 ld
  have hs : Hid ((bl n : Int) - bl d = E) := hE.symm
  have hv : Hid (lg n d = if n * 2 ^ (-E).toNat < d * 2 ^ E.toNat then E - 1 else E) := by
    show lg n d = _
    unfold lg; dsimp only; rw [← hE]
  have l1 : Lt32 (n * 2 ^ (-E).toNat) (L + 20) := ((ln.shl (k := (-E).toNat))).mono (Nat.le_refl _) (by omega)
  have l2 : Lt32 (d * 2 ^ (E).toNat) (L + 20) := ((ld.shl (k := (E).toNat))).mono (Nat.le_refl _) (by omega)
  have h1 : decide (hi + 1 < E) = false := decide_eq_false (by omega)
  have h2 : decide (E < lo) = false := decide_eq_false (by omega)
  have hE1 : -600 ≤ E := by omega
  have hE2 : E ≤ 600 := by omega
  clear hE hb1 hb2
  go_enter Oaig.func88, Oaig.ntmps88
  go_wp2_with fail
  refine (bitLen_any hn ln (by omega)).mono ?_
  rintro e w1 ⟨rfl, rfl⟩
  go_wp2_with fail
  refine (bitLen_any hd ld (by omega)).mono ?_
  rintro e w1 ⟨rfl, rfl⟩
  have hE := hs.out
  go_wp2_with fail
  refine (shift_any hn hd ln ld (by omega) (-E) (by omega) (by omega)).mono ?_
  rintro e w2 ⟨nv2, dv2, rfl, hext2, hn2, hd2⟩
  rw [Int.neg_neg] at hd2
  go_wp2_with fail
  refine (cmp_any hn2 hd2 l1 l2 (by omega)).mono ?_
  rintro e w3 ⟨rfl, hext3⟩
  by_cases h3 : n * 2 ^ (-E).toNat < d * 2 ^ E.toNat
  · have hc := cmpI_lt h3
    have hv2 : Hid (lg n d = E - 1) := by show lg n d = E - 1; rw [hv.out, if_pos h3]
    clear h3 hv
    rw [hc]
    clear hc
    go_wp2
    go_ret
    exact ⟨by rw [hv2.out]; rfl, hext2.trans hext3⟩
  · have hc : decide (cmpI (n * 2 ^ (-E).toNat) (d * 2 ^ E.toNat) < 0) = false := by
      apply decide_eq_false; unfold cmpI; rw [if_neg h3]; split <;> omega
    have hv2 : Hid (lg n d = E) := by show lg n d = E; rw [hv.out, if_neg h3]
    clear h3 hv
    obtain ⟨C, hC⟩ : ∃ C, C = cmpI (n * 2 ^ (-E).toNat) (d * 2 ^ E.toNat) := ⟨_, rfl⟩
    rw [← hC] at hc ⊢
    clear hC
    go_wp2
    go_ret
    exact ⟨by rw [hv2.out]; rfl, hext2.trans hext3⟩

/-- The root r of A/B, one more where the rest is more than a half (or a half, and r is odd). -/
def rtUp (A B r : Nat) : Nat := r + (if xr (cmpI (A * 2 ^ 2) ((r * 2 ^ 1 + 1) * (r * 2 ^ 1 + 1) * B)) (decide (r % 2 = 1)) then 1 else 0)

set_option maxRecDepth 20000 in
set_option maxHeartbeats 4000000 in
theorem rootAt_any {w : World} (ng : Bool) {nv dv : Value} {n d A B : Nat} (k e : Int) (hn : NatV w nv n) (hd : NatV w dv d) (ln : Lt32 n 10) (ld : Lt32 d 10) (he1 : -200 ≤ e) (he2 : e ≤ 200) (hk : k = 2 * (23 - e)) (hA : A = n * 2 ^ k.toNat) (hB : B = d * 2 ^ (-k).toNat) (h0 : B ≠ 0) (hq0 : A / B ≠ 0) :
    Calls Oaig.prog 91 #[.agg #[.int .u8 8, .int .u8 23], .int .u8 0, .agg #[.bool ng, nv, dv], .int .i64 e] w fun z w' => ∃ qv h s r, z = .returned (.tuple #[qv, .agg #[.int .i8 h, .bool s]]) ∧ Ext w w' ∧ IsRoot r (A / B) ∧ NatV w' qv (rtUp A B r) := by
  obtain ⟨ao1, n1, c1, rfl⟩ := hn.form
  obtain ⟨ao2, n2, c2, rfl⟩ := hd.form
  have lA : Lt32 A 30 := by rw [hA]; exact (ln.shl (k := k.toNat)).mono (Nat.le_refl _) (by omega)
  have lB : Lt32 B 30 := by rw [hB]; exact (ld.shl (k := (-k).toNat)).mono (Nat.le_refl _) (by omega)
  have lq : Lt32 (A / B) 30 := lA.mono (Nat.div_le_self _ _) (Nat.le_refl _)
  have f1 : 2 * (23 - e) = k := hk.symm
  have hSh := fun w (h1 : NatV w (.slice ao1 n1 c1) n) (h2 : NatV w (.slice ao2 n2 c2) d) => shift_any h1 h2 ln ld (by decide) k (by omega) (by omega)
  rw [← hA, ← hB] at hSh
  replace hSh : Hid _ := hSh
  clear hA hB hk
  go_enter Oaig.func91, Oaig.ntmps91
  go_wp2_with fail
  refine Calls.mono (hSh.out _ (hn.ext (by (focus ((repeat (first | with_reducible assumption | with_reducible exact Ext.refl _ | with_reducible refine Ext.drew ?_ | with_reducible refine Ext.alloc ?_ _ _ | with_reducible refine Ext.setCell ?_ ?_ _ | with_reducible exact Nat.le_refl _ | (dsimp only; omega) | (simp only [World.size_alloc]; omega))); done)))) (hd.ext (by (focus ((repeat (first | with_reducible assumption | with_reducible exact Ext.refl _ | with_reducible refine Ext.drew ?_ | with_reducible refine Ext.alloc ?_ _ _ | with_reducible refine Ext.setCell ?_ ?_ _ | with_reducible exact Nat.le_refl _ | (dsimp only; omega) | (simp only [World.size_alloc]; omega))); done))))) ?_
  rintro z w1 ⟨nv2, dv2, rfl, hext1, hA, hB⟩
  have hR : Blk w1 (w.heap.size + 1 + 1) #[.int .i8 0, .bool false] := Blk.ext (by (focus ((repeat (first | with_reducible assumption | with_reducible exact Blk.new _ _ _ | with_reducible exact Blk.new' _ _ (by simp) | with_reducible refine Blk.alloc ?_ _ _ | with_reducible refine Blk.set4 (a := .bool false) (b := .int .i8 0) (c := .int .i16 0) (d := .int .u64 0) ?_ | with_reducible refine Blk.setOther4 ?_ ?_ | with_reducible refine Blk.setOther ?_ ?_ _ | with_reducible refine Blk.drew ?_ | (apply Ne.symm; with_reducible assumption) | omega)); done))) hext1
  have hw : Ext w w1 := Ext.trans (by (focus ((repeat (first | with_reducible assumption | with_reducible exact Ext.refl _ | with_reducible refine Ext.drew ?_ | with_reducible refine Ext.alloc ?_ _ _ | with_reducible refine Ext.setCell ?_ ?_ _ | with_reducible exact Nat.le_refl _ | (dsimp only; omega) | (simp only [World.size_alloc]; omega))); done))) hext1
  clear hext1 hn hd hSh
  obtain ⟨ao3, n3, c3, rfl⟩ := hA.form
  obtain ⟨ao4, n4, c4, rfl⟩ := hB.form
  go_wp2_with fail
  refine (divMod_any hA hB lA lB (by decide) h0).mono ?_
  rintro z w2 ⟨qv, rv, rfl, hext2, hq, _⟩
  go_wp2_with fail
  refine (nsqrt_any hq lq (by decide) hq0).mono ?_
  rintro z w3 ⟨sv, sb, r, rfl, hext3, hr, hroot⟩
  have lr : Lt32 r 30 := lq.mono (by have := hroot.1; exact Nat.le_trans (Nat.le_mul_self r) this) (Nat.le_refl _)
  obtain ⟨ao5, n5, c5, rfl⟩ := hr.form
  go_wp2_with fail
  refine (shl_any hr lr (by decide) 1 (by decide)).mono ?_
  rintro z w4 ⟨v4, rfl, hext4, hv4⟩
  have l4 : Lt32 (r * 2 ^ 1) 31 := (lr.shl (k := 1)).mono (Nat.le_refl _) (by decide)
  go_wp2_with fail
  refine (succ_any hv4 l4 (by decide)).mono ?_
  rintro z w5 ⟨v5, rfl, hext5, hv5⟩
  have l5 : Lt32 (r * 2 ^ 1 + 1) 32 := l4.add (lt32_one 1 (by decide) |>.mono (Nat.le_refl _) (by decide))
  replace hA := hA.ext (hext2.trans (hext3.trans (hext4.trans hext5)))
  replace hB := hB.ext (hext2.trans (hext3.trans (hext4.trans hext5)))
  replace hr := hr.ext (hext4.trans hext5)
  replace hR := hR.ext (hext2.trans (hext3.trans (hext4.trans hext5)))
  replace hw := hw.trans (hext2.trans (hext3.trans (hext4.trans hext5)))
  clear hext2 hext3 hext4 hext5 hq hv4
  go_wp2_with fail
  refine (shl_any hA lA (by decide) 2 (by decide)).mono ?_
  rintro z w6 ⟨v6, rfl, hext6, hv6⟩
  have l6 : Lt32 (A * 2 ^ 2) 31 := (lA.shl (k := 2)).mono (Nat.le_refl _) (by decide)
  replace hv5 := hv5.ext hext6
  go_wp2_with fail
  refine (mul_any hv5 hv5 l5 l5 (by decide)).mono ?_
  rintro z w7 ⟨v7, rfl, hext7, hv7⟩
  have l7 : Lt32 ((r * 2 ^ 1 + 1) * (r * 2 ^ 1 + 1)) 64 := l5.mul l5
  go_wp2_with fail
  refine (mul_any hv7 (hB.ext (hext6.trans hext7)) l7 (lB.mono (Nat.le_refl _) (by decide)) (by decide)).mono ?_
  rintro z w8 ⟨v8, rfl, hext8, hv8⟩
  have l8 : Lt32 ((r * 2 ^ 1 + 1) * (r * 2 ^ 1 + 1) * B) 128 := l7.mul (lB.mono (Nat.le_refl _) (by decide : 30 ≤ 64))
  go_wp2_with fail
  refine (cmp_any (hv6.ext (hext7.trans hext8)) hv8 (l6.mono (Nat.le_refl _) (by decide)) l8 (by decide)).mono ?_
  rintro z w9 ⟨rfl, hext9⟩
  replace hA := hA.ext (hext6.trans (hext7.trans (hext8.trans hext9)))
  replace hB := hB.ext (hext6.trans (hext7.trans (hext8.trans hext9)))
  replace hr := hr.ext (hext6.trans (hext7.trans (hext8.trans hext9)))
  replace hR := hR.ext (hext6.trans (hext7.trans (hext8.trans hext9)))
  replace hw := hw.trans (hext6.trans (hext7.trans (hext8.trans hext9)))
  clear hext6 hext7 hext8 hext9 hv5 hv6 hv7 hv8
  obtain ⟨C, hC⟩ : ∃ C, C = cmpI (A * 2 ^ 2) ((r * 2 ^ 1 + 1) * (r * 2 ^ 1 + 1) * B) := ⟨_, rfl⟩
  rw [← hC]
  obtain ⟨od, hod⟩ : ∃ b, b = decide (r % 2 = 1) := ⟨_, rfl⟩
  obtain ⟨b, hb⟩ : ∃ b, b = xr C od := ⟨_, rfl⟩
  have hv : Hid (rtUp A B r = r + (if b then 1 else 0)) := by show rtUp A B r = _; unfold rtUp; rw [hb, hC, hod]
  have hbit : ∀ w', NatV w' (.slice ao5 n5 c5) r → Calls Oaig.prog 134 #[.slice ao5 n5 c5, .int .i64 0] w' fun e w'' => e = .returned (.bool od) ∧ w' = w'' := by
    intro w' h; rw [hod]; exact bit0_any h lr (by decide)
  have hrs : ∀ (w' : World) (s : Bool), Calls Oaig.prog 133 #[.int .u8 0, .bool false, .bool od, .agg #[.int .i8 C, .bool s]] w' fun e w'' => e = .returned (.bool b) ∧ Ext w' w'' := by
    intro w' s; rw [hb]; exact xraises_any w' false od s C
  replace hbit : Hid _ := hbit
  replace hrs : Hid _ := hrs
  clear hC hod hb
  go_wp2_with fail
  refine (mul_any hr hr lr lr (by decide)).mono ?_
  rintro z w10 ⟨v10, rfl, hext10, hv10⟩
  go_wp2_with fail
  refine (mul_any hv10 (hB.ext hext10) (lr.mul lr) (lB.mono (Nat.le_refl _) (by decide)) (by decide)).mono ?_
  rintro z w11 ⟨v11, rfl, hext11, hv11⟩
  go_wp2_with fail
  refine (cmp_any hv11 (hA.ext (hext10.trans hext11)) ((lr.mul lr).mul (lB.mono (Nat.le_refl _) (by decide : 30 ≤ 60))) (lA.mono (Nat.le_refl _) (by decide)) (by decide)).mono ?_
  rintro z w12 ⟨rfl, hext12⟩
  replace hr := hr.ext (hext10.trans (hext11.trans hext12))
  replace hR := hR.ext (hext10.trans (hext11.trans hext12))
  replace hw := hw.trans (hext10.trans (hext11.trans hext12))
  clear hA hB hext10 hext11 hext12 hv10 hv11
  go_wp2_with fail
  obtain ⟨sB, hsB⟩ : ∃ b, b = (cmpI (r * r * B) A != 0) := ⟨_, rfl⟩
  rw [← hsB]
  clear hsB
  obtain ⟨W, hW⟩ : ∃ W, W = w12.alloc (.cells #[.int .i8 C, .bool sB] 114) := ⟨_, rfl⟩
  have hP : Blk W w12.heap.size #[.int .i8 C, .bool sB] := by rw [hW]; exact Blk.new _ _ _
  have hRW : Blk W (w.heap.size + 1 + 1) #[.int .i8 0, .bool false] := by rw [hW]; exact hR.alloc _ _
  have hwW : Ext w W := by rw [hW]; exact hw.alloc _ _
  have hrW : NatV W (.slice ao5 n5 c5) r := by rw [hW]; exact hr.ext ((Ext.refl _).alloc _ _)
  have hlt := hR.lt
  have hne : w12.heap.size ≠ w.heap.size + 1 + 1 := by omega
  rw [← hW]
  have d0 : ∀ w', Ext W w' → w'.cell? ⟨w12.heap.size, 0, none⟩ = some (.int .i8 C) := fun w' h => (hP.ext h).cell rfl
  have d1 : ∀ w', Ext W w' → w'.cell? ⟨w12.heap.size, 1, none⟩ = some (.bool sB) := fun w' h => (hP.ext h).cell rfl
  have p0 := hP.cell (i := 0) rfl
  have p1 := hP.cell (i := 1) rfl
  clear hW hr hR hw
  go_region_held3 (fun w' => Ext W w') ((focus ((repeat (first | with_reducible assumption | with_reducible exact Ext.refl _ | with_reducible refine Ext.drew ?_ | with_reducible refine Ext.alloc ?_ _ _ | with_reducible refine Ext.setCell ?_ ?_ _ | with_reducible exact Nat.le_refl _ | (dsimp only; omega) | (simp only [World.size_alloc]; omega))); done))) (first
    | (go_at_call 134; refine Calls.mono (hbit.out _ (hrW.ext (by (focus ((repeat (first | with_reducible assumption | with_reducible exact Ext.refl _ | with_reducible refine Ext.drew ?_ | with_reducible refine Ext.alloc ?_ _ _ | with_reducible refine Ext.setCell ?_ ?_ _ | with_reducible exact Nat.le_refl _ | (dsimp only; omega) | (simp only [World.size_alloc]; omega))); done))))) ?_; rintro e w13 ⟨rfl, rfl⟩)
    | (go_at_call 133; refine Calls.mono (hrs.out _ _) ?_; rintro e w14 ⟨rfl, hext14⟩; have hq14 : Ext W w14 := Ext.trans (by (focus ((repeat (first | with_reducible assumption | with_reducible exact Ext.refl _ | with_reducible refine Ext.drew ?_ | with_reducible refine Ext.alloc ?_ _ _ | with_reducible refine Ext.setCell ?_ ?_ _ | with_reducible exact Nat.le_refl _ | (dsimp only; omega) | (simp only [World.size_alloc]; omega))); done))) hext14))
  have r0 := (hP.ext hq14).cell (i := 0) rfl
  have r1 := (hP.ext hq14).cell (i := 1) rfl
  have hR4 := hRW.ext hq14
  have hq := hrW.ext hq14
  have hw4 := hwW.trans hq14
  clear d0 d1 p0 p1
  cases b
  · have hv2 : Hid (rtUp A B r = r) := by show rtUp A B r = r; rw [hv.out]; rfl
    have s0 := hR4.cell (i := 0) rfl
    have s1 := hR4.cell (i := 1) rfl
    have sz := hR4.fz
    go_wp2_with fail
    go_region
    go_wp2
    have hRR := (hR4.set2 (a' := .int .i8 C) (b' := .bool sB)).drew
    have hno := hR4.noLimb (by simp)
    exact bodyPost_ret (v := .tuple #[.slice ao5 n5 c5, .agg #[.int .i8 C, .bool sB]]) (by simp [results, Oaig.results91, go_sem, hRR.cell (i := 0) rfl, hRR.cell (i := 1) rfl]) rfl ⟨_, _, _, r, rfl, (Ext.set2 hw4 (by omega) _ _).drew, hroot, by rw [hv2.out]; exact ((hq.set hno _ _).set (hno.set _ (by simp)) _ _).ext (Ext.refl _).drew⟩
  · have hv2 : Hid (rtUp A B r = r + 1) := by show rtUp A B r = r + 1; rw [hv.out]; rfl
    go_wp2_with fail
    refine (succ_any hq lr (by decide)).mono ?_
    rintro e w15 ⟨v15, rfl, hext15, hv15⟩
    replace hR4 := hR4.ext hext15
    replace hw4 := hw4.trans hext15
    replace r0 := hext15.cell r0
    replace r1 := hext15.cell r1
    clear hq
    have hq := hv15
    have s0 := hR4.cell (i := 0) rfl
    have s1 := hR4.cell (i := 1) rfl
    have sz := hR4.fz
    obtain ⟨aoz, nz, kz, rfl⟩ := hq.form
    go_wp2_with fail
    go_region
    go_wp2
    have hRR := (hR4.set2 (a' := .int .i8 C) (b' := .bool sB)).drew
    have hno := hR4.noLimb (by simp)
    exact bodyPost_ret (v := .tuple #[.slice aoz nz kz, .agg #[.int .i8 C, .bool sB]]) (by simp [results, Oaig.results91, go_sem, hRR.cell (i := 0) rfl, hRR.cell (i := 1) rfl]) rfl ⟨_, _, _, r, rfl, (Ext.set2 hw4 (by omega) _ _).drew, hroot, by rw [hv2.out]; exact ((hq.set hno _ _).set (hno.set _ (by simp)) _ _).ext (Ext.refl _).drew⟩

end Go.Proofs.Ygcoai
