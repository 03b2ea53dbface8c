/-
  Seat gcoai. soft.sum (154) at Binary32, NearestEven.
-/
import Derived.Test.YgcoaiSumP
namespace Go.Proofs.Ygcoai
open Go.RowKit

set_option maxRecDepth 20000 in
set_option maxHeartbeats 8000000 in
theorem sum_near (w : World) (n1 n2 : Bool) (e1 e2 : Int) (h1 h2 : Nat) (k : Nat) (hd : e1 - e2 = (k : Int)) (hk0 : 0 < k) (hk : k ≤ 255) (b1 : -300 ≤ e2) (b2 : e1 ≤ 300) (u1 : 4611686018427387904 ≤ h1) (v1 : h1 < 9223372036854775808) (v2 : h2 < 9223372036854775808) (hj : jam2 (h2 * 18446744073709551616) k ≤ h1 * 18446744073709551616) :
    Calls Oaig.prog 154 #[.agg #[.int .u8 8, .int .u8 23], .int .u8 0, num n1 e1 h1 0, num n2 e2 h2 0] w fun e w' => ∃ fl : Int, e = .returned (.tuple #[.int .u64 (sumP n1 n2 e1 (h1 * 18446744073709551616) (h2 * 18446744073709551616) k : Nat), .int .u8 fl]) ∧ Ext w w' := by
  have hkm : min (k : Int) 255 = (k : Int) := by omega
  have hk2 : k < 256 := by omega
  have g1 : decide (e1 < e2) = false := decide_eq_false (by omega)
  have g2 : (e1 == e2) = false := by rw [beq_eq_false_iff_ne]; omega
  have hJam := fun w => shrJam_any w h2 0 k (h2 * 18446744073709551616) (by omega) (by decide) (by omega) (by omega)
  obtain ⟨V2, hV2⟩ : ∃ V, V = h2 * 18446744073709551616 := ⟨_, rfl⟩
  obtain ⟨V1, hV1⟩ : ∃ V, V = h1 * 18446744073709551616 := ⟨_, rfl⟩
  rw [← hV2] at hJam hj
  rw [← hV1] at hj
  rw [← hV1, ← hV2]
  obtain ⟨J, hJ⟩ : ∃ J, J = jam2 V2 k := ⟨_, rfl⟩
  rw [← hJ] at hJam hj
  obtain ⟨Jh, hJh⟩ : ∃ J', J' = J / 18446744073709551616 := ⟨_, rfl⟩
  obtain ⟨Jl, hJl⟩ : ∃ J', J' = J % 18446744073709551616 := ⟨_, rfl⟩
  rw [← hJh, ← hJl] at hJam
  replace hJam : Hid _ := hJam
  have hJl2 : Jl < 18446744073709551616 := by omega
  have hJh2 : Jh < 18446744073709551616 := by omega
  have hJv : J = Jh * 18446744073709551616 + Jl := by omega
  by_cases hn : n1 = n2
  · subst hn
    obtain ⟨T, hT⟩ : ∃ T, T = V1 + J := ⟨_, rfl⟩
    have hT0 : T ≠ 0 := by omega
    have hTl : T < 340282366920938463463374607431768211456 := by omega
    have hfin : Hid (sumP n1 n1 e1 V1 V2 k = rp (e1 - 64 + bl T) (jamS T) + sgn n1) := by
      show sumP n1 n1 e1 V1 V2 k = _
      unfold sumP; rw [if_pos rfl, ← hJ, ← hT]
    obtain ⟨TH, hTH⟩ : ∃ x, x = T / 18446744073709551616 := ⟨_, rfl⟩
    obtain ⟨TL, hTL⟩ : ∃ x, x = T % 18446744073709551616 := ⟨_, rfl⟩
    have hTv : T = TH * 18446744073709551616 + TL := by omega
    have hTHl : TH < 18446744073709551616 := by omega
    have hTLl : TL < 18446744073709551616 := by omega
    have hor := orHL hT0 hTl
    rw [← hTH, ← hTL] at hor
    have hb1 : bl T ≤ 128 := bl_le_of_lt (k := 128) hTl
    have hb2 := bl_pos hT0
    obtain ⟨j1, j2⟩ := jamS_bd hT0 hTl
    have hJm := fun w => jam_any w TH TL e1 T hTv hT0 hTHl hTLl (by omega) (by omega)
    have hRp := fun w => roundPack_any w n1 (e1 - 64 + bl T) (jamS T) (by omega) j2 (by omega) (by omega)
    replace hJm : Hid _ := hJm
    replace hRp : Hid _ := hRp
    have hAd := fun w => wadd_any w h1 0 Jh Jl TH TL (by decide) hJl2 hTLl hTHl (by omega)
    replace hAd : Hid _ := hAd
    clear hj hTv hTH hTL hJv hJh hJl hV1 hV2 hJ hT hb1 hb2 j1 j2 hT0 hTl
    go_enter Oaig.func154, Oaig.ntmps154
    go_wp2_with fail
    refine Calls.mono (hJam.out _) ?_
    rintro e w2 ⟨rfl, hext2⟩
    have hF : Blk w2 w.heap.size #[.int .u8 8, .int .u8 23] := Blk.ext (by (focus ((repeat (first | with_reducible assumption | with_reducible exact Blk.new _ _ _ | with_reducible exact Blk.new' _ _ (by simp) | with_reducible refine Blk.alloc ?_ _ _ | with_reducible refine Blk.set4 (a := .bool false) (b := .int .i8 0) (c := .int .i16 0) (d := .int .u64 0) ?_ | with_reducible refine Blk.setOther4 ?_ ?_ | with_reducible refine Blk.setOther ?_ ?_ _ | with_reducible refine Blk.drew ?_ | (apply Ne.symm; with_reducible assumption) | omega)); done))) hext2
    have hA : Blk w2 (w.heap.size + 1) #[.bool n1, .int .i16 e1, .int .u64 (h1 : Int), .int .u64 0] := Blk.ext (by (focus ((repeat (first | with_reducible assumption | with_reducible exact Blk.new _ _ _ | with_reducible exact Blk.new' _ _ (by simp) | with_reducible refine Blk.alloc ?_ _ _ | with_reducible refine Blk.set4 (a := .bool false) (b := .int .i8 0) (c := .int .i16 0) (d := .int .u64 0) ?_ | with_reducible refine Blk.setOther4 ?_ ?_ | with_reducible refine Blk.setOther ?_ ?_ _ | with_reducible refine Blk.drew ?_ | (apply Ne.symm; with_reducible assumption) | omega)); done))) hext2
    have hB : Blk w2 (w.heap.size + 1 + 1) #[.bool n1, .int .i16 e2, .int .u64 (h2 : Int), .int .u64 0] := Blk.ext (by (focus ((repeat (first | with_reducible assumption | with_reducible exact Blk.new _ _ _ | with_reducible exact Blk.new' _ _ (by simp) | with_reducible refine Blk.alloc ?_ _ _ | with_reducible refine Blk.set4 (a := .bool false) (b := .int .i8 0) (c := .int .i16 0) (d := .int .u64 0) ?_ | with_reducible refine Blk.setOther4 ?_ ?_ | with_reducible refine Blk.setOther ?_ ?_ _ | with_reducible refine Blk.drew ?_ | (apply Ne.symm; with_reducible assumption) | omega)); done))) hext2
    have hwx : Ext w w2 := Ext.trans (by (focus ((repeat (first | with_reducible assumption | with_reducible exact Ext.refl _ | with_reducible refine Ext.drew ?_ | with_reducible refine Ext.alloc ?_ _ _ | with_reducible refine Ext.setCell ?_ ?_ _ | with_reducible exact Nat.le_refl _ | (dsimp only; omega) | (simp only [World.size_alloc]; omega))); done))) hext2
    clear hext2
    have t2 := hB.cell (i := 2) rfl
    have t3 := hB.cell (i := 3) rfl
    have tz := hB.fz
    have tl := hB.lt
    replace hB := hB.setHL (c' := .int .u64 (Jh : Int)) (d' := .int .u64 (Jl : Int))
    replace hA := hA.otherHL (C := w.heap.size + 1 + 1) (c' := .int .u64 (Jh : Int)) (d' := .int .u64 (Jl : Int)) (by omega)
    replace hF := hF.otherHL (C := w.heap.size + 1 + 1) (c' := .int .u64 (Jh : Int)) (d' := .int .u64 (Jl : Int)) (by omega)
    replace hwx := hwx.setHL (B := w.heap.size + 1 + 1) (by omega) (.int .u64 (Jh : Int)) (.int .u64 (Jl : Int))
    have a0 := hA.cell (i := 0) rfl
    have a2 := hA.cell (i := 2) rfl
    have a3 := hA.cell (i := 3) rfl
    have c0 := hB.cell (i := 0) rfl
    have c2 := hB.cell (i := 2) rfl
    have c3 := hB.cell (i := 3) rfl
    have az := hA.fz
    have al := hA.lt
    go_wp2_with fail
    refine Calls.mono (hAd.out _) ?_
    rintro e w4 ⟨c, rfl, hext4⟩
    clear a0 a2 a3 c0 c2 c3 az al t2 t3 tz tl
    replace hF := hF.ext hext4
    replace hA := hA.ext hext4
    replace hwx := hwx.trans hext4
    have a2 := hA.cell (i := 2) rfl
    have a3 := hA.cell (i := 3) rfl
    have az := hA.fz
    have al := hA.lt
    have hA4 := hA
    have hF4 := hF
    have hw4 := hwx
    replace hA4 := hA4.setHL (c' := .int .u64 (TH : Int)) (d' := .int .u64 (TL : Int))
    replace hF4 := hF4.otherHL (C := w.heap.size + 1) (c' := .int .u64 (TH : Int)) (d' := .int .u64 (TL : Int)) (by omega)
    replace hw4 := hw4.setHL (B := w.heap.size + 1) (by omega) (.int .u64 (TH : Int)) (.int .u64 (TL : Int))
    have a0 := hA4.cell (i := 0) rfl
    have a1 := hA4.cell (i := 1) rfl
    have a2 := hA4.cell (i := 2) rfl
    have a3 := hA4.cell (i := 3) rfl
    have f0 := hF4.cell (i := 0) rfl
    have f1 := hF4.cell (i := 1) rfl
    go_wp2_with fail
    refine Calls.mono (hJm.out _) ?_
    rintro e w5 ⟨rfl, hext5⟩
    replace hF4 := hF4.ext hext5
    replace hA4 := hA4.ext hext5
    replace f0 := hF4.cell (i := 0) rfl
    replace f1 := hF4.cell (i := 1) rfl
    replace a0 := hA4.cell (i := 0) rfl
    go_wp2_with fail
    refine Calls.mono (hRp.out _) ?_
    rintro e w6 ⟨fl, rfl, hext6⟩
    go_wp2
    go_ret2
    exact ⟨_, by rw [hfin.out]; rfl, hw4.trans (hext5.trans hext6)⟩
  · obtain ⟨T, hT⟩ : ∃ T, T = V1 - J := ⟨_, rfl⟩
    have hTl : T < 340282366920938463463374607431768211456 := by omega
    obtain ⟨TH, hTH⟩ : ∃ x, x = T / 18446744073709551616 := ⟨_, rfl⟩
    obtain ⟨TL, hTL⟩ : ∃ x, x = T % 18446744073709551616 := ⟨_, rfl⟩
    have hTv : T = TH * 18446744073709551616 + TL := by omega
    have hTHl : TH < 18446744073709551616 := by omega
    have hTLl : TL < 18446744073709551616 := by omega
    have hCm := fun w => wcmp_any w h1 0 Jh Jl (by decide) hJl2
    rw [Nat.add_zero, ← hV1, ← hJv] at hCm
    have hc0 : 0 ≤ cmpI V1 J := by
      rcases Nat.lt_or_eq_of_le hj with h | h
      · rw [cmpI_gt h]; decide
      · rw [cmpI_eq h.symm]; decide
    obtain ⟨cc, hcc⟩ : ∃ c, c = cmpI V1 J := ⟨_, rfl⟩
    rw [← hcc] at hCm hc0
    have hcf : decide (cc < 0) = false := decide_eq_false (by omega)
    have hSb := fun w => wsub_any w h1 0 Jh Jl TH TL (by decide) hJl2 hTLl (by omega) (by omega)
    replace hCm : Hid _ := hCm
    replace hSb : Hid _ := hSb
    have hns : (n1 == n2) = false := by rw [beq_eq_false_iff_ne]; exact hn
    by_cases hT0 : T = 0
    · have hfin : Hid (sumP n1 n2 e1 V1 V2 k = 0) := by
        show sumP n1 n2 e1 V1 V2 k = _
        unfold sumP; rw [if_neg hn, ← hJ, if_pos (by omega)]
      obtain rfl : TH = 0 := by omega
      obtain rfl : TL = 0 := by omega
      clear hj hTv hTH hTL hJv hJh hJl hV1 hV2 hJ hT hT0 hTl hcc hc0
      go_enter Oaig.func154, Oaig.ntmps154
      go_wp2_with fail
      refine Calls.mono (hJam.out _) ?_
      rintro e w2 ⟨rfl, hext2⟩
      have hF : Blk w2 w.heap.size #[.int .u8 8, .int .u8 23] := Blk.ext (by (focus ((repeat (first | with_reducible assumption | with_reducible exact Blk.new _ _ _ | with_reducible exact Blk.new' _ _ (by simp) | with_reducible refine Blk.alloc ?_ _ _ | with_reducible refine Blk.set4 (a := .bool false) (b := .int .i8 0) (c := .int .i16 0) (d := .int .u64 0) ?_ | with_reducible refine Blk.setOther4 ?_ ?_ | with_reducible refine Blk.setOther ?_ ?_ _ | with_reducible refine Blk.drew ?_ | (apply Ne.symm; with_reducible assumption) | omega)); done))) hext2
      have hA : Blk w2 (w.heap.size + 1) #[.bool n1, .int .i16 e1, .int .u64 (h1 : Int), .int .u64 0] := Blk.ext (by (focus ((repeat (first | with_reducible assumption | with_reducible exact Blk.new _ _ _ | with_reducible exact Blk.new' _ _ (by simp) | with_reducible refine Blk.alloc ?_ _ _ | with_reducible refine Blk.set4 (a := .bool false) (b := .int .i8 0) (c := .int .i16 0) (d := .int .u64 0) ?_ | with_reducible refine Blk.setOther4 ?_ ?_ | with_reducible refine Blk.setOther ?_ ?_ _ | with_reducible refine Blk.drew ?_ | (apply Ne.symm; with_reducible assumption) | omega)); done))) hext2
      have hB : Blk w2 (w.heap.size + 1 + 1) #[.bool n2, .int .i16 e2, .int .u64 (h2 : Int), .int .u64 0] := Blk.ext (by (focus ((repeat (first | with_reducible assumption | with_reducible exact Blk.new _ _ _ | with_reducible exact Blk.new' _ _ (by simp) | with_reducible refine Blk.alloc ?_ _ _ | with_reducible refine Blk.set4 (a := .bool false) (b := .int .i8 0) (c := .int .i16 0) (d := .int .u64 0) ?_ | with_reducible refine Blk.setOther4 ?_ ?_ | with_reducible refine Blk.setOther ?_ ?_ _ | with_reducible refine Blk.drew ?_ | (apply Ne.symm; with_reducible assumption) | omega)); done))) hext2
      have hwx : Ext w w2 := Ext.trans (by (focus ((repeat (first | with_reducible assumption | with_reducible exact Ext.refl _ | with_reducible refine Ext.drew ?_ | with_reducible refine Ext.alloc ?_ _ _ | with_reducible refine Ext.setCell ?_ ?_ _ | with_reducible exact Nat.le_refl _ | (dsimp only; omega) | (simp only [World.size_alloc]; omega))); done))) hext2
      clear hext2
      have t2 := hB.cell (i := 2) rfl
      have t3 := hB.cell (i := 3) rfl
      have tz := hB.fz
      have tl := hB.lt
      replace hB := hB.setHL (c' := .int .u64 (Jh : Int)) (d' := .int .u64 (Jl : Int))
      replace hA := hA.otherHL (C := w.heap.size + 1 + 1) (c' := .int .u64 (Jh : Int)) (d' := .int .u64 (Jl : Int)) (by omega)
      replace hF := hF.otherHL (C := w.heap.size + 1 + 1) (c' := .int .u64 (Jh : Int)) (d' := .int .u64 (Jl : Int)) (by omega)
      replace hwx := hwx.setHL (B := w.heap.size + 1 + 1) (by omega) (.int .u64 (Jh : Int)) (.int .u64 (Jl : Int))
      have a0 := hA.cell (i := 0) rfl
      have a2 := hA.cell (i := 2) rfl
      have a3 := hA.cell (i := 3) rfl
      have c0 := hB.cell (i := 0) rfl
      have c2 := hB.cell (i := 2) rfl
      have c3 := hB.cell (i := 3) rfl
      have az := hA.fz
      have al := hA.lt
      go_wp2_with fail
      refine Calls.mono (hCm.out _) ?_
      rintro e w3 ⟨rfl, hext3⟩
      replace hF := hF.ext hext3
      replace hA := hA.ext hext3
      replace hB := hB.ext hext3
      replace hwx := hwx.trans hext3
      replace a2 := hA.cell (i := 2) rfl
      replace a3 := hA.cell (i := 3) rfl
      replace c2 := hB.cell (i := 2) rfl
      replace c3 := hB.cell (i := 3) rfl
      replace az := hA.fz
      replace al := hA.lt
      go_wp2_with fail
      refine Calls.mono (hSb.out _) ?_
      rintro e w4 ⟨c, rfl, hext4⟩
      clear a0 a2 a3 c0 c2 c3 az al t2 t3 tz tl
      replace hF := hF.ext hext4
      replace hA := hA.ext hext4
      replace hwx := hwx.trans hext4
      have a2 := hA.cell (i := 2) rfl
      have a3 := hA.cell (i := 3) rfl
      have az := hA.fz
      have al := hA.lt
      have hA4 := hA
      have hF4 := hF
      have hw4 := hwx
      replace hA4 := hA4.setHL (c' := .int .u64 0) (d' := .int .u64 0)
      replace hF4 := hF4.otherHL (C := w.heap.size + 1) (c' := .int .u64 0) (d' := .int .u64 0) (by omega)
      replace hw4 := hw4.setHL (B := w.heap.size + 1) (by omega) (.int .u64 0) (.int .u64 0)
      have a0 := hA4.cell (i := 0) rfl
      have a1 := hA4.cell (i := 1) rfl
      have a2 := hA4.cell (i := 2) rfl
      have a3 := hA4.cell (i := 3) rfl
      have f0 := hF4.cell (i := 0) rfl
      have f1 := hF4.cell (i := 1) rfl
      go_wp2_with fail
      refine (zero_any _ false).mono ?_
      rintro e w5 ⟨rfl, hext5⟩
      go_wp2
      go_ret2
      exact ⟨_, by rw [hfin.out]; rfl, hw4.trans hext5⟩
    · have hfin : Hid (sumP n1 n2 e1 V1 V2 k = rp (e1 - 64 + bl T) (jamS T) + sgn n1) := by
        show sumP n1 n2 e1 V1 V2 k = _
        unfold sumP; rw [if_neg hn, ← hJ, if_neg (by omega), ← hT]
      have hor := orHL hT0 hTl
      rw [← hTH, ← hTL] at hor
      have hb1 : bl T ≤ 128 := bl_le_of_lt (k := 128) hTl
      have hb2 := bl_pos hT0
      obtain ⟨j1, j2⟩ := jamS_bd hT0 hTl
      have hJm := fun w => jam_any w TH TL e1 T hTv hT0 hTHl hTLl (by omega) (by omega)
      have hRp := fun w => roundPack_any w n1 (e1 - 64 + bl T) (jamS T) (by omega) j2 (by omega) (by omega)
      replace hJm : Hid _ := hJm
      replace hRp : Hid _ := hRp
      clear hj hTv hTH hTL hJv hJh hJl hV1 hV2 hJ hT hb1 hb2 j1 j2 hT0 hTl hcc hc0
      go_enter Oaig.func154, Oaig.ntmps154
      go_wp2_with fail
      refine Calls.mono (hJam.out _) ?_
      rintro e w2 ⟨rfl, hext2⟩
      have hF : Blk w2 w.heap.size #[.int .u8 8, .int .u8 23] := Blk.ext (by (focus ((repeat (first | with_reducible assumption | with_reducible exact Blk.new _ _ _ | with_reducible exact Blk.new' _ _ (by simp) | with_reducible refine Blk.alloc ?_ _ _ | with_reducible refine Blk.set4 (a := .bool false) (b := .int .i8 0) (c := .int .i16 0) (d := .int .u64 0) ?_ | with_reducible refine Blk.setOther4 ?_ ?_ | with_reducible refine Blk.setOther ?_ ?_ _ | with_reducible refine Blk.drew ?_ | (apply Ne.symm; with_reducible assumption) | omega)); done))) hext2
      have hA : Blk w2 (w.heap.size + 1) #[.bool n1, .int .i16 e1, .int .u64 (h1 : Int), .int .u64 0] := Blk.ext (by (focus ((repeat (first | with_reducible assumption | with_reducible exact Blk.new _ _ _ | with_reducible exact Blk.new' _ _ (by simp) | with_reducible refine Blk.alloc ?_ _ _ | with_reducible refine Blk.set4 (a := .bool false) (b := .int .i8 0) (c := .int .i16 0) (d := .int .u64 0) ?_ | with_reducible refine Blk.setOther4 ?_ ?_ | with_reducible refine Blk.setOther ?_ ?_ _ | with_reducible refine Blk.drew ?_ | (apply Ne.symm; with_reducible assumption) | omega)); done))) hext2
      have hB : Blk w2 (w.heap.size + 1 + 1) #[.bool n2, .int .i16 e2, .int .u64 (h2 : Int), .int .u64 0] := Blk.ext (by (focus ((repeat (first | with_reducible assumption | with_reducible exact Blk.new _ _ _ | with_reducible exact Blk.new' _ _ (by simp) | with_reducible refine Blk.alloc ?_ _ _ | with_reducible refine Blk.set4 (a := .bool false) (b := .int .i8 0) (c := .int .i16 0) (d := .int .u64 0) ?_ | with_reducible refine Blk.setOther4 ?_ ?_ | with_reducible refine Blk.setOther ?_ ?_ _ | with_reducible refine Blk.drew ?_ | (apply Ne.symm; with_reducible assumption) | omega)); done))) hext2
      have hwx : Ext w w2 := Ext.trans (by (focus ((repeat (first | with_reducible assumption | with_reducible exact Ext.refl _ | with_reducible refine Ext.drew ?_ | with_reducible refine Ext.alloc ?_ _ _ | with_reducible refine Ext.setCell ?_ ?_ _ | with_reducible exact Nat.le_refl _ | (dsimp only; omega) | (simp only [World.size_alloc]; omega))); done))) hext2
      clear hext2
      have t2 := hB.cell (i := 2) rfl
      have t3 := hB.cell (i := 3) rfl
      have tz := hB.fz
      have tl := hB.lt
      replace hB := hB.setHL (c' := .int .u64 (Jh : Int)) (d' := .int .u64 (Jl : Int))
      replace hA := hA.otherHL (C := w.heap.size + 1 + 1) (c' := .int .u64 (Jh : Int)) (d' := .int .u64 (Jl : Int)) (by omega)
      replace hF := hF.otherHL (C := w.heap.size + 1 + 1) (c' := .int .u64 (Jh : Int)) (d' := .int .u64 (Jl : Int)) (by omega)
      replace hwx := hwx.setHL (B := w.heap.size + 1 + 1) (by omega) (.int .u64 (Jh : Int)) (.int .u64 (Jl : Int))
      have a0 := hA.cell (i := 0) rfl
      have a2 := hA.cell (i := 2) rfl
      have a3 := hA.cell (i := 3) rfl
      have c0 := hB.cell (i := 0) rfl
      have c2 := hB.cell (i := 2) rfl
      have c3 := hB.cell (i := 3) rfl
      have az := hA.fz
      have al := hA.lt
      go_wp2_with fail
      refine Calls.mono (hCm.out _) ?_
      rintro e w3 ⟨rfl, hext3⟩
      replace hF := hF.ext hext3
      replace hA := hA.ext hext3
      replace hB := hB.ext hext3
      replace hwx := hwx.trans hext3
      replace a2 := hA.cell (i := 2) rfl
      replace a3 := hA.cell (i := 3) rfl
      replace c2 := hB.cell (i := 2) rfl
      replace c3 := hB.cell (i := 3) rfl
      replace az := hA.fz
      replace al := hA.lt
      go_wp2_with fail
      refine Calls.mono (hSb.out _) ?_
      rintro e w4 ⟨c, rfl, hext4⟩
      clear a0 a2 a3 c0 c2 c3 az al t2 t3 tz tl
      replace hF := hF.ext hext4
      replace hA := hA.ext hext4
      replace hwx := hwx.trans hext4
      have a2 := hA.cell (i := 2) rfl
      have a3 := hA.cell (i := 3) rfl
      have az := hA.fz
      have al := hA.lt
      have hA4 := hA
      have hF4 := hF
      have hw4 := hwx
      replace hA4 := hA4.setHL (c' := .int .u64 (TH : Int)) (d' := .int .u64 (TL : Int))
      replace hF4 := hF4.otherHL (C := w.heap.size + 1) (c' := .int .u64 (TH : Int)) (d' := .int .u64 (TL : Int)) (by omega)
      replace hw4 := hw4.setHL (B := w.heap.size + 1) (by omega) (.int .u64 (TH : Int)) (.int .u64 (TL : Int))
      have a0 := hA4.cell (i := 0) rfl
      have a1 := hA4.cell (i := 1) rfl
      have a2 := hA4.cell (i := 2) rfl
      have a3 := hA4.cell (i := 3) rfl
      have f0 := hF4.cell (i := 0) rfl
      have f1 := hF4.cell (i := 1) rfl
      go_wp2_with fail
      refine Calls.mono (hJm.out _) ?_
      rintro e w5 ⟨rfl, hext5⟩
      replace hF4 := hF4.ext hext5
      replace hA4 := hA4.ext hext5
      replace f0 := hF4.cell (i := 0) rfl
      replace f1 := hF4.cell (i := 1) rfl
      replace a0 := hA4.cell (i := 0) rfl
      go_wp2_with fail
      refine Calls.mono (hRp.out _) ?_
      rintro e w6 ⟨fl, rfl, hext6⟩
      go_wp2
      go_ret2
      exact ⟨_, by rw [hfin.out]; rfl, hw4.trans (hext5.trans hext6)⟩

set_option maxRecDepth 20000 in
set_option maxHeartbeats 8000000 in
theorem sum_far (w : World) (n1 n2 : Bool) (e1 e2 : Int) (h1 h2 : Nat) (d : Nat) (hd : e1 - e2 = (d : Int)) (hk : 255 < d) (b1 : -300 ≤ e2) (b2 : e1 ≤ 300) (u1 : 4611686018427387904 ≤ h1) (v1 : h1 < 9223372036854775808) (v2 : h2 < 9223372036854775808) (hj : jam2 (h2 * 18446744073709551616) 255 ≤ h1 * 18446744073709551616) :
    Calls Oaig.prog 154 #[.agg #[.int .u8 8, .int .u8 23], .int .u8 0, num n1 e1 h1 0, num n2 e2 h2 0] w fun e w' => ∃ fl : Int, e = .returned (.tuple #[.int .u64 (sumP n1 n2 e1 (h1 * 18446744073709551616) (h2 * 18446744073709551616) 255 : Nat), .int .u8 fl]) ∧ Ext w w' := by
  have hkm : min (d : Int) 255 = 255 := by omega
  have g1 : decide (e1 < e2) = false := decide_eq_false (by omega)
  have g2 : (e1 == e2) = false := by rw [beq_eq_false_iff_ne]; omega
  have hJam := fun w => shrJam_any w h2 0 255 (h2 * 18446744073709551616) (by omega) (by decide) (by omega) (by omega)
  obtain ⟨V2, hV2⟩ : ∃ V, V = h2 * 18446744073709551616 := ⟨_, rfl⟩
  obtain ⟨V1, hV1⟩ : ∃ V, V = h1 * 18446744073709551616 := ⟨_, rfl⟩
  rw [← hV2] at hJam hj
  rw [← hV1] at hj
  rw [← hV1, ← hV2]
  obtain ⟨J, hJ⟩ : ∃ J, J = jam2 V2 255 := ⟨_, rfl⟩
  rw [← hJ] at hJam hj
  obtain ⟨Jh, hJh⟩ : ∃ J', J' = J / 18446744073709551616 := ⟨_, rfl⟩
  obtain ⟨Jl, hJl⟩ : ∃ J', J' = J % 18446744073709551616 := ⟨_, rfl⟩
  rw [← hJh, ← hJl] at hJam
  replace hJam : Hid _ := hJam
  have hJl2 : Jl < 18446744073709551616 := by omega
  have hJh2 : Jh < 18446744073709551616 := by omega
  have hJv : J = Jh * 18446744073709551616 + Jl := by omega
  by_cases hn : n1 = n2
  · subst hn
    obtain ⟨T, hT⟩ : ∃ T, T = V1 + J := ⟨_, rfl⟩
    have hT0 : T ≠ 0 := by omega
    have hTl : T < 340282366920938463463374607431768211456 := by omega
    have hfin : Hid (sumP n1 n1 e1 V1 V2 255 = rp (e1 - 64 + bl T) (jamS T) + sgn n1) := by
      show sumP n1 n1 e1 V1 V2 255 = _
      unfold sumP; rw [if_pos rfl, ← hJ, ← hT]
    obtain ⟨TH, hTH⟩ : ∃ x, x = T / 18446744073709551616 := ⟨_, rfl⟩
    obtain ⟨TL, hTL⟩ : ∃ x, x = T % 18446744073709551616 := ⟨_, rfl⟩
    have hTv : T = TH * 18446744073709551616 + TL := by omega
    have hTHl : TH < 18446744073709551616 := by omega
    have hTLl : TL < 18446744073709551616 := by omega
    have hor := orHL hT0 hTl
    rw [← hTH, ← hTL] at hor
    have hb1 : bl T ≤ 128 := bl_le_of_lt (k := 128) hTl
    have hb2 := bl_pos hT0
    obtain ⟨j1, j2⟩ := jamS_bd hT0 hTl
    have hJm := fun w => jam_any w TH TL e1 T hTv hT0 hTHl hTLl (by omega) (by omega)
    have hRp := fun w => roundPack_any w n1 (e1 - 64 + bl T) (jamS T) (by omega) j2 (by omega) (by omega)
    replace hJm : Hid _ := hJm
    replace hRp : Hid _ := hRp
    have hAd := fun w => wadd_any w h1 0 Jh Jl TH TL (by decide) hJl2 hTLl hTHl (by omega)
    replace hAd : Hid _ := hAd
    clear hj hTv hTH hTL hJv hJh hJl hV1 hV2 hJ hT hb1 hb2 j1 j2 hT0 hTl
    go_enter Oaig.func154, Oaig.ntmps154
    go_wp2_with fail
    refine Calls.mono (hJam.out _) ?_
    rintro e w2 ⟨rfl, hext2⟩
    have hF : Blk w2 w.heap.size #[.int .u8 8, .int .u8 23] := Blk.ext (by (focus ((repeat (first | with_reducible assumption | with_reducible exact Blk.new _ _ _ | with_reducible exact Blk.new' _ _ (by simp) | with_reducible refine Blk.alloc ?_ _ _ | with_reducible refine Blk.set4 (a := .bool false) (b := .int .i8 0) (c := .int .i16 0) (d := .int .u64 0) ?_ | with_reducible refine Blk.setOther4 ?_ ?_ | with_reducible refine Blk.setOther ?_ ?_ _ | with_reducible refine Blk.drew ?_ | (apply Ne.symm; with_reducible assumption) | omega)); done))) hext2
    have hA : Blk w2 (w.heap.size + 1) #[.bool n1, .int .i16 e1, .int .u64 (h1 : Int), .int .u64 0] := Blk.ext (by (focus ((repeat (first | with_reducible assumption | with_reducible exact Blk.new _ _ _ | with_reducible exact Blk.new' _ _ (by simp) | with_reducible refine Blk.alloc ?_ _ _ | with_reducible refine Blk.set4 (a := .bool false) (b := .int .i8 0) (c := .int .i16 0) (d := .int .u64 0) ?_ | with_reducible refine Blk.setOther4 ?_ ?_ | with_reducible refine Blk.setOther ?_ ?_ _ | with_reducible refine Blk.drew ?_ | (apply Ne.symm; with_reducible assumption) | omega)); done))) hext2
    have hB : Blk w2 (w.heap.size + 1 + 1) #[.bool n1, .int .i16 e2, .int .u64 (h2 : Int), .int .u64 0] := Blk.ext (by (focus ((repeat (first | with_reducible assumption | with_reducible exact Blk.new _ _ _ | with_reducible exact Blk.new' _ _ (by simp) | with_reducible refine Blk.alloc ?_ _ _ | with_reducible refine Blk.set4 (a := .bool false) (b := .int .i8 0) (c := .int .i16 0) (d := .int .u64 0) ?_ | with_reducible refine Blk.setOther4 ?_ ?_ | with_reducible refine Blk.setOther ?_ ?_ _ | with_reducible refine Blk.drew ?_ | (apply Ne.symm; with_reducible assumption) | omega)); done))) hext2
    have hwx : Ext w w2 := Ext.trans (by (focus ((repeat (first | with_reducible assumption | with_reducible exact Ext.refl _ | with_reducible refine Ext.drew ?_ | with_reducible refine Ext.alloc ?_ _ _ | with_reducible refine Ext.setCell ?_ ?_ _ | with_reducible exact Nat.le_refl _ | (dsimp only; omega) | (simp only [World.size_alloc]; omega))); done))) hext2
    clear hext2
    have t2 := hB.cell (i := 2) rfl
    have t3 := hB.cell (i := 3) rfl
    have tz := hB.fz
    have tl := hB.lt
    replace hB := hB.setHL (c' := .int .u64 (Jh : Int)) (d' := .int .u64 (Jl : Int))
    replace hA := hA.otherHL (C := w.heap.size + 1 + 1) (c' := .int .u64 (Jh : Int)) (d' := .int .u64 (Jl : Int)) (by omega)
    replace hF := hF.otherHL (C := w.heap.size + 1 + 1) (c' := .int .u64 (Jh : Int)) (d' := .int .u64 (Jl : Int)) (by omega)
    replace hwx := hwx.setHL (B := w.heap.size + 1 + 1) (by omega) (.int .u64 (Jh : Int)) (.int .u64 (Jl : Int))
    have a0 := hA.cell (i := 0) rfl
    have a2 := hA.cell (i := 2) rfl
    have a3 := hA.cell (i := 3) rfl
    have c0 := hB.cell (i := 0) rfl
    have c2 := hB.cell (i := 2) rfl
    have c3 := hB.cell (i := 3) rfl
    have az := hA.fz
    have al := hA.lt
    go_wp2_with fail
    refine Calls.mono (hAd.out _) ?_
    rintro e w4 ⟨c, rfl, hext4⟩
    clear a0 a2 a3 c0 c2 c3 az al t2 t3 tz tl
    replace hF := hF.ext hext4
    replace hA := hA.ext hext4
    replace hwx := hwx.trans hext4
    have a2 := hA.cell (i := 2) rfl
    have a3 := hA.cell (i := 3) rfl
    have az := hA.fz
    have al := hA.lt
    have hA4 := hA
    have hF4 := hF
    have hw4 := hwx
    replace hA4 := hA4.setHL (c' := .int .u64 (TH : Int)) (d' := .int .u64 (TL : Int))
    replace hF4 := hF4.otherHL (C := w.heap.size + 1) (c' := .int .u64 (TH : Int)) (d' := .int .u64 (TL : Int)) (by omega)
    replace hw4 := hw4.setHL (B := w.heap.size + 1) (by omega) (.int .u64 (TH : Int)) (.int .u64 (TL : Int))
    have a0 := hA4.cell (i := 0) rfl
    have a1 := hA4.cell (i := 1) rfl
    have a2 := hA4.cell (i := 2) rfl
    have a3 := hA4.cell (i := 3) rfl
    have f0 := hF4.cell (i := 0) rfl
    have f1 := hF4.cell (i := 1) rfl
    go_wp2_with fail
    refine Calls.mono (hJm.out _) ?_
    rintro e w5 ⟨rfl, hext5⟩
    replace hF4 := hF4.ext hext5
    replace hA4 := hA4.ext hext5
    replace f0 := hF4.cell (i := 0) rfl
    replace f1 := hF4.cell (i := 1) rfl
    replace a0 := hA4.cell (i := 0) rfl
    go_wp2_with fail
    refine Calls.mono (hRp.out _) ?_
    rintro e w6 ⟨fl, rfl, hext6⟩
    go_wp2
    go_ret2
    exact ⟨_, by rw [hfin.out]; rfl, hw4.trans (hext5.trans hext6)⟩
  · obtain ⟨T, hT⟩ : ∃ T, T = V1 - J := ⟨_, rfl⟩
    have hTl : T < 340282366920938463463374607431768211456 := by omega
    obtain ⟨TH, hTH⟩ : ∃ x, x = T / 18446744073709551616 := ⟨_, rfl⟩
    obtain ⟨TL, hTL⟩ : ∃ x, x = T % 18446744073709551616 := ⟨_, rfl⟩
    have hTv : T = TH * 18446744073709551616 + TL := by omega
    have hTHl : TH < 18446744073709551616 := by omega
    have hTLl : TL < 18446744073709551616 := by omega
    have hCm := fun w => wcmp_any w h1 0 Jh Jl (by decide) hJl2
    rw [Nat.add_zero, ← hV1, ← hJv] at hCm
    have hc0 : 0 ≤ cmpI V1 J := by
      rcases Nat.lt_or_eq_of_le hj with h | h
      · rw [cmpI_gt h]; decide
      · rw [cmpI_eq h.symm]; decide
    obtain ⟨cc, hcc⟩ : ∃ c, c = cmpI V1 J := ⟨_, rfl⟩
    rw [← hcc] at hCm hc0
    have hcf : decide (cc < 0) = false := decide_eq_false (by omega)
    have hSb := fun w => wsub_any w h1 0 Jh Jl TH TL (by decide) hJl2 hTLl (by omega) (by omega)
    replace hCm : Hid _ := hCm
    replace hSb : Hid _ := hSb
    have hns : (n1 == n2) = false := by rw [beq_eq_false_iff_ne]; exact hn
    by_cases hT0 : T = 0
    · have hfin : Hid (sumP n1 n2 e1 V1 V2 255 = 0) := by
        show sumP n1 n2 e1 V1 V2 255 = _
        unfold sumP; rw [if_neg hn, ← hJ, if_pos (by omega)]
      obtain rfl : TH = 0 := by omega
      obtain rfl : TL = 0 := by omega
      clear hj hTv hTH hTL hJv hJh hJl hV1 hV2 hJ hT hT0 hTl hcc hc0
      go_enter Oaig.func154, Oaig.ntmps154
      go_wp2_with fail
      refine Calls.mono (hJam.out _) ?_
      rintro e w2 ⟨rfl, hext2⟩
      have hF : Blk w2 w.heap.size #[.int .u8 8, .int .u8 23] := Blk.ext (by (focus ((repeat (first | with_reducible assumption | with_reducible exact Blk.new _ _ _ | with_reducible exact Blk.new' _ _ (by simp) | with_reducible refine Blk.alloc ?_ _ _ | with_reducible refine Blk.set4 (a := .bool false) (b := .int .i8 0) (c := .int .i16 0) (d := .int .u64 0) ?_ | with_reducible refine Blk.setOther4 ?_ ?_ | with_reducible refine Blk.setOther ?_ ?_ _ | with_reducible refine Blk.drew ?_ | (apply Ne.symm; with_reducible assumption) | omega)); done))) hext2
      have hA : Blk w2 (w.heap.size + 1) #[.bool n1, .int .i16 e1, .int .u64 (h1 : Int), .int .u64 0] := Blk.ext (by (focus ((repeat (first | with_reducible assumption | with_reducible exact Blk.new _ _ _ | with_reducible exact Blk.new' _ _ (by simp) | with_reducible refine Blk.alloc ?_ _ _ | with_reducible refine Blk.set4 (a := .bool false) (b := .int .i8 0) (c := .int .i16 0) (d := .int .u64 0) ?_ | with_reducible refine Blk.setOther4 ?_ ?_ | with_reducible refine Blk.setOther ?_ ?_ _ | with_reducible refine Blk.drew ?_ | (apply Ne.symm; with_reducible assumption) | omega)); done))) hext2
      have hB : Blk w2 (w.heap.size + 1 + 1) #[.bool n2, .int .i16 e2, .int .u64 (h2 : Int), .int .u64 0] := Blk.ext (by (focus ((repeat (first | with_reducible assumption | with_reducible exact Blk.new _ _ _ | with_reducible exact Blk.new' _ _ (by simp) | with_reducible refine Blk.alloc ?_ _ _ | with_reducible refine Blk.set4 (a := .bool false) (b := .int .i8 0) (c := .int .i16 0) (d := .int .u64 0) ?_ | with_reducible refine Blk.setOther4 ?_ ?_ | with_reducible refine Blk.setOther ?_ ?_ _ | with_reducible refine Blk.drew ?_ | (apply Ne.symm; with_reducible assumption) | omega)); done))) hext2
      have hwx : Ext w w2 := Ext.trans (by (focus ((repeat (first | with_reducible assumption | with_reducible exact Ext.refl _ | with_reducible refine Ext.drew ?_ | with_reducible refine Ext.alloc ?_ _ _ | with_reducible refine Ext.setCell ?_ ?_ _ | with_reducible exact Nat.le_refl _ | (dsimp only; omega) | (simp only [World.size_alloc]; omega))); done))) hext2
      clear hext2
      have t2 := hB.cell (i := 2) rfl
      have t3 := hB.cell (i := 3) rfl
      have tz := hB.fz
      have tl := hB.lt
      replace hB := hB.setHL (c' := .int .u64 (Jh : Int)) (d' := .int .u64 (Jl : Int))
      replace hA := hA.otherHL (C := w.heap.size + 1 + 1) (c' := .int .u64 (Jh : Int)) (d' := .int .u64 (Jl : Int)) (by omega)
      replace hF := hF.otherHL (C := w.heap.size + 1 + 1) (c' := .int .u64 (Jh : Int)) (d' := .int .u64 (Jl : Int)) (by omega)
      replace hwx := hwx.setHL (B := w.heap.size + 1 + 1) (by omega) (.int .u64 (Jh : Int)) (.int .u64 (Jl : Int))
      have a0 := hA.cell (i := 0) rfl
      have a2 := hA.cell (i := 2) rfl
      have a3 := hA.cell (i := 3) rfl
      have c0 := hB.cell (i := 0) rfl
      have c2 := hB.cell (i := 2) rfl
      have c3 := hB.cell (i := 3) rfl
      have az := hA.fz
      have al := hA.lt
      go_wp2_with fail
      refine Calls.mono (hCm.out _) ?_
      rintro e w3 ⟨rfl, hext3⟩
      replace hF := hF.ext hext3
      replace hA := hA.ext hext3
      replace hB := hB.ext hext3
      replace hwx := hwx.trans hext3
      replace a2 := hA.cell (i := 2) rfl
      replace a3 := hA.cell (i := 3) rfl
      replace c2 := hB.cell (i := 2) rfl
      replace c3 := hB.cell (i := 3) rfl
      replace az := hA.fz
      replace al := hA.lt
      go_wp2_with fail
      refine Calls.mono (hSb.out _) ?_
      rintro e w4 ⟨c, rfl, hext4⟩
      clear a0 a2 a3 c0 c2 c3 az al t2 t3 tz tl
      replace hF := hF.ext hext4
      replace hA := hA.ext hext4
      replace hwx := hwx.trans hext4
      have a2 := hA.cell (i := 2) rfl
      have a3 := hA.cell (i := 3) rfl
      have az := hA.fz
      have al := hA.lt
      have hA4 := hA
      have hF4 := hF
      have hw4 := hwx
      replace hA4 := hA4.setHL (c' := .int .u64 0) (d' := .int .u64 0)
      replace hF4 := hF4.otherHL (C := w.heap.size + 1) (c' := .int .u64 0) (d' := .int .u64 0) (by omega)
      replace hw4 := hw4.setHL (B := w.heap.size + 1) (by omega) (.int .u64 0) (.int .u64 0)
      have a0 := hA4.cell (i := 0) rfl
      have a1 := hA4.cell (i := 1) rfl
      have a2 := hA4.cell (i := 2) rfl
      have a3 := hA4.cell (i := 3) rfl
      have f0 := hF4.cell (i := 0) rfl
      have f1 := hF4.cell (i := 1) rfl
      go_wp2_with fail
      refine (zero_any _ false).mono ?_
      rintro e w5 ⟨rfl, hext5⟩
      go_wp2
      go_ret2
      exact ⟨_, by rw [hfin.out]; rfl, hw4.trans hext5⟩
    · have hfin : Hid (sumP n1 n2 e1 V1 V2 255 = rp (e1 - 64 + bl T) (jamS T) + sgn n1) := by
        show sumP n1 n2 e1 V1 V2 255 = _
        unfold sumP; rw [if_neg hn, ← hJ, if_neg (by omega), ← hT]
      have hor := orHL hT0 hTl
      rw [← hTH, ← hTL] at hor
      have hb1 : bl T ≤ 128 := bl_le_of_lt (k := 128) hTl
      have hb2 := bl_pos hT0
      obtain ⟨j1, j2⟩ := jamS_bd hT0 hTl
      have hJm := fun w => jam_any w TH TL e1 T hTv hT0 hTHl hTLl (by omega) (by omega)
      have hRp := fun w => roundPack_any w n1 (e1 - 64 + bl T) (jamS T) (by omega) j2 (by omega) (by omega)
      replace hJm : Hid _ := hJm
      replace hRp : Hid _ := hRp
      clear hj hTv hTH hTL hJv hJh hJl hV1 hV2 hJ hT hb1 hb2 j1 j2 hT0 hTl hcc hc0
      go_enter Oaig.func154, Oaig.ntmps154
      go_wp2_with fail
      refine Calls.mono (hJam.out _) ?_
      rintro e w2 ⟨rfl, hext2⟩
      have hF : Blk w2 w.heap.size #[.int .u8 8, .int .u8 23] := Blk.ext (by (focus ((repeat (first | with_reducible assumption | with_reducible exact Blk.new _ _ _ | with_reducible exact Blk.new' _ _ (by simp) | with_reducible refine Blk.alloc ?_ _ _ | with_reducible refine Blk.set4 (a := .bool false) (b := .int .i8 0) (c := .int .i16 0) (d := .int .u64 0) ?_ | with_reducible refine Blk.setOther4 ?_ ?_ | with_reducible refine Blk.setOther ?_ ?_ _ | with_reducible refine Blk.drew ?_ | (apply Ne.symm; with_reducible assumption) | omega)); done))) hext2
      have hA : Blk w2 (w.heap.size + 1) #[.bool n1, .int .i16 e1, .int .u64 (h1 : Int), .int .u64 0] := Blk.ext (by (focus ((repeat (first | with_reducible assumption | with_reducible exact Blk.new _ _ _ | with_reducible exact Blk.new' _ _ (by simp) | with_reducible refine Blk.alloc ?_ _ _ | with_reducible refine Blk.set4 (a := .bool false) (b := .int .i8 0) (c := .int .i16 0) (d := .int .u64 0) ?_ | with_reducible refine Blk.setOther4 ?_ ?_ | with_reducible refine Blk.setOther ?_ ?_ _ | with_reducible refine Blk.drew ?_ | (apply Ne.symm; with_reducible assumption) | omega)); done))) hext2
      have hB : Blk w2 (w.heap.size + 1 + 1) #[.bool n2, .int .i16 e2, .int .u64 (h2 : Int), .int .u64 0] := Blk.ext (by (focus ((repeat (first | with_reducible assumption | with_reducible exact Blk.new _ _ _ | with_reducible exact Blk.new' _ _ (by simp) | with_reducible refine Blk.alloc ?_ _ _ | with_reducible refine Blk.set4 (a := .bool false) (b := .int .i8 0) (c := .int .i16 0) (d := .int .u64 0) ?_ | with_reducible refine Blk.setOther4 ?_ ?_ | with_reducible refine Blk.setOther ?_ ?_ _ | with_reducible refine Blk.drew ?_ | (apply Ne.symm; with_reducible assumption) | omega)); done))) hext2
      have hwx : Ext w w2 := Ext.trans (by (focus ((repeat (first | with_reducible assumption | with_reducible exact Ext.refl _ | with_reducible refine Ext.drew ?_ | with_reducible refine Ext.alloc ?_ _ _ | with_reducible refine Ext.setCell ?_ ?_ _ | with_reducible exact Nat.le_refl _ | (dsimp only; omega) | (simp only [World.size_alloc]; omega))); done))) hext2
      clear hext2
      have t2 := hB.cell (i := 2) rfl
      have t3 := hB.cell (i := 3) rfl
      have tz := hB.fz
      have tl := hB.lt
      replace hB := hB.setHL (c' := .int .u64 (Jh : Int)) (d' := .int .u64 (Jl : Int))
      replace hA := hA.otherHL (C := w.heap.size + 1 + 1) (c' := .int .u64 (Jh : Int)) (d' := .int .u64 (Jl : Int)) (by omega)
      replace hF := hF.otherHL (C := w.heap.size + 1 + 1) (c' := .int .u64 (Jh : Int)) (d' := .int .u64 (Jl : Int)) (by omega)
      replace hwx := hwx.setHL (B := w.heap.size + 1 + 1) (by omega) (.int .u64 (Jh : Int)) (.int .u64 (Jl : Int))
      have a0 := hA.cell (i := 0) rfl
      have a2 := hA.cell (i := 2) rfl
      have a3 := hA.cell (i := 3) rfl
      have c0 := hB.cell (i := 0) rfl
      have c2 := hB.cell (i := 2) rfl
      have c3 := hB.cell (i := 3) rfl
      have az := hA.fz
      have al := hA.lt
      go_wp2_with fail
      refine Calls.mono (hCm.out _) ?_
      rintro e w3 ⟨rfl, hext3⟩
      replace hF := hF.ext hext3
      replace hA := hA.ext hext3
      replace hB := hB.ext hext3
      replace hwx := hwx.trans hext3
      replace a2 := hA.cell (i := 2) rfl
      replace a3 := hA.cell (i := 3) rfl
      replace c2 := hB.cell (i := 2) rfl
      replace c3 := hB.cell (i := 3) rfl
      replace az := hA.fz
      replace al := hA.lt
      go_wp2_with fail
      refine Calls.mono (hSb.out _) ?_
      rintro e w4 ⟨c, rfl, hext4⟩
      clear a0 a2 a3 c0 c2 c3 az al t2 t3 tz tl
      replace hF := hF.ext hext4
      replace hA := hA.ext hext4
      replace hwx := hwx.trans hext4
      have a2 := hA.cell (i := 2) rfl
      have a3 := hA.cell (i := 3) rfl
      have az := hA.fz
      have al := hA.lt
      have hA4 := hA
      have hF4 := hF
      have hw4 := hwx
      replace hA4 := hA4.setHL (c' := .int .u64 (TH : Int)) (d' := .int .u64 (TL : Int))
      replace hF4 := hF4.otherHL (C := w.heap.size + 1) (c' := .int .u64 (TH : Int)) (d' := .int .u64 (TL : Int)) (by omega)
      replace hw4 := hw4.setHL (B := w.heap.size + 1) (by omega) (.int .u64 (TH : Int)) (.int .u64 (TL : Int))
      have a0 := hA4.cell (i := 0) rfl
      have a1 := hA4.cell (i := 1) rfl
      have a2 := hA4.cell (i := 2) rfl
      have a3 := hA4.cell (i := 3) rfl
      have f0 := hF4.cell (i := 0) rfl
      have f1 := hF4.cell (i := 1) rfl
      go_wp2_with fail
      refine Calls.mono (hJm.out _) ?_
      rintro e w5 ⟨rfl, hext5⟩
      replace hF4 := hF4.ext hext5
      replace hA4 := hA4.ext hext5
      replace f0 := hF4.cell (i := 0) rfl
      replace f1 := hF4.cell (i := 1) rfl
      replace a0 := hA4.cell (i := 0) rfl
      go_wp2_with fail
      refine Calls.mono (hRp.out _) ?_
      rintro e w6 ⟨fl, rfl, hext6⟩
      go_wp2
      go_ret2
      exact ⟨_, by rw [hfin.out]; rfl, hw4.trans (hext5.trans hext6)⟩

set_option maxRecDepth 20000 in
set_option maxHeartbeats 8000000 in
theorem sum_same (w : World) (n1 n2 : Bool) (e1 : Int) (h1 h2 : Nat) (hgt : h2 ≤ h1) (b1 : -300 ≤ e1) (b2 : e1 ≤ 300) (u1 : 4611686018427387904 ≤ h1) (v1 : h1 < 9223372036854775808) (v2 : h2 < 9223372036854775808) (hj : jam2 (h2 * 18446744073709551616) 0 ≤ h1 * 18446744073709551616) :
    Calls Oaig.prog 154 #[.agg #[.int .u8 8, .int .u8 23], .int .u8 0, num n1 e1 h1 0, num n2 e1 h2 0] w fun e w' => ∃ fl : Int, e = .returned (.tuple #[.int .u64 (sumP n1 n2 e1 (h1 * 18446744073709551616) (h2 * 18446744073709551616) 0 : Nat), .int .u8 fl]) ∧ Ext w w' := by
  have hPm := fun w => wcmp_any w h1 0 h2 0 (by decide) (by decide)
  have hp0 : 0 ≤ cmpI (h1 * 18446744073709551616 + 0) (h2 * 18446744073709551616 + 0) := by
    rcases Nat.lt_or_eq_of_le hgt with h | h
    · rw [cmpI_gt (by omega)]; decide
    · rw [cmpI_eq (by omega)]; decide
  obtain ⟨pc, hpc⟩ : ∃ c, c = cmpI (h1 * 18446744073709551616 + 0) (h2 * 18446744073709551616 + 0) := ⟨_, rfl⟩
  rw [← hpc] at hPm hp0
  have hpf : decide (pc < 0) = false := decide_eq_false (by omega)
  clear hpc hp0 hgt
  replace hPm : Hid _ := hPm
  have hJam := fun w => shrJam_any w h2 0 0 (h2 * 18446744073709551616) (by omega) (by decide) (by omega) (by omega)
  obtain ⟨V2, hV2⟩ : ∃ V, V = h2 * 18446744073709551616 := ⟨_, rfl⟩
  obtain ⟨V1, hV1⟩ : ∃ V, V = h1 * 18446744073709551616 := ⟨_, rfl⟩
  rw [← hV2] at hJam hj
  rw [← hV1] at hj
  rw [← hV1, ← hV2]
  obtain ⟨J, hJ⟩ : ∃ J, J = jam2 V2 0 := ⟨_, rfl⟩
  rw [← hJ] at hJam hj
  obtain ⟨Jh, hJh⟩ : ∃ J', J' = J / 18446744073709551616 := ⟨_, rfl⟩
  obtain ⟨Jl, hJl⟩ : ∃ J', J' = J % 18446744073709551616 := ⟨_, rfl⟩
  rw [← hJh, ← hJl] at hJam
  replace hJam : Hid _ := hJam
  have hJl2 : Jl < 18446744073709551616 := by omega
  have hJh2 : Jh < 18446744073709551616 := by omega
  have hJv : J = Jh * 18446744073709551616 + Jl := by omega
  by_cases hn : n1 = n2
  · subst hn
    obtain ⟨T, hT⟩ : ∃ T, T = V1 + J := ⟨_, rfl⟩
    have hT0 : T ≠ 0 := by omega
    have hTl : T < 340282366920938463463374607431768211456 := by omega
    have hfin : Hid (sumP n1 n1 e1 V1 V2 0 = rp (e1 - 64 + bl T) (jamS T) + sgn n1) := by
      show sumP n1 n1 e1 V1 V2 0 = _
      unfold sumP; rw [if_pos rfl, ← hJ, ← hT]
    obtain ⟨TH, hTH⟩ : ∃ x, x = T / 18446744073709551616 := ⟨_, rfl⟩
    obtain ⟨TL, hTL⟩ : ∃ x, x = T % 18446744073709551616 := ⟨_, rfl⟩
    have hTv : T = TH * 18446744073709551616 + TL := by omega
    have hTHl : TH < 18446744073709551616 := by omega
    have hTLl : TL < 18446744073709551616 := by omega
    have hor := orHL hT0 hTl
    rw [← hTH, ← hTL] at hor
    have hb1 : bl T ≤ 128 := bl_le_of_lt (k := 128) hTl
    have hb2 := bl_pos hT0
    obtain ⟨j1, j2⟩ := jamS_bd hT0 hTl
    have hJm := fun w => jam_any w TH TL e1 T hTv hT0 hTHl hTLl (by omega) (by omega)
    have hRp := fun w => roundPack_any w n1 (e1 - 64 + bl T) (jamS T) (by omega) j2 (by omega) (by omega)
    replace hJm : Hid _ := hJm
    replace hRp : Hid _ := hRp
    have hAd := fun w => wadd_any w h1 0 Jh Jl TH TL (by decide) hJl2 hTLl hTHl (by omega)
    replace hAd : Hid _ := hAd
    clear hj hTv hTH hTL hJv hJh hJl hV1 hV2 hJ hT hb1 hb2 j1 j2 hT0 hTl
    go_enter Oaig.func154, Oaig.ntmps154
    go_wp2_with fail
    refine Calls.mono (hPm.out _) ?_
    rintro e w1 ⟨rfl, hext1⟩
    have hF1 : Blk w1 w.heap.size #[.int .u8 8, .int .u8 23] := Blk.ext (by (focus ((repeat (first | with_reducible assumption | with_reducible exact Blk.new _ _ _ | with_reducible exact Blk.new' _ _ (by simp) | with_reducible refine Blk.alloc ?_ _ _ | with_reducible refine Blk.set4 (a := .bool false) (b := .int .i8 0) (c := .int .i16 0) (d := .int .u64 0) ?_ | with_reducible refine Blk.setOther4 ?_ ?_ | with_reducible refine Blk.setOther ?_ ?_ _ | with_reducible refine Blk.drew ?_ | (apply Ne.symm; with_reducible assumption) | omega)); done))) hext1
    have hA1 : Blk w1 (w.heap.size + 1) #[.bool n1, .int .i16 e1, .int .u64 (h1 : Int), .int .u64 0] := Blk.ext (by (focus ((repeat (first | with_reducible assumption | with_reducible exact Blk.new _ _ _ | with_reducible exact Blk.new' _ _ (by simp) | with_reducible refine Blk.alloc ?_ _ _ | with_reducible refine Blk.set4 (a := .bool false) (b := .int .i8 0) (c := .int .i16 0) (d := .int .u64 0) ?_ | with_reducible refine Blk.setOther4 ?_ ?_ | with_reducible refine Blk.setOther ?_ ?_ _ | with_reducible refine Blk.drew ?_ | (apply Ne.symm; with_reducible assumption) | omega)); done))) hext1
    have hB1 : Blk w1 (w.heap.size + 1 + 1) #[.bool n1, .int .i16 e1, .int .u64 (h2 : Int), .int .u64 0] := Blk.ext (by (focus ((repeat (first | with_reducible assumption | with_reducible exact Blk.new _ _ _ | with_reducible exact Blk.new' _ _ (by simp) | with_reducible refine Blk.alloc ?_ _ _ | with_reducible refine Blk.set4 (a := .bool false) (b := .int .i8 0) (c := .int .i16 0) (d := .int .u64 0) ?_ | with_reducible refine Blk.setOther4 ?_ ?_ | with_reducible refine Blk.setOther ?_ ?_ _ | with_reducible refine Blk.drew ?_ | (apply Ne.symm; with_reducible assumption) | omega)); done))) hext1
    have hw1 : Ext w w1 := Ext.trans (by (focus ((repeat (first | with_reducible assumption | with_reducible exact Ext.refl _ | with_reducible refine Ext.drew ?_ | with_reducible refine Ext.alloc ?_ _ _ | with_reducible refine Ext.setCell ?_ ?_ _ | with_reducible exact Nat.le_refl _ | (dsimp only; omega) | (simp only [World.size_alloc]; omega))); done))) hext1
    clear hext1
    have p0 := hA1.cell (i := 0) rfl
    have q0 := hB1.cell (i := 0) rfl
    have p1 := hA1.cell (i := 1) rfl
    have q1 := hB1.cell (i := 1) rfl
    have p2 := hA1.cell (i := 2) rfl
    have q2 := hB1.cell (i := 2) rfl
    have p3 := hA1.cell (i := 3) rfl
    have q3 := hB1.cell (i := 3) rfl
    have pz := hA1.fz
    have qz := hB1.fz
    have pl := hA1.lt
    have ql := hB1.lt
    go_wp2_with fail
    refine Calls.mono (hJam.out _) ?_
    rintro e w2 ⟨rfl, hext2⟩
    have hF : Blk w2 w.heap.size #[.int .u8 8, .int .u8 23] := Blk.ext (by assumption) hext2
    have hA : Blk w2 (w.heap.size + 1) #[.bool n1, .int .i16 e1, .int .u64 (h1 : Int), .int .u64 0] := Blk.ext (by assumption) hext2
    have hB : Blk w2 (w.heap.size + 1 + 1) #[.bool n1, .int .i16 e1, .int .u64 (h2 : Int), .int .u64 0] := Blk.ext (by assumption) hext2
    have hwx : Ext w w2 := Ext.trans (by assumption) hext2
    clear hext2
    have t2 := hB.cell (i := 2) rfl
    have t3 := hB.cell (i := 3) rfl
    have tz := hB.fz
    have tl := hB.lt
    replace hB := hB.setHL (c' := .int .u64 (Jh : Int)) (d' := .int .u64 (Jl : Int))
    replace hA := hA.otherHL (C := w.heap.size + 1 + 1) (c' := .int .u64 (Jh : Int)) (d' := .int .u64 (Jl : Int)) (by omega)
    replace hF := hF.otherHL (C := w.heap.size + 1 + 1) (c' := .int .u64 (Jh : Int)) (d' := .int .u64 (Jl : Int)) (by omega)
    replace hwx := hwx.setHL (B := w.heap.size + 1 + 1) (by omega) (.int .u64 (Jh : Int)) (.int .u64 (Jl : Int))
    have a0 := hA.cell (i := 0) rfl
    have a2 := hA.cell (i := 2) rfl
    have a3 := hA.cell (i := 3) rfl
    have c0 := hB.cell (i := 0) rfl
    have c2 := hB.cell (i := 2) rfl
    have c3 := hB.cell (i := 3) rfl
    have az := hA.fz
    have al := hA.lt
    go_wp2_with fail
    refine Calls.mono (hAd.out _) ?_
    rintro e w4 ⟨c, rfl, hext4⟩
    clear a0 a2 a3 c0 c2 c3 az al t2 t3 tz tl
    replace hF := hF.ext hext4
    replace hA := hA.ext hext4
    replace hwx := hwx.trans hext4
    have a2 := hA.cell (i := 2) rfl
    have a3 := hA.cell (i := 3) rfl
    have az := hA.fz
    have al := hA.lt
    have hA4 := hA
    have hF4 := hF
    have hw4 := hwx
    replace hA4 := hA4.setHL (c' := .int .u64 (TH : Int)) (d' := .int .u64 (TL : Int))
    replace hF4 := hF4.otherHL (C := w.heap.size + 1) (c' := .int .u64 (TH : Int)) (d' := .int .u64 (TL : Int)) (by omega)
    replace hw4 := hw4.setHL (B := w.heap.size + 1) (by omega) (.int .u64 (TH : Int)) (.int .u64 (TL : Int))
    have a0 := hA4.cell (i := 0) rfl
    have a1 := hA4.cell (i := 1) rfl
    have a2 := hA4.cell (i := 2) rfl
    have a3 := hA4.cell (i := 3) rfl
    have f0 := hF4.cell (i := 0) rfl
    have f1 := hF4.cell (i := 1) rfl
    go_wp2_with fail
    refine Calls.mono (hJm.out _) ?_
    rintro e w5 ⟨rfl, hext5⟩
    replace hF4 := hF4.ext hext5
    replace hA4 := hA4.ext hext5
    replace f0 := hF4.cell (i := 0) rfl
    replace f1 := hF4.cell (i := 1) rfl
    replace a0 := hA4.cell (i := 0) rfl
    go_wp2_with fail
    refine Calls.mono (hRp.out _) ?_
    rintro e w6 ⟨fl, rfl, hext6⟩
    go_wp2
    go_ret2
    exact ⟨_, by rw [hfin.out]; rfl, hw4.trans (hext5.trans hext6)⟩
  · obtain ⟨T, hT⟩ : ∃ T, T = V1 - J := ⟨_, rfl⟩
    have hTl : T < 340282366920938463463374607431768211456 := by omega
    obtain ⟨TH, hTH⟩ : ∃ x, x = T / 18446744073709551616 := ⟨_, rfl⟩
    obtain ⟨TL, hTL⟩ : ∃ x, x = T % 18446744073709551616 := ⟨_, rfl⟩
    have hTv : T = TH * 18446744073709551616 + TL := by omega
    have hTHl : TH < 18446744073709551616 := by omega
    have hTLl : TL < 18446744073709551616 := by omega
    have hCm := fun w => wcmp_any w h1 0 Jh Jl (by decide) hJl2
    rw [Nat.add_zero, ← hV1, ← hJv] at hCm
    have hc0 : 0 ≤ cmpI V1 J := by
      rcases Nat.lt_or_eq_of_le hj with h | h
      · rw [cmpI_gt h]; decide
      · rw [cmpI_eq h.symm]; decide
    obtain ⟨cc, hcc⟩ : ∃ c, c = cmpI V1 J := ⟨_, rfl⟩
    rw [← hcc] at hCm hc0
    have hcf : decide (cc < 0) = false := decide_eq_false (by omega)
    have hSb := fun w => wsub_any w h1 0 Jh Jl TH TL (by decide) hJl2 hTLl (by omega) (by omega)
    replace hCm : Hid _ := hCm
    replace hSb : Hid _ := hSb
    have hns : (n1 == n2) = false := by rw [beq_eq_false_iff_ne]; exact hn
    by_cases hT0 : T = 0
    · have hfin : Hid (sumP n1 n2 e1 V1 V2 0 = 0) := by
        show sumP n1 n2 e1 V1 V2 0 = _
        unfold sumP; rw [if_neg hn, ← hJ, if_pos (by omega)]
      obtain rfl : TH = 0 := by omega
      obtain rfl : TL = 0 := by omega
      clear hj hTv hTH hTL hJv hJh hJl hV1 hV2 hJ hT hT0 hTl hcc hc0
      go_enter Oaig.func154, Oaig.ntmps154
      go_wp2_with fail
      refine Calls.mono (hPm.out _) ?_
      rintro e w1 ⟨rfl, hext1⟩
      have hF1 : Blk w1 w.heap.size #[.int .u8 8, .int .u8 23] := Blk.ext (by (focus ((repeat (first | with_reducible assumption | with_reducible exact Blk.new _ _ _ | with_reducible exact Blk.new' _ _ (by simp) | with_reducible refine Blk.alloc ?_ _ _ | with_reducible refine Blk.set4 (a := .bool false) (b := .int .i8 0) (c := .int .i16 0) (d := .int .u64 0) ?_ | with_reducible refine Blk.setOther4 ?_ ?_ | with_reducible refine Blk.setOther ?_ ?_ _ | with_reducible refine Blk.drew ?_ | (apply Ne.symm; with_reducible assumption) | omega)); done))) hext1
      have hA1 : Blk w1 (w.heap.size + 1) #[.bool n1, .int .i16 e1, .int .u64 (h1 : Int), .int .u64 0] := Blk.ext (by (focus ((repeat (first | with_reducible assumption | with_reducible exact Blk.new _ _ _ | with_reducible exact Blk.new' _ _ (by simp) | with_reducible refine Blk.alloc ?_ _ _ | with_reducible refine Blk.set4 (a := .bool false) (b := .int .i8 0) (c := .int .i16 0) (d := .int .u64 0) ?_ | with_reducible refine Blk.setOther4 ?_ ?_ | with_reducible refine Blk.setOther ?_ ?_ _ | with_reducible refine Blk.drew ?_ | (apply Ne.symm; with_reducible assumption) | omega)); done))) hext1
      have hB1 : Blk w1 (w.heap.size + 1 + 1) #[.bool n2, .int .i16 e1, .int .u64 (h2 : Int), .int .u64 0] := Blk.ext (by (focus ((repeat (first | with_reducible assumption | with_reducible exact Blk.new _ _ _ | with_reducible exact Blk.new' _ _ (by simp) | with_reducible refine Blk.alloc ?_ _ _ | with_reducible refine Blk.set4 (a := .bool false) (b := .int .i8 0) (c := .int .i16 0) (d := .int .u64 0) ?_ | with_reducible refine Blk.setOther4 ?_ ?_ | with_reducible refine Blk.setOther ?_ ?_ _ | with_reducible refine Blk.drew ?_ | (apply Ne.symm; with_reducible assumption) | omega)); done))) hext1
      have hw1 : Ext w w1 := Ext.trans (by (focus ((repeat (first | with_reducible assumption | with_reducible exact Ext.refl _ | with_reducible refine Ext.drew ?_ | with_reducible refine Ext.alloc ?_ _ _ | with_reducible refine Ext.setCell ?_ ?_ _ | with_reducible exact Nat.le_refl _ | (dsimp only; omega) | (simp only [World.size_alloc]; omega))); done))) hext1
      clear hext1
      have p0 := hA1.cell (i := 0) rfl
      have q0 := hB1.cell (i := 0) rfl
      have p1 := hA1.cell (i := 1) rfl
      have q1 := hB1.cell (i := 1) rfl
      have p2 := hA1.cell (i := 2) rfl
      have q2 := hB1.cell (i := 2) rfl
      have p3 := hA1.cell (i := 3) rfl
      have q3 := hB1.cell (i := 3) rfl
      have pz := hA1.fz
      have qz := hB1.fz
      have pl := hA1.lt
      have ql := hB1.lt
      go_wp2_with fail
      refine Calls.mono (hJam.out _) ?_
      rintro e w2 ⟨rfl, hext2⟩
      have hF : Blk w2 w.heap.size #[.int .u8 8, .int .u8 23] := Blk.ext (by assumption) hext2
      have hA : Blk w2 (w.heap.size + 1) #[.bool n1, .int .i16 e1, .int .u64 (h1 : Int), .int .u64 0] := Blk.ext (by assumption) hext2
      have hB : Blk w2 (w.heap.size + 1 + 1) #[.bool n2, .int .i16 e1, .int .u64 (h2 : Int), .int .u64 0] := Blk.ext (by assumption) hext2
      have hwx : Ext w w2 := Ext.trans (by assumption) hext2
      clear hext2
      have t2 := hB.cell (i := 2) rfl
      have t3 := hB.cell (i := 3) rfl
      have tz := hB.fz
      have tl := hB.lt
      replace hB := hB.setHL (c' := .int .u64 (Jh : Int)) (d' := .int .u64 (Jl : Int))
      replace hA := hA.otherHL (C := w.heap.size + 1 + 1) (c' := .int .u64 (Jh : Int)) (d' := .int .u64 (Jl : Int)) (by omega)
      replace hF := hF.otherHL (C := w.heap.size + 1 + 1) (c' := .int .u64 (Jh : Int)) (d' := .int .u64 (Jl : Int)) (by omega)
      replace hwx := hwx.setHL (B := w.heap.size + 1 + 1) (by omega) (.int .u64 (Jh : Int)) (.int .u64 (Jl : Int))
      have a0 := hA.cell (i := 0) rfl
      have a2 := hA.cell (i := 2) rfl
      have a3 := hA.cell (i := 3) rfl
      have c0 := hB.cell (i := 0) rfl
      have c2 := hB.cell (i := 2) rfl
      have c3 := hB.cell (i := 3) rfl
      have az := hA.fz
      have al := hA.lt
      go_wp2_with fail
      refine Calls.mono (hCm.out _) ?_
      rintro e w3 ⟨rfl, hext3⟩
      replace hF := hF.ext hext3
      replace hA := hA.ext hext3
      replace hB := hB.ext hext3
      replace hwx := hwx.trans hext3
      replace a2 := hA.cell (i := 2) rfl
      replace a3 := hA.cell (i := 3) rfl
      replace c2 := hB.cell (i := 2) rfl
      replace c3 := hB.cell (i := 3) rfl
      replace az := hA.fz
      replace al := hA.lt
      go_wp2_with fail
      refine Calls.mono (hSb.out _) ?_
      rintro e w4 ⟨c, rfl, hext4⟩
      clear a0 a2 a3 c0 c2 c3 az al t2 t3 tz tl
      replace hF := hF.ext hext4
      replace hA := hA.ext hext4
      replace hwx := hwx.trans hext4
      have a2 := hA.cell (i := 2) rfl
      have a3 := hA.cell (i := 3) rfl
      have az := hA.fz
      have al := hA.lt
      have hA4 := hA
      have hF4 := hF
      have hw4 := hwx
      replace hA4 := hA4.setHL (c' := .int .u64 0) (d' := .int .u64 0)
      replace hF4 := hF4.otherHL (C := w.heap.size + 1) (c' := .int .u64 0) (d' := .int .u64 0) (by omega)
      replace hw4 := hw4.setHL (B := w.heap.size + 1) (by omega) (.int .u64 0) (.int .u64 0)
      have a0 := hA4.cell (i := 0) rfl
      have a1 := hA4.cell (i := 1) rfl
      have a2 := hA4.cell (i := 2) rfl
      have a3 := hA4.cell (i := 3) rfl
      have f0 := hF4.cell (i := 0) rfl
      have f1 := hF4.cell (i := 1) rfl
      go_wp2_with fail
      refine (zero_any _ false).mono ?_
      rintro e w5 ⟨rfl, hext5⟩
      go_wp2
      go_ret2
      exact ⟨_, by rw [hfin.out]; rfl, hw4.trans hext5⟩
    · have hfin : Hid (sumP n1 n2 e1 V1 V2 0 = rp (e1 - 64 + bl T) (jamS T) + sgn n1) := by
        show sumP n1 n2 e1 V1 V2 0 = _
        unfold sumP; rw [if_neg hn, ← hJ, if_neg (by omega), ← hT]
      have hor := orHL hT0 hTl
      rw [← hTH, ← hTL] at hor
      have hb1 : bl T ≤ 128 := bl_le_of_lt (k := 128) hTl
      have hb2 := bl_pos hT0
      obtain ⟨j1, j2⟩ := jamS_bd hT0 hTl
      have hJm := fun w => jam_any w TH TL e1 T hTv hT0 hTHl hTLl (by omega) (by omega)
      have hRp := fun w => roundPack_any w n1 (e1 - 64 + bl T) (jamS T) (by omega) j2 (by omega) (by omega)
      replace hJm : Hid _ := hJm
      replace hRp : Hid _ := hRp
      clear hj hTv hTH hTL hJv hJh hJl hV1 hV2 hJ hT hb1 hb2 j1 j2 hT0 hTl hcc hc0
      go_enter Oaig.func154, Oaig.ntmps154
      go_wp2_with fail
      refine Calls.mono (hPm.out _) ?_
      rintro e w1 ⟨rfl, hext1⟩
      have hF1 : Blk w1 w.heap.size #[.int .u8 8, .int .u8 23] := Blk.ext (by (focus ((repeat (first | with_reducible assumption | with_reducible exact Blk.new _ _ _ | with_reducible exact Blk.new' _ _ (by simp) | with_reducible refine Blk.alloc ?_ _ _ | with_reducible refine Blk.set4 (a := .bool false) (b := .int .i8 0) (c := .int .i16 0) (d := .int .u64 0) ?_ | with_reducible refine Blk.setOther4 ?_ ?_ | with_reducible refine Blk.setOther ?_ ?_ _ | with_reducible refine Blk.drew ?_ | (apply Ne.symm; with_reducible assumption) | omega)); done))) hext1
      have hA1 : Blk w1 (w.heap.size + 1) #[.bool n1, .int .i16 e1, .int .u64 (h1 : Int), .int .u64 0] := Blk.ext (by (focus ((repeat (first | with_reducible assumption | with_reducible exact Blk.new _ _ _ | with_reducible exact Blk.new' _ _ (by simp) | with_reducible refine Blk.alloc ?_ _ _ | with_reducible refine Blk.set4 (a := .bool false) (b := .int .i8 0) (c := .int .i16 0) (d := .int .u64 0) ?_ | with_reducible refine Blk.setOther4 ?_ ?_ | with_reducible refine Blk.setOther ?_ ?_ _ | with_reducible refine Blk.drew ?_ | (apply Ne.symm; with_reducible assumption) | omega)); done))) hext1
      have hB1 : Blk w1 (w.heap.size + 1 + 1) #[.bool n2, .int .i16 e1, .int .u64 (h2 : Int), .int .u64 0] := Blk.ext (by (focus ((repeat (first | with_reducible assumption | with_reducible exact Blk.new _ _ _ | with_reducible exact Blk.new' _ _ (by simp) | with_reducible refine Blk.alloc ?_ _ _ | with_reducible refine Blk.set4 (a := .bool false) (b := .int .i8 0) (c := .int .i16 0) (d := .int .u64 0) ?_ | with_reducible refine Blk.setOther4 ?_ ?_ | with_reducible refine Blk.setOther ?_ ?_ _ | with_reducible refine Blk.drew ?_ | (apply Ne.symm; with_reducible assumption) | omega)); done))) hext1
      have hw1 : Ext w w1 := Ext.trans (by (focus ((repeat (first | with_reducible assumption | with_reducible exact Ext.refl _ | with_reducible refine Ext.drew ?_ | with_reducible refine Ext.alloc ?_ _ _ | with_reducible refine Ext.setCell ?_ ?_ _ | with_reducible exact Nat.le_refl _ | (dsimp only; omega) | (simp only [World.size_alloc]; omega))); done))) hext1
      clear hext1
      have p0 := hA1.cell (i := 0) rfl
      have q0 := hB1.cell (i := 0) rfl
      have p1 := hA1.cell (i := 1) rfl
      have q1 := hB1.cell (i := 1) rfl
      have p2 := hA1.cell (i := 2) rfl
      have q2 := hB1.cell (i := 2) rfl
      have p3 := hA1.cell (i := 3) rfl
      have q3 := hB1.cell (i := 3) rfl
      have pz := hA1.fz
      have qz := hB1.fz
      have pl := hA1.lt
      have ql := hB1.lt
      go_wp2_with fail
      refine Calls.mono (hJam.out _) ?_
      rintro e w2 ⟨rfl, hext2⟩
      have hF : Blk w2 w.heap.size #[.int .u8 8, .int .u8 23] := Blk.ext (by assumption) hext2
      have hA : Blk w2 (w.heap.size + 1) #[.bool n1, .int .i16 e1, .int .u64 (h1 : Int), .int .u64 0] := Blk.ext (by assumption) hext2
      have hB : Blk w2 (w.heap.size + 1 + 1) #[.bool n2, .int .i16 e1, .int .u64 (h2 : Int), .int .u64 0] := Blk.ext (by assumption) hext2
      have hwx : Ext w w2 := Ext.trans (by assumption) hext2
      clear hext2
      have t2 := hB.cell (i := 2) rfl
      have t3 := hB.cell (i := 3) rfl
      have tz := hB.fz
      have tl := hB.lt
      replace hB := hB.setHL (c' := .int .u64 (Jh : Int)) (d' := .int .u64 (Jl : Int))
      replace hA := hA.otherHL (C := w.heap.size + 1 + 1) (c' := .int .u64 (Jh : Int)) (d' := .int .u64 (Jl : Int)) (by omega)
      replace hF := hF.otherHL (C := w.heap.size + 1 + 1) (c' := .int .u64 (Jh : Int)) (d' := .int .u64 (Jl : Int)) (by omega)
      replace hwx := hwx.setHL (B := w.heap.size + 1 + 1) (by omega) (.int .u64 (Jh : Int)) (.int .u64 (Jl : Int))
      have a0 := hA.cell (i := 0) rfl
      have a2 := hA.cell (i := 2) rfl
      have a3 := hA.cell (i := 3) rfl
      have c0 := hB.cell (i := 0) rfl
      have c2 := hB.cell (i := 2) rfl
      have c3 := hB.cell (i := 3) rfl
      have az := hA.fz
      have al := hA.lt
      go_wp2_with fail
      refine Calls.mono (hCm.out _) ?_
      rintro e w3 ⟨rfl, hext3⟩
      replace hF := hF.ext hext3
      replace hA := hA.ext hext3
      replace hB := hB.ext hext3
      replace hwx := hwx.trans hext3
      replace a2 := hA.cell (i := 2) rfl
      replace a3 := hA.cell (i := 3) rfl
      replace c2 := hB.cell (i := 2) rfl
      replace c3 := hB.cell (i := 3) rfl
      replace az := hA.fz
      replace al := hA.lt
      go_wp2_with fail
      refine Calls.mono (hSb.out _) ?_
      rintro e w4 ⟨c, rfl, hext4⟩
      clear a0 a2 a3 c0 c2 c3 az al t2 t3 tz tl
      replace hF := hF.ext hext4
      replace hA := hA.ext hext4
      replace hwx := hwx.trans hext4
      have a2 := hA.cell (i := 2) rfl
      have a3 := hA.cell (i := 3) rfl
      have az := hA.fz
      have al := hA.lt
      have hA4 := hA
      have hF4 := hF
      have hw4 := hwx
      replace hA4 := hA4.setHL (c' := .int .u64 (TH : Int)) (d' := .int .u64 (TL : Int))
      replace hF4 := hF4.otherHL (C := w.heap.size + 1) (c' := .int .u64 (TH : Int)) (d' := .int .u64 (TL : Int)) (by omega)
      replace hw4 := hw4.setHL (B := w.heap.size + 1) (by omega) (.int .u64 (TH : Int)) (.int .u64 (TL : Int))
      have a0 := hA4.cell (i := 0) rfl
      have a1 := hA4.cell (i := 1) rfl
      have a2 := hA4.cell (i := 2) rfl
      have a3 := hA4.cell (i := 3) rfl
      have f0 := hF4.cell (i := 0) rfl
      have f1 := hF4.cell (i := 1) rfl
      go_wp2_with fail
      refine Calls.mono (hJm.out _) ?_
      rintro e w5 ⟨rfl, hext5⟩
      replace hF4 := hF4.ext hext5
      replace hA4 := hA4.ext hext5
      replace f0 := hF4.cell (i := 0) rfl
      replace f1 := hF4.cell (i := 1) rfl
      replace a0 := hA4.cell (i := 0) rfl
      go_wp2_with fail
      refine Calls.mono (hRp.out _) ?_
      rintro e w6 ⟨fl, rfl, hext6⟩
      go_wp2
      go_ret2
      exact ⟨_, by rw [hfin.out]; rfl, hw4.trans (hext5.trans hext6)⟩

end Go.Proofs.Ygcoai
