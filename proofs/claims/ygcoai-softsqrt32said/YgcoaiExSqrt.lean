/-
  Seat gcoai. exact.SqrtFlags (49) and exact.Sqrt (27) at Binary32, NearestEven.
-/
import Derived.Test.YgcoaiPlainRoot
import Derived.Test.YgcoaiExPack
namespace Go.Proofs.Ygcoai
open Go.RowKit

/-- What exact.Sqrt answers. -/
def XRoot (a r : Nat) : Prop :=
  if pC a = 4 then r = 2143289344
  else if pC a = 0 then r = a
  else if uS a = true then r = 2143289344
  else if pC a = 3 then r = a
  else ∃ (R k : Int) (A B q : Nat), R = (pX a + 23) / 2 ∧ k = 2 * (23 - R) ∧ A = vN a * 2 ^ k.toNat ∧ B = vD a * 2 ^ (-k).toNat ∧ IsRoot q (A / B) ∧ r = min 2139095040 ((R + 126).toNat * 8388608 + rtUp A B q)

set_option maxRecDepth 20000 in
set_option maxHeartbeats 8000000 in
theorem xsqrtFlags_any (w : World) (a : Nat) (ha : a < 4294967296) :
    Calls Oaig.prog 49 #[.agg #[.int .u8 8, .int .u8 23], .int .u8 0, .int .u64 a] w fun e w' => ∃ (r : Nat) (fl : Int), e = .returned (.tuple #[.int .u64 r, .int .u8 fl]) ∧ XRoot a r ∧ Ext w w' := by
  go_enter Oaig.func49, Oaig.ntmps49
  go_wp2_with fail
  refine (ok_any _).mono ?_
  rintro e w0 ⟨rfl, hext0⟩
  have hF : Blk w0 w.heap.size #[.int .u8 8, .int .u8 23] := (Blk.new w _ 25).ext hext0
  have hw := hext0.of_alloc
  clear hext0
  have a0 := hF.cell (i := 0) rfl
  have a1 := hF.cell (i := 1) rfl
  go_wp2_with fail
  refine (open_any _ a ha).mono ?_
  rintro e w1 ⟨ng, nv, dv, rfl, hext1, hn, hd, _⟩
  obtain ⟨ao1, n1, k1, rfl⟩ := hn.form
  obtain ⟨ao2, n2, k2, rfl⟩ := hd.form
  replace hF := hF.ext hext1
  replace hw := hw.trans hext1
  clear hext1 a0 a1
  obtain ⟨ca, hca⟩ : ∃ c, c = pC a := ⟨_, rfl⟩
  obtain ⟨na, hna⟩ : ∃ c, c = uS a := ⟨_, rfl⟩
  have ka := kinds a
  rw [← hca] at ka
  obtain ⟨W, hW⟩ : ∃ W, W = w1.alloc (.cells #[.int .u64 (a : Int), .bool na, .int .i8 ca, .bool ng, .slice ao1 n1 k1, .slice ao2 n2 k2] 109) := ⟨_, rfl⟩
  have hFW : Blk W w.heap.size #[.int .u8 8, .int .u8 23] := by rw [hW]; exact hF.alloc _ _
  have hPW : Blk W w1.heap.size #[.int .u64 (a : Int), .bool na, .int .i8 ca, .bool ng, .slice ao1 n1 k1, .slice ao2 n2 k2] := by rw [hW]; exact Blk.new _ _ _
  have hwW : Ext w W := by rw [hW]; exact hw.alloc _ _
  have hnW : NatV W (.slice ao1 n1 k1) (vN a) := by rw [hW]; exact hn.ext ((Ext.refl _).alloc _ _)
  have hdW : NatV W (.slice ao2 n2 k2) (vD a) := by rw [hW]; exact hd.ext ((Ext.refl _).alloc _ _)
  rw [← hca, ← hna]
  replace hca : Hid _ := hca
  replace hna : Hid _ := hna
  go_upto_region 4 with fail
  rw [← hW]
  clear hW hF hw hn hd
  have f0 := hFW.cell (i := 0) rfl
  have f1 := hFW.cell (i := 1) rfl
  have p0 := hPW.cell (i := 0) rfl
  have p1 := hPW.cell (i := 1) rfl
  have p2 := hPW.cell (i := 2) rfl
  dsimp only [List.getElem_toArray, List.getElem_cons_succ, List.getElem_cons_zero] at p0 p1 p2
  have fg0 : ∀ w', Ext W w' → w'.cell? ⟨w.heap.size, 0, none⟩ = some (.int .u8 8) := fun w' h => (hFW.ext h).cell rfl
  have fg1 : ∀ w', Ext W w' → w'.cell? ⟨w.heap.size, 1, none⟩ = some (.int .u8 23) := fun w' h => (hFW.ext h).cell rfl
  rcases ka with hk | hk | hk | hk
  · rw [hk] at p2
    have hS : Hid (XRoot a 2143289344) := by show XRoot a 2143289344; unfold XRoot; rw [if_pos (by rw [← hca.out, hk])]
    clear hca hna hk
    go_wp2_with fail
    go_region_held3 (fun w' => Ext W w') ((focus ((repeat (first | with_reducible assumption | with_reducible exact Ext.refl _ | with_reducible refine Ext.drew ?_ | with_reducible refine Ext.alloc ?_ _ _ | with_reducible refine Ext.setCell ?_ ?_ _ | with_reducible exact Nat.le_refl _ | (dsimp only; omega) | (simp only [World.size_alloc]; omega))); done))) (first
      | (go_at_call 79; refine (theNaN_any _).mono ?_; rintro e w3 ⟨rfl, hext3⟩; have hq3 : Ext W w3 := Ext.trans (by (focus ((repeat (first | with_reducible assumption | with_reducible exact Ext.refl _ | with_reducible refine Ext.drew ?_ | with_reducible refine Ext.alloc ?_ _ _ | with_reducible refine Ext.setCell ?_ ?_ _ | with_reducible exact Nat.le_refl _ | (dsimp only; omega) | (simp only [World.size_alloc]; omega))); done))) hext3)
      | (go_at_call 87; refine (xheard_any _ a a ha ha).mono ?_; rintro e w4 ⟨fl, rfl, hext4⟩; have hq4 : Ext W w4 := Ext.trans (by (focus ((repeat (first | with_reducible assumption | with_reducible exact Ext.refl _ | with_reducible refine Ext.drew ?_ | with_reducible refine Ext.alloc ?_ _ _ | with_reducible refine Ext.setCell ?_ ?_ _ | with_reducible exact Nat.le_refl _ | (dsimp only; omega) | (simp only [World.size_alloc]; omega))); done))) hext4))
    all_goals (go_wp2; go_ret2; exact ⟨2143289344, _, rfl, hS.out, hwW.trans (by (focus ((repeat (first | with_reducible assumption | with_reducible exact Ext.refl _ | with_reducible refine Ext.drew ?_ | with_reducible refine Ext.alloc ?_ _ _ | with_reducible refine Ext.setCell ?_ ?_ _ | with_reducible exact Nat.le_refl _ | (dsimp only; omega) | (simp only [World.size_alloc]; omega))); done)))⟩)
  · rw [hk] at p2
    cases na
    · have hS : Hid (XRoot a a) := by
        show XRoot a a
        have h1 := hca.out
        have h2 := hna.out
        unfold XRoot
        rw [if_neg (by omega), if_neg (by omega), if_neg (by rw [← h2]; decide), if_pos (by omega)]
      clear hca hna hk
      go_wp2
      go_ret2
      exact ⟨a, _, rfl, hS.out, hwW⟩
    · have hS : Hid (XRoot a 2143289344) := by
        show XRoot a 2143289344
        have h1 := hca.out
        have h2 := hna.out
        unfold XRoot
        rw [if_neg (by omega), if_neg (by omega), if_pos (by rw [← h2])]
      clear hca hna hk
      go_wp2_with fail
      refine (theNaN_any _).mono ?_
      rintro e w3 ⟨rfl, hext3⟩
      go_wp2
      go_ret2
      exact ⟨2143289344, _, rfl, hS.out, hwW.trans hext3⟩
  · rw [hk] at p2
    have hS : Hid (XRoot a a) := by
      show XRoot a a
      have h1 := hca.out
      unfold XRoot
      rw [if_neg (by omega), if_pos (by omega)]
    clear hca hna hk
    go_wp2
    go_ret2
    exact ⟨a, _, rfl, hS.out, hwW⟩
  · have g0 : (ca == 0) = false := by rw [beq_eq_false_iff_ne]; omega
    have g3 : (ca == 3) = false := by rw [beq_eq_false_iff_ne]; omega
    have g4 : (ca == 4) = false := by rw [beq_eq_false_iff_ne]; omega
    cases na
    · have hfin : pC a = 1 ∨ pC a = 2 := by rw [← hca.out]; exact hk
      have hlg := lg_val hfin
      have hp := parts_fin hfin
      have hN : vN a ≠ 0 := Nat.mul_ne_zero (by omega) (Nat.pos_iff_ne_zero.1 (Nat.two_pow_pos _))
      have hbl := lg_bl (vN a) (vD a)
      obtain ⟨lgv, hlgv⟩ : ∃ y, y = lg (vN a) (vD a) := ⟨_, rfl⟩
      rw [← hlgv] at hlg hbl
      obtain ⟨R, hR⟩ : ∃ R, R = (pX a + 23) / 2 := ⟨_, rfl⟩
      obtain ⟨k, hkk⟩ : ∃ k, k = 2 * (23 - R) := ⟨_, rfl⟩
      obtain ⟨A, hA⟩ : ∃ A, A = vN a * 2 ^ k.toNat := ⟨_, rfl⟩
      obtain ⟨B, hB⟩ : ∃ B, B = vD a * 2 ^ (-k).toNat := ⟨_, rfl⟩
      obtain ⟨s1, s2, s3⟩ := root_scale hN (vD_ne a) (R := R) (by rw [← hlgv]; omega) hkk hA hB
      have l1 : Lt32 (vN a) 10 := (vN_lt a).mono (Nat.le_refl _) (by decide)
      have l2 : Lt32 (vD a) 10 := (vD_lt a).mono (Nat.le_refl _) (by decide)
      have hLg : ∀ w', Ext W w' → Calls Oaig.prog 88 #[.slice ao1 n1 k1, .slice ao2 n2 k2, .int .i64 (-452), .int .i64 254] w' fun e w'' => e = .returned (.int .i64 lgv) ∧ Ext w' w'' := by
        intro w' h
        rw [hlgv]
        exact log2w_any (hnW.ext h) (hdW.ext h) l1 l2 (by decide) (-452) 254 (by decide) (by decide) (by decide) (by decide) (by omega) (by omega)
      have hRt : ∀ w', Ext W w' → Calls Oaig.prog 91 #[.agg #[.int .u8 8, .int .u8 23], .int .u8 0, .agg #[.bool ng, .slice ao1 n1 k1, .slice ao2 n2 k2], .int .i64 R] w' fun z w'' => ∃ qv h s r, z = .returned (.tuple #[qv, .agg #[.int .i8 h, .bool s]]) ∧ Ext w' w'' ∧ IsRoot r (A / B) ∧ NatV w'' qv (rtUp A B r) :=
        fun w' h => rootAt_any ng k R (hnW.ext h) (hdW.ext h) l1 l2 (by omega) (by omega) hkk hA hB s1 (by omega)
      obtain ⟨EE, hEE⟩ : ∃ E : Nat, (E : Int) = R + 126 := ⟨(R + 126).toNat, by omega⟩
      have hE2 : EE ≤ 253 := by omega
      have hE3 : Hid (R = (EE : Int) - 126) := by show R = _; omega
      have hS : Hid (∀ q, IsRoot q (A / B) → XRoot a (min 2139095040 (EE * 8388608 + rtUp A B q))) := by
        intro q hq
        have h1 := hca.out
        have h2 := hna.out
        unfold XRoot
        rw [if_neg (by omega), if_neg (by omega), if_neg (by rw [← h2]; decide), if_neg (by omega)]
        exact ⟨R, k, A, B, q, hR, hkk, hA, hB, hq, by rw [show (R + 126).toNat = EE by omega]⟩
      have hup : Hid (∀ q, IsRoot q (A / B) → rtUp A B q ≤ 16777216) := fun q hq => rtUp_le hq s3
      have t1 : lgv / 2 = R := by omega
      have t2 : IntKind.i64.wrap (2 * (-126)) = -252 := by decide
      have t3 : IntKind.i64.wrap (-252 - 200) = -452 := by decide
      have t4 : IntKind.i64.wrap (2 * 127) = 254 := by decide
      have hRb : -80 ≤ R := by omega
      have hRc : R ≤ 80 := by omega
      have hm : max R (-126) = R := by omega
      have x4 : ∀ w', Ext W w' → w'.cell? ⟨w1.heap.size, 4, none⟩ = some (.slice ao1 n1 k1) := fun w' h => (hPW.ext h).cell rfl
      have x5 : ∀ w', Ext W w' → w'.cell? ⟨w1.heap.size, 5, none⟩ = some (.slice ao2 n2 k2) := fun w' h => (hPW.ext h).cell rfl
      replace hLg : Hid _ := hLg
      replace hRt : Hid _ := hRt
      clear hfin hlg hp hN hbl hlgv hR hkk hA hB s1 s2 s3 l1 l2 hEE hca hna hk
      go_wp2_with fail
      go_region_held3 (fun w' => Ext W w') ((focus ((repeat (first | with_reducible assumption | with_reducible exact Ext.refl _ | with_reducible refine Ext.drew ?_ | with_reducible refine Ext.alloc ?_ _ _ | with_reducible refine Ext.setCell ?_ ?_ _ | with_reducible exact Nat.le_refl _ | (dsimp only; omega) | (simp only [World.size_alloc]; omega))); done))) (first
        | (go_at_call 89; refine (emin_any _).mono ?_; rintro e w3 ⟨rfl, hext3⟩; have hq3 : Ext W w3 := Ext.trans (by (focus ((repeat (first | with_reducible assumption | with_reducible exact Ext.refl _ | with_reducible refine Ext.drew ?_ | with_reducible refine Ext.alloc ?_ _ _ | with_reducible refine Ext.setCell ?_ ?_ _ | with_reducible exact Nat.le_refl _ | (dsimp only; omega) | (simp only [World.size_alloc]; omega))); done))) hext3)
        | (go_at_call 90; refine (emax_any _).mono ?_; rintro e w4 ⟨rfl, hext4⟩; have hq4 : Ext W w4 := Ext.trans (by (focus ((repeat (first | with_reducible assumption | with_reducible exact Ext.refl _ | with_reducible refine Ext.drew ?_ | with_reducible refine Ext.alloc ?_ _ _ | with_reducible refine Ext.setCell ?_ ?_ _ | with_reducible exact Nat.le_refl _ | (dsimp only; omega) | (simp only [World.size_alloc]; omega))); done))) hext4)
        | (go_at_call 88; refine Calls.mono (hLg.out _ (by (focus ((repeat (first | with_reducible assumption | with_reducible exact Ext.refl _ | with_reducible refine Ext.drew ?_ | with_reducible refine Ext.alloc ?_ _ _ | with_reducible refine Ext.setCell ?_ ?_ _ | with_reducible exact Nat.le_refl _ | (dsimp only; omega) | (simp only [World.size_alloc]; omega))); done)))) ?_; rintro e w5 ⟨rfl, hext5⟩; have hq5 : Ext W w5 := Ext.trans (by (focus ((repeat (first | with_reducible assumption | with_reducible exact Ext.refl _ | with_reducible refine Ext.drew ?_ | with_reducible refine Ext.alloc ?_ _ _ | with_reducible refine Ext.setCell ?_ ?_ _ | with_reducible exact Nat.le_refl _ | (dsimp only; omega) | (simp only [World.size_alloc]; omega))); done))) hext5))
      replace f0 := fg0 _ hq5
      replace f1 := fg1 _ hq5
      clear x4 x5 hLg t2 t3 t4
      go_wp2_with fail
      refine (emin_any _).mono ?_
      rintro e w6 ⟨rfl, hext6⟩
      have hq6 := hq5.trans hext6
      replace f0 := fg0 _ hq6
      replace f1 := fg1 _ hq6
      have x3 := (hPW.ext hq6).cell (i := 3) rfl
      have x4 := (hPW.ext hq6).cell (i := 4) rfl
      have x5 := (hPW.ext hq6).cell (i := 5) rfl
      go_wp2_with fail
      refine Calls.mono (hRt.out _ hq6) ?_
      rintro e w7 ⟨qv, h, s, q, rfl, hext7, hroot, hqv⟩
      obtain ⟨ao5, n5, c5, rfl⟩ := hqv.form
      have hS := hS.out q hroot
      have hup := hup.out q hroot
      generalize rtUp A B q = Q at *
      have hq7 := hq6.trans hext7
      have g5 : decide (R < -126) = false := decide_eq_false (by omega)
      have g6 : (R == -127) = false := by rw [beq_eq_false_iff_ne]; omega
      clear x3 x4 x5 hRt
      obtain ⟨W8, hW8⟩ : ∃ W8, W8 = w7.alloc (.cells #[.int .i8 h, .bool s] 114) := ⟨_, rfl⟩
      have hq8 : Ext W W8 := by rw [hW8]; exact hq7.alloc _ _
      have hR8 : Blk W8 w7.heap.size #[.int .i8 h, .bool s] := by rw [hW8]; exact Blk.new _ _ _
      have hv8 : NatV W8 (.slice ao5 n5 c5) Q := by rw [hW8]; exact hqv.ext ((Ext.refl _).alloc _ _)
      go_upto_region 15 with fail
      rw [← hW8]
      clear hW8
      replace f0 := fg0 _ hq8
      replace f1 := fg1 _ hq8
      go_wp2_with fail
      refine (emin_any _).mono ?_
      rintro e w9 ⟨rfl, hext9⟩
      have hq9 := hq8.trans hext9
      replace f0 := fg0 _ hq9
      replace f1 := fg1 _ hq9
      go_wp2_with fail
      refine (emin_any _).mono ?_
      rintro e w10 ⟨rfl, hext10⟩
      have hq10 := hq9.trans hext10
      have hR10 := hR8.ext (hext9.trans hext10)
      have hv10 := hv8.ext (hext9.trans hext10)
      go_wp2_with fail
      have c0 : ∀ w', Ext w10 w' → w'.cell? ⟨w.heap.size, 0, none⟩ = some (.int .u8 8) := fun w' h => fg0 _ (hq10.trans h)
      have c1 : ∀ w', Ext w10 w' → w'.cell? ⟨w.heap.size, 1, none⟩ = some (.int .u8 23) := fun w' h => fg1 _ (hq10.trans h)
      have c2 : ∀ w', Ext w10 w' → w'.cell? ⟨w7.heap.size, 0, none⟩ = some (.int .i8 h) := fun w' hh => (hR10.ext hh).cell rfl
      have c3 : ∀ w', Ext w10 w' → w'.cell? ⟨w7.heap.size, 1, none⟩ = some (.bool s) := fun w' hh => (hR10.ext hh).cell rfl
      have hTo : ∀ w', Ext w10 w' → Calls Oaig.prog 93 #[.slice ao5 n5 c5] w' fun e w'' => e = .returned (.int .u64 Q) ∧ w' = w'' := fun w' hh => toU64_any (hv10.ext hh) (by omega)
      have hPk := fun w => pack_any w false s false h R EE Q hE3 hE2 hup
      replace hTo : Hid _ := hTo
      replace hPk : Hid _ := hPk
      replace hS : Hid (XRoot a (min 2139095040 (EE * 8388608 + Q) + sgn false)) := by
        show XRoot a (min 2139095040 (EE * 8388608 + Q) + sgn false)
        rw [show sgn false = 0 from rfl, Nat.add_zero]; exact hS
      clear fg0 fg1 hup
      go_region_held3 (fun w' => Ext w10 w') ((focus ((repeat (first | with_reducible assumption | with_reducible exact Ext.refl _ | with_reducible refine Ext.drew ?_ | with_reducible refine Ext.alloc ?_ _ _ | with_reducible refine Ext.setCell ?_ ?_ _ | with_reducible exact Nat.le_refl _ | (dsimp only; omega) | (simp only [World.size_alloc]; omega))); done))) (first
        | (go_at_call 93; refine Calls.mono (hTo.out _ (by (focus ((repeat (first | with_reducible assumption | with_reducible exact Ext.refl _ | with_reducible refine Ext.drew ?_ | with_reducible refine Ext.alloc ?_ _ _ | with_reducible refine Ext.setCell ?_ ?_ _ | with_reducible exact Nat.le_refl _ | (dsimp only; omega) | (simp only [World.size_alloc]; omega))); done)))) ?_; rintro e w11 ⟨rfl, rfl⟩)
        | (go_at_call 92; refine Calls.mono (hPk.out _) ?_; rintro e w12 ⟨fl, rfl, hext12⟩; have hq12 : Ext w10 w12 := Ext.trans (by (focus ((repeat (first | with_reducible assumption | with_reducible exact Ext.refl _ | with_reducible refine Ext.drew ?_ | with_reducible refine Ext.alloc ?_ _ _ | with_reducible refine Ext.setCell ?_ ?_ _ | with_reducible exact Nat.le_refl _ | (dsimp only; omega) | (simp only [World.size_alloc]; omega))); done))) hext12))
      all_goals (
        go_wp2
        go_ret2
        exact ⟨_, fl, rfl, hS.out, hwW.trans (hq10.trans hq12)⟩)
    · have hS : Hid (XRoot a 2143289344) := by
        show XRoot a 2143289344
        have h1 := hca.out
        have h2 := hna.out
        unfold XRoot
        rw [if_neg (by omega), if_neg (by omega), if_pos (by rw [← h2])]
      clear hca hna hk
      go_wp2_with fail
      refine (theNaN_any _).mono ?_
      rintro e w3 ⟨rfl, hext3⟩
      go_wp2
      go_ret2
      exact ⟨2143289344, _, rfl, hS.out, hwW.trans hext3⟩

set_option maxHeartbeats 1000000 in
theorem exactSqrt_any (w : World) (a : Nat) (ha : a < 4294967296) :
    Calls Oaig.prog 27 #[.agg #[.int .u8 8, .int .u8 23], .int .u8 0, .int .u64 a] w fun e w' => ∃ r : Nat, e = .returned (.int .u64 r) ∧ XRoot a r ∧ Ext w w' := by
  go_enter Oaig.func27, Oaig.ntmps27
  go_wp2_with fail
  refine (xsqrtFlags_any _ a ha).mono ?_
  rintro e w1 ⟨r, fl, rfl, hr, hext1⟩
  go_wp2
  go_ret
  exact ⟨r, rfl, hr, hext1.of_alloc⟩

end Go.Proofs.Ygcoai
