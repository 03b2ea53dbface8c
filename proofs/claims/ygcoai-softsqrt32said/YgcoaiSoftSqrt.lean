/-
  Seat gcoai. soft.SqrtFlags (48) and soft.Sqrt (26) at Binary32, NearestEven.
-/
import Derived.Test.YgcoaiWSqrt
import Derived.Test.YgcoaiSoftMul
namespace Go.Proofs.Ygcoai
open Go.RowKit

theorem and1_fin : ∀ e : Fin 601, bits BinOp.and IntKind.i16 ((e.val : Int) - 300) 1 = ((e.val : Int) - 300) % 2 := by decide +kernel
theorem and1_i16 {e : Int} (h1 : -300 ≤ e) (h2 : e ≤ 300) : bits BinOp.and IntKind.i16 e 1 = e % 2 := by
  have h := and1_fin ⟨(e + 300).toNat, by omega⟩
  have e1 : ((e + 300).toNat : Int) - 300 = e := by omega
  dsimp only at h
  rw [e1] at h
  exact h

/-- The significand and the exponent that soft.Sqrt takes the root of. -/
def SqH (x : Int) (m H : Nat) (E : Int) : Prop := (H = m * 1099511627776 ∧ 2 * (E + 32) = x - 40) ∨ (H = m * 549755813888 ∧ 2 * (E + 32) = x - 39)

/-- What soft.Sqrt answers. -/
def SRoot (a r : Nat) : Prop :=
  if pC a = 0 then r = sgn (pN a)
  else if pC a = 4 then r = 2143289344
  else if pN a = true then r = 2143289344
  else if pC a = 3 then r = 2139095040
  else ∃ H E s b, SqH (pX a) (pM a) H E ∧ SqrtOut H s b ∧ r = rp E (if b then s else s ||| 1)

set_option maxRecDepth 20000 in
set_option maxHeartbeats 8000000 in
theorem sqrtFlags_any (w : World) (a : Nat) (ha : a < 4294967296) :
    Calls Oaig.prog 48 #[.agg #[.int .u8 8, .int .u8 23], .int .u8 0, .int .u64 a] w fun e w' => ∃ (r : Nat) (fl : Int), e = .returned (.tuple #[.int .u64 r, .int .u8 fl]) ∧ SRoot a r ∧ Ext w w' := by
  go_enter Oaig.func48, Oaig.ntmps48
  go_wp2_with fail
  refine (ok_any _).mono ?_
  rintro e w0 ⟨rfl, hext0⟩
  have hF : Blk w0 w.heap.size #[.int .u8 8, .int .u8 23] := (Blk.new w _ 25).ext hext0
  have hw := hext0.of_alloc
  clear hext0
  have a0 := hF.cell (i := 0) rfl
  have a1 := hF.cell (i := 1) rfl
  go_wp2_with fail
  refine (unpack_any _ a ha).mono ?_
  rintro e w1 ⟨rfl, hext1⟩
  replace hF := hF.ext hext1
  replace hw := hw.trans hext1
  clear hext1 a0 a1
  obtain ⟨ca, hca⟩ : ∃ c, c = pC a := ⟨_, rfl⟩
  obtain ⟨na, hna⟩ : ∃ c, c = pN a := ⟨_, rfl⟩
  obtain ⟨ma, hma⟩ : ∃ c, c = pM a := ⟨_, rfl⟩
  obtain ⟨xa, hxa⟩ : ∃ c, c = pX a := ⟨_, rfl⟩
  have hS : Hid (∀ r, (if ca = 0 then r = sgn na else if ca = 4 then r = 2143289344 else if na = true then r = 2143289344 else if ca = 3 then r = 2139095040 else ∃ H E s b, SqH xa ma H E ∧ SqrtOut H s b ∧ r = rp E (if b then s else s ||| 1)) → SRoot a r) := by
    intro r h
    unfold SRoot
    rw [← hca, ← hna, ← hma, ← hxa]
    exact h
  have ka := kinds a
  rw [← hca] at ka
  have hpf : Hid (ca = 1 ∨ ca = 2 → 8388608 ≤ ma ∧ ma < 16777216 ∧ -172 ≤ xa ∧ xa ≤ 104) := by
    intro h
    rw [hca] at h
    have := parts_fin h
    rw [← hma, ← hxa] at this
    exact ⟨this.1, this.2.1, this.2.2.1, this.2.2.2.1⟩
  rw [← hca, ← hna, ← hma, ← hxa]
  clear hca hna hma hxa
  obtain ⟨W, hW⟩ : ∃ W, W = w1.alloc (.cells #[.bool na, .int .i8 ca, .int .i16 xa, .int .u64 (ma : Int)] 98) := ⟨_, rfl⟩
  have hFW : Blk W w.heap.size #[.int .u8 8, .int .u8 23] := by rw [hW]; exact hF.alloc _ _
  have hPW : Blk W w1.heap.size #[.bool na, .int .i8 ca, .int .i16 xa, .int .u64 (ma : Int)] := by rw [hW]; exact Blk.new _ _ _
  have hwW : Ext w W := by rw [hW]; exact hw.alloc _ _
  go_upto_region 4 with fail
  rw [← hW]
  clear hW hF hw
  have f0 := hFW.cell (i := 0) rfl
  have f1 := hFW.cell (i := 1) rfl
  have p0 := hPW.cell (i := 0) rfl
  have p1 := hPW.cell (i := 1) rfl
  have p2 := hPW.cell (i := 2) rfl
  have p3 := hPW.cell (i := 3) rfl
  dsimp only [List.getElem_toArray, List.getElem_cons_succ, List.getElem_cons_zero] at p0 p1 p2 p3
  rcases ka with hk | hk | hk | hk
  · rw [hk] at p1 hS
    replace hS : Hid (SRoot a 2143289344) := hS.out 2143289344 (by rw [if_neg (by decide), if_pos rfl])
    clear hpf p0 p2 p3
    go_wp2_with fail
    have fg0 : ∀ w', Ext W w' → w'.cell? ⟨w.heap.size, 0, none⟩ = some (.int .u8 8) := fun w' h => (hFW.ext h).cell rfl
    have fg1 : ∀ w', Ext W w' → w'.cell? ⟨w.heap.size, 1, none⟩ = some (.int .u8 23) := fun w' h => (hFW.ext h).cell rfl
    go_region_held3 (fun w' => Ext W w') ((focus ((repeat (first | with_reducible assumption | with_reducible exact Ext.refl _ | with_reducible refine Ext.drew ?_ | with_reducible refine Ext.alloc ?_ _ _ | with_reducible refine Ext.setCell ?_ ?_ _ | with_reducible exact Nat.le_refl _ | (dsimp only; omega) | (simp only [World.size_alloc]; omega))); done))) (first
      | (go_at_call 79; refine (theNaN_any _).mono ?_; rintro e w3 ⟨rfl, hext3⟩; have hq3 : Ext W w3 := Ext.trans (by (focus ((repeat (first | with_reducible assumption | with_reducible exact Ext.refl _ | with_reducible refine Ext.drew ?_ | with_reducible refine Ext.alloc ?_ _ _ | with_reducible refine Ext.setCell ?_ ?_ _ | with_reducible exact Nat.le_refl _ | (dsimp only; omega) | (simp only [World.size_alloc]; omega))); done))) hext3)
      | (go_at_call 80; refine (heard_any _ a a ha ha).mono ?_; rintro e w4 ⟨fl, rfl, hext4⟩; have hq4 : Ext W w4 := Ext.trans (by (focus ((repeat (first | with_reducible assumption | with_reducible exact Ext.refl _ | with_reducible refine Ext.drew ?_ | with_reducible refine Ext.alloc ?_ _ _ | with_reducible refine Ext.setCell ?_ ?_ _ | with_reducible exact Nat.le_refl _ | (dsimp only; omega) | (simp only [World.size_alloc]; omega))); done))) hext4))
    all_goals (go_wp2; go_ret2; exact ⟨2143289344, _, rfl, hS.out, hwW.trans (by (focus ((repeat (first | with_reducible assumption | with_reducible exact Ext.refl _ | with_reducible refine Ext.drew ?_ | with_reducible refine Ext.alloc ?_ _ _ | with_reducible refine Ext.setCell ?_ ?_ _ | with_reducible exact Nat.le_refl _ | (dsimp only; omega) | (simp only [World.size_alloc]; omega))); done)))⟩)
  · rw [hk] at p1 hS
    clear hpf p2 p3
    cases na
    · replace hS : Hid (SRoot a 2139095040) := hS.out 2139095040 (by rw [if_neg (by decide), if_neg (by decide), if_neg (by decide), if_pos rfl])
      go_wp2_with fail
      refine (inf_any _ false).mono ?_
      rintro e w3 ⟨rfl, hext3⟩
      go_wp2
      go_ret2
      exact ⟨2139095040, _, rfl, hS.out, hwW.trans hext3⟩
    · replace hS : Hid (SRoot a 2143289344) := hS.out 2143289344 (by rw [if_neg (by decide), if_neg (by decide), if_pos rfl])
      go_wp2_with fail
      refine (theNaN_any _).mono ?_
      rintro e w3 ⟨rfl, hext3⟩
      go_wp2
      go_ret2
      exact ⟨2143289344, _, rfl, hS.out, hwW.trans hext3⟩
  · rw [hk] at p1 hS
    clear hpf p2 p3
    replace hS : Hid (SRoot a (sgn na)) := hS.out (sgn na) (by rw [if_pos rfl])
    go_wp2_with fail
    refine (zero_any _ na).mono ?_
    rintro e w3 ⟨rfl, hext3⟩
    go_wp2
    go_ret2
    exact ⟨sgn na, _, rfl, hS.out, hwW.trans hext3⟩
  · have g0 : (ca == 0) = false := by rw [beq_eq_false_iff_ne]; omega
    have g3 : (ca == 3) = false := by rw [beq_eq_false_iff_ne]; omega
    have g4 : (ca == 4) = false := by rw [beq_eq_false_iff_ne]; omega
    cases na
    · obtain ⟨m1, m2, m3, m4⟩ := hpf.out hk
      replace hS : Hid (∀ r, (∃ H E s b, SqH xa ma H E ∧ SqrtOut H s b ∧ r = rp E (if b then s else s ||| 1)) → SRoot a r) := fun r h => hS.out r (by rw [if_neg (by omega), if_neg (by omega), if_neg (by decide), if_neg (by omega)]; exact h)
      have hTop := fun w => top_any w false ca xa ma m2 (by omega) (by omega)
      obtain ⟨M, hM⟩ : ∃ M, M = ma * 1099511627776 := ⟨_, rfl⟩
      obtain ⟨ee, hee⟩ : ∃ y, y = xa - 40 := ⟨_, rfl⟩
      rw [← hM, ← hee] at hTop
      replace hTop : Hid _ := hTop
      have hand := and1_i16 (e := ee) (by omega) (by omega)
      clear hpf hk
      by_cases hodd : ee % 2 = 0
      · obtain ⟨h, hh⟩ : ∃ h, ee = 2 * h := ⟨ee / 2, by omega⟩
        have t1 : bits BinOp.and IntKind.i16 ee 1 = 0 := by rw [hand, hodd]
        have t2 : ee.tdiv 2 = h := by rw [hh]; exact Int.mul_tdiv_cancel_left _ (by decide)
        have hSq := fun w => wsqrt_any w M (by omega) (by omega)
        have hqH : Hid (SqH xa ma M (h - 32)) := Or.inl ⟨hM, by omega⟩
        have hb1 : -200 ≤ h := by omega
        have hb2 : h ≤ 200 := by omega
        replace hSq : Hid _ := hSq
        clear hand hodd hh hee hM m1 m2 m3 m4
        go_wp2_with fail
        refine Calls.mono (hTop.out _) ?_
        rintro e w3 ⟨rfl, hext3⟩
        go_wp2_with fail
        refine Calls.mono (hSq.out _) ?_
        rintro e w5 ⟨s, b, rfl, hout, hext5⟩
        have hF5 : Blk w5 w.heap.size #[.int .u8 8, .int .u8 23] := Blk.ext ((hFW.ext hext3).alloc _ _) hext5
        have hw5 : Ext w w5 := ((hwW.trans hext3).alloc _ _).trans hext5
        replace f0 := hF5.cell (i := 0) rfl
        replace f1 := hF5.cell (i := 1) rfl
        have hs1 := hout.2.2.1
        have hs2 := hout.2.2.2
        cases b
        · obtain ⟨S, hSS⟩ : ∃ y, y = s ||| 1 := ⟨_, rfl⟩
          have hor : bits BinOp.or IntKind.u64 (s : Int) 1 = (S : Int) := by rw [hSS, show (1 : Int) = ((1 : Nat) : Int) from rfl, u64_or_nat _ _ hs2 (by decide)]
          have hS0 : S ≠ 0 := by rw [hSS, or_one]; omega
          have hSl : S < 18446744073709551616 := by rw [hSS]; exact Nat.or_lt_two_pow (n := 64) hs2 (by decide)
          have hRp := fun w => roundPack_any w false (h - 32) S hS0 hSl (by omega) (by omega)
          have hres : Hid (SRoot a (rp (h - 32) S)) := hS.out _ ⟨_, _, s, false, hqH.out, hout, by rw [hSS]; rfl⟩
          replace hRp : Hid _ := hRp
          clear hS0 hSl hs1 hs2 hSS
          go_wp2_with fail
          refine Calls.mono (hRp.out _) ?_
          rintro e w6 ⟨fl, rfl, hext6⟩
          go_wp2
          go_ret2
          exact ⟨rp (h - 32) S, _, rfl, hres.out, hw5.trans hext6⟩
        · have hRp := fun w => roundPack_any w false (h - 32) s (by omega) hs2 (by omega) (by omega)
          have hres : Hid (SRoot a (rp (h - 32) s)) := hS.out _ ⟨_, _, s, true, hqH.out, hout, rfl⟩
          replace hRp : Hid _ := hRp
          clear hs1 hs2
          go_wp2_with fail
          refine Calls.mono (hRp.out _) ?_
          rintro e w6 ⟨fl, rfl, hext6⟩
          go_wp2
          go_ret2
          exact ⟨rp (h - 32) s, _, rfl, hres.out, hw5.trans hext6⟩
      · obtain ⟨h, hh⟩ : ∃ h, ee + 1 = 2 * h := ⟨(ee + 1) / 2, by omega⟩
        have t1 : bits BinOp.and IntKind.i16 ee 1 = 1 := by rw [hand]; omega
        have t2 : (ee + 1).tdiv 2 = h := by rw [hh]; exact Int.mul_tdiv_cancel_left _ (by decide)
        obtain ⟨N, hN⟩ : ∃ N, N = ma * 549755813888 := ⟨_, rfl⟩
        have hSq := fun w => wsqrt_any w N (by omega) (by omega)
        have hqH : Hid (SqH xa ma N (h - 32)) := Or.inr ⟨hN, by omega⟩
        have hb1 : -200 ≤ h := by omega
        have hb2 : h ≤ 200 := by omega
        have hShr := fun w => wshr_any w M 0 1 (by omega) (by decide) (by decide)
        have e1 : (M * 18446744073709551616 + 0) / 2 ^ 1 / 18446744073709551616 = N := by rw [Nat.pow_one]; omega
        have e2 : (M * 18446744073709551616 + 0) / 2 ^ 1 % 18446744073709551616 = 0 := by rw [Nat.pow_one]; omega
        rw [e1, e2] at hShr
        have hee2 : -300 ≤ ee := by omega
        have hee3 : ee ≤ 300 := by omega
        replace hSq : Hid _ := hSq
        replace hShr : Hid _ := hShr
        clear hand hodd hh hee hM m1 m2 m3 m4 hN e1 e2
        go_wp2_with fail
        refine Calls.mono (hTop.out _) ?_
        rintro e w3 ⟨rfl, hext3⟩
        go_wp2_with fail
        refine Calls.mono (hShr.out _) ?_
        rintro e w4 ⟨rfl, hext4⟩
        have hV : Blk w4 w3.heap.size #[.int .u64 (M : Int), .int .u64 0] := Blk.one hext4
        have v0 := hV.cell (i := 0) rfl
        have v1 := hV.cell (i := 1) rfl
        have vz := hV.fz
        have vl := hV.lt
        have hF4 : Blk w4 w.heap.size #[.int .u8 8, .int .u8 23] := hFW.ext (hext3.trans hext4.of_alloc)
        have hw4 := hwW.trans (hext3.trans hext4.of_alloc)
        have hlt3 := hext3.size
        have hltW := hPW.lt
        have hltF := hFW.lt
        have hV2 := hV.set2 (a' := .int .u64 (N : Int)) (b' := .int .u64 0)
        have u0 := hV2.cell (i := 0) rfl
        have u1 := hV2.cell (i := 1) rfl
        have hF5' : Blk ((w4.setCell ⟨w3.heap.size, 0, none⟩ (.int .u64 (N : Int))).setCell ⟨w3.heap.size, 1, none⟩ (.int .u64 0)) w.heap.size #[.int .u8 8, .int .u8 23] := (hF4.setOther (by omega) _).setOther (by omega) _
        have hw5' : Ext w ((w4.setCell ⟨w3.heap.size, 0, none⟩ (.int .u64 (N : Int))).setCell ⟨w3.heap.size, 1, none⟩ (.int .u64 0)) := Ext.set2 hw4 (by have := hwW.size; omega) _ _
        clear hlt3 hltW hltF
        go_wp2_with fail
        refine Calls.mono (hSq.out _) ?_
        rintro e w5 ⟨s, b, rfl, hout, hext5⟩
        have hF5 : Blk w5 w.heap.size #[.int .u8 8, .int .u8 23] := Blk.ext hF5' hext5
        have hw5 : Ext w w5 := hw5'.trans hext5
        replace f0 := hF5.cell (i := 0) rfl
        replace f1 := hF5.cell (i := 1) rfl
        have hs1 := hout.2.2.1
        have hs2 := hout.2.2.2
        cases b
        · obtain ⟨S, hSS⟩ : ∃ y, y = s ||| 1 := ⟨_, rfl⟩
          have hor : bits BinOp.or IntKind.u64 (s : Int) 1 = (S : Int) := by rw [hSS, show (1 : Int) = ((1 : Nat) : Int) from rfl, u64_or_nat _ _ hs2 (by decide)]
          have hS0 : S ≠ 0 := by rw [hSS, or_one]; omega
          have hSl : S < 18446744073709551616 := by rw [hSS]; exact Nat.or_lt_two_pow (n := 64) hs2 (by decide)
          have hRp := fun w => roundPack_any w false (h - 32) S hS0 hSl (by omega) (by omega)
          have hres : Hid (SRoot a (rp (h - 32) S)) := hS.out _ ⟨_, _, s, false, hqH.out, hout, by rw [hSS]; rfl⟩
          replace hRp : Hid _ := hRp
          clear hS0 hSl hs1 hs2 hSS
          go_wp2_with fail
          refine Calls.mono (hRp.out _) ?_
          rintro e w6 ⟨fl, rfl, hext6⟩
          go_wp2
          go_ret2
          exact ⟨rp (h - 32) S, _, rfl, hres.out, hw5.trans hext6⟩
        · have hRp := fun w => roundPack_any w false (h - 32) s (by omega) hs2 (by omega) (by omega)
          have hres : Hid (SRoot a (rp (h - 32) s)) := hS.out _ ⟨_, _, s, true, hqH.out, hout, rfl⟩
          replace hRp : Hid _ := hRp
          clear hs1 hs2
          go_wp2_with fail
          refine Calls.mono (hRp.out _) ?_
          rintro e w6 ⟨fl, rfl, hext6⟩
          go_wp2
          go_ret2
          exact ⟨rp (h - 32) s, _, rfl, hres.out, hw5.trans hext6⟩
    · replace hS : Hid (SRoot a 2143289344) := hS.out 2143289344 (by rw [if_neg (by omega), if_neg (by omega), if_pos rfl])
      clear hpf hk p2 p3
      go_wp2_with fail
      refine (theNaN_any _).mono ?_
      rintro e w3 ⟨rfl, hext3⟩
      go_wp2
      go_ret2
      exact ⟨2143289344, _, rfl, hS.out, hwW.trans hext3⟩

set_option maxHeartbeats 1000000 in
theorem softSqrt_any (w : World) (a : Nat) (ha : a < 4294967296) :
    Calls Oaig.prog 26 #[.agg #[.int .u8 8, .int .u8 23], .int .u8 0, .int .u64 a] w fun e w' => ∃ r : Nat, e = .returned (.int .u64 r) ∧ SRoot a r ∧ Ext w w' := by
  go_enter Oaig.func26, Oaig.ntmps26
  go_wp2_with fail
  refine (sqrtFlags_any _ a ha).mono ?_
  rintro e w1 ⟨r, fl, rfl, hr, hext1⟩
  go_wp2
  go_ret
  exact ⟨r, rfl, hr, hext1.of_alloc⟩

end Go.Proofs.Ygcoai
