/-
  Seat gcoai. wide.divHalf (156) and wide.Div (113) where the divisor moved up has no low half; soft.top (82).
-/
import Derived.Test.YgcoaiJam
import Derived.Test.YgcoaiTwo
namespace Go.Proofs.Ygcoai
open Go.RowKit

theorem lor_zero32 {x nx : Nat} (h : x % 4294967296 = 0) (hn : nx < 4294967296) : x ||| nx = x + nx := nat_join 32 _ _ h hn

set_option maxRecDepth 20000 in
set_option maxHeartbeats 2000000 in
theorem divHalf_any (w : World) (hi nx D : Nat) (hhi : hi < D * 4294967296) (hn : nx < 4294967296) (hD : D < 4294967296) :
    Calls Oaig.prog 156 #[.int .u64 hi, .int .u64 nx, .int .u64 (D * 4294967296 : Nat)] w fun e w' => e = .returned (.tuple #[.int .u64 (hi / D : Nat), .int .u64 (hi % D * 4294967296 + nx : Nat)]) ∧ Ext w w' := by
  obtain ⟨d, hd⟩ : ∃ d, d = D * 4294967296 := ⟨_, rfl⟩
  obtain ⟨q, hq⟩ : ∃ q, q = hi / D := ⟨_, rfl⟩
  obtain ⟨r, hr⟩ : ∃ r, r = hi % D := ⟨_, rfl⟩
  have hD0 : 0 < D := by omega
  have hql : q < 4294967296 := by rw [hq]; exact Nat.div_lt_of_lt_mul hhi
  have hrl : r < D := by rw [hr]; exact Nat.mod_lt _ hD0
  have hdm : D * q + r = hi := by rw [hq, hr]; exact Nat.div_add_mod hi D
  rw [← hd] at hhi
  rw [← hd, ← hq, ← hr]
  have f1 : (d : Int) / 4294967296 = (D : Int) := by omega
  have f2 : bits BinOp.and IntKind.u64 (d : Int) 4294967295 = 0 := by rw [and32 d (by omega)]; omega
  have f3 : ((D : Int) == 0) = false := by rw [beq_eq_false_iff_ne]; omega
  have f4 : (hi : Int).tdiv (D : Int) = (q : Int) := by rw [hq]; rfl
  have f5 : (hi : Int).tmod (D : Int) = (r : Int) := by rw [hr]; rfl
  have f4' : (hi : Int) / (D : Int) = (q : Int) := by rw [hq]; simp
  have f5' : (hi : Int) % (D : Int) = (r : Int) := by rw [hr]; simp
  have g1 : decide ((4294967295 : Int) < (q : Int)) = false := decide_eq_false (by omega)
  have hp : q * d = D * q * 4294967296 := by rw [hd]; grind
  have g5 : IntKind.u64.wrap (IntKind.u64.wrap (IntKind.u64.wrap ((hi : Int) * 4294967296) + (nx : Int)) - IntKind.u64.wrap ((q : Int) * (d : Int))) = ((r * 4294967296 + nx : Nat) : Int) := by
    have e : (hi : Int) * 4294967296 + (nx : Int) - (q : Int) * (d : Int) = ((r * 4294967296 + nx : Nat) : Int) := by
      have e1 : ((q : Int) * (d : Int)) = ((q * d : Nat) : Int) := by simp
      rw [e1, hp]; omega
    simp only [IntKind.wrap_u64, Int.emod_add_emod, Int.emod_sub_emod, Int.sub_emod_emod]
    rw [e]
    exact Int.emod_eq_of_lt (by omega) (by omega)
  have g2 : IntKind.u64.wrap ((q : Int) * 0) = 0 := by rw [Int.mul_zero]; rfl
  have g3 : bits BinOp.or IntKind.u64 ((r : Int) * 4294967296) (nx : Int) = ((r * 4294967296 + nx : Nat) : Int) := by
    have e : ((r : Int) * 4294967296) = ((r * 4294967296 : Nat) : Int) := by omega
    rw [e, u64_or_nat _ _ (by omega) (by omega), lor_zero32 (by omega) hn]
  generalize hz : r * 4294967296 + nx = Z at *
  have g4 : decide ((Z : Int) < 0) = false := decide_eq_false (by omega)
  clear hd hq hr hdm hp hz hhi
  go_enter Oaig.func156, Oaig.ntmps156
  go_wp2_with fail
  go_quiet (fail)
  go_wp2_with fail
  go_loopw [6, 10] (fun cq cr wr => cq = .int .u64 q ∧ cr = .int .u64 r ∧ Ext w wr) (fun _ _ _ => 0)
  case atStart => exact ⟨rfl, rfl, (Ext.refl w).drewN _⟩
  case round =>
    obtain ⟨rfl, rfl, hext⟩ := hrel
    go_wp2
    go_ret2
    exact ⟨rfl, hext⟩

/-- The shift of wide.Div and its two halves, with no Go in sight. -/
theorem wdiv_plain {hi lo d s D : Nat} (hd : d * 2 ^ s = D * 4294967296) (hh : hi < d) (hlo : lo < 18446744073709551616) (_hs : s < 64) (hD : D < 4294967296) :
    ∃ H L R, H = (hi * 18446744073709551616 + lo) * 2 ^ s / 18446744073709551616 % 18446744073709551616 ∧ L = lo * 2 ^ s % 18446744073709551616 ∧ R = H % D * 4294967296 + L / 4294967296 ∧ H < D * 4294967296 ∧ R < D * 4294967296 ∧ H / D * 4294967296 + R / D = (hi * 18446744073709551616 + lo) / d ∧ (R % D * 4294967296 + L % 4294967296) / 2 ^ s = (hi * 18446744073709551616 + lo) % d := by
  have hp := Nat.two_pow_pos s
  have hd0 : 0 < d := by omega
  have hD0 : 0 < D := by
    rcases Nat.eq_zero_or_pos D with h | h
    · rw [h, Nat.zero_mul] at hd
      have := Nat.mul_pos hd0 hp
      omega
    · exact h
  generalize hV : hi * 18446744073709551616 + lo = V at *
  have hVl : V < d * 18446744073709551616 := by omega
  have hVs : V * 2 ^ s < D * 4294967296 * 18446744073709551616 := by
    rw [← hd, Nat.mul_right_comm]
    exact Nat.mul_lt_mul_of_pos_right hVl hp
  have hLs : lo * 2 ^ s % 18446744073709551616 = V * 2 ^ s % 18446744073709551616 := by
    rw [← hV, Nat.add_mul, Nat.mul_right_comm, Nat.mul_comm _ 18446744073709551616, Nat.mul_add_mod]
  have hH1 : V * 2 ^ s / 18446744073709551616 < D * 4294967296 := by
    apply Nat.div_lt_of_lt_mul; rw [Nat.mul_comm 18446744073709551616]; exact hVs
  have hH2 : V * 2 ^ s / 18446744073709551616 % 18446744073709551616 = V * 2 ^ s / 18446744073709551616 := Nat.mod_eq_of_lt (by omega)
  refine ⟨_, _, _, rfl, rfl, rfl, ?_⟩
  rw [hH2, hLs]
  have hHL := Nat.div_add_mod (V * 2 ^ s) 18446744073709551616
  have hLl := Nat.mod_lt (V * 2 ^ s) (show 18446744073709551616 > 0 by decide)
  generalize V * 2 ^ s / 18446744073709551616 = H at *
  generalize V * 2 ^ s % 18446744073709551616 = L at *
  have hHm := Nat.div_add_mod H D
  have hHr := Nat.mod_lt H hD0
  obtain ⟨R, hR⟩ : ∃ R, R = H % D * 4294967296 + L / 4294967296 := ⟨_, rfl⟩
  rw [← hR]
  have hRm := Nat.div_add_mod R D
  have hRr := Nat.mod_lt R hD0
  generalize H / D = q1 at *
  generalize H % D = r1 at *
  generalize R / D = q0 at *
  generalize R % D = r0 at *
  have hmain : V * 2 ^ s = (q1 * 4294967296 + q0) * (d * 2 ^ s) + (r0 * 4294967296 + L % 4294967296) := by
    rw [hd]
    have e1 : D * q1 * 4294967296 = q1 * (D * 4294967296) := by grind
    have e2 : (q1 * 4294967296 + q0) * (D * 4294967296) = q1 * (D * 4294967296) * 4294967296 + D * q0 * 4294967296 := by grind
    rw [e2, ← e1]
    generalize D * q1 = u at *
    generalize D * q0 = v at *
    omega
  have hrest : r0 * 4294967296 + L % 4294967296 < d * 2 ^ s := by rw [hd]; omega
  refine ⟨hH1, by omega, ?_, ?_⟩
  · have h1 : V * 2 ^ s / (d * 2 ^ s) = q1 * 4294967296 + q0 := by
      rw [hmain, Nat.mul_comm, Nat.mul_add_div (by rw [hd]; omega), Nat.div_eq_of_lt hrest, Nat.add_zero]
    rw [Nat.mul_div_mul_right _ _ hp] at h1
    exact h1.symm
  · have h1 : V * 2 ^ s % (d * 2 ^ s) = r0 * 4294967296 + L % 4294967296 := by
      rw [hmain, Nat.mul_comm, Nat.mul_add_mod, Nat.mod_eq_of_lt hrest]
    rw [Nat.mul_mod_mul_right] at h1
    rw [← h1, Nat.mul_div_cancel _ hp]

set_option maxRecDepth 20000 in
set_option maxHeartbeats 2000000 in
/-- wide.Div, where the divisor moved up to the top bit has no low half. -/
theorem wdiv_any (w : World) (hi lo d s D : Nat) (hs : bl d + s = 64) (hd : d * 2 ^ s = D * 4294967296) (hh : hi < d) (hlo : lo < 18446744073709551616) (hdl : d < 18446744073709551616) :
    Calls Oaig.prog 113 #[u128 hi lo, .int .u64 d] w fun e w' => e = .returned (.tuple #[.int .u64 ((hi * 18446744073709551616 + lo) / d : Nat), .int .u64 ((hi * 18446744073709551616 + lo) % d : Nat), .bool true]) ∧ Ext w w' := by
  have hd0 : d ≠ 0 := by omega
  have hb := bl_pos hd0
  have hDl : D < 4294967296 := by
    have h1 := bl_lt d
    have h2 : d * 2 ^ s < 2 ^ bl d * 2 ^ s := Nat.mul_lt_mul_of_pos_right h1 (Nat.two_pow_pos s)
    rw [← Nat.pow_add, hs, hd] at h2
    omega
  obtain ⟨H, L, R, hH, hL, hR, hHl, hRl, hq, hr⟩ := wdiv_plain hd hh hlo (by omega) hDl
  have hLl : L < 18446744073709551616 := by rw [hL]; exact Nat.mod_lt _ (by decide)
  have hShl := fun w => shl_lo w hi lo s (by omega) hlo (by omega)
  rw [← hH, ← hL] at hShl
  rw [← hq, ← hr]
  have f1 : decide (d ≤ hi) = false := decide_eq_false (by omega)
  have f2 : ((64 - bl d : Nat) : Int) = (s : Int) := by omega
  have f3 : IntKind.u64.wrap ((d : Int) * 2 ^ s) = ((D * 4294967296 : Nat) : Int) := by
    have e : ((d : Int) * 2 ^ s) = ((d * 2 ^ s : Nat) : Int) := by simp
    rw [e, hd, IntKind.wrap_u64]; omega
  have f4 : (L : Int) / 4294967296 = ((L / 4294967296 : Nat) : Int) := by simp
  have f5 : bits BinOp.and IntKind.u64 (L : Int) 4294967295 = ((L % 4294967296 : Nat) : Int) := and32 L hLl
  have hq1 : H / D < 4294967296 := Nat.div_lt_of_lt_mul hHl
  have hq0 : R / D < 4294967296 := Nat.div_lt_of_lt_mul hRl
  have hRr : R % D < D := Nat.mod_lt _ (by omega)
  have f6 : bits BinOp.or IntKind.u64 (((H / D : Nat) : Int) * 4294967296) ((R / D : Nat) : Int) = ((H / D * 4294967296 + R / D : Nat) : Int) := by
    have e : (((H / D : Nat) : Int) * 4294967296) = ((H / D * 4294967296 : Nat) : Int) := by omega
    rw [e, u64_or_nat _ _ (by omega) (by omega), lor_zero32 (by omega) hq0]
  have f7 : ((R % D * 4294967296 + L % 4294967296 : Nat) : Int) / 2 ^ s = (((R % D * 4294967296 + L % 4294967296) / 2 ^ s : Nat) : Int) := by simp
  have hc := fun w => clz_any w d hd0 hdl
  rw [f2] at hc
  have hsl : s < 64 := by omega
  have hd1 := fun w => divHalf_any w H (L / 4294967296) D hHl (by omega) hDl
  rw [← hR] at hd1
  have hd2 := fun w => divHalf_any w R (L % 4294967296) D hRl (by omega) hDl
  obtain ⟨Q, hQ⟩ : ∃ Q, Q = H / D * 4294967296 + R / D := ⟨_, rfl⟩
  rw [← hQ] at f6 ⊢
  obtain ⟨Y, hY⟩ : ∃ Y, Y = R % D * 4294967296 + L % 4294967296 := ⟨_, rfl⟩
  rw [← hY] at f7 hd2 ⊢
  clear hq hr hQ hY hRr
  generalize Y / 2 ^ s = Z at *
  generalize H / D = q1 at *
  generalize R / D = q0 at *
  obtain ⟨DD, hDD⟩ : ∃ DD, DD = D * 4294967296 := ⟨_, rfl⟩
  rw [← hDD] at f3 hd1 hd2
  clear hDD
  generalize L / 4294967296 = L1 at *
  generalize L % 4294967296 = L0 at *
  replace hShl : Hid _ := hShl
  replace hc : Hid _ := hc
  replace hd1 : Hid _ := hd1
  replace hd2 : Hid _ := hd2
  clear hs hd hh hlo hdl hd0 hb hDl hH hL hR hHl hRl f2
  go_enter Oaig.func113, Oaig.ntmps113
  go_wp2_with fail
  refine Calls.mono (hc.out _) ?_
  rintro e w' ⟨rfl, rfl⟩
  go_wp2_with fail
  refine Calls.mono (hShl.out _) ?_
  rintro e w1 ⟨rfl, hext1⟩
  have hF : Blk w1 w.heap.size #[.int .u64 (hi : Int), .int .u64 (lo : Int)] := (Blk.new w _ 62).ext hext1
  have a0 := hF.cell (i := 0) rfl
  have a1 := hF.cell (i := 1) rfl
  have z0 := hF.fz
  have hl := hF.lt
  have hn := Nat.ne_of_lt hF.lt
  have hW := hF.set2 (a' := .int .u64 (H : Int)) (b' := .int .u64 (L : Int))
  have hwx := (hext1.of_alloc).set2 (Nat.le_refl _) (.int .u64 (H : Int)) (.int .u64 (L : Int))
  have b0 := hW.cell (i := 0) rfl
  have b1 := hW.cell (i := 1) rfl
  go_wp2_with fail
  refine Calls.mono (hd1.out _) ?_
  rintro e w2 ⟨rfl, hext2⟩
  replace hW := hW.ext hext2
  replace b0 := hW.cell (i := 0) rfl
  replace b1 := hW.cell (i := 1) rfl
  go_wp2_with fail
  refine Calls.mono (hd2.out _) ?_
  rintro e w3 ⟨rfl, hext3⟩
  go_wp2_with fail
  exact bodyPost_ret (v := .tuple #[.int .u64 (Q : Int), .int .u64 (Z : Int), .bool true]) (by simp [results, Oaig.results113, go_sem]) rfl ⟨rfl, hwx.trans (hext2.trans hext3)⟩

set_option maxHeartbeats 2000000 in
theorem top_any (w : World) (neg : Bool) (c x : Int) (m : Nat) (hm : m < 16777216) (hx1 : -300 ≤ x) (hx2 : x ≤ 300) :
    Calls Oaig.prog 82 #[.agg #[.int .u8 8, .int .u8 23], .agg #[.bool neg, .int .i8 c, .int .i16 x, .int .u64 m]] w fun e w' => e = .returned (.tuple #[.int .u64 (m * 1099511627776 : Nat), .int .i16 (x - 40)]) ∧ Ext w w' := by
  have f1 : IntKind.u64.wrap ((m : Int) * 1099511627776) = ((m * 1099511627776 : Nat) : Int) := by rw [IntKind.wrap_u64]; omega
  have f2 : (m : Int) * 1099511627776 = ((m * 1099511627776 : Nat) : Int) := by omega
  have f3 : IntKind.i16.wrap (x - 40) = x - 40 := by simp only [wrap_i16]; omega
  obtain ⟨M, hM⟩ : ∃ M, M = m * 1099511627776 := ⟨_, rfl⟩
  rw [← hM] at f1 f2 ⊢
  clear hM
  go_enter Oaig.func82, Oaig.ntmps82
  go_wp2_with fail
  go_quiet (fail)
  go_wp2
  go_ret2
  exact ⟨rfl, (((Ext.refl w).alloc _ _).alloc _ _).drewN _⟩

end Go.Proofs.Ygcoai
