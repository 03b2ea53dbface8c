/-
  Seat gcoai. soft.jam (112), soft.top (82).
-/
import Derived.Test.YgcoaiWide
import Derived.Test.YgcoaiRoundE
namespace Go.Proofs.Ygcoai
open Go.RowKit

theorem clz_zero (w : World) : Calls Oaig.prog 121 #[.int .u64 0] w fun e w' => e = .returned (.int .u8 64) ∧ w = w' := by
  go_enter Oaig.func121, Oaig.ntmps121
  go_wp2_with fail
  go_ret
  exact ⟨rfl, rfl⟩

set_option maxHeartbeats 2000000 in
theorem jam_lo (w : World) (lo : Nat) (exp : Int) (h0 : lo ≠ 0) (hlo : lo < 18446744073709551616) (hx1 : -2000 ≤ exp) (hx2 : exp ≤ 2000) :
    Calls Oaig.prog 112 #[u128 0 lo, .int .i16 exp] w fun e w' => e = .returned (.tuple #[.int .u64 (lo * 2 ^ (64 - bl lo) : Nat), .int .i16 (exp - 64 + bl lo)]) ∧ Ext w w' := by
  have hb1 := bl_pos h0
  have hb2 : bl lo ≤ 64 := bl_le_of_lt (k := 64) hlo
  have e0 : ((0 : Nat) : Int) = 0 := rfl
  go_enter Oaig.func112, Oaig.ntmps112
  go_wp2_with fail
  refine (clz_zero _).mono ?_
  rintro e w' ⟨rfl, rfl⟩
  go_wp2_with fail
  refine (clz_any _ lo h0 hlo).mono ?_
  rintro e w' ⟨rfl, rfl⟩
  obtain ⟨ld, hld⟩ : ∃ ld, ld = 64 - bl lo := ⟨_, rfl⟩
  obtain ⟨S, hS⟩ : ∃ S, S = lo * 2 ^ ld := ⟨_, rfl⟩
  have hfin : Hid (Value.tuple #[.int .u64 (lo * 2 ^ (64 - bl lo) : Nat), .int .i16 (exp - 64 + bl lo)] = Value.tuple #[.int .u64 (S : Int), .int .i16 (exp - (ld : Int))]) := by
    show Value.tuple _ = Value.tuple _
    rw [hS, hld, show exp - 64 + (bl lo : Int) = exp - ((64 - bl lo : Nat) : Int) by omega]
  rw [← hld]
  have hld1 : ld ≤ 63 := by omega
  have hS2 : Hid (lo * 2 ^ (64 + ld - 64) % 18446744073709551616 = S) := by
    obtain ⟨_, s2⟩ := sig_up h0 hlo
    rw [← hld, ← hS] at s2
    show lo * 2 ^ (64 + ld - 64) % 18446744073709551616 = S
    rw [show 64 + ld - 64 = ld by omega, ← hS]; omega
  clear hld hS
  go_wp2_with fail
  have hk : (64 + (ld : Int)) = ((64 + ld : Nat) : Int) := by simp
  rw [hk]
  have hA := shl_hi (w.alloc (Obj.cells #[Value.int IntKind.u64 0, Value.int IntKind.u64 ↑lo] 62)) 0 lo (64 + ld) (by decide) hlo (by omega) (by omega)
  rw [hS2.out] at hA
  refine hA.mono ?_
  rintro e w1 ⟨rfl, hext1⟩
  clear hk hA
  have hF : Blk w1 w.heap.size #[.int .u64 0, .int .u64 lo] := (Blk.new w _ 62).ext hext1
  have a0 := hF.cell (i := 0) rfl
  have a1 := hF.cell (i := 1) rfl
  have hz := hF.fz
  have hw1 := hext1.of_alloc
  clear hext1
  go_wp2_with fail
  go_ret2
  refine ⟨?_, (hw1.setCell (Nat.le_refl _) _).setCell (Nat.le_refl _) _⟩
  rw [hfin.out, show exp + 64 - (64 + (ld : Int)) = exp - (ld : Int) by omega]; rfl

set_option maxHeartbeats 2000000 in
theorem jam_hi (w : World) (hi lo : Nat) (exp : Int) (h0 : hi ≠ 0) (hhi : hi < 18446744073709551616) (hlo : lo < 18446744073709551616) (hx1 : -2000 ≤ exp) (hx2 : exp ≤ 2000)
    (H L : Nat) (hH : Hid (H = (hi * 18446744073709551616 + lo) * 2 ^ (64 - bl hi) / 18446744073709551616 % 18446744073709551616)) (hL : Hid (L = lo * 2 ^ (64 - bl hi) % 18446744073709551616)) :
    Calls Oaig.prog 112 #[u128 hi lo, .int .i16 exp] w fun e w' => e = .returned (.tuple #[.int .u64 (H ||| (if L = 0 then 0 else 1) : Nat), .int .i16 (exp + bl hi)]) ∧ Ext w w' := by
  have hb1 := bl_pos h0
  have hb2 : bl hi ≤ 64 := bl_le_of_lt (k := 64) hhi
  have hne : ((hi : Int) == 0) = false := by rw [beq_eq_false_iff_ne]; omega
  have hHl : H < 18446744073709551616 := by rw [hH.out]; exact Nat.mod_lt _ (by decide)
  go_enter Oaig.func112, Oaig.ntmps112
  go_wp2_with fail
  refine (clz_any _ hi h0 hhi).mono ?_
  rintro e w' ⟨rfl, rfl⟩
  obtain ⟨ld, hld⟩ : ∃ ld, ld = 64 - bl hi := ⟨_, rfl⟩
  have hfin : Hid (exp + (bl hi : Int) = exp + 64 - (ld : Int)) := by show exp + (bl hi : Int) = exp + 64 - (ld : Int); omega
  have hld1 : ld ≤ 63 := by omega
  have hA := shl_lo (w.alloc (Obj.cells #[Value.int IntKind.u64 ↑hi, Value.int IntKind.u64 ↑lo] 62)) hi lo ld hhi hlo (by omega)
  rw [hld, ← hH.out, ← hL.out, ← hld] at hA
  rw [← hld]
  have hA : Hid _ := hA
  clear hld
  go_wp2_with fail
  refine Calls.mono hA.out ?_
  rintro e w1 ⟨rfl, hext1⟩
  clear hA
  have hF : Blk w1 w.heap.size #[.int .u64 hi, .int .u64 lo] := (Blk.new w _ 62).ext hext1
  have a0 := hF.cell (i := 0) rfl
  have a1 := hF.cell (i := 1) rfl
  have hz := hF.fz
  have hw1 := hext1.of_alloc
  clear hext1
  by_cases hl0 : L = 0
  · have hval : Hid ((H ||| (if L = 0 then 0 else 1)) = H) := by show (H ||| (if L = 0 then 0 else 1)) = H; rw [if_pos hl0]; simp
    clear hL
    subst hl0
    go_wp2_with fail
    go_ret2
    refine ⟨?_, (hw1.setCell (Nat.le_refl _) _).setCell (Nat.le_refl _) _⟩
    first | (rw [hfin.out, hval.out]; rfl) | (rw [hfin.out]; rfl)
  · have g1 : ((L : Int) == 0) = false := by rw [beq_eq_false_iff_ne]; omega
    have g2 : ((L : Int) != 0) = true := by rw [bne_iff_ne]; omega
    have g3 : ¬ ((L : Int) = 0) := by omega
    have hval : Hid ((H ||| (if L = 0 then 0 else 1)) = H ||| 1) := by show (H ||| (if L = 0 then 0 else 1)) = H ||| 1; rw [if_neg hl0]
    obtain ⟨T, hT⟩ : ∃ T, T = H ||| 1 := ⟨_, rfl⟩
    have hor : bits BinOp.or IntKind.u64 (H : Int) 1 = (T : Int) := by rw [hT]; exact u64_or_nat H 1 hHl (by decide)
    have hT : Hid (T = H ||| 1) := hT
    go_wp2_with fail
    go_ret2
    refine ⟨?_, ((hw1.setCell (Nat.le_refl _) _).setCell (Nat.le_refl _) _).setCell (Nat.le_refl _) _⟩
    first | (rw [hfin.out, hval.out, ← hT.out]; rfl) | (rw [hfin.out, ← hT.out]; rfl) | (rw [hfin.out]; rfl)

/-- The 64 leading bits, the lowest also set for any below. -/
def jamS (V : Nat) : Nat := V * 2 ^ (128 - bl V) / 18446744073709551616 ||| (if V * 2 ^ (128 - bl V) % 18446744073709551616 = 0 then 0 else 1)

theorem bl_hi {hi lo : Nat} (h0 : hi ≠ 0) (hlo : lo < 18446744073709551616) : bl (hi * 18446744073709551616 + lo) = 64 + bl hi := by
  have h1 := bl_lt hi
  have h2 := bl_le h0
  have h3 := bl_pos h0
  have e64 : (2 : Nat) ^ 64 = 18446744073709551616 := by decide
  apply bl_unique (by omega)
  · rw [show 64 + bl hi - 1 = (bl hi - 1) + 64 by omega, Nat.pow_add, e64]
    have : 2 ^ (bl hi - 1) * 18446744073709551616 ≤ hi * 18446744073709551616 := Nat.mul_le_mul_right _ h2
    exact Nat.le_trans this (Nat.le_add_right _ _)
  · rw [Nat.add_comm 64, Nat.pow_add, e64]
    have : (hi + 1) * 18446744073709551616 ≤ 2 ^ bl hi * 18446744073709551616 := Nat.mul_le_mul_right _ h1
    rw [Nat.add_mul] at this
    exact Nat.lt_of_lt_of_le (Nat.add_lt_add_left hlo _) (by simpa using this)

theorem jam_any (w : World) (hi lo : Nat) (exp : Int) (V : Nat) (hV : V = hi * 18446744073709551616 + lo) (h0 : V ≠ 0) (hhi : hi < 18446744073709551616) (hlo : lo < 18446744073709551616) (hx1 : -2000 ≤ exp) (hx2 : exp ≤ 2000) :
    Calls Oaig.prog 112 #[u128 hi lo, .int .i16 exp] w fun e w' => e = .returned (.tuple #[.int .u64 (jamS V : Nat), .int .i16 (exp - 64 + bl V)]) ∧ Ext w w' := by
  by_cases h : hi = 0
  · subst h
    have hV' : V = lo := by omega
    subst hV'
    have hb2 : bl V ≤ 64 := bl_le_of_lt (k := 64) hlo
    have e : jamS V = V * 2 ^ (64 - bl V) := by
      unfold jamS
      rw [show 128 - bl V = (64 - bl V) + 64 by omega, Nat.pow_add, ← Nat.mul_assoc, show (2:Nat) ^ 64 = 18446744073709551616 from rfl, Nat.mul_div_cancel _ (by decide), Nat.mul_mod_left, if_pos rfl]
      simp
    rw [e]
    exact jam_lo w V exp h0 hlo hx1 hx2
  · have hb := bl_hi h hlo
    rw [← hV] at hb
    have hb2 : bl hi ≤ 64 := bl_le_of_lt (k := 64) hhi
    have hb1 := bl_pos h
    have e1 : (hi * 18446744073709551616 + lo) * 2 ^ (64 - bl hi) / 18446744073709551616 % 18446744073709551616 = V * 2 ^ (128 - bl V) / 18446744073709551616 := by
      rw [← hV, hb, show 128 - (64 + bl hi) = 64 - bl hi by omega]
      apply Nat.mod_eq_of_lt
      apply Nat.div_lt_of_lt_mul
      have h1 := bl_lt V
      have h2 : V * 2 ^ (64 - bl hi) < 2 ^ bl V * 2 ^ (64 - bl hi) := Nat.mul_lt_mul_of_pos_right h1 (Nat.two_pow_pos _)
      rw [← Nat.pow_add, hb, show 64 + bl hi + (64 - bl hi) = 128 by omega] at h2
      exact h2
    have e2 : lo * 2 ^ (64 - bl hi) % 18446744073709551616 = V * 2 ^ (128 - bl V) % 18446744073709551616 := by
      rw [hb, show 128 - (64 + bl hi) = 64 - bl hi by omega, hV, Nat.add_mul, Nat.mul_assoc, Nat.mul_comm 18446744073709551616, ← Nat.mul_assoc, Nat.mul_add_mod_self_right]
    have := jam_hi w hi lo exp h hhi hlo hx1 hx2 _ _ rfl rfl
    rw [e1, e2] at this
    rw [show exp - 64 + (bl V : Int) = exp + bl hi by omega]
    exact this

end Go.Proofs.Ygcoai
