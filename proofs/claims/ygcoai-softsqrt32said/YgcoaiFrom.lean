/-
  Seat gcoai. nat.FromU64 (37), law.one (30), nat.Pow5 (56).
-/
import Derived.Test.YgcoaiLift
namespace Go.Proofs.Ygcoai
open Go.RowKit

theorem limbs_lit2 (w : World) (a b : Nat) (x y : Int) (ha : a < 4294967296) (hb : b < 4294967296) (hx : x = a) (hy : y = b) :
    Limbs (w.alloc (.cells #[.int .u32 x, .int .u32 y] 22)) (.slice (some ⟨w.heap.size, 0, none⟩) 2 2) 2 (fun i => if i = 0 then a else b) := by
  subst hx hy
  refine ⟨fun i _ => by dsimp only; split <;> assumption, _, _, rfl, Nat.le_refl _, fun _ => ⟨_, 0, rfl, fun i hi => ?_⟩⟩
  rw [World.cell?_alloc_at _ _ _ _ rfl, Nat.zero_add]
  match i, hi with
  | 0, _ => rfl
  | 1, _ => rfl

theorem limbs_lit1 (w : World) (a : Nat) (x : Int) (ha : a < 4294967296) (hx : x = a) :
    Limbs (w.alloc (.cells #[.int .u32 x] 22)) (.slice (some ⟨w.heap.size, 0, none⟩) 1 1) 1 (fun _ => a) := by
  subst hx
  refine ⟨fun i _ => ha, _, _, rfl, Nat.le_refl _, fun _ => ⟨_, 0, rfl, fun i hi => ?_⟩⟩
  rw [World.cell?_alloc_at _ _ _ _ rfl, Nat.zero_add]
  match i, hi with
  | 0, _ => rfl

theorem natV_lit1 (w : World) (a : Nat) (x : Int) (ha : a < 4294967296) (h0 : a ≠ 0) (hx : x = a) :
    NatV (w.alloc (.cells #[.int .u32 x] 22)) (.slice (some ⟨w.heap.size, 0, none⟩) 1 1) a :=
  ⟨1, _, limbs_lit1 w a x ha hx, fun _ => h0, fun h => absurd h (by decide), by simp [vf]⟩

/-- nat.FromU64. -/
theorem fromU64_any (w : World) (x : Nat) (hx : x < 18446744073709551616) :
    Calls Oaig.prog 37 #[.int .u64 x] w fun e w' => ∃ v, e = .returned v ∧ Ext w w' ∧ NatV w' v x := by
  go_enter Oaig.func37, Oaig.ntmps37
  go_wp2_with fail
  have hl := limbs_lit2 w (x % 4294967296) (x / 4294967296) ((x : Int) % 4294967296) ((x : Int) / 4294967296) (by omega) (by omega) (by omega) (by omega)
  refine (trim_natV hl (by omega)).mono ?_
  rintro e w' ⟨v, rfl, rfl, hv⟩
  go_wp2
  go_ret
  refine ⟨v, rfl, (Ext.refl w).alloc _ _, ?_⟩
  have e : vf (fun i => if i = 0 then x % 4294967296 else x / 4294967296) 2 = x := by simp [vf]; omega
  rw [e] at hv
  exact hv

theorem fromU64_int (w : World) (x : Nat) (y : Int) (hx : x < 18446744073709551616) (hy : y = x) :
    Calls Oaig.prog 37 #[.int .u64 y] w fun e w' => ∃ v, e = .returned v ∧ Ext w w' ∧ NatV w' v x := by
  subst hy; exact fromU64_any w x hx

/-- law.one. -/
theorem one_any (w : World) : Calls Oaig.prog 30 #[] w fun e w' => ∃ v, e = .returned v ∧ Ext w w' ∧ NatV w' v 1 := by
  go_enter Oaig.func30, Oaig.ntmps30
  go_wp2_with fail
  refine (fromU64_int _ 1 1 (by decide) rfl).mono ?_
  rintro e w' ⟨v, rfl, hext, hv⟩
  go_wp2
  go_ret
  exact ⟨v, rfl, hext, hv⟩

theorem lt32_pow5 (m : Nat) : Lt32 (5 ^ m) (m / 10 + 1) := by
  unfold Lt32
  have h1 : 5 ^ m ≤ 8 ^ m := Nat.pow_le_pow_left (by decide) m
  have h2 : (8 : Nat) ^ m = 2 ^ (3 * m) := by rw [show (8 : Nat) = 2 ^ 3 from by decide, ← Nat.pow_mul]
  have h3 : (4294967296 : Nat) ^ (m / 10 + 1) = 2 ^ (32 * (m / 10 + 1)) := by rw [show (4294967296 : Nat) = 2 ^ 32 from by decide, ← Nat.pow_mul]
  have h4 : 2 ^ (3 * m) < 2 ^ (32 * (m / 10 + 1)) := Nat.pow_lt_pow_right (by decide) (by omega)
  omega

theorem pow5_step (k i : Nat) : 5 ^ (k / 2 ^ (i + 1)) * 5 ^ (k / 2 ^ (i + 1)) * 5 ^ (k / 2 ^ i % 2) = 5 ^ (k / 2 ^ i) := by
  rw [← Nat.pow_add, ← Nat.pow_add, Nat.pow_succ, ← Nat.div_div_eq_div_mul]
  congr 1
  omega

theorem shr_int (k i : Nat) : ((k : Int) / 2 ^ i) = ((k / 2 ^ i : Nat) : Int) := by simp
theorem bit_u16 {k i : Nat} (hk : k < 65536) : bits BinOp.and IntKind.u16 ((k : Int) / 2 ^ i) 1 = ((k / 2 ^ i % 2 : Nat) : Int) := by
  have h : k / 2 ^ i < 65536 := Nat.lt_of_le_of_lt (Nat.div_le_self _ _) hk
  rw [shr_int, show (1 : Int) = ((1 : Nat) : Int) from rfl, u16_and_nat _ _ h (by decide), nat_mask1]

theorem lt32_pow5_at {k j : Nat} (hk : k < 65536) : Lt32 (5 ^ (k / 2 ^ j)) 20000 :=
  (lt32_pow5 _).mono (Nat.le_refl _) (by have := Nat.div_le_self k (2 ^ j); omega)
theorem lt32_five : Lt32 5 20000 := Lt32.mono (y := 5) (L := 1) (show 5 < 4294967296 ^ 1 by decide) (Nat.le_refl _) (by omega)

set_option maxHeartbeats 400000 in
theorem pow5_any (w : World) (k : Nat) (hk : k < 65536) :
    Calls Oaig.prog 56 #[.int .u16 k] w fun e w' => ∃ v, e = .returned v ∧ Ext w w' ∧ NatV w' v (5 ^ k) := by
  go_enter Oaig.func56, Oaig.ntmps56
  go_wp2_with fail
  go_loopw [3, 4] (fun p i wr => ∃ j : Nat, j ≤ 16 ∧ i = .int .i64 ((j : Int) - 1) ∧ NatV wr p (5 ^ (k / 2 ^ j)) ∧ Ext w wr) (fun _ i _ => (intOf i + 1).toNat)
  case atStart =>
    refine ⟨16, by omega, rfl, ?_, (Ext.refl w).alloc _ _⟩
    rw [Nat.div_eq_of_lt (show k < 2 ^ 16 from hk)]
    exact natV_lit1 w 1 1 (by decide) (by decide) rfl
  case round =>
    obtain ⟨j, hj, rfl, hp, hext⟩ := hrel
    rcases Nat.eq_zero_or_pos j with h0 | h0
    · subst h0
      rw [Nat.pow_zero, Nat.div_one] at hp
      go_wp2
      go_ret
      exact ⟨_, rfl, hext, hp⟩
    · obtain ⟨i, rfl⟩ : ∃ i, j = i + 1 := ⟨j - 1, by omega⟩
      have hst := pow5_step k i
      have hl5 := lt32_pow5_at (j := i + 1) hk
      have hbit := bit_u16 (i := i) hk
      by_cases hz : k / 2 ^ i = 0
      · have h1 : ((k : Int) / 2 ^ i != 0) = false := by rw [shr_int, hz]; rfl
        have h2 : (bits BinOp.and IntKind.u16 ((k : Int) / 2 ^ i) 1 == 1) = false := by rw [hbit, hz]; rfl
        have h3 : k / 2 ^ (i + 1) = 0 := by rw [Nat.pow_succ, ← Nat.div_div_eq_div_mul, hz]
        have hp' : NatV wr u3 (5 ^ (k / 2 ^ i)) := by rw [hz]; rw [h3] at hp; exact hp
        clear hst hbit hz hp hl5 h3
        go_wp2
        go_roundw
        case rel => exact ⟨i, by omega, rfl, hp', hext⟩
        case measure => simp [intOf]
      · have h1 : ((k : Int) / 2 ^ i != 0) = true := by rw [shr_int, bne_iff_ne]; omega
        by_cases ho : k / 2 ^ i % 2 = 1
        · have h2 : (bits BinOp.and IntKind.u16 ((k : Int) / 2 ^ i) 1 == 1) = true := by rw [hbit, ho]; rfl
          rw [ho] at hst
          have Hst : Hid _ := hst
          clear hst hbit hz ho
          go_wp2_with fail
          refine (mul_any hp hp hl5 hl5 (by omega)).mono ?_
          rintro e w1 ⟨v, rfl, hext1, hv⟩
          go_wp2_with fail
          refine (mul_any (hv.ext ((Ext.refl _).alloc _ _)) (natV_lit1 _ 5 5 (by decide) (by decide) rfl) (hl5.mul hl5) (lt32_five.mono (Nat.le_refl _) (by omega)) (by omega)).mono ?_
          rintro e w2 ⟨v2, rfl, hext2, hv2⟩
          go_wp2
          go_roundw
          case rel => exact ⟨i, by omega, rfl, by rw [← Hst.out]; exact hv2, (hext.trans (hext1.alloc _ _)).trans hext2⟩
          case measure => simp [intOf]
        · have h2 : (bits BinOp.and IntKind.u16 ((k : Int) / 2 ^ i) 1 == 1) = false := by rw [hbit, beq_eq_false_iff_ne]; omega
          rw [show k / 2 ^ i % 2 = 0 from by omega, Nat.pow_zero, Nat.mul_one] at hst
          have Hst : Hid _ := hst
          clear hst hbit hz ho
          go_wp2_with fail
          refine (mul_any hp hp hl5 hl5 (by omega)).mono ?_
          rintro e w1 ⟨v, rfl, hext1, hv⟩
          go_wp2
          go_roundw
          case rel => exact ⟨i, by omega, rfl, by rw [← Hst.out]; exact hv, hext.trans hext1⟩
          case measure => simp [intOf]

#print axioms pow5_any
end Go.Proofs.Ygcoai
