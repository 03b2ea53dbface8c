/-
  Seat gcoai. Package wide: 128 bits in two words.
-/
import Derived.Test.YgcoaiRp
namespace Go.Proofs.Ygcoai
open Go.RowKit

/-- A U128 in a slot. -/
abbrev u128 (hi lo : Nat) : Value := .agg #[.int .u64 (hi : Nat), .int .u64 (lo : Nat)]

theorem mul64_plain (a1 a0 b1 b0 : Nat) :
    (a1 * 4294967296 + a0) * (b1 * 4294967296 + b0) / 18446744073709551616 =
      a1 * b1 + (a1 * b0 + a0 * b0 / 4294967296) / 4294967296 + (a0 * b1 + (a1 * b0 + a0 * b0 / 4294967296) % 4294967296) / 4294967296 := by
  have e : (a1*4294967296+a0)*(b1*4294967296+b0) = a1*b1*18446744073709551616 + (a1*b0+a0*b1)*4294967296 + a0*b0 := by grind
  rw [e]
  generalize a1 * b1 = p11, a1 * b0 = p10, a0 * b1 = p01, a0 * b0 = p00
  omega

theorem mul_lt32 {x y : Nat} (hx : x < 4294967296) (hy : y < 4294967296) : x * y ≤ 18446744065119617025 := by
  have := Nat.mul_le_mul (Nat.le_pred_of_lt hx) (Nat.le_pred_of_lt hy)
  simpa using this

theorem and32 (x : Nat) (hx : x < 18446744073709551616) : bits BinOp.and IntKind.u64 (x : Int) 4294967295 = ((x % 4294967296 : Nat) : Int) := by
  have h := u64_and_nat x 4294967295 hx (by decide)
  have e : (x &&& 4294967295) = x % 4294967296 := Nat.and_two_pow_sub_one_eq_mod x 32
  rw [e] at h
  exact h

set_option maxHeartbeats 2000000 in
theorem mul64_any (w : World) (a b : Nat) (ha : a < 18446744073709551616) (hb : b < 18446744073709551616) :
    Calls Oaig.prog 102 #[.int .u64 a, .int .u64 b] w fun e w' => e = .returned (u128 (a * b / 18446744073709551616) (a * b % 18446744073709551616)) ∧ Ext w w' := by
  obtain ⟨a1, ha1⟩ : ∃ a1, a1 = a / 4294967296 := ⟨_, rfl⟩
  obtain ⟨a0, ha0⟩ : ∃ a0, a0 = a % 4294967296 := ⟨_, rfl⟩
  obtain ⟨b1, hb1⟩ : ∃ b1, b1 = b / 4294967296 := ⟨_, rfl⟩
  obtain ⟨b0, hb0⟩ : ∃ b0, b0 = b % 4294967296 := ⟨_, rfl⟩
  have ea : a = a1 * 4294967296 + a0 := by omega
  have eb : b = b1 * 4294967296 + b0 := by omega
  have hp := mul64_plain a1 a0 b1 b0
  rw [← ea, ← eb] at hp
  have f1 : (a : Int) / 4294967296 = (a1 : Int) := by omega
  have f2 : bits BinOp.and IntKind.u64 (a : Int) 4294967295 = (a0 : Int) := by rw [and32 a ha, ha0]
  have f3 : (b : Int) / 4294967296 = (b1 : Int) := by omega
  have f4 : bits BinOp.and IntKind.u64 (b : Int) 4294967295 = (b0 : Int) := by rw [and32 b hb, hb0]
  have l11 := mul_lt32 (x := a1) (y := b1) (by omega) (by omega)
  have l10 := mul_lt32 (x := a1) (y := b0) (by omega) (by omega)
  have l01 := mul_lt32 (x := a0) (y := b1) (by omega) (by omega)
  have l00 := mul_lt32 (x := a0) (y := b0) (by omega) (by omega)
  obtain ⟨p11, h11⟩ : ∃ p, p = a1 * b1 := ⟨_, rfl⟩
  obtain ⟨p10, h10⟩ : ∃ p, p = a1 * b0 := ⟨_, rfl⟩
  obtain ⟨p01, h01⟩ : ∃ p, p = a0 * b1 := ⟨_, rfl⟩
  obtain ⟨p00, h00⟩ : ∃ p, p = a0 * b0 := ⟨_, rfl⟩
  have i11 : ((a1 : Int) * (b1 : Int)) = (p11 : Int) := by rw [h11]; simp
  have i10 : ((a1 : Int) * (b0 : Int)) = (p10 : Int) := by rw [h10]; simp
  have i01 : ((a0 : Int) * (b1 : Int)) = (p01 : Int) := by rw [h01]; simp
  have i00 : ((a0 : Int) * (b0 : Int)) = (p00 : Int) := by rw [h00]; simp
  rw [← h11, ← h10, ← h01, ← h00] at hp
  rw [← h11] at l11
  rw [← h10] at l10
  rw [← h01] at l01
  rw [← h00] at l00
  obtain ⟨m, hm⟩ : ∃ m, m = p10 + p00 / 4294967296 := ⟨_, rfl⟩
  obtain ⟨ml, hml⟩ : ∃ ml, ml = m % 4294967296 := ⟨_, rfl⟩
  obtain ⟨m2, hm2⟩ : ∃ m2, m2 = p01 + ml := ⟨_, rfl⟩
  obtain ⟨hi, hhi⟩ : ∃ hi, hi = a * b / 18446744073709551616 := ⟨_, rfl⟩
  obtain ⟨lo, hlo⟩ : ∃ lo, lo = a * b % 18446744073709551616 := ⟨_, rfl⟩
  have hhb : hi < 18446744073709551616 := by
    rw [hhi]; apply Nat.div_lt_of_lt_mul
    exact Nat.lt_of_lt_of_le (Nat.mul_lt_mul_of_lt_of_le ha (Nat.le_of_lt hb) (by omega)) (Nat.le_refl _)
  rw [← hm, ← hml, ← hm2, ← hhi] at hp
  have j1 : IntKind.u64.wrap ((a1 : Int) * (b0 : Int)) = (p10 : Int) := by rw [i10, IntKind.wrap_u64]; omega
  have j2 : IntKind.u64.wrap ((a0 : Int) * (b0 : Int)) = (p00 : Int) := by rw [i00, IntKind.wrap_u64]; omega
  have j3 : IntKind.u64.wrap ((a0 : Int) * (b1 : Int)) = (p01 : Int) := by rw [i01, IntKind.wrap_u64]; omega
  have j4 : IntKind.u64.wrap ((a1 : Int) * (b1 : Int)) = (p11 : Int) := by rw [i11, IntKind.wrap_u64]; omega
  have j5 : IntKind.u64.wrap ((p10 : Int) + (p00 : Int) / 4294967296) = (m : Int) := by rw [IntKind.wrap_u64]; omega
  have j6 : bits BinOp.and IntKind.u64 (m : Int) 4294967295 = (ml : Int) := by rw [and32 m (by omega), hml]
  have j7 : IntKind.u64.wrap ((p01 : Int) + (ml : Int)) = (m2 : Int) := by rw [IntKind.wrap_u64]; omega
  have j8 : IntKind.u64.wrap (IntKind.u64.wrap ((p11 : Int) + (m : Int) / 4294967296) + (m2 : Int) / 4294967296) = (hi : Int) := by
    simp only [IntKind.wrap_u64]; omega
  have j9 : IntKind.u64.wrap ((a : Int) * (b : Int)) = (lo : Int) := by
    rw [IntKind.wrap_u64, hlo]; simp
  rw [← hhi, ← hlo]
  clear ha1 ha0 hb1 hb0 ea eb hp hhi hlo hm hml hm2 i11 i10 i01 i00 h11 h10 h01 h00 l11 l10 l01 l00 hhb ha hb
  go_enter Oaig.func102, Oaig.ntmps102
  go_wp2_with fail
  have hF := Blk.new w #[.int .u64 (hi : Int), .int .u64 (lo : Int)] 62
  exact bodyPost_ret (v := u128 hi lo) (by simp [results, Oaig.results102, go_sem, hF.cell (i := 0) rfl, hF.cell (i := 1) rfl]) rfl ⟨rfl, (Ext.refl w).alloc _ _⟩

theorem shl_plain (hi lo k : Nat) (hlo : lo < 18446744073709551616) (hk : k ≤ 64) :
    (hi * 2 ^ k % 18446744073709551616) ||| lo / 2 ^ (64 - k) = (hi * 18446744073709551616 + lo) * 2 ^ k / 18446744073709551616 % 18446744073709551616 := by
  have e : 18446744073709551616 = 2 ^ k * 2 ^ (64 - k) := by rw [← Nat.pow_add, show k + (64 - k) = 64 by omega]
  have hP : 0 < 2 ^ k := Nat.two_pow_pos k
  have hQ : 0 < 2 ^ (64 - k) := Nat.two_pow_pos _
  have hq : lo / 2 ^ (64 - k) < 2 ^ k := by
    apply Nat.div_lt_of_lt_mul; rw [Nat.mul_comm, ← e]; exact hlo
  have hd : hi * 2 ^ k % 18446744073709551616 = 2 ^ k * (hi % 2 ^ (64 - k)) := by
    rw [e, Nat.mul_comm hi, Nat.mul_mod_mul_left]
  rw [nat_join k _ _ (by rw [hd, Nat.mul_mod_right]) hq, hd]
  have h1 : (hi * 18446744073709551616 + lo) * 2 ^ k / 18446744073709551616 = hi * 2 ^ k + lo / 2 ^ (64 - k) := by
    have : (hi * 18446744073709551616 + lo) * 2 ^ k = lo * 2 ^ k + 18446744073709551616 * (hi * 2 ^ k) := by grind
    rw [this, Nat.add_mul_div_left _ _ (by decide), Nat.add_comm]
    congr 1
    conv => lhs; rw [e, Nat.mul_comm lo]
    rw [Nat.mul_div_mul_left _ _ hP]
  rw [h1]
  generalize 2 ^ k = P at *
  generalize 2 ^ (64 - k) = Q at *
  generalize lo / Q = q at *
  have h2 : hi * P + q = (P * (hi % Q) + q) + (P * Q) * (hi / Q) := by
    have h3 := Nat.div_add_mod hi Q
    conv => lhs; rw [← h3]
    generalize hi / Q = u
    generalize hi % Q = v
    grind
  have h4 : hi % Q < Q := Nat.mod_lt _ hQ
  have h5 : P * (hi % Q + 1) ≤ P * Q := Nat.mul_le_mul_left P h4
  rw [Nat.mul_add, Nat.mul_one, ← e] at h5
  have h6 : P * (hi % Q) + q < 18446744073709551616 := by omega
  rw [h2, ← e, Nat.add_mul_mod_self_left]
  exact (Nat.mod_eq_of_lt h6).symm

set_option maxHeartbeats 2000000 in
theorem shl_lo (w : World) (hi lo k : Nat) (_hhi : hi < 18446744073709551616) (hlo : lo < 18446744073709551616) (hk : k < 64) :
    Calls Oaig.prog 123 #[u128 hi lo, .int .u8 k] w fun e w' => e = .returned (u128 ((hi * 18446744073709551616 + lo) * 2 ^ k / 18446744073709551616 % 18446744073709551616) (lo * 2 ^ k % 18446744073709551616)) ∧ Ext w w' := by
  obtain ⟨H, hH⟩ : ∃ H, H = (hi * 18446744073709551616 + lo) * 2 ^ k / 18446744073709551616 % 18446744073709551616 := ⟨_, rfl⟩
  obtain ⟨L, hL⟩ : ∃ L, L = lo * 2 ^ k % 18446744073709551616 := ⟨_, rfl⟩
  rw [← hH, ← hL]
  have hw1 : IntKind.u64.wrap ((hi : Int) * 2 ^ k) = ((hi * 2 ^ k % 18446744073709551616 : Nat) : Int) := by rw [IntKind.wrap_u64]; simp
  have hw2 : IntKind.u64.wrap ((lo : Int) * 2 ^ k) = (L : Int) := by rw [IntKind.wrap_u64, hL]; simp
  have hw3 : ((lo : Int) / 2 ^ (64 - k)) = ((lo / 2 ^ (64 - k) : Nat) : Int) := by simp
  have hor : bits BinOp.or IntKind.u64 (IntKind.u64.wrap ((hi : Int) * 2 ^ k)) ((lo : Int) / 2 ^ (64 - k)) = (H : Int) := by
    rw [hw1, hw3, u64_or_nat _ _ (Nat.mod_lt _ (by decide)) (Nat.lt_of_le_of_lt (Nat.div_le_self _ _) hlo), shl_plain hi lo k hlo (by omega), hH]
  clear hw1 hw3 hH hL
  go_enter Oaig.func123, Oaig.ntmps123
  go_wp2_with fail
  have hF := Blk.new' (w := w.alloc (.cells #[.int .u64 (hi : Int), .int .u64 (lo : Int)] 62)) #[.int .u64 (H : Int), .int .u64 (L : Int)] 62 (B := w.heap.size + 1) (by simp)
  exact bodyPost_ret (v := u128 H L) (by simp [results, Oaig.results123, go_sem, hF.cell (i := 0) rfl, hF.cell (i := 1) rfl]) rfl ⟨rfl, ((Ext.refl w).alloc _ _).alloc _ _⟩

set_option maxHeartbeats 2000000 in
theorem shl_hi (w : World) (hi lo k : Nat) (_hhi : hi < 18446744073709551616) (_hlo : lo < 18446744073709551616) (hk : 64 ≤ k) (hk2 : k < 128) :
    Calls Oaig.prog 123 #[u128 hi lo, .int .u8 k] w fun e w' => e = .returned (u128 (lo * 2 ^ (k - 64) % 18446744073709551616) 0) ∧ Ext w w' := by
  obtain ⟨L, hL⟩ : ∃ L, L = lo * 2 ^ (k - 64) % 18446744073709551616 := ⟨_, rfl⟩
  rw [← hL]
  have hw2 : IntKind.u64.wrap ((lo : Int) * 2 ^ (k - 64)) = (L : Int) := by rw [IntKind.wrap_u64, hL]; simp
  clear hL
  go_enter Oaig.func123, Oaig.ntmps123
  go_wp2_with fail
  have hF := Blk.new' (w := w.alloc (.cells #[.int .u64 (hi : Int), .int .u64 (lo : Int)] 62)) #[.int .u64 (L : Int), .int .u64 0] 62 (B := w.heap.size + 1) (by simp)
  exact bodyPost_ret (v := u128 L 0) (by simp [results, Oaig.results123, go_sem, hF.cell (i := 0) rfl, hF.cell (i := 1) rfl]) rfl ⟨rfl, ((Ext.refl w).alloc _ _).alloc _ _⟩

end Go.Proofs.Ygcoai
