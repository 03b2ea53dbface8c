/-
  Seat gcoai. ieee.width (159), wide.Clz (121).
-/
import Derived.Test.YgcoaiSmear
namespace Go.Proofs.Ygcoai
open Go.RowKit

theorem orI (x c : Nat) (hx : x < 18446744073709551616) : bits BinOp.or IntKind.u64 (x : Int) ((x : Int) / (c : Int)) = ((x ||| x / c : Nat) : Int) := by
  have e : ((x : Int) / (c : Int)) = ((x / c : Nat) : Int) := by simp
  rw [e, u64_or_nat _ _ hx (Nat.lt_of_le_of_lt (Nat.div_le_self _ _) hx)]

theorem andI (x c m : Nat) (hx : x < 18446744073709551616) (hm : m < 18446744073709551616) : bits BinOp.and IntKind.u64 ((x : Int) / (c : Int)) (m : Int) = ((x / c &&& m : Nat) : Int) := by
  have e : ((x : Int) / (c : Int)) = ((x / c : Nat) : Int) := by simp
  rw [e, u64_and_nat _ _ (Nat.lt_of_le_of_lt (Nat.div_le_self _ _) hx) hm]

theorem and_le {a m : Nat} : a &&& m ≤ m := Nat.and_le_right
theorem pc1_lt {y : Nat} (hy : y < 18446744073709551616) : pc1 y < 18446744073709551616 := by unfold pc1; omega
theorem pc2_lt (m : Nat) : pc2 m ≤ 7378697629483820646 := by
  unfold pc2
  have h1 : m &&& 3689348814741910323 ≤ 3689348814741910323 := Nat.and_le_right
  have h2 : m / 4 &&& 3689348814741910323 ≤ 3689348814741910323 := Nat.and_le_right
  omega
theorem pc3_lt (m : Nat) : pc3 m ≤ 1085102592571150095 := Nat.and_le_right
theorem pc1I {y : Nat} (hy : y < 18446744073709551616) : IntKind.u64.wrap ((y : Int) - bits BinOp.and IntKind.u64 ((y : Int) / 2) 6148914691236517205) = ((pc1 y : Nat) : Int) := by
  have h : bits BinOp.and IntKind.u64 ((y : Int) / 2) 6148914691236517205 = ((y / 2 &&& 6148914691236517205 : Nat) : Int) := andI y 2 6148914691236517205 hy (by decide)
  rw [h, IntKind.wrap_u64]
  have h2 : y / 2 &&& 6148914691236517205 ≤ y / 2 := Nat.and_le_left
  unfold pc1
  generalize y / 2 &&& 6148914691236517205 = t at h2
  omega
theorem pc2I {m : Nat} (hm : m < 18446744073709551616) : IntKind.u64.wrap (bits BinOp.and IntKind.u64 (m : Int) 3689348814741910323 + bits BinOp.and IntKind.u64 ((m : Int) / 4) 3689348814741910323) = ((pc2 m : Nat) : Int) := by
  have h : bits BinOp.and IntKind.u64 ((m : Int) / 4) 3689348814741910323 = ((m / 4 &&& 3689348814741910323 : Nat) : Int) := andI m 4 3689348814741910323 hm (by decide)
  have h' : bits BinOp.and IntKind.u64 (m : Int) 3689348814741910323 = ((m &&& 3689348814741910323 : Nat) : Int) := u64_and_nat m 3689348814741910323 hm (by decide)
  have hl := pc2_lt m
  rw [h, h', IntKind.wrap_u64]
  unfold pc2 at *
  omega
theorem pc3I {m : Nat} (hm : m ≤ 7378697629483820646) : bits BinOp.and IntKind.u64 ((m : Int) + (m : Int) / 16) 1085102592571150095 = ((pc3 m : Nat) : Int) := by
  have e : ((m : Int) + (m : Int) / 16) = ((m + m / 16 : Nat) : Int) := by omega
  rw [e]
  exact u64_and_nat (m + m / 16) 1085102592571150095 (by omega) (by decide)
theorem pc4I (m : Nat) : IntKind.u64.wrap ((m : Int) * 72340172838076673) / 72057594037927936 = ((pc4 m : Nat) : Int) := by
  rw [IntKind.wrap_u64]; unfold pc4; omega

set_option maxHeartbeats 1000000 in
theorem width_any (w : World) (x : Nat) (h0 : x ≠ 0) (hx : x < 18446744073709551616) : Calls Oaig.prog 159 #[.int .u64 x] w fun e w' => e = .returned (.int .u8 (bl x)) ∧ w = w' := by
  obtain ⟨y1, e1⟩ : ∃ y1, y1 = x ||| x / 2 := ⟨_, rfl⟩
  obtain ⟨y2, e2⟩ : ∃ y2, y2 = y1 ||| y1 / 4 := ⟨_, rfl⟩
  obtain ⟨y3, e3⟩ : ∃ y3, y3 = y2 ||| y2 / 16 := ⟨_, rfl⟩
  obtain ⟨y4, e4⟩ : ∃ y4, y4 = y3 ||| y3 / 256 := ⟨_, rfl⟩
  obtain ⟨y5, e5⟩ : ∃ y5, y5 = y4 ||| y4 / 65536 := ⟨_, rfl⟩
  obtain ⟨y6, e6⟩ : ∃ y6, y6 = y5 ||| y5 / 4294967296 := ⟨_, rfl⟩
  have hd : ∀ a c : Nat, a < 18446744073709551616 → a / c < 18446744073709551616 := fun a c h => Nat.lt_of_le_of_lt (Nat.div_le_self _ _) h
  have l1 : y1 < 18446744073709551616 := by rw [e1]; exact or_lt64 hx (hd _ _ hx)
  have l2 : y2 < 18446744073709551616 := by rw [e2]; exact or_lt64 l1 (hd _ _ l1)
  have l3 : y3 < 18446744073709551616 := by rw [e3]; exact or_lt64 l2 (hd _ _ l2)
  have l4 : y4 < 18446744073709551616 := by rw [e4]; exact or_lt64 l3 (hd _ _ l3)
  have l5 : y5 < 18446744073709551616 := by rw [e5]; exact or_lt64 l4 (hd _ _ l4)
  have hs := smear h0 hx e1 e2 e3 e4 e5 e6
  have l6 : y6 < 18446744073709551616 := by rw [e6]; exact or_lt64 l5 (hd _ _ l5)
  have f1 : bits BinOp.or IntKind.u64 (x : Int) ((x : Int) / 2) = (y1 : Int) := by rw [e1]; exact orI x 2 hx
  have f2 : bits BinOp.or IntKind.u64 (y1 : Int) ((y1 : Int) / 4) = (y2 : Int) := by rw [e2]; exact orI y1 4 l1
  have f3 : bits BinOp.or IntKind.u64 (y2 : Int) ((y2 : Int) / 16) = (y3 : Int) := by rw [e3]; exact orI y2 16 l2
  have f4 : bits BinOp.or IntKind.u64 (y3 : Int) ((y3 : Int) / 256) = (y4 : Int) := by rw [e4]; exact orI y3 256 l3
  have f5 : bits BinOp.or IntKind.u64 (y4 : Int) ((y4 : Int) / 65536) = (y5 : Int) := by rw [e5]; exact orI y4 65536 l4
  have f6 : bits BinOp.or IntKind.u64 (y5 : Int) ((y5 : Int) / 4294967296) = (y6 : Int) := by rw [e6]; exact orI y5 4294967296 l5
  have hpc : Hid (pc4 (pc3 (pc2 (pc1 y6))) = bl x) := by
    show pc4 (pc3 (pc2 (pc1 y6))) = bl x
    rw [hs]; exact pc_bl hx
  clear e1 e2 e3 e4 e5 e6 hs hd h0
  have q1 := pc1I l6
  have b1 := pc1_lt l6
  have q2 := pc2I b1
  have b2 := pc2_lt (pc1 y6)
  have q3 := pc3I b2
  have b3 := pc3_lt (pc2 (pc1 y6))
  have q4 := pc4I (pc3 (pc2 (pc1 y6)))
  have b4 : pc4 (pc3 (pc2 (pc1 y6))) ≤ 64 := by rw [hpc.out]; exact bl_le_of_lt (k := 64) hx
  go_enter Oaig.func159, Oaig.ntmps159
  go_wp2
  go_ret
  exact ⟨ret_int (by have h := hpc.out; omega), rfl⟩

#print axioms width_any

/-- The place in the table. -/
def czi (m : Nat) : Nat := (m ^^^ m / 2) * 285870213051386505 % 18446744073709551616 / 288230376151711744

theorem xorI {m : Nat} (hm : m < 18446744073709551616) : bits BinOp.xor IntKind.u64 (m : Int) ((m : Int) / 2) = ((m ^^^ m / 2 : Nat) : Int) := by
  have e : ((m : Int) / 2) = ((m / 2 : Nat) : Int) := by omega
  rw [e, u64_xor_nat _ _ hm (by omega)]
theorem cziI (m : Nat) : IntKind.u64.wrap (((m ^^^ m / 2 : Nat) : Int) * 285870213051386505) / 288230376151711744 = ((czi m : Nat) : Int) := by
  rw [IntKind.wrap_u64]; unfold czi; omega

def cztab : Array UInt8 := #[63, 62, 15, 61, 6, 14, 35, 60, 2, 5, 13, 21, 25, 34, 46, 59, 1, 8, 4, 27, 10, 12, 20, 41, 18, 24, 30, 33, 39, 45, 51, 58, 0, 16, 7, 36, 3, 22, 26, 47, 9, 28, 11, 42, 19, 31, 40, 52, 17, 37, 23, 48, 29, 43, 32, 53, 38, 49, 44, 54, 50, 55, 56, 57]
def czAll : Nat → Bool
  | 0 => true
  | k + 1 => decide ((cztab.getD (czi (2 ^ (k + 1) - 1)) 0).toNat = 64 - (k + 1)) && czAll k
theorem czAll_true : czAll 64 = true := by decide +kernel
theorem cz_at {n : Nat} (h : czAll n = true) : ∀ k, k < n → (cztab.getD (czi (2 ^ (k + 1) - 1)) 0).toNat = 64 - (k + 1) := by
  induction n with
  | zero => intro k hk; omega
  | succ m ih =>
    intro k hk
    rw [czAll, Bool.and_eq_true, decide_eq_true_eq] at h
    rcases Nat.eq_or_lt_of_le (Nat.le_of_lt_succ hk) with e | e
    · rw [e]; exact h.1
    · exact ih h.2 k e
theorem cz_tab {k t : Nat} (h1 : 1 ≤ k) (h2 : k ≤ 64) (ht : t = czi (2 ^ k - 1)) (h : t < (ByteArray.mk #[63, 62, 15, 61, 6, 14, 35, 60, 2, 5, 13, 21, 25, 34, 46, 59, 1, 8, 4, 27, 10, 12, 20, 41, 18, 24, 30, 33, 39, 45, 51, 58, 0, 16, 7, 36, 3, 22, 26, 47, 9, 28, 11, 42, 19, 31, 40, 52, 17, 37, 23, 48, 29, 43, 32, 53, 38, 49, 44, 54, 50, 55, 56, 57]).size) : ((ByteArray.mk #[63, 62, 15, 61, 6, 14, 35, 60, 2, 5, 13, 21, 25, 34, 46, 59, 1, 8, 4, 27, 10, 12, 20, 41, 18, 24, 30, 33, 39, 45, 51, 58, 0, 16, 7, 36, 3, 22, 26, 47, 9, 28, 11, 42, 19, 31, 40, 52, 17, 37, 23, 48, 29, 43, 32, 53, 38, 49, 44, 54, 50, 55, 56, 57])[t]'h).toNat = 64 - k := by
  obtain ⟨j, rfl⟩ : ∃ j, k = j + 1 := ⟨k - 1, by omega⟩
  have hk := cz_at czAll_true j (by omega)
  rw [← ht] at hk
  have hs : t < cztab.size := h
  rw [← hk, Array.getD, dif_pos hs]
  rfl

set_option maxHeartbeats 1000000 in
theorem clz_any (w : World) (x : Nat) (h0 : x ≠ 0) (hx : x < 18446744073709551616) : Calls Oaig.prog 121 #[.int .u64 x] w fun e w' => e = .returned (.int .u8 (64 - bl x : Nat)) ∧ w = w' := by
  obtain ⟨y1, e1⟩ : ∃ y1, y1 = x ||| x / 2 := ⟨_, rfl⟩
  obtain ⟨y2, e2⟩ : ∃ y2, y2 = y1 ||| y1 / 4 := ⟨_, rfl⟩
  obtain ⟨y3, e3⟩ : ∃ y3, y3 = y2 ||| y2 / 16 := ⟨_, rfl⟩
  obtain ⟨y4, e4⟩ : ∃ y4, y4 = y3 ||| y3 / 256 := ⟨_, rfl⟩
  obtain ⟨y5, e5⟩ : ∃ y5, y5 = y4 ||| y4 / 65536 := ⟨_, rfl⟩
  obtain ⟨y6, e6⟩ : ∃ y6, y6 = y5 ||| y5 / 4294967296 := ⟨_, rfl⟩
  have hd : ∀ a c : Nat, a < 18446744073709551616 → a / c < 18446744073709551616 := fun a c h => Nat.lt_of_le_of_lt (Nat.div_le_self _ _) h
  have l1 : y1 < 18446744073709551616 := by rw [e1]; exact or_lt64 hx (hd _ _ hx)
  have l2 : y2 < 18446744073709551616 := by rw [e2]; exact or_lt64 l1 (hd _ _ l1)
  have l3 : y3 < 18446744073709551616 := by rw [e3]; exact or_lt64 l2 (hd _ _ l2)
  have l4 : y4 < 18446744073709551616 := by rw [e4]; exact or_lt64 l3 (hd _ _ l3)
  have l5 : y5 < 18446744073709551616 := by rw [e5]; exact or_lt64 l4 (hd _ _ l4)
  have hs := smear h0 hx e1 e2 e3 e4 e5 e6
  have l6 : y6 < 18446744073709551616 := by rw [e6]; exact or_lt64 l5 (hd _ _ l5)
  have f1 : bits BinOp.or IntKind.u64 (x : Int) ((x : Int) / 2) = (y1 : Int) := by rw [e1]; exact orI x 2 hx
  have f2 : bits BinOp.or IntKind.u64 (y1 : Int) ((y1 : Int) / 4) = (y2 : Int) := by rw [e2]; exact orI y1 4 l1
  have f3 : bits BinOp.or IntKind.u64 (y2 : Int) ((y2 : Int) / 16) = (y3 : Int) := by rw [e3]; exact orI y2 16 l2
  have f4 : bits BinOp.or IntKind.u64 (y3 : Int) ((y3 : Int) / 256) = (y4 : Int) := by rw [e4]; exact orI y3 256 l3
  have f5 : bits BinOp.or IntKind.u64 (y4 : Int) ((y4 : Int) / 65536) = (y5 : Int) := by rw [e5]; exact orI y4 65536 l4
  have f6 : bits BinOp.or IntKind.u64 (y5 : Int) ((y5 : Int) / 4294967296) = (y6 : Int) := by rw [e6]; exact orI y5 4294967296 l5
  have hz : ((x : Int) == 0) = false := by rw [beq_eq_false_iff_ne]; omega
  have q1 := xorI l6
  have q2 := cziI y6
  obtain ⟨z, ez⟩ : ∃ z, z = (y6 ^^^ y6 / 2) := ⟨_, rfl⟩
  obtain ⟨t, et⟩ : ∃ t, t = czi y6 := ⟨_, rfl⟩
  rw [← ez] at q1 q2
  rw [← et] at q2
  have ht : t < 64 := by rw [et]; unfold czi; omega
  have ht' : (t : Int) < 64 := by omega
  have hfin : Hid (t = czi (2 ^ bl x - 1)) := by show t = czi (2 ^ bl x - 1); rw [et, hs]
  have hb : Hid (1 ≤ bl x ∧ bl x ≤ 64) := ⟨bl_pos h0, bl_le_of_lt (k := 64) hx⟩
  clear e1 e2 e3 e4 e5 e6 hd h0 hs ez et l1 l2 l3 l4 l5 l6
  go_enter Oaig.func121, Oaig.ntmps121
  go_wp2
  go_ret
  refine ⟨ret_int ?_, rfl⟩
  refine congrArg (fun n : Nat => (n : Int)) ?_
  exact cz_tab hb.out.1 hb.out.2 hfin.out _

#print axioms clz_any

end Go.Proofs.Ygcoai
