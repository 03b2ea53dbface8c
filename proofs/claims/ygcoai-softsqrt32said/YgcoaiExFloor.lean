/-
  Seat gcoai. exact.toU64 (93), exact.log2 (88), exact.floor (166), exact.raised (158).
-/
import Derived.Test.YgcoaiExSmall
namespace Go.Proofs.Ygcoai
open Go.RowKit

theorem toU64_plain (a b : Nat) (ha : a < 4294967296) (hb : b < 4294967296) : bits BinOp.or IntKind.u64 ((b : Int) * 4294967296) (a : Int) = ((a + b * 4294967296 : Nat) : Int) := by
  have e : ((b : Int) * 4294967296) = ((b * 4294967296 : Nat) : Int) := by simp
  rw [e, u64_or_nat _ _ (by omega) (by omega), nat_join 32 _ _ (by omega) (by omega), Nat.add_comm]

set_option maxHeartbeats 1000000 in
theorem toU64_any {w : World} {v : Value} {x : Nat} (hv : NatV w v x) (hx : x < 18446744073709551616) :
    Calls Oaig.prog 93 #[v] w fun e w' => e = .returned (.int .u64 x) ∧ w = w' := by
  obtain ⟨n, f, ⟨hf, ao, c, rfl, _, hca⟩, hn, hnil, rfl⟩ := hv
  have hlen : n ≤ 2 := norm_len (L := 2) hn hx
  rcases (by omega : n = 0 ∨ n = 1 ∨ n = 2) with h | h | h
  · subst h
    go_enter Oaig.func93, Oaig.ntmps93
    go_wp2
    go_ret
    exact ⟨rfl, rfl⟩
  · subst h
    obtain ⟨b, o, rfl, hc⟩ := hca (by decide)
    have c0 := hc 0 (by decide)
    obtain ⟨f0, hf0⟩ : ∃ k, k = f 0 := ⟨_, rfl⟩
    have hl0 := hf 0 (by decide)
    have e : Hid (vf f 1 = f0) := by show vf f 1 = f0; rw [hf0]; simp [vf]
    rw [← hf0] at c0 hl0
    simp only [Nat.add_zero] at c0
    have hor : bits BinOp.or IntKind.u64 0 (f0 : Int) = (f0 : Int) := by
      have := u64_or_nat 0 f0 (by decide) (by omega); simpa using this
    clear hc hca hf hn hnil hx hf0
    go_enter Oaig.func93, Oaig.ntmps93
    go_wp2
    go_ret
    exact ⟨by rw [e.out]; rfl, rfl⟩
  · subst h
    obtain ⟨b, o, rfl, hc⟩ := hca (by decide)
    have c0 := hc 0 (by decide)
    have c1 := hc 1 (by decide)
    obtain ⟨f0, hf0⟩ : ∃ k, k = f 0 := ⟨_, rfl⟩
    obtain ⟨f1, hf1⟩ : ∃ k, k = f 1 := ⟨_, rfl⟩
    have hl0 := hf 0 (by decide)
    have hl1 := hf 1 (by decide)
    rw [← hf0] at c0 hl0
    rw [← hf1] at c1 hl1
    obtain ⟨T, hT⟩ : ∃ T, T = f0 + f1 * 4294967296 := ⟨_, rfl⟩
    have e : Hid (vf f 2 = T) := by show vf f 2 = _; rw [hT, hf0, hf1]; simp [vf]
    simp only [Nat.add_zero] at c0
    have hor := toU64_plain f0 f1 hl0 hl1
    rw [← hT] at hor
    clear hT
    clear hc hca hf hn hnil hx hf0 hf1
    go_enter Oaig.func93, Oaig.ntmps93
    go_wp2
    go_ret
    exact ⟨by rw [e.out]; rfl, rfl⟩

/-- The binary logarithm's floor. -/
def lg (n d : Nat) : Int :=
  let e := (bl n : Int) - bl d
  if n * 2 ^ (-e).toNat < d * 2 ^ e.toNat then e - 1 else e

/-- What log2 answers at the bounds -127 and 127. -/
def lgB (n d : Nat) : Int :=
  let e := (bl n : Int) - bl d
  if 128 < e then 128 else if e < -127 then -128 else lg n d

theorem bl_lt32 {x L : Nat} (h : Lt32 x L) : bl x ≤ 32 * L := by
  apply bl_le_of_lt
  unfold Lt32 at h
  rw [show (4294967296 : Nat) = 2 ^ 32 from by decide, ← Nat.pow_mul] at h
  exact h

set_option maxHeartbeats 1000000 in
theorem log2_any {w : World} {nv dv : Value} {n d L : Nat} (hn : NatV w nv n) (hd : NatV w dv d) (ln : Lt32 n L) (ld : Lt32 d L) (hL : L ≤ 100) :
    Calls Oaig.prog 88 #[nv, dv, .int .i64 (-127), .int .i64 127] w fun e w' => e = .returned (.int .i64 (lgB n d)) ∧ Ext w w' := by
  obtain ⟨E, hE⟩ : ∃ E : Int, E = (bl n : Int) - bl d := ⟨_, rfl⟩
  have b1 := bl_lt32 ln
  have b2 := bl_lt32 ld
  have hE1 : -100000 ≤ E := by omega
  have hE2 : E ≤ 100000 := by omega
  have hs : Hid ((bl n : Int) - bl d = E) := hE.symm
  by_cases h1 : 128 < E
  · have hv : Hid (lgB n d = 128) := by show lgB n d = 128; unfold lgB; dsimp only; rw [← hE, if_pos h1]
    clear hE
    go_enter Oaig.func88, Oaig.ntmps88
    go_wp2_with fail
    refine (bitLen_any hn ln (by omega)).mono ?_
    rintro e w1 ⟨rfl, rfl⟩
    go_wp2_with fail
    refine (bitLen_any hd ld (by omega)).mono ?_
    rintro e w1 ⟨rfl, rfl⟩
    have hE := hs.out
    go_wp2
    go_ret
    exact ⟨by rw [hv.out]; rfl, Ext.refl _⟩
  · by_cases h2 : E < -127
    · have hv : Hid (lgB n d = -128) := by show lgB n d = -128; unfold lgB; dsimp only; rw [← hE, if_neg h1, if_pos h2]
      clear hE
      go_enter Oaig.func88, Oaig.ntmps88
      go_wp2_with fail
      refine (bitLen_any hn ln (by omega)).mono ?_
      rintro e w1 ⟨rfl, rfl⟩
      go_wp2_with fail
      refine (bitLen_any hd ld (by omega)).mono ?_
      rintro e w1 ⟨rfl, rfl⟩
      have hE := hs.out
      go_wp2
      go_ret
      exact ⟨by rw [hv.out]; rfl, Ext.refl _⟩
    · have hv : Hid (lgB n d = if n * 2 ^ (-E).toNat < d * 2 ^ E.toNat then E - 1 else E) := by
        show lgB n d = _
        unfold lgB lg; dsimp only; rw [← hE, if_neg h1, if_neg h2]
      have l1 : Lt32 (n * 2 ^ (-E).toNat) (L + 10) := ((ln.shl (k := (-E).toNat))).mono (Nat.le_refl _) (by omega)
      have l2 : Lt32 (d * 2 ^ (E).toNat) (L + 10) := ((ld.shl (k := (E).toNat))).mono (Nat.le_refl _) (by omega)
      clear hE
      go_enter Oaig.func88, Oaig.ntmps88
      go_wp2_with fail
      refine (bitLen_any hn ln (by omega)).mono ?_
      rintro e w1 ⟨rfl, rfl⟩
      go_wp2_with fail
      refine (bitLen_any hd ld (by omega)).mono ?_
      rintro e w1 ⟨rfl, rfl⟩
      have hE := hs.out
      go_wp2_with fail
      refine (shift_any hn hd ln ld (by omega) (-E) (by omega) (by omega)).mono ?_
      rintro e w2 ⟨nv2, dv2, rfl, hext2, hn2, hd2⟩
      rw [Int.neg_neg] at hd2
      go_wp2_with fail
      refine (cmp_any hn2 hd2 l1 l2 (by omega)).mono ?_
      rintro e w3 ⟨rfl, hext3⟩
      by_cases h3 : n * 2 ^ (-E).toNat < d * 2 ^ E.toNat
      · have hc := cmpI_lt h3
        have hv2 : Hid (lgB n d = E - 1) := by show lgB n d = E - 1; rw [hv.out, if_pos h3]
        clear h3 hv
        rw [hc]
        clear hc
        go_wp2
        go_ret
        exact ⟨by rw [hv2.out]; rfl, hext2.trans hext3⟩
      · have hc : decide (cmpI (n * 2 ^ (-E).toNat) (d * 2 ^ E.toNat) < 0) = false := by
          apply decide_eq_false; unfold cmpI; rw [if_neg h3]; split <;> omega
        have hv2 : Hid (lgB n d = E) := by show lgB n d = E; rw [hv.out, if_neg h3]
        clear h3 hv
        obtain ⟨C, hC⟩ : ∃ C, C = cmpI (n * 2 ^ (-E).toNat) (d * 2 ^ E.toNat) := ⟨_, rfl⟩
        rw [← hC] at hc ⊢
        clear hC
        go_wp2
        go_ret
        exact ⟨by rw [hv2.out]; rfl, hext2.trans hext3⟩

end Go.Proofs.Ygcoai
