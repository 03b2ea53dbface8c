/-
  Seat gcoai. soft.Add and exact.Add answer alike; SoftAdd32 and SoftSub32 whole.
-/
import Derived.Test.YgcoaiPlainAdd
import Derived.Test.YgcoaiExAdd
import Derived.Test.YgcoaiLaw
namespace Go.Proofs.Ygcoai
open Go.RowKit

theorem inf_bits {a : Nat} (ha : a < 4294967296) (h : pC a = 3) : a = 2139095040 + sgn (uS a) := by
  have h1 : uE a = 255 ∧ uF a = 0 := by
    unfold pC at h
    by_cases e1 : uE a = 255
    · by_cases e2 : uF a = 0
      · exact ⟨e1, e2⟩
      · rw [if_pos e1, if_neg e2] at h; omega
    · rw [if_neg e1] at h
      by_cases e2 : uE a = 0
      · rw [if_pos e2] at h
        by_cases e3 : uF a = 0
        · rw [if_pos e3] at h; omega
        · rw [if_neg e3] at h; omega
      · rw [if_neg e2] at h; omega
  obtain ⟨h1, h2⟩ := h1
  unfold uE at h1
  unfold uF at h2
  unfold sgn uS
  by_cases hs : a / 2147483648 % 2 = 1
  · rw [decide_eq_true hs, if_pos rfl]; omega
  · rw [decide_eq_false hs, if_neg (by decide)]; omega

theorem vN_zero' {x : Nat} (h : pC x = 0) : vN x = 0 := by
  unfold vN; rw [(parts_zero (x := x) (by omega)).1, Nat.zero_mul]
theorem vN_ne' {x : Nat} (h : pC x = 1 ∨ pC x = 2) : vN x ≠ 0 := by
  have := parts_fin h
  exact Nat.mul_ne_zero (by omega) (Nat.pos_iff_ne_zero.1 (Nat.two_pow_pos _))
theorem rnd_zero' (d : Nat) : rnd 0 d = 0 := by unfold rnd; rw [if_pos rfl]

theorem rp_one {b c : Nat} (hb : pC b = 1 ∨ pC b = 2) (hc : c ≠ 0) : rp (pX b) (pM b) = rnd (vN b * c) (c * vD b) := by
  have hpb := parts_fin hb
  refine rp_exact (Nat.mul_ne_zero (vN_ne' hb) hc) (Nat.mul_ne_zero hc (vD_ne b)) (by omega) (by omega) (a := (-pX b).toNat) (b := (pX b).toNat) (by omega) ?_
  unfold vN vD
  generalize pM b = m, 2 ^ (pX b).toNat = p, 2 ^ (-pX b).toNat = q
  grind

theorem sAdd_xAdd {a b : Nat} (ha : a < 4294967296) (hb : b < 4294967296) : sAdd a b = xAdd a b := by
  by_cases h4 : pC a = 4 ∨ pC b = 4
  · rw [sAdd_nan h4, xAdd_nan h4]
  have na : pN a = uS a := pN_uS' (by omega)
  have nb : pN b = uS b := pN_uS' (by omega)
  by_cases ha3 : pC a = 3
  · by_cases hbad : pC b = 3 ∧ uS a ≠ uS b
    · rw [sAdd_bad ha3 hbad.1 (by rw [na, nb]; exact hbad.2), xAdd_bad ha3 hbad.1 hbad.2]
    · have hs : pC b = 3 → uS a = uS b := fun h => Decidable.of_not_not fun h' => hbad ⟨h, h'⟩
      rw [sAdd_infA h4 ha3 (fun h => by rw [na, nb]; exact hs h), xAdd_infA h4 ha3 hs, na, ← inf_bits ha ha3]
  by_cases hb3 : pC b = 3
  · rw [sAdd_infB h4 ha3 hb3, xAdd_infB h4 ha3 hb3, nb, ← inf_bits hb hb3]
  have ka := parts_cases a
  have kb := parts_cases b
  rw [xAdd_fin (by omega) (by omega)]
  by_cases ha0 : pC a = 0
  · by_cases hb0 : pC b = 0
    · rw [sAdd_zz ha0 hb0, na, nb, vN_zero' ha0, vN_zero' hb0, Nat.zero_mul, Nat.zero_mul, rnd_zero']
      by_cases hn : uS a = uS b
      · rw [if_pos hn, ← hn, Bool.and_self, Nat.zero_add]
      · rw [if_neg hn, if_pos rfl]
        rcases bool_ne hn with ⟨e1, e2⟩ | ⟨e1, e2⟩ <;> rw [e1, e2] <;> rfl
    · have fb : pC b = 1 ∨ pC b = 2 := by omega
      have h0 : vN b * vD a ≠ 0 := Nat.mul_ne_zero (vN_ne' fb) (vD_ne a)
      rw [sAdd_zf ha0 fb, nb, vN_zero' ha0, Nat.zero_mul, Nat.zero_add, Nat.sub_zero, rp_one fb (vD_ne a)]
      by_cases hn : uS a = uS b
      · rw [if_pos hn, hn]
      · rw [if_neg hn, if_neg h0, if_neg (by omega)]
  · have fa : pC a = 1 ∨ pC a = 2 := by omega
    have hpa := parts_fin fa
    by_cases hb0 : pC b = 0
    · have h0 : vN a * vD b ≠ 0 := Nat.mul_ne_zero (vN_ne' fa) (vD_ne b)
      rw [sAdd_fz fa hb0, na, vN_zero' hb0, Nat.zero_mul, Nat.add_zero, Nat.sub_zero, Nat.mul_comm (vD a), rp_one fa (vD_ne b)]
      by_cases hn : uS a = uS b
      · rw [if_pos hn]
      · rw [if_neg hn, if_neg (fun h => h0 h.symm), if_pos (Nat.zero_le _)]
    · have fb : pC b = 1 ∨ pC b = 2 := by omega
      have hpb := parts_fin fb
      have hD : vD a * vD b ≠ 0 := Nat.mul_ne_zero (vD_ne a) (vD_ne b)
      have dA : vN a * vD b * 2 ^ (-pX a).toNat = pM a * (vD a * vD b) * 2 ^ (pX a).toNat := by
        unfold vN vD; generalize pM a = m, 2 ^ (pX a).toNat = p, 2 ^ (-pX a).toNat = q, 2 ^ (-pX b).toNat = r; grind
      have dB : vN b * vD a * 2 ^ (-pX b).toNat = pM b * (vD a * vD b) * 2 ^ (pX b).toNat := by
        unfold vN vD; generalize pM b = m, 2 ^ (pX b).toNat = p, 2 ^ (-pX a).toNat = q, 2 ^ (-pX b).toNat = r; grind
      rw [sAdd_ff fa fb, na, nb]
      unfold sumPat
      by_cases hc : pX b < pX a ∨ (pX b = pX a ∧ pM b ≤ pM a)
      · obtain ⟨h1, h2⟩ := sumP_rnd (n1 := uS a) (n2 := uS b) hpa.1 hpa.2.1 hpb.1 hpb.2.1 hD (x1 := pX a) (x2 := pX b) (by omega) (by omega) (by omega) (by omega) dA dB
        rw [if_pos hc, h2]
        by_cases hn : uS a = uS b
        · rw [if_pos hn, if_pos hn]
        · rw [if_neg hn, if_neg hn]
          by_cases he : vN b * vD a = vN a * vD b
          · rw [if_pos he, if_pos he]
          · rw [if_neg he, if_neg he, if_pos h1]
      · obtain ⟨h1, h2⟩ := sumP_rnd (n1 := uS b) (n2 := uS a) hpb.1 hpb.2.1 hpa.1 hpa.2.1 hD (x1 := pX b) (x2 := pX a) (by omega) (by omega) (by omega) (by omega) dB dA
        rw [if_neg hc, h2]
        by_cases hn : uS a = uS b
        · rw [if_pos hn, if_pos hn.symm, Nat.add_comm (vN b * vD a), hn]
        · rw [if_neg hn, if_neg (fun h => hn h.symm)]
          by_cases he : vN b * vD a = vN a * vD b
          · rw [if_pos he, if_pos he.symm]
          · rw [if_neg he, if_neg (fun h => he h.symm), if_neg (by omega)]

theorem softAdd32_any (w : World) (a b : Nat) (ha : a < 4294967296) (hb : b < 4294967296) :
    Calls Oaig.prog 3 #[.int .u32 a, .int .u32 b] w fun e w' => e = .returned (.bool true) ∧ Ext w w' :=
  rungAdd w a b (sAdd a b) ha hb (fun w => softAdd_any w a b ha hb) (fun w => by rw [sAdd_xAdd ha hb]; exact exactAdd_any w a b ha hb)

theorem softSub32_any (w : World) (a b : Nat) (ha : a < 4294967296) (hb : b < 4294967296) :
    Calls Oaig.prog 4 #[.int .u32 a, .int .u32 b] w fun e w' => e = .returned (.bool true) ∧ Ext w w' :=
  rungSub w a b (sAdd a (flipS b)) ha hb (fun w => softSub_any w a b ha hb) (fun w => by rw [sAdd_xAdd ha (flipS_lt hb)]; exact exactSub_any w a b ha hb)

end Go.Proofs.Ygcoai
