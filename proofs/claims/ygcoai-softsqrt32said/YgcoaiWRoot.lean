/-
  Seat gcoai. wide.root (122): the floor of the square root of a word.
-/
import Derived.Test.YgcoaiWDiv
import Derived.Test.YgcoaiWJam
namespace Go.Proofs.Ygcoai
open Go.RowKit

/-- s is the floor of the square root of x. -/
def IsRoot (s x : Nat) : Prop := s * s ≤ x ∧ x < (s + 1) * (s + 1)

theorem IsRoot.unique {s t x : Nat} (h : IsRoot s x) (k : IsRoot t x) : s = t := by
  rcases Nat.lt_trichotomy s t with hl | hl | hl
  · exfalso
    have := Nat.mul_le_mul (show s + 1 ≤ t from hl) (show s + 1 ≤ t from hl)
    have := h.2; have := k.1; omega
  · exact hl
  · exfalso
    have := Nat.mul_le_mul (show t + 1 ≤ s from hl) (show t + 1 ≤ s from hl)
    have := k.2; have := h.1; omega

/-- The upper half of the root, and what it leaves divided by twice itself: at most one too great. -/
theorem zim {B T s0 left x1 x0 x c : Nat} (hB : 0 < B) (h1 : left + s0 * s0 = T) (h2 : T < (s0 + 1) * (s0 + 1)) (hs : B ≤ 2 * s0) (hx1 : x1 < B) (hx0 : x0 < B) (hx : x = (T * B + x1) * B + x0)
    (hc : c = min ((left * B + x1) / (2 * s0)) (B - 1)) : IsRoot (if x < (s0 * B + c) * (s0 * B + c) then s0 * B + c - 1 else s0 * B + c) x := by
  have hs0 : 0 < 2 * s0 := by omega
  have hq := Nat.div_add_mod (left * B + x1) (2 * s0)
  have hr := Nat.mod_lt (left * B + x1) hs0
  have hcB : c ≤ B - 1 := by omega
  generalize hlow : (left * B + x1) / (2 * s0) = low at *
  have hxe : x = s0 * B * (s0 * B) + (left * B + x1) * B + x0 := by
    rw [hx, ← h1]; grind
  have hcl : 2 * s0 * c ≤ left * B + x1 := by
    have : 2 * s0 * c ≤ 2 * s0 * low := Nat.mul_le_mul_left _ (by omega)
    omega
  split
  · rename_i hgt
    have hc0 : c ≠ 0 := by
      intro h
      rw [h, Nat.add_zero, hxe] at hgt
      omega
    obtain ⟨k, rfl⟩ : ∃ k, c = k + 1 := ⟨c - 1, by omega⟩
    have e1 : s0 * B + (k + 1) - 1 = s0 * B + k := by omega
    rw [e1]
    refine ⟨?_, ?_⟩
    · have e2 : (s0 * B + k) * (s0 * B + k) = s0 * B * (s0 * B) + 2 * s0 * k * B + k * k := by grind
      have h4 : 2 * s0 * (k + 1) * B ≤ (left * B + x1) * B := Nat.mul_le_mul_right B hcl
      have e3 : 2 * s0 * (k + 1) * B = 2 * s0 * k * B + 2 * s0 * B := by grind
      have h5 : k * k ≤ B * B := Nat.mul_le_mul (by omega) (by omega)
      have h6 : B * B ≤ 2 * s0 * B := Nat.mul_le_mul_right B hs
      rw [e2, hxe]
      omega
    · exact hgt
  · rename_i hle
    refine ⟨Nat.le_of_not_lt hle, ?_⟩
    by_cases hcc : low ≤ B - 1
    · have hcl2 : c = low := by omega
      have h4 : left * B + x1 + 1 ≤ 2 * s0 * (c + 1) := by rw [hcl2, Nat.mul_add, Nat.mul_one]; omega
      have h5 := Nat.mul_le_mul_right B h4
      have e2 : (s0 * B + c + 1) * (s0 * B + c + 1) = s0 * B * (s0 * B) + 2 * s0 * (c + 1) * B + (c + 1) * (c + 1) := by grind
      have e3 : (left * B + x1 + 1) * B = (left * B + x1) * B + B := by grind
      rw [e2, hxe]
      omega
    · have hcl2 : s0 * B + c + 1 = (s0 + 1) * B := by rw [Nat.add_mul, Nat.one_mul]; omega
      rw [hcl2]
      have e2 : (s0 + 1) * B * ((s0 + 1) * B) = (s0 + 1) * (s0 + 1) * (B * B) := by grind
      have h5 : (T + 1) * (B * B) ≤ (s0 + 1) * (s0 + 1) * (B * B) := Nat.mul_le_mul_right _ h2
      have e3 : (T + 1) * (B * B) = (T * B + B) * B := by grind
      have h6 : (T * B + x1) * B + x0 < (T * B + B) * B := by
        have : (T * B + x1 + 1) * B ≤ (T * B + B) * B := Nat.mul_le_mul_right _ (by omega)
        rw [Nat.add_mul _ 1, Nat.one_mul] at this
        omega
      rw [e2, hx]
      omega

theorem root_step {s b l top : Nat} (h1 : l + s * s = top) (h2 : top < (s + 2 * b) * (s + 2 * b)) :
    ((2 * s + b) * b ≤ l → l - (2 * s + b) * b + (s + b) * (s + b) = top ∧ top < (s + b + b) * (s + b + b)) ∧ (¬ (2 * s + b) * b ≤ l → top < (s + b) * (s + b)) := by
  have e1 : (s + b) * (s + b) = s * s + (2 * s + b) * b := by grind
  have e2 : s + b + b = s + 2 * b := by omega
  refine ⟨fun h => ⟨by omega, by rw [e2]; exact h2⟩, fun h => by omega⟩

set_option maxRecDepth 20000 in
set_option maxHeartbeats 4000000 in
theorem root_any (w : World) (x : Nat) (hx1 : 4611686018427387904 ≤ x) (hx2 : x < 18446744073709551616) :
    Calls Oaig.prog 122 #[.int .u64 x] w fun e w' => ∃ s : Nat, e = .returned (.tuple #[.int .u64 s, .int .u64 (x - s * s : Nat)]) ∧ IsRoot s x ∧ Ext w w' := by
  obtain ⟨top, htop⟩ : ∃ t, t = x / 4294967296 := ⟨_, rfl⟩
  have ht1 : 1073741824 ≤ top := by omega
  have ht2 : top < 4294967296 := by omega
  have f0 : (x : Int) / 4294967296 = (top : Int) := by omega
  replace hx1 : Hid _ := hx1
  replace hx2 : Hid _ := hx2
  replace htop : Hid _ := htop
  go_enter Oaig.func122, Oaig.ntmps122
  go_wp2_with fail
  go_loop [2, 5, 6] (fun cs cl cb => ∃ k s l : Nat, cs = .int .u64 s ∧ cl = .int .u64 l ∧ cb = .int .u64 (2 ^ k / 2 : Nat) ∧ k ≤ 16 ∧ s % 2 ^ k = 0 ∧ s + 2 ^ k ≤ 65536 ∧ l + s * s = top ∧ top < (s + 2 ^ k) * (s + 2 ^ k)) (fun _ _ b => (intOf b).toNat)
  case atStart => exact ⟨16, 0, top, rfl, rfl, rfl, by omega, rfl, by decide, by omega, by omega⟩
  case round =>
    obtain ⟨k, s, l, rfl, rfl, rfl, hk, hsm, hs, hl, hu⟩ := hrel
    rcases Nat.eq_zero_or_pos k with h0 | h0
    · subst h0
      have z : ((2 ^ 0 / 2 : Nat) : Int) = 0 := rfl
      rw [z]
      rw [Nat.pow_zero] at hsm hs hu
      have hx1 := hx1.out
      have hx2 := hx2.out
      have htop := htop.out
      have hs1 : 32768 ≤ s := by
        rcases Nat.lt_or_ge s 32768 with h | h
        · have := Nat.mul_le_mul (show s + 1 ≤ 32768 by omega) (show s + 1 ≤ 32768 by omega)
          omega
        · exact h
      have hl2 : l ≤ 2 * s := by
        have : (s + 1) * (s + 1) = s * s + 2 * s + 1 := by grind
        omega
      obtain ⟨LY, hLY⟩ : ∃ y, y = l * 65536 := ⟨_, rfl⟩
      obtain ⟨X1, hX1⟩ : ∃ y, y = x / 65536 := ⟨_, rfl⟩
      obtain ⟨x1, hxx1⟩ : ∃ y, y = X1 % 65536 := ⟨_, rfl⟩
      obtain ⟨x0, hxx0⟩ : ∃ y, y = x % 65536 := ⟨_, rfl⟩
      obtain ⟨Y, hY⟩ : ∃ y, y = l * 65536 + x1 := ⟨_, rfl⟩
      obtain ⟨S2, hS2⟩ : ∃ y, y = 2 * s := ⟨_, rfl⟩
      obtain ⟨low, hlow⟩ : ∃ y, y = Y / S2 := ⟨_, rfl⟩
      obtain ⟨SB, hSB⟩ : ∃ y, y = s * 65536 := ⟨_, rfl⟩
      have hxx : x = (top * 65536 + x1) * 65536 + x0 := by omega
      have a1 : IntKind.u64.wrap ((l : Int) * 65536) = (LY : Int) := by rw [IntKind.wrap_u64]; omega
      have a2 : (x : Int) / 65536 = (X1 : Int) := by omega
      have a3 : bits BinOp.and IntKind.u64 (X1 : Int) 65535 = (x1 : Int) := by
        have h := u64_and_nat X1 65535 (by omega) (by decide)
        have e : (X1 &&& 65535) = X1 % 65536 := Nat.and_two_pow_sub_one_eq_mod X1 16
        rw [e, ← hxx1] at h
        exact h
      have a4 : bits BinOp.or IntKind.u64 (LY : Int) (x1 : Int) = (Y : Int) := by
        rw [u64_or_nat _ _ (by omega) (by omega), nat_join 16 _ _ (show LY % 65536 = 0 by omega) (show x1 < 65536 by omega), hY, hLY]
      have a5 : IntKind.u64.wrap (2 * (s : Int)) = (S2 : Int) := by rw [IntKind.wrap_u64]; omega
      have a6 : ((S2 : Int) == 0) = false := by rw [beq_eq_false_iff_ne]; omega
      have a8 : 0 < S2 := by omega
      have a7 : (Y : Int).tdiv (S2 : Int) = (low : Int) := by rw [hlow]; rfl
      have a7' : (Y : Int) / (S2 : Int) = (low : Int) := by rw [hlow]; simp
      have a9 : IntKind.u64.wrap ((s : Int) * 65536) = (SB : Int) := by rw [IntKind.wrap_u64]; omega
      by_cases hll : low ≤ 65535
      · have m1 : min (low : Int) 65535 = (low : Int) := by omega
        obtain ⟨r, hr⟩ : ∃ y, y = s * 65536 + low := ⟨_, rfl⟩
        have hrl : r < 4294967296 := by omega
        have a10 : bits BinOp.or IntKind.u64 (SB : Int) (low : Int) = (r : Int) := by
          rw [u64_or_nat _ _ (by omega) (by omega), nat_join 16 _ _ (show SB % 65536 = 0 by omega) (show low < 65536 by omega), hr, hSB]
        have hz := zim (B := 65536) (c := low) (by decide) hl hu (by omega) (show x1 < 65536 by omega) (show x0 < 65536 by omega) hxx (by rw [← hY, ← hS2, ← hlow]; omega)
        rw [← hr] at hz
        obtain ⟨RR, hRR⟩ : ∃ y, y = r * r := ⟨_, rfl⟩
        rw [← hRR] at hz
        have hRl : RR < 18446744073709551616 := by
          rw [hRR]; exact Nat.lt_of_le_of_lt (Nat.mul_le_mul (show r ≤ 4294967295 by omega) (show r ≤ 4294967295 by omega)) (by decide)
        have a11 : IntKind.u64.wrap ((r : Int) * (r : Int)) = (RR : Int) := by
          have e : (r : Int) * (r : Int) = (RR : Int) := by rw [hRR]; simp
          rw [e, IntKind.wrap_u64]; omega
        by_cases hg : x < RR
        · have a12 : decide (x < RR) = true := decide_eq_true hg
          rw [if_pos hg] at hz
          have hr0 : r ≠ 0 := by intro h; rw [h] at hRR; omega
          obtain ⟨q, hq⟩ : ∃ y, y = r - 1 := ⟨_, rfl⟩
          rw [← hq] at hz
          have a13 : IntKind.u64.wrap ((r : Int) - 1) = (q : Int) := by rw [IntKind.wrap_u64]; omega
          obtain ⟨QQ, hQQ⟩ : ∃ y, y = q * q := ⟨_, rfl⟩
          have hQl : QQ ≤ x := by rw [hQQ]; exact hz.1
          have a14 : IntKind.u64.wrap ((q : Int) * (q : Int)) = (QQ : Int) := by
            have e : (q : Int) * (q : Int) = (QQ : Int) := by rw [hQQ]; simp
            rw [e, IntKind.wrap_u64]; omega
          obtain ⟨Z, hZ⟩ : ∃ y, y = x - QQ := ⟨_, rfl⟩
          have a15 : IntKind.u64.wrap ((x : Int) - (QQ : Int)) = (Z : Int) := by rw [IntKind.wrap_u64]; omega
          have hres : Hid (Z = x - q * q ∧ IsRoot q x) := ⟨by rw [hZ, hQQ], hz⟩
          clear hx1 hx2 htop ht1 ht2 hsm hs hl hu hk hs1 hl2 hxx hLY hX1 hxx1 hxx0 hY hS2 hlow hSB hll hg hr0 hq hQQ hQl hZ hz hr hrl hRR hRl
          go_wp2
          go_ret2
          exact ⟨q, by rw [← hres.out.1]; rfl, hres.out.2, Ext.refl w⟩
        · have a12 : decide (x < RR) = false := decide_eq_false hg
          rw [if_neg hg] at hz
          obtain ⟨Z, hZ⟩ : ∃ y, y = x - RR := ⟨_, rfl⟩
          have a15 : IntKind.u64.wrap ((x : Int) - (RR : Int)) = (Z : Int) := by rw [IntKind.wrap_u64]; omega
          have hres : Hid (Z = x - r * r ∧ IsRoot r x) := ⟨by rw [hZ, hRR], hz⟩
          clear hx1 hx2 htop ht1 ht2 hsm hs hl hu hk hs1 hl2 hxx hLY hX1 hxx1 hxx0 hY hS2 hlow hSB hll hg hZ hz hr hrl hRR hRl
          go_wp2
          go_ret2
          exact ⟨r, by rw [← hres.out.1]; rfl, hres.out.2, Ext.refl w⟩
      · have hlx : 65535 < low := by omega
        have hlb : low < 18446744073709551616 := by rw [hlow]; exact Nat.lt_of_le_of_lt (Nat.div_le_self _ _) (by omega)
        have wl : IntKind.u64.wrap (low : Int) = (low : Int) := by rw [IntKind.wrap_u64]; omega
        clear hlb
        have m1 : min (low : Int) 65535 = 65535 := by omega
        obtain ⟨r, hr⟩ : ∃ y, y = s * 65536 + 65535 := ⟨_, rfl⟩
        have hrl : r < 4294967296 := by omega
        have a10 : bits BinOp.or IntKind.u64 (SB : Int) 65535 = (r : Int) := by
          rw [show (65535 : Int) = ((65535 : Nat) : Int) from rfl, u64_or_nat _ _ (by omega) (by omega), nat_join 16 _ _ (show SB % 65536 = 0 by omega) (show 65535 < 65536 by omega), hr, hSB]
        have hz := zim (B := 65536) (c := 65535) (by decide) hl hu (by omega) (show x1 < 65536 by omega) (show x0 < 65536 by omega) hxx (by rw [← hY, ← hS2, ← hlow]; omega)
        rw [← hr] at hz
        obtain ⟨RR, hRR⟩ : ∃ y, y = r * r := ⟨_, rfl⟩
        rw [← hRR] at hz
        have hRl : RR < 18446744073709551616 := by
          rw [hRR]; exact Nat.lt_of_le_of_lt (Nat.mul_le_mul (show r ≤ 4294967295 by omega) (show r ≤ 4294967295 by omega)) (by decide)
        have a11 : IntKind.u64.wrap ((r : Int) * (r : Int)) = (RR : Int) := by
          have e : (r : Int) * (r : Int) = (RR : Int) := by rw [hRR]; simp
          rw [e, IntKind.wrap_u64]; omega
        by_cases hg : x < RR
        · have a12 : decide (x < RR) = true := decide_eq_true hg
          rw [if_pos hg] at hz
          have hr0 : r ≠ 0 := by intro h; rw [h] at hRR; omega
          obtain ⟨q, hq⟩ : ∃ y, y = r - 1 := ⟨_, rfl⟩
          rw [← hq] at hz
          have a13 : IntKind.u64.wrap ((r : Int) - 1) = (q : Int) := by rw [IntKind.wrap_u64]; omega
          obtain ⟨QQ, hQQ⟩ : ∃ y, y = q * q := ⟨_, rfl⟩
          have hQl : QQ ≤ x := by rw [hQQ]; exact hz.1
          have a14 : IntKind.u64.wrap ((q : Int) * (q : Int)) = (QQ : Int) := by
            have e : (q : Int) * (q : Int) = (QQ : Int) := by rw [hQQ]; simp
            rw [e, IntKind.wrap_u64]; omega
          obtain ⟨Z, hZ⟩ : ∃ y, y = x - QQ := ⟨_, rfl⟩
          have a15 : IntKind.u64.wrap ((x : Int) - (QQ : Int)) = (Z : Int) := by rw [IntKind.wrap_u64]; omega
          have hres : Hid (Z = x - q * q ∧ IsRoot q x) := ⟨by rw [hZ, hQQ], hz⟩
          clear hx1 hx2 htop ht1 ht2 hsm hs hl hu hk hs1 hl2 hxx hLY hX1 hxx1 hxx0 hY hS2 hlow hSB hll hg hr0 hq hQQ hQl hZ hz hr hrl hRR hRl
          go_wp2
          go_ret2
          exact ⟨q, by rw [← hres.out.1]; rfl, hres.out.2, Ext.refl w⟩
        · have a12 : decide (x < RR) = false := decide_eq_false hg
          rw [if_neg hg] at hz
          obtain ⟨Z, hZ⟩ : ∃ y, y = x - RR := ⟨_, rfl⟩
          have a15 : IntKind.u64.wrap ((x : Int) - (RR : Int)) = (Z : Int) := by rw [IntKind.wrap_u64]; omega
          have hres : Hid (Z = x - r * r ∧ IsRoot r x) := ⟨by rw [hZ, hRR], hz⟩
          clear hx1 hx2 htop ht1 ht2 hsm hs hl hu hk hs1 hl2 hxx hLY hX1 hxx1 hxx0 hY hS2 hlow hSB hll hg hZ hz hr hrl hRR hRl
          go_wp2
          go_ret2
          exact ⟨r, by rw [← hres.out.1]; rfl, hres.out.2, Ext.refl w⟩
    · obtain ⟨j, rfl⟩ : ∃ j, k = j + 1 := ⟨k - 1, by omega⟩
      have e1 : 2 ^ (j + 1) = 2 * 2 ^ j := by rw [Nat.pow_succ]; omega
      have e2 : 2 ^ (j + 1) / 2 = 2 ^ j := by omega
      have hbp := Nat.two_pow_pos j
      rw [e2]
      obtain ⟨b, hb⟩ : ∃ b, b = 2 ^ j := ⟨_, rfl⟩
      have hst := root_step (b := b) hl (by rw [hb, ← e1]; exact hu)
      rw [e1] at hsm hs
      have hsj : s % 2 ^ j = 0 := by
        have := Nat.mod_mod_of_dvd s (Nat.dvd_mul_left (2 ^ j) 2)
        rw [hsm] at this
        rw [← this, Nat.zero_mod]
      have hor : s ||| 2 ^ j = s + 2 ^ j := nat_join (j + 1) _ _ (by rw [e1]; exact hsm) (by rw [e1]; omega)
      have e3 : 2 ^ j / 2 < 2 ^ j := by omega
      rw [← hb] at hsm hs hsj hor e3 hbp
      have hbI : ((2 ^ j : Nat) : Int) = (b : Int) := by rw [hb]
      rw [hbI]
      obtain ⟨T, hT⟩ : ∃ T, T = (2 * s + b) * b := ⟨_, rfl⟩
      have hTl : T < 18446744073709551616 := by
        rw [hT]
        exact Nat.lt_of_le_of_lt (Nat.mul_le_mul (show 2 * s + b ≤ 196608 by omega) (show b ≤ 65536 by omega)) (by decide)
      rw [← hT] at hst
      have g1 : IntKind.u64.wrap ((2 * (s : Int) + (b : Int)) * (b : Int)) = (T : Int) := by
        have e : (2 * (s : Int) + (b : Int)) * (b : Int) = (T : Int) := by rw [hT]; simp
        rw [e, IntKind.wrap_u64]; omega
      have w1 : IntKind.u64.wrap (2 * (s : Int)) = 2 * (s : Int) := by rw [IntKind.wrap_u64]; omega
      have w2 : IntKind.u64.wrap (2 * (s : Int) + (b : Int)) = 2 * (s : Int) + (b : Int) := by rw [IntKind.wrap_u64]; omega
      obtain ⟨s2, hs2⟩ : ∃ c, c = s + b := ⟨_, rfl⟩
      have g2 : bits BinOp.or IntKind.u64 (s : Int) (b : Int) = (s2 : Int) := by rw [u64_or_nat _ _ (by omega) (by omega), hor, hs2]
      obtain ⟨b2, hb2⟩ : ∃ c, c = b / 2 := ⟨_, rfl⟩
      have g3 : (b : Int) / 2 = (b2 : Int) := by omega
      have g4 : decide ((0 : Int) < (b : Int)) = true := decide_eq_true (by omega)
      have hend : 2 ^ j / 2 = b2 := by rw [hb2, hb]
      have e4 : b2 < b := by omega
      have hss : s * s ≤ top := by omega
      have hle : l ≤ top := by omega
      clear hss
      replace hl : Hid _ := hl
      replace hst : Hid _ := hst
      replace hend : Hid _ := hend
      replace hsj : Hid _ := hsj
      replace hu : Hid _ := hu
      replace hb : Hid _ := hb
      clear hT hor hbI e1 e2 hsm
      by_cases hc : T ≤ l
      · have g5 : decide (T ≤ l) = true := decide_eq_true hc
        obtain ⟨l2, hl2⟩ : ∃ c, c = l - T := ⟨_, rfl⟩
        have g6 : IntKind.u64.wrap ((l : Int) - (T : Int)) = (l2 : Int) := by rw [IntKind.wrap_u64]; omega
        replace hl2 : Hid _ := hl2
        replace hc : Hid _ := hc
        replace hTl : Hid _ := hTl
        replace hle : Hid _ := hle
        replace hs : Hid _ := hs
        replace hbp : Hid _ := hbp
        replace ht2 : Hid _ := ht2
        replace ht1 : Hid _ := ht1
        replace e4 : Hid _ := e4
        replace hs2 : Hid _ := hs2
        replace hb2 : Hid _ := hb2
        clear e3
        go_wp2
        go_round
        case rel =>
          obtain ⟨r1, r2⟩ := hst.out.1 hc.out
          have hs := hs.out
          rw [← hl2.out, ← hs2.out] at r1
          rw [← hs2.out] at r2
          refine ⟨j, s2, l2, rfl, rfl, by rw [hend.out], by omega, ?_, ?_, r1, ?_⟩
          · rw [hs2.out, ← hb.out, Nat.add_mod, hsj.out]; simp
          · rw [← hb.out, hs2.out]; omega
          · rw [← hb.out]; exact r2
        case measure => have := e4.out; simp [intOf]; omega
      · have g5 : decide (T ≤ l) = false := decide_eq_false hc
        replace hc : Hid _ := hc
        replace hTl : Hid _ := hTl
        replace hle : Hid _ := hle
        replace hs : Hid _ := hs
        replace hbp : Hid _ := hbp
        replace ht2 : Hid _ := ht2
        replace ht1 : Hid _ := ht1
        replace e4 : Hid _ := e4
        replace hs2 : Hid _ := hs2
        replace hb2 : Hid _ := hb2
        clear e3
        go_wp2
        go_round
        case rel =>
          have r1 := hst.out.2 hc.out
          have hs := hs.out
          refine ⟨j, s, l, rfl, rfl, by rw [hend.out], by omega, ?_, ?_, hl.out, ?_⟩
          · rw [← hb.out]; exact hsj.out
          · rw [← hb.out]; omega
          · rw [← hb.out]; exact r1
        case measure => have := e4.out; simp [intOf]; omega

end Go.Proofs.Ygcoai
