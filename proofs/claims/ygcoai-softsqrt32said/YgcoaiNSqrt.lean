/-
  Seat gcoai. nat.Sqrt (131): Newton's steps on big numbers.
-/
import Derived.Test.YgcoaiDivMod
import Derived.Test.YgcoaiWRoot
import Derived.Test.YgcoaiShr
import Derived.Test.YgcoaiBits
import Derived.Test.YgcoaiExRf
namespace Go.Proofs.Ygcoai
open Go.RowKit

theorem NatV.unique {w : World} {v : Value} {x y : Nat} (h : NatV w v x) (k : NatV w v y) : x = y := by
  obtain ⟨n, f, ⟨hf, ao, c, rfl, _, hc⟩, _, _, rfl⟩ := h
  obtain ⟨m, g, ⟨hg, ao', c', he, _, hc'⟩, _, _, rfl⟩ := k
  injection he with e1 e2 e3
  subst e1
  have e2' : n = m := by omega
  subst e2'
  apply vf_congr
  intro i hi
  obtain ⟨b, o, rfl, h1⟩ := hc (by omega)
  obtain ⟨b', o', he', h2⟩ := hc' (by omega)
  injection he' with he'
  injection he' with i1 i2
  subst i1 i2
  have h3 := h1 i hi
  have h4 := h2 i hi
  rw [h3] at h4
  injection h4 with h4
  injection h4 with _ h4
  exact_mod_cast h4

open Classical in
/-- The number that a slice value holds, if any. -/
noncomputable def natOf (w : World) (v : Value) : Nat := if h : ∃ x, NatV w v x then h.choose else 0
theorem natOf_eq {w : World} {v : Value} {x : Nat} (h : NatV w v x) : natOf w v = x := by
  unfold natOf
  have h' : ∃ x, NatV w v x := ⟨x, h⟩
  rw [dif_pos h']
  exact h'.choose_spec.unique h

/-- One step of Newton never goes below the root. -/
theorem newton_ge {a s r : Nat} (hs : 0 < s) (hr : r * r ≤ a) : r ≤ (s + a / s) / 2 := by
  have hq := Nat.div_add_mod a s
  have hm := Nat.mod_lt a hs
  generalize a / s = q at *
  generalize a % s = m at *
  rcases Nat.lt_or_ge ((s + q) / 2) r with h | h
  · exfalso
    have h1 : s + q + 1 ≤ 2 * r := by omega
    rcases Nat.le_total s r with hl | hl
    · obtain ⟨d, rfl⟩ : ∃ d, r = s + d := ⟨r - s, by omega⟩
      have h2 : q + 1 ≤ s + 2 * d := by omega
      have h3 := Nat.mul_le_mul_left s h2
      have e1 : s * (q + 1) = s * q + s := by grind
      have e2 : s * (s + 2 * d) + d * d = (s + d) * (s + d) := by grind
      omega
    · obtain ⟨d, rfl⟩ : ∃ d, s = r + d := ⟨s - r, by omega⟩
      have h2 : q + 1 + d ≤ r := by omega
      have h3 := Nat.mul_le_mul_left (r + d) (show q + 1 ≤ r - d by omega)
      have e1 : (r + d) * (q + 1) = (r + d) * q + (r + d) := by grind
      have e2 : (r + d) * (r - d) + d * d = r * r := by
        obtain ⟨t, rfl⟩ : ∃ t, r = d + t := ⟨r - d, by omega⟩
        rw [Nat.add_sub_cancel_left]; grind
      omega
  · exact h

/-- Where a step does not fall, the root is reached. -/
theorem newton_stop {a s r : Nat} (hs : 0 < s) (hr : IsRoot r a) (hrs : r ≤ s) (h : s ≤ (s + a / s) / 2) : IsRoot s a := by
  have h1 : s ≤ a / s := by omega
  have h2 : s * s ≤ a := by
    have := (Nat.le_div_iff_mul_le hs).1 h1
    exact this
  refine ⟨h2, ?_⟩
  have h3 := Nat.mul_le_mul (show r + 1 ≤ s + 1 by omega) (show r + 1 ≤ s + 1 by omega)
  have := hr.2
  omega

/-- There is a root. -/
theorem root_ex (a : Nat) : ∃ r, IsRoot r a := by
  induction a with
  | zero => exact ⟨0, by decide, by decide⟩
  | succ n ih =>
    obtain ⟨r, h1, h2⟩ := ih
    by_cases h : n + 1 < (r + 1) * (r + 1)
    · exact ⟨r, by omega, h⟩
    · refine ⟨r + 1, by omega, ?_⟩
      have e : (r + 1 + 1) * (r + 1 + 1) = (r + 1) * (r + 1) + 2 * r + 3 := by grind
      omega

theorem start_ge {a r : Nat} (h : IsRoot r a) : r ≤ 2 ^ ((bl a + 1) / 2) := by
  rcases Nat.lt_or_ge (2 ^ ((bl a + 1) / 2)) r with hl | hl
  · exfalso
    have h1 := Nat.mul_le_mul (Nat.le_of_lt hl) (Nat.le_of_lt hl)
    rw [← Nat.pow_add] at h1
    have h2 : 2 ^ bl a ≤ 2 ^ ((bl a + 1) / 2 + (bl a + 1) / 2) := Nat.pow_le_pow_right (by decide) (by omega)
    have h3 := bl_lt a
    have := h.1
    omega
  · exact hl

set_option maxRecDepth 20000 in
set_option maxHeartbeats 4000000 in
/-- nat.Sqrt of a number that is not zero. -/
theorem nsqrt_any {w : World} {a : Value} {x L : Nat} (ha : NatV w a x) (hx : Lt32 x L) (hL : L ≤ 1000) (h0 : x ≠ 0) :
    Calls Oaig.prog 131 #[a] w fun e w' => ∃ v b r, e = .returned (.tuple #[v, .bool b]) ∧ Ext w w' ∧ NatV w' v r ∧ IsRoot r x := by
  obtain ⟨ao, n, c, rfl⟩ := ha.form
  have e3 := ha.notNil h0
  have q38 : ∀ (w : World) (n' c' : Nat), (binOp .eql 38 (.slice ao n c) (.slice none n' c')).run Oaig.prog w = .ok (.bool false) w := by
    intro w n' c'; rw [← e3]; exact eqnil38 w ao n c n' c'
  clear e3
  obtain ⟨r, hr⟩ := root_ex x
  have hr0 : 0 < r := by
    rcases Nat.eq_zero_or_pos r with h | h
    · rw [h] at hr; have := hr.2; omega
    · exact h
  have hst := start_ge hr
  have hbl : bl x ≤ 32 * L := bl_le_of_lt (by have := hx; unfold Lt32 at this; rw [show (4294967296 : Nat) = 2 ^ 32 from by decide, ← Nat.pow_mul] at this; exact this)
  obtain ⟨k, hk⟩ : ∃ k, k = (bl x + 1) / 2 := ⟨_, rfl⟩
  rw [← hk] at hst
  have hk2 : k ≤ 32 * L := by omega
  have hS0 : ∀ s, s ≤ 2 ^ k → Lt32 s (L + 1) := by
    intro s hs
    unfold Lt32
    rw [show (4294967296 : Nat) = 2 ^ 32 from by decide, ← Nat.pow_mul]
    exact Nat.lt_of_le_of_lt hs (Nat.pow_lt_pow_right (by decide) (by omega))
  have f1 : ((bl x : Int) + 1) / 2 = (k : Int) := by omega
  have f1' : ((bl x : Int) + 1).tdiv 2 = (k : Int) := by rw [Int.tdiv_eq_ediv_of_nonneg (by omega)]; exact f1
  replace hbl : bl x ≤ 40000 := by omega
  clear hk
  replace hS0 : Hid _ := hS0
  replace hst : Hid _ := hst
  go_enter Oaig.func131, Oaig.ntmps131
  go_wp2_with fail
  refine (trim_id ha hx (by omega)).mono ?_
  rintro e w' ⟨rfl, rfl⟩
  go_wp2_with fail
  refine (bitLen_any (ha.ext ((Ext.refl w).alloc _ _)) hx (by omega)).mono ?_
  rintro e w' ⟨rfl, rfl⟩
  go_wp2_with fail
  refine (lift_any (natV_lit1 w 1 1 (by decide) (by decide) rfl) (lt32_one 1 (by decide)) (by decide) k (by omega)).mono ?_
  rintro e w1 ⟨v1, rfl, hext1, hv1⟩
  rw [Nat.one_mul] at hv1
  have hw1 := hext1.of_alloc
  go_wp2_with fail
  go_loopw [2] (fun cs wr => ∃ s, NatV wr cs s ∧ r ≤ s ∧ s ≤ 2 ^ k ∧ Ext w wr) (fun cs wr => natOf wr cs)
  case atStart => exact ⟨2 ^ k, hv1, hst.out, Nat.le_refl _, hw1⟩
  case round =>
    clear hv1 hext1 hw1
    obtain ⟨s, hs, hrs, hsk, hext⟩ := hrel
    obtain ⟨ao2, n2, c2, rfl⟩ := hs.form
    have hm0 : Hid _ := natOf_eq hs
    have hls := hS0.out s hsk
    have hsp : 0 < s := by omega
    go_wp2_with fail
    refine (divMod_any (ha.ext hext) hs (hx.mono (Nat.le_refl _) (Nat.le_succ L)) hls (by omega) (by omega)).mono ?_
    rintro e w2 ⟨qv, rv, rfl, hext2, hq, _⟩
    have hlq : Lt32 (x / s) (L + 1) := hx.mono (Nat.div_le_self _ _) (Nat.le_succ L)
    replace hs := hs.ext hext2
    go_wp2_with fail
    refine (add_any hs hq hls hlq (by omega)).mono ?_
    rintro e w3 ⟨sv, rfl, hext3, hsv⟩
    replace hs := hs.ext hext3
    go_wp2_with fail
    refine (shr_any hsv (hls.add hlq) (by omega) 1 (by decide)).mono ?_
    rintro e w4 ⟨nv, b, rfl, hext4, hnv⟩
    rw [Nat.pow_one] at hnv
    obtain ⟨ao4, n4, c4, rfl⟩ := hnv.form
    replace hs := hs.ext hext4
    have hge := newton_ge hsp hr.1
    have hext' := hext.trans (hext2.trans (hext3.trans hext4))
    clear hq hsv
    have hnl : (s + x / s) / 2 ≤ s → Lt32 ((s + x / s) / 2) (L + 1) := fun h => hls.mono h (Nat.le_refl _)
    have hnl2 : Lt32 ((s + x / s) / 2) (L + 2) := (hls.add hlq).mono (Nat.div_le_self _ _) (Nat.le_refl _)
    have hls2 : Lt32 s (L + 2) := hls.mono (Nat.le_refl _) (by omega)
    go_wp2_with fail
    refine (cmp_any hnv hs hnl2 hls2 (by omega)).mono ?_
    by_cases hc : s ≤ (s + x / s) / 2
    · have hroot := newton_stop hsp hr hrs hc
      have hcm : 0 ≤ cmpI ((s + x / s) / 2) s := by
        rcases Nat.lt_or_eq_of_le hc with h | h
        · rw [cmpI_gt h]; decide
        · rw [cmpI_eq h.symm]; decide
      rintro e w5 ⟨rfl, hext5⟩
      replace hs := hs.ext hext5
      replace hext' := hext'.trans hext5
      generalize cmpI ((s + x / s) / 2) s = cc at *
      have g1 : decide ((0 : Int) ≤ cc) = true := decide_eq_true hcm
      clear hcm hc hge hnv hnl hnl2 hext2 hext3 hext4 hext5
      go_wp2_with fail
      refine (mul_any hs hs hls hls (by omega)).mono ?_
      rintro e w6 ⟨mv, rfl, hext6, hmv⟩
      go_wp2_with fail
      refine (cmp_any hmv (ha.ext (hext'.trans hext6)) (hls.mul hls) (hx.mono (Nat.le_refl _) (show L ≤ L + 1 + (L + 1) by omega)) (by omega)).mono ?_
      rintro e w7 ⟨rfl, hext7⟩
      go_wp2
      go_ret2
      exact ⟨_, _, s, rfl, hext'.trans (hext6.trans hext7), hs.ext (hext6.trans hext7), hroot⟩
    · have hcm : cmpI ((s + x / s) / 2) s < 0 := by rw [cmpI_lt (by omega)]; decide
      rintro e w5 ⟨rfl, hext5⟩
      replace hnv := hnv.ext hext5
      replace hs := hs.ext hext5
      replace hext' := hext'.trans hext5
      generalize cmpI ((s + x / s) / 2) s = cc at *
      have g1 : decide ((0 : Int) ≤ cc) = false := decide_eq_false (by omega)
      generalize (s + x / s) / 2 = nx at *
      clear hcm hnl hnl2 hls2 hls hlq
      have hc' : Hid (nx < s) := Nat.lt_of_not_le hc
      have hge' : Hid _ := hge
      clear hc hge
      go_wp2
      go_roundw
      case rel => exact ⟨nx, hnv, hge'.out, by have := hc'.out; omega, hext'⟩
      case measure =>
        rw [natOf_eq hnv, hm0.out]
        exact hc'.out

end Go.Proofs.Ygcoai
