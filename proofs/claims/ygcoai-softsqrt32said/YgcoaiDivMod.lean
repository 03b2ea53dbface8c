/-
  Seat gcoai. nat.DivMod (63).
-/
import Derived.Test.YgcoaiDivLong
import Derived.Test.YgcoaiFrom
namespace Go.Proofs.Ygcoai
open Go.RowKit

theorem mod_wrap {x d : Nat} (hd : 0 < d) (hl : d < 4294967296) : IntKind.u64.wrap ((x : Int) % (d : Int)) = ((x % d : Nat) : Int) := by
  have h := Nat.mod_lt x hd
  rw [← Int.natCast_emod, IntKind.wrap_u64]
  generalize x % d = r at h
  omega

set_option maxHeartbeats 1000000 in
theorem divMod_lt {w : World} {a b : Value} {x y L : Nat} (ha : NatV w a x) (hb : NatV w b y) (hx : Lt32 x L) (hy : Lt32 y L) (hL : L ≤ 50000) (h : x < y) :
    Calls Oaig.prog 63 #[a, b] w fun e w' => ∃ qv rv, e = .returned (.tuple #[qv, rv, .bool true]) ∧ Ext w w' ∧ NatV w' qv 0 ∧ NatV w' rv x := by
  have q38 := eqnil38
  have hc := cmpI_lt h
  obtain ⟨ao, n, c, rfl, hn⟩ : ∃ ao n c, b = .slice (some ao) n c ∧ 1 ≤ n := by
    obtain ⟨n, f, ⟨_, ao, c, hv, _, h2⟩, _, _, hvf⟩ := hb
    have hn : n ≠ 0 := by intro h0; subst h0; rw [vf] at hvf; omega
    obtain ⟨bb, oo, rfl, _⟩ := h2 hn
    exact ⟨_, n, c, hv, by omega⟩
  go_enter Oaig.func63, Oaig.ntmps63
  go_wp2_with fail
  refine (trim_id ha hx (by omega)).mono ?_
  rintro e w' ⟨rfl, rfl⟩
  go_wp2_with fail
  refine (trim_id hb hy (by omega)).mono ?_
  rintro e w' ⟨rfl, rfl⟩
  go_wp2_with fail
  refine (cmp_any ha hb hx hy (by omega)).mono ?_
  rintro e w1 ⟨rfl, hext1⟩
  rw [hc]
  go_wp2_with fail
  refine (take_natV (ha.ext hext1) hx (by omega)).mono ?_
  rintro e w2 ⟨v2, rfl, hext2, hv2⟩
  go_wp2
  go_ret3
  exact ⟨_, _, rfl, hext1.trans hext2, natV_nil _, hv2⟩

set_option maxHeartbeats 1000000 in
theorem divMod_ge {w : World} {a b : Value} {x y L : Nat} (ha : NatV w a x) (hb : NatV w b y) (hx : Lt32 x L) (hy : Lt32 y L) (hL : L ≤ 50000) (h : y ≤ x) (h0 : y ≠ 0) :
    Calls Oaig.prog 63 #[a, b] w fun e w' => ∃ qv rv, e = .returned (.tuple #[qv, rv, .bool true]) ∧ Ext w w' ∧ NatV w' qv (x / y) ∧ NatV w' rv (x % y) := by
  have q38 := eqnil38
  have hA := ha
  have hB := hb
  have hcmp : 0 ≤ cmpI x y := by unfold cmpI; split; (· omega); split <;> omega
  obtain ⟨m, f, ⟨hf, ao, c, rfl, _, hca⟩, hm, _, rfl⟩ := ha
  obtain ⟨n, g, ⟨hg, bo, d, rfl, _, hcb⟩, hn, _, rfl⟩ := hb
  have hmL := norm_len hm hx
  have hnL := norm_len hn hy
  have hn0 : n ≠ 0 := by intro h1; subst h1; exact h0 rfl
  have hnm : n ≤ m := by
    rcases Nat.lt_or_ge m n with h' | h'
    · have := vf_lt_len hf hn h'; omega
    · exact h'
  obtain ⟨ba, oa, rfl, hka⟩ := hca (by omega)
  obtain ⟨bb, ob, rfl, hkb⟩ := hcb hn0
  by_cases h1 : n = 1
  · subst h1
    have hy1 : vf g 1 = g 0 := by simp [vf]
    have hg0 := hg 0 (by omega)
    have hkb0 := hkb 0 (by omega)
    rw [Nat.add_zero] at hkb0
    rw [hy1] at h0
    have hy1' : Hid _ := hy1
    clear hy1 hg hcb hca hkb
    go_enter Oaig.func63, Oaig.ntmps63
    go_wp2_with fail
    refine (trim_id hA hx (by omega)).mono ?_
    rintro e w' ⟨rfl, rfl⟩
    go_wp2_with fail
    refine (trim_id hB hy (by omega)).mono ?_
    rintro e w' ⟨rfl, rfl⟩
    go_wp2_with fail
    refine (cmp_any hA hB hx hy (by omega)).mono ?_
    rintro e w1 ⟨rfl, hext1⟩
    have hkb1 := hext1.cell hkb0
    go_wp2_with fail
    refine (divLimb_any (g 0) (by omega) hg0 (by omega) hf (fun i hi => hext1.cell (hka i hi))).mono ?_
    rintro e w2 ⟨v2, rfl, hext2, hv2⟩
    go_wp2_with fail
    refine (fromU64_int _ (vf f m % g 0) _ (by have := Nat.mod_lt (vf f m) (show 0 < g 0 by omega); omega) (mod_wrap (by omega) hg0)).mono ?_
    rintro e w3 ⟨v3, rfl, hext3, hv3⟩
    go_wp2
    go_ret3
    rw [hy1'.out]
    exact ⟨_, _, rfl, hext1.trans (hext2.trans hext3), hv2.ext hext3, hv3⟩
  · have h2 : ((n : Int) == 1) = false := by rw [beq_eq_false_iff_ne]; omega
    go_enter Oaig.func63, Oaig.ntmps63
    go_wp2_with fail
    refine (trim_id hA hx (by omega)).mono ?_
    rintro e w' ⟨rfl, rfl⟩
    go_wp2_with fail
    refine (trim_id hB hy (by omega)).mono ?_
    rintro e w' ⟨rfl, rfl⟩
    go_wp2_with fail
    refine (cmp_any hA hB hx hy (by omega)).mono ?_
    rintro e w1 ⟨rfl, hext1⟩
    go_wp2_with fail
    refine (divLong_any (hA.ext hext1) (hB.ext hext1) hmL hL (by omega) hnm hf hg hx hy (hn hn0) (fun i hi => hext1.cell (hkb i hi))).mono ?_
    rintro e w2 ⟨qv, rv, rfl, hext2, hq, hr⟩
    go_wp2
    go_ret3
    exact ⟨_, _, rfl, hext1.trans hext2, hq, hr⟩

/-- nat.DivMod. -/
theorem divMod_any {w : World} {a b : Value} {x y L : Nat} (ha : NatV w a x) (hb : NatV w b y) (hx : Lt32 x L) (hy : Lt32 y L) (hL : L ≤ 50000) (h0 : y ≠ 0) :
    Calls Oaig.prog 63 #[a, b] w fun e w' => ∃ qv rv, e = .returned (.tuple #[qv, rv, .bool true]) ∧ Ext w w' ∧ NatV w' qv (x / y) ∧ NatV w' rv (x % y) := by
  rcases Nat.lt_or_ge x y with h | h
  · refine (divMod_lt ha hb hx hy hL h).mono ?_
    rintro e w' ⟨qv, rv, rfl, hext, hq, hr⟩
    exact ⟨qv, rv, rfl, hext, by rw [Nat.div_eq_of_lt h]; exact hq, by rw [Nat.mod_eq_of_lt h]; exact hr⟩
  · exact divMod_ge ha hb hx hy hL h h0

#print axioms divMod_any
end Go.Proofs.Ygcoai
