/-
  Seat gcoai. nat.Cmp (54).
-/
import Derived.Test.YgcoaiTrim
import Derived.Deep.QuietTactic
import Derived.BigQuiet
namespace Go.Proofs.Ygcoai
open Go.RowKit

/-- -1, 0 or 1 as x is less than, equal to or greater than y. -/
def cmpI (x y : Nat) : Int := if x < y then -1 else if x = y then 0 else 1

theorem cmpI_lt {x y : Nat} (h : x < y) : cmpI x y = -1 := by unfold cmpI; rw [if_pos h]
theorem cmpI_gt {x y : Nat} (h : y < x) : cmpI x y = 1 := by unfold cmpI; rw [if_neg (by omega), if_neg (by omega)]
theorem cmpI_eq {x y : Nat} (h : x = y) : cmpI x y = 0 := by unfold cmpI; rw [if_neg (by omega), if_pos h]

theorem vf_lt_up {f g : Nat → Nat} {k n : Nat} (hk : k ≤ n) (h : vf f k < vf g k) (he : ∀ j, k ≤ j → j < n → f j = g j) : vf f n < vf g n := by
  induction n with
  | zero => obtain rfl : k = 0 := by omega
            exact h
  | succ m ih =>
    rcases Nat.lt_or_ge m k with hm | hm
    · obtain rfl : k = m + 1 := by omega
      exact h
    · have h1 := ih hm (fun j h1 h2 => he j h1 (by omega))
      rw [vf, vf, he m hm (by omega)]
      omega

theorem vf_lt_at {f g : Nat → Nat} {k : Nat} (hf : ∀ j, j < k → f j < 4294967296) (h : f k < g k) : vf f (k + 1) < vf g (k + 1) := by
  rw [vf, vf]
  have h1 := vf_lt hf
  have h2 : (f k + 1) * 4294967296 ^ k ≤ g k * 4294967296 ^ k := Nat.mul_le_mul_right _ (by omega)
  rw [Nat.add_mul] at h2
  omega

theorem vf_lt_len {f g : Nat → Nat} {n m : Nat} (hf : ∀ j, j < n → f j < 4294967296) (hg : Norm g m) (h : n < m) : vf f n < vf g m := by
  have h1 := vf_lt hf
  have h2 := norm_pos hg (by omega)
  have h3 : 4294967296 ^ n ≤ 4294967296 ^ (m - 1) := Nat.pow_le_pow_right (by decide) (by omega)
  omega

set_option maxHeartbeats 400000 in
theorem cmp_any {w : World} {a b : Value} {x y L : Nat} (ha : NatV w a x) (hb : NatV w b y) (hx : Lt32 x L) (hy : Lt32 y L) (hL : L ≤ 100000) :
    Calls Oaig.prog 54 #[a, b] w fun e w' => e = .returned (.int .i8 (cmpI x y)) ∧ Ext w w' := by
  have hA := ha
  have hB := hb
  obtain ⟨n, f, ⟨hf, ao, c, rfl, _, hca⟩, hn, _, rfl⟩ := ha
  obtain ⟨m, g, ⟨hg, bo, d, rfl, _, hcb⟩, hm, _, rfl⟩ := hb
  have hnL := norm_len hn hx
  have hmL := norm_len hm hy
  rcases Nat.lt_trichotomy n m with h | h | h
  · have hv := cmpI_lt (vf_lt_len hf hm h)
    have h1 : ((n : Int) != (m : Int)) = true := by rw [bne_iff_ne]; omega
    go_enter Oaig.func54, Oaig.ntmps54
    go_wp2_with fail
    refine (trim_id hA hx (by omega)).mono ?_
    rintro e w' ⟨rfl, rfl⟩
    go_wp2_with fail
    refine (trim_id hB hy (by omega)).mono ?_
    rintro e w' ⟨rfl, rfl⟩
    go_wp2
    go_ret
    exact ⟨ret_int hv.symm, Ext.refl _⟩
  · subst h
    go_enter Oaig.func54, Oaig.ntmps54
    go_wp2_with fail
    refine (trim_id hA hx (by omega)).mono ?_
    rintro e w' ⟨rfl, rfl⟩
    go_wp2_with fail
    refine (trim_id hB hy (by omega)).mono ?_
    rintro e w' ⟨rfl, rfl⟩
    go_wp2
    go_loopw [5] (fun i wr => ∃ k : Nat, k ≤ n ∧ i = .int .i64 ((k : Int) - 1) ∧ (∀ j, k ≤ j → j < n → f j = g j) ∧ Ext w wr) (fun i _ => (intOf i + 1).toNat)
    case atStart => exact ⟨n, Nat.le_refl _, rfl, fun j h1 h2 => by omega, Ext.refl w⟩
    case round =>
      obtain ⟨k, hk, rfl, he, hext⟩ := hrel
      rcases Nat.eq_zero_or_pos k with h0 | h0
      · subst h0
        have hv := cmpI_eq (vf_congr (n := n) fun j hj => he j (by omega) hj)
        go_wp2
        go_ret
        exact ⟨ret_int hv.symm, hext⟩
      · obtain ⟨j, rfl⟩ : ∃ j, k = j + 1 := ⟨k - 1, by omega⟩
        obtain ⟨ba, oa, rfl, hka⟩ := hca (by omega)
        obtain ⟨bb, ob, rfl, hkb⟩ := hcb (by omega)
        have hca' := hext.cell (hka j (by omega))
        have hcb' := hext.cell (hkb j (by omega))
        rcases Nat.lt_trichotomy (f j) (g j) with h | h | h
        · have hv := cmpI_lt (vf_lt_up hk (vf_lt_at (fun i hi => hf i (by omega)) h) he)
          clear hf hg hca hcb he hka hkb
          go_wp2_with fail
          go_quiet (fail)
          go_wp2
          go_ret
          exact ⟨ret_int hv.symm, hext.drewN _⟩
        · have he' : ∀ i, j ≤ i → i < n → f i = g i := fun i h1 h2 => by
            rcases Nat.eq_or_lt_of_le h1 with h3 | h3
            · rw [← h3]; exact h
            · exact he i h3 h2
          clear hf hg hca hcb he hka hkb
          have h1 : ¬ ((f j : Int) < (g j : Int)) := by omega
          have h2 : ¬ ((g j : Int) < (f j : Int)) := by omega
          clear h
          go_wp2_with fail
          go_quiet (fail)
          go_wp2_with fail
          go_quiet (fail)
          go_wp2
          go_roundw
          case rel => exact ⟨j, by omega, by go_num, he', hext.drewN _⟩
          case measure => simp [intOf]
        · have hv := cmpI_gt (vf_lt_up hk (vf_lt_at (fun i hi => hg i (by omega)) h) (fun i h1 h2 => (he i h1 h2).symm))
          clear hf hg hca hcb he hka hkb
          have h1 : ¬ ((f j : Int) < (g j : Int)) := by omega
          go_wp2_with fail
          go_quiet (fail)
          go_wp2_with fail
          go_quiet (fail)
          go_wp2
          go_ret
          exact ⟨ret_int hv.symm, (hext.drewN _).drewN _⟩
  · have hv := cmpI_gt (vf_lt_len hg hn h)
    have h1 : ((n : Int) != (m : Int)) = true := by rw [bne_iff_ne]; omega
    go_enter Oaig.func54, Oaig.ntmps54
    go_wp2_with fail
    refine (trim_id hA hx (by omega)).mono ?_
    rintro e w' ⟨rfl, rfl⟩
    go_wp2_with fail
    refine (trim_id hB hy (by omega)).mono ?_
    rintro e w' ⟨rfl, rfl⟩
    go_wp2
    go_ret
    exact ⟨ret_int hv.symm, Ext.refl _⟩

#print axioms cmp_any
end Go.Proofs.Ygcoai
