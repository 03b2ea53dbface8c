/-
  Seat gcoai. ryu.Log10Pow2 (17), law.Log10Right (10).
-/
import Derived.Test.YgcoaiCmpFrac
import Derived.Test.YgcoaiLog10Math
namespace Go.Proofs.Ygcoai
open Go.RowKit

theorem pow2_any (w : World) (k : Int) (h1 : -65535 ≤ k) (h2 : k ≤ 65535) :
    Calls Oaig.prog 18 #[.int .i64 k] w fun e w' => ∃ nv dv, e = .returned (.agg #[.bool false, nv, dv]) ∧ Ext w w' ∧ NatV w' nv (2 ^ k.toNat) ∧ NatV w' dv (2 ^ (-k).toNat) := by
  rcases (show k < 0 ∨ 0 ≤ k from by omega) with h | h
  · obtain ⟨n, rfl⟩ : ∃ n : Nat, k = -(n : Int) := ⟨(-k).toNat, by omega⟩
    refine (pow2_neg w n (by omega) (by omega)).mono ?_
    rintro e w' ⟨nv, dv, rfl, hext, hn, hd⟩
    exact ⟨nv, dv, rfl, hext, by rw [show (-(n : Int)).toNat = 0 from by omega]; exact hn, by rw [show (-(-(n : Int))).toNat = n from by omega]; exact hd⟩
  · obtain ⟨n, rfl⟩ := Int.eq_ofNat_of_zero_le h
    refine (pow2_pos w n (by omega)).mono ?_
    rintro e w' ⟨nv, dv, rfl, hext, hn, hd⟩
    exact ⟨nv, dv, rfl, hext, by rw [show ((n : Int)).toNat = n from by omega]; exact hn, by rw [show (-(n : Int)).toNat = 0 from by omega]; exact hd⟩

theorem pow10_any (w : World) (k : Int) (h1 : -65535 ≤ k) (h2 : k ≤ 65535) :
    Calls Oaig.prog 20 #[.int .i64 k] w fun e w' => ∃ nv dv, e = .returned (.agg #[.bool false, nv, dv]) ∧ Ext w w' ∧ NatV w' nv (10 ^ k.toNat) ∧ NatV w' dv (10 ^ (-k).toNat) := by
  rcases (show k < 0 ∨ 0 ≤ k from by omega) with h | h
  · obtain ⟨n, rfl⟩ : ∃ n : Nat, k = -(n : Int) := ⟨(-k).toNat, by omega⟩
    refine (pow10_neg w n (by omega) (by omega)).mono ?_
    rintro e w' ⟨nv, dv, rfl, hext, hn, hd⟩
    exact ⟨nv, dv, rfl, hext, by rw [show (-(n : Int)).toNat = 0 from by omega]; exact hn, by rw [show (-(-(n : Int))).toNat = n from by omega]; exact hd⟩
  · obtain ⟨n, rfl⟩ := Int.eq_ofNat_of_zero_le h
    refine (pow10_pos w n (by omega)).mono ?_
    rintro e w' ⟨nv, dv, rfl, hext, hn, hd⟩
    exact ⟨nv, dv, rfl, hext, by rw [show ((n : Int)).toNat = n from by omega]; exact hn, by rw [show (-(n : Int)).toNat = 0 from by omega]; exact hd⟩

theorem lt32_pow2 (m : Nat) : Lt32 (2 ^ m) (m / 32 + 1) := by
  have := (lt32_one 1 (by omega)).shl (k := m)
  rw [Nat.one_mul] at this
  unfold Lt32 at *
  rw [show (4294967296 : Nat) = 2 ^ 32 from by decide, ← Nat.pow_mul]
  exact Nat.pow_lt_pow_right (by decide) (by omega)
theorem lt32_pow10 (m : Nat) : Lt32 (10 ^ m) (m / 10 + 1 + (m / 32 + 1)) := by
  rw [show (10 : Nat) = 5 * 2 from by decide, Nat.mul_pow]
  exact (lt32_pow5 m).mul (lt32_pow2 m)

theorem log10_out (w : World) (e : Int) (h : e < -1100 ∨ 1030 < e) : Calls Oaig.prog 17 #[.int .i16 e] w fun r w' => r = .returned (.int .i16 0) ∧ w = w' := by
  rcases h with h | h
  · go_enter Oaig.func17, Oaig.ntmps17
    go_wp2
    go_ret
    exact ⟨rfl, rfl⟩
  · have h' : ¬ e < -1100 := by omega
    go_enter Oaig.func17, Oaig.ntmps17
    go_wp2
    go_ret
    exact ⟨rfl, rfl⟩

theorem log10_in (w : World) (e : Int) (h1 : -1100 ≤ e) (h2 : e ≤ 1030) : Calls Oaig.prog 17 #[.int .i16 e] w fun r w' => r = .returned (.int .i16 (e * 315653 / 1048576)) ∧ w = w' := by
  go_enter Oaig.func17, Oaig.ntmps17
  go_wp2
  go_ret
  exact ⟨rfl, rfl⟩

set_option maxHeartbeats 1000000 in
theorem log10Right_in (w : World) (e p : Int) (h1 : -1100 ≤ e) (h2 : e ≤ 1030) (p1 : -400 ≤ p) (p2 : p ≤ 400) (hp : Hid (e * 315653 / 1048576 = p))
    (hle : 10 ^ p.toNat * 2 ^ (-e).toNat ≤ 2 ^ e.toNat * 10 ^ (-p).toNat) (hlt : 2 ^ e.toNat * 10 ^ (-(p + 1)).toNat < 10 ^ (p + 1).toNat * 2 ^ (-e).toNat) :
    Calls Oaig.prog 10 #[.int .i16 e] w fun r w' => r = .returned (.bool true) ∧ Ext w w' := by
  have hA : cmpI (10 ^ p.toNat * 2 ^ (-e).toNat) (2 ^ e.toNat * 10 ^ (-p).toNat) ≤ 0 := by unfold cmpI; split; (· omega); split <;> omega
  have hB : cmpI (2 ^ e.toNat * 10 ^ (-(p + 1)).toNat) (10 ^ (p + 1).toNat * 2 ^ (-e).toNat) < 0 := by rw [cmpI_lt hlt]; decide
  have la : Lt32 (10 ^ p.toNat) 200 := (lt32_pow10 _).mono (Nat.le_refl _) (by omega)
  have lb : Lt32 (10 ^ (-p).toNat) 200 := (lt32_pow10 _).mono (Nat.le_refl _) (by omega)
  have lc : Lt32 (10 ^ (p + 1).toNat) 200 := (lt32_pow10 _).mono (Nat.le_refl _) (by omega)
  have ld : Lt32 (10 ^ (-(p + 1)).toNat) 200 := (lt32_pow10 _).mono (Nat.le_refl _) (by omega)
  have le' : Lt32 (2 ^ e.toNat) 200 := (lt32_pow2 _).mono (Nat.le_refl _) (by omega)
  have lf : Lt32 (2 ^ (-e).toNat) 200 := (lt32_pow2 _).mono (Nat.le_refl _) (by omega)
  clear hle hlt
  go_enter Oaig.func10, Oaig.ntmps10
  go_wp2_with fail
  refine (log10_in _ e h1 h2).mono ?_
  rintro r w' ⟨rfl, rfl⟩
  rw [hp.out]
  go_wp2_with fail
  refine (pow2_any _ e (by omega) (by omega)).mono ?_
  rintro r w1 ⟨nv, dv, rfl, hext1, hn, hd⟩
  obtain ⟨ao1, n1, k1, rfl⟩ := hn.form
  obtain ⟨ao2, n2, k2, rfl⟩ := hd.form
  go_wp2_with fail
  obtain ⟨W, hW⟩ : ∃ W, W = w1.alloc (.cells #[.bool false, .slice ao1 n1 k1, .slice ao2 n2 k2] 40) := ⟨_, rfl⟩
  have h0 : Ext w1 W := by rw [hW]; exact (Ext.refl w1).alloc _ _
  have ca0 : ∀ w', Ext W w' → w'.cell? ⟨w1.heap.size, 0, none⟩ = some (.bool false) := fun w' h => h.cell (by rw [hW]; simp [go_sem])
  have ca1 : ∀ w', Ext W w' → w'.cell? ⟨w1.heap.size, 1, none⟩ = some (.slice ao1 n1 k1) := fun w' h => h.cell (by rw [hW]; simp [go_sem])
  have ca2 : ∀ w', Ext W w' → w'.cell? ⟨w1.heap.size, 2, none⟩ = some (.slice ao2 n2 k2) := fun w' h => h.cell (by rw [hW]; simp [go_sem])
  have hwr : IntKind.i64.wrap (p + 1) = p + 1 := by rw [IntKind.wrap_i64]; omega
  rw [← hW]
  clear hW
  go_region_held3 (fun w' => Ext W w') (first | assumption | exact (Ext.refl _).drew) (first
    | (go_at_call_of 20 (Value.int IntKind.i64 p); refine (pow10_any _ p (by omega) (by omega)).mono ?_; rintro r w3 ⟨nv3, dv3, rfl, hext3, hn3, hd3⟩; have hq3 : Ext W w3 := Ext.trans (by assumption) hext3; obtain ⟨ao3, n3, k3, rfl⟩ := hn3.form; obtain ⟨ao4, n4, k4, rfl⟩ := hd3.form)
    | (go_at_call 20; (try rw [hwr]); refine (pow10_any _ (p + 1) (by omega) (by omega)).mono ?_; rintro r w5 ⟨nv5, dv5, rfl, hext5, hn5, hd5⟩; have hq5 : Ext W w5 := Ext.trans (by assumption) hext5; obtain ⟨ao5, n5, k5, rfl⟩ := hn5.form; obtain ⟨ao6, n6, k6, rfl⟩ := hd5.form)
    | (go_at_call 19; refine (cmpFrac_any _ _ _ _ _ _ _ _ _ 200 (hn.ext (h0.trans hq5)) (hd.ext (h0.trans hq5)) hn5 hd5 le' lf lc ld (by omega)).mono ?_; rintro r w6 ⟨rfl, hext6⟩; have hq6 : Ext W w6 := Ext.trans (by assumption) hext6)
    | (go_at_call 19; refine (cmpFrac_any _ _ _ _ _ _ _ _ _ 200 hn3 hd3 (hn.ext (h0.trans hq3)) (hd.ext (h0.trans hq3)) la lb le' lf (by omega)).mono ?_; rintro r w4 ⟨rfl, hext4⟩; have hq4 : Ext W w4 := Ext.trans (by assumption) hext4))
  go_wp2
  go_ret
  exact ⟨rfl, hext1.trans (h0.trans hq6)⟩

theorem log10Right_out (w : World) (e : Int) (h : e < -1100 ∨ 1030 < e) : Calls Oaig.prog 10 #[.int .i16 e] w fun r w' => r = .returned (.bool true) ∧ Ext w w' := by
  rcases h with h | h
  · go_enter Oaig.func10, Oaig.ntmps10
    go_wp2_with fail
    refine (log10_out _ e (Or.inl h)).mono ?_
    rintro r w' ⟨rfl, rfl⟩
    go_wp2
    go_ret
    exact ⟨rfl, Ext.refl _⟩
  · have h' : ¬ e < -1100 := by omega
    go_enter Oaig.func10, Oaig.ntmps10
    go_wp2_with fail
    refine (log10_out _ e (Or.inr h)).mono ?_
    rintro r w' ⟨rfl, rfl⟩
    go_wp2
    go_ret
    exact ⟨rfl, Ext.refl _⟩

/-- law.Log10Right. -/
theorem log10Right_any (w : World) (e : Int) : Calls Oaig.prog 10 #[.int .i16 e] w fun r w' => r = .returned (.bool true) ∧ Ext w w' := by
  by_cases h : e < -1100 ∨ 1030 < e
  · exact log10Right_out w e h
  · obtain ⟨p1, p2, ha, hb⟩ := lg_int e (by omega) (by omega) _ rfl
    exact log10Right_in w e _ (by omega) (by omega) p1 p2 rfl ha hb

#print axioms log10Right_any

end Go.Proofs.Ygcoai
