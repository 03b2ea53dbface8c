/-
  Seat gcoai. nat.Sub (55).
-/
import Derived.Test.YgcoaiCmp
namespace Go.Proofs.Ygcoai
open Go.RowKit

/-- The wide difference of one limb: its low half and its borrow. -/
def dlo (p q g : Nat) : Nat := (p + 18446744073709551616 - q - g) % 18446744073709551616 % 4294967296
def dhi (p q g : Nat) : Nat := (p + 18446744073709551616 - q - g) % 18446744073709551616 / 9223372036854775808
theorem dlo_lt (p q g : Nat) : dlo p q g < 4294967296 := by unfold dlo; omega
theorem dhi_le {p q g : Nat} : dhi p q g ≤ 1 := by unfold dhi; omega
theorem dif_eq {p q g : Nat} (hp : p < 4294967296) (hq : q ≤ 1) (hg : g < 4294967296) : dlo p q g + q + g = p + 4294967296 * dhi p q g := by unfold dlo dhi; omega
theorem dlo_int {p q g : Nat} (hp : p < 4294967296) (hq : q ≤ 1) (hg : g < 4294967296) : IntKind.u64.wrap (IntKind.u64.wrap ((p : Int) - q) - g) % 4294967296 = (dlo p q g : Nat) := by
  simp only [IntKind.wrap_u64]; unfold dlo; omega
theorem dhi_int {p q g : Nat} (hp : p < 4294967296) (hq : q ≤ 1) (hg : g < 4294967296) : IntKind.u64.wrap (IntKind.u64.wrap ((p : Int) - q) - g) / 9223372036854775808 = (dhi p q g : Nat) := by
  simp only [IntKind.wrap_u64]; unfold dhi; omega
theorem dlo_int0 {p q : Nat} (hp : p < 4294967296) (hq : q ≤ 1) : IntKind.u64.wrap ((p : Int) - q) % 4294967296 = (dlo p q 0 : Nat) := by
  simp only [IntKind.wrap_u64]; unfold dlo; omega
theorem dhi_int0 {p q : Nat} (hp : p < 4294967296) (hq : q ≤ 1) : IntKind.u64.wrap ((p : Int) - q) / 9223372036854775808 = (dhi p q 0 : Nat) := by
  simp only [IntKind.wrap_u64]; unfold dhi; omega

theorem sub_sum (P V G q t S x z : Nat) (hv : V + G = S + q * P) (g : Nat) (h : x + q + g = t + 4294967296 * z) : V + x * P + (G + g * P) = S + t * P + z * (P * 4294967296) := by
  have h2 : (x + q + g) * P = (t + 4294967296 * z) * P := by rw [h]
  rw [Nat.add_mul, Nat.add_mul, Nat.add_mul] at h2
  have h3 : z * (P * 4294967296) = 4294967296 * z * P := by rw [Nat.mul_comm P, ← Nat.mul_assoc, Nat.mul_comm z]
  omega

theorem sub_step_both {r f g : Nat → Nat} {k q m x z : Nat} (hlm : k < m) (hv : vf r k + vf g (min k m) = vf f k + q * 4294967296 ^ k) (h : x + q + g k = f k + 4294967296 * z) :
    vf (upd r k x) (k + 1) + vf g (min (k + 1) m) = vf f (k + 1) + z * 4294967296 ^ (k + 1) := by
  rw [Nat.min_eq_left (by omega : k ≤ m)] at hv
  rw [Nat.min_eq_left (by omega : k + 1 ≤ m), vf_upd, vf, vf, Nat.pow_succ]
  exact sub_sum _ _ _ q (f k) _ x z hv (g k) h

theorem sub_step_one {r f g : Nat → Nat} {k q m x z : Nat} (hlm : ¬ k < m) (hv : vf r k + vf g (min k m) = vf f k + q * 4294967296 ^ k) (h : x + q = f k + 4294967296 * z) :
    vf (upd r k x) (k + 1) + vf g (min (k + 1) m) = vf f (k + 1) + z * 4294967296 ^ (k + 1) := by
  rw [Nat.min_eq_right (by omega : m ≤ k)] at hv
  rw [Nat.min_eq_right (by omega : m ≤ k + 1), vf_upd, vf, Nat.pow_succ]
  have := sub_sum _ _ _ q (f k) _ x z hv 0 (by omega)
  omega

theorem sub_end {r f g : Nat → Nat} {n q m : Nat} (hmn : m ≤ n) (hle : vf g m ≤ vf f n) (hr : ∀ j, j < n → r j < 4294967296) (hv : vf r n + vf g (min n m) = vf f n + q * 4294967296 ^ n) :
    vf r n = vf f n - vf g m := by
  have h1 := vf_lt hr
  rw [Nat.min_eq_right hmn] at hv
  rcases Nat.eq_zero_or_pos q with h | h
  · subst h; omega
  · have : 1 * 4294967296 ^ n ≤ q * 4294967296 ^ n := Nat.mul_le_mul_right _ h
    omega

set_option maxHeartbeats 400000 in
theorem sub_lt {w : World} {a b : Value} {x y L : Nat} (ha : NatV w a x) (hb : NatV w b y) (hx : Lt32 x L) (hy : Lt32 y L) (hL : L ≤ 100000) (h : x < y) :
    Calls Oaig.prog 55 #[a, b] w fun e w' => e = .returned (.tuple #[.slice none 0 0, .bool false]) ∧ Ext w w' := by
  have hv := cmpI_lt h
  go_enter Oaig.func55, Oaig.ntmps55
  go_wp2_with fail
  refine (trim_id ha hx (by omega)).mono ?_
  rintro e w' ⟨rfl, rfl⟩
  go_wp2_with fail
  refine (trim_id hb hy (by omega)).mono ?_
  rintro e w' ⟨rfl, rfl⟩
  go_wp2_with fail
  refine (cmp_any ha hb hx hy hL).mono ?_
  rintro e w1 ⟨rfl, hext⟩
  go_wp2
  go_ret2
  exact ⟨rfl, hext⟩

set_option maxHeartbeats 400000 in
theorem sub_ge {w : World} {a b : Value} {x y L : Nat} (ha : NatV w a x) (hb : NatV w b y) (hx : Lt32 x L) (hy : Lt32 y L) (hL : L ≤ 100000) (h : y ≤ x) :
    Calls Oaig.prog 55 #[a, b] w fun e w' => ∃ v, e = .returned (.tuple #[v, .bool true]) ∧ Ext w w' ∧ NatV w' v (x - y) := by
  have hv : 0 ≤ cmpI x y := by unfold cmpI; split; (· omega); split <;> omega
  have hA := ha
  have hB := hb
  obtain ⟨n, f, ⟨hf, ao, c, rfl, _, hca⟩, hn, _, rfl⟩ := ha
  obtain ⟨m, g, ⟨hg, bo, d, rfl, _, hcb⟩, hm, _, rfl⟩ := hb
  have hnL := norm_len hn hx
  have hmn : m ≤ n := by
    rcases Nat.lt_or_ge n m with h' | h'
    · have := vf_lt_len hf hm h'; omega
    · exact h'
  have hmk := fun w => run_mk n (n : Int) rfl (by omega) w
  go_enter Oaig.func55, Oaig.ntmps55
  go_wp2_with fail
  refine (trim_id hA hx (by omega)).mono ?_
  rintro e w' ⟨rfl, rfl⟩
  go_wp2_with fail
  refine (trim_id hB hy (by omega)).mono ?_
  rintro e w' ⟨rfl, rfl⟩
  go_wp2_with fail
  refine (cmp_any hA hB hx hy hL).mono ?_
  rintro e w1 ⟨rfl, hext1⟩
  go_wp2
  go_loopw [7, 23] (fun cy i wr => ∃ (k q : Nat) (r : Nat → Nat), k ≤ n ∧ i = .int .i64 k ∧ cy = .int .u64 q ∧ q ≤ 1 ∧ Row wr w1.heap.size n r ∧ (∀ j, j < n → r j < 4294967296) ∧ vf r k + vf g (min k m) = vf f k + q * 4294967296 ^ k ∧ Ext w1 wr) (fun _ i _ => n - (intOf i).toNat)
  case atStart => exact ⟨0, 0, fun _ => 0, Nat.zero_le _, rfl, rfl, Nat.zero_le _, row_made w1 n, fun _ _ => Nat.zero_lt_succ _, by simp [vf], (Ext.refl w1).alloc _ _⟩
  case round =>
    obtain ⟨k, q, r, hk, rfl, rfl, hq, hrow, hr, hv', hext⟩ := hrel
    by_cases hlt : k < n
    · obtain ⟨ba, oa, rfl, hka⟩ := hca (by omega)
      have hca' := hext.cell (hext1.cell (hka k hlt))
      have hcr := hrow.cell (i := k) (by omega)
      have hfr := hrow.frozen k
      have hfk := hf k hlt
      by_cases hlm : k < m
      · obtain ⟨bb, ob, rfl, hkb⟩ := hcb (by omega)
        have hcb' := hext.cell (hext1.cell (hkb k hlm))
        have hgk := hg k hlm
        clear hca hcb hka hkb hf hg
        go_wp2
        go_roundw
        case rel =>
          exact ⟨k + 1, dhi (f k) q (g k), upd r k (dlo (f k) q (g k)), by omega, by go_num, congrArg (Value.int .u64) (dhi_int hfk hq hgk), dhi_le, hrow.set k _ _ (congrArg (Value.int .u32) (dlo_int hfk hq hgk)), upd_lt hr (dlo_lt _ _ _), sub_step_both hlm hv' (dif_eq hfk hq hgk), hext.setCell (Nat.le_refl _) _⟩
        case measure => simp [intOf]; omega
      · clear hca hcb hka hf hg
        go_wp2
        go_roundw
        case rel =>
          exact ⟨k + 1, dhi (f k) q 0, upd r k (dlo (f k) q 0), by omega, by go_num, congrArg (Value.int .u64) (dhi_int0 hfk hq), dhi_le, hrow.set k _ _ (congrArg (Value.int .u32) (dlo_int0 hfk hq)), upd_lt hr (dlo_lt _ _ _), sub_step_one hlm hv' (dif_eq hfk hq (Nat.zero_lt_succ _)), hext.setCell (Nat.le_refl _) _⟩
        case measure => simp [intOf]; omega
    · obtain rfl : k = n := by omega
      have hlim := hrow.limbs hr
      have hend : Hid _ := sub_end hmn h hr hv'
      clear hf hg hca hcb hv' hrow
      go_wp2_with fail
      refine (trim_natV hlim (by omega)).mono ?_
      rintro e w' ⟨v', rfl, rfl, hres⟩
      go_wp2
      go_ret2
      exact ⟨v', rfl, hext1.trans hext, by rw [← hend.out]; exact hres⟩

/-- nat.Sub. -/
theorem sub_any {w : World} {a b : Value} {x y L : Nat} (ha : NatV w a x) (hb : NatV w b y) (hx : Lt32 x L) (hy : Lt32 y L) (hL : L ≤ 100000) :
    Calls Oaig.prog 55 #[a, b] w fun e w' => ∃ v, e = .returned (.tuple #[v, .bool (decide (y ≤ x))]) ∧ Ext w w' ∧ NatV w' v (x - y) := by
  rcases Nat.lt_or_ge x y with h | h
  · refine (sub_lt ha hb hx hy hL h).mono ?_
    rintro e w' ⟨rfl, he⟩
    exact ⟨_, by rw [decide_eq_false (by omega)], he, by rw [show x - y = 0 from by omega]; exact natV_nil _⟩
  · refine (sub_ge ha hb hx hy hL h).mono ?_
    rintro e w' ⟨v, rfl, he, hv⟩
    exact ⟨v, by rw [decide_eq_true h], he, hv⟩

#print axioms sub_any
end Go.Proofs.Ygcoai
