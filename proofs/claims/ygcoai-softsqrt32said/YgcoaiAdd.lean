/-
  Seat gcoai. nat.Add (53).
-/
import Derived.Test.YgcoaiTrim
namespace Go.Proofs.Ygcoai
open Go.RowKit

theorem step_sum (P V q t S x z : Nat) (hv : V + q * P = S) (h : q + t = x + 4294967296 * z) : V + x * P + z * (P * 4294967296) = S + t * P := by
  have h2 : (q + t) * P = (x + 4294967296 * z) * P := by rw [h]
  rw [Nat.add_mul, Nat.add_mul] at h2
  have h3 : z * (P * 4294967296) = 4294967296 * z * P := by rw [Nat.mul_comm P, ← Nat.mul_assoc, Nat.mul_comm z]
  omega

theorem add_step_both {r f g : Nat → Nat} {k q m : Nat} (hlm : k < m) (hv : vf r k + q * 4294967296 ^ k = vf f k + vf g (min k m)) :
    vf (upd r k ((q + f k + g k) % 4294967296)) (k + 1) + (q + f k + g k) / 4294967296 * 4294967296 ^ (k + 1) = vf f (k + 1) + vf g (min (k + 1) m) := by
  rw [vf_upd, Nat.pow_succ, step_sum _ _ q (f k + g k) _ _ _ hv (by omega), Nat.min_eq_left (by omega : k ≤ m), Nat.min_eq_left (by omega : k + 1 ≤ m), vf, vf, Nat.add_mul]
  omega

theorem add_step_one {r f g : Nat → Nat} {k q m : Nat} (hlm : ¬ k < m) (hv : vf r k + q * 4294967296 ^ k = vf f k + vf g (min k m)) :
    vf (upd r k ((q + f k) % 4294967296)) (k + 1) + (q + f k) / 4294967296 * 4294967296 ^ (k + 1) = vf f (k + 1) + vf g (min (k + 1) m) := by
  rw [vf_upd, Nat.pow_succ, step_sum _ _ q (f k) _ _ _ hv (by omega), Nat.min_eq_right (by omega : m ≤ k), Nat.min_eq_right (by omega : m ≤ k + 1), vf]
  omega

theorem add_end {r f g : Nat → Nat} {n q m : Nat} (hmn : m ≤ n) (hv : vf r n + q * 4294967296 ^ n = vf f n + vf g (min n m)) :
    vf (upd r n q) (n + 1) = vf f n + vf g m := by
  rw [vf_upd, hv, Nat.min_eq_right hmn]

set_option maxHeartbeats 400000 in
theorem add_core (ao bo : Option Addr) (n c m d : Nat) (f g : Nat → Nat) (w : World) (x y L : Nat) (hn : n ≤ 100000) (hmn : m ≤ n)
    (hf : ∀ i, i < n → f i < 4294967296) (hg : ∀ i, i < m → g i < 4294967296)
    (hA : NatV w (.slice ao n c) x) (hB : NatV w (.slice bo m d) y) (hx : Lt32 x L) (hy : Lt32 y L) (hL : L ≤ 100000)
    (ha : n ≠ 0 → ∃ b o, ao = some ⟨b, o, none⟩ ∧ ∀ i, i < n → w.cell? ⟨b, o + i, none⟩ = some (.int .u32 (f i : Nat)))
    (hb : m ≠ 0 → ∃ b o, bo = some ⟨b, o, none⟩ ∧ ∀ i, i < m → w.cell? ⟨b, o + i, none⟩ = some (.int .u32 (g i : Nat))) :
    Calls Oaig.prog 53 #[.slice ao n c, .slice bo m d] w fun e w' => ∃ v, e = .returned v ∧ Ext w w' ∧ NatV w' v (vf f n + vf g m) := by
  have hmk := fun w => run_mk (n + 1) ((n : Int) + 1) (by omega) (by omega) w
  go_enter Oaig.func53, Oaig.ntmps53
  go_wp2_with fail
  refine (trim_id hA hx (by omega)).mono ?_
  rintro e w' ⟨rfl, rfl⟩
  go_wp2_with fail
  refine (trim_id hB hy (by omega)).mono ?_
  rintro e w' ⟨rfl, rfl⟩
  go_wp2_with fail
  go_loopw [6, 25] (fun cy i wr => ∃ (k q : Nat) (r : Nat → Nat), k ≤ n ∧ i = .int .i64 k ∧ cy = .int .u64 q ∧ q ≤ 1 ∧ Row wr w.heap.size (n + 1) r ∧ (∀ j, j < n + 1 → r j < 4294967296) ∧ vf r k + q * 4294967296 ^ k = vf f k + vf g (min k m) ∧ Ext w wr) (fun _ i _ => n - (intOf i).toNat)
  case atStart => exact ⟨0, 0, fun _ => 0, Nat.zero_le _, rfl, rfl, Nat.zero_le _, row_made w (n + 1), fun _ _ => Nat.zero_lt_succ _, by simp [vf], (Ext.refl w).alloc _ _⟩
  case round =>
    obtain ⟨k, q, r, hk, rfl, rfl, hq, hrow, hr, hv, hext⟩ := hrel
    by_cases hlt : k < n
    · obtain ⟨ba, oa, rfl, hca⟩ := ha (by omega)
      have hca' := hext.cell (hca k hlt)
      have hcr := hrow.cell (i := k) (by omega)
      have hfr := hrow.frozen k
      have hfk := hf k hlt
      by_cases hlm : k < m
      · obtain ⟨bb, ob, rfl, hcb⟩ := hb (by omega)
        have hcb' := hext.cell (hcb k hlm)
        have hgk := hg k hlm
        clear hca hcb ha hb hf hg
        go_wp2
        go_roundw
        case rel =>
          refine ⟨k + 1, (q + f k + g k) / 4294967296, upd r k ((q + f k + g k) % 4294967296), by omega, by go_num, by go_num, by omega, hrow.set k _ _ (by go_num), upd_lt hr (by omega), add_step_both hlm hv, hext.setCell (Nat.le_refl _) _⟩
        case measure => simp [intOf]; omega
      · clear hca ha hb hf hg
        go_wp2
        go_roundw
        case rel =>
          refine ⟨k + 1, (q + f k) / 4294967296, upd r k ((q + f k) % 4294967296), by omega, by go_num, by go_num, by omega, hrow.set k _ _ (by go_num), upd_lt hr (by omega), add_step_one hlm hv, hext.setCell (Nat.le_refl _) _⟩
        case measure => simp [intOf]; omega
    · obtain rfl : k = n := by omega
      have hcr := hrow.cell (i := k) (by omega)
      have hfr := hrow.frozen k
      have hrow2 := hrow.set k q (.int .u32 (q : Nat)) rfl
      have hlim := hrow2.limbs (upd_lt (k := k) (x := q) hr (by omega))
      have hext2 := hext.setCell (a := ⟨w.heap.size, k, none⟩) (Nat.le_refl _) (.int .u32 (q : Nat))
      have hend : Hid _ := add_end hmn hv
      clear hf hg ha hb hv hrow hrow2
      go_wp2_with fail
      refine (trim_natV hlim (by omega)).mono ?_
      rintro e w' ⟨v', rfl, rfl, hres⟩
      go_wp2
      go_ret
      exact ⟨v', rfl, hext2, by rw [← hend.out]; exact hres⟩

set_option maxHeartbeats 400000 in
theorem add_swap (ao bo : Option Addr) (n c m d : Nat) (f g : Nat → Nat) (w : World) (x y L : Nat) (hn : n ≤ 100000) (hmn' : m < n)
    (hf : ∀ i, i < n → f i < 4294967296) (hg : ∀ i, i < m → g i < 4294967296)
    (hA : NatV w (.slice ao n c) x) (hB : NatV w (.slice bo m d) y) (hx : Lt32 x L) (hy : Lt32 y L) (hL : L ≤ 100000)
    (ha : n ≠ 0 → ∃ b o, ao = some ⟨b, o, none⟩ ∧ ∀ i, i < n → w.cell? ⟨b, o + i, none⟩ = some (.int .u32 (f i : Nat)))
    (hb : m ≠ 0 → ∃ b o, bo = some ⟨b, o, none⟩ ∧ ∀ i, i < m → w.cell? ⟨b, o + i, none⟩ = some (.int .u32 (g i : Nat))) :
    Calls Oaig.prog 53 #[.slice bo m d, .slice ao n c] w fun e w' => ∃ v, e = .returned v ∧ Ext w w' ∧ NatV w' v (vf f n + vf g m) := by
  have hmn : m ≤ n := Nat.le_of_lt hmn'
  have hmk := fun w => run_mk (n + 1) ((n : Int) + 1) (by omega) (by omega) w
  go_enter Oaig.func53, Oaig.ntmps53
  go_wp2_with fail
  refine (trim_id hB hy (by omega)).mono ?_
  rintro e w' ⟨rfl, rfl⟩
  go_wp2_with fail
  refine (trim_id hA hx (by omega)).mono ?_
  rintro e w' ⟨rfl, rfl⟩
  go_wp2_with fail
  go_loopw [6, 25] (fun cy i wr => ∃ (k q : Nat) (r : Nat → Nat), k ≤ n ∧ i = .int .i64 k ∧ cy = .int .u64 q ∧ q ≤ 1 ∧ Row wr w.heap.size (n + 1) r ∧ (∀ j, j < n + 1 → r j < 4294967296) ∧ vf r k + q * 4294967296 ^ k = vf f k + vf g (min k m) ∧ Ext w wr) (fun _ i _ => n - (intOf i).toNat)
  case atStart => exact ⟨0, 0, fun _ => 0, Nat.zero_le _, rfl, rfl, Nat.zero_le _, row_made w (n + 1), fun _ _ => Nat.zero_lt_succ _, by simp [vf], (Ext.refl w).alloc _ _⟩
  case round =>
    obtain ⟨k, q, r, hk, rfl, rfl, hq, hrow, hr, hv, hext⟩ := hrel
    by_cases hlt : k < n
    · obtain ⟨ba, oa, rfl, hca⟩ := ha (by omega)
      have hca' := hext.cell (hca k hlt)
      have hcr := hrow.cell (i := k) (by omega)
      have hfr := hrow.frozen k
      have hfk := hf k hlt
      by_cases hlm : k < m
      · obtain ⟨bb, ob, rfl, hcb⟩ := hb (by omega)
        have hcb' := hext.cell (hcb k hlm)
        have hgk := hg k hlm
        clear hca hcb ha hb hf hg
        go_wp2
        go_roundw
        case rel =>
          refine ⟨k + 1, (q + f k + g k) / 4294967296, upd r k ((q + f k + g k) % 4294967296), by omega, by go_num, by go_num, by omega, hrow.set k _ _ (by go_num), upd_lt hr (by omega), add_step_both hlm hv, hext.setCell (Nat.le_refl _) _⟩
        case measure => simp [intOf]; omega
      · clear hca ha hb hf hg
        go_wp2
        go_roundw
        case rel =>
          refine ⟨k + 1, (q + f k) / 4294967296, upd r k ((q + f k) % 4294967296), by omega, by go_num, by go_num, by omega, hrow.set k _ _ (by go_num), upd_lt hr (by omega), add_step_one hlm hv, hext.setCell (Nat.le_refl _) _⟩
        case measure => simp [intOf]; omega
    · obtain rfl : k = n := by omega
      have hcr := hrow.cell (i := k) (by omega)
      have hfr := hrow.frozen k
      have hrow2 := hrow.set k q (.int .u32 (q : Nat)) rfl
      have hlim := hrow2.limbs (upd_lt (k := k) (x := q) hr (by omega))
      have hext2 := hext.setCell (a := ⟨w.heap.size, k, none⟩) (Nat.le_refl _) (.int .u32 (q : Nat))
      have hend : Hid _ := add_end hmn hv
      clear hf hg ha hb hv hrow hrow2
      go_wp2_with fail
      refine (trim_natV hlim (by omega)).mono ?_
      rintro e w' ⟨v', rfl, rfl, hres⟩
      go_wp2
      go_ret
      exact ⟨v', rfl, hext2, by rw [← hend.out]; exact hres⟩

/-- nat.Add. -/
theorem add_any {w : World} {a b : Value} {x y L : Nat} (ha : NatV w a x) (hb : NatV w b y) (hx : Lt32 x L) (hy : Lt32 y L) (hL : L ≤ 100000) :
    Calls Oaig.prog 53 #[a, b] w fun e w' => ∃ v, e = .returned v ∧ Ext w w' ∧ NatV w' v (x + y) := by
  have hA := ha
  have hB := hb
  obtain ⟨n, f, ⟨hf, ao, c, rfl, _, hca⟩, hn, _, rfl⟩ := ha
  obtain ⟨m, g, ⟨hg, bo, d, rfl, _, hcb⟩, hm, _, rfl⟩ := hb
  have hnL := norm_len hn hx
  have hmL := norm_len hm hy
  rcases Nat.lt_or_ge n m with h | h
  · rw [Nat.add_comm]
    exact add_swap bo ao m d n c g f w _ _ L (by omega) h hg hf hB hA hy hx hL hcb hca
  · exact add_core ao bo n c m d f g w _ _ L (by omega) h hf hg hA hB hx hy hL hca hcb

#print axioms add_any
end Go.Proofs.Ygcoai
