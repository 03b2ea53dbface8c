/-
  Seat gcoai. nat.Mul (39).
-/
import Derived.Test.YgcoaiCmp
namespace Go.Proofs.Ygcoai
open Go.RowKit

theorem vf_upd_ge {r : Nat → Nat} {n k x : Nat} (h : n ≤ k) : vf (upd r k x) n = vf r n :=
  vf_congr (fun i hi => by unfold upd; rw [if_neg (by omega)])

theorem mul_le {a b : Nat} (ha : a < 4294967296) (hb : b < 4294967296) : a * b ≤ 18446744065119617025 := by
  have : a * b ≤ 4294967295 * 4294967295 := Nat.mul_le_mul (by omega) (by omega)
  omega

theorem mul_leI {a b : Nat} (ha : a < 4294967296) (hb : b < 4294967296) : (a : Int) * (b : Int) ≤ 18446744065119617025 := by
  have := mul_le ha hb
  rw [← Int.natCast_mul]; omega
theorem mul_geI (a b : Nat) : 0 ≤ (a : Int) * (b : Int) := by
  rw [← Int.natCast_mul]; omega

/-- One inner round. -/
theorem mul_step {r r0 g : Nat → Nat} {i j q p : Nat} (hv : vf r (i + j) + q * 4294967296 ^ (i + j) = vf r0 (i + j) + p * vf g j * 4294967296 ^ i) (he : r (i + j) = r0 (i + j)) :
    vf (upd r (i + j) ((q + (p * g j + r (i + j))) % 4294967296)) (i + (j + 1)) + (q + (p * g j + r (i + j))) / 4294967296 * 4294967296 ^ (i + (j + 1)) = vf r0 (i + (j + 1)) + p * vf g (j + 1) * 4294967296 ^ i := by
  rw [show i + (j + 1) = i + j + 1 from rfl, vf_upd, Nat.pow_succ, vf, vf, ← he]
  obtain ⟨P, hP⟩ : ∃ P, P = 4294967296 ^ (i + j) := ⟨_, rfl⟩
  have h1 : p * (vf g j + g j * 4294967296 ^ j) * 4294967296 ^ i = p * vf g j * 4294967296 ^ i + p * g j * P := by
    rw [hP, Nat.pow_add, Nat.mul_add, Nat.add_mul, Nat.mul_comm (4294967296 ^ i), Nat.mul_assoc p (g j) (_ * _), Nat.mul_assoc p (g j * _), Nat.mul_assoc (g j)]
  rw [h1, ← hP]
  rw [← hP] at hv
  generalize ht : p * g j + r (i + j) = t
  have h2 : (q + t) * P = ((q + t) % 4294967296 + 4294967296 * ((q + t) / 4294967296)) * P := by rw [Nat.mod_add_div]
  rw [Nat.add_mul, Nat.add_mul, ← ht, Nat.add_mul, ht] at h2
  have h3 : (q + t) / 4294967296 * (P * 4294967296) = 4294967296 * ((q + t) / 4294967296) * P := by rw [Nat.mul_comm P, ← Nat.mul_assoc, Nat.mul_comm _ 4294967296]
  omega

/-- One outer round's end. -/
theorem mul_next {r r0 f g : Nat → Nat} {i m q : Nat} (hv : vf r (i + m) + q * 4294967296 ^ (i + m) = vf r0 (i + m) + f i * vf g m * 4294967296 ^ i) (h0 : vf r0 (i + m) = vf f i * vf g m) :
    vf (upd r (i + m) q) (i + 1 + m) = vf f (i + 1) * vf g m := by
  rw [show i + 1 + m = i + m + 1 from by omega, vf_upd, hv, h0, vf, Nat.add_mul]
  rw [Nat.mul_assoc (f i), Nat.mul_assoc (f i), Nat.mul_comm (vf g m)]

theorem mul_start {r0 g : Nat → Nat} {i p : Nat} : vf r0 (i + 0) + 0 * 4294967296 ^ (i + 0) = vf r0 (i + 0) + p * vf g 0 * 4294967296 ^ i := by
  rw [vf, Nat.mul_zero, Nat.zero_mul, Nat.zero_mul]

theorem carry_lt {p a q : Nat} (h : p ≤ 18446744065119617025) (ha : a < 4294967296) (hq : q < 4294967296) : (q + (p + a)) / 4294967296 < 4294967296 := by omega

theorem vf_zero (m : Nat) : vf (fun _ => 0) m = 0 := by
  induction m with
  | zero => rfl
  | succ k ih => rw [vf, ih]; simp

set_option maxHeartbeats 1000000 in
theorem mul_any {w : World} {a b : Value} {x y L : Nat} (ha : NatV w a x) (hb : NatV w b y) (hx : Lt32 x L) (hy : Lt32 y L) (hL : L ≤ 100000) :
    Calls Oaig.prog 39 #[a, b] w fun e w' => ∃ v, e = .returned v ∧ Ext w w' ∧ NatV w' v (x * y) := by
  have hA := ha
  have hB := hb
  obtain ⟨n, f, ⟨hf, ao, c, rfl, _, hca⟩, hn, _, rfl⟩ := ha
  obtain ⟨m, g, ⟨hg, bo, d, rfl, _, hcb⟩, hm, _, rfl⟩ := hb
  have hnL := norm_len hn hx
  have hmL := norm_len hm hy
  have hmk := fun w => run_mk (n + m) ((n : Int) + m) (by omega) (by omega) w
  go_enter Oaig.func39, Oaig.ntmps39
  go_wp2_with fail
  refine (trim_id hA hx (by omega)).mono ?_
  rintro e w' ⟨rfl, rfl⟩
  go_wp2_with fail
  refine (trim_id hB hy (by omega)).mono ?_
  rintro e w' ⟨rfl, rfl⟩
  go_wp2_with fail
  go_loopw [21] (fun ci wr => ∃ (i : Nat) (r : Nat → Nat), i ≤ n ∧ ci = .int .i64 i ∧ Row wr w.heap.size (n + m) r ∧ (∀ j, j < n + m → r j < 4294967296) ∧ vf r (i + m) = vf f i * vf g m ∧ Ext w wr) (fun i _ => n - (intOf i).toNat)
  case atStart => exact ⟨0, fun _ => 0, Nat.zero_le _, rfl, row_made w (n + m), fun _ _ => Nat.zero_lt_succ _, by rw [vf_zero]; simp [vf], (Ext.refl w).alloc _ _⟩
  case round =>
    obtain ⟨i, r0, hi, rfl, hrow0, hr0, hv0, hext0⟩ := hrel
    by_cases hlt : i < n
    · obtain ⟨ba, oa, rfl, hka⟩ := hca (by omega)
      have hka' := hka i hlt
      have hfi := hf i hlt
      clear hca hka
      obtain ⟨wo, rfl⟩ : ∃ wo : World, wo = wr := ⟨_, rfl⟩
      go_wp2
      go_loopw [7, 26] (fun cy cj wr => ∃ (j q : Nat) (r : Nat → Nat), j ≤ m ∧ cj = .int .i64 j ∧ cy = .int .u64 q ∧ q < 4294967296 ∧ Row wr w.heap.size (n + m) r ∧ (∀ j, j < n + m → r j < 4294967296) ∧ (∀ t, i + j ≤ t → r t = r0 t) ∧ vf r (i + j) + q * 4294967296 ^ (i + j) = vf r0 (i + j) + f i * vf g j * 4294967296 ^ i ∧ Ext w wr) (fun _ j _ => m - (intOf j).toNat)
      case atStart => exact ⟨0, 0, r0, Nat.zero_le _, rfl, rfl, by decide, hrow0, hr0, fun _ _ => rfl, mul_start, hext0⟩
      case round =>
        obtain ⟨j, q, r, hj, rfl, rfl, hq, hrow, hr, he, hv, hext⟩ := hrel
        by_cases hlm : j < m
        · obtain ⟨bb, ob, rfl, hkb⟩ := hcb (by omega)
          have hcb' := hext.cell (hkb j hlm)
          have hca' := hext.cell hka'
          have hgj := hg j hlm
          have hcr := hrow.cell (i := i + j) (by omega)
          have hfr := hrow.frozen (i + j)
          have hrj := hr (i + j) (by omega)
          have hp := mul_le hfi hgj
          have hpi : (f i : Int) * (g j : Int) ≤ 18446744065119617025 := mul_leI hfi hgj
          have hpo : 0 ≤ (f i : Int) * (g j : Int) := mul_geI _ _
          have hst : Hid _ := mul_step hv (he (i + j) (Nat.le_refl _))
          have hcl : Hid _ := carry_lt hp hrj hq
          have he' : Hid (∀ t, i + (j + 1) ≤ t → upd r (i + j) ((q + (f i * g j + r (i + j))) % 4294967296) t = r0 t) := fun t ht => by unfold upd; rw [if_neg (by omega)]; exact he t (by omega)
          clear hcb hkb hf hg hv he hv0 hp
          go_wp2_with fail
          go_quiet (fail)
          go_wp2
          go_roundw
          case rel =>
            exact ⟨j + 1, (q + (f i * g j + r (i + j))) / 4294967296, upd r (i + j) ((q + (f i * g j + r (i + j))) % 4294967296), by omega, by go_num, by go_num, hcl.out, Row.set hrow (i + j) _ _ (by go_num), upd_lt hr (by omega), he'.out, hst.out, (hext.drewN nq).setCell (Nat.le_refl _) _⟩
          case measure => simp [intOf]; omega
        · obtain rfl : j = m := by omega
          have hcr := hrow.cell (i := i + j) (by omega)
          have hfr := hrow.frozen (i + j)
          have hnx : Hid _ := mul_next hv hv0
          clear hcb hf hg hv he hv0
          go_wp2
          go_roundw
          case rel => exact ⟨i + 1, upd r (i + j) q, by omega, by go_num, hrow.set (i + j) _ _ (by go_num), upd_lt hr (by omega), hnx.out, hext.setCell (Nat.le_refl _) _⟩
          case measure => simp [intOf]; omega
    · obtain rfl : i = n := by omega
      have hlim := hrow0.limbs hr0
      clear hf hg hca hcb hrow0
      go_wp2_with fail
      refine (trim_natV hlim (by omega)).mono ?_
      rintro e w' ⟨v', rfl, rfl, hres⟩
      go_wp2
      go_ret
      exact ⟨v', rfl, hext0, by rw [← hv0]; exact hres⟩

#print axioms mul_any

end Go.Proofs.Ygcoai
