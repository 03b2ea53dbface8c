/-
  Seat gcoai. nat.lift (52), nat.Shl (31), nat.FromU64 (37), law.one (30).
-/
import Derived.Test.YgcoaiMul
namespace Go.Proofs.Ygcoai
open Go.RowKit

theorem eqnil38 (w : World) (a : Option Addr) (n c n' c' : Nat) : (binOp .eql 38 (.slice a n c) (.slice none n' c')).run Oaig.prog w = .ok (.bool a.isNone) w := Lib.run_eql_slice_nil w _ _ a n c n' c' Oaig.underlying38
theorem nenil38 (w : World) (a : Option Addr) (n c n' c' : Nat) : (binOp .neq 38 (.slice a n c) (.slice none n' c')).run Oaig.prog w = .ok (.bool !a.isNone) w := run_neq_slice_nil_any w _ _ a n c n' c' Oaig.underlying38

theorem pow_split (k : Nat) : 2 ^ k = 4294967296 ^ (k / 32) * 2 ^ (k % 32) := by
  rw [show (4294967296 : Nat) = 2 ^ 32 from by decide, ← Nat.pow_mul, ← Nat.pow_add, Nat.div_add_mod]

theorem pow_b_le (b : Nat) (hb : b < 32) : 2 ^ b ≤ 2147483648 := by
  have : 2 ^ b ≤ 2 ^ 31 := Nat.pow_le_pow_right (by decide) (by omega)
  omega

theorem wide_lt {x b : Nat} (hx : x < 4294967296) (hb : b < 32) : x * 2 ^ b < 9223372036854775808 := by
  have h1 := pow_b_le b hb
  have h2 : x * 2 ^ b ≤ 4294967295 * 2147483648 := Nat.mul_le_mul (by omega) h1
  omega

theorem wide_int {x b : Nat} (hx : x < 4294967296) (hb : b < 32) : IntKind.u64.wrap ((x : Int) * 2 ^ b) = (x * 2 ^ b : Nat) := by
  have h := wide_lt hx hb
  have e : ((x : Int) * 2 ^ b) = ((x * 2 ^ b : Nat) : Int) := by simp
  rw [e, IntKind.wrap_u64]
  omega

theorem wide_lo {x b : Nat} (hb : b < 32) : x * 2 ^ b % 4294967296 % 2 ^ b = 0 := by
  have hd : 2 ^ b ∣ 4294967296 := by rw [show (4294967296 : Nat) = 2 ^ 32 from by decide]; exact Nat.pow_dvd_pow 2 (by omega)
  rw [Nat.mod_mod_of_dvd _ hd]
  exact Nat.mul_mod_left x _

theorem wide_hi {x b : Nat} (hx : x < 4294967296) : x * 2 ^ b / 4294967296 < 2 ^ b := by
  have h0 : 0 < 2 ^ b := Nat.pow_pos (by decide)
  refine Nat.div_lt_of_lt_mul ?_
  exact Nat.mul_lt_mul_of_pos_right hx h0

theorem join_eq {t x b : Nat} (hb : b < 32) (ht : t < 2 ^ b) : t ||| (x * 2 ^ b % 4294967296) = t + x * 2 ^ b % 4294967296 := by
  rw [Nat.or_comm, nat_join b _ _ (wide_lo hb) ht, Nat.add_comm]

theorem join_lt {t x b : Nat} (hb : b < 32) (ht : t < 2 ^ b) : t + x * 2 ^ b % 4294967296 < 4294967296 := by
  have h1 := pow_b_le b hb
  rw [← join_eq hb ht]
  have := Nat.or_lt_two_pow (n := 32) (x := t) (y := x * 2 ^ b % 4294967296) (by omega) (by omega)
  omega

theorem join_int {t x b : Nat} (hx : x < 4294967296) (hb : b < 32) (ht : t < 2 ^ b) :
    bits BinOp.or IntKind.u32 (t : Int) (IntKind.u64.wrap ((x : Int) * 2 ^ b) % 4294967296) = (t + x * 2 ^ b % 4294967296 : Nat) := by
  have h1 := pow_b_le b hb
  have e : ((x * 2 ^ b : Nat) : Int) % 4294967296 = ((x * 2 ^ b % 4294967296 : Nat) : Int) := by omega
  rw [wide_int hx hb, e, u32_or_nat _ _ (by omega) (by omega), join_eq hb ht]

theorem hi_int {x b : Nat} (hx : x < 4294967296) (hb : b < 32) : IntKind.u64.wrap ((x : Int) * 2 ^ b) / 4294967296 % 4294967296 = (x * 2 ^ b / 4294967296 : Nat) := by
  have h1 := pow_b_le b hb
  have h2 := wide_hi (b := b) hx
  rw [wide_int hx hb]
  omega

theorem lift_step {r f : Nat → Nat} {i k : Nat} (hv : vf r (i + k / 32 + 1) = vf f i * 2 ^ k) :
    vf (upd (upd r (i + k / 32) (r (i + k / 32) + f i * 2 ^ (k % 32) % 4294967296)) (i + k / 32 + 1) (f i * 2 ^ (k % 32) / 4294967296)) (i + 1 + k / 32 + 1) = vf f (i + 1) * 2 ^ k := by
  rw [show i + 1 + k / 32 + 1 = i + k / 32 + 1 + 1 from by omega, vf_upd, vf_upd, vf, Nat.add_mul (vf f i), ← hv, vf]
  obtain ⟨W, hW⟩ : ∃ W, W = f i * 2 ^ (k % 32) := ⟨_, rfl⟩
  obtain ⟨P, hP⟩ : ∃ P, P = 4294967296 ^ (i + k / 32) := ⟨_, rfl⟩
  have h1 : f i * 4294967296 ^ i * 2 ^ k = W * P := by
    rw [pow_split k, hW, hP, Nat.pow_add]
    ac_rfl
  have h2 : W * P = (W % 4294967296 + 4294967296 * (W / 4294967296)) * P := by rw [Nat.mod_add_div]
  rw [h1, Nat.pow_succ, ← hW, ← hP, h2, Nat.add_mul (r _), Nat.add_mul (W % _)]
  have h3 : W / 4294967296 * (P * 4294967296) = 4294967296 * (W / 4294967296) * P := by ac_rfl
  omega

set_option maxRecDepth 20000 in
set_option maxHeartbeats 400000 in
theorem lift_pos {w : World} {ba oa n c : Nat} {f : Nat → Nat} {L : Nat} (hA : NatV w (.slice (some ⟨ba, oa, none⟩) n c) (vf f n)) (hf : ∀ i, i < n → f i < 4294967296)
    (hc : ∀ i, i < n → w.cell? ⟨ba, oa + i, none⟩ = some (.int .u32 (f i : Nat))) (hn : 0 < n) (hnL : n ≤ L) (hx : Lt32 (vf f n) L) (hL : L ≤ 100000) (k : Nat) (hk : k ≤ 1000000) :
    Calls Oaig.prog 52 #[.slice (some ⟨ba, oa, none⟩) n c, .int .i64 k] w fun e w' => ∃ v, e = .returned v ∧ Ext w w' ∧ NatV w' v (vf f n * 2 ^ k) := by
  have hmk := fun w => run_mk (n + k / 32 + 1) ((n : Int) + (k : Int) / 32 + 1) (by omega) (by omega) w
  have q38 := eqnil38
  go_enter Oaig.func52, Oaig.ntmps52
  go_wp2_with fail
  refine (trim_id hA hx (by omega)).mono ?_
  rintro e w' ⟨rfl, rfl⟩
  go_wp2_with fail
  go_loopw [27] (fun ci wr => ∃ (i : Nat) (r : Nat → Nat), i ≤ n ∧ ci = .int .i64 i ∧ Row wr w.heap.size (n + k / 32 + 1) r ∧ (∀ j, j < n + k / 32 + 1 → r j < 4294967296) ∧ vf r (i + k / 32 + 1) = vf f i * 2 ^ k ∧ r (i + k / 32) < 2 ^ (k % 32) ∧ Ext w wr) (fun i _ => n - (intOf i).toNat)
  case atStart => exact ⟨0, fun _ => 0, Nat.zero_le _, rfl, row_made w _, fun _ _ => Nat.zero_lt_succ _, by rw [vf_zero]; simp [vf], Nat.pow_pos (by decide), (Ext.refl w).alloc _ _⟩
  case round =>
    obtain ⟨i, r, hi, rfl, hrow, hr, hv, ht, hext⟩ := hrel
    by_cases hlt : i < n
    · have hca' := hext.cell (hc i hlt)
      have hfi := hf i hlt
      have hcr := hrow.cell (i := i + k / 32) (by omega)
      have hfr := hrow.frozen (i + k / 32)
      have hcr1 := hrow.cell (i := i + k / 32 + 1) (by omega)
      have hfr1 := hrow.frozen (i + k / 32 + 1)
      have hst : Hid _ := lift_step hv
      have hji : Hid _ := join_int (x := f i) hfi (Nat.mod_lt k (by decide)) ht
      have hjl : Hid _ := join_lt (x := f i) (Nat.mod_lt k (by decide : 0 < 32)) ht
      clear hc hf hmk q38 hv ht
      go_wp2
      go_roundw
      case rel =>
        have hhi := wide_hi (x := f i) (b := k % 32) hfi
        have hpb := pow_b_le (k % 32) (Nat.mod_lt k (by decide))
        exact ⟨i + 1, _, by omega, by go_num, Row.set (Row.set hrow _ _ _ (congrArg (Value.int .u32) hji.out)) _ _ _ (congrArg (Value.int .u32) (hi_int hfi (Nat.mod_lt k (by decide)))), upd_lt (upd_lt hr hjl.out) (by omega), hst.out, by rw [show i + 1 + k / 32 = i + k / 32 + 1 from by omega, upd, if_pos rfl]; exact hhi, (hext.setCell (Nat.le_refl _) _).setCell (Nat.le_refl _) _⟩
      case measure => simp [intOf]; omega
    · obtain rfl : i = n := by omega
      have hlim := hrow.limbs hr
      clear hc hf hmk q38 hrow
      go_wp2_with fail
      refine (trim_natV hlim (by omega)).mono ?_
      rintro e w' ⟨v', rfl, rfl, hres⟩
      go_wp2
      go_ret
      exact ⟨v', rfl, hext, by rw [← hv]; exact hres⟩

set_option maxHeartbeats 400000 in
theorem lift_nil (w : World) (k : Int) : Calls Oaig.prog 52 #[.slice none 0 0, .int .i64 k] w fun e w' => e = .returned (.slice none 0 0) ∧ w = w' := by
  have q38 := eqnil38
  go_enter Oaig.func52, Oaig.ntmps52
  go_wp2_with fail
  refine (trim_id (natV_nil w) (L := 1) (show 0 < 4294967296 ^ 1 by decide) (by omega)).mono ?_
  rintro e w' ⟨rfl, rfl⟩
  go_wp2
  go_ret
  exact ⟨rfl, rfl⟩

/-- nat.lift. -/
theorem lift_any {w : World} {a : Value} {x L : Nat} (ha : NatV w a x) (hx : Lt32 x L) (hL : L ≤ 100000) (k : Nat) (hk : k ≤ 1000000) :
    Calls Oaig.prog 52 #[a, .int .i64 k] w fun e w' => ∃ v, e = .returned v ∧ Ext w w' ∧ NatV w' v (x * 2 ^ k) := by
  have hA := ha
  obtain ⟨n, f, ⟨hf, ao, c, rfl, _, hca⟩, hn, hnil, rfl⟩ := ha
  have hnL := norm_len hn hx
  rcases Nat.eq_zero_or_pos n with h0 | h0
  · subst h0
    rw [hnil rfl]
    refine (lift_nil w k).mono ?_
    rintro e w' ⟨rfl, rfl⟩
    exact ⟨_, rfl, Ext.refl _, by simpa [vf] using natV_nil w⟩
  · obtain ⟨b, o, rfl, hc⟩ := hca (by omega)
    exact lift_pos hA hf hc h0 hnL hx hL k hk

/-- nat.Shl. -/
theorem shl_any {w : World} {a : Value} {x L : Nat} (ha : NatV w a x) (hx : Lt32 x L) (hL : L ≤ 100000) (k : Nat) (hk : k ≤ 65535) :
    Calls Oaig.prog 31 #[a, .int .u16 k] w fun e w' => ∃ v, e = .returned v ∧ Ext w w' ∧ NatV w' v (x * 2 ^ k) := by
  go_enter Oaig.func31, Oaig.ntmps31
  go_wp2_with fail
  refine (lift_any ha hx hL k (by omega)).mono ?_
  rintro e w' ⟨v, rfl, hext, hv⟩
  go_wp2
  go_ret
  exact ⟨v, rfl, hext, hv⟩

#print axioms shl_any
end Go.Proofs.Ygcoai
