/-
  Seat gcoai. nat.Shr (68), by fewer than 32 bits.
-/
import Derived.Test.YgcoaiBits
namespace Go.Proofs.Ygcoai
open Go.RowKit

/-- One limb of the shifted number: the limb x, the limb g above it. -/
def shl1 (x g k : Nat) : Nat := (x + g * 4294967296) / 2 ^ k % 4294967296

theorem shl1_lt (x g k : Nat) : shl1 x g k < 4294967296 := Nat.mod_lt _ (by decide)

theorem two_pow_split {k : Nat} (hk : k < 32) : 4294967296 = 2 ^ k * 2 ^ (32 - k) := by
  rw [← Nat.pow_add, show k + (32 - k) = 32 from by omega]

theorem shl1_eq {x g k : Nat} (hx : x < 4294967296) (hk : k < 32) : shl1 x g k * 2 ^ k + x % 2 ^ k = x + g % 2 ^ k * 4294967296 := by
  have hp : 0 < 2 ^ k := Nat.pow_pos (by decide)
  have hs := two_pow_split hk
  obtain ⟨P, hP⟩ : ∃ P, P = 2 ^ k := ⟨_, rfl⟩
  obtain ⟨R, hR⟩ : ∃ R, R = 2 ^ (32 - k) := ⟨_, rfl⟩
  unfold shl1
  rw [← hP] at hp hs ⊢
  rw [← hR] at hs
  have e1 : (x + g * 4294967296) / P = x / P + g * R := by
    rw [show g * 4294967296 = P * (g * R) from by rw [hs]; ac_rfl, Nat.add_mul_div_left _ _ hp]
  have e2 : g * R = (g / P) * 4294967296 + (g % P) * R := by
    have : g * R = (P * (g / P) + g % P) * R := by rw [Nat.div_add_mod]
    rw [this, Nat.add_mul, hs]; ac_rfl
  have h3 : x / P < R := by
    apply Nat.div_lt_of_lt_mul
    rw [← hs]; exact hx
  have h4 : g % P < P := Nat.mod_lt _ hp
  have h5 : x / P + (g % P) * R < 4294967296 := by
    have : (g % P + 1) * R ≤ P * R := Nat.mul_le_mul_right _ h4
    rw [Nat.add_mul, ← hs] at this
    omega
  rw [e1, e2, show x / P + (g / P * 4294967296 + g % P * R) = (x / P + g % P * R) + g / P * 4294967296 from by omega, Nat.add_mul_mod_self_right, Nat.mod_eq_of_lt h5, Nat.add_mul]
  have e3 : g % P * R * P = g % P * 4294967296 := by rw [hs]; ac_rfl
  have e4 := Nat.div_add_mod x P
  rw [Nat.mul_comm] at e4
  omega

/-- One round. -/
theorem shr_step {r f0 : Nat → Nat} {i k C : Nat} (hx : f0 i < 4294967296) (hk : k < 32) (hv : vf f0 i + f0 i % 2 ^ k * 4294967296 ^ i = vf r i * 2 ^ k + C) :
    vf f0 (i + 1) + f0 (i + 1) % 2 ^ k * 4294967296 ^ (i + 1) = vf (upd r i (shl1 (f0 i) (f0 (i + 1)) k)) (i + 1) * 2 ^ k + C := by
  have h := shl1_eq (g := f0 (i + 1)) hx hk
  rw [vf_upd, vf, Nat.pow_succ]
  obtain ⟨P, hP⟩ : ∃ P, P = 4294967296 ^ i := ⟨_, rfl⟩
  rw [← hP] at hv ⊢
  have h2 : (shl1 (f0 i) (f0 (i + 1)) k * 2 ^ k + f0 i % 2 ^ k) * P = (f0 i + f0 (i + 1) % 2 ^ k * 4294967296) * P := by rw [h]
  rw [Nat.add_mul, Nat.add_mul] at h2
  rw [Nat.add_mul]
  have e1 : shl1 (f0 i) (f0 (i + 1)) k * P * 2 ^ k = shl1 (f0 i) (f0 (i + 1)) k * 2 ^ k * P := by ac_rfl
  have e2 : f0 (i + 1) % 2 ^ k * (P * 4294967296) = f0 (i + 1) % 2 ^ k * 4294967296 * P := by ac_rfl
  omega

theorem shr_end {V R c k : Nat} (h : V = R * 2 ^ k + c % 2 ^ k) : R = V / 2 ^ k := by
  have hp : 0 < 2 ^ k := Nat.pow_pos (by decide)
  have h4 : c % 2 ^ k < 2 ^ k := Nat.mod_lt _ hp
  rw [h, Nat.mul_comm, Nat.mul_add_div hp, Nat.div_eq_of_lt h4]; omega

/-- f, nought from n on. -/
def cap0 (f : Nat → Nat) (n : Nat) : Nat → Nat := fun i => if i < n then f i else 0
theorem vf_cap0 (f : Nat → Nat) (n : Nat) : vf (cap0 f n) n = vf f n := vf_congr (fun i hi => by unfold cap0; rw [if_pos hi])

theorem shr_intN (k i : Nat) : ((k : Int) / 2 ^ i) = ((k / 2 ^ i : Nat) : Int) := by simp

theorem join32 {x g : Nat} (hx : x < 4294967296) (hg : g < 4294967296) : bits BinOp.or IntKind.u64 (x : Int) (IntKind.u64.wrap ((g : Int) * 4294967296)) = ((x + g * 4294967296 : Nat) : Int) := by
  have e : IntKind.u64.wrap ((g : Int) * 4294967296) = ((g * 4294967296 : Nat) : Int) := by rw [IntKind.wrap_u64]; omega
  rw [e, u64_or_nat _ _ (by omega) (by omega), Nat.or_comm, nat_join 32 _ _ (by omega) (by omega), Nat.add_comm]

theorem shl1_int {x g k : Nat} (hx : x < 4294967296) (hg : g < 4294967296) (hk : k < 32) : bits BinOp.or IntKind.u64 (x : Int) ((g : Int) * 4294967296) / 2 ^ (k % 32) % 4294967296 = (shl1 x g k : Nat) := by
  have e : ((g : Int) * 4294967296) = ((g * 4294967296 : Nat) : Int) := by omega
  rw [e, u64_or_nat _ _ (by omega) (by omega), Nat.or_comm, nat_join 32 _ _ (by omega) (by omega), Nat.add_comm, Nat.mod_eq_of_lt hk, shr_intN]
  unfold shl1; omega
theorem shl1_int0 {x k : Nat} (hk : k < 32) : (x : Int) / 2 ^ (k % 32) % 4294967296 = (shl1 x 0 k : Nat) := by
  rw [Nat.mod_eq_of_lt hk, shr_intN]
  unfold shl1; rw [Nat.zero_mul, Nat.add_zero]; omega

set_option maxHeartbeats 1000000 in
theorem shr_pos {w : World} {v : Value} {ba oa n c : Nat} {f : Nat → Nat} (k : Nat) (hk : k < 32) (hn : n ≤ 100000) (h0 : 0 < n) (hT : Hid (Calls Oaig.prog 65 #[v] w fun e w' => e = .returned (.slice (some ⟨ba, oa, none⟩) n c) ∧ w = w'))
    (hf : ∀ i, i < n → f i < 4294967296) (hc : ∀ i, i < n → w.cell? ⟨ba, oa + i, none⟩ = some (.int .u32 (f i : Nat))) :
    Calls Oaig.prog 68 #[v, .int .u16 k] w fun e w' => ∃ v b, e = .returned (.tuple #[v, .bool b]) ∧ Ext w w' ∧ NatV w' v (vf f n / 2 ^ k) := by
  have hmk := fun w => run_mk n (n : Int) rfl (by omega) w
  have hk1 : (k : Int) / 32 = 0 := by omega
  have hk2 : (k : Int) % 32 = k := by omega
  have hc0 := hc 0 h0
  rw [Nat.add_zero] at hc0
  go_enter Oaig.func68, Oaig.ntmps68
  go_wp2_with fail
  refine hT.out.mono ?_
  rintro e w' ⟨rfl, rfl⟩
  clear hT
  go_wp2_with fail
  refine wp_loop_rounds 1 ?_
  rw [rounds_succ]
  go_wp2
  have hn0 : (0 : Int) < (n : Int) := by omega
  go_quiet (fail)
  go_wp2
  go_loopw [62] (fun ci wr => ∃ (i : Nat) (r : Nat → Nat), i ≤ n ∧ ci = .int .i64 i ∧ Row wr w.heap.size n r ∧ (∀ j, j < n → r j < 4294967296) ∧ vf (cap0 f n) i + cap0 f n i % 2 ^ k * 4294967296 ^ i = vf r i * 2 ^ k + f 0 % 2 ^ k ∧ Ext w wr) (fun i _ => n - (intOf i).toNat)
  case atStart => exact ⟨0, fun _ => 0, Nat.zero_le _, rfl, row_made _ n, fun _ _ => Nat.zero_lt_succ _, by simp [vf, cap0, h0], ((Ext.refl w).drewN _).alloc _ _⟩
  case round =>
    obtain ⟨i, r, hi, rfl, hrow, hr, hv, hext⟩ := hrel
    by_cases hlt : i < n
    · have hca := hext.cell (hc i hlt)
      have hfi := hf i hlt
      have hcr := hrow.cell (i := i) hlt
      have hfr := hrow.frozen i
      have hci : cap0 f n i = f i := by unfold cap0; rw [if_pos hlt]
      have hst : Hid _ := shr_step (r := r) (f0 := cap0 f n) (by rw [hci]; exact hfi) hk hv
      by_cases hl2 : i + 1 < n
      · have hcb := hext.cell (hc (i + 1) hl2)
        have hgi := hf (i + 1) hl2
        have hint : Hid (bits BinOp.or IntKind.u64 (f i : Int) ((f (i + 1) : Int) * 4294967296) / 2 ^ (k % 32) % 4294967296 = (shl1 (cap0 f n i) (cap0 f n (i + 1)) k : Nat)) := by
          rw [hci, show cap0 f n (i + 1) = f (i + 1) from by unfold cap0; rw [if_pos hl2]]
          exact shl1_int hfi hgi hk
        clear hc hf hv hci hmk hk1 hk2
        go_wp2
        go_roundw
        case rel => exact ⟨i + 1, _, by omega, by go_num, hrow.set i _ _ (congrArg (Value.int .u32) hint.out), upd_lt hr (shl1_lt _ _ _), hst.out, hext.setCell (Nat.le_refl _) _⟩
        case measure => simp [intOf]; omega
      · have hint : Hid ((f i : Int) / 2 ^ (k % 32) % 4294967296 = (shl1 (cap0 f n i) (cap0 f n (i + 1)) k : Nat)) := by
          rw [hci, show cap0 f n (i + 1) = 0 from by unfold cap0; rw [if_neg hl2]]
          exact shl1_int0 hk
        clear hc hf hv hci hmk hk1 hk2
        go_wp2
        go_roundw
        case rel => exact ⟨i + 1, _, by omega, by go_num, hrow.set i _ _ (congrArg (Value.int .u32) hint.out), upd_lt hr (shl1_lt _ _ _), hst.out, hext.setCell (Nat.le_refl _) _⟩
        case measure => simp [intOf]; omega
    · obtain rfl : i = n := by omega
      have hlim := hrow.limbs hr
      have hfin : Hid _ := shr_end (V := vf f i) (R := vf r i) (c := f 0) (k := k) (by
        rw [show cap0 f i i = 0 from by unfold cap0; rw [if_neg (by omega)], vf_cap0] at hv
        simpa using hv)
      clear hc hf hv hmk hk1 hk2 hrow
      go_wp2_with fail
      refine (trim_natV hlim (by omega)).mono ?_
      rintro e w3 ⟨v3, rfl, rfl, hres⟩
      go_wp2
      go_ret2
      exact ⟨v3, _, rfl, hext, by rw [← hfin.out]; exact hres⟩

set_option maxHeartbeats 400000 in
theorem shr_nil {w : World} {v : Value} (k : Nat) (hk : k < 32) (hT : Hid (Calls Oaig.prog 65 #[v] w fun e w' => e = .returned (.slice none 0 0) ∧ w = w')) : Calls Oaig.prog 68 #[v, .int .u16 k] w fun e w' => e = .returned (.tuple #[.slice none 0 0, .bool false]) ∧ w = w' := by
  have hk1 : (k : Int) / 32 = 0 := by omega
  go_enter Oaig.func68, Oaig.ntmps68
  go_wp2_with fail
  refine hT.out.mono ?_
  rintro e w' ⟨rfl, rfl⟩
  clear hT
  go_wp2
  refine wp_loop_rounds 1 ?_
  rw [rounds_succ]
  go_wp2
  go_ret2
  exact ⟨rfl, rfl⟩

/-- trim, its answer told before the call. -/
theorem trim_to {w : World} {v : Value} {n : Nat} {f : Nat → Nat} (h : Limbs w v n f) (hn : n ≤ 1000000) :
    ∃ v', (Calls Oaig.prog 65 #[v] w fun e w' => e = .returned v' ∧ w = w') ∧ Limbs w v' (tl f n) f ∧ (tl f n = 0 → v' = .slice none 0 0) := by
  obtain ⟨h1, ao, c, rfl, hc, h2⟩ := h
  have hle := tl_le f n
  rcases Nat.eq_zero_or_pos n with h0 | h0
  · subst h0
    exact ⟨.slice none 0 0, (trim_none ao c w).mono (fun e w' h => ⟨h.1, h.2.symm⟩), ⟨fun i hi => by simp [tl] at hi, none, 0, rfl, Nat.le_refl _, fun hh => absurd rfl hh⟩, fun _ => rfl⟩
  · obtain ⟨b, o, rfl, hcell⟩ := h2 (by omega)
    refine ⟨slv b o (tl f n) c, (trim_some b o n c f w hn hc hcell).mono (fun e w' h => ⟨h.1, h.2.symm⟩), ⟨fun i hi => h1 i (by omega), ?_⟩, fun h => by rw [slv, if_pos h]⟩
    by_cases ht : tl f n = 0
    · exact ⟨none, 0, by rw [slv, if_pos ht, ht], by omega, fun hh => absurd ht hh⟩
    · exact ⟨some ⟨b, o, none⟩, c, by rw [slv, if_neg ht], by omega, fun _ => ⟨b, o, rfl, fun i hi => hcell i (by omega)⟩⟩

/-- nat.Shr of whatever limbs, by fewer than 32 bits. -/
theorem shr_limbs {w : World} {v : Value} {n : Nat} {f : Nat → Nat} (h : Limbs w v n f) (hn : n ≤ 100000) (k : Nat) (hk : k < 32) :
    Calls Oaig.prog 68 #[v, .int .u16 k] w fun e w' => ∃ v b, e = .returned (.tuple #[v, .bool b]) ∧ Ext w w' ∧ NatV w' v (vf f n / 2 ^ k) := by
  obtain ⟨v', hT, ⟨hf, ao, c, rfl, _, hca⟩, hnil⟩ := trim_to h (by omega)
  have hle := tl_le f n
  rw [← vf_tl]
  rcases Nat.eq_zero_or_pos (tl f n) with h0 | h0
  · rw [hnil h0] at hT
    refine (shr_nil k hk hT).mono ?_
    rintro e w' ⟨rfl, rfl⟩
    exact ⟨_, _, rfl, Ext.refl _, by rw [h0, vf, Nat.zero_div]; exact natV_nil w⟩
  · obtain ⟨b, o, rfl, hc⟩ := hca (by omega)
    exact shr_pos k hk (by omega) h0 hT hf hc

/-- nat.Shr of a number, by fewer than 32 bits. -/
theorem shr_any {w : World} {a : Value} {x L : Nat} (ha : NatV w a x) (hx : Lt32 x L) (hL : L ≤ 100000) (k : Nat) (hk : k < 32) :
    Calls Oaig.prog 68 #[a, .int .u16 k] w fun e w' => ∃ v b, e = .returned (.tuple #[v, .bool b]) ∧ Ext w w' ∧ NatV w' v (x / 2 ^ k) := by
  obtain ⟨n, f, hl, hn, hnil, rfl⟩ := ha
  have hnL := norm_len hn hx
  exact shr_limbs hl (by omega) k hk

#print axioms shr_any
end Go.Proofs.Ygcoai
