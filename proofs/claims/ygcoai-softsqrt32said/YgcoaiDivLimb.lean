/-
  Seat gcoai. nat.divLimb (106), nat.guess (151).
-/
import Derived.Test.YgcoaiShr
namespace Go.Proofs.Ygcoai
open Go.RowKit

/-- The limbs from j on. -/
def from_ (f : Nat → Nat) (j : Nat) : Nat → Nat := fun t => f (j + t)

theorem vf_from (f : Nat → Nat) (j m : Nat) : vf f (j + m) = vf f j + 4294967296 ^ j * vf (from_ f j) m := by
  induction m with
  | zero => simp [vf]
  | succ k ih =>
    rw [← Nat.add_assoc, vf, ih, vf, Nat.mul_add, Nat.pow_add, from_, Nat.mul_comm (f (j + k))]
    rw [Nat.mul_assoc (4294967296 ^ j), Nat.mul_comm (4294967296 ^ k)]
    omega

theorem vf_cons (f : Nat → Nat) (j m : Nat) : vf (from_ f j) (m + 1) = f j + 4294967296 * vf (from_ f (j + 1)) m := by
  have h := vf_from (from_ f j) 1 m
  rw [Nat.add_comm 1 m] at h
  have e : from_ (from_ f j) 1 = from_ f (j + 1) := by funext t; unfold from_; rw [Nat.add_assoc]
  rw [h, e]
  simp [vf, from_]

theorem from_zero (f : Nat → Nat) : from_ f 0 = f := by funext t; unfold from_; rw [Nat.zero_add]

theorem vf_from_upd_above {r : Nat → Nat} {k x j m : Nat} (h : k < j) : vf (from_ (upd r k x) j) m = vf (from_ r j) m :=
  vf_congr (fun i _ => by unfold from_ upd; rw [if_neg (by omega)])

theorem dl_step {r f : Nat → Nat} {j m d rest : Nat} (hv : vf (from_ r (j + 1)) m * d + rest = vf (from_ f (j + 1)) m) :
    vf (from_ (upd r j ((rest * 4294967296 + f j) / d)) j) (m + 1) * d + (rest * 4294967296 + f j) % d = vf (from_ f j) (m + 1) := by
  rw [vf_cons, vf_cons, vf_from_upd_above (by omega), ← hv]
  have e : upd r j ((rest * 4294967296 + f j) / d) j = (rest * 4294967296 + f j) / d := by unfold upd; rw [if_pos rfl]
  rw [e]
  have h := Nat.div_add_mod (rest * 4294967296 + f j) d
  obtain ⟨T, hT⟩ : ∃ T, T = rest * 4294967296 + f j := ⟨_, rfl⟩
  rw [← hT] at h ⊢
  rw [Nat.add_mul, Nat.mul_add, Nat.mul_comm (T / d) d, Nat.mul_assoc 4294967296]
  omega

theorem rest_lt {rest x d : Nat} (h1 : rest < d) (h2 : d < 4294967296) (h3 : x < 4294967296) : rest * 4294967296 + x < 18446744073709551616 := by omega
theorem quo_lt {rest x d : Nat} (h1 : rest < d) (h3 : x < 4294967296) : (rest * 4294967296 + x) / d < 4294967296 := by
  apply Nat.div_lt_of_lt_mul
  have : (rest + 1) * 4294967296 ≤ d * 4294967296 := Nat.mul_le_mul_right _ h1
  omega

theorem join64 {g x : Nat} (h1 : g < 4294967296) (h3 : x < 4294967296) : bits BinOp.or IntKind.u64 ((g : Int) * 4294967296) (x : Int) = ((g * 4294967296 + x : Nat) : Int) := by
  have e : ((g : Int) * 4294967296) = ((g * 4294967296 : Nat) : Int) := by omega
  rw [e, u64_or_nat _ _ (by omega) (by omega), nat_join 32 _ _ (by omega) (by omega)]

theorem joinRest {rest x d : Nat} (h1 : rest < d) (h2 : d < 4294967296) (h3 : x < 4294967296) : bits BinOp.or IntKind.u64 ((rest : Int) * 4294967296) (x : Int) = ((rest * 4294967296 + x : Nat) : Int) := by
  have e : ((rest : Int) * 4294967296) = ((rest * 4294967296 : Nat) : Int) := by omega
  rw [e, u64_or_nat _ _ (by omega) (by omega), nat_join 32 _ _ (by omega) (by omega)]

theorem rem_int (rest x d : Nat) : ((rest : Int) * 4294967296 + x) % d = ((rest * 4294967296 + x) % d : Nat) := by simp
theorem quo_int {rest x d : Nat} (h : (rest * 4294967296 + x) / d < 4294967296) : ((rest : Int) * 4294967296 + x) / d % 4294967296 = ((rest * 4294967296 + x) / d : Nat) := by
  have e : ((rest : Int) * 4294967296 + x) / d = ((rest * 4294967296 + x) / d : Nat) := by simp
  rw [e]
  generalize (rest * 4294967296 + x) / d = q at h
  omega

set_option maxHeartbeats 400000 in
theorem divLimb_any {w : World} {ba oa n c : Nat} {f : Nat → Nat} (d : Nat) (hd : 0 < d) (hd2 : d < 4294967296) (hn : n ≤ 100000)
    (hf : ∀ i, i < n → f i < 4294967296) (hc : ∀ i, i < n → w.cell? ⟨ba, oa + i, none⟩ = some (.int .u32 (f i : Nat))) :
    Calls Oaig.prog 106 #[.slice (some ⟨ba, oa, none⟩) n c, .int .u32 d] w fun e w' => ∃ v, e = .returned (.tuple #[v, .int .u32 (vf f n % d : Nat)]) ∧ Ext w w' ∧ NatV w' v (vf f n / d) := by
  have hmk := fun w => run_mk n (n : Int) rfl (by omega) w
  go_enter Oaig.func106, Oaig.ntmps106
  go_wp2_with fail
  go_loopw [7, 8] (fun cr ci wr => ∃ (j rest : Nat) (r : Nat → Nat), j ≤ n ∧ ci = .int .i64 ((j : Int) - 1) ∧ cr = .int .u64 rest ∧ rest < d ∧ Row wr w.heap.size n r ∧ (∀ j, j < n → r j < 4294967296) ∧ vf (from_ r j) (n - j) * d + rest = vf (from_ f j) (n - j) ∧ Ext w wr) (fun _ i _ => (intOf i + 1).toNat)
  case atStart => exact ⟨n, 0, fun _ => 0, Nat.le_refl _, rfl, rfl, hd, row_made w n, fun _ _ => Nat.zero_lt_succ _, by simp [vf], (Ext.refl w).alloc _ _⟩
  case round =>
    obtain ⟨j, rest, r, hj, rfl, rfl, hrest, hrow, hr, hv, hext⟩ := hrel
    rcases Nat.eq_zero_or_pos j with h0 | h0
    · subst h0
      have hlim := hrow.limbs hr
      rw [from_zero, from_zero, Nat.sub_zero] at hv
      have hq : Hid (vf r n = vf f n / d) := by
        show vf r n = vf f n / d
        rw [← hv, Nat.mul_comm, Nat.mul_add_div hd, Nat.div_eq_of_lt hrest, Nat.add_zero]
      have hm : Hid (rest = vf f n % d) := by
        show rest = vf f n % d
        rw [← hv, Nat.mul_comm, Nat.mul_add_mod, Nat.mod_eq_of_lt hrest]
      clear hc hf hv hmk hrow
      go_wp2_with fail
      refine (trim_natV hlim (by omega)).mono ?_
      rintro e w3 ⟨v3, rfl, rfl, hres⟩
      go_wp2
      go_ret2
      refine ⟨v3, ?_, hext, by rw [← hq.out]; exact hres⟩
      rw [← hm.out]
      rfl
    · obtain ⟨i, rfl⟩ : ∃ i, j = i + 1 := ⟨j - 1, by omega⟩
      have hca := hext.cell (hc i (by omega))
      have hfi := hf i (by omega)
      have hcr := hrow.cell (i := i) (by omega)
      have hfr := hrow.frozen i
      rw [show n - (i + 1) = n - i - 1 from by omega] at hv
      have hst : Hid (vf (from_ (upd r i ((rest * 4294967296 + f i) / d)) i) (n - i) * d + (rest * 4294967296 + f i) % d = vf (from_ f i) (n - i)) := by
        have := dl_step hv
        rw [show n - i - 1 + 1 = n - i from by omega] at this
        exact this
      have hjn := joinRest hrest hd2 hfi
      have hlt := rest_lt hrest hd2 hfi
      have hql : Hid _ := quo_lt hrest hfi
      clear hc hf hv hmk
      go_wp2
      go_roundw
      case rel => exact ⟨i, _, _, by omega, rfl, congrArg (Value.int .u64) (rem_int rest (f i) d), Nat.mod_lt _ hd, hrow.set i _ _ (congrArg (Value.int .u32) (quo_int hql.out)), upd_lt hr hql.out, hst.out, hext.setCell (Nat.le_refl _) _⟩
      case measure => simp [intOf]

/-! ### guess -/

/-- The digit that the three top limbs and the divisor's two top limbs suggest. -/
def gsd (u2 u1 u0 d1 d0 : Nat) : Nat := min 4294967295 ((u2 * 18446744073709551616 + u1 * 4294967296 + u0) / (d1 * 4294967296 + d0))

theorem gs_start {u2 u1 u0 d1 d0 : Nat} (hd : 0 < d1) (h0 : u0 < 4294967296) : gsd u2 u1 u0 d1 d0 ≤ (u2 * 4294967296 + u1) / d1 := by
  unfold gsd
  have h : (u2 * 18446744073709551616 + u1 * 4294967296 + u0) / (d1 * 4294967296 + d0) ≤ (u2 * 4294967296 + u1) / d1 := by
    rw [Nat.le_div_iff_mul_le hd]
    obtain ⟨q, hq⟩ : ∃ q, q = (u2 * 18446744073709551616 + u1 * 4294967296 + u0) / (d1 * 4294967296 + d0) := ⟨_, rfl⟩
    have h1 : q * (d1 * 4294967296 + d0) ≤ u2 * 18446744073709551616 + u1 * 4294967296 + u0 := by rw [hq]; exact Nat.div_mul_le_self _ _
    rw [← hq]
    rw [Nat.mul_add, ← Nat.mul_assoc] at h1
    omega
  omega

theorem gs_cond {u2 u1 u0 d1 d0 e r : Nat} (hr : e * d1 + r = u2 * 4294967296 + u1) : (r * 4294967296 + u0 < e * d0) ↔ (u2 * 18446744073709551616 + u1 * 4294967296 + u0 < e * (d1 * 4294967296 + d0)) := by
  have h : (e * d1 + r) * 4294967296 = (u2 * 4294967296 + u1) * 4294967296 := by rw [hr]
  rw [Nat.mul_add, ← Nat.mul_assoc]
  omega

theorem gs_down {u2 u1 u0 d1 d0 e : Nat} (_hg : gsd u2 u1 u0 d1 d0 ≤ e) (he : 0 < e) (hc : 4294967296 ≤ e ∨ u2 * 18446744073709551616 + u1 * 4294967296 + u0 < e * (d1 * 4294967296 + d0)) : gsd u2 u1 u0 d1 d0 ≤ e - 1 := by
  rcases hc with h | h
  · unfold gsd; omega
  · have : (u2 * 18446744073709551616 + u1 * 4294967296 + u0) / (d1 * 4294967296 + d0) < e := Nat.div_lt_of_lt_mul (by rw [Nat.mul_comm (d1 * 4294967296 + d0) e]; exact h)
    unfold gsd; omega

theorem gs_stop {u2 u1 u0 d1 d0 e : Nat} (hd : 0 < d1) (hg : gsd u2 u1 u0 d1 d0 ≤ e) (h1 : e < 4294967296) (h2 : e * (d1 * 4294967296 + d0) ≤ u2 * 18446744073709551616 + u1 * 4294967296 + u0) : e = gsd u2 u1 u0 d1 d0 := by
  have : e ≤ (u2 * 18446744073709551616 + u1 * 4294967296 + u0) / (d1 * 4294967296 + d0) := (Nat.le_div_iff_mul_le (by omega)).2 h2
  unfold gsd at *; omega

theorem gs_break {u2 u1 u0 d1 d0 e r : Nat} (hu2 : u2 ≤ d1) (hu1 : u1 < 4294967296) (hd0 : d0 < 4294967296) (hr : e * d1 + r = u2 * 4294967296 + u1) (hb : 4294967296 ≤ r) :
    e < 4294967296 ∧ e * (d1 * 4294967296 + d0) ≤ u2 * 18446744073709551616 + u1 * 4294967296 + u0 := by
  have he : e < 4294967296 := by
    rcases Nat.lt_or_ge e 4294967296 with h | h
    · exact h
    · have h1 : 4294967296 * d1 ≤ e * d1 := Nat.mul_le_mul_right _ h
      have h2 : u2 * 4294967296 ≤ d1 * 4294967296 := Nat.mul_le_mul_right _ hu2
      omega
  refine ⟨he, ?_⟩
  have h3 : e * d0 ≤ 4294967295 * 4294967295 := Nat.mul_le_mul (by omega) (by omega)
  have h : (e * d1 + r) * 4294967296 = (u2 * 4294967296 + u1) * 4294967296 := by rw [hr]
  rw [Nat.mul_add, ← Nat.mul_assoc]
  omega

theorem gs_e {u2 u1 d1 e r : Nat} (hd : 2147483648 ≤ d1) (hu2 : u2 ≤ d1) (hu1 : u1 < 4294967296) (hr : e * d1 + r = u2 * 4294967296 + u1) : e ≤ 4294967297 := by
  rcases Nat.lt_or_ge 4294967297 e with h | h
  · have h1 : 4294967298 * d1 ≤ e * d1 := Nat.mul_le_mul_right _ h
    have h2 : u2 * 4294967296 ≤ d1 * 4294967296 := Nat.mul_le_mul_right _ hu2
    omega
  · exact h

set_option maxHeartbeats 200000 in
theorem guess_any (w : World) (u2 u1 u0 d1 d0 : Nat) (h2 : u2 < 4294967296) (h1 : u1 < 4294967296) (h0 : u0 < 4294967296) (hd1 : d1 < 4294967296) (hd0 : d0 < 4294967296) (hn : 2147483648 ≤ d1) (hu : u2 ≤ d1) :
    Calls Oaig.prog 151 #[.int .u32 u2, .int .u32 u1, .int .u32 u0, .int .u32 d1, .int .u32 d0] w fun e w' => e = .returned (.int .u32 (gsd u2 u1 u0 d1 d0)) ∧ Ext w w' := by
  have hjn := join64 h2 h1
  go_enter Oaig.func151, Oaig.ntmps151
  go_wp2_with fail
  go_quiet (fail)
  go_wp2
  go_loopw [12, 13] (fun ce cr wr => ∃ e r : Nat, ce = .int .u64 e ∧ cr = .int .u64 r ∧ e * d1 + r = u2 * 4294967296 + u1 ∧ r < 4294967296 ∧ gsd u2 u1 u0 d1 d0 ≤ e ∧ Ext w wr) (fun e _ _ => (intOf e).toNat)
  case atStart =>
    refine ⟨(u2 * 4294967296 + u1) / d1, (u2 * 4294967296 + u1) % d1, by simp, by simp, ?_, ?_, gs_start (by omega) h0, (Ext.refl w).drewN _⟩
    · rw [Nat.mul_comm]; exact Nat.div_add_mod _ _
    · have := Nat.mod_lt (u2 * 4294967296 + u1) (show 0 < d1 by omega); omega
  case round =>
    obtain ⟨e, r, rfl, rfl, hr, hrl, hg, hext⟩ := hrel
    have hel := gs_e hn hu h1 hr
    have hcd : Hid _ := gs_cond (u0 := u0) (d0 := d0) hr
    by_cases hbig : 4294967296 ≤ e
    · have hdn : Hid _ := gs_down hg (by omega) (Or.inl hbig)
      have hr' : Hid ((e - 1) * d1 + (r + d1) = u2 * 4294967296 + u1) := by
        show (e - 1) * d1 + (r + d1) = u2 * 4294967296 + u1
        rw [← hr, show e * d1 = (e - 1 + 1) * d1 from by rw [Nat.sub_add_cancel (by omega)], Nat.add_mul]; omega
      clear hr hg hjn
      have hb1 : decide ((4294967296 : Int) ≤ (e : Int)) = true := decide_eq_true (by omega)
      by_cases hbr : 4294967296 ≤ r + d1
      · have hb2 : decide ((4294967296 : Int) ≤ (r : Int) + (d1 : Int)) = true := decide_eq_true (by omega)
        obtain ⟨q1, q2⟩ := gs_break (u0 := u0) (d0 := d0) hu h1 hd0 hr'.out hbr
        have hres : Hid _ := gs_stop (by omega) hdn.out q1 q2
        clear q2
        go_wp2
        go_ret
        exact ⟨ret_int (by rw [← hres.out]; omega), hext⟩
      · have hb2 : decide ((4294967296 : Int) ≤ (r : Int) + (d1 : Int)) = false := decide_eq_false (by omega)
        go_wp2
        go_roundw
        case rel => exact ⟨e - 1, r + d1, by go_num, by go_num, hr'.out, by omega, hdn.out, hext⟩
        case measure => simp [intOf]; omega
    · have hb1 : decide ((4294967296 : Int) ≤ (e : Int)) = false := decide_eq_false (by omega)
      have hj2 := join64 hrl h0
      have hp1 := mul_leI (a := e) (b := d0) (by omega) hd0
      have hp2 := mul_geI e d0
      by_cases hc : r * 4294967296 + u0 < e * d0
      · have hb3 : decide ((r : Int) * 4294967296 + (u0 : Int) < (e : Int) * (d0 : Int)) = true := decide_eq_true (by rw [← Int.natCast_mul]; omega)
        have he0 : 0 < e := by
          rcases Nat.eq_zero_or_pos e with h | h
          · rw [h, Nat.zero_mul] at hc; omega
          · exact h
        have hdn : Hid _ := gs_down hg he0 (Or.inr (hcd.out.1 hc))
        have hr' : Hid ((e - 1) * d1 + (r + d1) = u2 * 4294967296 + u1) := by
          show (e - 1) * d1 + (r + d1) = u2 * 4294967296 + u1
          rw [← hr, show e * d1 = (e - 1 + 1) * d1 from by rw [Nat.sub_add_cancel (by omega)], Nat.add_mul]; omega
        clear hr hg hjn hc
        by_cases hbr : 4294967296 ≤ r + d1
        · have hb2 : decide ((4294967296 : Int) ≤ (r : Int) + (d1 : Int)) = true := decide_eq_true (by omega)
          obtain ⟨q1, q2⟩ := gs_break (u0 := u0) (d0 := d0) hu h1 hd0 hr'.out hbr
          have hres : Hid _ := gs_stop (by omega) hdn.out q1 q2
          clear q2
          go_wp2
          go_ret
          exact ⟨ret_int (by rw [← hres.out]; omega), hext⟩
        · have hb2 : decide ((4294967296 : Int) ≤ (r : Int) + (d1 : Int)) = false := decide_eq_false (by omega)
          go_wp2
          go_roundw
          case rel => exact ⟨e - 1, r + d1, by go_num, by go_num, hr'.out, by omega, hdn.out, hext⟩
          case measure => simp [intOf]; omega
      · have hb3 : decide ((r : Int) * 4294967296 + (u0 : Int) < (e : Int) * (d0 : Int)) = false := decide_eq_false (by rw [← Int.natCast_mul]; omega)
        have hres : Hid _ := gs_stop (by omega) hg (by omega) (Nat.le_of_not_lt (fun h => hc (hcd.out.2 h)))
        clear hr hg hjn hc
        go_wp2
        go_ret
        exact ⟨ret_int (by rw [← hres.out]), hext⟩

#print axioms guess_any
end Go.Proofs.Ygcoai
