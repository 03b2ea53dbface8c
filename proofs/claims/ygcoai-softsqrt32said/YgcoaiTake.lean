/-
  Seat gcoai. nat.takeAway (152), nat.putBack (153): in place, on a window of a row that the caller has made.
-/
import Derived.Test.YgcoaiDivLimb
import Derived.Test.YgcoaiSub
import Derived.Test.YgcoaiAdd
namespace Go.Proofs.Ygcoai
open Go.RowKit

/-- Of what was there block B alone has turned. -/
structure Only (B : Nat) (w w' : World) : Prop where
  os : w'.os = w.os
  tape : w'.tape = w.tape
  output : w'.output = w.output
  size : w.heap.size ≤ w'.heap.size
  block : ∀ k, k < w.heap.size → k ≠ B → w'.heap[k]? = w.heap[k]?
  froz : ∀ a, w'.frozen? a = w.frozen? a

theorem Only.refl (B : Nat) (w : World) : Only B w w := ⟨rfl, rfl, rfl, Nat.le_refl _, fun _ _ _ => rfl, fun _ => rfl⟩
theorem Only.trans {B : Nat} {a b c : World} (h : Only B a b) (k : Only B b c) : Only B a c :=
  ⟨k.os.trans h.os, k.tape.trans h.tape, k.output.trans h.output, Nat.le_trans h.size k.size, fun i hi hB => (k.block i (Nat.lt_of_lt_of_le hi h.size) hB).trans (h.block i hi hB), fun x => (k.froz x).trans (h.froz x)⟩
theorem Only.ofExt {B : Nat} {w w' : World} (h : Ext w w') : Only B w w' := ⟨h.below.os, h.below.tape, h.below.output, h.size, fun k hk _ => h.below.block k hk, h.froz⟩
theorem Only.setCell {B : Nat} {w w' : World} (h : Only B w w') (i : Nat) (v : Value) : Only B w (w'.setCell ⟨B, i, none⟩ v) :=
  h.trans ⟨rfl, rfl, rfl, by simp [World.setCell], fun k _ hk => Below.heap_setCell _ _ _ _ hk, fun x => World.frozen?_setCell _ _ _ _⟩
theorem Only.drewN {B : Nat} {w w' : World} (h : Only B w w') (n : Nat) : Only B w (w'.drewN n) := ⟨h.os, h.tape, h.output, h.size, h.block, h.froz⟩
theorem Only.cell {B : Nat} {w w' : World} (h : Only B w w') {b o : Nat} {v : Value} (hb : b ≠ B) (hc : w.cell? ⟨b, o, none⟩ = some v) : w'.cell? ⟨b, o, none⟩ = some v :=
  (World.cell?_of_block (w := w) (w' := w') (a := ⟨b, o, none⟩) (h.block b (lt_of_cell hc) hb)).trans hc
theorem Only.ext {B : Nat} {w0 w w' : World} (h : Only B w w') (e : Ext w0 w) (hB : w0.heap.size ≤ B) : Ext w0 w' :=
  ⟨⟨h.os.trans e.below.os, h.tape.trans e.below.tape, h.output.trans e.below.output, Nat.le_trans e.size h.size, fun k hk => (h.block k (Nat.lt_of_lt_of_le hk e.size) (by omega)).trans (e.below.block k hk)⟩, fun a => (h.froz a).trans (e.froz a)⟩
theorem Row.only {B C n : Nat} {w w' : World} {r : Nat → Nat} (h : Row w C n r) (o : Only B w w') (hne : C ≠ B) : Row w' C n r :=
  World.rowIs.of_block h (o.block C h.lt hne)

/-- A window's sum with one limb more. -/
theorem vf_win (r : Nat → Nat) (j k : Nat) : vf (from_ r j) (k + 1) = vf (from_ r j) k + r (j + k) * 4294967296 ^ k := rfl

theorem vf_win_upd {r : Nat → Nat} {j k x : Nat} : vf (from_ (upd r (j + k) x) j) (k + 1) = vf (from_ r j) k + x * 4294967296 ^ k := by
  rw [vf_win]
  have h1 : vf (from_ (upd r (j + k) x) j) k = vf (from_ r j) k := vf_congr (fun i hi => by unfold from_ upd; rw [if_neg (by omega)])
  rw [h1]; unfold upd; rw [if_pos rfl]

theorem upd_out {r r0 : Nat → Nat} {j k x : Nat} (h : ∀ t, t < j ∨ j + k ≤ t → r t = r0 t) : ∀ t, t < j ∨ j + (k + 1) ≤ t → upd r (j + k) x t = r0 t := by
  intro t ht; unfold upd; rw [if_neg (by omega)]; exact h t (by omega)

/-- One limb of takeAway: T is the running product, c its high half; u the limb, b the borrow. -/
theorem take_sum (P V W cb T u b x z : Nat) (G : Nat) (hv : V + G = W + cb * P) (t : Nat) (hT : cb + t = T + b) (h : x + T % 4294967296 + b = u + 4294967296 * z) :
    V + x * P + (G + t * P) = W + u * P + (T / 4294967296 + z) * (P * 4294967296) := by
  have h1 : x + cb + t = u + 4294967296 * (T / 4294967296 + z) := by have := Nat.mod_add_div T 4294967296; omega
  have h2 : (x + cb + t) * P = (u + 4294967296 * (T / 4294967296 + z)) * P := by rw [h1]
  rw [Nat.add_mul, Nat.add_mul, Nat.add_mul u] at h2
  have h3 : (T / 4294967296 + z) * (P * 4294967296) = 4294967296 * (T / 4294967296 + z) * P := by rw [Nat.mul_comm P, ← Nat.mul_assoc, Nat.mul_comm _ 4294967296]
  omega

theorem tk_eq {u q b : Nat} (hu : u < 4294967296) (hq : q < 4294967296) (hb : b ≤ 1) : dlo u q b + q + b = u + 4294967296 * dhi u q b := by unfold dlo dhi; omega
theorem tk_and {T : Nat} (hT : T < 18446744073709551616) : bits BinOp.and IntKind.u64 (T : Int) 4294967295 = ((T % 4294967296 : Nat) : Int) := by
  rw [show (4294967295 : Int) = ((4294967295 : Nat) : Int) from rfl, u64_and_nat _ _ hT (by decide), nat_mask32]
theorem tk_lo {u T b : Nat} (hu : u < 4294967296) (hT : T < 18446744073709551616) (hb : b ≤ 1) : IntKind.u64.wrap (IntKind.u64.wrap ((u : Int) - bits BinOp.and IntKind.u64 (T : Int) 4294967295) - b) % 4294967296 = (dlo u (T % 4294967296) b : Nat) := by
  rw [tk_and hT]
  have : T % 4294967296 < 4294967296 := Nat.mod_lt _ (by decide)
  generalize T % 4294967296 = q at this
  simp only [IntKind.wrap_u64]; unfold dlo; omega
theorem tk_hi {u T b : Nat} (hu : u < 4294967296) (hT : T < 18446744073709551616) (hb : b ≤ 1) : IntKind.u64.wrap (IntKind.u64.wrap ((u : Int) - bits BinOp.and IntKind.u64 (T : Int) 4294967295) - b) / 9223372036854775808 = (dhi u (T % 4294967296) b : Nat) := by
  rw [tk_and hT]
  have : T % 4294967296 < 4294967296 := Nat.mod_lt _ (by decide)
  generalize T % 4294967296 = q at this
  simp only [IntKind.wrap_u64]; unfold dhi; omega
theorem tk_cast (cy D g : Nat) : ((cy : Int) + (D : Int) * (g : Int)) = ((cy + D * g : Nat) : Int) := by simp
theorem tk_bd {cy D g : Nat} (hcy : cy < 4294967296) (hD : D < 4294967296) (hg : g < 4294967296) : cy + D * g < 18446744073709551616 ∧ (cy + D * g) / 4294967296 < 4294967296 := by
  have := mul_le hD hg
  omega

theorem tk_step {r r0 g : Nat → Nat} {j k n cy bo D T : Nat} (hkn : k < n) (hT : T = cy + D * g k) (hu : r (j + k) < 4294967296) (hbo : bo ≤ 1) (he : r (j + k) = r0 (j + k))
    (hv : vf (from_ r j) k + D * vf g (min k n) = vf (from_ r0 j) k + (cy + bo) * 4294967296 ^ k) :
    vf (from_ (upd r (j + k) (dlo (r (j + k)) (T % 4294967296) bo)) j) (k + 1) + D * vf g (min (k + 1) n) = vf (from_ r0 j) (k + 1) + (T / 4294967296 + dhi (r (j + k)) (T % 4294967296) bo) * 4294967296 ^ (k + 1) := by
  rw [vf_win_upd, vf_win, Nat.min_eq_left (by omega : k + 1 ≤ n), vf, Nat.mul_add, Nat.pow_succ, ← he]
  rw [Nat.min_eq_left (by omega : k ≤ n)] at hv
  have h := take_sum (4294967296 ^ k) _ _ (cy + bo) T (r (j + k)) bo _ _ (D * vf g k) hv (D * g k) (by omega) (tk_eq hu (Nat.mod_lt T (by decide)) hbo)
  rw [← Nat.mul_assoc]
  exact h
theorem tk_step1 {r r0 g : Nat → Nat} {j k n cy bo D : Nat} (hkn : ¬ k < n) (hcy : cy < 4294967296) (hu : r (j + k) < 4294967296) (hbo : bo ≤ 1) (he : r (j + k) = r0 (j + k))
    (hv : vf (from_ r j) k + D * vf g (min k n) = vf (from_ r0 j) k + (cy + bo) * 4294967296 ^ k) :
    vf (from_ (upd r (j + k) (dlo (r (j + k)) (cy % 4294967296) bo)) j) (k + 1) + D * vf g (min (k + 1) n) = vf (from_ r0 j) (k + 1) + (0 + dhi (r (j + k)) (cy % 4294967296) bo) * 4294967296 ^ (k + 1) := by
  rw [vf_win_upd, vf_win, Nat.min_eq_right (by omega : n ≤ k + 1), Nat.pow_succ, ← he]
  rw [Nat.min_eq_right (by omega : n ≤ k)] at hv
  have h := take_sum (4294967296 ^ k) _ _ (cy + bo) cy (r (j + k)) bo _ _ (D * vf g n) hv 0 (by omega) (tk_eq hu (Nat.mod_lt cy (by decide)) hbo)
  rw [Nat.div_eq_of_lt hcy, Nat.zero_mul, Nat.add_zero] at h
  exact h

set_option maxHeartbeats 1000000 in
theorem takeAway_any {w : World} {Bu N j n cu bd od cd D : Nat} {r0 g : Nat → Nat} (hrow0 : Row w Bu N r0) (hN : j + n + 1 ≤ N) (hNn : N ≤ 200000) (hr0 : ∀ t, t < N → r0 t < 4294967296) (_hcu : n + 1 ≤ cu)
    (hne : bd ≠ Bu) (hg : ∀ i, i < n → g i < 4294967296) (hgc : ∀ i, i < n → w.cell? ⟨bd, od + i, none⟩ = some (.int .u32 (g i : Nat))) (hD : D < 4294967296) :
    Calls Oaig.prog 152 #[.slice (some ⟨Bu, j, none⟩) (n + 1) cu, .slice (some ⟨bd, od, none⟩) n cd, .int .u32 D] w fun e w' => ∃ (bo : Nat) (r : Nat → Nat), e = .returned (.bool (decide (bo = 1))) ∧ bo ≤ 1 ∧ Row w' Bu N r ∧ (∀ t, t < N → r t < 4294967296) ∧ (∀ t, t < j ∨ j + (n + 1) ≤ t → r t = r0 t) ∧
      vf (from_ r j) (n + 1) + D * vf g n = vf (from_ r0 j) (n + 1) + bo * 4294967296 ^ (n + 1) ∧ Only Bu w w' := by
  go_enter Oaig.func152, Oaig.ntmps152
  go_wp2_with fail
  go_loopw [7, 8, 13] (fun cc cb ci wr => ∃ (k cy bo : Nat) (r : Nat → Nat), k ≤ n + 1 ∧ ci = .int .i64 k ∧ cc = .int .u64 cy ∧ cb = .int .u64 bo ∧ cy < 4294967296 ∧ bo ≤ 1 ∧ Row wr Bu N r ∧ (∀ t, t < N → r t < 4294967296) ∧ (∀ t, t < j ∨ j + k ≤ t → r t = r0 t) ∧ (n < k → cy = 0) ∧
      vf (from_ r j) k + D * vf g (min k n) = vf (from_ r0 j) k + (cy + bo) * 4294967296 ^ k ∧ Only Bu w wr) (fun _ _ i _ => n + 1 - (intOf i).toNat)
  case atStart => exact ⟨0, 0, 0, r0, Nat.zero_le _, rfl, rfl, rfl, by decide, by decide, hrow0, hr0, fun _ _ => rfl, fun h => rfl, by simp [vf], Only.refl _ _⟩
  case round =>
    obtain ⟨k, cy, bo, r, hk, rfl, rfl, rfl, hcy, hbo, hrow, hr, hout, hz, hv, hon⟩ := hrel
    by_cases hlt : k < n + 1
    · have hcr := hrow.cell (i := j + k) (by omega)
      have hfr := hrow.frozen (j + k)
      have hrk := hr (j + k) (by omega)
      by_cases hkn : k < n
      · have hgk := hg k hkn
        have hgk' := hon.cell hne (hgc k hkn)
        have hp1 := mul_leI hD hgk
        have hp2 := mul_geI D (g k)
        have hbd := tk_bd hcy hD hgk
        have hst : Hid _ := tk_step hkn rfl hrk hbo (hout (j + k) (by omega)) hv
        have hout' : Hid _ := upd_out (x := dlo (r (j + k)) ((cy + D * g k) % 4294967296) bo) hout
        have hlo : Hid _ := tk_lo hrk hbd.1 hbo
        have hhi : Hid _ := tk_hi hrk hbd.1 hbo
        rw [← tk_cast] at hlo hhi
        have hbd2 : Hid _ := hbd.2
        clear hgc hv hout hz hbd
        go_wp2
        go_roundw
        case rel => exact ⟨k + 1, (cy + D * g k) / 4294967296, dhi (r (j + k)) ((cy + D * g k) % 4294967296) bo, _, by omega, by go_num, by go_num, congrArg (Value.int .u64) hhi.out, hbd2.out, dhi_le, hrow.set (j + k) _ _ (congrArg (Value.int .u32) hlo.out), upd_lt hr (dlo_lt _ _ _), hout'.out, fun h => by omega, hst.out, hon.setCell _ _⟩
        case measure => simp [intOf]; omega
      · have hst : Hid _ := tk_step1 hkn hcy hrk hbo (hout (j + k) (by omega)) hv
        have hout' : Hid _ := upd_out (x := dlo (r (j + k)) (cy % 4294967296) bo) hout
        have hlo : Hid _ := tk_lo (T := cy) hrk (by omega) hbo
        have hhi : Hid _ := tk_hi (T := cy) hrk (by omega) hbo
        clear hgc hv hout hz
        go_wp2
        go_roundw
        case rel => exact ⟨k + 1, 0, dhi (r (j + k)) (cy % 4294967296) bo, _, by omega, by go_num, by go_num, congrArg (Value.int .u64) hhi.out, by decide, dhi_le, hrow.set (j + k) _ _ (congrArg (Value.int .u32) hlo.out), upd_lt hr (dlo_lt _ _ _), hout'.out, fun h => rfl, hst.out, hon.setCell _ _⟩
        case measure => simp [intOf]; omega
    · obtain rfl : k = n + 1 := by omega
      have hz' := hz (by omega)
      subst hz'
      rw [Nat.min_eq_right (by omega : n ≤ n + 1), Nat.zero_add] at hv
      have hv' : Hid _ := hv
      have hb : ((bo : Int) == 1) = decide (bo = 1) := by
        by_cases h : bo = 1
        · subst h; rfl
        · rw [decide_eq_false h, beq_eq_false_iff_ne]; omega
      clear hgc hv hz
      go_wp2
      go_ret
      exact ⟨bo, r, rfl, hbo, hrow, hr, hout, hv'.out, hon⟩

/-! ### putBack -/

theorem pb_step {r r0 g : Nat → Nat} {j k n cy : Nat} (hkn : k < n) (he : r (j + k) = r0 (j + k)) (hv : vf (from_ r j) k + cy * 4294967296 ^ k = vf (from_ r0 j) k + vf g (min k n)) :
    vf (from_ (upd r (j + k) ((cy + r (j + k) + g k) % 4294967296)) j) (k + 1) + (cy + r (j + k) + g k) / 4294967296 * 4294967296 ^ (k + 1) = vf (from_ r0 j) (k + 1) + vf g (min (k + 1) n) := by
  rw [vf_win_upd, vf_win, Nat.min_eq_left (by omega : k + 1 ≤ n), vf, Nat.pow_succ, ← he]
  rw [Nat.min_eq_left (by omega : k ≤ n)] at hv
  have h := step_sum (4294967296 ^ k) _ cy (r (j + k) + g k) _ ((cy + r (j + k) + g k) % 4294967296) ((cy + r (j + k) + g k) / 4294967296) hv (by omega)
  rw [Nat.add_mul] at h
  omega
theorem pb_step1 {r r0 g : Nat → Nat} {j k n cy : Nat} (hkn : ¬ k < n) (he : r (j + k) = r0 (j + k)) (hv : vf (from_ r j) k + cy * 4294967296 ^ k = vf (from_ r0 j) k + vf g (min k n)) :
    vf (from_ (upd r (j + k) ((cy + r (j + k)) % 4294967296)) j) (k + 1) + (cy + r (j + k)) / 4294967296 * 4294967296 ^ (k + 1) = vf (from_ r0 j) (k + 1) + vf g (min (k + 1) n) := by
  rw [vf_win_upd, vf_win, Nat.min_eq_right (by omega : n ≤ k + 1), Nat.pow_succ, ← he]
  rw [Nat.min_eq_right (by omega : n ≤ k)] at hv
  have h := step_sum (4294967296 ^ k) _ cy (r (j + k)) _ ((cy + r (j + k)) % 4294967296) ((cy + r (j + k)) / 4294967296) hv (by omega)
  omega

set_option maxHeartbeats 1000000 in
theorem putBack_any {w : World} {Bu N j n cu bd od cd : Nat} {r0 g : Nat → Nat} (hrow0 : Row w Bu N r0) (hN : j + n + 1 ≤ N) (hNn : N ≤ 200000) (hr0 : ∀ t, t < N → r0 t < 4294967296) (_hcu : n + 1 ≤ cu)
    (hne : bd ≠ Bu) (hg : ∀ i, i < n → g i < 4294967296) (hgc : ∀ i, i < n → w.cell? ⟨bd, od + i, none⟩ = some (.int .u32 (g i : Nat))) :
    Calls Oaig.prog 153 #[.slice (some ⟨Bu, j, none⟩) (n + 1) cu, .slice (some ⟨bd, od, none⟩) n cd] w fun e w' => ∃ (cy : Nat) (r : Nat → Nat), e = .returned (.tuple #[]) ∧ Row w' Bu N r ∧ (∀ t, t < N → r t < 4294967296) ∧ (∀ t, t < j ∨ j + (n + 1) ≤ t → r t = r0 t) ∧
      vf (from_ r j) (n + 1) + cy * 4294967296 ^ (n + 1) = vf (from_ r0 j) (n + 1) + vf g n ∧ Only Bu w w' := by
  go_enter Oaig.func153, Oaig.ntmps153
  go_wp2_with fail
  go_loopw [4, 8] (fun cc ci wr => ∃ (k cy : Nat) (r : Nat → Nat), k ≤ n + 1 ∧ ci = .int .i64 k ∧ cc = .int .u64 cy ∧ cy ≤ 1 ∧ Row wr Bu N r ∧ (∀ t, t < N → r t < 4294967296) ∧ (∀ t, t < j ∨ j + k ≤ t → r t = r0 t) ∧
      vf (from_ r j) k + cy * 4294967296 ^ k = vf (from_ r0 j) k + vf g (min k n) ∧ Only Bu w wr) (fun _ i _ => n + 1 - (intOf i).toNat)
  case atStart => exact ⟨0, 0, r0, Nat.zero_le _, rfl, rfl, by decide, hrow0, hr0, fun _ _ => rfl, by simp [vf], Only.refl _ _⟩
  case round =>
    obtain ⟨k, cy, r, hk, rfl, rfl, hcy, hrow, hr, hout, hv, hon⟩ := hrel
    by_cases hlt : k < n + 1
    · have hcr := hrow.cell (i := j + k) (by omega)
      have hfr := hrow.frozen (j + k)
      have hrk := hr (j + k) (by omega)
      by_cases hkn : k < n
      · have hgk := hg k hkn
        have hgk' := hon.cell hne (hgc k hkn)
        have hst : Hid _ := pb_step hkn (hout (j + k) (by omega)) hv
        have hout' : Hid _ := upd_out (x := (cy + r (j + k) + g k) % 4294967296) hout
        clear hgc hv hout
        go_wp2
        go_roundw
        case rel => exact ⟨k + 1, _, _, by omega, by go_num, by go_num, by omega, hrow.set (j + k) _ _ (by go_num), upd_lt hr (by omega), hout'.out, hst.out, hon.setCell _ _⟩
        case measure => simp [intOf]; omega
      · have hst : Hid _ := pb_step1 hkn (hout (j + k) (by omega)) hv
        have hout' : Hid _ := upd_out (x := (cy + r (j + k)) % 4294967296) hout
        clear hgc hv hout
        go_wp2
        go_roundw
        case rel => exact ⟨k + 1, (cy + r (j + k)) / 4294967296, _, by omega, by go_num, by go_num, by omega, hrow.set (j + k) ((cy + r (j + k)) % 4294967296) _ (by go_num), upd_lt hr (by omega), hout'.out, hst.out, hon.setCell _ _⟩
        case measure => simp [intOf]; omega
    · obtain rfl : k = n + 1 := by omega
      rw [Nat.min_eq_right (by omega : n ≤ n + 1)] at hv
      have hv' : Hid _ := hv
      clear hgc hv
      go_wp2
      go_end0
      exact ⟨cy, r, rfl, hrow, hr, hout, hv'.out, hon⟩

#print axioms takeAway_any
#print axioms putBack_any

end Go.Proofs.Ygcoai
