/-
  Seat gcoai. nat.trim (65).
-/
import Derived.Test.YgcoaiBase
namespace Go.Proofs.Ygcoai
open Go.RowKit

theorem tl_rest {f : Nat → Nat} {n k : Nat} (hk : k ≤ n) (h : ∀ i, k ≤ i → i < n → f i = 0) : tl f n = tl f k := by
  induction n with
  | zero => obtain rfl : k = 0 := by omega
            rfl
  | succ m ih =>
    rcases Nat.lt_or_ge m k with hm | hm
    · obtain rfl : k = m + 1 := by omega
      rfl
    · rw [tl, if_pos (h m hm (by omega))]
      exact ih hm (fun i h1 h2 => h i h1 (by omega))

/-- a[:n], nil where n is nought. -/
def slv (b o n c : Nat) : Value := if n = 0 then .slice none 0 0 else .slice (some ⟨b, o, none⟩) n c

set_option maxHeartbeats 400000 in
theorem trim_some (b o n c : Nat) (f : Nat → Nat) (w : World) (hn : n ≤ 1000000) (hnc : n ≤ c) (hc : ∀ i, i < n → w.cell? ⟨b, o + i, none⟩ = some (.int .u32 (f i : Nat))) :
    Calls Oaig.prog 65 #[.slice (some ⟨b, o, none⟩) n c] w fun e w' => e = .returned (slv b o (tl f n) c) ∧ w' = w := by
  go_enter Oaig.func65, Oaig.ntmps65
  go_wp2
  go_loop [3] (fun t => ∃ k : Nat, k ≤ n ∧ t = .int .i64 k ∧ ∀ i, k ≤ i → i < n → f i = 0) (fun t => (intOf t).toNat)
  case atStart => exact ⟨n, Nat.le_refl _, rfl, fun i h1 h2 => by omega⟩
  case round =>
    obtain ⟨k, hk, rfl, hz⟩ := hrel
    rcases Nat.eq_zero_or_pos k with h0 | h0
    · subst h0
      have ht : tl f n = 0 := tl_rest hk hz
      go_wp2
      go_ret
      exact ⟨by rw [slv]; rfl, rfl⟩
    · obtain ⟨j, rfl⟩ : ∃ j, k = j + 1 := ⟨k - 1, by omega⟩
      have hcj := hc j (by omega)
      have ht : tl f n = tl f (j + 1) := tl_rest hk hz
      by_cases hj : f j = 0
      · have hb : ((f j : Int) == 0) = true := by simp [hj]
        go_wp2
        go_round
        case rel => exact ⟨j, by omega, by go_num, fun i h1 h2 => by rcases Nat.eq_or_lt_of_le h1 with h3 | h3; (· rw [← h3]; exact hj); exact hz i h3 h2⟩
        case measure => simp [intOf]
      · have hb : ((f j : Int) == 0) = false := by simp [hj]
        go_wp2
        go_ret
        exact ⟨by rw [tl, if_neg hj, slv, if_neg (by omega)]; rfl, rfl⟩


theorem trim_none (ao : Option Addr) (c : Nat) (w : World) :
    Calls Oaig.prog 65 #[.slice ao 0 c] w fun e w' => e = .returned (.slice none 0 0) ∧ w' = w := by
  go_enter Oaig.func65, Oaig.ntmps65
  go_wp2
  refine wp_loop_rounds 1 ?_
  rw [rounds_succ]
  go_wp2
  go_ret
  exact ⟨rfl, rfl⟩

/-- trim, whatever the limbs. -/
theorem trim_any {w : World} {v : Value} {n : Nat} {f : Nat → Nat} (h : Limbs w v n f) (hn : n ≤ 1000000) :
    Calls Oaig.prog 65 #[v] w fun e w' => ∃ v', e = .returned v' ∧ w' = w ∧ Limbs w v' (tl f n) f ∧ (tl f n = 0 → v' = .slice none 0 0) := by
  obtain ⟨h1, ao, c, rfl, hc, h2⟩ := h
  rcases Nat.eq_zero_or_pos n with h0 | h0
  · subst h0
    refine (trim_none ao c w).mono ?_
    rintro e w' ⟨rfl, rfl⟩
    exact ⟨_, rfl, rfl, ⟨fun i hi => by simp [tl] at hi, none, 0, rfl, Nat.le_refl _, fun hh => absurd rfl hh⟩, fun _ => rfl⟩
  · obtain ⟨b, o, rfl, hcell⟩ := h2 (by omega)
    refine (trim_some b o n c f w hn hc hcell).mono ?_
    rintro e w' ⟨rfl, rfl⟩
    have hle := tl_le f n
    refine ⟨_, rfl, rfl, ⟨fun i hi => h1 i (by omega), ?_⟩, fun h => by rw [slv, if_pos h]⟩
    by_cases ht : tl f n = 0
    · exact ⟨none, 0, by rw [slv, if_pos ht, ht], by omega, fun hh => absurd ht hh⟩
    · exact ⟨some ⟨b, o, none⟩, c, by rw [slv, if_neg ht], by omega, fun _ => ⟨b, o, rfl, fun i hi => hcell i (by omega)⟩⟩

/-- trim of limbs gives the number in its normal form. -/
theorem trim_natV {w : World} {v : Value} {n : Nat} {f : Nat → Nat} (h : Limbs w v n f) (hn : n ≤ 1000000) :
    Calls Oaig.prog 65 #[v] w fun e w' => ∃ v', e = .returned v' ∧ w' = w ∧ NatV w v' (vf f n) := by
  refine (trim_any h hn).mono ?_
  rintro e w' ⟨v', rfl, rfl, hl, hnil⟩
  exact ⟨v', rfl, rfl, tl f n, f, hl, fun h => tl_top h, hnil, vf_tl f n⟩

/-- x has at most L limbs. -/
def Lt32 (x L : Nat) : Prop := x < 4294967296 ^ L

theorem Lt32.mono {x y L M : Nat} (h : Lt32 y L) (hx : x ≤ y) (hL : L ≤ M) : Lt32 x M :=
  Nat.lt_of_le_of_lt hx (Nat.lt_of_lt_of_le h (Nat.pow_le_pow_right (by decide) hL))
theorem Lt32.add {x y L : Nat} (h : Lt32 x L) (k : Lt32 y L) : Lt32 (x + y) (L + 1) := by
  unfold Lt32 at *; rw [Nat.pow_succ]; omega
theorem Lt32.mul {x y L M : Nat} (h : Lt32 x L) (k : Lt32 y M) : Lt32 (x * y) (L + M) := by
  unfold Lt32 at *; rw [Nat.pow_add]
  exact Nat.mul_lt_mul'' h k
theorem Lt32.shl {x L k : Nat} (h : Lt32 x L) : Lt32 (x * 2 ^ k) (L + k / 32 + 1) := by
  rw [Nat.add_assoc]
  refine h.mul ?_
  unfold Lt32
  rw [show (4294967296 : Nat) = 2 ^ 32 from by decide, ← Nat.pow_mul]
  exact Nat.pow_lt_pow_right (by decide) (by omega)

/-- trim of a number gives it back. -/
theorem trim_id {w : World} {v : Value} {x L : Nat} (h : NatV w v x) (hx : Lt32 x L) (hL : L ≤ 1000000) :
    Calls Oaig.prog 65 #[v] w fun e w' => e = .returned v ∧ w = w' := by
  obtain ⟨n, f, ⟨h1, ao, c, rfl, hc, h2⟩, hn, hnil, rfl⟩ := h
  have hle := norm_len hn hx
  rcases Nat.eq_zero_or_pos n with h0 | h0
  · rw [hnil h0]
    refine (trim_none none 0 w).mono ?_
    rintro e w' ⟨rfl, rfl⟩
    exact ⟨rfl, rfl⟩
  · obtain ⟨b, o, rfl, hcell⟩ := h2 (by omega)
    have ht := tl_norm hn
    refine (trim_some b o n c f w (by omega) hc hcell).mono ?_
    rintro e w' ⟨rfl, rfl⟩
    exact ⟨by rw [ht, slv, if_neg (by omega)], rfl⟩

/-- One limb set. -/
def upd (r : Nat → Nat) (k x : Nat) : Nat → Nat := fun j => if j = k then x else r j

theorem vf_upd (r : Nat → Nat) (k x : Nat) : vf (upd r k x) (k + 1) = vf r k + x * 4294967296 ^ k := by
  rw [vf]
  have h1 : vf (upd r k x) k = vf r k := vf_congr (fun i hi => by unfold upd; rw [if_neg (by omega)])
  have h2 : upd r k x k = x := by unfold upd; rw [if_pos rfl]
  rw [h1, h2]

theorem upd_lt {r : Nat → Nat} {n k x : Nat} (hr : ∀ j, j < n → r j < 4294967296) (hx : x < 4294967296) : ∀ j, j < n → upd r k x j < 4294967296 := by
  intro j hj
  unfold upd
  split
  · exact hx
  · exact hr j hj

theorem ret_int {k : IntKind} {a b : Int} (h : a = b) : Ending.returned (.int k a) = .returned (.int k b) := by rw [h]
theorem ret_bool {a b : Bool} (h : a = b) : Ending.returned (.bool a) = .returned (.bool b) := by rw [h]

/-- make(Nat, n). -/
theorem info22 : (Oaig.prog.info? 22).map (fun i => (i.zero, i.size, i.bytes)) = some (some (.int .u32 0), 1, 4) := by kernel_rfl
theorem run_mk (n : Nat) (x : Int) (hx : x = n) (hn : n ≤ 1000000) (w : World) :
    (Instr.makeSlice 38 (.int .i64 x) (.int .i64 x)).run Oaig.prog w = .ok (.slice (some ⟨w.heap.size, 0, none⟩) n n) (w.alloc (.cells (madeCells #[.int .u32 0] n) 22)) := by
  subst hx
  exact run_make_row' (P := Oaig.prog) 38 22 (.int .u32 0) 4 Oaig.underlying38 info22 rfl .i64 .i64 n (by omega) (by omega) w

/-- A block of limbs that the call has made. -/
def Row (w : World) (B n : Nat) (r : Nat → Nat) : Prop := w.rowIs B 22 n (fun i => .int .u32 (r i : Nat))

theorem row_made (w : World) (n : Nat) : Row (w.alloc (.cells (madeCells #[.int .u32 0] n) 22)) w.heap.size n (fun _ => 0) :=
  World.rowIs_made w (.int .u32 0) n 22
theorem Row.set {w : World} {B n : Nat} {r : Nat → Nat} (h : Row w B n r) (i x : Nat) (v : Value) (hv : v = .int .u32 (x : Nat)) : Row (w.setCell ⟨B, i, none⟩ v) B n (upd r i x) := by
  subst hv
  exact (World.rowIs.set h i _).congr (fun j _ => by unfold upd; split <;> rfl)
theorem Row.cell {w : World} {B n : Nat} {r : Nat → Nat} (h : Row w B n r) {i : Nat} (hi : i < n) : w.cell? ⟨B, i, none⟩ = some (.int .u32 (r i : Nat)) := World.rowIs.cell h hi
theorem Row.frozen {w : World} {B n : Nat} {r : Nat → Nat} (h : Row w B n r) (i : Nat) : w.frozen? ⟨B, i, none⟩ = false := World.rowIs.frozen h i
theorem Row.lt {w : World} {B n : Nat} {r : Nat → Nat} (h : Row w B n r) : B < w.heap.size := World.rowIs.lt h
theorem Row.limbs {w : World} {B n : Nat} {r : Nat → Nat} (h : Row w B n r) (hr : ∀ i, i < n → r i < 4294967296) : Limbs w (.slice (some ⟨B, 0, none⟩) n n) n r :=
  ⟨hr, _, _, rfl, Nat.le_refl _, fun _ => ⟨B, 0, rfl, fun i hi => by rw [Nat.zero_add]; exact h.cell hi⟩⟩

end Go.Proofs.Ygcoai
