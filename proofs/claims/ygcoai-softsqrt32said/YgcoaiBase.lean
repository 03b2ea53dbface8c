/-
  Seat gcoai. What all walks share: 'Ext' (new blocks alone), numbers as limbs behind a slice ('Limbs', 'NatV').
-/
import Derived.Test.YgcoaiProg
import Derived.WalkKit
import Derived.WalkSpells
import Derived.WalkLawsBesides
import Derived.Deep.OwnRows
import Derived.KernelRfl
namespace Go.Proofs.Ygcoai
open Go.RowKit

/-! ### the world: new blocks alone -/

/-- w' is w with new blocks and draws: nothing that was there has turned, nothing is frozen anew. -/
structure Ext (w w' : World) : Prop where
  below : Below w.heap.size w w'
  froz : ∀ a, w'.frozen? a = w.frozen? a

theorem Ext.refl (w : World) : Ext w w := ⟨Below.refl _ _, fun _ => rfl⟩
theorem Ext.size {w w' : World} (h : Ext w w') : w.heap.size ≤ w'.heap.size := h.below.size
theorem Ext.trans {a b c : World} (h : Ext a b) (k : Ext b c) : Ext a c :=
  ⟨h.below.trans (k.below.mono h.size), fun x => (k.froz x).trans (h.froz x)⟩
theorem Ext.drew {w w' : World} (h : Ext w w') : Ext w w'.drew := ⟨h.below.drew, h.froz⟩
theorem Ext.drewN {w w' : World} (h : Ext w w') (n : Nat) : Ext w (w'.drewN n) := ⟨⟨h.below.os, h.below.tape, h.below.output, h.below.size, h.below.block⟩, h.froz⟩
theorem Ext.alloc {w w' : World} (h : Ext w w') (c : Array Value) (t : TypeId) : Ext w (w'.alloc (.cells c t)) :=
  ⟨h.below.alloc h.size _, fun a => (frozen?_alloc_cells _ _ _ a).trans (h.froz a)⟩
theorem Ext.setCell {w w' : World} (h : Ext w w') {a : Addr} (ha : w.heap.size ≤ a.block) (v : Value) : Ext w (w'.setCell a v) :=
  ⟨h.below.setCell ha v, fun x => (World.frozen?_setCell _ _ _ _).trans (h.froz x)⟩
theorem Ext.grown {w w' : World} (h : Ext w w') : Grown w w' := ⟨h.below.frame _, h.froz, h.size⟩
theorem lt_of_cell {w : World} {b o : Nat} {v : Value} (h : w.cell? ⟨b, o, none⟩ = some v) : b < w.heap.size := by
  rcases Nat.lt_or_ge b w.heap.size with h' | h'
  · exact h'
  · simp [World.cell?, Array.getElem?_eq_none h'] at h
theorem Ext.cell {w w' : World} (h : Ext w w') {b o : Nat} {v : Value} (hc : w.cell? ⟨b, o, none⟩ = some v) : w'.cell? ⟨b, o, none⟩ = some v :=
  (h.below.cell (p := ⟨b, o, none⟩) (lt_of_cell hc)).trans hc

/-! ### limbs -/

/-- The number whose limbs are f 0, f 1, .., f (n - 1), the least first. -/
def vf (f : Nat → Nat) : Nat → Nat
  | 0 => 0
  | k + 1 => vf f k + f k * 4294967296 ^ k

/-- n without the zero limbs at the top. -/
def tl (f : Nat → Nat) : Nat → Nat
  | 0 => 0
  | k + 1 => if f k = 0 then tl f k else k + 1

theorem vf_congr {f g : Nat → Nat} {n : Nat} (h : ∀ i, i < n → f i = g i) : vf f n = vf g n := by
  induction n with
  | zero => rfl
  | succ k ih => rw [vf, vf, ih (fun i hi => h i (by omega)), h k (by omega)]

theorem vf_lt {f : Nat → Nat} {n : Nat} (h : ∀ i, i < n → f i < 4294967296) : vf f n < 4294967296 ^ n := by
  induction n with
  | zero => simp [vf]
  | succ k ih =>
    have h1 := ih (fun i hi => h i (by omega))
    have h2 := h k (by omega)
    rw [vf, Nat.pow_succ]
    have h3 : f k * 4294967296 ^ k ≤ 4294967295 * 4294967296 ^ k := Nat.mul_le_mul_right _ (by omega)
    omega

theorem tl_le (f : Nat → Nat) (n : Nat) : tl f n ≤ n := by
  induction n with
  | zero => exact Nat.le_refl _
  | succ k ih => rw [tl]; split <;> omega

theorem tl_top {f : Nat → Nat} {n : Nat} (h : tl f n ≠ 0) : f (tl f n - 1) ≠ 0 := by
  induction n with
  | zero => exact absurd rfl h
  | succ k ih =>
    rw [tl] at h ⊢
    split
    · rename_i h0; rw [if_pos h0] at h; exact ih h
    · rename_i h0; simpa using h0

theorem vf_tl (f : Nat → Nat) (n : Nat) : vf f (tl f n) = vf f n := by
  induction n with
  | zero => rfl
  | succ k ih =>
    rw [tl]
    split
    · rename_i h0; rw [vf, ih, h0]; simp
    · rfl

/-- No zero limb at the top. -/
def Norm (f : Nat → Nat) (n : Nat) : Prop := n ≠ 0 → f (n - 1) ≠ 0

theorem tl_norm {f : Nat → Nat} {n : Nat} (h : Norm f n) : tl f n = n := by
  cases n with
  | zero => rfl
  | succ k => rw [tl, if_neg (by simpa using h (by omega))]

theorem vf_ge {f : Nat → Nat} {n : Nat} (h : f n ≠ 0) : 4294967296 ^ n ≤ vf f (n + 1) := by
  rw [vf]
  have : 1 * 4294967296 ^ n ≤ f n * 4294967296 ^ n := Nat.mul_le_mul_right _ (by omega)
  omega

theorem norm_pos {f : Nat → Nat} {n : Nat} (h : Norm f n) (hn : n ≠ 0) : 4294967296 ^ (n - 1) ≤ vf f n := by
  obtain ⟨k, rfl⟩ : ∃ k, n = k + 1 := ⟨n - 1, by omega⟩
  exact vf_ge (by simpa using h (by omega))

/-- A bound on the number bounds the count of its limbs. -/
theorem norm_len {f : Nat → Nat} {n L : Nat} (h : Norm f n) (hv : vf f n < 4294967296 ^ L) : n ≤ L := by
  rcases Nat.lt_or_ge L n with hl | hl
  · have h1 := norm_pos h (by omega)
    have h2 : 4294967296 ^ L ≤ 4294967296 ^ (n - 1) := Nat.pow_le_pow_right (by decide) (by omega)
    omega
  · exact hl

/-- The slice value v holds the limbs f 0 .. f (n - 1). -/
def Limbs (w : World) (v : Value) (n : Nat) (f : Nat → Nat) : Prop :=
  (∀ i, i < n → f i < 4294967296) ∧ ∃ (ao : Option Addr) (c : Nat), v = .slice ao n c ∧ n ≤ c ∧ (n ≠ 0 → ∃ b o, ao = some ⟨b, o, none⟩ ∧ ∀ i, i < n → w.cell? ⟨b, o + i, none⟩ = some (.int .u32 (f i : Nat)))

/-- The slice value v holds the number x: no zero limb at its top, nil for zero. -/
def NatV (w : World) (v : Value) (x : Nat) : Prop := ∃ n f, Limbs w v n f ∧ Norm f n ∧ (n = 0 → v = .slice none 0 0) ∧ vf f n = x

theorem Limbs.ext {w w' : World} {v : Value} {n : Nat} {f : Nat → Nat} (h : Limbs w v n f) (e : Ext w w') : Limbs w' v n f := by
  obtain ⟨h1, ao, c, hv, hc, h2⟩ := h
  refine ⟨h1, ao, c, hv, hc, fun hn => ?_⟩
  obtain ⟨b, o, hb, hcell⟩ := h2 hn
  exact ⟨b, o, hb, fun i hi => e.cell (hcell i hi)⟩

theorem NatV.ext {w w' : World} {v : Value} {x : Nat} (h : NatV w v x) (e : Ext w w') : NatV w' v x := by
  obtain ⟨n, f, hl, r⟩ := h
  exact ⟨n, f, hl.ext e, r⟩

theorem natV_nil (w : World) : NatV w (.slice none 0 0) 0 :=
  ⟨0, fun _ => 0, ⟨fun i hi => by omega, none, 0, rfl, Nat.le_refl _, fun h => absurd rfl h⟩, fun h => absurd rfl h, fun _ => rfl, rfl⟩

theorem NatV.zero {w : World} {v : Value} {x : Nat} (h : NatV w v x) (hx : x = 0) : v = .slice none 0 0 := by
  obtain ⟨n, f, hl, hn, hnil, hv⟩ := h
  rcases Nat.eq_zero_or_pos n with h0 | h0
  · exact hnil h0
  · have := norm_pos hn (by omega)
    have : 0 < 4294967296 ^ (n - 1) := Nat.pow_pos (by decide)
    omega

#print axioms NatV.zero
end Go.Proofs.Ygcoai
