/-
  Seat gcoai. A block of cells that the call has made, seen later: a struct in memory.
-/
import Derived.Test.YgcoaiFrac
namespace Go.Proofs.Ygcoai
open Go.RowKit

/-- Block B holds the cells cs, none of them frozen. -/
def Blk (w : World) (B : Nat) (cs : Array Value) : Prop := ∃ t, w.heap[B]? = some (.cells cs t (0, 0))

theorem Blk.cell {w : World} {B : Nat} {cs : Array Value} (h : Blk w B cs) {i : Nat} {v : Value} (hi : cs[i]? = some v) : w.cell? ⟨B, i, none⟩ = some v := by
  obtain ⟨t, hb⟩ := h
  simp [World.cell?, hb, hi]
theorem Blk.fz {w : World} {B : Nat} {cs : Array Value} (h : Blk w B cs) (i : Nat) : w.frozen? ⟨B, i, none⟩ = false := by
  obtain ⟨t, hb⟩ := h
  simp [World.frozen?, hb]
theorem Blk.lt {w : World} {B : Nat} {cs : Array Value} (h : Blk w B cs) : B < w.heap.size := by
  obtain ⟨t, hb⟩ := h
  exact (Array.getElem?_eq_some_iff.1 hb).1
theorem Blk.ext {w w' : World} {B : Nat} {cs : Array Value} (h : Blk w B cs) (e : Ext w w') : Blk w' B cs := by
  have hl := h.lt
  obtain ⟨t, hb⟩ := h
  exact ⟨t, (e.below.block B hl).trans hb⟩
theorem Blk.new (w : World) (cs : Array Value) (t : TypeId) : Blk (w.alloc (.cells cs t)) w.heap.size cs := ⟨t, (MapKept.heap_alloc w _).1⟩
theorem Blk.new' {w : World} (cs : Array Value) (t : TypeId) {B : Nat} (hB : w.heap.size = B) : Blk (w.alloc (.cells cs t)) B cs := by subst hB; exact Blk.new w cs t
theorem Blk.set {w : World} {B : Nat} {cs : Array Value} (h : Blk w B cs) (i : Nat) (v : Value) : Blk (w.setCell ⟨B, i, none⟩ v) B (cs.setIfInBounds i v) := by
  obtain ⟨t, hb⟩ := h
  exact ⟨t, by simp [World.setCell, Array.getElem?_modify, hb]⟩
theorem Blk.set' {w : World} {B : Nat} {cs ds : Array Value} (h : Blk w B cs) (i : Nat) (v : Value) (e : cs.setIfInBounds i v = ds) : Blk (w.setCell ⟨B, i, none⟩ v) B ds := by
  subst e; exact h.set i v
theorem Blk.setOther {w : World} {B : Nat} {cs : Array Value} (h : Blk w B cs) {C i : Nat} (hne : B ≠ C) (v : Value) : Blk (w.setCell ⟨C, i, none⟩ v) B cs := by
  obtain ⟨t, hb⟩ := h
  exact ⟨t, (Below.heap_setCell _ _ _ _ hne).trans hb⟩
theorem Blk.noLimb {w : World} {B : Nat} {cs : Array Value} (h : Blk w B cs) (hc : ∀ v ∈ cs, ∀ z, v ≠ .int .u32 z) : NoLimb w B := fun o z hz => by
  obtain ⟨t, hb⟩ := h
  simp only [World.cell?, hb] at hz
  rw [if_neg (by simp)] at hz
  exact hc _ (Array.mem_of_getElem? hz) z rfl
theorem Blk.alloc {w : World} {B : Nat} {cs : Array Value} (h : Blk w B cs) (ds : Array Value) (t : TypeId) : Blk (w.alloc (.cells ds t)) B cs := h.ext ((Ext.refl w).alloc _ _)
theorem Blk.drew {w : World} {B : Nat} {cs : Array Value} (h : Blk w B cs) : Blk w.drew B cs := h

/-- Four stores into a block of four. -/
theorem Blk.set4 {w : World} {B : Nat} {a b c d a' b' c' d' : Value} (h : Blk w B #[a, b, c, d]) :
    Blk ((((w.setCell ⟨B, 0, none⟩ a').setCell ⟨B, 1, none⟩ b').setCell ⟨B, 2, none⟩ c').setCell ⟨B, 3, none⟩ d') B #[a', b', c', d'] :=
  (((h.set' 0 a' rfl).set' 1 b' rfl).set' 2 c' rfl).set' 3 d' rfl
theorem Blk.set3 {w : World} {B : Nat} {a b c a' b' c' : Value} (h : Blk w B #[a, b, c]) :
    Blk (((w.setCell ⟨B, 0, none⟩ a').setCell ⟨B, 1, none⟩ b').setCell ⟨B, 2, none⟩ c') B #[a', b', c'] :=
  ((h.set' 0 a' rfl).set' 1 b' rfl).set' 2 c' rfl
theorem Blk.set2 {w : World} {B : Nat} {a b a' b' : Value} (h : Blk w B #[a, b]) :
    Blk ((w.setCell ⟨B, 0, none⟩ a').setCell ⟨B, 1, none⟩ b') B #[a', b'] :=
  (h.set' 0 a' rfl).set' 1 b' rfl
theorem Ext.set4 {w w' : World} (h : Ext w w') {B : Nat} (hB : w.heap.size ≤ B) (a' b' c' d' : Value) :
    Ext w ((((w'.setCell ⟨B, 0, none⟩ a').setCell ⟨B, 1, none⟩ b').setCell ⟨B, 2, none⟩ c').setCell ⟨B, 3, none⟩ d') :=
  (((h.setCell hB _).setCell hB _).setCell hB _).setCell hB _
theorem Ext.set3 {w w' : World} (h : Ext w w') {B : Nat} (hB : w.heap.size ≤ B) (a' b' c' : Value) :
    Ext w (((w'.setCell ⟨B, 0, none⟩ a').setCell ⟨B, 1, none⟩ b').setCell ⟨B, 2, none⟩ c') :=
  ((h.setCell hB _).setCell hB _).setCell hB _
theorem Ext.set2 {w w' : World} (h : Ext w w') {B : Nat} (hB : w.heap.size ≤ B) (a' b' : Value) :
    Ext w ((w'.setCell ⟨B, 0, none⟩ a').setCell ⟨B, 1, none⟩ b') :=
  (h.setCell hB _).setCell hB _

/-- What a cell holds. -/
def cv (w : World) (B i : Nat) : Value := (w.cell? ⟨B, i, none⟩).getD undef

/-- Four stores into a block of four, whatever it held. -/
theorem Blk.over4 {w : World} {B : Nat} {cs : Array Value} {a' b' c' d' : Value} (h : Blk w B cs) (hn : cs.size = 4) :
    Blk ((((w.setCell ⟨B, 0, none⟩ a').setCell ⟨B, 1, none⟩ b').setCell ⟨B, 2, none⟩ c').setCell ⟨B, 3, none⟩ d') B #[a', b', c', d'] := by
  have e : cs = #[cs[0], cs[1], cs[2], cs[3]] := by
    apply Array.ext
    · simpa using hn
    · intro i h1 h2
      match i, h1 with
      | 0, _ => rfl
      | 1, _ => rfl
      | 2, _ => rfl
      | 3, _ => rfl
      | k + 4, h1 => exfalso; omega
  rw [e] at h
  exact h.set4
theorem Blk.over3 {w : World} {B : Nat} {cs : Array Value} {a' b' c' : Value} (h : Blk w B cs) (hn : cs.size = 3) :
    Blk (((w.setCell ⟨B, 0, none⟩ a').setCell ⟨B, 1, none⟩ b').setCell ⟨B, 2, none⟩ c') B #[a', b', c'] := by
  have e : cs = #[cs[0], cs[1], cs[2]] := by
    apply Array.ext
    · simpa using hn
    · intro i h1 h2
      match i, h1 with
      | 0, _ => rfl
      | 1, _ => rfl
      | 2, _ => rfl
      | k + 3, h1 => exfalso; omega
  rw [e] at h
  exact h.set3

/-- The state of a region that reads block F and writes block R of n cells: both made since w0. -/
structure St (w0 : World) (F R n : Nat) (fc : Array Value) (w' : World) : Prop where
  ext : Ext w0 w'
  f : Blk w' F fc
  r : ∃ cs, Blk w' R cs ∧ cs.size = n

theorem St.trans {w0 w' w'' : World} {F R n : Nat} {fc : Array Value} (h : St w0 F R n fc w') (e : Ext w' w'') : St w0 F R n fc w'' := by
  obtain ⟨h1, h2, cs, h3, h4⟩ := h
  exact ⟨h1.trans e, h2.ext e, cs, h3.ext e, h4⟩
theorem St.drew {w0 w' : World} {F R n : Nat} {fc : Array Value} (h : St w0 F R n fc w') : St w0 F R n fc w'.drew := h.trans (Ext.refl _).drew
theorem St.set {w0 w' : World} {F R n : Nat} {fc : Array Value} (h : St w0 F R n fc w') (hne : F ≠ R) (hR : w0.heap.size ≤ R) (i : Nat) (v : Value) : St w0 F R n fc (w'.setCell ⟨R, i, none⟩ v) := by
  obtain ⟨h1, h2, cs, h3, h4⟩ := h
  exact ⟨h1.setCell hR v, h2.setOther hne v, _, h3.set i v, by simpa using h4⟩
theorem St.cellR {w0 w' : World} {F R n : Nat} {fc : Array Value} (h : St w0 F R n fc w') {i : Nat} (hi : i < n) : w'.cell? ⟨R, i, none⟩ = some (cv w' R i) := by
  obtain ⟨_, _, cs, h3, h4⟩ := h
  have := h3.cell (i := i) (v := cs[i]'(by omega)) (by simp)
  rw [cv, this]; rfl
theorem St.fz {w0 w' : World} {F R n : Nat} {fc : Array Value} (h : St w0 F R n fc w') (i : Nat) : w'.frozen? ⟨R, i, none⟩ = false := by
  obtain ⟨_, _, cs, h3, _⟩ := h
  exact h3.fz i

end Go.Proofs.Ygcoai
