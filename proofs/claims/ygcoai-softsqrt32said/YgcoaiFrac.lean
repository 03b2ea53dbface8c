/-
  Seat gcoai. law.pow2Frac (18), law.pow10Nat (34), law.pow10Frac (20), law.negFrac (33).
-/
import Derived.Test.YgcoaiFrom
import Derived.Test.YgcoaiSub
import Derived.Test.YgcoaiAdd
import Derived.Deep.RegionHeld3
namespace Go.Proofs.Ygcoai
open Go.RowKit

theorem NatV.form {w : World} {v : Value} {x : Nat} (h : NatV w v x) : ∃ ao n c, v = .slice ao n c := by
  obtain ⟨n, f, ⟨_, ao, c, hv, _⟩, _⟩ := h
  exact ⟨ao, n, c, hv⟩

theorem lt32_one (L : Nat) (hL : 1 ≤ L) : Lt32 1 L := Lt32.mono (y := 1) (L := 1) (show 1 < 4294967296 ^ 1 by decide) (Nat.le_refl _) hL

/-- A block of three cells that was laid, seen later. -/
theorem blk3 {w w' : World} {a b c : Value} {t : TypeId} (h : Ext (w.alloc (.cells #[a, b, c] t)) w') :
    w'.cell? ⟨w.heap.size, 0, none⟩ = some a ∧ w'.cell? ⟨w.heap.size, 1, none⟩ = some b ∧ w'.cell? ⟨w.heap.size, 2, none⟩ = some c ∧ (∀ i, w'.frozen? ⟨w.heap.size, i, none⟩ = false) ∧ w.heap.size < w'.heap.size := by
  refine ⟨h.cell (World.cell?_alloc_at _ _ _ _ rfl), h.cell (World.cell?_alloc_at _ _ _ _ rfl), h.cell (World.cell?_alloc_at _ _ _ _ rfl), fun i => ?_, ?_⟩
  · rw [h.froz]; exact World.frozen?_alloc_at _ _ _ _ rfl
  · have := h.size
    simp at this
    omega
theorem Ext.of_alloc {w w' : World} {c : Array Value} {t : TypeId} (h : Ext (w.alloc (.cells c t)) w') : Ext w w' := ((Ext.refl w).alloc c t).trans h

theorem Ext.undrew {w w' : World} (h : Ext w.drew w') : Ext w w' := ⟨⟨h.below.os, h.below.tape, h.below.output, h.below.size, h.below.block⟩, h.froz⟩

/-- No cell of block B holds a limb. -/
def NoLimb (w : World) (B : Nat) : Prop := ∀ o z, w.cell? ⟨B, o, none⟩ ≠ some (.int .u32 z)

theorem NoLimb.ext {w w' : World} {B : Nat} (h : NoLimb w B) (hB : B < w.heap.size) (e : Ext w w') : NoLimb w' B := fun o z hc =>
  h o z ((e.below.cell (p := ⟨B, o, none⟩) hB).symm.trans hc)
theorem cell_set_cases {w : World} {a b : Addr} {u v : Value} (h : (w.setCell a u).cell? b = some v) : v = u ∨ w.cell? b = some v := by
  by_cases hab : a = b
  · subst hab
    left
    cases hx : w.cell? a with
    | some y => rw [World.cell?_setCell_same' w a u (by rw [hx]; rfl)] at h; exact (Option.some.inj h).symm
    | none =>
      exfalso
      unfold World.setCell World.cell? at h
      unfold World.cell? at hx
      dsimp only at h
      rw [Array.getElem?_modify, if_pos rfl] at h
      cases hy : w.heap[a.block]? with
      | none => rw [hy] at h; simp at h
      | some o =>
        rw [hy] at h hx
        cases o <;> simp at h hx
        rename_i c e fz
        obtain ⟨h1, h2⟩ := h
        simp [h1] at h2 hx
        rw [Array.getElem?_setIfInBounds] at h2
        split at h2
        · split at h2
          · rename_i hlt; omega
          · simp at h2
        · exact absurd rfl (by assumption)
  · right; have e := World.cell?_setCell_other (w := w) (a := a) (b := b) (v := u) hab; rw [e] at h; exact h
theorem NoLimb.set {w : World} {B : Nat} (h : NoLimb w B) (a : Addr) {u : Value} (hu : ∀ z, u ≠ .int .u32 z) : NoLimb (w.setCell a u) B := fun o z hc => by
  rcases cell_set_cases hc with h1 | h1
  · exact hu z h1.symm
  · exact h o z h1
theorem cell_set_other {w : World} {b o B i : Nat} {u : Value} (h : b ≠ B) : (w.setCell ⟨B, i, none⟩ u).cell? ⟨b, o, none⟩ = w.cell? ⟨b, o, none⟩ :=
  World.cell?_of_block (w := w) (Below.heap_setCell _ _ _ _ h)
theorem NatV.set {w : World} {v : Value} {x B : Nat} (h : NatV w v x) (hB : NoLimb w B) (i : Nat) (u : Value) : NatV (w.setCell ⟨B, i, none⟩ u) v x := by
  obtain ⟨n, f, ⟨h1, ao, c, hv, hc, h2⟩, r⟩ := h
  refine ⟨n, f, ⟨h1, ao, c, hv, hc, fun hn => ?_⟩, r⟩
  obtain ⟨b, o, hb, hcell⟩ := h2 hn
  refine ⟨b, o, hb, fun j hj => ?_⟩
  have hj' := hcell j hj
  rw [cell_set_other]
  · exact hj'
  · rintro rfl
    exact hB _ _ hj'
theorem noLimb3 {w w' : World} {a b c : Value} {t : TypeId} (ha : ∀ z, a ≠ .int .u32 z) (hb : ∀ z, b ≠ .int .u32 z) (hc : ∀ z, c ≠ .int .u32 z) (h : Ext (w.alloc (.cells #[a, b, c] t)) w') : NoLimb w' w.heap.size := by
  refine NoLimb.ext (w := w.alloc (.cells #[a, b, c] t)) (fun o z hz => ?_) (by simp) h
  rw [World.cell?_alloc_at _ _ _ _ rfl] at hz
  match o, hz with
  | 0, hz => exact ha z (by simpa using hz)
  | 1, hz => exact hb z (by simpa using hz)
  | 2, hz => exact hc z (by simpa using hz)

/-- Block B holds a fraction's three cells, and may be written. -/
structure RatBlk (w : World) (B : Nat) (s n d : Value) : Prop where
  c0 : w.cell? ⟨B, 0, none⟩ = some s
  c1 : w.cell? ⟨B, 1, none⟩ = some n
  c2 : w.cell? ⟨B, 2, none⟩ = some d
  fz : ∀ i, w.frozen? ⟨B, i, none⟩ = false
  lt : B < w.heap.size
  no : NoLimb w B

theorem ratBlk_new {w w' : World} {a b c : Value} {t : TypeId} (ha : ∀ z, a ≠ .int .u32 z) (hb : ∀ z, b ≠ .int .u32 z) (hc : ∀ z, c ≠ .int .u32 z) (h : Ext (w.alloc (.cells #[a, b, c] t)) w') : RatBlk w' w.heap.size a b c := by
  obtain ⟨c0, c1, c2, hfz, hsz⟩ := blk3 h
  exact ⟨c0, c1, c2, hfz, hsz, noLimb3 ha hb hc h⟩
theorem RatBlk.ext {w w' : World} {B : Nat} {s n d : Value} (h : RatBlk w B s n d) (e : Ext w w') : RatBlk w' B s n d :=
  ⟨e.cell h.c0, e.cell h.c1, e.cell h.c2, fun i => (e.froz _).trans (h.fz i), Nat.lt_of_lt_of_le h.lt e.size, h.no.ext h.lt e⟩
theorem RatBlk.set0 {w : World} {B : Nat} {s n d : Value} (h : RatBlk w B s n d) (u : Value) (hu : ∀ z, u ≠ .int .u32 z) : RatBlk (w.setCell ⟨B, 0, none⟩ u) B u n d :=
  ⟨World.cell?_setCell_same' w _ u (by rw [h.c0]; rfl), (World.cell?_setCell_other (w := w) (a := ⟨B, 0, none⟩) (b := ⟨B, 1, none⟩) (v := u) (by simp)).trans h.c1, (World.cell?_setCell_other (w := w) (a := ⟨B, 0, none⟩) (b := ⟨B, 2, none⟩) (v := u) (by simp)).trans h.c2,
    fun i => (World.frozen?_setCell _ _ _ _).trans (h.fz i), by simpa [World.setCell] using h.lt, h.no.set _ hu⟩
theorem RatBlk.set1 {w : World} {B : Nat} {s n d : Value} (h : RatBlk w B s n d) (u : Value) (hu : ∀ z, u ≠ .int .u32 z) : RatBlk (w.setCell ⟨B, 1, none⟩ u) B s u d :=
  ⟨(World.cell?_setCell_other (w := w) (a := ⟨B, 1, none⟩) (b := ⟨B, 0, none⟩) (v := u) (by simp)).trans h.c0, World.cell?_setCell_same' w _ u (by rw [h.c1]; rfl), (World.cell?_setCell_other (w := w) (a := ⟨B, 1, none⟩) (b := ⟨B, 2, none⟩) (v := u) (by simp)).trans h.c2,
    fun i => (World.frozen?_setCell _ _ _ _).trans (h.fz i), by simpa [World.setCell] using h.lt, h.no.set _ hu⟩
theorem RatBlk.set2 {w : World} {B : Nat} {s n d : Value} (h : RatBlk w B s n d) (u : Value) (hu : ∀ z, u ≠ .int .u32 z) : RatBlk (w.setCell ⟨B, 2, none⟩ u) B s n u :=
  ⟨(World.cell?_setCell_other (w := w) (a := ⟨B, 2, none⟩) (b := ⟨B, 0, none⟩) (v := u) (by simp)).trans h.c0, (World.cell?_setCell_other (w := w) (a := ⟨B, 2, none⟩) (b := ⟨B, 1, none⟩) (v := u) (by simp)).trans h.c1, World.cell?_setCell_same' w _ u (by rw [h.c2]; rfl),
    fun i => (World.frozen?_setCell _ _ _ _).trans (h.fz i), by simpa [World.setCell] using h.lt, h.no.set _ hu⟩

theorem NoLimb.setOther {w : World} {B : Nat} (h : NoLimb w B) {C i : Nat} (hne : B ≠ C) (u : Value) : NoLimb (w.setCell ⟨C, i, none⟩ u) B := fun o z hc =>
  h o z ((cell_set_other hne).symm.trans hc)
theorem RatBlk.setOther {w : World} {B : Nat} {s n d : Value} (h : RatBlk w B s n d) {C i : Nat} (hne : B ≠ C) (u : Value) : RatBlk (w.setCell ⟨C, i, none⟩ u) B s n d :=
  ⟨(cell_set_other hne).trans h.c0, (cell_set_other hne).trans h.c1, (cell_set_other hne).trans h.c2, fun i => (World.frozen?_setCell _ _ _ _).trans (h.fz i), by simpa [World.setCell] using h.lt, h.no.setOther hne u⟩

set_option maxHeartbeats 400000 in
theorem pow2_neg (w : World) (k : Nat) (h1 : 1 ≤ k) (hk : k ≤ 65535) :
    Calls Oaig.prog 18 #[.int .i64 (-(k : Int))] w fun e w' => ∃ nv dv, e = .returned (.agg #[.bool false, nv, dv]) ∧ Ext w w' ∧ NatV w' nv 1 ∧ NatV w' dv (2 ^ k) := by
  go_enter Oaig.func18, Oaig.ntmps18
  go_wp2_with fail
  refine (one_any _).mono ?_
  rintro e w1 ⟨v1, rfl, hext1, hv1⟩
  go_wp2_with fail
  refine (one_any _).mono ?_
  rintro e w2 ⟨v2, rfl, hext2, hv2⟩
  go_wp2_with fail
  refine (shl_any hv2 (lt32_one 1 (by omega)) (by omega) k hk).mono ?_
  rintro e w3 ⟨v3, rfl, hext3, hv3⟩
  have hn := hv1.ext (hext2.trans hext3)
  have hall := (hext1.trans hext2).trans hext3
  obtain ⟨c0, c1, c2, hfz, hsz⟩ := blk3 hall
  obtain ⟨ao1, n1, k1, rfl⟩ := hv1.form
  obtain ⟨ao3, n3, k3, rfl⟩ := hv3.form
  have hno := noLimb3 (by simp) (by simp) (by simp) hall
  clear hext1 hext2 hext3 hv1 hv2
  go_wp2
  refine bodyPost_ret (v := .agg #[.bool false, .slice ao1 n1 k1, .slice ao3 n3 k3]) (by simp [results, Oaig.results18, go_sem, c0, c1, c2]) rfl ⟨_, _, rfl, ((hall.of_alloc.setCell (Nat.le_refl _) _).setCell (Nat.le_refl _) _).setCell (Nat.le_refl _) _, ?_, ?_⟩
  · exact ((hn.set hno _ _).set (hno.set _ (by simp)) _ _).set ((hno.set _ (by simp)).set _ (by simp)) _ _
  · rw [Nat.one_mul] at hv3
    exact ((hv3.set hno _ _).set (hno.set _ (by simp)) _ _).set ((hno.set _ (by simp)).set _ (by simp)) _ _

set_option maxHeartbeats 400000 in
theorem pow2_pos (w : World) (k : Nat) (hk : k ≤ 65535) :
    Calls Oaig.prog 18 #[.int .i64 k] w fun e w' => ∃ nv dv, e = .returned (.agg #[.bool false, nv, dv]) ∧ Ext w w' ∧ NatV w' nv (2 ^ k) ∧ NatV w' dv 1 := by
  go_enter Oaig.func18, Oaig.ntmps18
  go_wp2_with fail
  refine (one_any _).mono ?_
  rintro e w1 ⟨v1, rfl, hext1, hv1⟩
  go_wp2_with fail
  refine (shl_any hv1 (lt32_one 1 (by omega)) (by omega) k hk).mono ?_
  rintro e w2 ⟨v2, rfl, hext2, hv2⟩
  go_wp2_with fail
  refine (one_any _).mono ?_
  rintro e w3 ⟨v3, rfl, hext3, hv3⟩
  have hn := hv2.ext hext3
  have hall := (hext1.trans hext2).trans hext3
  obtain ⟨c0, c1, c2, hfz, hsz⟩ := blk3 hall
  obtain ⟨ao2, n2, k2, rfl⟩ := hv2.form
  obtain ⟨ao3, n3, k3, rfl⟩ := hv3.form
  have hno := noLimb3 (by simp) (by simp) (by simp) hall
  clear hext1 hext2 hext3 hv1 hv2
  go_wp2
  refine bodyPost_ret (v := .agg #[.bool false, .slice ao2 n2 k2, .slice ao3 n3 k3]) (by simp [results, Oaig.results18, go_sem, c0, c1, c2]) rfl ⟨_, _, rfl, ((hall.of_alloc.setCell (Nat.le_refl _) _).setCell (Nat.le_refl _) _).setCell (Nat.le_refl _) _, ?_, ?_⟩
  · rw [Nat.one_mul] at hn
    exact ((hn.set hno _ _).set (hno.set _ (by simp)) _ _).set ((hno.set _ (by simp)).set _ (by simp)) _ _
  · exact ((hv3.set hno _ _).set (hno.set _ (by simp)) _ _).set ((hno.set _ (by simp)).set _ (by simp)) _ _

set_option maxHeartbeats 400000 in
theorem pow10Nat_any (w : World) (k : Nat) (hk : k ≤ 65535) :
    Calls Oaig.prog 34 #[.int .i64 k] w fun e w' => ∃ v, e = .returned v ∧ Ext w w' ∧ NatV w' v (10 ^ k) := by
  go_enter Oaig.func34, Oaig.ntmps34
  go_wp2_with fail
  refine (pow5_any _ k (by omega)).mono ?_
  rintro e w1 ⟨v1, rfl, hext1, hv1⟩
  go_wp2_with fail
  refine (one_any _).mono ?_
  rintro e w2 ⟨v2, rfl, hext2, hv2⟩
  go_wp2_with fail
  refine (shl_any hv2 (lt32_one 1 (by omega)) (by omega) k hk).mono ?_
  rintro e w3 ⟨v3, rfl, hext3, hv3⟩
  have hl1 : Lt32 (5 ^ k) 20000 := (lt32_pow5 _).mono (Nat.le_refl _) (by omega)
  have hl2 : Lt32 (1 * 2 ^ k) 20000 := ((lt32_one 1 (by omega)).shl (k := k)).mono (Nat.le_refl _) (by omega)
  go_wp2_with fail
  refine (mul_any (hv1.ext (hext2.trans hext3)) hv3 hl1 hl2 (by omega)).mono ?_
  rintro e w4 ⟨v4, rfl, hext4, hv4⟩
  go_wp2
  go_ret
  refine ⟨v4, rfl, (hext1.trans (hext2.trans hext3)).trans hext4, ?_⟩
  rw [Nat.one_mul, ← Nat.mul_pow] at hv4
  exact hv4

set_option maxHeartbeats 400000 in
theorem pow10_neg (w : World) (k : Nat) (h1 : 1 ≤ k) (hk : k ≤ 65535) :
    Calls Oaig.prog 20 #[.int .i64 (-(k : Int))] w fun e w' => ∃ nv dv, e = .returned (.agg #[.bool false, nv, dv]) ∧ Ext w w' ∧ NatV w' nv 1 ∧ NatV w' dv (10 ^ k) := by
  go_enter Oaig.func20, Oaig.ntmps20
  go_wp2_with fail
  refine (one_any _).mono ?_
  rintro e w1 ⟨v1, rfl, hext1, hv1⟩
  go_wp2_with fail
  refine (pow10Nat_any _ k hk).mono ?_
  rintro e w2 ⟨v2, rfl, hext2, hv2⟩
  have hn := hv1.ext hext2
  have hall := hext1.trans hext2
  obtain ⟨c0, c1, c2, hfz, hsz⟩ := blk3 hall
  obtain ⟨ao1, n1, k1, rfl⟩ := hv1.form
  obtain ⟨ao2, n2, k2, rfl⟩ := hv2.form
  have hno := noLimb3 (by simp) (by simp) (by simp) hall
  clear hext1 hext2 hv1
  go_wp2
  refine bodyPost_ret (v := .agg #[.bool false, .slice ao1 n1 k1, .slice ao2 n2 k2]) (by simp [results, Oaig.results20, go_sem, c0, c1, c2]) rfl ⟨_, _, rfl, ((hall.of_alloc.setCell (Nat.le_refl _) _).setCell (Nat.le_refl _) _).setCell (Nat.le_refl _) _, ?_, ?_⟩
  · exact ((hn.set hno _ _).set (hno.set _ (by simp)) _ _).set ((hno.set _ (by simp)).set _ (by simp)) _ _
  · exact ((hv2.set hno _ _).set (hno.set _ (by simp)) _ _).set ((hno.set _ (by simp)).set _ (by simp)) _ _

set_option maxHeartbeats 400000 in
theorem pow10_pos (w : World) (k : Nat) (hk : k ≤ 65535) :
    Calls Oaig.prog 20 #[.int .i64 k] w fun e w' => ∃ nv dv, e = .returned (.agg #[.bool false, nv, dv]) ∧ Ext w w' ∧ NatV w' nv (10 ^ k) ∧ NatV w' dv 1 := by
  go_enter Oaig.func20, Oaig.ntmps20
  go_wp2_with fail
  refine (pow10Nat_any _ k hk).mono ?_
  rintro e w1 ⟨v1, rfl, hext1, hv1⟩
  go_wp2_with fail
  refine (one_any _).mono ?_
  rintro e w2 ⟨v2, rfl, hext2, hv2⟩
  have hn := hv1.ext hext2
  have hall := hext1.trans hext2
  obtain ⟨c0, c1, c2, hfz, hsz⟩ := blk3 hall
  obtain ⟨ao1, n1, k1, rfl⟩ := hv1.form
  obtain ⟨ao2, n2, k2, rfl⟩ := hv2.form
  have hno := noLimb3 (by simp) (by simp) (by simp) hall
  clear hext1 hext2 hv1
  go_wp2
  refine bodyPost_ret (v := .agg #[.bool false, .slice ao1 n1 k1, .slice ao2 n2 k2]) (by simp [results, Oaig.results20, go_sem, c0, c1, c2]) rfl ⟨_, _, rfl, ((hall.of_alloc.setCell (Nat.le_refl _) _).setCell (Nat.le_refl _) _).setCell (Nat.le_refl _) _, ?_, ?_⟩
  · exact ((hn.set hno _ _).set (hno.set _ (by simp)) _ _).set ((hno.set _ (by simp)).set _ (by simp)) _ _
  · exact ((hv2.set hno _ _).set (hno.set _ (by simp)) _ _).set ((hno.set _ (by simp)).set _ (by simp)) _ _

set_option maxHeartbeats 400000 in
theorem neg_any (w : World) (b : Bool) (ao1 ao2 : Option Addr) (n1 c1 n2 c2 : Nat) :
    Calls Oaig.prog 33 #[.agg #[.bool b, .slice ao1 n1 c1, .slice ao2 n2 c2]] w fun e w' => e = .returned (.agg #[.bool !b, .slice ao1 n1 c1, .slice ao2 n2 c2]) ∧ Ext w w' := by
  go_enter Oaig.func33, Oaig.ntmps33
  go_wp2
  exact bodyPost_ret (v := .agg #[.bool !b, .slice ao1 n1 c1, .slice ao2 n2 c2]) (by simp [results, Oaig.results33, go_sem]) rfl ⟨rfl, ((Ext.refl w).alloc _ _).alloc _ _⟩

end Go.Proofs.Ygcoai
