/-
  Seat gcoai. nat.divLong (107).
-/
import Derived.Test.YgcoaiDivMath
import Derived.Test.YgcoaiTake
import Derived.Test.YgcoaiFrac
import Derived.Deep.RegionHeld3
import Derived.Deep.Cut
namespace Go.Proofs.Ygcoai
open Go.RowKit

/-- How the divisor is moved up. -/
theorem top_shift {x : Nat} (hx : x ≠ 0) (hl : x < 4294967296) : bl x ≤ 32 ∧ 32 - bl x ≤ 31 ∧ 2147483648 ≤ x * 2 ^ (32 - bl x) ∧ x * 2 ^ (32 - bl x) < 4294967296 := by
  have h1 := bl_lt x
  have h2 := bl_le hx
  have h3 := bl_pos hx
  have h4 : bl x ≤ 32 := bl_le_of_lt (k := 32) hl
  refine ⟨h4, by omega, ?_, ?_⟩
  · have := Nat.mul_le_mul_right (2 ^ (32 - bl x)) h2
    rw [← Nat.pow_add, show bl x - 1 + (32 - bl x) = 31 from by omega] at this
    omega
  · have := Nat.mul_lt_mul_of_pos_right h1 (Nat.pow_pos (n := 32 - bl x) (show 0 < 2 by decide))
    rw [← Nat.pow_add, show bl x + (32 - bl x) = 32 from by omega] at this
    omega

/-- The divisor moved up has its n limbs, the top bit set. -/
theorem lifted_top {g dl : Nat → Nat} {n nd s : Nat} (hn : 1 ≤ n) (hg : ∀ i, i < n → g i < 4294967296) (hd : ∀ i, i < nd → dl i < 4294967296) (hnorm : Norm dl nd) (h1 : 2147483648 ≤ g (n - 1) * 2 ^ s) (h2 : g (n - 1) * 2 ^ s < 4294967296) (hv : vf dl nd = vf g n * 2 ^ s) :
    nd = n ∧ 2147483648 ≤ dl (n - 1) := by
  obtain ⟨k, rfl⟩ : ∃ k, n = k + 1 := ⟨n - 1, by omega⟩
  have hk : k + 1 - 1 = k := rfl
  rw [hk] at h1 h2 ⊢
  have hp : 0 < 2 ^ s := Nat.pow_pos (by decide)
  have hlow := vf_lt (f := g) (n := k) (fun i hi => hg i (by omega))
  have hup : vf dl nd < 4294967296 ^ (k + 1) := by
    rw [hv, vf]
    have e : (g k + 1) * 2 ^ s ≤ 4294967296 := by
      -- g k * 2^s is a multiple of 2^s below 2^32, and so is 2^32 (s <= 31)
      have hs : s ≤ 32 := by
        rcases Nat.lt_or_ge 32 s with h | h
        · have hg0 : g k ≠ 0 := by intro h0; rw [h0, Nat.zero_mul] at h1; omega
          have : 2 ^ 33 ≤ 2 ^ s := Nat.pow_le_pow_right (by decide) h
          have : 1 * 2 ^ s ≤ g k * 2 ^ s := Nat.mul_le_mul_right _ (by omega)
          omega
        · exact h
      have hsp : (4294967296 : Nat) = 2 ^ (32 - s) * 2 ^ s := by rw [← Nat.pow_add, show 32 - s + s = 32 from by omega]
      rw [hsp] at h2 ⊢
      have := Nat.lt_of_mul_lt_mul_right h2
      exact Nat.mul_le_mul_right _ this
    have h3 : vf g k + g k * 4294967296 ^ k < (g k + 1) * 4294967296 ^ k := by rw [Nat.add_mul]; omega
    have h4 := Nat.mul_lt_mul_of_pos_right h3 hp
    have h5 : (g k + 1) * 4294967296 ^ k * 2 ^ s = (g k + 1) * 2 ^ s * 4294967296 ^ k := by ac_rfl
    have h6 : (g k + 1) * 2 ^ s * 4294967296 ^ k ≤ 4294967296 * 4294967296 ^ k := Nat.mul_le_mul_right _ e
    rw [Nat.pow_succ]; omega
  have hlo : 2147483648 * 4294967296 ^ k ≤ vf dl nd := by
    rw [hv, vf, Nat.add_mul]
    have h3 : g k * 4294967296 ^ k * 2 ^ s = g k * 2 ^ s * 4294967296 ^ k := by ac_rfl
    have h4 : 2147483648 * 4294967296 ^ k ≤ g k * 2 ^ s * 4294967296 ^ k := Nat.mul_le_mul_right _ h1
    omega
  have hle := norm_len hnorm hup
  have hPk := pow_pos32 k
  have hge : k + 1 ≤ nd := by
    rcases Nat.lt_or_ge nd (k + 1) with h | h
    · have h3 := vf_lt hd
      have h4 : 4294967296 ^ nd ≤ 4294967296 ^ k := Nat.pow_le_pow_right (by decide) (by omega)
      omega
    · exact h
  have hnd : nd = k + 1 := by omega
  refine ⟨hnd, ?_⟩
  subst hnd
  rw [vf] at hlo
  have h3 := vf_lt (f := dl) (n := k) (fun i hi => hd i (by omega))
  rcases Nat.lt_or_ge (dl k) 2147483648 with h | h
  · have : (dl k + 1) * 4294967296 ^ k ≤ 2147483648 * 4294967296 ^ k := Nat.mul_le_mul_right _ h
    rw [Nat.add_mul] at this
    omega
  · exact h

theorem vf_lt_pow {f : Nat → Nat} {n s : Nat} (h : ∀ i, i < n → f i < 4294967296) : vf f n * 2 ^ s < 2 ^ s * 4294967296 ^ n := by
  rw [Nat.mul_comm]
  exact Nat.mul_lt_mul_of_pos_left (vf_lt h) (Nat.pow_pos (by decide))

theorem Row.ext {w w' : World} {B n : Nat} {r : Nat → Nat} (h : Row w B n r) (e : Ext w w') : Row w' B n r := World.rowIs.of_block h (e.below.block B h.lt)

theorem guess_ex (w : World) (u2 u1 u0 d1 d0 : Nat) (h2 : u2 < 4294967296) (h1 : u1 < 4294967296) (h0 : u0 < 4294967296) (hd1 : d1 < 4294967296) (hd0 : d0 < 4294967296) (hn : 2147483648 ≤ d1) (hu : u2 ≤ d1) :
    Calls Oaig.prog 151 #[.int .u32 u2, .int .u32 u1, .int .u32 u0, .int .u32 d1, .int .u32 d0] w fun e w' => ∃ G : Nat, e = .returned (.int .u32 G) ∧ G < 4294967296 ∧ Hid (G = gsd u2 u1 u0 d1 d0) ∧ Ext w w' :=
  (guess_any w u2 u1 u0 d1 d0 h2 h1 h0 hd1 hd0 hn hu).mono fun _ _ ⟨he, hx⟩ => ⟨_, he, by unfold gsd; omega, rfl, hx⟩

set_option maxRecDepth 10000 in
set_option maxHeartbeats 3000000 in
theorem divLong_any {w : World} {ba oa m ca bb ob n cb : Nat} {f g : Nat → Nat} {L : Nat} (hA : NatV w (.slice (some ⟨ba, oa, none⟩) m ca) (vf f m)) (hB : NatV w (.slice (some ⟨bb, ob, none⟩) n cb) (vf g n)) (hm : m ≤ L) (hL : L ≤ 50000) (hn2 : 2 ≤ n) (hnm : n ≤ m)
    (hf : ∀ i, i < m → f i < 4294967296) (hg : ∀ i, i < n → g i < 4294967296) (hx : Lt32 (vf f m) L) (hy : Lt32 (vf g n) L) (htop : g (n - 1) ≠ 0) (hgc : ∀ i, i < n → w.cell? ⟨bb, ob + i, none⟩ = some (.int .u32 (g i : Nat))) :
    Calls Oaig.prog 107 #[.slice (some ⟨ba, oa, none⟩) m ca, .slice (some ⟨bb, ob, none⟩) n cb] w fun e w' => ∃ qv rv, e = .returned (.tuple #[qv, rv]) ∧ Ext w w' ∧ NatV w' qv (vf f m / vf g n) ∧ NatV w' rv (vf f m % vf g n) := by
  obtain ⟨t1, t2, t3, t4⟩ := top_shift htop (hg (n - 1) (by omega))
  have hgt := hgc (n - 1) (by omega)
  have hgl := hg (n - 1) (by omega)
  obtain ⟨s, hs⟩ : ∃ s, s = 32 - bl (g (n - 1)) := ⟨_, rfl⟩
  have hsI : (32 : Int) - (bl (g (n - 1)) : Int) = (s : Int) := by omega
  rw [← hs] at t2 t3 t4
  have hmk := fun w => run_mk (m + 1) ((m : Int) + 1) (by omega) (by omega) w
  have hmk2 := fun w => run_mk (m - n + 1) ((m : Int) - (n : Int) + 1) (by omega) (by omega) w
  clear hs
  go_enter Oaig.func107, Oaig.ntmps107
  go_wp2_with fail
  refine (width32_any _ (g (n - 1)) hgl).mono ?_
  rintro e w' ⟨rfl, rfl⟩
  go_wp2_with fail
  refine (lift_any hB hy (by omega) s (by omega)).mono ?_
  rintro e w1 ⟨v1, rfl, hext1, hv1⟩
  obtain ⟨nd, dl, ⟨hdl, ao1, cd, rfl, hcd, hdc0⟩, hdn, _, hdv⟩ := hv1
  obtain ⟨hnd, hdtop⟩ := lifted_top (by omega) hg hdl hdn t3 t4 hdv
  subst nd
  obtain ⟨bd, od, rfl, hdc⟩ := hdc0 (by omega)
  clear hdc0
  go_wp2_with fail
  refine (lift_any (hA.ext (hext1.alloc _ _)) hx (by omega) s (by omega)).mono ?_
  rintro e w2 ⟨v2, rfl, hext2, hv2⟩
  obtain ⟨na, fa, ⟨hfa, ao2, ca2, rfl, _, hfc⟩, hfn, _, hfv⟩ := hv2
  have hna : na ≤ m + 1 := norm_len hfn (by
    rw [hfv, Nat.pow_succ]
    have h1 := vf_lt hf
    have h2 : 2 ^ s ≤ 2 ^ 32 := Nat.pow_le_pow_right (by decide) (by omega)
    have h3 : vf f m * 2 ^ s ≤ vf f m * 2 ^ 32 := Nat.mul_le_mul_left _ h2
    omega)
  have hrow2 : Row w2 w1.heap.size (m + 1) (fun _ => 0) := (row_made w1 (m + 1)).ext hext2
  obtain ⟨w3, hrun, hrow3, hext3⟩ := copy_run hrow2 ao2 na ca2 (m + 1) fa 3 hna hfc
  have h13 : Ext w1 w3 := hext3 w1 hext2.of_alloc (Nat.le_refl _)
  go_wp2_with fail
  have hbd : bd < w1.heap.size := lt_of_cell (hdc 0 (by omega))
  have hBq : w1.heap.size < w3.heap.size := hrow3.lt
  obtain ⟨u0, hu0⟩ : ∃ u0 : Nat → Nat, u0 = fun i => if i < na then fa i else 0 := ⟨_, rfl⟩
  rw [← hu0] at hrow3
  have hu0l : ∀ t, t < m + 1 → u0 t < 4294967296 := fun t _ => by
    rw [hu0]; dsimp only; split
    · exact hfa t (by assumption)
    · decide
  have hu0v : vf u0 (m + 1) = vf f m * 2 ^ s := by
    rw [← hfv, vf_zero_above hna (fun t h1 h2 => by rw [hu0]; dsimp only; rw [if_neg (by omega)])]
    exact vf_congr (fun i hi => by rw [hu0]; dsimp only; rw [if_pos hi])
  have hinit : Div (vf f m * 2 ^ s) (vf g n * 2 ^ s) m n (m - n + 1) u0 (fun _ => 0) := dv_init (by omega) hnm t2 hu0l hu0v (vf_lt_pow hf) hdv hdtop
  have hDn : vf g n * 2 ^ s < 4294967296 ^ n := by rw [← hdv]; exact vf_lt hdl
  have hbp : 0 < vf g n := by
    have := norm_pos (f := g) (n := n) (fun _ => htop) (by omega)
    have := pow_pos32 (n - 1)
    omega
  have hDp : 0 < vf g n * 2 ^ s := Nat.mul_pos hbp (Nat.pow_pos (by decide))
  clear hu0 hfc hrun hmk hmk2 hgc hgt hA hB hrow2 hu0v hfv hfa hfn
  go_loopw [11] (fun ci wr => ∃ (j : Nat) (u q : Nat → Nat), j ≤ m - n + 1 ∧ ci = .int .i64 ((j : Int) - 1) ∧ Row wr w1.heap.size (m + 1) u ∧ Row wr w3.heap.size (m - n + 1) q ∧ (∀ t, t < m - n + 1 → q t < 4294967296) ∧ Div (vf f m * 2 ^ s) (vf g n * 2 ^ s) m n j u q ∧ Ext w1 wr) (fun i _ => (intOf i + 1).toNat)
  case atStart => exact ⟨m - n + 1, u0, fun _ => 0, Nat.le_refl _, by go_num, (hrow3.ext ((Ext.refl w3).alloc _ _)), row_made w3 _, fun _ _ => Nat.zero_lt_succ _, hinit, h13.alloc _ _⟩
  case round =>
    obtain ⟨j, u, q, hj, rfl, hrowu, hrowq, hql, hdiv, hext⟩ := hrel
    rcases Nat.eq_zero_or_pos j with h0 | h0
    · subst h0
      obtain ⟨z1, z2⟩ := dv_done hdiv (by omega) hbp rfl rfl
      have Z1 : Hid _ := z1
      have Z2 : Hid _ := z2
      have hlu := hrowu.limbs hdiv.lim
      clear z1 z2 hdiv hdc
      go_wp2_with fail
      refine (shr_limbs hlu (by omega) s (by omega)).mono ?_
      rintro e w8 ⟨rv, lost, rfl, hext8, hrv⟩
      rw [Z2.out] at hrv
      have hlq := (hrowq.ext hext8).limbs hql
      go_wp2_with fail
      refine (trim_natV hlq (by omega)).mono ?_
      rintro e w9 ⟨qv, rfl, rfl, hqv⟩
      rw [Z1.out] at hqv
      go_wp2
      go_ret2
      exact ⟨qv, rv, rfl, hext1.trans (hext.trans hext8), hqv, hrv⟩
    · obtain ⟨i, rfl⟩ : ∃ i, j = i + 1 := ⟨j - 1, by omega⟩
      rw [show (((i + 1 : Nat) : Int) - 1) = (i : Int) from by omega]
      have a1 := hdiv.lim (i + n) (by omega)
      have a2 := hdiv.lim (i + n - 1) (by omega)
      have a3 := hdiv.lim (i + n - 2) (by omega)
      have a4 := hdl (n - 1) (by omega)
      have a5 := hdl (n - 2) (by omega)
      have hu2 := dv_u2 hdiv (by omega) hdl hdv
      have hgs := dv_guess hdiv hn2 (by omega) hdl hdv hdtop
      have c1 : ∀ w', Ext wr w' → w'.cell? ⟨w1.heap.size, i + n, none⟩ = some (.int .u32 (u (i + n) : Nat)) := fun w' h => h.cell (hrowu.cell (by omega))
      have c2 : ∀ w', Ext wr w' → w'.cell? ⟨w1.heap.size, i + n - 1, none⟩ = some (.int .u32 (u (i + n - 1) : Nat)) := fun w' h => h.cell (hrowu.cell (by omega))
      have c3 : ∀ w', Ext wr w' → w'.cell? ⟨w1.heap.size, i + n - 2, none⟩ = some (.int .u32 (u (i + n - 2) : Nat)) := fun w' h => h.cell (hrowu.cell (by omega))
      have c4 : ∀ w', Ext wr w' → w'.cell? ⟨bd, od + (n - 1), none⟩ = some (.int .u32 (dl (n - 1) : Nat)) := fun w' h => h.cell (hext.cell (hdc _ (by omega)))
      have c5 : ∀ w', Ext wr w' → w'.cell? ⟨bd, od + (n - 2), none⟩ = some (.int .u32 (dl (n - 2) : Nat)) := fun w' h => h.cell (hext.cell (hdc _ (by omega)))
      have k1 : IntKind.i64.wrap ((i : Int) + (n : Int)) = (i : Int) + (n : Int) := by rw [IntKind.wrap_i64]; omega
      have k2 : IntKind.i64.wrap ((i : Int) + (n : Int) - 1) = (i : Int) + (n : Int) - 1 := by rw [IntKind.wrap_i64]; omega
      have k3 : IntKind.i64.wrap ((i : Int) + (n : Int) - 2) = (i : Int) + (n : Int) - 2 := by rw [IntKind.wrap_i64]; omega
      have k4 : IntKind.i64.wrap ((n : Int) - 1) = (n : Int) - 1 := by rw [IntKind.wrap_i64]; omega
      have k5 : IntKind.i64.wrap ((n : Int) - 2) = (n : Int) - 2 := by rw [IntKind.wrap_i64]; omega
      have b1 : (0 : Int) ≤ (i : Int) + (n : Int) := by omega
      have b2 : (1 : Int) ≤ (i : Int) + (n : Int) := by omega
      have b3 : (2 : Int) ≤ (i : Int) + (n : Int) := by omega
      have b4 : (1 : Int) ≤ (n : Int) := by omega
      have b5 : (2 : Int) ≤ (n : Int) := by omega
      have d1 : (i : Int) + (n : Int) < (m : Int) + 1 := by omega
      have d2 : (i : Int) + (n : Int) - 1 < (m : Int) + 1 := by omega
      have d3 : (i : Int) + (n : Int) - 2 < (m : Int) + 1 := by omega
      have d4 : (n : Int) - 1 < (n : Int) := by omega
      have d5 : (n : Int) - 2 < (n : Int) := by omega
      have e1 : ((i : Int) + (n : Int)).toNat = i + n := by omega
      have e2 : ((i : Int) + (n : Int) - 1).toNat = i + n - 1 := by omega
      have e3 : ((i : Int) + (n : Int) - 2).toNat = i + n - 2 := by omega
      have e4 : ((n : Int) - 1).toNat = n - 1 := by omega
      have e5 : ((n : Int) - 2).toNat = n - 2 := by omega
      go_wp2_with fail
      go_region_held3 (fun w' => Ext wr w') (first | assumption | exact (Ext.refl _).drew) (first | (go_at_call 151; refine (guess_ex _ (u (i + n)) (u (i + n - 1)) (u (i + n - 2)) (dl (n - 1)) (dl (n - 2)) a1 a2 a3 a4 a5 hdtop hu2).mono ?_; rintro e w5 ⟨G, rfl, hGl, hG, hext5⟩; have hq5 : Ext wr w5 := Ext.trans (by assumption) hext5))
      rw [← hG.out] at hgs
      have hru5 := hrowu.ext hq5
      have hrq5 := hrowq.ext hq5
      have hext5' := hext.trans hq5
      clear c1 c2 c3 c4 c5 k1 k2 k3 k4 k5 b1 b2 b3 b4 b5 d1 d2 d3 d4 d5 e1 e2 e3 e4 e5 hG a1 a2 a3 a4 a5 hu2 hrowu hrowq hext5
      go_wp2_with fail
      rw [show i + n + 1 - i = n + 1 from by omega]
      have hdc5 : ∀ t, t < n → w5.cell? ⟨bd, od + t, none⟩ = some (.int .u32 (dl t : Nat)) := fun t ht => hext5'.cell (hdc t ht)
      refine (takeAway_any hru5 (by omega) (by omega) hdiv.lim (by omega) (by omega) hdl hdc5 hGl).mono ?_
      rintro e w6 ⟨bo, r1, rfl, hbo, hru6, hr1, hout1, hv1, hon6⟩
      rw [hdv] at hv1
      have hrq6 := hrq5.only hon6 (by omega)
      have hext6 := hon6.ext hext5' (Nat.le_refl _)
      have hW1 := vf_lt (f := from_ r1 i) (n := n + 1) (from_lt hr1 (by omega))
      obtain ⟨tb0, tb1⟩ := tk_borrow hv1 hW1 hbo
      have hcq := hrq6.cell (i := i) (by omega)
      have hfq := hrq6.frozen i
      clear hdc5 hru5 hrq5
      by_cases hb0 : bo = 0
      · obtain ⟨q1, q2⟩ := tb0 hb0
        obtain ⟨g1, g2⟩ := dv_fit hDp hgs.1 q1 q2
        have hnext : Hid _ := dv_next hdiv (by omega) hnm hDn hDp hr1 hout1 g2
        have hbd : decide (bo = 1) = false := decide_eq_false (by omega)
        have g1' : Hid _ := g1
        clear tb0 tb1 q1 q2 g1 g2 hgs hv1 hout1 hdiv hW1 hb0
        rw [hbd]
        clear hbd
        go_wp2
        go_roundw
        case rel =>
          refine ⟨i, r1, upd q i G, by omega, by go_num, ?_, hrq6.set i _ _ rfl, upd_lt hql hGl, ?_, hext6.setCell (Nat.le_of_lt hBq) _⟩
          · exact World.rowIs.setOther hru6 (by show w1.heap.size ≠ w3.heap.size; omega) _
          · rw [g1'.out]; exact hnext.out
        case measure => simp [intOf]
      · have hb1 : bo = 1 := by omega
        obtain ⟨q1, q2⟩ := tb1 hb1
        have hG1 : 1 ≤ G := by
          rcases Nat.eq_zero_or_pos G with h | h
          · rw [h, Nat.zero_mul] at q1; omega
          · exact h
        have hbd : decide (bo = 1) = true := decide_eq_true hb1
        clear tb0 tb1 hb0 hb1 hv1 hW1
        rw [hbd]
        clear hbd
        go_wp2_with fail
        rw [show i + n + 1 - i = n + 1 from by omega]
        have hdc6 : ∀ t, t < n → w6.cell? ⟨bd, od + t, none⟩ = some (.int .u32 (dl t : Nat)) := fun t ht => hext6.cell (hdc t ht)
        refine (putBack_any hru6 (by omega) (by omega) hr1 (by omega) (by omega) hdl hdc6).mono ?_
        rintro e w7 ⟨cy, r2, rfl, hru7, hr2, hout2, hv2, hon7⟩
        rw [hdv] at hv2
        have hrq7 := hrq6.only hon7 (by omega)
        have hext7 := hon7.ext hext6 (Nat.le_refl _)
        have hW2 := vf_lt (f := from_ r2 i) (n := n + 1) (from_lt hr2 (by omega))
        obtain ⟨g0, g1, g2⟩ := dv_over hDp (Nat.le_of_lt hDn) (Nat.pow_lt_pow_right (by decide) (by omega)) hgs.2 q1 q2 hv2 hW2
        have hnext : Hid _ := dv_next hdiv (by omega) hnm hDn hDp hr2 (fun t ht => (hout2 t ht).trans (hout1 t ht)) g2
        have g1' : Hid _ := g1
        have hcq7 := hrq7.cell (i := i) (by omega)
        have hfq7 := hrq7.frozen i
        clear q1 q2 g1 g2 g0 hgs hv2 hout1 hout2 hdiv hW2 hdc6 hrq6 hru6 hcq hfq
        go_wp2
        go_roundw
        case rel =>
          refine ⟨i, r2, upd q i (G - 1), by omega, by go_num, ?_, hrq7.set i _ _ (by go_num), upd_lt hql (by omega), ?_, hext7.setCell (Nat.le_of_lt hBq) _⟩
          · exact World.rowIs.setOther hru7 (by show w1.heap.size ≠ w3.heap.size; omega) _
          · rw [g1'.out]; exact hnext.out
        case measure => simp [intOf]

#print axioms divLong_any
end Go.Proofs.Ygcoai
