/-
  Seat gcoai. law.sumFrac (32), law.cmpFrac (19).
-/
import Derived.Test.YgcoaiFrac
import Derived.Deep.Cut
namespace Go.Proofs.Ygcoai
open Go.RowKit

/-- Three blocks of a fraction's size, laid one behind the other. -/
def lay3 (w : World) (A B C : Array Value) : World := ((w.alloc (.cells A 40)).alloc (.cells B 40)).alloc (.cells C 40)

set_option maxHeartbeats 400000 in
theorem sum_ge (w : World) (na da nb db : Value) (an ad bn bd L : Nat) (hna : NatV w na an) (hda : NatV w da ad) (hnb : NatV w nb bn) (hdb : NatV w db bd)
    (lan : Lt32 an L) (lad : Lt32 ad L) (lbn : Lt32 bn L) (lbd : Lt32 bd L) (hL : L ≤ 20000) (hge : bn * ad ≤ an * bd) :
    Calls Oaig.prog 32 #[.agg #[.bool false, na, da], .agg #[.bool true, nb, db]] w fun e w' => ∃ nv dv, e = .returned (.agg #[.bool false, nv, dv]) ∧ Ext w w' ∧ NatV w' nv (an * bd - bn * ad) ∧ ∃ ao n c, dv = .slice ao n c := by
  obtain ⟨ao1, n1, k1, rfl⟩ := hna.form
  obtain ⟨ao2, n2, k2, rfl⟩ := hda.form
  obtain ⟨ao3, n3, k3, rfl⟩ := hnb.form
  obtain ⟨ao4, n4, k4, rfl⟩ := hdb.form
  go_enter Oaig.func32, Oaig.ntmps32
  go_wp2
  obtain ⟨W, hW⟩ : ∃ W, W = (((w.alloc (.cells #[.bool false, .slice ao1 n1 k1, .slice ao2 n2 k2] 40)).alloc (.cells #[.bool true, .slice ao3 n3 k3, .slice ao4 n4 k4] 40)).alloc (.cells #[.bool false, .slice none 0 0, .slice none 0 0] 40)) := ⟨_, rfl⟩
  have h0 : Ext w W := by rw [hW]; exact (((Ext.refl w).alloc _ _).alloc _ _).alloc _ _
  have ca0 : ∀ w', Ext W w' → w'.cell? ⟨w.heap.size, 0, none⟩ = some (.bool false) := fun w' h => h.cell (by rw [hW]; simp [go_sem])
  have ca1 : ∀ w', Ext W w' → w'.cell? ⟨w.heap.size, 1, none⟩ = some (.slice ao1 n1 k1) := fun w' h => h.cell (by rw [hW]; simp [go_sem])
  have ca2 : ∀ w', Ext W w' → w'.cell? ⟨w.heap.size, 2, none⟩ = some (.slice ao2 n2 k2) := fun w' h => h.cell (by rw [hW]; simp [go_sem])
  have cb0 : ∀ w', Ext W w' → w'.cell? ⟨w.heap.size + 1, 0, none⟩ = some (.bool true) := fun w' h => h.cell (by rw [hW]; simp [go_sem])
  have cb1 : ∀ w', Ext W w' → w'.cell? ⟨w.heap.size + 1, 1, none⟩ = some (.slice ao3 n3 k3) := fun w' h => h.cell (by rw [hW]; simp [go_sem])
  have cb2 : ∀ w', Ext W w' → w'.cell? ⟨w.heap.size + 1, 2, none⟩ = some (.slice ao4 n4 k4) := fun w' h => h.cell (by rw [hW]; simp [go_sem])
  have hres : RatBlk W (w.heap.size + 1 + 1) (.bool false) (.slice none 0 0) (.slice none 0 0) := by
    rw [hW]
    have := ratBlk_new (w := ((w.alloc (.cells #[.bool false, .slice ao1 n1 k1, .slice ao2 n2 k2] 40)).alloc (.cells #[.bool true, .slice ao3 n3 k3, .slice ao4 n4 k4] 40))) (a := .bool false) (b := .slice none 0 0) (c := .slice none 0 0) (t := 40) (by simp) (by simp) (by simp) (Ext.refl _)
    simpa using this
  rw [← hW]
  clear hW
  go_region_held3 (fun w' => Ext W w') (first | exact (Ext.refl _).drew | exact Ext.trans (by assumption) (by assumption)) (first | (go_at_call_of 39 (Value.slice ao1 n1 k1); refine (mul_any (hna.ext (h0.trans (by assumption))) (hdb.ext (h0.trans (by assumption))) lan lbd (by omega)).mono ?_; rintro e w1 ⟨v1, rfl, hext1, hv1⟩) | (go_at_call_of 39 (Value.slice ao3 n3 k3); refine (mul_any (hnb.ext (h0.trans (by assumption))) (hda.ext (h0.trans (by assumption))) lbn lad (by omega)).mono ?_; rintro e w2 ⟨v2, rfl, hext2, hv2⟩))
  have hW2 : Ext W w2 := by assumption
  replace ca0 := fun w' (h : Ext w2 w') => ca0 w' (hW2.trans h)
  replace ca2 := fun w' (h : Ext w2 w') => ca2 w' (hW2.trans h)
  replace cb0 := fun w' (h : Ext w2 w') => cb0 w' (hW2.trans h)
  replace cb2 := fun w' (h : Ext w2 w') => cb2 w' (hW2.trans h)
  have h2 : Ext w w2 := h0.trans hW2
  obtain ⟨ao5, n5, k5, rfl⟩ := hv1.form
  obtain ⟨ao6, n6, k6, rfl⟩ := hv2.form
  have hx := hv1.ext hext2
  clear ca1 cb1 h0 hna hnb hext1 hext2 hv1
  go_wp2_with fail
  go_cut [7] from 18 (fun p wc => ∃ Br v7, p = .pointer (some ⟨Br, 0, none⟩) ∧ RatBlk wc Br (.bool false) (.slice none 0 0) v7 ∧ Ext w2 wc ∧ w2.heap.size ≤ Br ∧ ∃ ao n c, v7 = .slice ao n c)
  case first =>
    go_region_held3 (fun w' => Ext w2 w') (first | exact (Ext.refl _).drew | exact Ext.alloc (by assumption) _ _ | exact Ext.alloc (Ext.trans (Ext.refl _).drew (by assumption)) _ _ | exact Ext.trans (by assumption) (by assumption) | exact ((Ext.setCell (by assumption) (Nat.le_refl _) _).setCell (Nat.le_refl _) _).setCell (Nat.le_refl _) _) (first | (go_at_call_of 39 (Value.slice ao2 n2 k2); refine (mul_any (hda.ext (h2.trans (by assumption))) (hdb.ext (h2.trans (by assumption))) lad lbd (by omega)).mono ?_; rintro e w3 ⟨v3, rfl, hext3, hv3⟩; obtain ⟨ao7, n7, k7, rfl⟩ := hv3.form; (first | (have hb3 := ratBlk_new (by simp) (by simp) (by simp) hext3.undrew; have c0 := hb3.c0; have c1 := hb3.c1; have c2 := hb3.c2; have hfz := hb3.fz) | skip)))
    all_goals (go_wp2_with fail; go_meet)
    case rel => exact ⟨w3.heap.size, _, rfl, ratBlk_new (by simp) (by simp) (by simp) (Ext.refl _), by assumption, hext3.size, _, _, _, rfl⟩
    case rel => exact ⟨w2.heap.size, _, rfl, ((hb3.set0 _ (by simp)).set1 _ (by simp)).set2 _ (by simp), by assumption, Nat.le_refl _, _, _, _, rfl⟩
  case rest =>
    obtain ⟨Br, v7, rfl, hblk, hextc, hBr, ao7, n7, k7, rfl⟩ := hcut
    have hcmp : 0 ≤ cmpI (an * bd) (bn * ad) := by unfold cmpI; split; (· omega); split <;> omega
    have e0 := ca0 wc hextc
    have e1 := cb0 wc hextc
    have hres' := hres.ext (hW2.trans hextc)
    have hxc := hx.ext hextc
    have hyc := hv2.ext hextc
    clear ca0 ca2 cb0 cb2 hx hv2 hda hdb
    have lx := lan.mul lbd
    have ly := lbn.mul lad
    go_wp2_with fail
    refine (cmp_any hxc hyc lx ly (by omega)).mono ?_
    rintro e w4 ⟨rfl, hext4⟩
    go_wp2_with fail
    refine (sub_ge (hxc.ext hext4) (hyc.ext hext4) lx ly (by omega) hge).mono ?_
    rintro e w5 ⟨v5, rfl, hext5, hv5⟩
    obtain ⟨ao8, n8, k8, rfl⟩ := hv5.form
    have hb5 := hblk.ext (hext4.trans hext5)
    have hr5 := hres'.ext (hext4.trans hext5)
    have h5 : Ext w w5 := h2.trans (hextc.trans (hext4.trans hext5))
    have b0 := hb5.c0
    have b1 := hb5.c1
    have b2 := hb5.c2
    have bz := hb5.fz
    have r0 := hr5.c0
    have r1 := hr5.c1
    have r2 := hr5.c2
    have rz := hr5.fz
    have hne : w.heap.size + 1 + 1 ≠ Br := by have := hres.lt; have := hW2.size; omega
    clear e0 e1 hres hres' hblk hxc hyc hextc hext4 hext5
    go_wp2
    have hF := (((hr5.setOther (i := 1) hne (.slice ao8 n8 k8)).set0 (.bool false) (by simp)).set1 (.slice ao8 n8 k8) (by simp)).set2 (.slice ao7 n7 k7) (by simp)
    have hN := ((hv5.set hb5.no 1 (.slice ao8 n8 k8)).set (hr5.no.setOther (i := 1) hne _) 0 (.bool false)).set ((hr5.setOther (i := 1) hne (.slice ao8 n8 k8)).set0 (.bool false) (by simp)).no 1 (.slice ao8 n8 k8) |>.set (((hr5.setOther (i := 1) hne (.slice ao8 n8 k8)).set0 (.bool false) (by simp)).set1 (.slice ao8 n8 k8) (by simp)).no 2 (.slice ao7 n7 k7)
    exact bodyPost_ret (v := .agg #[.bool false, .slice ao8 n8 k8, .slice ao7 n7 k7]) (by simp [results, Oaig.results32, go_sem, hF.c0, hF.c1, hF.c2]) rfl ⟨_, _, rfl, (((h5.setCell (by have := h2.size; exact Nat.le_trans this hBr) _).setCell (by show w.heap.size ≤ w.heap.size + 1 + 1; omega) _).setCell (by show w.heap.size ≤ w.heap.size + 1 + 1; omega) _).setCell (by show w.heap.size ≤ w.heap.size + 1 + 1; omega) _, hN, _, _, _, rfl⟩

set_option maxHeartbeats 400000 in
theorem sum_lt (w : World) (na da nb db : Value) (an ad bn bd L : Nat) (hna : NatV w na an) (hda : NatV w da ad) (hnb : NatV w nb bn) (hdb : NatV w db bd)
    (lan : Lt32 an L) (lad : Lt32 ad L) (lbn : Lt32 bn L) (lbd : Lt32 bd L) (hL : L ≤ 20000) (hge : an * bd < bn * ad) :
    Calls Oaig.prog 32 #[.agg #[.bool false, na, da], .agg #[.bool true, nb, db]] w fun e w' => ∃ nv dv, e = .returned (.agg #[.bool true, nv, dv]) ∧ Ext w w' ∧ NatV w' nv (bn * ad - an * bd) ∧ ∃ ao n c, dv = .slice ao n c := by
  obtain ⟨ao1, n1, k1, rfl⟩ := hna.form
  obtain ⟨ao2, n2, k2, rfl⟩ := hda.form
  obtain ⟨ao3, n3, k3, rfl⟩ := hnb.form
  obtain ⟨ao4, n4, k4, rfl⟩ := hdb.form
  go_enter Oaig.func32, Oaig.ntmps32
  go_wp2
  obtain ⟨W, hW⟩ : ∃ W, W = (((w.alloc (.cells #[.bool false, .slice ao1 n1 k1, .slice ao2 n2 k2] 40)).alloc (.cells #[.bool true, .slice ao3 n3 k3, .slice ao4 n4 k4] 40)).alloc (.cells #[.bool false, .slice none 0 0, .slice none 0 0] 40)) := ⟨_, rfl⟩
  have h0 : Ext w W := by rw [hW]; exact (((Ext.refl w).alloc _ _).alloc _ _).alloc _ _
  have ca0 : ∀ w', Ext W w' → w'.cell? ⟨w.heap.size, 0, none⟩ = some (.bool false) := fun w' h => h.cell (by rw [hW]; simp [go_sem])
  have ca1 : ∀ w', Ext W w' → w'.cell? ⟨w.heap.size, 1, none⟩ = some (.slice ao1 n1 k1) := fun w' h => h.cell (by rw [hW]; simp [go_sem])
  have ca2 : ∀ w', Ext W w' → w'.cell? ⟨w.heap.size, 2, none⟩ = some (.slice ao2 n2 k2) := fun w' h => h.cell (by rw [hW]; simp [go_sem])
  have cb0 : ∀ w', Ext W w' → w'.cell? ⟨w.heap.size + 1, 0, none⟩ = some (.bool true) := fun w' h => h.cell (by rw [hW]; simp [go_sem])
  have cb1 : ∀ w', Ext W w' → w'.cell? ⟨w.heap.size + 1, 1, none⟩ = some (.slice ao3 n3 k3) := fun w' h => h.cell (by rw [hW]; simp [go_sem])
  have cb2 : ∀ w', Ext W w' → w'.cell? ⟨w.heap.size + 1, 2, none⟩ = some (.slice ao4 n4 k4) := fun w' h => h.cell (by rw [hW]; simp [go_sem])
  have hres : RatBlk W (w.heap.size + 1 + 1) (.bool false) (.slice none 0 0) (.slice none 0 0) := by
    rw [hW]
    have := ratBlk_new (w := ((w.alloc (.cells #[.bool false, .slice ao1 n1 k1, .slice ao2 n2 k2] 40)).alloc (.cells #[.bool true, .slice ao3 n3 k3, .slice ao4 n4 k4] 40))) (a := .bool false) (b := .slice none 0 0) (c := .slice none 0 0) (t := 40) (by simp) (by simp) (by simp) (Ext.refl _)
    simpa using this
  rw [← hW]
  clear hW
  go_region_held3 (fun w' => Ext W w') (first | exact (Ext.refl _).drew | exact Ext.trans (by assumption) (by assumption)) (first | (go_at_call_of 39 (Value.slice ao1 n1 k1); refine (mul_any (hna.ext (h0.trans (by assumption))) (hdb.ext (h0.trans (by assumption))) lan lbd (by omega)).mono ?_; rintro e w1 ⟨v1, rfl, hext1, hv1⟩) | (go_at_call_of 39 (Value.slice ao3 n3 k3); refine (mul_any (hnb.ext (h0.trans (by assumption))) (hda.ext (h0.trans (by assumption))) lbn lad (by omega)).mono ?_; rintro e w2 ⟨v2, rfl, hext2, hv2⟩))
  have hW2 : Ext W w2 := by assumption
  replace ca0 := fun w' (h : Ext w2 w') => ca0 w' (hW2.trans h)
  replace ca2 := fun w' (h : Ext w2 w') => ca2 w' (hW2.trans h)
  replace cb0 := fun w' (h : Ext w2 w') => cb0 w' (hW2.trans h)
  replace cb2 := fun w' (h : Ext w2 w') => cb2 w' (hW2.trans h)
  have h2 : Ext w w2 := h0.trans hW2
  obtain ⟨ao5, n5, k5, rfl⟩ := hv1.form
  obtain ⟨ao6, n6, k6, rfl⟩ := hv2.form
  have hx := hv1.ext hext2
  clear ca1 cb1 h0 hna hnb hext1 hext2 hv1
  go_wp2_with fail
  go_cut [7] from 18 (fun p wc => ∃ Br v7, p = .pointer (some ⟨Br, 0, none⟩) ∧ RatBlk wc Br (.bool false) (.slice none 0 0) v7 ∧ Ext w2 wc ∧ w2.heap.size ≤ Br ∧ ∃ ao n c, v7 = .slice ao n c)
  case first =>
    go_region_held3 (fun w' => Ext w2 w') (first | exact (Ext.refl _).drew | exact Ext.alloc (by assumption) _ _ | exact Ext.alloc (Ext.trans (Ext.refl _).drew (by assumption)) _ _ | exact Ext.trans (by assumption) (by assumption) | exact ((Ext.setCell (by assumption) (Nat.le_refl _) _).setCell (Nat.le_refl _) _).setCell (Nat.le_refl _) _) (first | (go_at_call_of 39 (Value.slice ao2 n2 k2); refine (mul_any (hda.ext (h2.trans (by assumption))) (hdb.ext (h2.trans (by assumption))) lad lbd (by omega)).mono ?_; rintro e w3 ⟨v3, rfl, hext3, hv3⟩; obtain ⟨ao7, n7, k7, rfl⟩ := hv3.form; (first | (have hb3 := ratBlk_new (by simp) (by simp) (by simp) hext3.undrew; have c0 := hb3.c0; have c1 := hb3.c1; have c2 := hb3.c2; have hfz := hb3.fz) | skip)))
    all_goals (go_wp2_with fail; go_meet)
    case rel => exact ⟨w3.heap.size, _, rfl, ratBlk_new (by simp) (by simp) (by simp) (Ext.refl _), by assumption, hext3.size, _, _, _, rfl⟩
    case rel => exact ⟨w2.heap.size, _, rfl, ((hb3.set0 _ (by simp)).set1 _ (by simp)).set2 _ (by simp), by assumption, Nat.le_refl _, _, _, _, rfl⟩
  case rest =>
    obtain ⟨Br, v7, rfl, hblk, hextc, hBr, ao7, n7, k7, rfl⟩ := hcut
    have hcmp : cmpI (an * bd) (bn * ad) < 0 := by rw [cmpI_lt hge]; decide
    have e0' := ca0 wc hextc
    have e1' := cb0 wc hextc
    have hres' := hres.ext (hW2.trans hextc)
    have hxc := hx.ext hextc
    have hyc := hv2.ext hextc
    clear ca2 cb2 hx hv2 hda hdb
    have lx := lan.mul lbd
    have ly := lbn.mul lad
    go_wp2_with fail
    refine (cmp_any hxc hyc lx ly (by omega)).mono ?_
    rintro e w4 ⟨rfl, hext4⟩
    have hb4 := hblk.ext hext4
    have hr4 := hres'.ext hext4
    have hne : w.heap.size + 1 + 1 ≠ Br := by have := hres.lt; have := hW2.size; omega
    have h4 : Ext w w4 := h2.trans (hextc.trans hext4)
    have hle : w.heap.size ≤ Br := Nat.le_trans h2.size hBr
    have e0 := ca0 w4 (hextc.trans hext4)
    have e1 := cb0 w4 (hextc.trans hext4)
    have b0 := hb4.c0
    have bz := hb4.fz
    have hx4 := (hxc.ext hext4).set hb4.no 0 (.bool true)
    have hy4 := (hyc.ext hext4).set hb4.no 0 (.bool true)
    clear ca0 cb0
    go_wp2_with fail
    refine (sub_ge hy4 hx4 ly lx (by omega) (Nat.le_of_lt hge)).mono ?_
    rintro e w5 ⟨v5, rfl, hext5, hv5⟩
    obtain ⟨ao8, n8, k8, rfl⟩ := hv5.form
    have hb5 := (hb4.set0 (.bool true) (by simp)).ext hext5
    have hr5 := (hr4.setOther (i := 0) hne (.bool true)).ext hext5
    have h5 : Ext w w5 := (h4.setCell (a := ⟨Br, 0, none⟩) hle (.bool true)).trans hext5
    replace b0 := hb5.c0
    have b1 := hb5.c1
    have b2 := hb5.c2
    replace bz := hb5.fz
    have r0 := hr5.c0
    have r1 := hr5.c1
    have r2 := hr5.c2
    have rz := hr5.fz
    clear e0 e1 hres hres' hblk hxc hyc hextc hext4 hext5 hx4 hy4 hb4 hr4 h4
    go_wp2
    have hF := (((hr5.setOther (i := 1) hne (.slice ao8 n8 k8)).set0 (.bool true) (by simp)).set1 (.slice ao8 n8 k8) (by simp)).set2 (.slice ao7 n7 k7) (by simp)
    have hN := ((hv5.set hb5.no 1 (.slice ao8 n8 k8)).set (hr5.no.setOther (i := 1) hne _) 0 (.bool true)).set ((hr5.setOther (i := 1) hne (.slice ao8 n8 k8)).set0 (.bool true) (by simp)).no 1 (.slice ao8 n8 k8) |>.set (((hr5.setOther (i := 1) hne (.slice ao8 n8 k8)).set0 (.bool true) (by simp)).set1 (.slice ao8 n8 k8) (by simp)).no 2 (.slice ao7 n7 k7)
    exact bodyPost_ret (v := .agg #[.bool true, .slice ao8 n8 k8, .slice ao7 n7 k7]) (by simp [results, Oaig.results32, go_sem, hF.c0, hF.c1, hF.c2]) rfl ⟨_, _, rfl, (((h5.setCell hle _).setCell (by show w.heap.size ≤ w.heap.size + 1 + 1; omega) _).setCell (by show w.heap.size ≤ w.heap.size + 1 + 1; omega) _).setCell (by show w.heap.size ≤ w.heap.size + 1 + 1; omega) _, hN, _, _, _, rfl⟩

end Go.Proofs.Ygcoai
