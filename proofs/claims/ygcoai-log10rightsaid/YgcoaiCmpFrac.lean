/-
  Seat gcoai. law.cmpFrac (19).
-/
import Derived.Test.YgcoaiSum
namespace Go.Proofs.Ygcoai
open Go.RowKit

theorem NatV.pos {w : World} {v : Value} {x : Nat} (h : NatV w v x) (hx : x ≠ 0) : ∃ ao n c, v = .slice ao n c ∧ 1 ≤ n := by
  obtain ⟨n, f, ⟨_, ao, c, hv, _⟩, _, hnil, hvf⟩ := h
  refine ⟨ao, n, c, hv, ?_⟩
  rcases Nat.eq_zero_or_pos n with h0 | h0
  · subst h0; exact absurd hvf.symm hx
  · exact h0

/-- What sumFrac(a, -b) gives, in all cases. -/
theorem sum_any (w : World) (na da nb db : Value) (an ad bn bd L : Nat) (hna : NatV w na an) (hda : NatV w da ad) (hnb : NatV w nb bn) (hdb : NatV w db bd)
    (lan : Lt32 an L) (lad : Lt32 ad L) (lbn : Lt32 bn L) (lbd : Lt32 bd L) (hL : L ≤ 20000) :
    Calls Oaig.prog 32 #[.agg #[.bool false, na, da], .agg #[.bool true, nb, db]] w fun e w' => ∃ ao n c dv, e = .returned (.agg #[.bool (decide (an * bd < bn * ad)), .slice ao n c, dv]) ∧ Ext w w' ∧ (n = 0 ↔ an * bd = bn * ad) ∧ ∃ ao' n' c', dv = .slice ao' n' c' := by
  rcases Nat.lt_or_ge (an * bd) (bn * ad) with h | h
  · refine (sum_lt w na da nb db an ad bn bd L hna hda hnb hdb lan lad lbn lbd hL h).mono ?_
    rintro e w' ⟨nv, dv, rfl, hext, hv, hd⟩
    obtain ⟨ao, n, c, rfl, hn⟩ := hv.pos (by omega)
    exact ⟨ao, n, c, dv, by rw [decide_eq_true h], hext, ⟨fun h0 => by omega, fun h0 => by omega⟩, hd⟩
  · refine (sum_ge w na da nb db an ad bn bd L hna hda hnb hdb lan lad lbn lbd hL h).mono ?_
    rintro e w' ⟨nv, dv, rfl, hext, hv, hd⟩
    by_cases he : an * bd = bn * ad
    · have := hv.zero (by omega)
      subst this
      exact ⟨none, 0, 0, dv, by rw [decide_eq_false (by omega)], hext, ⟨fun _ => he, fun _ => rfl⟩, hd⟩
    · obtain ⟨ao, n, c, rfl, hn⟩ := hv.pos (by omega)
      exact ⟨ao, n, c, dv, by rw [decide_eq_false (by omega)], hext, ⟨fun h0 => by omega, fun h0 => absurd h0 he⟩, hd⟩

set_option maxHeartbeats 1000000 in
theorem cmpFrac_any (w : World) (na da nb db : Value) (an ad bn bd L : Nat) (hna : NatV w na an) (hda : NatV w da ad) (hnb : NatV w nb bn) (hdb : NatV w db bd)
    (lan : Lt32 an L) (lad : Lt32 ad L) (lbn : Lt32 bn L) (lbd : Lt32 bd L) (hL : L ≤ 20000) :
    Calls Oaig.prog 19 #[.agg #[.bool false, na, da], .agg #[.bool false, nb, db]] w fun e w' => e = .returned (.int .i8 (cmpI (an * bd) (bn * ad))) ∧ Ext w w' := by
  obtain ⟨ao1, n1, k1, rfl⟩ := hna.form
  obtain ⟨ao2, n2, k2, rfl⟩ := hda.form
  obtain ⟨ao3, n3, k3, rfl⟩ := hnb.form
  obtain ⟨ao4, n4, k4, rfl⟩ := hdb.form
  go_enter Oaig.func19, Oaig.ntmps19
  go_wp2_with fail
  obtain ⟨W, hW⟩ : ∃ W, W = (w.alloc (.cells #[.bool false, .slice ao1 n1 k1, .slice ao2 n2 k2] 40)).alloc (.cells #[.bool false, .slice ao3 n3 k3, .slice ao4 n4 k4] 40) := ⟨_, rfl⟩
  have h0 : Ext w W := by rw [hW]; exact ((Ext.refl w).alloc _ _).alloc _ _
  have ca0 : ∀ w', Ext W w' → w'.cell? ⟨w.heap.size, 0, none⟩ = some (.bool false) := fun w' h => h.cell (by rw [hW]; simp [go_sem])
  have ca1 : ∀ w', Ext W w' → w'.cell? ⟨w.heap.size, 1, none⟩ = some (.slice ao1 n1 k1) := fun w' h => h.cell (by rw [hW]; simp [go_sem])
  have ca2 : ∀ w', Ext W w' → w'.cell? ⟨w.heap.size, 2, none⟩ = some (.slice ao2 n2 k2) := fun w' h => h.cell (by rw [hW]; simp [go_sem])
  have cb0 : ∀ w', Ext W w' → w'.cell? ⟨w.heap.size + 1, 0, none⟩ = some (.bool false) := fun w' h => h.cell (by rw [hW]; simp [go_sem])
  have cb1 : ∀ w', Ext W w' → w'.cell? ⟨w.heap.size + 1, 1, none⟩ = some (.slice ao3 n3 k3) := fun w' h => h.cell (by rw [hW]; simp [go_sem])
  have cb2 : ∀ w', Ext W w' → w'.cell? ⟨w.heap.size + 1, 2, none⟩ = some (.slice ao4 n4 k4) := fun w' h => h.cell (by rw [hW]; simp [go_sem])
  rw [← hW]
  clear hW
  go_cut [5] from 6 (fun p wc => ∃ Br ao n c dv, p = .pointer (some ⟨Br, 0, none⟩) ∧ RatBlk wc Br (.bool (decide (an * bd < bn * ad))) (.slice ao n c) dv ∧ Ext w wc ∧ (n = 0 ↔ an * bd = bn * ad))
  case first =>
    go_region_held3 (fun w' => Ext W w') (first | assumption | exact (Ext.refl _).drew | exact Ext.alloc (by assumption) _ _ | exact Ext.alloc (Ext.trans (Ext.refl _).drew (by assumption)) _ _ | exact Ext.trans (by assumption) (by assumption) | exact ((Ext.setCell (by assumption) (Nat.le_refl _) _).setCell (Nat.le_refl _) _).setCell (Nat.le_refl _) _ | exact ((Ext.setCell (by assumption) hq1.size _).setCell hq1.size _).setCell hq1.size _) (first | (go_at_call 33; refine (neg_any _ _ _ _ _ _ _ _).mono ?_; rintro e w1 ⟨rfl, hext1⟩; have hq1 : Ext W w1 := Ext.trans (by assumption) hext1; (first | (have hb3 := ratBlk_new (by simp) (by simp) (by simp) hext1.undrew) | skip)) | (go_at_call 32; refine (sum_any _ _ _ _ _ an ad bn bd L (hna.ext (h0.trans (by assumption))) (hda.ext (h0.trans (by assumption))) (hnb.ext (h0.trans (by assumption))) (hdb.ext (h0.trans (by assumption))) lan lad lbn lbd hL).mono ?_; rintro e w2 ⟨ao5, n5, k5, dv, rfl, hext2, hiff, ao6, n6, k6, rfl⟩; have hq2 : Ext W w2 := Ext.trans (by assumption) hext2; (first | (have hb4 := hb3.ext hext2; have c0 := hb4.c0; have c1 := hb4.c1; have c2 := hb4.c2; have hfz := hb4.fz) | (have hb4 := ratBlk_new (by simp) (by simp) (by simp) hext2; have c0 := hb4.c0; have c1 := hb4.c1; have c2 := hb4.c2; have hfz := hb4.fz) | skip)))
    all_goals (go_wp2_with fail; go_meet)
    all_goals (try (case rel => first | exact ⟨w2.heap.size, _, _, _, _, rfl, ratBlk_new (by simp) (by simp) (by simp) (Ext.refl _), h0.trans (by assumption), hiff⟩ | exact ⟨W.heap.size, _, _, _, _, rfl, ((hb4.set0 _ (by simp)).set1 _ (by simp)).set2 _ (by simp), h0.trans (by assumption), hiff⟩ | exact ⟨w1.heap.size, _, _, _, _, rfl, ((hb4.set0 _ (by simp)).set1 _ (by simp)).set2 _ (by simp), h0.trans (by assumption), hiff⟩))
  case rest =>
    obtain ⟨Br, ao, n, c, dv, rfl, hblk, hext, hiff⟩ := hcut
    have b0 := hblk.c0
    have b1 := hblk.c1
    clear ca0 ca1 ca2 cb0 cb1 cb2 hblk
    rcases Nat.lt_trichotomy (an * bd) (bn * ad) with h | h | h
    · have hd : decide (an * bd < bn * ad) = true := decide_eq_true h
      have hn : ((n : Int) == 0) = false := by rw [beq_eq_false_iff_ne]; have := mt hiff.1 (by omega : ¬ an * bd = bn * ad); omega
      have hc : Hid _ := cmpI_lt h
      rw [hd] at b0
      clear hiff h hd
      go_wp2
      go_ret
      exact ⟨ret_int hc.out.symm, hext⟩
    · have hn : ((n : Int) == 0) = true := by rw [beq_iff_eq]; have := hiff.2 h; omega
      have hc : Hid _ := cmpI_eq h
      clear hiff h b0
      go_wp2
      go_ret
      exact ⟨ret_int hc.out.symm, hext⟩
    · have hd : decide (an * bd < bn * ad) = false := decide_eq_false (by omega)
      have hn : ((n : Int) == 0) = false := by rw [beq_eq_false_iff_ne]; have := mt hiff.1 (by omega : ¬ an * bd = bn * ad); omega
      have hc : Hid _ := cmpI_gt h
      rw [hd] at b0
      clear hiff h hd
      go_wp2
      go_ret
      exact ⟨ret_int hc.out.symm, hext⟩

#print axioms cmpFrac_any
end Go.Proofs.Ygcoai
