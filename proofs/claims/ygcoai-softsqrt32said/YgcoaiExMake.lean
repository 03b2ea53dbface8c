/-
  Seat gcoai. exact.MakeRat (157).
-/
import Derived.Test.YgcoaiExPack
namespace Go.Proofs.Ygcoai
open Go.RowKit

set_option maxHeartbeats 1000000 in
theorem makeRat_any {w : World} (neg : Bool) {nv dv : Value} {n d L : Nat} (hn : NatV w nv n) (hd : NatV w dv d) (ln : Lt32 n L) (ld : Lt32 d L) (hL : L ≤ 1000) (h0 : d ≠ 0) :
    Calls Oaig.prog 157 #[.bool neg, nv, dv] w fun e w' => ∃ nv' dv', e = .returned (.agg #[.bool neg, nv', dv']) ∧ Ext w w' ∧ NatV w' nv' n ∧ NatV w' dv' d := by
  have q38 := eqnil38
  go_enter Oaig.func157, Oaig.ntmps157
  go_wp2_with fail
  refine (take_natV (hd.ext ((Ext.refl w).alloc _ _)) ld (by omega)).mono ?_
  rintro e w1 ⟨v1, rfl, hext1, hv1⟩
  obtain ⟨ao, n1, k1, rfl⟩ := hv1.form
  have hao : ao.isNone = false := by
    cases ao with
    | some a => rfl
    | none =>
      exfalso
      obtain ⟨m, f, ⟨_, ao', c', hs, _, hc⟩, _, _, hv⟩ := hv1
      cases hs
      by_cases hm : n1 = 0
      · subst hm; exact h0 hv.symm
      · obtain ⟨b, o, hb, _⟩ := hc hm; exact absurd hb (by simp)
  replace q38 : ∀ (w : World) (n' c' : Nat), (binOp .eql 38 (.slice ao n1 k1) (.slice none n' c')).run Oaig.prog w = .ok (.bool false) w := by
    intro w n' c'; rw [← hao]; exact eqnil38 w ao n1 k1 n' c'
  clear hao
  go_wp2_with fail
  refine (take_natV ((hn.ext hext1.of_alloc)) ln (by omega)).mono ?_
  rintro e w2 ⟨v2, rfl, hext2, hv2⟩
  obtain ⟨ao2, n2, k2, rfl⟩ := hv2.form
  have hB : Blk w2 w.heap.size #[.bool false, .slice none 0 0, .slice none 0 0] := (Blk.new w _ 40).ext (hext1.trans hext2)
  have c0 := hB.cell (i := 0) rfl
  have c1 := hB.cell (i := 1) rfl
  have c2 := hB.cell (i := 2) rfl
  have cz := hB.fz
  go_wp2
  have hR := hB.set3 (a' := .bool neg) (b' := .slice ao2 n2 k2) (c' := .slice ao n1 k1)
  exact bodyPost_ret (v := .agg #[.bool neg, .slice ao2 n2 k2, .slice ao n1 k1]) (by simp [results, Oaig.results157, go_sem, hR.cell (i := 0) rfl, hR.cell (i := 1) rfl, hR.cell (i := 2) rfl]) rfl ⟨_, _, rfl, Ext.set3 (hext1.trans hext2).of_alloc (Nat.le_refl _) _ _ _, hv2.set3 hB (by simp [NL]) (by simp [NL]), (hv1.ext hext2).set3 hB (by simp [NL]) (by simp [NL])⟩

end Go.Proofs.Ygcoai
