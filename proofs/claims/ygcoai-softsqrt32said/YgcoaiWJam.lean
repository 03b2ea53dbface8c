/-
  Seat gcoai. wide.ShrJam (174).
-/
import Derived.Test.YgcoaiWAdd
import Derived.Deep.Cut
namespace Go.Proofs.Ygcoai
open Go.RowKit

theorem or_one (q : Nat) : q ||| 1 = q / 2 * 2 + 1 := by
  have h : (q ||| 1) % 2 = 1 := by rw [Nat.or_mod_two_eq_one]; right; rfl
  have h2 : (q ||| 1) / 2 = q / 2 := by
    rw [Nat.or_div_two]; simp
  omega

set_option maxRecDepth 20000 in
set_option maxHeartbeats 4000000 in
theorem shrJam_any (w : World) (hi lo k V : Nat) (hh : hi < 18446744073709551616) (hlo : lo < 18446744073709551616) (hk : k < 256) (hV : V = hi * 18446744073709551616 + lo) :
    Calls Oaig.prog 174 #[u128 hi lo, .int .u8 k] w fun e w' => e = .returned (u128 (jam2 V k / 18446744073709551616) (jam2 V k % 18446744073709551616)) ∧ Ext w w' := by
  have hp := Nat.two_pow_pos k
  obtain ⟨q, hq⟩ : ∃ q, q = V / 2 ^ k := ⟨_, rfl⟩
  obtain ⟨qh, hqh⟩ : ∃ x, x = q / 18446744073709551616 := ⟨_, rfl⟩
  obtain ⟨ql, hql⟩ : ∃ x, x = q % 18446744073709551616 := ⟨_, rfl⟩
  have hqv : qh * 18446744073709551616 + ql = q := by omega
  have hqV : q * 2 ^ k ≤ V := by rw [hq]; exact Nat.div_mul_le_self _ _
  have hqle : q ≤ V := by rw [hq]; exact Nat.div_le_self _ _
  have hdm : 2 ^ k * q + V % 2 ^ k = V := by rw [hq]; exact Nat.div_add_mod V (2 ^ k)
  rw [Nat.mul_comm] at hdm
  have hVl : V < 340282366920938463463374607431768211456 := by omega
  have hShr := fun w => wshr_any w hi lo k hh hlo hk
  rw [← hV, ← hq, ← hqh, ← hql] at hShr
  have hShl := fun w => wshl_any w qh ql k (by omega) hk (by rw [hqv]; omega)
  rw [hqv] at hShl
  obtain ⟨A, hA⟩ : ∃ A, A = q * 2 ^ k / 18446744073709551616 := ⟨_, rfl⟩
  obtain ⟨B, hB⟩ : ∃ B, B = q * 2 ^ k % 18446744073709551616 := ⟨_, rfl⟩
  rw [← hA, ← hB] at hShl
  have hAB : A * 18446744073709551616 + B = q * 2 ^ k := by
    have h := Nat.div_add_mod (q * 2 ^ k) 18446744073709551616
    rw [← hA, ← hB, Nat.mul_comm 18446744073709551616] at h
    exact h
  have hBl : B < 18446744073709551616 := by omega
  have hqll : ql < 18446744073709551616 := by omega
  replace hShr : Hid _ := hShr
  replace hShl : Hid _ := hShl
  by_cases he : V % 2 ^ k = 0
  · have hj : jam2 V k = q := by unfold jam2; rw [if_pos he, Nat.or_zero, hq]
    rw [hj, ← hqh, ← hql]
    obtain rfl : A = hi := by omega
    obtain rfl : B = lo := by omega
    clear he hj hAB hBl hA hB hdm hqV hqle hqv hqh hql hq hV hVl hp hh hlo
    go_enter Oaig.func174, Oaig.ntmps174
    go_wp2_with fail
    refine Calls.mono (hShr.out _) ?_
    rintro e w1 ⟨rfl, hext1⟩
    have hwx := hext1.of_alloc2
    have hP : Blk w1 w.heap.size #[.int .u64 (A : Int), .int .u64 (B : Int)] := Blk.two1 hext1
    have hR : Blk w1 (w.heap.size + 1) #[.int .u64 0, .int .u64 0] := Blk.two2 hext1
    have a0 := hP.cell (i := 0) rfl
    have a1 := hP.cell (i := 1) rfl
    have hl1 := hP.lt
    have hl2 := hR.lt
    go_wp2_with fail
    have d0 : ∀ w', Ext (w1.alloc (.cells #[.int .u64 (qh : Int), .int .u64 (ql : Int)] 62)) w' → w'.cell? ⟨w.heap.size, 0, none⟩ = some (.int .u64 (A : Int)) := fun w' h => (hP.ext h.of_alloc).cell rfl
    have d1 : ∀ w', Ext (w1.alloc (.cells #[.int .u64 (qh : Int), .int .u64 (ql : Int)] 62)) w' → w'.cell? ⟨w.heap.size, 1, none⟩ = some (.int .u64 (B : Int)) := fun w' h => (hP.ext h.of_alloc).cell rfl
    have d2 : ∀ w', Ext (w1.alloc (.cells #[.int .u64 (qh : Int), .int .u64 (ql : Int)] 62)) w' → w'.cell? ⟨w1.heap.size, 0, none⟩ = some (.int .u64 (qh : Int)) := fun w' h => (Blk.one h).cell rfl
    have d3 : ∀ w', Ext (w1.alloc (.cells #[.int .u64 (qh : Int), .int .u64 (ql : Int)] 62)) w' → w'.cell? ⟨w1.heap.size, 1, none⟩ = some (.int .u64 (ql : Int)) := fun w' h => (Blk.one h).cell rfl
    go_region_held3 (fun w' => Ext (w1.alloc (.cells #[.int .u64 (qh : Int), .int .u64 (ql : Int)] 62)) w') ((focus ((repeat (first | with_reducible assumption | with_reducible exact Ext.refl _ | with_reducible refine Ext.drew ?_ | with_reducible refine Ext.alloc ?_ _ _ | with_reducible refine Ext.setCell ?_ ?_ _ | with_reducible exact Nat.le_refl _ | (dsimp only; omega) | (simp only [World.size_alloc]; omega))); done))) (first
      | (go_at_call 123; refine Calls.mono (hShl.out _) ?_; rintro e w2 ⟨rfl, hext2⟩; have hq2 : Ext (w1.alloc (.cells #[.int .u64 (qh : Int), .int .u64 (ql : Int)] 62)) w2 := Ext.trans (by (focus ((repeat (first | with_reducible assumption | with_reducible exact Ext.refl _ | with_reducible refine Ext.drew ?_ | with_reducible refine Ext.alloc ?_ _ _ | with_reducible refine Ext.setCell ?_ ?_ _ | with_reducible exact Nat.le_refl _ | (dsimp only; omega) | (simp only [World.size_alloc]; omega))); done))) hext2))
    all_goals (
      have hR2 := hR.ext hq2.of_alloc
      have hQ2 := Blk.one hq2
      have s0 := hR2.cell (i := 0) rfl
      have s1 := hR2.cell (i := 1) rfl
      have sz := hR2.fz
      have b0 := hQ2.cell (i := 0) rfl
      have b1 := hQ2.cell (i := 1) rfl
      go_wp2_with fail
      have hF := hR2.set2 (a' := .int .u64 (qh : Int)) (b' := .int .u64 (ql : Int))
      exact bodyPost_ret (v := u128 qh ql) (by simp [results, Oaig.results174, go_sem, hF.cell (i := 0) rfl, hF.cell (i := 1) rfl]) rfl ⟨rfl, Ext.set2 (hwx.trans hq2.of_alloc) (by omega) _ _⟩)
  · have hj : jam2 V k = q ||| 1 := by unfold jam2; rw [if_neg he, hq]
    obtain ⟨qo, hqo⟩ : ∃ x, x = ql ||| 1 := ⟨_, rfl⟩
    have o1 := or_one q
    have o2 := or_one ql
    have e1 : (q ||| 1) / 18446744073709551616 = qh := by omega
    have e2 : (q ||| 1) % 18446744073709551616 = qo := by omega
    have hor : bits BinOp.or IntKind.u64 (ql : Int) 1 = (qo : Int) := by rw [hqo, show (1 : Int) = ((1 : Nat) : Int) from rfl, u64_or_nat _ _ hqll (by decide)]
    have hne : ((A : Int) == (hi : Int)) = false ∨ (A = hi ∧ ((B : Int) == (lo : Int)) = false) := by
      by_cases h1 : A = hi
      · right
        refine ⟨h1, ?_⟩
        rw [beq_eq_false_iff_ne]; omega
      · left
        rw [beq_eq_false_iff_ne]; omega
    rw [hj, e1, e2]
    clear he hj hAB hBl hA hB hdm hqV hqle hqv hqh hql hq hV hVl hp hh hlo o1 o2 e1 e2 hqo
    rcases hne with hne | ⟨rfl, hne⟩
    · go_enter Oaig.func174, Oaig.ntmps174
      go_wp2_with fail
      refine Calls.mono (hShr.out _) ?_
      rintro e w1 ⟨rfl, hext1⟩
      have hwx := hext1.of_alloc2
      have hP : Blk w1 w.heap.size #[.int .u64 (hi : Int), .int .u64 (lo : Int)] := Blk.two1 hext1
      have hR : Blk w1 (w.heap.size + 1) #[.int .u64 0, .int .u64 0] := Blk.two2 hext1
      have a0 := hP.cell (i := 0) rfl
      have a1 := hP.cell (i := 1) rfl
      have hl1 := hP.lt
      have hl2 := hR.lt
      go_wp2_with fail
      have d0 : ∀ w', Ext (w1.alloc (.cells #[.int .u64 (qh : Int), .int .u64 (ql : Int)] 62)) w' → w'.cell? ⟨w.heap.size, 0, none⟩ = some (.int .u64 (hi : Int)) := fun w' h => (hP.ext h.of_alloc).cell rfl
      have d1 : ∀ w', Ext (w1.alloc (.cells #[.int .u64 (qh : Int), .int .u64 (ql : Int)] 62)) w' → w'.cell? ⟨w.heap.size, 1, none⟩ = some (.int .u64 (lo : Int)) := fun w' h => (hP.ext h.of_alloc).cell rfl
      have d2 : ∀ w', Ext (w1.alloc (.cells #[.int .u64 (qh : Int), .int .u64 (ql : Int)] 62)) w' → w'.cell? ⟨w1.heap.size, 0, none⟩ = some (.int .u64 (qh : Int)) := fun w' h => (Blk.one h).cell rfl
      have d3 : ∀ w', Ext (w1.alloc (.cells #[.int .u64 (qh : Int), .int .u64 (ql : Int)] 62)) w' → w'.cell? ⟨w1.heap.size, 1, none⟩ = some (.int .u64 (ql : Int)) := fun w' h => (Blk.one h).cell rfl
      go_region_held3 (fun w' => Ext (w1.alloc (.cells #[.int .u64 (qh : Int), .int .u64 (ql : Int)] 62)) w') ((focus ((repeat (first | with_reducible assumption | with_reducible exact Ext.refl _ | with_reducible refine Ext.drew ?_ | with_reducible refine Ext.alloc ?_ _ _ | with_reducible refine Ext.setCell ?_ ?_ _ | with_reducible exact Nat.le_refl _ | (dsimp only; omega) | (simp only [World.size_alloc]; omega))); done))) (first
        | (go_at_call 123; refine Calls.mono (hShl.out _) ?_; rintro e w2 ⟨rfl, hext2⟩; have hq2 : Ext (w1.alloc (.cells #[.int .u64 (qh : Int), .int .u64 (ql : Int)] 62)) w2 := Ext.trans (by (focus ((repeat (first | with_reducible assumption | with_reducible exact Ext.refl _ | with_reducible refine Ext.drew ?_ | with_reducible refine Ext.alloc ?_ _ _ | with_reducible refine Ext.setCell ?_ ?_ _ | with_reducible exact Nat.le_refl _ | (dsimp only; omega) | (simp only [World.size_alloc]; omega))); done))) hext2))
      all_goals (
        have hR2 := hR.ext hq2.of_alloc
        have hQ2 := Blk.one hq2
        have b0 := hQ2.cell (i := 0) rfl
        have b1 := hQ2.cell (i := 1) rfl
        have bz := hQ2.fz
        have bl2 := hQ2.lt
        have hQ3 := hQ2.set' 1 (.int .u64 (qo : Int)) (ds := #[.int .u64 (qh : Int), .int .u64 (qo : Int)]) rfl
        have hR3 : Blk (w2.setCell ⟨w1.heap.size, 1, none⟩ (.int .u64 (qo : Int))) (w.heap.size + 1) #[.int .u64 0, .int .u64 0] := hR2.setOther (by omega) _
        have c0 := hQ3.cell (i := 0) rfl
        have c1 := hQ3.cell (i := 1) rfl
        have s0 := hR3.cell (i := 0) rfl
        have s1 := hR3.cell (i := 1) rfl
        have sz := hR3.fz
        have hF := hR3.set2 (a' := .int .u64 (qh : Int)) (b' := .int .u64 (qo : Int))
        go_wp2_with fail
        exact bodyPost_ret (v := u128 qh qo) (by simp [results, Oaig.results174, go_sem, hF.cell (i := 0) rfl, hF.cell (i := 1) rfl]) rfl ⟨rfl, Ext.set2 (Ext.setCell (hwx.trans hq2.of_alloc) (by simp only; omega) _) (by omega) _ _⟩)
    · go_enter Oaig.func174, Oaig.ntmps174
      go_wp2_with fail
      refine Calls.mono (hShr.out _) ?_
      rintro e w1 ⟨rfl, hext1⟩
      have hwx := hext1.of_alloc2
      have hP : Blk w1 w.heap.size #[.int .u64 (A : Int), .int .u64 (lo : Int)] := Blk.two1 hext1
      have hR : Blk w1 (w.heap.size + 1) #[.int .u64 0, .int .u64 0] := Blk.two2 hext1
      have a0 := hP.cell (i := 0) rfl
      have a1 := hP.cell (i := 1) rfl
      have hl1 := hP.lt
      have hl2 := hR.lt
      go_wp2_with fail
      have d0 : ∀ w', Ext (w1.alloc (.cells #[.int .u64 (qh : Int), .int .u64 (ql : Int)] 62)) w' → w'.cell? ⟨w.heap.size, 0, none⟩ = some (.int .u64 (A : Int)) := fun w' h => (hP.ext h.of_alloc).cell rfl
      have d1 : ∀ w', Ext (w1.alloc (.cells #[.int .u64 (qh : Int), .int .u64 (ql : Int)] 62)) w' → w'.cell? ⟨w.heap.size, 1, none⟩ = some (.int .u64 (lo : Int)) := fun w' h => (hP.ext h.of_alloc).cell rfl
      have d2 : ∀ w', Ext (w1.alloc (.cells #[.int .u64 (qh : Int), .int .u64 (ql : Int)] 62)) w' → w'.cell? ⟨w1.heap.size, 0, none⟩ = some (.int .u64 (qh : Int)) := fun w' h => (Blk.one h).cell rfl
      have d3 : ∀ w', Ext (w1.alloc (.cells #[.int .u64 (qh : Int), .int .u64 (ql : Int)] 62)) w' → w'.cell? ⟨w1.heap.size, 1, none⟩ = some (.int .u64 (ql : Int)) := fun w' h => (Blk.one h).cell rfl
      go_region_held3 (fun w' => Ext (w1.alloc (.cells #[.int .u64 (qh : Int), .int .u64 (ql : Int)] 62)) w') ((focus ((repeat (first | with_reducible assumption | with_reducible exact Ext.refl _ | with_reducible refine Ext.drew ?_ | with_reducible refine Ext.alloc ?_ _ _ | with_reducible refine Ext.setCell ?_ ?_ _ | with_reducible exact Nat.le_refl _ | (dsimp only; omega) | (simp only [World.size_alloc]; omega))); done))) (first
        | (go_at_call 123; refine Calls.mono (hShl.out _) ?_; rintro e w2 ⟨rfl, hext2⟩; have hq2 : Ext (w1.alloc (.cells #[.int .u64 (qh : Int), .int .u64 (ql : Int)] 62)) w2 := Ext.trans (by (focus ((repeat (first | with_reducible assumption | with_reducible exact Ext.refl _ | with_reducible refine Ext.drew ?_ | with_reducible refine Ext.alloc ?_ _ _ | with_reducible refine Ext.setCell ?_ ?_ _ | with_reducible exact Nat.le_refl _ | (dsimp only; omega) | (simp only [World.size_alloc]; omega))); done))) hext2))
      all_goals (
        have hR2 := hR.ext hq2.of_alloc
        have hQ2 := Blk.one hq2
        have b0 := hQ2.cell (i := 0) rfl
        have b1 := hQ2.cell (i := 1) rfl
        have bz := hQ2.fz
        have bl2 := hQ2.lt
        have hQ3 := hQ2.set' 1 (.int .u64 (qo : Int)) (ds := #[.int .u64 (qh : Int), .int .u64 (qo : Int)]) rfl
        have hR3 : Blk (w2.setCell ⟨w1.heap.size, 1, none⟩ (.int .u64 (qo : Int))) (w.heap.size + 1) #[.int .u64 0, .int .u64 0] := hR2.setOther (by omega) _
        have c0 := hQ3.cell (i := 0) rfl
        have c1 := hQ3.cell (i := 1) rfl
        have s0 := hR3.cell (i := 0) rfl
        have s1 := hR3.cell (i := 1) rfl
        have sz := hR3.fz
        have hF := hR3.set2 (a' := .int .u64 (qh : Int)) (b' := .int .u64 (qo : Int))
        go_wp2_with fail
        exact bodyPost_ret (v := u128 qh qo) (by simp [results, Oaig.results174, go_sem, hF.cell (i := 0) rfl, hF.cell (i := 1) rfl]) rfl ⟨rfl, Ext.set2 (Ext.setCell (hwx.trans hq2.of_alloc) (by simp only; omega) _) (by omega) _ _⟩)

end Go.Proofs.Ygcoai
