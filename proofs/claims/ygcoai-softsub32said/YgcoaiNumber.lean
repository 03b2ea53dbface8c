/-
  Seat gcoai. soft.numberOf (155).
-/
import Derived.Test.YgcoaiWDiv
import Derived.Test.YgcoaiWJam
namespace Go.Proofs.Ygcoai
open Go.RowKit

/-- A number of package soft in a slot: its sign, its exponent and its 128 bits. -/
abbrev num (n : Bool) (e : Int) (hi lo : Nat) : Value := .agg #[.bool n, .int .i16 e, .int .u64 (hi : Nat), .int .u64 (lo : Nat)]

set_option maxRecDepth 20000 in
set_option maxHeartbeats 2000000 in
theorem numberOf_any (w : World) (neg : Bool) (c x : Int) (m : Nat) (hm : m < 16777216) (hx1 : -300 ≤ x) (hx2 : x ≤ 300) :
    Calls Oaig.prog 155 #[.agg #[.int .u8 8, .int .u8 23], .agg #[.bool neg, .int .i8 c, .int .i16 x, .int .u64 m]] w fun e w' => e = .returned (num neg (x - 103) (m * 549755813888) 0) ∧ Ext w w' := by
  have hT := fun w => top_any w neg c x m hm hx1 hx2
  obtain ⟨M, hM⟩ : ∃ M, M = m * 1099511627776 := ⟨_, rfl⟩
  obtain ⟨H, hH⟩ : ∃ H, H = m * 549755813888 := ⟨_, rfl⟩
  rw [← hM] at hT
  rw [← hH]
  have f1 : (M : Int) / 2 = (H : Int) := by omega
  have f2 : IntKind.u64.wrap ((M : Int) * 9223372036854775808) = 0 := by
    have e : (M : Int) * 9223372036854775808 = 18446744073709551616 * (H : Int) := by omega
    rw [IntKind.wrap_u64, e]; exact Int.mul_emod_right _ _
  have f3 : x - 40 - 63 = x - 103 := by omega
  replace hT : Hid _ := hT
  clear hM hH
  go_enter Oaig.func155, Oaig.ntmps155
  go_wp2_with fail
  refine Calls.mono (hT.out _) ?_
  rintro e w1 ⟨rfl, hext1⟩
  have hP : Blk w1 (w.heap.size + 1) #[.bool neg, .int .i8 c, .int .i16 x, .int .u64 (m : Int)] := Blk.ext (by (focus ((repeat (first | with_reducible assumption | with_reducible exact Blk.new _ _ _ | with_reducible exact Blk.new' _ _ (by simp) | with_reducible refine Blk.alloc ?_ _ _ | with_reducible refine Blk.set4 (a := .bool false) (b := .int .i8 0) (c := .int .i16 0) (d := .int .u64 0) ?_ | with_reducible refine Blk.setOther4 ?_ ?_ | with_reducible refine Blk.setOther ?_ ?_ _ | with_reducible refine Blk.drew ?_ | (apply Ne.symm; with_reducible assumption) | omega)); done))) hext1
  have hR : Blk w1 (w.heap.size + 1 + 1) #[.bool false, .int .i16 0, .int .u64 0, .int .u64 0] := Blk.ext (by (focus ((repeat (first | with_reducible assumption | with_reducible exact Blk.new _ _ _ | with_reducible exact Blk.new' _ _ (by simp) | with_reducible refine Blk.alloc ?_ _ _ | with_reducible refine Blk.set4 (a := .bool false) (b := .int .i8 0) (c := .int .i16 0) (d := .int .u64 0) ?_ | with_reducible refine Blk.setOther4 ?_ ?_ | with_reducible refine Blk.setOther ?_ ?_ _ | with_reducible refine Blk.drew ?_ | (apply Ne.symm; with_reducible assumption) | omega)); done))) hext1
  have hwx : Ext w w1 := Ext.trans (by (focus ((repeat (first | with_reducible assumption | with_reducible exact Ext.refl _ | with_reducible refine Ext.drew ?_ | with_reducible refine Ext.alloc ?_ _ _ | with_reducible refine Ext.setCell ?_ ?_ _ | with_reducible exact Nat.le_refl _ | (dsimp only; omega) | (simp only [World.size_alloc]; omega))); done))) hext1
  have a0 := hP.cell (i := 0) rfl
  have s0 := hR.cell (i := 0) rfl
  have s1 := hR.cell (i := 1) rfl
  have s2 := hR.cell (i := 2) rfl
  have s3 := hR.cell (i := 3) rfl
  have sz := hR.fz
  have hl := hR.lt
  go_wp2_with fail
  have hF := hR.set4 (a' := .bool neg) (b' := .int .i16 (x - 103)) (c' := .int .u64 (H : Int)) (d' := .int .u64 0)
  exact bodyPost_ret (v := num neg (x - 103) H 0) (by simp [results, Oaig.results155, go_sem, hF.cell (i := 0) rfl, hF.cell (i := 1) rfl, hF.cell (i := 2) rfl, hF.cell (i := 3) rfl]) rfl ⟨rfl, Ext.set4 hwx (by omega) _ _ _ _⟩

end Go.Proofs.Ygcoai
