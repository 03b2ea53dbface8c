/-
  Seat gcoai. ieee.Signals (119) at Binary32.
-/
import Derived.Test.YgcoaiUnpack
namespace Go.Proofs.Ygcoai
open Go.RowKit

theorem field98_1 (a : Bool) (b c d : Int) (w : World) : (Instr.field 98 (.agg #[.bool a, .int .i8 b, .int .i16 c, .int .u64 d]) 1).run Oaig.prog w = .ok (.int .i8 b) w := by kernel_rfl

set_option maxHeartbeats 1000000 in
theorem signals_any (w : World) (x : Nat) (hx : x < 4294967296) :
    Calls Oaig.prog 119 #[.agg #[.int .u8 8, .int .u8 23], .int .u64 x] w fun e w' => ∃ b, e = .returned (.bool b) ∧ Ext w w' := by
  have hfd := field98_1 (pN x) (pC x) (pX x) (pM x : Nat)
  go_enter Oaig.func119, Oaig.ntmps119
  go_wp2_with fail
  refine (unpack_any _ x hx).mono ?_
  rintro e w1 ⟨rfl, hext1⟩
  have hF : Blk w1 w.heap.size #[.int .u8 8, .int .u8 23] := (Blk.new w _ 25).ext hext1
  have a1 := hF.cell (i := 1) rfl
  by_cases hc : pC x = 4
  · have g1 : (pC x == 4) = true := by rw [hc]; rfl
    clear hc
    go_wp2
    go_ret
    exact ⟨_, rfl, hext1.of_alloc⟩
  · have g1 : (pC x == 4) = false := by rw [beq_eq_false_iff_ne]; exact hc
    clear hc
    go_wp2
    go_ret
    exact ⟨_, rfl, hext1.of_alloc⟩

end Go.Proofs.Ygcoai
