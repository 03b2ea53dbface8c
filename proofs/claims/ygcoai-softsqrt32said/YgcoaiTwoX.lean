/-
  Seat gcoai. Two operands opened in one statement that draws its order: words for blocks of six cells.
-/
import Derived.Test.YgcoaiExRfE
namespace Go.Proofs.Ygcoai
open Go.RowKit

theorem NatV.allocd {w : World} {v : Value} {x : Nat} {cs : Array Value} {t : TypeId} (h : NatV w v x) : NatV (w.alloc (.cells cs t)) v x := h.ext ((Ext.refl w).alloc _ _)
theorem NatV.drewd {w : World} {v : Value} {x : Nat} (h : NatV w v x) : NatV w.drew v x := h.ext (Ext.refl w).drew

abbrev zero6 : Array Value := #[.int .u64 0, .bool false, .int .i8 0, .bool false, .slice none 0 0, .slice none 0 0]

set_option maxHeartbeats 1000000 in
theorem xheard_any (w : World) (x y : Nat) (hx : x < 4294967296) (hy : y < 4294967296) :
    Calls Oaig.prog 87 #[.agg #[.int .u8 8, .int .u8 23], .int .u64 x, .int .u64 y] w fun e w' => ∃ fl : Int, e = .returned (.int .u8 fl) ∧ Ext w w' := by
  go_enter Oaig.func87, Oaig.ntmps87
  go_wp2_with fail
  refine (signals_any _ x hx).mono ?_
  rintro e w1 ⟨b, rfl, hext1⟩
  have hF : Blk w1 w.heap.size #[.int .u8 8, .int .u8 23] := (Blk.new w _ 25).ext hext1
  have a0 := hF.cell (i := 0) rfl
  have a1 := hF.cell (i := 1) rfl
  cases b
  · go_wp2_with fail
    refine (signals_any _ y hy).mono ?_
    rintro e w2 ⟨b, rfl, hext2⟩
    cases b
    · go_wp2
      go_ret
      exact ⟨_, rfl, hext1.of_alloc.trans hext2⟩
    · go_wp2
      go_ret
      exact ⟨_, rfl, hext1.of_alloc.trans hext2⟩
  · go_wp2
    go_ret
    exact ⟨_, rfl, hext1.of_alloc⟩

end Go.Proofs.Ygcoai
