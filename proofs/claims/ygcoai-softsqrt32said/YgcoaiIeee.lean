/-
  Seat gcoai. Package ieee at Binary32.
-/
import Derived.Test.YgcoaiFrac
import Derived.Deep.Cut
namespace Go.Proofs.Ygcoai
open Go.RowKit

theorem ok_any (w : World) : Calls Oaig.prog 23 #[.agg #[.int .u8 8, .int .u8 23]] w fun e w' => e = .returned (.bool true) ∧ Ext w w' := by
  go_enter Oaig.func23, Oaig.ntmps23
  go_wp2
  go_ret
  exact ⟨rfl, (Ext.refl w).alloc _ _⟩

theorem binary32_any (w : World) : Calls Oaig.prog 13 #[] w fun e w' => e = .returned (.agg #[.int .u8 8, .int .u8 23]) ∧ Ext w w' := by
  go_enter Oaig.func13, Oaig.ntmps13
  go_wp2
  exact bodyPost_ret (v := .agg #[.int .u8 8, .int .u8 23]) (by simp [results, Oaig.results13, go_sem]) rfl ⟨rfl, (Ext.refl w).alloc _ _⟩

/-- A block of two cells that was laid, seen later. -/
theorem blk2 {w w' : World} {a b : Value} {t : TypeId} (h : Ext (w.alloc (.cells #[a, b] t)) w') :
    w'.cell? ⟨w.heap.size, 0, none⟩ = some a ∧ w'.cell? ⟨w.heap.size, 1, none⟩ = some b :=
  ⟨h.cell (World.cell?_alloc_at _ _ _ _ rfl), h.cell (World.cell?_alloc_at _ _ _ _ rfl)⟩

theorem signBit_any (w : World) : Calls Oaig.prog 111 #[.agg #[.int .u8 8, .int .u8 23]] w fun e w' => e = .returned (.int .u64 2147483648) ∧ Ext w w' := by
  go_enter Oaig.func111, Oaig.ntmps111
  go_wp2_with fail
  refine (ok_any _).mono ?_
  rintro e w1 ⟨rfl, hext1⟩
  obtain ⟨c0, c1⟩ := blk2 hext1
  go_wp2
  go_ret
  exact ⟨rfl, hext1.of_alloc⟩

theorem mask_any (w : World) : Calls Oaig.prog 128 #[.agg #[.int .u8 8, .int .u8 23]] w fun e w' => e = .returned (.int .u64 4294967295) ∧ Ext w w' := by
  go_enter Oaig.func128, Oaig.ntmps128
  go_wp2_with fail
  refine (ok_any _).mono ?_
  rintro e w1 ⟨rfl, hext1⟩
  obtain ⟨c0, c1⟩ := blk2 hext1
  go_wp2_with fail
  refine (signBit_any _).mono ?_
  rintro e w2 ⟨rfl, hext2⟩
  go_wp2
  go_ret
  exact ⟨rfl, hext1.of_alloc.trans hext2⟩

theorem bias_any (w : World) : Calls Oaig.prog 118 #[.agg #[.int .u8 8, .int .u8 23]] w fun e w' => e = .returned (.int .i16 127) ∧ Ext w w' := by
  go_enter Oaig.func118, Oaig.ntmps118
  go_wp2_with fail
  refine (ok_any _).mono ?_
  rintro e w1 ⟨rfl, hext1⟩
  obtain ⟨c0, c1⟩ := blk2 hext1
  go_wp2
  go_ret
  exact ⟨rfl, hext1.of_alloc⟩

/-- The sign bit, or nothing. -/
def sgn (neg : Bool) : Nat := if neg then 2147483648 else 0

theorem signed_any (w : World) (neg : Bool) (x : Nat) (hx : x < 2147483648) : Calls Oaig.prog 120 #[.agg #[.int .u8 8, .int .u8 23], .bool neg, .int .u64 x] w fun e w' => e = .returned (.int .u64 (x + sgn neg : Nat)) ∧ Ext w w' := by
  cases neg
  · go_enter Oaig.func120, Oaig.ntmps120
    go_wp2
    go_ret
    exact ⟨rfl, (Ext.refl w).alloc _ _⟩
  · go_enter Oaig.func120, Oaig.ntmps120
    go_wp2_with fail
    refine (signBit_any _).mono ?_
    rintro e w1 ⟨rfl, hext1⟩
    go_wp2
    go_ret
    refine ⟨ret_int ?_, hext1.of_alloc⟩
    show bits BinOp.or IntKind.u64 (x : Int) 2147483648 = _
    rw [show (2147483648 : Int) = ((2147483648 : Nat) : Int) from rfl, u64_or_nat _ _ (by omega) (by decide), Nat.or_comm, nat_join 31 _ _ (by decide) (by omega), Nat.add_comm]
    rfl

theorem inf_any (w : World) (neg : Bool) : Calls Oaig.prog 81 #[.agg #[.int .u8 8, .int .u8 23], .bool neg] w fun e w' => e = .returned (.int .u64 (2139095040 + sgn neg : Nat)) ∧ Ext w w' := by
  go_enter Oaig.func81, Oaig.ntmps81
  go_wp2_with fail
  refine (ok_any _).mono ?_
  rintro e w1 ⟨rfl, hext1⟩
  obtain ⟨c0, c1⟩ := blk2 hext1
  go_wp2_with fail
  refine (signed_any _ neg 2139095040 (by decide)).mono ?_
  rintro e w2 ⟨rfl, hext2⟩
  go_wp2
  go_ret
  exact ⟨rfl, hext1.of_alloc.trans hext2⟩

set_option maxHeartbeats 400000 in
theorem theNaN_any (w : World) : Calls Oaig.prog 79 #[.agg #[.int .u8 8, .int .u8 23]] w fun e w' => e = .returned (.int .u64 2143289344) ∧ Ext w w' := by
  go_enter Oaig.func79, Oaig.ntmps79
  go_wp2_with fail
  refine (ok_any _).mono ?_
  rintro e w1 ⟨rfl, hext1⟩
  obtain ⟨c0, c1⟩ := blk2 hext1
  replace c0 := fun w' (h : Ext w1 w') => h.cell c0
  replace c1 := fun w' (h : Ext w1 w') => h.cell c1
  go_wp2_with fail
  go_region_held3 (fun w' => Ext w1 w') (first | assumption | exact (Ext.refl _).drew) (first | (go_at_call 81; refine (inf_any _ false).mono ?_; rintro e w2 ⟨rfl, hext2⟩; have hq2 : Ext w1 w2 := Ext.trans (by assumption) hext2))
  go_wp2
  go_ret
  exact ⟨ret_int (by decide +kernel), hext1.of_alloc.trans hq2⟩

end Go.Proofs.Ygcoai
