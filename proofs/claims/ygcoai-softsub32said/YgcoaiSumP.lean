/-
  Seat gcoai. Words for soft.sum (154).
-/
import Derived.Test.YgcoaiNumber
import Derived.Test.YgcoaiSoftMul
namespace Go.Proofs.Ygcoai
open Go.RowKit

/-- The sum of two signed numbers, the first the greater: its pattern. -/
def sumP (n1 n2 : Bool) (e1 : Int) (V1 V2 g : Nat) : Nat :=
  if n1 = n2 then rp (e1 - 64 + bl (V1 + jam2 V2 g)) (jamS (V1 + jam2 V2 g)) + sgn n1
  else if V1 = jam2 V2 g then 0
  else rp (e1 - 64 + bl (V1 - jam2 V2 g)) (jamS (V1 - jam2 V2 g)) + sgn n1

theorem orHL {T : Nat} (h0 : T ≠ 0) (hT : T < 340282366920938463463374607431768211456) : (bits BinOp.or IntKind.u64 ((T / 18446744073709551616 : Nat) : Int) ((T % 18446744073709551616 : Nat) : Int) == 0) = false := by
  rw [u64_or_nat _ _ (by omega) (by omega), beq_eq_false_iff_ne]
  have : T / 18446744073709551616 ≠ 0 ∨ T % 18446744073709551616 ≠ 0 := by omega
  rcases this with h | h
  · have := @Nat.left_le_or (T / 18446744073709551616) (T % 18446744073709551616); omega
  · have := @Nat.right_le_or (T / 18446744073709551616) (T % 18446744073709551616); omega

theorem Blk.setHL {w : World} {B : Nat} {a b c d c' d' : Value} (h : Blk w B #[a, b, c, d]) : Blk ((w.setCell ⟨B, 2, none⟩ c').setCell ⟨B, 3, none⟩ d') B #[a, b, c', d'] :=
  (h.set' 2 c' (ds := #[a, b, c', d]) rfl).set' 3 d' rfl
theorem Blk.otherHL {w : World} {B C : Nat} {cs : Array Value} {c' d' : Value} (h : Blk w B cs) (hne : B ≠ C) : Blk ((w.setCell ⟨C, 2, none⟩ c').setCell ⟨C, 3, none⟩ d') B cs :=
  (h.setOther hne c').setOther hne d'
theorem Ext.setHL {w w' : World} (h : Ext w w') {B : Nat} (hB : w.heap.size ≤ B) (c' d' : Value) : Ext w ((w'.setCell ⟨B, 2, none⟩ c').setCell ⟨B, 3, none⟩ d') := (h.setCell hB c').setCell hB d'

end Go.Proofs.Ygcoai
