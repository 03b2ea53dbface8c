/-
  Seat gcoai. Two blocks made in one statement that draws its order: small laws and words.
-/
import Derived.Test.YgcoaiBlk
namespace Go.Proofs.Ygcoai
open Go.RowKit

theorem Blk.one {W w1 : World} {cs : Array Value} {t : TypeId} (h : Ext (W.alloc (.cells cs t)) w1) : Blk w1 W.heap.size cs := (Blk.new W cs t).ext h
theorem Blk.two1 {W w1 : World} {cs ds : Array Value} {t u : TypeId} (h : Ext ((W.alloc (.cells cs t)).alloc (.cells ds u)) w1) : Blk w1 W.heap.size cs := ((Blk.new W cs t).alloc ds u).ext h
theorem Blk.two2 {W w1 : World} {cs ds : Array Value} {t u : TypeId} (h : Ext ((W.alloc (.cells cs t)).alloc (.cells ds u)) w1) : Blk w1 (W.heap.size + 1) ds :=
  (Blk.new' (w := W.alloc (.cells cs t)) ds u (by simp)).ext h
theorem Ext.of_alloc2 {w w' : World} {c d : Array Value} {t u : TypeId} (h : Ext ((w.alloc (.cells c t)).alloc (.cells d u)) w') : Ext w w' := h.of_alloc.of_alloc

theorem Blk.setOther4 {w : World} {B C : Nat} {cs : Array Value} {a b c d : Value} (h : Blk w B cs) (hne : B ≠ C) :
    Blk ((((w.setCell ⟨C, 0, none⟩ a).setCell ⟨C, 1, none⟩ b).setCell ⟨C, 2, none⟩ c).setCell ⟨C, 3, none⟩ d) B cs :=
  (((h.setOther hne a).setOther hne b).setOther hne c).setOther hne d

end Go.Proofs.Ygcoai
