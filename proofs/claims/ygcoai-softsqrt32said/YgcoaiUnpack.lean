/-
  Seat gcoai. ieee.subnormal (117), ieee.Unpack (77), ieee.Signals (119) at Binary32.
-/
import Derived.Test.YgcoaiIeee
import Derived.Test.YgcoaiBlk
import Derived.Test.YgcoaiClz
namespace Go.Proofs.Ygcoai
open Go.RowKit

/-! ### the fields of a pattern -/
def uF (x : Nat) : Nat := x % 8388608
def uE (x : Nat) : Nat := x / 8388608 % 256
def uS (x : Nat) : Bool := decide (x / 2147483648 % 2 = 1)

theorem andF {x : Nat} (hx : x < 4294967296) : bits BinOp.and IntKind.u64 (x : Int) 8388607 = ((uF x : Nat) : Int) := by
  rw [show (8388607 : Int) = ((8388607 : Nat) : Int) from rfl, u64_and_nat _ _ (by omega) (by decide), nat_mask23]; rfl
theorem andE {x : Nat} (hx : x < 4294967296) : bits BinOp.and IntKind.u64 ((x : Int) / 8388608) 255 = ((uE x : Nat) : Int) := by
  have e : ((x : Int) / 8388608) = ((x / 8388608 : Nat) : Int) := by omega
  rw [e, show (255 : Int) = ((255 : Nat) : Int) from rfl, u64_and_nat _ _ (by omega) (by decide), nat_mask8]; rfl
theorem andS {x : Nat} (hx : x < 4294967296) : (bits BinOp.and IntKind.u64 (x : Int) 2147483648 != 0) = uS x := by
  rw [show (2147483648 : Int) = ((2147483648 : Nat) : Int) from rfl, u64_and_nat _ _ (by omega) (by decide), show (2147483648 : Nat) = 2 ^ 31 from by decide, nat_bit]
  unfold uS
  rw [show x / 2147483648 = x / 2 ^ 31 from by rw [show (2 : Nat) ^ 31 = 2147483648 from by decide]]
  have h : x / 2 ^ 31 % 2 = 0 ∨ x / 2 ^ 31 % 2 = 1 := by omega
  rcases h with h | h <;> rw [h] <;> rfl

/-- A block of four cells that was laid, seen later. -/
theorem blk4 {w w' : World} {a b c d : Value} {t : TypeId} (h : Ext (w.alloc (.cells #[a, b, c, d] t)) w') :
    w'.cell? ⟨w.heap.size, 0, none⟩ = some a ∧ w'.cell? ⟨w.heap.size, 1, none⟩ = some b ∧ w'.cell? ⟨w.heap.size, 2, none⟩ = some c ∧ w'.cell? ⟨w.heap.size, 3, none⟩ = some d ∧ (∀ i, w'.frozen? ⟨w.heap.size, i, none⟩ = false) :=
  ⟨h.cell (World.cell?_alloc_at _ _ _ _ rfl), h.cell (World.cell?_alloc_at _ _ _ _ rfl), h.cell (World.cell?_alloc_at _ _ _ _ rfl), h.cell (World.cell?_alloc_at _ _ _ _ rfl), fun i => by rw [h.froz]; exact World.frozen?_alloc_at _ _ _ _ rfl⟩

set_option maxHeartbeats 1000000 in
theorem unpack_nan (w : World) (x : Nat) (hx : x < 4294967296) (h1 : uE x = 255) (h2 : uF x ≠ 0) :
    Calls Oaig.prog 77 #[.agg #[.int .u8 8, .int .u8 23], .int .u64 x] w fun e w' => e = .returned (.agg #[.bool false, .int .i8 4, .int .i16 0, .int .u64 0]) ∧ Ext w w' := by
  have f1 := andF hx
  have f2 := andE hx
  have f3 := andS hx
  have g1 : ((uE x : Int) == 255) = true := by rw [h1]; rfl
  have g2 : ((uF x : Int) != 0) = true := by rw [bne_iff_ne]; omega
  clear h1 h2
  go_enter Oaig.func77, Oaig.ntmps77
  go_wp2_with fail
  refine (ok_any _).mono ?_
  rintro e w1 ⟨rfl, hext1⟩
  have hF : Blk w1 w.heap.size #[.int .u8 8, .int .u8 23] := ((Blk.new w _ 25).alloc _ 98).ext hext1
  have hR : Blk w1 (w.heap.size + 1) #[.bool false, .int .i8 0, .int .i16 0, .int .u64 0] := (Blk.new' _ 98 (by simp)).ext hext1
  have hw1 : Ext w w1 := hext1.of_alloc.of_alloc
  have a0 := hF.cell (i := 0) rfl
  have a1 := hF.cell (i := 1) rfl
  clear hext1
  go_wp2_with fail
  refine (signBit_any _).mono ?_
  rintro e w2 ⟨rfl, hext2⟩
  replace hF := hF.ext hext2
  replace hR := hR.ext hext2
  replace a0 := hF.cell (i := 0) rfl
  replace a1 := hF.cell (i := 1) rfl
  have r0 := hR.cell (i := 0) rfl
  have r1 := hR.cell (i := 1) rfl
  have r2 := hR.cell (i := 2) rfl
  have r3 := hR.cell (i := 3) rfl
  have rz := hR.fz
  have hw2 := hw1.trans hext2
  clear hext2 hw1
  go_wp2
  have hF4 := hR.set4 (a' := .bool false) (b' := .int .i8 4) (c' := .int .i16 0) (d' := .int .u64 0)
  exact bodyPost_ret (v := .agg #[.bool false, .int .i8 4, .int .i16 0, .int .u64 0]) (by simp [results, Oaig.results77, go_sem, hF4.cell (i := 0) rfl, hF4.cell (i := 1) rfl, hF4.cell (i := 2) rfl, hF4.cell (i := 3) rfl]) rfl ⟨rfl, hw2.set4 (by omega) _ _ _ _⟩

set_option maxHeartbeats 1000000 in
theorem unpack_inf (w : World) (x : Nat) (hx : x < 4294967296) (h1 : uE x = 255) (h2 : uF x = 0) :
    Calls Oaig.prog 77 #[.agg #[.int .u8 8, .int .u8 23], .int .u64 x] w fun e w' => e = .returned (.agg #[.bool (uS x), .int .i8 3, .int .i16 0, .int .u64 0]) ∧ Ext w w' := by
  have f1 := andF hx
  have f2 := andE hx
  have f3 := andS hx
  have g1 : ((uE x : Int) == 255) = true := by rw [h1]; rfl
  have g2 : ((uF x : Int) != 0) = false := by rw [h2]; rfl
  clear h1 h2
  go_enter Oaig.func77, Oaig.ntmps77
  go_wp2_with fail
  refine (ok_any _).mono ?_
  rintro e w1 ⟨rfl, hext1⟩
  have hF : Blk w1 w.heap.size #[.int .u8 8, .int .u8 23] := ((Blk.new w _ 25).alloc _ 98).ext hext1
  have hR : Blk w1 (w.heap.size + 1) #[.bool false, .int .i8 0, .int .i16 0, .int .u64 0] := (Blk.new' _ 98 (by simp)).ext hext1
  have hw1 : Ext w w1 := hext1.of_alloc.of_alloc
  have a0 := hF.cell (i := 0) rfl
  have a1 := hF.cell (i := 1) rfl
  clear hext1
  go_wp2_with fail
  refine (signBit_any _).mono ?_
  rintro e w2 ⟨rfl, hext2⟩
  replace hF := hF.ext hext2
  replace hR := hR.ext hext2
  replace a0 := hF.cell (i := 0) rfl
  replace a1 := hF.cell (i := 1) rfl
  have r0 := hR.cell (i := 0) rfl
  have r1 := hR.cell (i := 1) rfl
  have r2 := hR.cell (i := 2) rfl
  have r3 := hR.cell (i := 3) rfl
  have rz := hR.fz
  have hw2 := hw1.trans hext2
  clear hext2 hw1
  go_wp2
  have hF4 := hR.set4 (a' := .bool (uS x)) (b' := .int .i8 3) (c' := .int .i16 0) (d' := .int .u64 0)
  exact bodyPost_ret (v := .agg #[.bool (uS x), .int .i8 3, .int .i16 0, .int .u64 0]) (by simp [results, Oaig.results77, go_sem, hF4.cell (i := 0) rfl, hF4.cell (i := 1) rfl, hF4.cell (i := 2) rfl, hF4.cell (i := 3) rfl]) rfl ⟨rfl, hw2.set4 (by omega) _ _ _ _⟩

set_option maxHeartbeats 1000000 in
theorem unpack_zero (w : World) (x : Nat) (hx : x < 4294967296) (h1 : uE x = 0) (h2 : uF x = 0) :
    Calls Oaig.prog 77 #[.agg #[.int .u8 8, .int .u8 23], .int .u64 x] w fun e w' => e = .returned (.agg #[.bool (uS x), .int .i8 0, .int .i16 0, .int .u64 0]) ∧ Ext w w' := by
  have f1 := andF hx
  have f2 := andE hx
  have f3 := andS hx
  have g1 : ((uE x : Int) == 255) = false := by rw [h1]; rfl
  have g3 : ((uE x : Int) == 0) = true := by rw [h1]; rfl
  have g2 : ((uF x : Int) == 0) = true := by rw [h2]; rfl
  clear h1 h2
  go_enter Oaig.func77, Oaig.ntmps77
  go_wp2_with fail
  refine (ok_any _).mono ?_
  rintro e w1 ⟨rfl, hext1⟩
  have hF : Blk w1 w.heap.size #[.int .u8 8, .int .u8 23] := ((Blk.new w _ 25).alloc _ 98).ext hext1
  have hR : Blk w1 (w.heap.size + 1) #[.bool false, .int .i8 0, .int .i16 0, .int .u64 0] := (Blk.new' _ 98 (by simp)).ext hext1
  have hw1 : Ext w w1 := hext1.of_alloc.of_alloc
  have a0 := hF.cell (i := 0) rfl
  have a1 := hF.cell (i := 1) rfl
  clear hext1
  go_wp2_with fail
  refine (signBit_any _).mono ?_
  rintro e w2 ⟨rfl, hext2⟩
  replace hF := hF.ext hext2
  replace hR := hR.ext hext2
  replace a0 := hF.cell (i := 0) rfl
  replace a1 := hF.cell (i := 1) rfl
  have r0 := hR.cell (i := 0) rfl
  have r1 := hR.cell (i := 1) rfl
  have r2 := hR.cell (i := 2) rfl
  have r3 := hR.cell (i := 3) rfl
  have rz := hR.fz
  have hw2 := hw1.trans hext2
  clear hext2 hw1
  go_wp2
  have hF4 := hR.set4 (a' := .bool (uS x)) (b' := .int .i8 0) (c' := .int .i16 0) (d' := .int .u64 0)
  exact bodyPost_ret (v := .agg #[.bool (uS x), .int .i8 0, .int .i16 0, .int .u64 0]) (by simp [results, Oaig.results77, go_sem, hF4.cell (i := 0) rfl, hF4.cell (i := 1) rfl, hF4.cell (i := 2) rfl, hF4.cell (i := 3) rfl]) rfl ⟨rfl, hw2.set4 (by omega) _ _ _ _⟩

/-- How far a subnormal's fraction moves up. -/
def uUp (m : Nat) : Nat := 24 - bl m

theorem uUp_bd {m : Nat} (h0 : m ≠ 0) (hm : m < 8388608) : bl m ≤ 23 ∧ 1 ≤ bl m ∧ 1 ≤ uUp m ∧ uUp m ≤ 23 ∧ 8388608 ≤ m * 2 ^ uUp m ∧ m * 2 ^ uUp m < 16777216 := by
  have h1 := bl_lt m
  have h2 := bl_le h0
  have h3 := bl_pos h0
  have h4 : bl m ≤ 23 := bl_le_of_lt (k := 23) hm
  unfold uUp
  refine ⟨h4, h3, by omega, by omega, ?_, ?_⟩
  · have := Nat.mul_le_mul_right (2 ^ (24 - bl m)) h2
    rw [← Nat.pow_add, show bl m - 1 + (24 - bl m) = 23 from by omega] at this
    omega
  · have := Nat.mul_lt_mul_of_pos_right h1 (Nat.pow_pos (n := 24 - bl m) (show 0 < 2 by decide))
    rw [← Nat.pow_add, show bl m + (24 - bl m) = 24 from by omega] at this
    omega

theorem wrap_i16 (n : Int) : IntKind.i16.wrap n = (n + 32768) % 65536 - 32768 := by
  simp [IntKind.wrap, IntKind.bits, IntKind.signed]
  omega

set_option maxHeartbeats 1000000 in
theorem subnormal_any (w : World) (neg : Bool) (m : Nat) (h0 : m ≠ 0) (hm : m < 8388608) :
    Calls Oaig.prog 117 #[.agg #[.int .u8 8, .int .u8 23], .bool neg, .int .u64 m] w fun e w' => e = .returned (.agg #[.bool neg, .int .i8 1, .int .i16 (-149 - (uUp m : Int)), .int .u64 (m * 2 ^ uUp m : Nat)]) ∧ Ext w w' := by
  obtain ⟨t1, t2, t3, t4, t5, t6⟩ := uUp_bd h0 hm
  go_enter Oaig.func117, Oaig.ntmps117
  go_wp2_with fail
  obtain ⟨W, hW⟩ : ∃ W, W = (w.alloc (.cells #[.int .u8 8, .int .u8 23] 25)).alloc (.cells #[.bool false, .int .i8 0, .int .i16 0, .int .u64 0] 98) := ⟨_, rfl⟩
  have hF : Blk W w.heap.size #[.int .u8 8, .int .u8 23] := by rw [hW]; exact (Blk.new w _ 25).alloc _ 98
  have hR : Blk W (w.heap.size + 1) #[.bool false, .int .i8 0, .int .i16 0, .int .u64 0] := by rw [hW]; exact Blk.new' _ 98 (by simp)
  have hw : Ext w W := by rw [hW]; exact ((Ext.refl w).alloc _ _).alloc _ _
  rw [← hW]
  clear hW
  have a1 : ∀ w', Ext W w' → w'.cell? ⟨w.heap.size, 1, none⟩ = some (.int .u8 23) := fun w' h => (hF.ext h).cell rfl
  have k1 : IntKind.u8.wrap 24 = 24 := rfl
  have k2 : IntKind.u8.wrap (24 - (bl m : Int)) = (uUp m : Int) := by rw [IntKind.wrap_u8]; unfold uUp; omega
  go_region_held3 (fun w' => Ext W w') (first | assumption | exact (Ext.refl _).drew) (first | (go_at_call 159; refine (width_any _ m h0 (by omega)).mono ?_; rintro e w2 ⟨rfl, rfl⟩))
  go_wp2_with fail
  have hSt : St w w.heap.size (w.heap.size + 1) 4 #[.int .u8 8, .int .u8 23] W := ⟨hw, hF, _, hR, rfl⟩
  have b0 : ∀ w', St w w.heap.size (w.heap.size + 1) 4 #[.int .u8 8, .int .u8 23] w' → w'.cell? ⟨w.heap.size, 0, none⟩ = some (.int .u8 8) := fun w' h => h.f.cell rfl
  have b1 : ∀ w', St w w.heap.size (w.heap.size + 1) 4 #[.int .u8 8, .int .u8 23] w' → w'.cell? ⟨w.heap.size, 1, none⟩ = some (.int .u8 23) := fun w' h => h.f.cell rfl
  have d0 : ∀ w', St w w.heap.size (w.heap.size + 1) 4 #[.int .u8 8, .int .u8 23] w' → w'.cell? ⟨w.heap.size + 1, 0, none⟩ = some (cv w' (w.heap.size + 1) 0) := fun w' h => h.cellR (by decide)
  have d1 : ∀ w', St w w.heap.size (w.heap.size + 1) 4 #[.int .u8 8, .int .u8 23] w' → w'.cell? ⟨w.heap.size + 1, 1, none⟩ = some (cv w' (w.heap.size + 1) 1) := fun w' h => h.cellR (by decide)
  have d2 : ∀ w', St w w.heap.size (w.heap.size + 1) 4 #[.int .u8 8, .int .u8 23] w' → w'.cell? ⟨w.heap.size + 1, 2, none⟩ = some (cv w' (w.heap.size + 1) 2) := fun w' h => h.cellR (by decide)
  have d3 : ∀ w', St w w.heap.size (w.heap.size + 1) 4 #[.int .u8 8, .int .u8 23] w' → w'.cell? ⟨w.heap.size + 1, 3, none⟩ = some (cv w' (w.heap.size + 1) 3) := fun w' h => h.cellR (by decide)
  have dz : ∀ w', St w w.heap.size (w.heap.size + 1) 4 #[.int .u8 8, .int .u8 23] w' → ∀ i, w'.frozen? ⟨w.heap.size + 1, i, none⟩ = false := fun w' h i => h.fz i
  clear a1 hF hR
  go_region_held3 (fun w' => St w w.heap.size (w.heap.size + 1) 4 #[.int .u8 8, .int .u8 23] w') (first | assumption | exact hSt.drew.drew | exact (((St.set (by assumption) (by omega) (by omega) _ _).set (by omega) (by omega) _ _).set (by omega) (by omega) _ _).set (by omega) (by omega) _ _) (first | (go_at_call 118; refine (bias_any _).mono ?_; rintro e w3 ⟨rfl, hext3⟩; have hq3 : St w w.heap.size (w.heap.size + 1) 4 #[.int .u8 8, .int .u8 23] w3 := St.trans (by assumption) hext3))
  go_wp2
  have e1 : IntKind.i16.wrap (IntKind.i16.wrap (IntKind.i16.wrap (-126) - IntKind.i16.wrap 23) - IntKind.i16.wrap (uUp m : Int)) = -149 - (uUp m : Int) := by
    simp only [wrap_i16]; omega
  obtain ⟨M, hM⟩ : ∃ M : Nat, M = m * 2 ^ uUp m := ⟨_, rfl⟩
  obtain ⟨E, hE⟩ : ∃ E : Int, E = -149 - (uUp m : Int) := ⟨_, rfl⟩
  have e2 : IntKind.u64.wrap ((m : Int) * 2 ^ uUp m) = (M : Int) := by
    have e : ((m : Int) * 2 ^ uUp m) = ((m * 2 ^ uUp m : Nat) : Int) := by simp
    rw [e, IntKind.wrap_u64, hM]; omega
  rw [e1, e2, ← hM, ← hE]
  obtain ⟨_, _, cs, hb, hn⟩ := hq3
  have hF4 := hb.over4 hn (a' := .bool neg) (b' := .int .i8 1) (c' := .int .i16 E) (d' := .int .u64 (M : Int))
  exact bodyPost_ret (v := .agg #[.bool neg, .int .i8 1, .int .i16 E, .int .u64 (M : Int)]) (by simp [results, Oaig.results117, go_sem, hF4.cell (i := 0) rfl, hF4.cell (i := 1) rfl, hF4.cell (i := 2) rfl, hF4.cell (i := 3) rfl]) rfl ⟨rfl, Ext.set4 (by assumption) (by omega) _ _ _ _⟩

set_option maxHeartbeats 1000000 in
theorem unpack_sub (w : World) (x : Nat) (hx : x < 4294967296) (h1 : uE x = 0) (h2 : uF x ≠ 0) :
    Calls Oaig.prog 77 #[.agg #[.int .u8 8, .int .u8 23], .int .u64 x] w fun e w' => e = .returned (.agg #[.bool (uS x), .int .i8 1, .int .i16 (-149 - (uUp (uF x) : Int)), .int .u64 (uF x * 2 ^ uUp (uF x) : Nat)]) ∧ Ext w w' := by
  have f1 := andF hx
  have f2 := andE hx
  have f3 := andS hx
  have g1 : ((uE x : Int) == 255) = false := by rw [h1]; rfl
  have g3 : ((uE x : Int) == 0) = true := by rw [h1]; rfl
  have g2 : ((uF x : Int) == 0) = false := by rw [beq_eq_false_iff_ne]; omega
  have hlt : uF x < 8388608 := by unfold uF; omega
  clear h1
  go_enter Oaig.func77, Oaig.ntmps77
  go_wp2_with fail
  refine (ok_any _).mono ?_
  rintro e w1 ⟨rfl, hext1⟩
  have hF : Blk w1 w.heap.size #[.int .u8 8, .int .u8 23] := ((Blk.new w _ 25).alloc _ 98).ext hext1
  have hR : Blk w1 (w.heap.size + 1) #[.bool false, .int .i8 0, .int .i16 0, .int .u64 0] := (Blk.new' _ 98 (by simp)).ext hext1
  have hw1 : Ext w w1 := hext1.of_alloc.of_alloc
  have a0 := hF.cell (i := 0) rfl
  have a1 := hF.cell (i := 1) rfl
  clear hext1
  go_wp2_with fail
  refine (signBit_any _).mono ?_
  rintro e w2 ⟨rfl, hext2⟩
  replace hF := hF.ext hext2
  replace hR := hR.ext hext2
  replace a0 := hF.cell (i := 0) rfl
  replace a1 := hF.cell (i := 1) rfl
  have r0 := hR.cell (i := 0) rfl
  have r1 := hR.cell (i := 1) rfl
  have r2 := hR.cell (i := 2) rfl
  have r3 := hR.cell (i := 3) rfl
  have rz := hR.fz
  have hw2 := hw1.trans hext2
  clear hext2 hw1
  go_wp2_with fail
  refine (subnormal_any _ (uS x) (uF x) h2 hlt).mono ?_
  rintro e w3 ⟨rfl, hext3⟩
  replace hR := hR.ext hext3
  replace r0 := hR.cell (i := 0) rfl
  replace r1 := hR.cell (i := 1) rfl
  replace r2 := hR.cell (i := 2) rfl
  replace r3 := hR.cell (i := 3) rfl
  replace rz := hR.fz
  replace hw2 := hw2.trans hext3
  obtain ⟨M, hM⟩ : ∃ M : Nat, M = uF x * 2 ^ uUp (uF x) := ⟨_, rfl⟩
  obtain ⟨E, hE⟩ : ∃ E : Int, E = -149 - (uUp (uF x) : Int) := ⟨_, rfl⟩
  rw [← hM, ← hE]
  have HM : Hid _ := hM
  have HE : Hid _ := hE
  clear hM hE
  go_wp2
  have hF4 := hR.set4 (a' := .bool (uS x)) (b' := .int .i8 1) (c' := .int .i16 E) (d' := .int .u64 (M : Int))
  exact bodyPost_ret (v := .agg #[.bool (uS x), .int .i8 1, .int .i16 E, .int .u64 (M : Int)]) (by simp [results, Oaig.results77, go_sem, hF4.cell (i := 0) rfl, hF4.cell (i := 1) rfl, hF4.cell (i := 2) rfl, hF4.cell (i := 3) rfl]) rfl ⟨by rw [HE.out, HM.out], hw2.set4 (by omega) _ _ _ _⟩

set_option maxHeartbeats 1000000 in
theorem unpack_norm (w : World) (x : Nat) (hx : x < 4294967296) (h1 : uE x ≠ 0) (h2 : uE x ≠ 255) :
    Calls Oaig.prog 77 #[.agg #[.int .u8 8, .int .u8 23], .int .u64 x] w fun e w' => e = .returned (.agg #[.bool (uS x), .int .i8 2, .int .i16 ((uE x : Int) - 150), .int .u64 (uF x + 8388608 : Nat)]) ∧ Ext w w' := by
  have f1 := andF hx
  have f2 := andE hx
  have f3 := andS hx
  have g1 : ((uE x : Int) == 255) = false := by rw [beq_eq_false_iff_ne]; omega
  have g3 : ((uE x : Int) == 0) = false := by rw [beq_eq_false_iff_ne]; omega
  have hlt : uF x < 8388608 := by unfold uF; omega
  have hle : uE x < 256 := by unfold uE; omega
  clear h1 h2
  go_enter Oaig.func77, Oaig.ntmps77
  go_wp2_with fail
  refine (ok_any _).mono ?_
  rintro e w1 ⟨rfl, hext1⟩
  have hF : Blk w1 w.heap.size #[.int .u8 8, .int .u8 23] := ((Blk.new w _ 25).alloc _ 98).ext hext1
  have hR : Blk w1 (w.heap.size + 1) #[.bool false, .int .i8 0, .int .i16 0, .int .u64 0] := (Blk.new' _ 98 (by simp)).ext hext1
  have hw1 : Ext w w1 := hext1.of_alloc.of_alloc
  have a0 := hF.cell (i := 0) rfl
  have a1 := hF.cell (i := 1) rfl
  clear hext1
  go_wp2_with fail
  refine (signBit_any _).mono ?_
  rintro e w2 ⟨rfl, hext2⟩
  replace hF := hF.ext hext2
  replace hR := hR.ext hext2
  replace a0 := hF.cell (i := 0) rfl
  replace a1 := hF.cell (i := 1) rfl
  have r0 := hR.cell (i := 0) rfl
  have r1 := hR.cell (i := 1) rfl
  have r2 := hR.cell (i := 2) rfl
  have r3 := hR.cell (i := 3) rfl
  have rz := hR.fz
  have hw2 := hw1.trans hext2
  clear hext2 hw1
  go_wp2_with fail
  have hSt : St w w.heap.size (w.heap.size + 1) 4 #[.int .u8 8, .int .u8 23] w2 := ⟨hw2, hF, _, hR, rfl⟩
  have b0 : ∀ w', St w w.heap.size (w.heap.size + 1) 4 #[.int .u8 8, .int .u8 23] w' → w'.cell? ⟨w.heap.size, 0, none⟩ = some (.int .u8 8) := fun w' h => h.f.cell rfl
  have b1 : ∀ w', St w w.heap.size (w.heap.size + 1) 4 #[.int .u8 8, .int .u8 23] w' → w'.cell? ⟨w.heap.size, 1, none⟩ = some (.int .u8 23) := fun w' h => h.f.cell rfl
  have d0 : ∀ w', St w w.heap.size (w.heap.size + 1) 4 #[.int .u8 8, .int .u8 23] w' → w'.cell? ⟨w.heap.size + 1, 0, none⟩ = some (cv w' (w.heap.size + 1) 0) := fun w' h => h.cellR (by decide)
  have d1 : ∀ w', St w w.heap.size (w.heap.size + 1) 4 #[.int .u8 8, .int .u8 23] w' → w'.cell? ⟨w.heap.size + 1, 1, none⟩ = some (cv w' (w.heap.size + 1) 1) := fun w' h => h.cellR (by decide)
  have d2 : ∀ w', St w w.heap.size (w.heap.size + 1) 4 #[.int .u8 8, .int .u8 23] w' → w'.cell? ⟨w.heap.size + 1, 2, none⟩ = some (cv w' (w.heap.size + 1) 2) := fun w' h => h.cellR (by decide)
  have d3 : ∀ w', St w w.heap.size (w.heap.size + 1) 4 #[.int .u8 8, .int .u8 23] w' → w'.cell? ⟨w.heap.size + 1, 3, none⟩ = some (cv w' (w.heap.size + 1) 3) := fun w' h => h.cellR (by decide)
  have dz : ∀ w', St w w.heap.size (w.heap.size + 1) 4 #[.int .u8 8, .int .u8 23] w' → ∀ i, w'.frozen? ⟨w.heap.size + 1, i, none⟩ = false := fun w' h i => h.fz i
  clear a0 a1 r0 r1 r2 r3 rz hF hR
  go_region_held3 (fun w' => St w w.heap.size (w.heap.size + 1) 4 #[.int .u8 8, .int .u8 23] w') (first | assumption | exact hSt.drew | exact (((St.set (by assumption) (by omega) (by omega) _ _).set (by omega) (by omega) _ _).set (by omega) (by omega) _ _).set (by omega) (by omega) _ _) (first | (go_at_call 118; refine (bias_any _).mono ?_; rintro e w3 ⟨rfl, hext3⟩; have hq3 : St w w.heap.size (w.heap.size + 1) 4 #[.int .u8 8, .int .u8 23] w3 := St.trans (by assumption) hext3))
  go_wp2
  obtain ⟨M, hM⟩ : ∃ M : Nat, M = uF x + 8388608 := ⟨_, rfl⟩
  obtain ⟨E, hE⟩ : ∃ E : Int, E = (uE x : Int) - 150 := ⟨_, rfl⟩
  have e1 : IntKind.i16.wrap (IntKind.i16.wrap (IntKind.i16.wrap (uE x : Int) - 127) - IntKind.i16.wrap 23) = E := by
    simp only [wrap_i16]; omega
  have e2 : bits BinOp.or IntKind.u64 (uF x : Int) (IntKind.u64.wrap 8388608) = (M : Int) := by
    rw [show IntKind.u64.wrap 8388608 = ((8388608 : Nat) : Int) from rfl, u64_or_nat _ _ (by omega) (by decide), Nat.or_comm, nat_join 23 _ _ (by decide) (by omega), hM, Nat.add_comm]
  rw [e1, e2, ← hM, ← hE]
  obtain ⟨_, _, cs, hb, hn⟩ := hq3
  have hF4 := hb.over4 hn (a' := .bool (uS x)) (b' := .int .i8 2) (c' := .int .i16 E) (d' := .int .u64 (M : Int))
  exact bodyPost_ret (v := .agg #[.bool (uS x), .int .i8 2, .int .i16 E, .int .u64 (M : Int)]) (by simp [results, Oaig.results77, go_sem, hF4.cell (i := 0) rfl, hF4.cell (i := 1) rfl, hF4.cell (i := 2) rfl, hF4.cell (i := 3) rfl]) rfl ⟨rfl, Ext.set4 (by assumption) (by omega) _ _ _ _⟩

/-! ### Unpack, in one statement -/

/-- The class: 0 zero, 1 subnormal, 2 normal, 3 infinite, 4 NaN. -/
def pC (x : Nat) : Int := if uE x = 255 then (if uF x = 0 then 3 else 4) else if uE x = 0 then (if uF x = 0 then 0 else 1) else 2
def pN (x : Nat) : Bool := if pC x = 4 then false else uS x
def pX (x : Nat) : Int := if pC x = 2 then (uE x : Int) - 150 else if pC x = 1 then -149 - (uUp (uF x) : Int) else 0
def pM (x : Nat) : Nat := if pC x = 2 then uF x + 8388608 else if pC x = 1 then uF x * 2 ^ uUp (uF x) else 0

theorem unpack_any (w : World) (x : Nat) (hx : x < 4294967296) :
    Calls Oaig.prog 77 #[.agg #[.int .u8 8, .int .u8 23], .int .u64 x] w fun e w' => e = .returned (.agg #[.bool (pN x), .int .i8 (pC x), .int .i16 (pX x), .int .u64 (pM x : Nat)]) ∧ Ext w w' := by
  by_cases h1 : uE x = 255
  · by_cases h2 : uF x = 0
    · have hc : pC x = 3 := by unfold pC; rw [if_pos h1, if_pos h2]
      have e1 : pN x = uS x := by unfold pN; rw [hc]; rfl
      have e2 : pX x = 0 := by unfold pX; rw [hc]; rfl
      have e3 : pM x = 0 := by unfold pM; rw [hc]; rfl
      rw [hc, e1, e2, e3]
      exact unpack_inf w x hx h1 h2
    · have hc : pC x = 4 := by unfold pC; rw [if_pos h1, if_neg h2]
      have e1 : pN x = false := by unfold pN; rw [hc]; rfl
      have e2 : pX x = 0 := by unfold pX; rw [hc]; rfl
      have e3 : pM x = 0 := by unfold pM; rw [hc]; rfl
      rw [hc, e1, e2, e3]
      exact unpack_nan w x hx h1 h2
  · by_cases h0 : uE x = 0
    · by_cases h2 : uF x = 0
      · have hc : pC x = 0 := by unfold pC; rw [if_neg h1, if_pos h0, if_pos h2]
        have e1 : pN x = uS x := by unfold pN; rw [hc]; rfl
        have e2 : pX x = 0 := by unfold pX; rw [hc]; rfl
        have e3 : pM x = 0 := by unfold pM; rw [hc]; rfl
        rw [hc, e1, e2, e3]
        exact unpack_zero w x hx h0 h2
      · have hc : pC x = 1 := by unfold pC; rw [if_neg h1, if_pos h0, if_neg h2]
        have e1 : pN x = uS x := by unfold pN; rw [hc]; rfl
        have e2 : pX x = -149 - (uUp (uF x) : Int) := by unfold pX; rw [hc]; rfl
        have e3 : pM x = uF x * 2 ^ uUp (uF x) := by unfold pM; rw [hc]; rfl
        rw [hc, e1, e2, e3]
        exact unpack_sub w x hx h0 h2
    · have hc : pC x = 2 := by unfold pC; rw [if_neg h1, if_neg h0]
      have e1 : pN x = uS x := by unfold pN; rw [hc]; rfl
      have e2 : pX x = (uE x : Int) - 150 := by unfold pX; rw [hc]; rfl
      have e3 : pM x = uF x + 8388608 := by unfold pM; rw [hc]; rfl
      rw [hc, e1, e2, e3]
      exact unpack_norm w x hx h0 h1

/-- What is known of a pattern's parts. -/
theorem parts_cases (x : Nat) : pC x = 0 ∨ pC x = 1 ∨ pC x = 2 ∨ pC x = 3 ∨ pC x = 4 := by
  unfold pC
  by_cases h1 : uE x = 255
  · rw [if_pos h1]
    by_cases h2 : uF x = 0
    · rw [if_pos h2]; simp
    · rw [if_neg h2]; simp
  · rw [if_neg h1]
    by_cases h0 : uE x = 0
    · rw [if_pos h0]
      by_cases h2 : uF x = 0
      · rw [if_pos h2]; simp
      · rw [if_neg h2]; simp
    · rw [if_neg h0]; simp
theorem parts_fin {x : Nat} (h : pC x = 1 ∨ pC x = 2) : 8388608 ≤ pM x ∧ pM x < 16777216 ∧ -172 ≤ pX x ∧ pX x ≤ 104 ∧ pN x = uS x := by
  have hl : uF x < 8388608 := by unfold uF; omega
  rcases h with h | h
  · have hne : uF x ≠ 0 := by
      intro h0; unfold pC at h; rw [if_pos h0, if_pos h0] at h; split at h
      · omega
      · split at h <;> omega
    obtain ⟨_, _, t3, t4, t5, t6⟩ := uUp_bd hne hl
    have e1 : pN x = uS x := by unfold pN; rw [h]; rfl
    have e2 : pX x = -149 - (uUp (uF x) : Int) := by unfold pX; rw [h]; rfl
    have e3 : pM x = uF x * 2 ^ uUp (uF x) := by unfold pM; rw [h]; rfl
    rw [e1, e2, e3]
    exact ⟨t5, t6, by omega, by omega, rfl⟩
  · have e1 : pN x = uS x := by unfold pN; rw [h]; rfl
    have e2 : pX x = (uE x : Int) - 150 := by unfold pX; rw [h]; rfl
    have e3 : pM x = uF x + 8388608 := by unfold pM; rw [h]; rfl
    have hE : uE x < 255 ∧ 0 < uE x := by
      unfold pC at h
      have : uE x < 256 := by unfold uE; omega
      split at h
      · split at h <;> omega
      · split at h
        · split at h <;> omega
        · omega
    rw [e1, e2, e3]
    exact ⟨by omega, by omega, by omega, by omega, rfl⟩
theorem parts_zero {x : Nat} (h : pC x = 0 ∨ pC x = 3 ∨ pC x = 4) : pM x = 0 ∧ pX x = 0 := by
  unfold pM pX
  rcases h with h | h | h <;> rw [h] <;> exact ⟨rfl, rfl⟩

#print axioms unpack_any
end Go.Proofs.Ygcoai
