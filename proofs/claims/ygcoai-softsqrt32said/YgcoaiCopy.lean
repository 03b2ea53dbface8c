/-
  Seat gcoai. The builtin copy into a row of limbs that the call has made; nat.Take (105), nat.Succ (132).
-/
import Derived.Test.YgcoaiLift
import Derived.Laws.CopyOwn
namespace Go.Proofs.Ygcoai
open Go.RowKit

theorem size22 : (Oaig.prog.info? 22).map (·.size) = some 1 := by kernel_rfl

theorem froz_setRow (w : World) (g : Nat) (cs : Array Value) (a : Addr) : (w.setRow g cs).frozen? a = w.frozen? a := by
  unfold World.setRow World.frozen?
  dsimp only
  rw [Array.getElem?_modify]
  by_cases h : g = a.block
  · rw [if_pos h]
    cases hx : w.heap[a.block]? with
    | none => simp
    | some o => cases o <;> simp
  · rw [if_neg h]

theorem Ext.setRow {w w' : World} (h : Ext w w') {g : Nat} (hg : w.heap.size ≤ g) (cs : Array Value) : Ext w (w'.setRow g cs) :=
  ⟨below_setRow h.below hg cs, fun a => (froz_setRow _ _ _ _).trans (h.froz a)⟩

theorem copy_run {w : World} {B n : Nat} {r : Nat → Nat} (hrow : Row w B n r) (ao : Option Addr) (m d c : Nat) (f : Nat → Nat) (ty : TypeId) (hmn : m ≤ n)
    (hsrc : m ≠ 0 → ∃ b o, ao = some ⟨b, o, none⟩ ∧ ∀ i, i < m → w.cell? ⟨b, o + i, none⟩ = some (.int .u32 (f i : Nat))) :
    ∃ w', (Builtin.copy_ #[38, 38] ty #[.slice (some ⟨B, 0, none⟩) n c, .slice ao m d]).run Oaig.prog w = .ok (goInt m) w' ∧ Row w' B n (fun i => if i < m then f i else r i) ∧ ∀ w0, Ext w0 w → w0.heap.size ≤ B → Ext w0 w' := by
  rcases Nat.eq_zero_or_pos m with h0 | h0
  · subst h0
    refine ⟨w, run_copy_none w 38 38 ty 22 _ _ _ _ _ _ Oaig.underlying38 size22 (by simp), ?_, fun w0 h _ => h⟩
    exact hrow.congr (fun i _ => by simp)
  · obtain ⟨b, o, rfl, hcell⟩ := hsrc (by omega)
    obtain ⟨cur, hb, hn, hc⟩ := hrow
    have hlen : ((List.range m).map (fun i => Value.int .u32 (f i : Nat))).length = m := by simp
    refine ⟨w.setRow B (cur.toList.take 0 ++ (List.range m).map (fun i => Value.int .u32 (f i : Nat)) ++ cur.toList.drop (0 + m)).toArray, ?_, ⟨(cur.toList.take 0 ++ (List.range m).map (fun i => Value.int .u32 (f i : Nat)) ++ cur.toList.drop (0 + m)).toArray, ?_, ?_, ?_⟩, fun w0 h hB => h.setRow hB _⟩
    · have := run_copy_row (P := Oaig.prog) w 38 38 ty 22 B 0 n c ⟨b, o, none⟩ m d cur 22 ((List.range m).map (fun i => Value.int .u32 (f i : Nat))) Oaig.underlying38 size22 hb (by rw [hlen]; exact (Nat.min_eq_left hmn).symm) (by
          intro j v hj
          simp only [List.getElem?_map, Option.map_eq_some_iff] at hj
          obtain ⟨k, hk, rfl⟩ := hj
          have hjm : j < m := by
            rcases Nat.lt_or_ge j m with h | h
            · exact h
            · rw [List.getElem?_eq_none (by simpa using h)] at hk; cases hk
          rw [List.getElem?_range hjm] at hk
          obtain rfl : j = k := by simpa using hk
          have := hcell j hjm
          by_cases hj0 : j = 0
          · subst hj0; simpa [Addr.add] using this
          · simpa [Addr.add, hj0] using this) (by rw [hlen]; omega) (by intro v hv; simp only [List.mem_map] at hv; obtain ⟨k, _, rfl⟩ := hv; rfl)
      rw [hlen] at this
      exact this
    · unfold World.setRow
      dsimp only
      rw [Array.getElem?_modify, if_pos rfl, hb]
      rfl
    · simp; omega
    · intro i hi
      have hc' := hc i hi
      simp only [List.take_zero, List.nil_append, Nat.zero_add, List.getElem?_toArray]
      by_cases him : i < m
      · rw [List.getElem?_append_left (by simpa using him), List.getElem?_map, List.getElem?_range him]
        simp [him]
      · rw [List.getElem?_append_right (by simpa using him), hlen, List.getElem?_drop, show m + (i - m) = i from by omega]
        simp [him, hc']

/-- Two rows that say the same. -/
theorem Row.congr {w : World} {B n : Nat} {r s : Nat → Nat} (h : Row w B n r) (e : ∀ i, i < n → r i = s i) : Row w B n s :=
  World.rowIs.congr h (fun i hi => by rw [e i hi])

set_option maxHeartbeats 400000 in
theorem take_any {w : World} {v : Value} {n : Nat} {f : Nat → Nat} (h : Limbs w v n f) (hn : n ≤ 1000000) :
    Calls Oaig.prog 105 #[v] w fun e w' => ∃ v', e = .returned v' ∧ Ext w w' ∧ NatV w' v' (vf f n) := by
  have q38 := eqnil38
  go_enter Oaig.func105, Oaig.ntmps105
  go_wp2_with fail
  refine (trim_any h hn).mono ?_
  rintro e w' ⟨v', rfl, rfl, ⟨hf, ao, c, rfl, hc, hcell⟩, hnil⟩
  have hle := tl_le f n
  rcases Nat.eq_zero_or_pos (tl f n) with h0 | h0
  · have := hnil h0
    rw [this]
    go_wp2
    go_ret
    exact ⟨_, rfl, Ext.refl _, by rw [← vf_tl, h0]; exact natV_nil _⟩
  · obtain ⟨b, o, rfl, hcell'⟩ := hcell (by omega)
    have hmk := fun w => run_mk (tl f n) (tl f n : Int) rfl (by omega) w
    obtain ⟨w2, hrun, hrow2, hext2⟩ := copy_run (row_made w' (tl f n)) (some ⟨b, o, none⟩) (tl f n) c (tl f n) f 3 (Nat.le_refl _) (fun _ => ⟨b, o, rfl, fun i hi => ((Ext.refl w').alloc _ _).cell (hcell' i hi)⟩)
    go_wp2
    go_ret
    have hrow3 := hrow2.congr (s := f) (fun i hi => by rw [if_pos hi])
    refine ⟨_, rfl, hext2 w' ((Ext.refl w').alloc _ _) (Nat.le_refl _), ?_⟩
    exact ⟨tl f n, f, hrow3.limbs hf, fun h => tl_top h, fun h => by omega, vf_tl f n⟩

/-- nat.Take of a number. -/
theorem take_natV {w : World} {v : Value} {x L : Nat} (h : NatV w v x) (hx : Lt32 x L) (hL : L ≤ 1000000) :
    Calls Oaig.prog 105 #[v] w fun e w' => ∃ v', e = .returned v' ∧ Ext w w' ∧ NatV w' v' x := by
  obtain ⟨n, f, hl, hn, _, rfl⟩ := h
  have := norm_len hn hx
  exact take_any hl (by omega)

/-- One limb set in the middle. -/
theorem vf_upd_mid {r : Nat → Nat} {k x N : Nat} (hk : k < N) : vf (upd r k x) N + r k * 4294967296 ^ k = vf r N + x * 4294967296 ^ k := by
  induction N with
  | zero => omega
  | succ m ih =>
    rcases Nat.eq_or_lt_of_le (Nat.le_of_lt_succ hk) with h | h
    · subst h; rw [vf_upd, vf]; omega
    · have e : upd r k x m = r m := by unfold upd; rw [if_neg (by omega)]
      have := ih h
      rw [vf, vf, e]; omega

theorem succ_step {r : Nat → Nat} {k N S : Nat} (hk : k < N) (hv : vf r N + 4294967296 ^ k = S) (hr : r k = 4294967295) : vf (upd r k 0) N + 4294967296 ^ (k + 1) = S := by
  have := vf_upd_mid (r := r) (x := 0) hk
  rw [hr] at this
  rw [Nat.pow_succ]; omega
theorem succ_done {r : Nat → Nat} {k N S : Nat} (hk : k < N) (hv : vf r N + 4294967296 ^ k = S) : vf (upd r k (r k + 1)) N = S := by
  have := vf_upd_mid (r := r) (x := r k + 1) hk
  rw [Nat.add_mul] at this
  omega

set_option maxHeartbeats 400000 in
theorem succ_any {w : World} {a : Value} {x L : Nat} (ha : NatV w a x) (hx : Lt32 x L) (hL : L ≤ 100000) :
    Calls Oaig.prog 132 #[a] w fun e w' => ∃ v, e = .returned v ∧ Ext w w' ∧ NatV w' v (x + 1) := by
  have hA := ha
  obtain ⟨n, f, ⟨hf, ao, c, rfl, _, hca⟩, hn, _, rfl⟩ := ha
  have hnL := norm_len hn hx
  have hmk := fun w => run_mk (n + 1) ((n : Int) + 1) (by omega) (by omega) w
  obtain ⟨w2, hrun, hrow2, hext2⟩ := copy_run (row_made w (n + 1)) ao n c (n + 1) f 3 (by omega) (fun h => by
    obtain ⟨b, o, rfl, hc⟩ := hca h
    exact ⟨b, o, rfl, fun i hi => ((Ext.refl w).alloc _ _).cell (hc i hi)⟩)
  have hw2 := hext2 w ((Ext.refl w).alloc _ _) (Nat.le_refl _)
  obtain ⟨f0, hf0⟩ : ∃ f0 : Nat → Nat, f0 = fun i => if i < n then f i else 0 := ⟨_, rfl⟩
  rw [← hf0] at hrow2
  have hlim0 : ∀ j, j < n + 1 → f0 j < 4294967296 := fun j _ => by
    rw [hf0]; dsimp only; split
    · exact hf j (by assumption)
    · decide
  have hval : vf f0 (n + 1) = vf f n := by
    rw [vf, vf_congr (g := f) (fun i hi => by rw [hf0]; dsimp only; rw [if_pos hi]), hf0]
    simp
  clear hf0 hca
  go_enter Oaig.func132, Oaig.ntmps132
  go_wp2_with fail
  refine (trim_id hA hx (by omega)).mono ?_
  rintro e w' ⟨rfl, rfl⟩
  go_wp2_with fail
  go_loopw [16] (fun i wr => ∃ (k : Nat) (r : Nat → Nat), k ≤ n + 1 ∧ i = .int .i64 k ∧ Row wr w.heap.size (n + 1) r ∧ (∀ j, j < n + 1 → r j < 4294967296) ∧ vf r (n + 1) + 4294967296 ^ k = vf f n + 1 ∧ Ext w wr) (fun i _ => n + 1 - (intOf i).toNat)
  case atStart => exact ⟨0, f0, Nat.zero_le _, rfl, hrow2, hlim0, by rw [hval, Nat.pow_zero], hw2⟩
  case round =>
    obtain ⟨k, r, hk, rfl, hrow, hr, hv, hext⟩ := hrel
    by_cases hlt : k < n + 1
    · have hcr := hrow.cell (i := k) hlt
      have hfr := hrow.frozen k
      have hrk := hr k hlt
      by_cases hc : r k = 4294967295
      · have h1 : IntKind.u32.wrap ((r k : Int) + 1) = 0 := by rw [hc]; rfl
        have hst : Hid _ := succ_step hlt hv hc
        have hrow' : Row (wr.setCell ⟨w.heap.size, k, none⟩ (.int .u32 0)) w.heap.size (n + 1) (upd r k 0) := hrow.set k 0 _ rfl
        clear hv hc hrow2 hrun hmk
        go_wp2
        go_roundw
        case rel => exact ⟨k + 1, upd r k 0, by omega, by go_num, hrow', upd_lt hr (by decide), hst.out, hext.setCell (Nat.le_refl _) _⟩
        case measure => simp [intOf]; omega
      · have h1 : IntKind.u32.wrap ((r k : Int) + 1) = (r k : Int) + 1 := by rw [IntKind.wrap_u32]; omega
        have h2 : ((r k : Int) + 1 != 0) = true := by rw [bne_iff_ne]; omega
        have hdn : Hid _ := succ_done hlt hv
        have hrow' := hrow.set k (r k + 1) (.int .u32 ((r k : Int) + 1)) (by go_num)
        have hlim := hrow'.limbs (upd_lt hr (by omega))
        have hext' := hext.setCell (a := ⟨w.heap.size, k, none⟩) (Nat.le_refl _) (.int .u32 ((r k : Int) + 1))
        clear hv hc hrow2 hrun hmk hrow'
        go_wp2_with fail
        refine (trim_natV hlim (by omega)).mono ?_
        rintro e w3 ⟨v3, rfl, rfl, hres⟩
        go_wp2
        go_ret
        exact ⟨v3, rfl, hext', by rw [← hdn.out]; exact hres⟩
    · exfalso
      obtain rfl : k = n + 1 := by omega
      have h1 := vf_lt hf
      have h2 : 4294967296 ^ n < 4294967296 ^ (n + 1) := Nat.pow_lt_pow_right (by decide) (by omega)
      omega

#print axioms succ_any

end Go.Proofs.Ygcoai
