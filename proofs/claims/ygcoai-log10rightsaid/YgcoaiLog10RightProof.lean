/-
  Rows.Log10RightSaid, proved: the frame by proof-skeleton.mjs, the walk by YgcoaiLog10Walk.
-/
import Derived.Test.YgcoaiRows
import Derived.Test.YgcoaiLog10Walk
import Derived.WalkKit
import Derived.ProofKit
import Derived.OpenShut
import Derived.ShutString
namespace Go.Proofs.Ygcoai.log10Right
open Go.ChangeShapes Go.WideShapes Go.ChangeAt Go.RowKit
open Go.ChangeMaps (open_string shut_string)
set_option linter.unusedVariables false      -- a walk need not use every 'w<i>' (that an integer argument fits its kind)

theorem own : ownKnob Oaig.prog.godebug = none := by kernel_rfl

/-! ### STEP 1: THE WALK: the Go text returns true. 'Grown w w'': the world has at most new blocks (Derived/RowKit3.lean). Part the cases AHEAD of 'go_enter' where a test parts the walk; take each callee by a contract of your own. -/
theorem walk (a0 : Int) (w0 : (Lit.int .i16 a0).wf = true) (w : World) :
    Calls Oaig.prog 10 #[.int .i16 a0] w fun e w' => e = .returned (.bool true) ∧ Grown w w' := by
  exact (log10Right_any w a0).mono fun e w' ⟨he, hx⟩ => ⟨he, hx.grown⟩

/-! ### THE ROW's STEP: WRITTEN OUT: LEAVE IT -/
set_option maxRecDepth 100000 in
theorem lifted (os : Os) (started : os.Started) (H : Type) (enc : TypeId × Value → H) :
    ReturnsInHanded {} Oaig.checked os 10 .any (Rows.log10RightSpec.pre6 enc Oaig.prog Oaig.f10 Rows.log10RightRow.domain false) (Rows.log10RightSpec.post enc Oaig.prog Oaig.f10 false true false false) := by
  refine returnsInHanded_of_change (C := Oaig.checked) own started (by kernel_rfl) Oaig.func10
    (ChangeSpec.witness6 (enc := enc) (C := Oaig.checked) false ⟨#[], #[.int .i16 0], []⟩ 8 (by kernel_rfl) (by kernel_rfl) (by kernel_rfl) (by kernel_rfl)) ?_
  intro W base args ds gs before hval0 hW hcnd _
  have hval : ∀ (j : Nat) t v, Oaig.f10.params[j]? = some t → args[j]? = some v → Value.okWide Oaig.prog W .any base t v := hval0
  have hW' := hW
  obtain ⟨p, q, hA0, hV, rfl, hfz, hnd⟩ := hW
  have hA : DataW.TrodAll enc Oaig.prog W 0 (fun _ => true) true Oaig.f10.params.toList args.toList ds p := hA0
  rw [Oaig.params10] at hA hval
  obtain ⟨v0, vs0, d0, ds0, p0, q0, hargs, rfl, rfl, h0, r0⟩ := trodAll_cons hA
  obtain ⟨rfl, rfl, rfl⟩ := trodAll_nil r0
  obtain rfl : args = #[v0] := by cases args; simp_all
  obtain ⟨rfl, rfl⟩ := trodVars_none hV
  obtain ⟨a0, rfl, rfl, rfl, w0⟩ := open_int Oaig.underlying35 (hval 0 35 v0 rfl rfl) h0
  clear hA0 hval0
  simp only [List.append_nil] at hW'
  refine (walk a0 w0 W).mono fun e W' ⟨he, hg⟩ => ?_
  subst he
  exact ⟨_, rfl, post_of_same (pa := []) (pv := []) hW' (fun _ _ _ => (trodAll_cons_mk (shut_bool Oaig.underlying4 _) trodAll_mk0)) (fun sp _ => (trodAll_cons_mk (shut_int Oaig.underlying35 w0) trodAll_mk0)) (fun _ _ => rfl) rfl
    (hg.frame _) hg.2.1 (ok_one (by kernel_rfl) rfl (okWide_bool_mk Oaig.underlying4 _))⟩

theorem over : Rows.log10RightRow.holds Oaig.pinned (OpenSpec.ofChange Rows.log10RightSpec) :=
  OpenClaim.holds_of_wide 10 Oaig.f10 rfl rfl rfl rfl rfl rfl rfl ⟨rfl, rfl, rfl, rfl, rfl⟩ rfl rfl rfl rfl rfl (by kernel_rfl) Oaig.func10 (by kernel_rfl)
    (of_decide_eq_true (by kernel_rfl)) (by unfold Func.isWrapper; first | (rw [if_pos (by decide +kernel)]; kernel_rfl) | (rw [if_neg (by decide +kernel)]; exact ⟨rfl, rfl⟩))
    (fun os started H enc _ => lifted os started H enc)

/-- ████ THE STATEMENT ████ -/
theorem proved : Rows.Log10RightSaid :=
  over
#print axioms proved
end Go.Proofs.Ygcoai.log10Right
