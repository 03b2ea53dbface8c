/-
  No cell of these rows narrows 'for every input' (looked for: loops, veiled, ifaces, maps, wideKeys, modest, calm, conditions, laid).
  DERIVED. THE GIVEN ROWS OF THIS SEAT. 9 by the template 'for every input the law returns true; each argument reads behind the call as it read before'; 0 by the template 'total and deterministic' (their statements: YgcoaiTotals.lean).
  GIVEN WITH THE SEED: the statements are not yours to turn. If you find one false, say at which input.
  Laid BY PROGRAM, IN A SANDBOX (cutbox-rows.mjs): the forced cells as the released guide's own fill.sh prints them over the translation d54f460e2d0ca5f5… (all of the seat's roots in one cut). By AI agents, Wed Nov 11 2026. No macro, syntax, notation, axiom, sorry.
-/
import Derived.Test.YgcoaiChecked
import GoSem.Claim
import GoSem.ClaimJoined
import GoSem.ClaimMapViews
import Derived.JoinedTies
import Derived.KernelRfl
namespace Go.Proofs.Ygcoai
/- THE CELL 'sum', in the pinned program and in every row, IS THE sha256 OF THE DUMP (.gsa) THAT YgcoaiProg.lean LOADS. Nothing in Lean hashes anything: it is a label: what it is worth is what the hold of that sum in a sandbox is worth. -/
noncomputable def Oaig.pinned : Pinned := { name := "ygcoai", sum := "d54f460e2d0ca5f5948dc939af6d66371cc650a1546666ae8ddafd73ead31673", checked := Oaig.checked }
namespace Rows
def none {H : Type} : Left H := { results := [], args := [] }

/-- 'law.SoftAdd32': WHATEVER THE INPUT: true; the input reads as it did. -/
def softAdd32Spec : ChangeSpec := { name := "softAdd32", fn := fun _ => fun
  | [d1, d2] => { results := [.lit (.bool true)], args := [d1, d2] }
  | _ => none }
def softAdd32Row : OpenClaim := { program := "ygcoai", sum := "d54f460e2d0ca5f5948dc939af6d66371cc650a1546666ae8ddafd73ead31673", func := "softfloat/law.SoftAdd32", spec := "softAdd32", apart := false }
def SoftAdd32Said : Prop := softAdd32Row.holds Oaig.pinned (OpenSpec.ofChange softAdd32Spec)

/-- ITS FALSE NEIGHBOUR: 'it returns false'. Refute it at one input. -/
def softAdd32Wrong : ChangeSpec := { name := "softAdd32", fn := fun _ => fun
  | [d1, d2] => { results := [.lit (.bool false)], args := [d1, d2] }
  | _ => none }
def SoftAdd32WrongFalsely : Prop := softAdd32Row.holds Oaig.pinned (OpenSpec.ofChange softAdd32Wrong)

/-- 'law.SoftSub32': WHATEVER THE INPUT: true; the input reads as it did. -/
def softSub32Spec : ChangeSpec := { name := "softSub32", fn := fun _ => fun
  | [d1, d2] => { results := [.lit (.bool true)], args := [d1, d2] }
  | _ => none }
def softSub32Row : OpenClaim := { program := "ygcoai", sum := "d54f460e2d0ca5f5948dc939af6d66371cc650a1546666ae8ddafd73ead31673", func := "softfloat/law.SoftSub32", spec := "softSub32", apart := false }
def SoftSub32Said : Prop := softSub32Row.holds Oaig.pinned (OpenSpec.ofChange softSub32Spec)

/-- ITS FALSE NEIGHBOUR: 'it returns false'. Refute it at one input. -/
def softSub32Wrong : ChangeSpec := { name := "softSub32", fn := fun _ => fun
  | [d1, d2] => { results := [.lit (.bool false)], args := [d1, d2] }
  | _ => none }
def SoftSub32WrongFalsely : Prop := softSub32Row.holds Oaig.pinned (OpenSpec.ofChange softSub32Wrong)

/-- 'law.SoftMul32': WHATEVER THE INPUT: true; the input reads as it did. -/
def softMul32Spec : ChangeSpec := { name := "softMul32", fn := fun _ => fun
  | [d1, d2] => { results := [.lit (.bool true)], args := [d1, d2] }
  | _ => none }
def softMul32Row : OpenClaim := { program := "ygcoai", sum := "d54f460e2d0ca5f5948dc939af6d66371cc650a1546666ae8ddafd73ead31673", func := "softfloat/law.SoftMul32", spec := "softMul32", apart := false }
def SoftMul32Said : Prop := softMul32Row.holds Oaig.pinned (OpenSpec.ofChange softMul32Spec)

/-- ITS FALSE NEIGHBOUR: 'it returns false'. Refute it at one input. -/
def softMul32Wrong : ChangeSpec := { name := "softMul32", fn := fun _ => fun
  | [d1, d2] => { results := [.lit (.bool false)], args := [d1, d2] }
  | _ => none }
def SoftMul32WrongFalsely : Prop := softMul32Row.holds Oaig.pinned (OpenSpec.ofChange softMul32Wrong)

/-- 'law.SoftDiv32': WHATEVER THE INPUT: true; the input reads as it did. -/
def softDiv32Spec : ChangeSpec := { name := "softDiv32", fn := fun _ => fun
  | [d1, d2] => { results := [.lit (.bool true)], args := [d1, d2] }
  | _ => none }
def softDiv32Row : OpenClaim := { program := "ygcoai", sum := "d54f460e2d0ca5f5948dc939af6d66371cc650a1546666ae8ddafd73ead31673", func := "softfloat/law.SoftDiv32", spec := "softDiv32", apart := false }
def SoftDiv32Said : Prop := softDiv32Row.holds Oaig.pinned (OpenSpec.ofChange softDiv32Spec)

/-- ITS FALSE NEIGHBOUR: 'it returns false'. Refute it at one input. -/
def softDiv32Wrong : ChangeSpec := { name := "softDiv32", fn := fun _ => fun
  | [d1, d2] => { results := [.lit (.bool false)], args := [d1, d2] }
  | _ => none }
def SoftDiv32WrongFalsely : Prop := softDiv32Row.holds Oaig.pinned (OpenSpec.ofChange softDiv32Wrong)

/-- 'law.SoftSqrt32': WHATEVER THE INPUT: true; the input reads as it did. -/
def softSqrt32Spec : ChangeSpec := { name := "softSqrt32", fn := fun _ => fun
  | [d] => { results := [.lit (.bool true)], args := [d] }
  | _ => none }
def softSqrt32Row : OpenClaim := { program := "ygcoai", sum := "d54f460e2d0ca5f5948dc939af6d66371cc650a1546666ae8ddafd73ead31673", func := "softfloat/law.SoftSqrt32", spec := "softSqrt32", apart := false }
def SoftSqrt32Said : Prop := softSqrt32Row.holds Oaig.pinned (OpenSpec.ofChange softSqrt32Spec)

/-- ITS FALSE NEIGHBOUR: 'it returns false'. Refute it at one input. -/
def softSqrt32Wrong : ChangeSpec := { name := "softSqrt32", fn := fun _ => fun
  | [d] => { results := [.lit (.bool false)], args := [d] }
  | _ => none }
def SoftSqrt32WrongFalsely : Prop := softSqrt32Row.holds Oaig.pinned (OpenSpec.ofChange softSqrt32Wrong)

/-- 'law.Ryu32': WHATEVER THE INPUT: true; the input reads as it did. -/
def ryu32Spec : ChangeSpec := { name := "ryu32", fn := fun _ => fun
  | [d] => { results := [.lit (.bool true)], args := [d] }
  | _ => none }
def ryu32Row : OpenClaim := { program := "ygcoai", sum := "d54f460e2d0ca5f5948dc939af6d66371cc650a1546666ae8ddafd73ead31673", func := "softfloat/law.Ryu32", spec := "ryu32", apart := false }
def Ryu32Said : Prop := ryu32Row.holds Oaig.pinned (OpenSpec.ofChange ryu32Spec)

/-- ITS FALSE NEIGHBOUR: 'it returns false'. Refute it at one input. -/
def ryu32Wrong : ChangeSpec := { name := "ryu32", fn := fun _ => fun
  | [d] => { results := [.lit (.bool false)], args := [d] }
  | _ => none }
def Ryu32WrongFalsely : Prop := ryu32Row.holds Oaig.pinned (OpenSpec.ofChange ryu32Wrong)

/-- 'law.Parse32': WHATEVER THE INPUT: true; the input reads as it did. -/
def parse32Spec : ChangeSpec := { name := "parse32", fn := fun _ => fun
  | [d1, d2, d3, d4] => { results := [.lit (.bool true)], args := [d1, d2, d3, d4] }
  | _ => none }
def parse32Row : OpenClaim := { program := "ygcoai", sum := "d54f460e2d0ca5f5948dc939af6d66371cc650a1546666ae8ddafd73ead31673", func := "softfloat/law.Parse32", spec := "parse32", inPlace := ["math.Float64bits", "math.Float32bits"], apart := false }
def Parse32Said : Prop := parse32Row.holds Oaig.pinned (OpenSpec.ofChange parse32Spec)

/-- ITS FALSE NEIGHBOUR: 'it returns false'. Refute it at one input. -/
def parse32Wrong : ChangeSpec := { name := "parse32", fn := fun _ => fun
  | [d1, d2, d3, d4] => { results := [.lit (.bool false)], args := [d1, d2, d3, d4] }
  | _ => none }
def Parse32WrongFalsely : Prop := parse32Row.holds Oaig.pinned (OpenSpec.ofChange parse32Wrong)

/-- 'law.Log10Right': WHATEVER THE INPUT: true; the input reads as it did. -/
def log10RightSpec : ChangeSpec := { name := "log10Right", fn := fun _ => fun
  | [d] => { results := [.lit (.bool true)], args := [d] }
  | _ => none }
def log10RightRow : OpenClaim := { program := "ygcoai", sum := "d54f460e2d0ca5f5948dc939af6d66371cc650a1546666ae8ddafd73ead31673", func := "softfloat/law.Log10Right", spec := "log10Right", apart := false }
def Log10RightSaid : Prop := log10RightRow.holds Oaig.pinned (OpenSpec.ofChange log10RightSpec)

/-- ITS FALSE NEIGHBOUR: 'it returns false'. Refute it at one input. -/
def log10RightWrong : ChangeSpec := { name := "log10Right", fn := fun _ => fun
  | [d] => { results := [.lit (.bool false)], args := [d] }
  | _ => none }
def Log10RightWrongFalsely : Prop := log10RightRow.holds Oaig.pinned (OpenSpec.ofChange log10RightWrong)

/-- 'law.ScaleRight': WHATEVER THE INPUT: true; the input reads as it did. -/
def scaleRightSpec : ChangeSpec := { name := "scaleRight", fn := fun _ => fun
  | [d1, d2] => { results := [.lit (.bool true)], args := [d1, d2] }
  | _ => none }
def scaleRightRow : OpenClaim := { program := "ygcoai", sum := "d54f460e2d0ca5f5948dc939af6d66371cc650a1546666ae8ddafd73ead31673", func := "softfloat/law.ScaleRight", spec := "scaleRight", apart := false }
def ScaleRightSaid : Prop := scaleRightRow.holds Oaig.pinned (OpenSpec.ofChange scaleRightSpec)

/-- ITS FALSE NEIGHBOUR: 'it returns false'. Refute it at one input. -/
def scaleRightWrong : ChangeSpec := { name := "scaleRight", fn := fun _ => fun
  | [d1, d2] => { results := [.lit (.bool false)], args := [d1, d2] }
  | _ => none }
def ScaleRightWrongFalsely : Prop := scaleRightRow.holds Oaig.pinned (OpenSpec.ofChange scaleRightWrong)

end Rows
end Go.Proofs.Ygcoai
