/-
  No cell of these rows narrows 'for every input' (looked for: loops, veiled, ifaces, maps, wideKeys, modest, calm, conditions, laid).
  DERIVED. THE GIVEN ROWS OF THIS SEAT. 12 by the template 'for every input the law returns true; each argument reads behind the call as it read before'; 0 by the template 'total and deterministic' (their statements: YtmffjekpnibnfaaTotals.lean).
  GIVEN WITH THE SEED: the statements are not yours to turn. If you find one false, say at which input.
  Laid BY PROGRAM, IN A SANDBOX (cutbox-rows.mjs): the forced cells as the released guide's own fill.sh prints them over the translation 7fa1cf52e866d5a1… (all of the seat's roots in one cut). By AI agents, Wed Nov 11 2026. No macro, syntax, notation, axiom, sorry.
-/
import Derived.Test.YtmffjekpnibnfaaChecked
import GoSem.Claim
import GoSem.ClaimJoined
import GoSem.ClaimMapViews
import Derived.JoinedTies
import Derived.KernelRfl
namespace Go.Proofs.Ytmffjekpnibnfaa
/- THE CELL 'sum', in the pinned program and in every row, IS THE sha256 OF THE DUMP (.gsa) THAT YtmffjekpnibnfaaProg.lean LOADS. Nothing in Lean hashes anything: it is a label: what it is worth is what the hold of that sum in a sandbox is worth. -/
noncomputable def Try.pinned : Pinned := { name := "ytmffjekpnibnfaa", sum := "7fa1cf52e866d5a197642cd724327ac3e47013ab1dc78daa786efb5acc4045bf", checked := Try.checked }
namespace Rows
def none {H : Type} : Left H := { results := [], args := [] }

/-- 'laws.FnExactApplyPerm4': WHATEVER THE INPUT: true; the input reads as it did. -/
def fnExactApplyPerm4Spec : ChangeSpec := { name := "fnExactApplyPerm4", fn := fun _ => fun
  | [d1, d2] => { results := [.lit (.bool true)], args := [d1, d2] }
  | _ => none }
def fnExactApplyPerm4Row : OpenClaim := { program := "ytmffjekpnibnfaa", sum := "7fa1cf52e866d5a197642cd724327ac3e47013ab1dc78daa786efb5acc4045bf", func := "loop.example/g00870/laws.FnExactApplyPerm4", spec := "fnExactApplyPerm4", apart := false }
def FnExactApplyPerm4Said : Prop := fnExactApplyPerm4Row.holds Try.pinned (OpenSpec.ofChange fnExactApplyPerm4Spec)

/-- ITS FALSE NEIGHBOUR: 'it returns false'. Refute it at one input. -/
def fnExactApplyPerm4Wrong : ChangeSpec := { name := "fnExactApplyPerm4", fn := fun _ => fun
  | [d1, d2] => { results := [.lit (.bool false)], args := [d1, d2] }
  | _ => none }
def FnExactApplyPerm4WrongFalsely : Prop := fnExactApplyPerm4Row.holds Try.pinned (OpenSpec.ofChange fnExactApplyPerm4Wrong)

/-- 'laws.FnExactSignPerm4': WHATEVER THE INPUT: true; the input reads as it did. -/
def fnExactSignPerm4Spec : ChangeSpec := { name := "fnExactSignPerm4", fn := fun _ => fun
  | [d] => { results := [.lit (.bool true)], args := [d] }
  | _ => none }
def fnExactSignPerm4Row : OpenClaim := { program := "ytmffjekpnibnfaa", sum := "7fa1cf52e866d5a197642cd724327ac3e47013ab1dc78daa786efb5acc4045bf", func := "loop.example/g00870/laws.FnExactSignPerm4", spec := "fnExactSignPerm4", apart := false }
def FnExactSignPerm4Said : Prop := fnExactSignPerm4Row.holds Try.pinned (OpenSpec.ofChange fnExactSignPerm4Spec)

/-- ITS FALSE NEIGHBOUR: 'it returns false'. Refute it at one input. -/
def fnExactSignPerm4Wrong : ChangeSpec := { name := "fnExactSignPerm4", fn := fun _ => fun
  | [d] => { results := [.lit (.bool false)], args := [d] }
  | _ => none }
def FnExactSignPerm4WrongFalsely : Prop := fnExactSignPerm4Row.holds Try.pinned (OpenSpec.ofChange fnExactSignPerm4Wrong)

/-- 'laws.FnExactPerm4': WHATEVER THE INPUT: true; the input reads as it did. -/
def fnExactPerm4Spec : ChangeSpec := { name := "fnExactPerm4", fn := fun _ => fun
  | [d] => { results := [.lit (.bool true)], args := [d] }
  | _ => none }
def fnExactPerm4Row : OpenClaim := { program := "ytmffjekpnibnfaa", sum := "7fa1cf52e866d5a197642cd724327ac3e47013ab1dc78daa786efb5acc4045bf", func := "loop.example/g00870/laws.FnExactPerm4", spec := "fnExactPerm4", apart := false }
def FnExactPerm4Said : Prop := fnExactPerm4Row.holds Try.pinned (OpenSpec.ofChange fnExactPerm4Spec)

/-- ITS FALSE NEIGHBOUR: 'it returns false'. Refute it at one input. -/
def fnExactPerm4Wrong : ChangeSpec := { name := "fnExactPerm4", fn := fun _ => fun
  | [d] => { results := [.lit (.bool false)], args := [d] }
  | _ => none }
def FnExactPerm4WrongFalsely : Prop := fnExactPerm4Row.holds Try.pinned (OpenSpec.ofChange fnExactPerm4Wrong)

/-- 'laws.FnExactIndexOfPerm4': WHATEVER THE INPUT: true; the input reads as it did. -/
def fnExactIndexOfPerm4Spec : ChangeSpec := { name := "fnExactIndexOfPerm4", fn := fun _ => fun
  | [d] => { results := [.lit (.bool true)], args := [d] }
  | _ => none }
def fnExactIndexOfPerm4Row : OpenClaim := { program := "ytmffjekpnibnfaa", sum := "7fa1cf52e866d5a197642cd724327ac3e47013ab1dc78daa786efb5acc4045bf", func := "loop.example/g00870/laws.FnExactIndexOfPerm4", spec := "fnExactIndexOfPerm4", apart := false }
def FnExactIndexOfPerm4Said : Prop := fnExactIndexOfPerm4Row.holds Try.pinned (OpenSpec.ofChange fnExactIndexOfPerm4Spec)

/-- ITS FALSE NEIGHBOUR: 'it returns false'. Refute it at one input. -/
def fnExactIndexOfPerm4Wrong : ChangeSpec := { name := "fnExactIndexOfPerm4", fn := fun _ => fun
  | [d] => { results := [.lit (.bool false)], args := [d] }
  | _ => none }
def FnExactIndexOfPerm4WrongFalsely : Prop := fnExactIndexOfPerm4Row.holds Try.pinned (OpenSpec.ofChange fnExactIndexOfPerm4Wrong)

/-- 'laws.FnExactComposePerm4': WHATEVER THE INPUT: true; the input reads as it did. -/
def fnExactComposePerm4Spec : ChangeSpec := { name := "fnExactComposePerm4", fn := fun _ => fun
  | [d1, d2] => { results := [.lit (.bool true)], args := [d1, d2] }
  | _ => none }
def fnExactComposePerm4Row : OpenClaim := { program := "ytmffjekpnibnfaa", sum := "7fa1cf52e866d5a197642cd724327ac3e47013ab1dc78daa786efb5acc4045bf", func := "loop.example/g00870/laws.FnExactComposePerm4", spec := "fnExactComposePerm4", apart := false }
def FnExactComposePerm4Said : Prop := fnExactComposePerm4Row.holds Try.pinned (OpenSpec.ofChange fnExactComposePerm4Spec)

/-- ITS FALSE NEIGHBOUR: 'it returns false'. Refute it at one input. -/
def fnExactComposePerm4Wrong : ChangeSpec := { name := "fnExactComposePerm4", fn := fun _ => fun
  | [d1, d2] => { results := [.lit (.bool false)], args := [d1, d2] }
  | _ => none }
def FnExactComposePerm4WrongFalsely : Prop := fnExactComposePerm4Row.holds Try.pinned (OpenSpec.ofChange fnExactComposePerm4Wrong)

/-- 'laws.FnExactInvertPerm4': WHATEVER THE INPUT: true; the input reads as it did. -/
def fnExactInvertPerm4Spec : ChangeSpec := { name := "fnExactInvertPerm4", fn := fun _ => fun
  | [d] => { results := [.lit (.bool true)], args := [d] }
  | _ => none }
def fnExactInvertPerm4Row : OpenClaim := { program := "ytmffjekpnibnfaa", sum := "7fa1cf52e866d5a197642cd724327ac3e47013ab1dc78daa786efb5acc4045bf", func := "loop.example/g00870/laws.FnExactInvertPerm4", spec := "fnExactInvertPerm4", apart := false }
def FnExactInvertPerm4Said : Prop := fnExactInvertPerm4Row.holds Try.pinned (OpenSpec.ofChange fnExactInvertPerm4Spec)

/-- ITS FALSE NEIGHBOUR: 'it returns false'. Refute it at one input. -/
def fnExactInvertPerm4Wrong : ChangeSpec := { name := "fnExactInvertPerm4", fn := fun _ => fun
  | [d] => { results := [.lit (.bool false)], args := [d] }
  | _ => none }
def FnExactInvertPerm4WrongFalsely : Prop := fnExactInvertPerm4Row.holds Try.pinned (OpenSpec.ofChange fnExactInvertPerm4Wrong)

/-- 'laws.FnExactOrderPerm4': WHATEVER THE INPUT: true; the input reads as it did. -/
def fnExactOrderPerm4Spec : ChangeSpec := { name := "fnExactOrderPerm4", fn := fun _ => fun
  | [d] => { results := [.lit (.bool true)], args := [d] }
  | _ => none }
def fnExactOrderPerm4Row : OpenClaim := { program := "ytmffjekpnibnfaa", sum := "7fa1cf52e866d5a197642cd724327ac3e47013ab1dc78daa786efb5acc4045bf", func := "loop.example/g00870/laws.FnExactOrderPerm4", spec := "fnExactOrderPerm4", apart := false }
def FnExactOrderPerm4Said : Prop := fnExactOrderPerm4Row.holds Try.pinned (OpenSpec.ofChange fnExactOrderPerm4Spec)

/-- ITS FALSE NEIGHBOUR: 'it returns false'. Refute it at one input. -/
def fnExactOrderPerm4Wrong : ChangeSpec := { name := "fnExactOrderPerm4", fn := fun _ => fun
  | [d] => { results := [.lit (.bool false)], args := [d] }
  | _ => none }
def FnExactOrderPerm4WrongFalsely : Prop := fnExactOrderPerm4Row.holds Try.pinned (OpenSpec.ofChange fnExactOrderPerm4Wrong)

/-- 'laws.FnExactExtendPerm4': WHATEVER THE INPUT: true; the input reads as it did. -/
def fnExactExtendPerm4Spec : ChangeSpec := { name := "fnExactExtendPerm4", fn := fun _ => fun
  | [d1, d2] => { results := [.lit (.bool true)], args := [d1, d2] }
  | _ => none }
def fnExactExtendPerm4Row : OpenClaim := { program := "ytmffjekpnibnfaa", sum := "7fa1cf52e866d5a197642cd724327ac3e47013ab1dc78daa786efb5acc4045bf", func := "loop.example/g00870/laws.FnExactExtendPerm4", spec := "fnExactExtendPerm4", unfollowed := true, recurses := true, apart := false }
def FnExactExtendPerm4Said : Prop := fnExactExtendPerm4Row.holds Try.pinned (OpenSpec.ofChange fnExactExtendPerm4Spec)

/-- ITS FALSE NEIGHBOUR: 'it returns false'. Refute it at one input. -/
def fnExactExtendPerm4Wrong : ChangeSpec := { name := "fnExactExtendPerm4", fn := fun _ => fun
  | [d1, d2] => { results := [.lit (.bool false)], args := [d1, d2] }
  | _ => none }
def FnExactExtendPerm4WrongFalsely : Prop := fnExactExtendPerm4Row.holds Try.pinned (OpenSpec.ofChange fnExactExtendPerm4Wrong)

/-- 'laws.FnExtend': WHATEVER THE INPUT: true; the input reads as it did. -/
def fnExtendSpec : ChangeSpec := { name := "fnExtend", fn := fun _ => fun
  | [d] => { results := [.lit (.bool true)], args := [d] }
  | _ => none }
def fnExtendRow : OpenClaim := { program := "ytmffjekpnibnfaa", sum := "7fa1cf52e866d5a197642cd724327ac3e47013ab1dc78daa786efb5acc4045bf", func := "loop.example/g00870/laws.FnExtend", spec := "fnExtend", unfollowed := true, recurses := true, apart := false }
def FnExtendSaid : Prop := fnExtendRow.holds Try.pinned (OpenSpec.ofChange fnExtendSpec)

/-- ITS FALSE NEIGHBOUR: 'it returns false'. Refute it at one input. -/
def fnExtendWrong : ChangeSpec := { name := "fnExtend", fn := fun _ => fun
  | [d] => { results := [.lit (.bool false)], args := [d] }
  | _ => none }
def FnExtendWrongFalsely : Prop := fnExtendRow.holds Try.pinned (OpenSpec.ofChange fnExtendWrong)

/-- 'laws.FnPermGroup': WHATEVER THE INPUT: true; the input reads as it did. -/
def fnPermGroupSpec : ChangeSpec := { name := "fnPermGroup", fn := fun _ => fun
  | [d] => { results := [.lit (.bool true)], args := [d] }
  | _ => none }
def fnPermGroupRow : OpenClaim := { program := "ytmffjekpnibnfaa", sum := "7fa1cf52e866d5a197642cd724327ac3e47013ab1dc78daa786efb5acc4045bf", func := "loop.example/g00870/laws.FnPermGroup", spec := "fnPermGroup", apart := false }
def FnPermGroupSaid : Prop := fnPermGroupRow.holds Try.pinned (OpenSpec.ofChange fnPermGroupSpec)

/-- ITS FALSE NEIGHBOUR: 'it returns false'. Refute it at one input. -/
def fnPermGroupWrong : ChangeSpec := { name := "fnPermGroup", fn := fun _ => fun
  | [d] => { results := [.lit (.bool false)], args := [d] }
  | _ => none }
def FnPermGroupWrongFalsely : Prop := fnPermGroupRow.holds Try.pinned (OpenSpec.ofChange fnPermGroupWrong)

/-- 'laws.FnExactMatchingAt': WHATEVER THE INPUT: true; the input reads as it did. -/
def fnExactMatchingAtSpec : ChangeSpec := { name := "fnExactMatchingAt", fn := fun _ => fun
  | [d1, d2] => { results := [.lit (.bool true)], args := [d1, d2] }
  | _ => none }
def fnExactMatchingAtRow : OpenClaim := { program := "ytmffjekpnibnfaa", sum := "7fa1cf52e866d5a197642cd724327ac3e47013ab1dc78daa786efb5acc4045bf", func := "loop.example/g00870/laws.FnExactMatchingAt", spec := "fnExactMatchingAt", apart := false }
def FnExactMatchingAtSaid : Prop := fnExactMatchingAtRow.holds Try.pinned (OpenSpec.ofChange fnExactMatchingAtSpec)

/-- ITS FALSE NEIGHBOUR: 'it returns false'. Refute it at one input. -/
def fnExactMatchingAtWrong : ChangeSpec := { name := "fnExactMatchingAt", fn := fun _ => fun
  | [d1, d2] => { results := [.lit (.bool false)], args := [d1, d2] }
  | _ => none }
def FnExactMatchingAtWrongFalsely : Prop := fnExactMatchingAtRow.holds Try.pinned (OpenSpec.ofChange fnExactMatchingAtWrong)

/-- 'laws.FnMatching': WHATEVER THE INPUT: true; the input reads as it did. -/
def fnMatchingSpec : ChangeSpec := { name := "fnMatching", fn := fun _ => fun
  | [d] => { results := [.lit (.bool true)], args := [d] }
  | _ => none }
def fnMatchingRow : OpenClaim := { program := "ytmffjekpnibnfaa", sum := "7fa1cf52e866d5a197642cd724327ac3e47013ab1dc78daa786efb5acc4045bf", func := "loop.example/g00870/laws.FnMatching", spec := "fnMatching", apart := false }
def FnMatchingSaid : Prop := fnMatchingRow.holds Try.pinned (OpenSpec.ofChange fnMatchingSpec)

/-- ITS FALSE NEIGHBOUR: 'it returns false'. Refute it at one input. -/
def fnMatchingWrong : ChangeSpec := { name := "fnMatching", fn := fun _ => fun
  | [d] => { results := [.lit (.bool false)], args := [d] }
  | _ => none }
def FnMatchingWrongFalsely : Prop := fnMatchingRow.holds Try.pinned (OpenSpec.ofChange fnMatchingWrong)

/- THE SECOND FORM. 'bulk': how many values and letters a reading holds, each counted each time it is reached (what is shared counts as often as it is met; a slice's spare places count too). A statement '..UptoSaid' is the law's where the arguments, and the package variables that the reading takes, are together of bulk at most 1048576: NARROWER than '..Said'. Prove '..Said' where nothing that the law and all that it calls make is longer than what came in: it says more and counts as full. Else prove '..UptoSaid'. A law counts once. -/
mutual
def uptoBulk {H : Type} : DataW H → Nat
  | .lit (.string bytes) => bytes.length + 1
  | .lit _ => 1
  | .nil => 1
  | .ptr d => uptoBulk d + 1
  | .slice elems spare => uptoBulkAll elems + uptoBulkAll spare + 1
  | .agg parts => uptoBulkAll parts + 1
  | .iface _ d => uptoBulk d + 1
  | .map entries => uptoBulkEntries entries + 1
  | .held _ => 1
def uptoBulkAll {H : Type} : List (DataW H) → Nat
  | [] => 0
  | d :: r => uptoBulk d + uptoBulkAll r
def uptoBulkEntries {H : Type} : List (Lit × DataW H) → Nat
  | [] => 0
  | x :: r => uptoBulkEntry x + uptoBulkEntries r
def uptoBulkEntry {H : Type} : Lit × DataW H → Nat
  | (.string bytes, d) => bytes.length + uptoBulk d + 1
  | (_, d) => uptoBulk d + 1
 end
def uptoSmall : (H : Type) → List (DataW H) → Bool := fun _ ds => decide (uptoBulkAll ds ≤ 1048576)
def OpenSpec.upto (s : _root_.Go.ChangeSpec) : _root_.Go.OpenSpec := { _root_.Go.OpenSpec.ofChange s with cond := some uptoSmall }

/-- 'laws.FnExactApplyPerm4', WHERE WHAT IT READS IS OF BULK AT MOST 1048576: true; the input reads as it did. -/
def fnExactApplyPerm4UptoRow : OpenClaim := { program := "ytmffjekpnibnfaa", sum := "7fa1cf52e866d5a197642cd724327ac3e47013ab1dc78daa786efb5acc4045bf", func := "loop.example/g00870/laws.FnExactApplyPerm4", spec := "fnExactApplyPerm4", apart := false, narrowed := true }
def FnExactApplyPerm4UptoSaid : Prop := fnExactApplyPerm4UptoRow.holds Try.pinned (OpenSpec.upto fnExactApplyPerm4Spec)

/-- 'laws.FnExactSignPerm4', WHERE WHAT IT READS IS OF BULK AT MOST 1048576: true; the input reads as it did. -/
def fnExactSignPerm4UptoRow : OpenClaim := { program := "ytmffjekpnibnfaa", sum := "7fa1cf52e866d5a197642cd724327ac3e47013ab1dc78daa786efb5acc4045bf", func := "loop.example/g00870/laws.FnExactSignPerm4", spec := "fnExactSignPerm4", apart := false, narrowed := true }
def FnExactSignPerm4UptoSaid : Prop := fnExactSignPerm4UptoRow.holds Try.pinned (OpenSpec.upto fnExactSignPerm4Spec)

/-- 'laws.FnExactPerm4', WHERE WHAT IT READS IS OF BULK AT MOST 1048576: true; the input reads as it did. -/
def fnExactPerm4UptoRow : OpenClaim := { program := "ytmffjekpnibnfaa", sum := "7fa1cf52e866d5a197642cd724327ac3e47013ab1dc78daa786efb5acc4045bf", func := "loop.example/g00870/laws.FnExactPerm4", spec := "fnExactPerm4", apart := false, narrowed := true }
def FnExactPerm4UptoSaid : Prop := fnExactPerm4UptoRow.holds Try.pinned (OpenSpec.upto fnExactPerm4Spec)

/-- 'laws.FnExactIndexOfPerm4', WHERE WHAT IT READS IS OF BULK AT MOST 1048576: true; the input reads as it did. -/
def fnExactIndexOfPerm4UptoRow : OpenClaim := { program := "ytmffjekpnibnfaa", sum := "7fa1cf52e866d5a197642cd724327ac3e47013ab1dc78daa786efb5acc4045bf", func := "loop.example/g00870/laws.FnExactIndexOfPerm4", spec := "fnExactIndexOfPerm4", apart := false, narrowed := true }
def FnExactIndexOfPerm4UptoSaid : Prop := fnExactIndexOfPerm4UptoRow.holds Try.pinned (OpenSpec.upto fnExactIndexOfPerm4Spec)

/-- 'laws.FnExactComposePerm4', WHERE WHAT IT READS IS OF BULK AT MOST 1048576: true; the input reads as it did. -/
def fnExactComposePerm4UptoRow : OpenClaim := { program := "ytmffjekpnibnfaa", sum := "7fa1cf52e866d5a197642cd724327ac3e47013ab1dc78daa786efb5acc4045bf", func := "loop.example/g00870/laws.FnExactComposePerm4", spec := "fnExactComposePerm4", apart := false, narrowed := true }
def FnExactComposePerm4UptoSaid : Prop := fnExactComposePerm4UptoRow.holds Try.pinned (OpenSpec.upto fnExactComposePerm4Spec)

/-- 'laws.FnExactInvertPerm4', WHERE WHAT IT READS IS OF BULK AT MOST 1048576: true; the input reads as it did. -/
def fnExactInvertPerm4UptoRow : OpenClaim := { program := "ytmffjekpnibnfaa", sum := "7fa1cf52e866d5a197642cd724327ac3e47013ab1dc78daa786efb5acc4045bf", func := "loop.example/g00870/laws.FnExactInvertPerm4", spec := "fnExactInvertPerm4", apart := false, narrowed := true }
def FnExactInvertPerm4UptoSaid : Prop := fnExactInvertPerm4UptoRow.holds Try.pinned (OpenSpec.upto fnExactInvertPerm4Spec)

/-- 'laws.FnExactOrderPerm4', WHERE WHAT IT READS IS OF BULK AT MOST 1048576: true; the input reads as it did. -/
def fnExactOrderPerm4UptoRow : OpenClaim := { program := "ytmffjekpnibnfaa", sum := "7fa1cf52e866d5a197642cd724327ac3e47013ab1dc78daa786efb5acc4045bf", func := "loop.example/g00870/laws.FnExactOrderPerm4", spec := "fnExactOrderPerm4", apart := false, narrowed := true }
def FnExactOrderPerm4UptoSaid : Prop := fnExactOrderPerm4UptoRow.holds Try.pinned (OpenSpec.upto fnExactOrderPerm4Spec)

/-- 'laws.FnExactExtendPerm4', WHERE WHAT IT READS IS OF BULK AT MOST 1048576: true; the input reads as it did. -/
def fnExactExtendPerm4UptoRow : OpenClaim := { program := "ytmffjekpnibnfaa", sum := "7fa1cf52e866d5a197642cd724327ac3e47013ab1dc78daa786efb5acc4045bf", func := "loop.example/g00870/laws.FnExactExtendPerm4", spec := "fnExactExtendPerm4", unfollowed := true, recurses := true, apart := false, narrowed := true }
def FnExactExtendPerm4UptoSaid : Prop := fnExactExtendPerm4UptoRow.holds Try.pinned (OpenSpec.upto fnExactExtendPerm4Spec)

/-- 'laws.FnExtend', WHERE WHAT IT READS IS OF BULK AT MOST 1048576: true; the input reads as it did. -/
def fnExtendUptoRow : OpenClaim := { program := "ytmffjekpnibnfaa", sum := "7fa1cf52e866d5a197642cd724327ac3e47013ab1dc78daa786efb5acc4045bf", func := "loop.example/g00870/laws.FnExtend", spec := "fnExtend", unfollowed := true, recurses := true, apart := false, narrowed := true }
def FnExtendUptoSaid : Prop := fnExtendUptoRow.holds Try.pinned (OpenSpec.upto fnExtendSpec)

/-- 'laws.FnPermGroup', WHERE WHAT IT READS IS OF BULK AT MOST 1048576: true; the input reads as it did. -/
def fnPermGroupUptoRow : OpenClaim := { program := "ytmffjekpnibnfaa", sum := "7fa1cf52e866d5a197642cd724327ac3e47013ab1dc78daa786efb5acc4045bf", func := "loop.example/g00870/laws.FnPermGroup", spec := "fnPermGroup", apart := false, narrowed := true }
def FnPermGroupUptoSaid : Prop := fnPermGroupUptoRow.holds Try.pinned (OpenSpec.upto fnPermGroupSpec)

/-- 'laws.FnExactMatchingAt', WHERE WHAT IT READS IS OF BULK AT MOST 1048576: true; the input reads as it did. -/
def fnExactMatchingAtUptoRow : OpenClaim := { program := "ytmffjekpnibnfaa", sum := "7fa1cf52e866d5a197642cd724327ac3e47013ab1dc78daa786efb5acc4045bf", func := "loop.example/g00870/laws.FnExactMatchingAt", spec := "fnExactMatchingAt", apart := false, narrowed := true }
def FnExactMatchingAtUptoSaid : Prop := fnExactMatchingAtUptoRow.holds Try.pinned (OpenSpec.upto fnExactMatchingAtSpec)

/-- 'laws.FnMatching', WHERE WHAT IT READS IS OF BULK AT MOST 1048576: true; the input reads as it did. -/
def fnMatchingUptoRow : OpenClaim := { program := "ytmffjekpnibnfaa", sum := "7fa1cf52e866d5a197642cd724327ac3e47013ab1dc78daa786efb5acc4045bf", func := "loop.example/g00870/laws.FnMatching", spec := "fnMatching", apart := false, narrowed := true }
def FnMatchingUptoSaid : Prop := fnMatchingUptoRow.holds Try.pinned (OpenSpec.upto fnMatchingSpec)

end Rows
end Go.Proofs.Ytmffjekpnibnfaa
