/-
  No cell of these rows narrows 'for every input' (looked for: loops, veiled, ifaces, maps, wideKeys, modest, calm, conditions, laid).
  DERIVED. THE GIVEN ROWS OF THIS SEAT. 6 by the template 'for every input the law returns true; each argument reads behind the call as it read before'; 0 by the template 'total and deterministic' (their statements: YtocjdbahfnfjlaaTotals.lean).
  GIVEN WITH THE SEED: the statements are not yours to turn. If you find one false, say at which input.
  Laid BY PROGRAM, IN A SANDBOX (cutbox-rows.mjs): the forced cells as the released guide's own fill.sh prints them over the translation a3f87da36092a1bc… (all of the seat's roots in one cut). By AI agents, Wed Nov 11 2026. No macro, syntax, notation, axiom, sorry.
-/
import Derived.Test.YtocjdbahfnfjlaaChecked
import GoSem.Claim
import GoSem.ClaimJoined
import GoSem.ClaimMapViews
import Derived.JoinedTies
import Derived.KernelRfl
namespace Go.Proofs.Ytocjdbahfnfjlaa
/- THE CELL 'sum', in the pinned program and in every row, IS THE sha256 OF THE DUMP (.gsa) THAT YtocjdbahfnfjlaaProg.lean LOADS. Nothing in Lean hashes anything: it is a label: what it is worth is what the hold of that sum in a sandbox is worth. -/
noncomputable def Try.pinned : Pinned := { name := "ytocjdbahfnfjlaa", sum := "a3f87da36092a1bcae3c813cdd47046a0117c09e8cca1a56bcbdf2c1478f9c64", checked := Try.checked }
namespace Rows
def none {H : Type} : Left H := { results := [], args := [] }

/-- 'laws.FnExactConstants': WHATEVER THE INPUT: true; the input reads as it did. -/
def fnExactConstantsSpec : ChangeSpec := { name := "fnExactConstants", fn := fun _ => fun
  | [] => { results := [.lit (.bool true)], args := [] }
  | _ => none }
def fnExactConstantsRow : OpenClaim := { program := "ytocjdbahfnfjlaa", sum := "a3f87da36092a1bcae3c813cdd47046a0117c09e8cca1a56bcbdf2c1478f9c64", func := "loop.example/g00870/laws.FnExactConstants", spec := "fnExactConstants", apart := false }
def FnExactConstantsSaid : Prop := fnExactConstantsRow.holds Try.pinned (OpenSpec.ofChange fnExactConstantsSpec)

/-- ITS FALSE NEIGHBOUR: 'it returns false'. Refute it at one input. -/
def fnExactConstantsWrong : ChangeSpec := { name := "fnExactConstants", fn := fun _ => fun
  | [] => { results := [.lit (.bool false)], args := [] }
  | _ => none }
def FnExactConstantsWrongFalsely : Prop := fnExactConstantsRow.holds Try.pinned (OpenSpec.ofChange fnExactConstantsWrong)

/-- 'laws.FnExactMatchingCount': WHATEVER THE INPUT: true; the input reads as it did. -/
def fnExactMatchingCountSpec : ChangeSpec := { name := "fnExactMatchingCount", fn := fun _ => fun
  | [d] => { results := [.lit (.bool true)], args := [d] }
  | _ => none }
def fnExactMatchingCountRow : OpenClaim := { program := "ytocjdbahfnfjlaa", sum := "a3f87da36092a1bcae3c813cdd47046a0117c09e8cca1a56bcbdf2c1478f9c64", func := "loop.example/g00870/laws.FnExactMatchingCount", spec := "fnExactMatchingCount", apart := false }
def FnExactMatchingCountSaid : Prop := fnExactMatchingCountRow.holds Try.pinned (OpenSpec.ofChange fnExactMatchingCountSpec)

/-- ITS FALSE NEIGHBOUR: 'it returns false'. Refute it at one input. -/
def fnExactMatchingCountWrong : ChangeSpec := { name := "fnExactMatchingCount", fn := fun _ => fun
  | [d] => { results := [.lit (.bool false)], args := [d] }
  | _ => none }
def FnExactMatchingCountWrongFalsely : Prop := fnExactMatchingCountRow.holds Try.pinned (OpenSpec.ofChange fnExactMatchingCountWrong)

/-- 'laws.FnExactEdgeBetween': WHATEVER THE INPUT: true; the input reads as it did. -/
def fnExactEdgeBetweenSpec : ChangeSpec := { name := "fnExactEdgeBetween", fn := fun _ => fun
  | [d1, d2] => { results := [.lit (.bool true)], args := [d1, d2] }
  | _ => none }
def fnExactEdgeBetweenRow : OpenClaim := { program := "ytocjdbahfnfjlaa", sum := "a3f87da36092a1bcae3c813cdd47046a0117c09e8cca1a56bcbdf2c1478f9c64", func := "loop.example/g00870/laws.FnExactEdgeBetween", spec := "fnExactEdgeBetween", apart := false }
def FnExactEdgeBetweenSaid : Prop := fnExactEdgeBetweenRow.holds Try.pinned (OpenSpec.ofChange fnExactEdgeBetweenSpec)

/-- ITS FALSE NEIGHBOUR: 'it returns false'. Refute it at one input. -/
def fnExactEdgeBetweenWrong : ChangeSpec := { name := "fnExactEdgeBetween", fn := fun _ => fun
  | [d1, d2] => { results := [.lit (.bool false)], args := [d1, d2] }
  | _ => none }
def FnExactEdgeBetweenWrongFalsely : Prop := fnExactEdgeBetweenRow.holds Try.pinned (OpenSpec.ofChange fnExactEdgeBetweenWrong)

/-- 'laws.FnExactQuadBetween': WHATEVER THE INPUT: true; the input reads as it did. -/
def fnExactQuadBetweenSpec : ChangeSpec := { name := "fnExactQuadBetween", fn := fun _ => fun
  | [d1, d2] => { results := [.lit (.bool true)], args := [d1, d2] }
  | _ => none }
def fnExactQuadBetweenRow : OpenClaim := { program := "ytocjdbahfnfjlaa", sum := "a3f87da36092a1bcae3c813cdd47046a0117c09e8cca1a56bcbdf2c1478f9c64", func := "loop.example/g00870/laws.FnExactQuadBetween", spec := "fnExactQuadBetween", apart := false }
def FnExactQuadBetweenSaid : Prop := fnExactQuadBetweenRow.holds Try.pinned (OpenSpec.ofChange fnExactQuadBetweenSpec)

/-- ITS FALSE NEIGHBOUR: 'it returns false'. Refute it at one input. -/
def fnExactQuadBetweenWrong : ChangeSpec := { name := "fnExactQuadBetween", fn := fun _ => fun
  | [d1, d2] => { results := [.lit (.bool false)], args := [d1, d2] }
  | _ => none }
def FnExactQuadBetweenWrongFalsely : Prop := fnExactQuadBetweenRow.holds Try.pinned (OpenSpec.ofChange fnExactQuadBetweenWrong)

/-- 'laws.FnExactGluingCount': WHATEVER THE INPUT: true; the input reads as it did. -/
def fnExactGluingCountSpec : ChangeSpec := { name := "fnExactGluingCount", fn := fun _ => fun
  | [d] => { results := [.lit (.bool true)], args := [d] }
  | _ => none }
def fnExactGluingCountRow : OpenClaim := { program := "ytocjdbahfnfjlaa", sum := "a3f87da36092a1bcae3c813cdd47046a0117c09e8cca1a56bcbdf2c1478f9c64", func := "loop.example/g00870/laws.FnExactGluingCount", spec := "fnExactGluingCount", apart := false }
def FnExactGluingCountSaid : Prop := fnExactGluingCountRow.holds Try.pinned (OpenSpec.ofChange fnExactGluingCountSpec)

/-- ITS FALSE NEIGHBOUR: 'it returns false'. Refute it at one input. -/
def fnExactGluingCountWrong : ChangeSpec := { name := "fnExactGluingCount", fn := fun _ => fun
  | [d] => { results := [.lit (.bool false)], args := [d] }
  | _ => none }
def FnExactGluingCountWrongFalsely : Prop := fnExactGluingCountRow.holds Try.pinned (OpenSpec.ofChange fnExactGluingCountWrong)

/-- 'laws.FnExactIsWord': WHATEVER THE INPUT: true; the input reads as it did. -/
def fnExactIsWordSpec : ChangeSpec := { name := "fnExactIsWord", fn := fun _ => fun
  | [d] => { results := [.lit (.bool true)], args := [d] }
  | _ => none }
def fnExactIsWordRow : OpenClaim := { program := "ytocjdbahfnfjlaa", sum := "a3f87da36092a1bcae3c813cdd47046a0117c09e8cca1a56bcbdf2c1478f9c64", func := "loop.example/g00870/laws.FnExactIsWord", spec := "fnExactIsWord", unfollowed := true, recurses := true, apart := false }
def FnExactIsWordSaid : Prop := fnExactIsWordRow.holds Try.pinned (OpenSpec.ofChange fnExactIsWordSpec)

/-- ITS FALSE NEIGHBOUR: 'it returns false'. Refute it at one input. -/
def fnExactIsWordWrong : ChangeSpec := { name := "fnExactIsWord", fn := fun _ => fun
  | [d] => { results := [.lit (.bool false)], args := [d] }
  | _ => none }
def FnExactIsWordWrongFalsely : Prop := fnExactIsWordRow.holds Try.pinned (OpenSpec.ofChange fnExactIsWordWrong)

/- THE SECOND FORM. 'bulk': how many values and letters a reading holds, each counted each time it is reached (what is shared counts as often as it is met; a slice's spare places count too). A statement '..UptoSaid' is the law's where the arguments, and the package variables that the reading takes, are together of bulk at most 1048576: NARROWER than '..Said'. Prove '..Said' where nothing that the law and all that it calls make is longer than what came in: it says more and counts as full. Else prove '..UptoSaid'. A law counts once. -/
mutual
def uptoBulk {H : Type} : DataW H → Nat
  | .lit (.string bytes) => bytes.length + 1
  | .lit _ => 1
  | .nil => 1
  | .ptr d => uptoBulk d + 1
  | .slice elems spare => uptoBulkAll elems + uptoBulkAll spare + 1
  | .agg parts => uptoBulkAll parts + 1
  | .iface _ d => uptoBulk d + 1
  | .map entries => uptoBulkEntries entries + 1
  | .held _ => 1
def uptoBulkAll {H : Type} : List (DataW H) → Nat
  | [] => 0
  | d :: r => uptoBulk d + uptoBulkAll r
def uptoBulkEntries {H : Type} : List (Lit × DataW H) → Nat
  | [] => 0
  | x :: r => uptoBulkEntry x + uptoBulkEntries r
def uptoBulkEntry {H : Type} : Lit × DataW H → Nat
  | (.string bytes, d) => bytes.length + uptoBulk d + 1
  | (_, d) => uptoBulk d + 1
 end
def uptoSmall : (H : Type) → List (DataW H) → Bool := fun _ ds => decide (uptoBulkAll ds ≤ 1048576)
def OpenSpec.upto (s : _root_.Go.ChangeSpec) : _root_.Go.OpenSpec := { _root_.Go.OpenSpec.ofChange s with cond := some uptoSmall }

/-- 'laws.FnExactConstants', WHERE WHAT IT READS IS OF BULK AT MOST 1048576: true; the input reads as it did. -/
def fnExactConstantsUptoRow : OpenClaim := { program := "ytocjdbahfnfjlaa", sum := "a3f87da36092a1bcae3c813cdd47046a0117c09e8cca1a56bcbdf2c1478f9c64", func := "loop.example/g00870/laws.FnExactConstants", spec := "fnExactConstants", apart := false, narrowed := true }
def FnExactConstantsUptoSaid : Prop := fnExactConstantsUptoRow.holds Try.pinned (OpenSpec.upto fnExactConstantsSpec)

/-- 'laws.FnExactMatchingCount', WHERE WHAT IT READS IS OF BULK AT MOST 1048576: true; the input reads as it did. -/
def fnExactMatchingCountUptoRow : OpenClaim := { program := "ytocjdbahfnfjlaa", sum := "a3f87da36092a1bcae3c813cdd47046a0117c09e8cca1a56bcbdf2c1478f9c64", func := "loop.example/g00870/laws.FnExactMatchingCount", spec := "fnExactMatchingCount", apart := false, narrowed := true }
def FnExactMatchingCountUptoSaid : Prop := fnExactMatchingCountUptoRow.holds Try.pinned (OpenSpec.upto fnExactMatchingCountSpec)

/-- 'laws.FnExactEdgeBetween', WHERE WHAT IT READS IS OF BULK AT MOST 1048576: true; the input reads as it did. -/
def fnExactEdgeBetweenUptoRow : OpenClaim := { program := "ytocjdbahfnfjlaa", sum := "a3f87da36092a1bcae3c813cdd47046a0117c09e8cca1a56bcbdf2c1478f9c64", func := "loop.example/g00870/laws.FnExactEdgeBetween", spec := "fnExactEdgeBetween", apart := false, narrowed := true }
def FnExactEdgeBetweenUptoSaid : Prop := fnExactEdgeBetweenUptoRow.holds Try.pinned (OpenSpec.upto fnExactEdgeBetweenSpec)

/-- 'laws.FnExactQuadBetween', WHERE WHAT IT READS IS OF BULK AT MOST 1048576: true; the input reads as it did. -/
def fnExactQuadBetweenUptoRow : OpenClaim := { program := "ytocjdbahfnfjlaa", sum := "a3f87da36092a1bcae3c813cdd47046a0117c09e8cca1a56bcbdf2c1478f9c64", func := "loop.example/g00870/laws.FnExactQuadBetween", spec := "fnExactQuadBetween", apart := false, narrowed := true }
def FnExactQuadBetweenUptoSaid : Prop := fnExactQuadBetweenUptoRow.holds Try.pinned (OpenSpec.upto fnExactQuadBetweenSpec)

/-- 'laws.FnExactGluingCount', WHERE WHAT IT READS IS OF BULK AT MOST 1048576: true; the input reads as it did. -/
def fnExactGluingCountUptoRow : OpenClaim := { program := "ytocjdbahfnfjlaa", sum := "a3f87da36092a1bcae3c813cdd47046a0117c09e8cca1a56bcbdf2c1478f9c64", func := "loop.example/g00870/laws.FnExactGluingCount", spec := "fnExactGluingCount", apart := false, narrowed := true }
def FnExactGluingCountUptoSaid : Prop := fnExactGluingCountUptoRow.holds Try.pinned (OpenSpec.upto fnExactGluingCountSpec)

/-- 'laws.FnExactIsWord', WHERE WHAT IT READS IS OF BULK AT MOST 1048576: true; the input reads as it did. -/
def fnExactIsWordUptoRow : OpenClaim := { program := "ytocjdbahfnfjlaa", sum := "a3f87da36092a1bcae3c813cdd47046a0117c09e8cca1a56bcbdf2c1478f9c64", func := "loop.example/g00870/laws.FnExactIsWord", spec := "fnExactIsWord", unfollowed := true, recurses := true, apart := false, narrowed := true }
def FnExactIsWordUptoSaid : Prop := fnExactIsWordUptoRow.holds Try.pinned (OpenSpec.upto fnExactIsWordSpec)

end Rows
end Go.Proofs.Ytocjdbahfnfjlaa
