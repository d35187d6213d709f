/-
  No cell of these rows narrows 'for every input' (looked for: loops, veiled, ifaces, maps, wideKeys, modest, calm, conditions, laid).
  DERIVED. THE GIVEN ROWS OF THIS SEAT. 5 by the template 'for every input the law returns true; each argument reads behind the call as it read before'; 0 by the template 'total and deterministic' (their statements: YtbcdngjajjgmkaaTotals.lean).
  GIVEN WITH THE SEED: the statements are not yours to turn. If you find one false, say at which input.
  Laid BY PROGRAM, IN A SANDBOX (cutbox-rows.mjs): the forced cells as the released guide's own fill.sh prints them over the translation 2e0508e511747644… (all of the seat's roots in one cut). By AI agents, Wed Nov 11 2026. No macro, syntax, notation, axiom, sorry.
-/
import Derived.Test.YtbcdngjajjgmkaaChecked
import GoSem.Claim
import GoSem.ClaimJoined
import GoSem.ClaimMapViews
import Derived.JoinedTies
import Derived.KernelRfl
namespace Go.Proofs.Ytbcdngjajjgmkaa
/- THE CELL 'sum', in the pinned program and in every row, IS THE sha256 OF THE DUMP (.gsa) THAT YtbcdngjajjgmkaaProg.lean LOADS. Nothing in Lean hashes anything: it is a label: what it is worth is what the hold of that sum in a sandbox is worth. -/
noncomputable def Try.pinned : Pinned := { name := "ytbcdngjajjgmkaa", sum := "2e0508e51174764434219a55cc9cbb7500243ac243b78314a6eaf86653e28f24", checked := Try.checked }
namespace Rows
def none {H : Type} : Left H := { results := [], args := [] }

/-- 'laws.FnExactRepresentationAt': WHATEVER THE INPUT: true; the input reads as it did. -/
def fnExactRepresentationAtSpec : ChangeSpec := { name := "fnExactRepresentationAt", fn := fun _ => fun
  | [d1, d2, d3] => { results := [.lit (.bool true)], args := [d1, d2, d3] }
  | _ => none }
def fnExactRepresentationAtRow : OpenClaim := { program := "ytbcdngjajjgmkaa", sum := "2e0508e51174764434219a55cc9cbb7500243ac243b78314a6eaf86653e28f24", func := "loop.example/g00870/laws.FnExactRepresentationAt", spec := "fnExactRepresentationAt", unfollowed := true, recurses := true, apart := false }
def FnExactRepresentationAtSaid : Prop := fnExactRepresentationAtRow.holds Try.pinned (OpenSpec.ofChange fnExactRepresentationAtSpec)

/-- ITS FALSE NEIGHBOUR: 'it returns false'. Refute it at one input. -/
def fnExactRepresentationAtWrong : ChangeSpec := { name := "fnExactRepresentationAt", fn := fun _ => fun
  | [d1, d2, d3] => { results := [.lit (.bool false)], args := [d1, d2, d3] }
  | _ => none }
def FnExactRepresentationAtWrongFalsely : Prop := fnExactRepresentationAtRow.holds Try.pinned (OpenSpec.ofChange fnExactRepresentationAtWrong)

/-- 'laws.FnExactStabilizerPresentation': WHATEVER THE INPUT: true; the input reads as it did. -/
def fnExactStabilizerPresentationSpec : ChangeSpec := { name := "fnExactStabilizerPresentation", fn := fun _ => fun
  | [d1, d2, d3] => { results := [.lit (.bool true)], args := [d1, d2, d3] }
  | _ => none }
def fnExactStabilizerPresentationRow : OpenClaim := { program := "ytbcdngjajjgmkaa", sum := "2e0508e51174764434219a55cc9cbb7500243ac243b78314a6eaf86653e28f24", func := "loop.example/g00870/laws.FnExactStabilizerPresentation", spec := "fnExactStabilizerPresentation", unfollowed := true, recurses := true, apart := false }
def FnExactStabilizerPresentationSaid : Prop := fnExactStabilizerPresentationRow.holds Try.pinned (OpenSpec.ofChange fnExactStabilizerPresentationSpec)

/-- ITS FALSE NEIGHBOUR: 'it returns false'. Refute it at one input. -/
def fnExactStabilizerPresentationWrong : ChangeSpec := { name := "fnExactStabilizerPresentation", fn := fun _ => fun
  | [d1, d2, d3] => { results := [.lit (.bool false)], args := [d1, d2, d3] }
  | _ => none }
def FnExactStabilizerPresentationWrongFalsely : Prop := fnExactStabilizerPresentationRow.holds Try.pinned (OpenSpec.ofChange fnExactStabilizerPresentationWrong)

/-- 'laws.FnExactApplyTietze': WHATEVER THE INPUT: true; the input reads as it did. -/
def fnExactApplyTietzeSpec : ChangeSpec := { name := "fnExactApplyTietze", fn := fun _ => fun
  | [d1, d2] => { results := [.lit (.bool true)], args := [d1, d2] }
  | _ => none }
def fnExactApplyTietzeRow : OpenClaim := { program := "ytbcdngjajjgmkaa", sum := "2e0508e51174764434219a55cc9cbb7500243ac243b78314a6eaf86653e28f24", func := "loop.example/g00870/laws.FnExactApplyTietze", spec := "fnExactApplyTietze", unfollowed := true, recurses := true, apart := false }
def FnExactApplyTietzeSaid : Prop := fnExactApplyTietzeRow.holds Try.pinned (OpenSpec.ofChange fnExactApplyTietzeSpec)

/-- ITS FALSE NEIGHBOUR: 'it returns false'. Refute it at one input. -/
def fnExactApplyTietzeWrong : ChangeSpec := { name := "fnExactApplyTietze", fn := fun _ => fun
  | [d1, d2] => { results := [.lit (.bool false)], args := [d1, d2] }
  | _ => none }
def FnExactApplyTietzeWrongFalsely : Prop := fnExactApplyTietzeRow.holds Try.pinned (OpenSpec.ofChange fnExactApplyTietzeWrong)

/-- 'laws.FnExactSimplifyPresentation': WHATEVER THE INPUT: true; the input reads as it did. -/
def fnExactSimplifyPresentationSpec : ChangeSpec := { name := "fnExactSimplifyPresentation", fn := fun _ => fun
  | [d] => { results := [.lit (.bool true)], args := [d] }
  | _ => none }
def fnExactSimplifyPresentationRow : OpenClaim := { program := "ytbcdngjajjgmkaa", sum := "2e0508e51174764434219a55cc9cbb7500243ac243b78314a6eaf86653e28f24", func := "loop.example/g00870/laws.FnExactSimplifyPresentation", spec := "fnExactSimplifyPresentation", unfollowed := true, recurses := true, apart := false }
def FnExactSimplifyPresentationSaid : Prop := fnExactSimplifyPresentationRow.holds Try.pinned (OpenSpec.ofChange fnExactSimplifyPresentationSpec)

/-- ITS FALSE NEIGHBOUR: 'it returns false'. Refute it at one input. -/
def fnExactSimplifyPresentationWrong : ChangeSpec := { name := "fnExactSimplifyPresentation", fn := fun _ => fun
  | [d] => { results := [.lit (.bool false)], args := [d] }
  | _ => none }
def FnExactSimplifyPresentationWrongFalsely : Prop := fnExactSimplifyPresentationRow.holds Try.pinned (OpenSpec.ofChange fnExactSimplifyPresentationWrong)

/-- 'laws.FnSimplify': WHATEVER THE INPUT: true; the input reads as it did. -/
def fnSimplifySpec : ChangeSpec := { name := "fnSimplify", fn := fun _ => fun
  | [d] => { results := [.lit (.bool true)], args := [d] }
  | _ => none }
def fnSimplifyRow : OpenClaim := { program := "ytbcdngjajjgmkaa", sum := "2e0508e51174764434219a55cc9cbb7500243ac243b78314a6eaf86653e28f24", func := "loop.example/g00870/laws.FnSimplify", spec := "fnSimplify", unfollowed := true, recurses := true, apart := false }
def FnSimplifySaid : Prop := fnSimplifyRow.holds Try.pinned (OpenSpec.ofChange fnSimplifySpec)

/-- ITS FALSE NEIGHBOUR: 'it returns false'. Refute it at one input. -/
def fnSimplifyWrong : ChangeSpec := { name := "fnSimplify", fn := fun _ => fun
  | [d] => { results := [.lit (.bool false)], args := [d] }
  | _ => none }
def FnSimplifyWrongFalsely : Prop := fnSimplifyRow.holds Try.pinned (OpenSpec.ofChange fnSimplifyWrong)

/- THE SECOND FORM. 'bulk': how many values and letters a reading holds, each counted each time it is reached (what is shared counts as often as it is met; a slice's spare places count too). A statement '..UptoSaid' is the law's where the arguments, and the package variables that the reading takes, are together of bulk at most 1048576: NARROWER than '..Said'. Prove '..Said' where nothing that the law and all that it calls make is longer than what came in: it says more and counts as full. Else prove '..UptoSaid'. A law counts once. -/
mutual
def uptoBulk {H : Type} : DataW H → Nat
  | .lit (.string bytes) => bytes.length + 1
  | .lit _ => 1
  | .nil => 1
  | .ptr d => uptoBulk d + 1
  | .slice elems spare => uptoBulkAll elems + uptoBulkAll spare + 1
  | .agg parts => uptoBulkAll parts + 1
  | .iface _ d => uptoBulk d + 1
  | .map entries => uptoBulkEntries entries + 1
  | .held _ => 1
def uptoBulkAll {H : Type} : List (DataW H) → Nat
  | [] => 0
  | d :: r => uptoBulk d + uptoBulkAll r
def uptoBulkEntries {H : Type} : List (Lit × DataW H) → Nat
  | [] => 0
  | x :: r => uptoBulkEntry x + uptoBulkEntries r
def uptoBulkEntry {H : Type} : Lit × DataW H → Nat
  | (.string bytes, d) => bytes.length + uptoBulk d + 1
  | (_, d) => uptoBulk d + 1
 end
def uptoSmall : (H : Type) → List (DataW H) → Bool := fun _ ds => decide (uptoBulkAll ds ≤ 1048576)
def OpenSpec.upto (s : _root_.Go.ChangeSpec) : _root_.Go.OpenSpec := { _root_.Go.OpenSpec.ofChange s with cond := some uptoSmall }

/-- 'laws.FnExactRepresentationAt', WHERE WHAT IT READS IS OF BULK AT MOST 1048576: true; the input reads as it did. -/
def fnExactRepresentationAtUptoRow : OpenClaim := { program := "ytbcdngjajjgmkaa", sum := "2e0508e51174764434219a55cc9cbb7500243ac243b78314a6eaf86653e28f24", func := "loop.example/g00870/laws.FnExactRepresentationAt", spec := "fnExactRepresentationAt", unfollowed := true, recurses := true, apart := false, narrowed := true }
def FnExactRepresentationAtUptoSaid : Prop := fnExactRepresentationAtUptoRow.holds Try.pinned (OpenSpec.upto fnExactRepresentationAtSpec)

/-- 'laws.FnExactStabilizerPresentation', WHERE WHAT IT READS IS OF BULK AT MOST 1048576: true; the input reads as it did. -/
def fnExactStabilizerPresentationUptoRow : OpenClaim := { program := "ytbcdngjajjgmkaa", sum := "2e0508e51174764434219a55cc9cbb7500243ac243b78314a6eaf86653e28f24", func := "loop.example/g00870/laws.FnExactStabilizerPresentation", spec := "fnExactStabilizerPresentation", unfollowed := true, recurses := true, apart := false, narrowed := true }
def FnExactStabilizerPresentationUptoSaid : Prop := fnExactStabilizerPresentationUptoRow.holds Try.pinned (OpenSpec.upto fnExactStabilizerPresentationSpec)

/-- 'laws.FnExactApplyTietze', WHERE WHAT IT READS IS OF BULK AT MOST 1048576: true; the input reads as it did. -/
def fnExactApplyTietzeUptoRow : OpenClaim := { program := "ytbcdngjajjgmkaa", sum := "2e0508e51174764434219a55cc9cbb7500243ac243b78314a6eaf86653e28f24", func := "loop.example/g00870/laws.FnExactApplyTietze", spec := "fnExactApplyTietze", unfollowed := true, recurses := true, apart := false, narrowed := true }
def FnExactApplyTietzeUptoSaid : Prop := fnExactApplyTietzeUptoRow.holds Try.pinned (OpenSpec.upto fnExactApplyTietzeSpec)

/-- 'laws.FnExactSimplifyPresentation', WHERE WHAT IT READS IS OF BULK AT MOST 1048576: true; the input reads as it did. -/
def fnExactSimplifyPresentationUptoRow : OpenClaim := { program := "ytbcdngjajjgmkaa", sum := "2e0508e51174764434219a55cc9cbb7500243ac243b78314a6eaf86653e28f24", func := "loop.example/g00870/laws.FnExactSimplifyPresentation", spec := "fnExactSimplifyPresentation", unfollowed := true, recurses := true, apart := false, narrowed := true }
def FnExactSimplifyPresentationUptoSaid : Prop := fnExactSimplifyPresentationUptoRow.holds Try.pinned (OpenSpec.upto fnExactSimplifyPresentationSpec)

/-- 'laws.FnSimplify', WHERE WHAT IT READS IS OF BULK AT MOST 1048576: true; the input reads as it did. -/
def fnSimplifyUptoRow : OpenClaim := { program := "ytbcdngjajjgmkaa", sum := "2e0508e51174764434219a55cc9cbb7500243ac243b78314a6eaf86653e28f24", func := "loop.example/g00870/laws.FnSimplify", spec := "fnSimplify", unfollowed := true, recurses := true, apart := false, narrowed := true }
def FnSimplifyUptoSaid : Prop := fnSimplifyUptoRow.holds Try.pinned (OpenSpec.upto fnSimplifySpec)

end Rows
end Go.Proofs.Ytbcdngjajjgmkaa
