/-
  No cell of these rows narrows 'for every input' (looked for: loops, veiled, ifaces, maps, wideKeys, modest, calm, conditions, laid).
  DERIVED. THE GIVEN ROWS OF THIS SEAT. 4 by the template 'for every input the law returns true; each argument reads behind the call as it read before'; 0 by the template 'total and deterministic' (their statements: YtbmgigbedmgfpaaTotals.lean).
  GIVEN WITH THE SEED: the statements are not yours to turn. If you find one false, say at which input.
  Laid BY PROGRAM, IN A SANDBOX (cutbox-rows.mjs): the forced cells as the released guide's own fill.sh prints them over the translation 61d325c081c38a42… (all of the seat's roots in one cut). By AI agents, Wed Nov 11 2026. No macro, syntax, notation, axiom, sorry.
-/
import Derived.Test.YtbmgigbedmgfpaaChecked
import GoSem.Claim
import GoSem.ClaimJoined
import GoSem.ClaimMapViews
import Derived.JoinedTies
import Derived.KernelRfl
namespace Go.Proofs.Ytbmgigbedmgfpaa
/- THE CELL 'sum', in the pinned program and in every row, IS THE sha256 OF THE DUMP (.gsa) THAT YtbmgigbedmgfpaaProg.lean LOADS. Nothing in Lean hashes anything: it is a label: what it is worth is what the hold of that sum in a sandbox is worth. -/
noncomputable def Try.pinned : Pinned := { name := "ytbmgigbedmgfpaa", sum := "61d325c081c38a421f1f590166082eb2ed4b0de2a77de6d92349debaa889c89e", checked := Try.checked }
namespace Rows
def none {H : Type} : Left H := { results := [], args := [] }

/-- 'wayfinderlaw16.LineJoins': WHATEVER THE INPUT: true; the input reads as it did. -/
def lineJoinsSpec : ChangeSpec := { name := "lineJoins", fn := fun _ => fun
  | [d1, d2, d3] => { results := [.lit (.bool true)], args := [d1, d2, d3] }
  | _ => none }
def lineJoinsRow : OpenClaim := { program := "ytbmgigbedmgfpaa", sum := "61d325c081c38a421f1f590166082eb2ed4b0de2a77de6d92349debaa889c89e", func := "wayfinder/wayfinderlaw16.LineJoins", spec := "lineJoins", inPlace := ["internal/bytealg.IndexByteString"], unfollowed := true, recurses := true, apart := false }
def LineJoinsSaid : Prop := lineJoinsRow.holds Try.pinned (OpenSpec.ofChange lineJoinsSpec)

/-- ITS FALSE NEIGHBOUR: 'it returns false'. Refute it at one input. -/
def lineJoinsWrong : ChangeSpec := { name := "lineJoins", fn := fun _ => fun
  | [d1, d2, d3] => { results := [.lit (.bool false)], args := [d1, d2, d3] }
  | _ => none }
def LineJoinsWrongFalsely : Prop := lineJoinsRow.holds Try.pinned (OpenSpec.ofChange lineJoinsWrong)

/-- 'wayfinderlaw20.ServParses': WHATEVER THE INPUT: true; the input reads as it did. -/
def servParsesSpec : ChangeSpec := { name := "servParses", fn := fun _ => fun
  | [d1, d2] => { results := [.lit (.bool true)], args := [d1, d2] }
  | _ => none }
def servParsesRow : OpenClaim := { program := "ytbmgigbedmgfpaa", sum := "61d325c081c38a421f1f590166082eb2ed4b0de2a77de6d92349debaa889c89e", func := "wayfinder/wayfinderlaw20.ServParses", spec := "servParses", inPlace := ["internal/bytealg.IndexByteString"], unfollowed := true, recurses := true, apart := false }
def ServParsesSaid : Prop := servParsesRow.holds Try.pinned (OpenSpec.ofChange servParsesSpec)

/-- ITS FALSE NEIGHBOUR: 'it returns false'. Refute it at one input. -/
def servParsesWrong : ChangeSpec := { name := "servParses", fn := fun _ => fun
  | [d1, d2] => { results := [.lit (.bool false)], args := [d1, d2] }
  | _ => none }
def ServParsesWrongFalsely : Prop := servParsesRow.holds Try.pinned (OpenSpec.ofChange servParsesWrong)

/-- 'wayfinderlaw20.ServFinds': WHATEVER THE INPUT: true; the input reads as it did. -/
def servFindsSpec : ChangeSpec := { name := "servFinds", fn := fun _ => fun
  | [d1, d2, d3] => { results := [.lit (.bool true)], args := [d1, d2, d3] }
  | _ => none }
def servFindsRow : OpenClaim := { program := "ytbmgigbedmgfpaa", sum := "61d325c081c38a421f1f590166082eb2ed4b0de2a77de6d92349debaa889c89e", func := "wayfinder/wayfinderlaw20.ServFinds", spec := "servFinds", inPlace := ["internal/bytealg.IndexByteString"], unfollowed := true, recurses := true, apart := false }
def ServFindsSaid : Prop := servFindsRow.holds Try.pinned (OpenSpec.ofChange servFindsSpec)

/-- ITS FALSE NEIGHBOUR: 'it returns false'. Refute it at one input. -/
def servFindsWrong : ChangeSpec := { name := "servFinds", fn := fun _ => fun
  | [d1, d2, d3] => { results := [.lit (.bool false)], args := [d1, d2, d3] }
  | _ => none }
def ServFindsWrongFalsely : Prop := servFindsRow.holds Try.pinned (OpenSpec.ofChange servFindsWrong)

/-- 'wayfinderlaw20.ServJoins': WHATEVER THE INPUT: true; the input reads as it did. -/
def servJoinsSpec : ChangeSpec := { name := "servJoins", fn := fun _ => fun
  | [d1, d2, d3] => { results := [.lit (.bool true)], args := [d1, d2, d3] }
  | _ => none }
def servJoinsRow : OpenClaim := { program := "ytbmgigbedmgfpaa", sum := "61d325c081c38a421f1f590166082eb2ed4b0de2a77de6d92349debaa889c89e", func := "wayfinder/wayfinderlaw20.ServJoins", spec := "servJoins", inPlace := ["internal/bytealg.IndexByteString"], unfollowed := true, recurses := true, apart := false }
def ServJoinsSaid : Prop := servJoinsRow.holds Try.pinned (OpenSpec.ofChange servJoinsSpec)

/-- ITS FALSE NEIGHBOUR: 'it returns false'. Refute it at one input. -/
def servJoinsWrong : ChangeSpec := { name := "servJoins", fn := fun _ => fun
  | [d1, d2, d3] => { results := [.lit (.bool false)], args := [d1, d2, d3] }
  | _ => none }
def ServJoinsWrongFalsely : Prop := servJoinsRow.holds Try.pinned (OpenSpec.ofChange servJoinsWrong)

/- THE SECOND FORM. 'bulk': how many values and letters a reading holds, each counted each time it is reached (what is shared counts as often as it is met; a slice's spare places count too). A statement '..UptoSaid' is the law's where the arguments, and the package variables that the reading takes, are together of bulk at most 1048576: NARROWER than '..Said'. Prove '..Said' where nothing that the law and all that it calls make is longer than what came in: it says more and counts as full. Else prove '..UptoSaid'. A law counts once. -/
mutual
def uptoBulk {H : Type} : DataW H → Nat
  | .lit (.string bytes) => bytes.length + 1
  | .lit _ => 1
  | .nil => 1
  | .ptr d => uptoBulk d + 1
  | .slice elems spare => uptoBulkAll elems + uptoBulkAll spare + 1
  | .agg parts => uptoBulkAll parts + 1
  | .iface _ d => uptoBulk d + 1
  | .map entries => uptoBulkEntries entries + 1
  | .held _ => 1
def uptoBulkAll {H : Type} : List (DataW H) → Nat
  | [] => 0
  | d :: r => uptoBulk d + uptoBulkAll r
def uptoBulkEntries {H : Type} : List (Lit × DataW H) → Nat
  | [] => 0
  | x :: r => uptoBulkEntry x + uptoBulkEntries r
def uptoBulkEntry {H : Type} : Lit × DataW H → Nat
  | (.string bytes, d) => bytes.length + uptoBulk d + 1
  | (_, d) => uptoBulk d + 1
 end
def uptoSmall : (H : Type) → List (DataW H) → Bool := fun _ ds => decide (uptoBulkAll ds ≤ 1048576)
def OpenSpec.upto (s : _root_.Go.ChangeSpec) : _root_.Go.OpenSpec := { _root_.Go.OpenSpec.ofChange s with cond := some uptoSmall }

/-- 'wayfinderlaw16.LineJoins', WHERE WHAT IT READS IS OF BULK AT MOST 1048576: true; the input reads as it did. -/
def lineJoinsUptoRow : OpenClaim := { program := "ytbmgigbedmgfpaa", sum := "61d325c081c38a421f1f590166082eb2ed4b0de2a77de6d92349debaa889c89e", func := "wayfinder/wayfinderlaw16.LineJoins", spec := "lineJoins", inPlace := ["internal/bytealg.IndexByteString"], unfollowed := true, recurses := true, apart := false, narrowed := true }
def LineJoinsUptoSaid : Prop := lineJoinsUptoRow.holds Try.pinned (OpenSpec.upto lineJoinsSpec)

/-- 'wayfinderlaw20.ServParses', WHERE WHAT IT READS IS OF BULK AT MOST 1048576: true; the input reads as it did. -/
def servParsesUptoRow : OpenClaim := { program := "ytbmgigbedmgfpaa", sum := "61d325c081c38a421f1f590166082eb2ed4b0de2a77de6d92349debaa889c89e", func := "wayfinder/wayfinderlaw20.ServParses", spec := "servParses", inPlace := ["internal/bytealg.IndexByteString"], unfollowed := true, recurses := true, apart := false, narrowed := true }
def ServParsesUptoSaid : Prop := servParsesUptoRow.holds Try.pinned (OpenSpec.upto servParsesSpec)

/-- 'wayfinderlaw20.ServFinds', WHERE WHAT IT READS IS OF BULK AT MOST 1048576: true; the input reads as it did. -/
def servFindsUptoRow : OpenClaim := { program := "ytbmgigbedmgfpaa", sum := "61d325c081c38a421f1f590166082eb2ed4b0de2a77de6d92349debaa889c89e", func := "wayfinder/wayfinderlaw20.ServFinds", spec := "servFinds", inPlace := ["internal/bytealg.IndexByteString"], unfollowed := true, recurses := true, apart := false, narrowed := true }
def ServFindsUptoSaid : Prop := servFindsUptoRow.holds Try.pinned (OpenSpec.upto servFindsSpec)

/-- 'wayfinderlaw20.ServJoins', WHERE WHAT IT READS IS OF BULK AT MOST 1048576: true; the input reads as it did. -/
def servJoinsUptoRow : OpenClaim := { program := "ytbmgigbedmgfpaa", sum := "61d325c081c38a421f1f590166082eb2ed4b0de2a77de6d92349debaa889c89e", func := "wayfinder/wayfinderlaw20.ServJoins", spec := "servJoins", inPlace := ["internal/bytealg.IndexByteString"], unfollowed := true, recurses := true, apart := false, narrowed := true }
def ServJoinsUptoSaid : Prop := servJoinsUptoRow.holds Try.pinned (OpenSpec.upto servJoinsSpec)

end Rows
end Go.Proofs.Ytbmgigbedmgfpaa
