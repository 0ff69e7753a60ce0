/-
  No cell of these rows narrows 'for every input' (looked for: loops, veiled, ifaces, maps, wideKeys, modest, calm, conditions, laid).
  DERIVED. THE GIVEN ROWS OF THIS SEAT. 4 by the template 'for every input the law returns true; each argument reads behind the call as it read before'; 0 by the template 'total and deterministic' (their statements: YtccppgpedlfjdaaTotals.lean).
  GIVEN WITH THE SEED: the statements are not yours to turn. If you find one false, say at which input.
  Laid BY PROGRAM, IN A SANDBOX (cutbox-rows.mjs): the forced cells as the released guide's own fill.sh prints them over the translation 2c454ec250a20f64… (all of the seat's roots in one cut). By AI agents, Wed Nov 11 2026. No macro, syntax, notation, axiom, sorry.
-/
import Derived.Test.YtccppgpedlfjdaaChecked
import GoSem.Claim
import GoSem.ClaimJoined
import GoSem.ClaimMapViews
import Derived.JoinedTies
import Derived.KernelRfl
namespace Go.Proofs.Ytccppgpedlfjdaa
/- THE CELL 'sum', in the pinned program and in every row, IS THE sha256 OF THE DUMP (.gsa) THAT YtccppgpedlfjdaaProg.lean LOADS. Nothing in Lean hashes anything: it is a label: what it is worth is what the hold of that sum in a sandbox is worth. -/
noncomputable def Try.pinned : Pinned := { name := "ytccppgpedlfjdaa", sum := "2c454ec250a20f64f02c84ae16bde574f4e1cf48c4f278ae37db2d8156ddc61f", checked := Try.checked }
namespace Rows
def none {H : Type} : Left H := { results := [], args := [] }

/-- 'wayfinderlaw22.LotDraws': WHATEVER THE INPUT: true; the input reads as it did. -/
def lotDrawsSpec : ChangeSpec := { name := "lotDraws", fn := fun _ => fun
  | [d1, d2] => { results := [.lit (.bool true)], args := [d1, d2] }
  | _ => none }
def lotDrawsRow : OpenClaim := { program := "ytccppgpedlfjdaa", sum := "2c454ec250a20f64f02c84ae16bde574f4e1cf48c4f278ae37db2d8156ddc61f", func := "wayfinder/wayfinderlaw22.LotDraws", spec := "lotDraws", apart := false }
def LotDrawsSaid : Prop := lotDrawsRow.holds Try.pinned (OpenSpec.ofChange lotDrawsSpec)

/-- ITS FALSE NEIGHBOUR: 'it returns false'. Refute it at one input. -/
def lotDrawsWrong : ChangeSpec := { name := "lotDraws", fn := fun _ => fun
  | [d1, d2] => { results := [.lit (.bool false)], args := [d1, d2] }
  | _ => none }
def LotDrawsWrongFalsely : Prop := lotDrawsRow.holds Try.pinned (OpenSpec.ofChange lotDrawsWrong)

/-- 'wayfinderlaw22.LotOwn': WHATEVER THE INPUT: true; the input reads as it did. -/
def lotOwnSpec : ChangeSpec := { name := "lotOwn", fn := fun _ => fun
  | [d1, d2] => { results := [.lit (.bool true)], args := [d1, d2] }
  | _ => none }
def lotOwnRow : OpenClaim := { program := "ytccppgpedlfjdaa", sum := "2c454ec250a20f64f02c84ae16bde574f4e1cf48c4f278ae37db2d8156ddc61f", func := "wayfinder/wayfinderlaw22.LotOwn", spec := "lotOwn", apart := false }
def LotOwnSaid : Prop := lotOwnRow.holds Try.pinned (OpenSpec.ofChange lotOwnSpec)

/-- ITS FALSE NEIGHBOUR: 'it returns false'. Refute it at one input. -/
def lotOwnWrong : ChangeSpec := { name := "lotOwn", fn := fun _ => fun
  | [d1, d2] => { results := [.lit (.bool false)], args := [d1, d2] }
  | _ => none }
def LotOwnWrongFalsely : Prop := lotOwnRow.holds Try.pinned (OpenSpec.ofChange lotOwnWrong)

/-- 'wayfinderlaw41.WeighKeeps': WHATEVER THE INPUT: true; the input reads as it did. -/
def weighKeepsSpec : ChangeSpec := { name := "weighKeeps", fn := fun _ => fun
  | [d1, d2] => { results := [.lit (.bool true)], args := [d1, d2] }
  | _ => none }
def weighKeepsRow : OpenClaim := { program := "ytccppgpedlfjdaa", sum := "2c454ec250a20f64f02c84ae16bde574f4e1cf48c4f278ae37db2d8156ddc61f", func := "wayfinder/wayfinderlaw41.WeighKeeps", spec := "weighKeeps", unfollowed := true, recurses := true, apart := false }
def WeighKeepsSaid : Prop := weighKeepsRow.holds Try.pinned (OpenSpec.ofChange weighKeepsSpec)

/-- ITS FALSE NEIGHBOUR: 'it returns false'. Refute it at one input. -/
def weighKeepsWrong : ChangeSpec := { name := "weighKeeps", fn := fun _ => fun
  | [d1, d2] => { results := [.lit (.bool false)], args := [d1, d2] }
  | _ => none }
def WeighKeepsWrongFalsely : Prop := weighKeepsRow.holds Try.pinned (OpenSpec.ofChange weighKeepsWrong)

/-- 'wayfinderlaw41.WeighPlain': WHATEVER THE INPUT: true; the input reads as it did. -/
def weighPlainSpec : ChangeSpec := { name := "weighPlain", fn := fun _ => fun
  | [d1, d2] => { results := [.lit (.bool true)], args := [d1, d2] }
  | _ => none }
def weighPlainRow : OpenClaim := { program := "ytccppgpedlfjdaa", sum := "2c454ec250a20f64f02c84ae16bde574f4e1cf48c4f278ae37db2d8156ddc61f", func := "wayfinder/wayfinderlaw41.WeighPlain", spec := "weighPlain", unfollowed := true, recurses := true, apart := false }
def WeighPlainSaid : Prop := weighPlainRow.holds Try.pinned (OpenSpec.ofChange weighPlainSpec)

/-- ITS FALSE NEIGHBOUR: 'it returns false'. Refute it at one input. -/
def weighPlainWrong : ChangeSpec := { name := "weighPlain", fn := fun _ => fun
  | [d1, d2] => { results := [.lit (.bool false)], args := [d1, d2] }
  | _ => none }
def WeighPlainWrongFalsely : Prop := weighPlainRow.holds Try.pinned (OpenSpec.ofChange weighPlainWrong)

/- THE SECOND FORM. 'bulk': how many values and letters a reading holds, each counted each time it is reached (what is shared counts as often as it is met; a slice's spare places count too). A statement '..UptoSaid' is the law's where the arguments, and the package variables that the reading takes, are together of bulk at most 1048576: NARROWER than '..Said'. Prove '..Said' where nothing that the law and all that it calls make is longer than what came in: it says more and counts as full. Else prove '..UptoSaid'. A law counts once. -/
mutual
def uptoBulk {H : Type} : DataW H → Nat
  | .lit (.string bytes) => bytes.length + 1
  | .lit _ => 1
  | .nil => 1
  | .ptr d => uptoBulk d + 1
  | .slice elems spare => uptoBulkAll elems + uptoBulkAll spare + 1
  | .agg parts => uptoBulkAll parts + 1
  | .iface _ d => uptoBulk d + 1
  | .map entries => uptoBulkEntries entries + 1
  | .held _ => 1
def uptoBulkAll {H : Type} : List (DataW H) → Nat
  | [] => 0
  | d :: r => uptoBulk d + uptoBulkAll r
def uptoBulkEntries {H : Type} : List (Lit × DataW H) → Nat
  | [] => 0
  | x :: r => uptoBulkEntry x + uptoBulkEntries r
def uptoBulkEntry {H : Type} : Lit × DataW H → Nat
  | (.string bytes, d) => bytes.length + uptoBulk d + 1
  | (_, d) => uptoBulk d + 1
 end
def uptoSmall : (H : Type) → List (DataW H) → Bool := fun _ ds => decide (uptoBulkAll ds ≤ 1048576)
def OpenSpec.upto (s : _root_.Go.ChangeSpec) : _root_.Go.OpenSpec := { _root_.Go.OpenSpec.ofChange s with cond := some uptoSmall }

/-- 'wayfinderlaw22.LotDraws', WHERE WHAT IT READS IS OF BULK AT MOST 1048576: true; the input reads as it did. -/
def lotDrawsUptoRow : OpenClaim := { program := "ytccppgpedlfjdaa", sum := "2c454ec250a20f64f02c84ae16bde574f4e1cf48c4f278ae37db2d8156ddc61f", func := "wayfinder/wayfinderlaw22.LotDraws", spec := "lotDraws", apart := false, narrowed := true }
def LotDrawsUptoSaid : Prop := lotDrawsUptoRow.holds Try.pinned (OpenSpec.upto lotDrawsSpec)

/-- 'wayfinderlaw22.LotOwn', WHERE WHAT IT READS IS OF BULK AT MOST 1048576: true; the input reads as it did. -/
def lotOwnUptoRow : OpenClaim := { program := "ytccppgpedlfjdaa", sum := "2c454ec250a20f64f02c84ae16bde574f4e1cf48c4f278ae37db2d8156ddc61f", func := "wayfinder/wayfinderlaw22.LotOwn", spec := "lotOwn", apart := false, narrowed := true }
def LotOwnUptoSaid : Prop := lotOwnUptoRow.holds Try.pinned (OpenSpec.upto lotOwnSpec)

/-- 'wayfinderlaw41.WeighKeeps', WHERE WHAT IT READS IS OF BULK AT MOST 1048576: true; the input reads as it did. -/
def weighKeepsUptoRow : OpenClaim := { program := "ytccppgpedlfjdaa", sum := "2c454ec250a20f64f02c84ae16bde574f4e1cf48c4f278ae37db2d8156ddc61f", func := "wayfinder/wayfinderlaw41.WeighKeeps", spec := "weighKeeps", unfollowed := true, recurses := true, apart := false, narrowed := true }
def WeighKeepsUptoSaid : Prop := weighKeepsUptoRow.holds Try.pinned (OpenSpec.upto weighKeepsSpec)

/-- 'wayfinderlaw41.WeighPlain', WHERE WHAT IT READS IS OF BULK AT MOST 1048576: true; the input reads as it did. -/
def weighPlainUptoRow : OpenClaim := { program := "ytccppgpedlfjdaa", sum := "2c454ec250a20f64f02c84ae16bde574f4e1cf48c4f278ae37db2d8156ddc61f", func := "wayfinder/wayfinderlaw41.WeighPlain", spec := "weighPlain", unfollowed := true, recurses := true, apart := false, narrowed := true }
def WeighPlainUptoSaid : Prop := weighPlainUptoRow.holds Try.pinned (OpenSpec.upto weighPlainSpec)

end Rows
end Go.Proofs.Ytccppgpedlfjdaa
