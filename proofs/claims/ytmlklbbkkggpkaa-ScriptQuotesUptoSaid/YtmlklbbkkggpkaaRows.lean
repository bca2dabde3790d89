/-
  No cell of these rows narrows 'for every input' (looked for: loops, veiled, ifaces, maps, wideKeys, modest, calm, conditions, laid).
  DERIVED. THE GIVEN ROWS OF THIS SEAT. 6 by the template 'for every input the law returns true; each argument reads behind the call as it read before'; 0 by the template 'total and deterministic' (their statements: YtmlklbbkkggpkaaTotals.lean).
  GIVEN WITH THE SEED: the statements are not yours to turn. If you find one false, say at which input.
  Laid BY PROGRAM, IN A SANDBOX (cutbox-rows.mjs): the forced cells as the released guide's own fill.sh prints them over the translation 5ceed95de20e78c0… (all of the seat's roots in one cut). By AI agents, Wed Nov 11 2026. No macro, syntax, notation, axiom, sorry.
-/
import Derived.Test.YtmlklbbkkggpkaaChecked
import GoSem.Claim
import GoSem.ClaimJoined
import GoSem.ClaimMapViews
import Derived.JoinedTies
import Derived.KernelRfl
namespace Go.Proofs.Ytmlklbbkkggpkaa
/- THE CELL 'sum', in the pinned program and in every row, IS THE sha256 OF THE DUMP (.gsa) THAT YtmlklbbkkggpkaaProg.lean LOADS. Nothing in Lean hashes anything: it is a label: what it is worth is what the hold of that sum in a sandbox is worth. -/
noncomputable def Try.pinned : Pinned := { name := "ytmlklbbkkggpkaa", sum := "5ceed95de20e78c0e6268c394dda6b5a95792335a8f178094175a599280a57d4", checked := Try.checked }
namespace Rows
def none {H : Type} : Left H := { results := [], args := [] }

/-- 'cairnlaw19.PutNames': WHATEVER THE INPUT: true; the input reads as it did. -/
def putNamesSpec : ChangeSpec := { name := "putNames", fn := fun _ => fun
  | [] => { results := [.lit (.bool true)], args := [] }
  | _ => none }
def putNamesRow : OpenClaim := { program := "ytmlklbbkkggpkaa", sum := "5ceed95de20e78c0e6268c394dda6b5a95792335a8f178094175a599280a57d4", func := "cairn/cairnlaw19.PutNames", spec := "putNames", apart := false }
def PutNamesSaid : Prop := putNamesRow.holds Try.pinned (OpenSpec.ofChange putNamesSpec)

/-- ITS FALSE NEIGHBOUR: 'it returns false'. Refute it at one input. -/
def putNamesWrong : ChangeSpec := { name := "putNames", fn := fun _ => fun
  | [] => { results := [.lit (.bool false)], args := [] }
  | _ => none }
def PutNamesWrongFalsely : Prop := putNamesRow.holds Try.pinned (OpenSpec.ofChange putNamesWrong)

/-- 'cairnlaw25.AuditNames': WHATEVER THE INPUT: true; the input reads as it did. -/
def auditNamesSpec : ChangeSpec := { name := "auditNames", fn := fun _ => fun
  | [] => { results := [.lit (.bool true)], args := [] }
  | _ => none }
def auditNamesRow : OpenClaim := { program := "ytmlklbbkkggpkaa", sum := "5ceed95de20e78c0e6268c394dda6b5a95792335a8f178094175a599280a57d4", func := "cairn/cairnlaw25.AuditNames", spec := "auditNames", apart := false }
def AuditNamesSaid : Prop := auditNamesRow.holds Try.pinned (OpenSpec.ofChange auditNamesSpec)

/-- ITS FALSE NEIGHBOUR: 'it returns false'. Refute it at one input. -/
def auditNamesWrong : ChangeSpec := { name := "auditNames", fn := fun _ => fun
  | [] => { results := [.lit (.bool false)], args := [] }
  | _ => none }
def AuditNamesWrongFalsely : Prop := auditNamesRow.holds Try.pinned (OpenSpec.ofChange auditNamesWrong)

/-- 'cairnlaw32.ScriptNames': WHATEVER THE INPUT: true; the input reads as it did. -/
def scriptNamesSpec : ChangeSpec := { name := "scriptNames", fn := fun _ => fun
  | [] => { results := [.lit (.bool true)], args := [] }
  | _ => none }
def scriptNamesRow : OpenClaim := { program := "ytmlklbbkkggpkaa", sum := "5ceed95de20e78c0e6268c394dda6b5a95792335a8f178094175a599280a57d4", func := "cairn/cairnlaw32.ScriptNames", spec := "scriptNames", apart := false }
def ScriptNamesSaid : Prop := scriptNamesRow.holds Try.pinned (OpenSpec.ofChange scriptNamesSpec)

/-- ITS FALSE NEIGHBOUR: 'it returns false'. Refute it at one input. -/
def scriptNamesWrong : ChangeSpec := { name := "scriptNames", fn := fun _ => fun
  | [] => { results := [.lit (.bool false)], args := [] }
  | _ => none }
def ScriptNamesWrongFalsely : Prop := scriptNamesRow.holds Try.pinned (OpenSpec.ofChange scriptNamesWrong)

/-- 'cairnlaw25.AuditWorst': WHATEVER THE INPUT: true; the input reads as it did. -/
def auditWorstSpec : ChangeSpec := { name := "auditWorst", fn := fun _ => fun
  | [d] => { results := [.lit (.bool true)], args := [d] }
  | _ => none }
def auditWorstRow : OpenClaim := { program := "ytmlklbbkkggpkaa", sum := "5ceed95de20e78c0e6268c394dda6b5a95792335a8f178094175a599280a57d4", func := "cairn/cairnlaw25.AuditWorst", spec := "auditWorst", inPlace := ["internal/bytealg.abigen_runtime_cmpstring"], unfollowed := true, recurses := true, apart := false }
def AuditWorstSaid : Prop := auditWorstRow.holds Try.pinned (OpenSpec.ofChange auditWorstSpec)

/-- ITS FALSE NEIGHBOUR: 'it returns false'. Refute it at one input. -/
def auditWorstWrong : ChangeSpec := { name := "auditWorst", fn := fun _ => fun
  | [d] => { results := [.lit (.bool false)], args := [d] }
  | _ => none }
def AuditWorstWrongFalsely : Prop := auditWorstRow.holds Try.pinned (OpenSpec.ofChange auditWorstWrong)

/-- 'cairnlaw25.AuditOrder': WHATEVER THE INPUT: true; the input reads as it did. -/
def auditOrderSpec : ChangeSpec := { name := "auditOrder", fn := fun _ => fun
  | [d] => { results := [.lit (.bool true)], args := [d] }
  | _ => none }
def auditOrderRow : OpenClaim := { program := "ytmlklbbkkggpkaa", sum := "5ceed95de20e78c0e6268c394dda6b5a95792335a8f178094175a599280a57d4", func := "cairn/cairnlaw25.AuditOrder", spec := "auditOrder", inPlace := ["internal/bytealg.abigen_runtime_cmpstring"], unfollowed := true, recurses := true, apart := false }
def AuditOrderSaid : Prop := auditOrderRow.holds Try.pinned (OpenSpec.ofChange auditOrderSpec)

/-- ITS FALSE NEIGHBOUR: 'it returns false'. Refute it at one input. -/
def auditOrderWrong : ChangeSpec := { name := "auditOrder", fn := fun _ => fun
  | [d] => { results := [.lit (.bool false)], args := [d] }
  | _ => none }
def AuditOrderWrongFalsely : Prop := auditOrderRow.holds Try.pinned (OpenSpec.ofChange auditOrderWrong)

/-- 'cairnlaw32.ScriptQuotes': WHATEVER THE INPUT: true; the input reads as it did. -/
def scriptQuotesSpec : ChangeSpec := { name := "scriptQuotes", fn := fun _ => fun
  | [d] => { results := [.lit (.bool true)], args := [d] }
  | _ => none }
def scriptQuotesRow : OpenClaim := { program := "ytmlklbbkkggpkaa", sum := "5ceed95de20e78c0e6268c394dda6b5a95792335a8f178094175a599280a57d4", func := "cairn/cairnlaw32.ScriptQuotes", spec := "scriptQuotes", inPlace := ["internal/bytealg.IndexByteString"], apart := false }
def ScriptQuotesSaid : Prop := scriptQuotesRow.holds Try.pinned (OpenSpec.ofChange scriptQuotesSpec)

/-- ITS FALSE NEIGHBOUR: 'it returns false'. Refute it at one input. -/
def scriptQuotesWrong : ChangeSpec := { name := "scriptQuotes", fn := fun _ => fun
  | [d] => { results := [.lit (.bool false)], args := [d] }
  | _ => none }
def ScriptQuotesWrongFalsely : Prop := scriptQuotesRow.holds Try.pinned (OpenSpec.ofChange scriptQuotesWrong)

/- THE SECOND FORM. 'bulk': how many values and letters a reading holds, each counted each time it is reached (what is shared counts as often as it is met; a slice's spare places count too). A statement '..UptoSaid' is the law's where the arguments, and the package variables that the reading takes, are together of bulk at most 1048576: NARROWER than '..Said'. Prove '..Said' where nothing that the law and all that it calls make is longer than what came in: it says more and counts as full. Else prove '..UptoSaid'. A law counts once. -/
mutual
def uptoBulk {H : Type} : DataW H → Nat
  | .lit (.string bytes) => bytes.length + 1
  | .lit _ => 1
  | .nil => 1
  | .ptr d => uptoBulk d + 1
  | .slice elems spare => uptoBulkAll elems + uptoBulkAll spare + 1
  | .agg parts => uptoBulkAll parts + 1
  | .iface _ d => uptoBulk d + 1
  | .map entries => uptoBulkEntries entries + 1
  | .held _ => 1
def uptoBulkAll {H : Type} : List (DataW H) → Nat
  | [] => 0
  | d :: r => uptoBulk d + uptoBulkAll r
def uptoBulkEntries {H : Type} : List (Lit × DataW H) → Nat
  | [] => 0
  | x :: r => uptoBulkEntry x + uptoBulkEntries r
def uptoBulkEntry {H : Type} : Lit × DataW H → Nat
  | (.string bytes, d) => bytes.length + uptoBulk d + 1
  | (_, d) => uptoBulk d + 1
 end
def uptoSmall : (H : Type) → List (DataW H) → Bool := fun _ ds => decide (uptoBulkAll ds ≤ 1048576)
def OpenSpec.upto (s : _root_.Go.ChangeSpec) : _root_.Go.OpenSpec := { _root_.Go.OpenSpec.ofChange s with cond := some uptoSmall }

/-- 'cairnlaw19.PutNames', WHERE WHAT IT READS IS OF BULK AT MOST 1048576: true; the input reads as it did. -/
def putNamesUptoRow : OpenClaim := { program := "ytmlklbbkkggpkaa", sum := "5ceed95de20e78c0e6268c394dda6b5a95792335a8f178094175a599280a57d4", func := "cairn/cairnlaw19.PutNames", spec := "putNames", apart := false, narrowed := true }
def PutNamesUptoSaid : Prop := putNamesUptoRow.holds Try.pinned (OpenSpec.upto putNamesSpec)

/-- 'cairnlaw25.AuditNames', WHERE WHAT IT READS IS OF BULK AT MOST 1048576: true; the input reads as it did. -/
def auditNamesUptoRow : OpenClaim := { program := "ytmlklbbkkggpkaa", sum := "5ceed95de20e78c0e6268c394dda6b5a95792335a8f178094175a599280a57d4", func := "cairn/cairnlaw25.AuditNames", spec := "auditNames", apart := false, narrowed := true }
def AuditNamesUptoSaid : Prop := auditNamesUptoRow.holds Try.pinned (OpenSpec.upto auditNamesSpec)

/-- 'cairnlaw32.ScriptNames', WHERE WHAT IT READS IS OF BULK AT MOST 1048576: true; the input reads as it did. -/
def scriptNamesUptoRow : OpenClaim := { program := "ytmlklbbkkggpkaa", sum := "5ceed95de20e78c0e6268c394dda6b5a95792335a8f178094175a599280a57d4", func := "cairn/cairnlaw32.ScriptNames", spec := "scriptNames", apart := false, narrowed := true }
def ScriptNamesUptoSaid : Prop := scriptNamesUptoRow.holds Try.pinned (OpenSpec.upto scriptNamesSpec)

/-- 'cairnlaw25.AuditWorst', WHERE WHAT IT READS IS OF BULK AT MOST 1048576: true; the input reads as it did. -/
def auditWorstUptoRow : OpenClaim := { program := "ytmlklbbkkggpkaa", sum := "5ceed95de20e78c0e6268c394dda6b5a95792335a8f178094175a599280a57d4", func := "cairn/cairnlaw25.AuditWorst", spec := "auditWorst", inPlace := ["internal/bytealg.abigen_runtime_cmpstring"], unfollowed := true, recurses := true, apart := false, narrowed := true }
def AuditWorstUptoSaid : Prop := auditWorstUptoRow.holds Try.pinned (OpenSpec.upto auditWorstSpec)

/-- 'cairnlaw25.AuditOrder', WHERE WHAT IT READS IS OF BULK AT MOST 1048576: true; the input reads as it did. -/
def auditOrderUptoRow : OpenClaim := { program := "ytmlklbbkkggpkaa", sum := "5ceed95de20e78c0e6268c394dda6b5a95792335a8f178094175a599280a57d4", func := "cairn/cairnlaw25.AuditOrder", spec := "auditOrder", inPlace := ["internal/bytealg.abigen_runtime_cmpstring"], unfollowed := true, recurses := true, apart := false, narrowed := true }
def AuditOrderUptoSaid : Prop := auditOrderUptoRow.holds Try.pinned (OpenSpec.upto auditOrderSpec)

/-- 'cairnlaw32.ScriptQuotes', WHERE WHAT IT READS IS OF BULK AT MOST 1048576: true; the input reads as it did. -/
def scriptQuotesUptoRow : OpenClaim := { program := "ytmlklbbkkggpkaa", sum := "5ceed95de20e78c0e6268c394dda6b5a95792335a8f178094175a599280a57d4", func := "cairn/cairnlaw32.ScriptQuotes", spec := "scriptQuotes", inPlace := ["internal/bytealg.IndexByteString"], apart := false, narrowed := true }
def ScriptQuotesUptoSaid : Prop := scriptQuotesUptoRow.holds Try.pinned (OpenSpec.upto scriptQuotesSpec)

end Rows
end Go.Proofs.Ytmlklbbkkggpkaa
