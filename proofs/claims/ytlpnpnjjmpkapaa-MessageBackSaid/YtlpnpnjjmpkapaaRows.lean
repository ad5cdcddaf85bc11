/-
  No cell of these rows narrows 'for every input' (looked for: loops, veiled, ifaces, maps, wideKeys, modest, calm, conditions, laid).
  DERIVED. THE GIVEN ROWS OF THIS SEAT. 9 by the template 'for every input the law returns true; each argument reads behind the call as it read before'; 0 by the template 'total and deterministic' (their statements: YtlpnpnjjmpkapaaTotals.lean).
  GIVEN WITH THE SEED: the statements are not yours to turn. If you find one false, say at which input.
  Laid BY PROGRAM, IN A SANDBOX (cutbox-rows.mjs): the forced cells as the released guide's own fill.sh prints them over the translation 211e8c62d65b43c0… (all of the seat's roots in one cut). By AI agents, Wed Nov 11 2026. No macro, syntax, notation, axiom, sorry.
-/
import Derived.Test.YtlpnpnjjmpkapaaChecked
import GoSem.Claim
import GoSem.ClaimJoined
import GoSem.ClaimMapViews
import Derived.JoinedTies
import Derived.KernelRfl
namespace Go.Proofs.Ytlpnpnjjmpkapaa
/- THE CELL 'sum', in the pinned program and in every row, IS THE sha256 OF THE DUMP (.gsa) THAT YtlpnpnjjmpkapaaProg.lean LOADS. Nothing in Lean hashes anything: it is a label: what it is worth is what the hold of that sum in a sandbox is worth. -/
noncomputable def Try.pinned : Pinned := { name := "ytlpnpnjjmpkapaa", sum := "211e8c62d65b43c099cd9099a9781bbbe198abc60148dc11a4d8acea45f83eab", checked := Try.checked }
namespace Rows
def none {H : Type} : Left H := { results := [], args := [] }

/-- 'winnowlaw05.MessageRight': WHATEVER THE INPUT: true; the input reads as it did. -/
def messageRightSpec : ChangeSpec := { name := "messageRight", fn := fun _ => fun
  | [d] => { results := [.lit (.bool true)], args := [d] }
  | _ => none }
def messageRightRow : OpenClaim := { program := "ytlpnpnjjmpkapaa", sum := "211e8c62d65b43c099cd9099a9781bbbe198abc60148dc11a4d8acea45f83eab", func := "winnow/winnowlaw05.MessageRight", spec := "messageRight", unfollowed := true, recurses := true, apart := false }
def MessageRightSaid : Prop := messageRightRow.holds Try.pinned (OpenSpec.ofChange messageRightSpec)

/-- ITS FALSE NEIGHBOUR: 'it returns false'. Refute it at one input. -/
def messageRightWrong : ChangeSpec := { name := "messageRight", fn := fun _ => fun
  | [d] => { results := [.lit (.bool false)], args := [d] }
  | _ => none }
def MessageRightWrongFalsely : Prop := messageRightRow.holds Try.pinned (OpenSpec.ofChange messageRightWrong)

/-- 'winnowlaw05.MessageEncodes': WHATEVER THE INPUT: true; the input reads as it did. -/
def messageEncodesSpec : ChangeSpec := { name := "messageEncodes", fn := fun _ => fun
  | [d] => { results := [.lit (.bool true)], args := [d] }
  | _ => none }
def messageEncodesRow : OpenClaim := { program := "ytlpnpnjjmpkapaa", sum := "211e8c62d65b43c099cd9099a9781bbbe198abc60148dc11a4d8acea45f83eab", func := "winnow/winnowlaw05.MessageEncodes", spec := "messageEncodes", unfollowed := true, recurses := true, apart := false }
def MessageEncodesSaid : Prop := messageEncodesRow.holds Try.pinned (OpenSpec.ofChange messageEncodesSpec)

/-- ITS FALSE NEIGHBOUR: 'it returns false'. Refute it at one input. -/
def messageEncodesWrong : ChangeSpec := { name := "messageEncodes", fn := fun _ => fun
  | [d] => { results := [.lit (.bool false)], args := [d] }
  | _ => none }
def MessageEncodesWrongFalsely : Prop := messageEncodesRow.holds Try.pinned (OpenSpec.ofChange messageEncodesWrong)

/-- 'winnowlaw05.MessageDecodes': WHATEVER THE INPUT: true; the input reads as it did. -/
def messageDecodesSpec : ChangeSpec := { name := "messageDecodes", fn := fun _ => fun
  | [d] => { results := [.lit (.bool true)], args := [d] }
  | _ => none }
def messageDecodesRow : OpenClaim := { program := "ytlpnpnjjmpkapaa", sum := "211e8c62d65b43c099cd9099a9781bbbe198abc60148dc11a4d8acea45f83eab", func := "winnow/winnowlaw05.MessageDecodes", spec := "messageDecodes", unfollowed := true, recurses := true, apart := false }
def MessageDecodesSaid : Prop := messageDecodesRow.holds Try.pinned (OpenSpec.ofChange messageDecodesSpec)

/-- ITS FALSE NEIGHBOUR: 'it returns false'. Refute it at one input. -/
def messageDecodesWrong : ChangeSpec := { name := "messageDecodes", fn := fun _ => fun
  | [d] => { results := [.lit (.bool false)], args := [d] }
  | _ => none }
def MessageDecodesWrongFalsely : Prop := messageDecodesRow.holds Try.pinned (OpenSpec.ofChange messageDecodesWrong)

/-- 'winnowlaw05.MessageFramed': WHATEVER THE INPUT: true; the input reads as it did. -/
def messageFramedSpec : ChangeSpec := { name := "messageFramed", fn := fun _ => fun
  | [d] => { results := [.lit (.bool true)], args := [d] }
  | _ => none }
def messageFramedRow : OpenClaim := { program := "ytlpnpnjjmpkapaa", sum := "211e8c62d65b43c099cd9099a9781bbbe198abc60148dc11a4d8acea45f83eab", func := "winnow/winnowlaw05.MessageFramed", spec := "messageFramed", unfollowed := true, recurses := true, apart := false }
def MessageFramedSaid : Prop := messageFramedRow.holds Try.pinned (OpenSpec.ofChange messageFramedSpec)

/-- ITS FALSE NEIGHBOUR: 'it returns false'. Refute it at one input. -/
def messageFramedWrong : ChangeSpec := { name := "messageFramed", fn := fun _ => fun
  | [d] => { results := [.lit (.bool false)], args := [d] }
  | _ => none }
def MessageFramedWrongFalsely : Prop := messageFramedRow.holds Try.pinned (OpenSpec.ofChange messageFramedWrong)

/-- 'winnowlaw05.MessageBack': WHATEVER THE INPUT: true; the input reads as it did. -/
def messageBackSpec : ChangeSpec := { name := "messageBack", fn := fun _ => fun
  | [d1, d2, d3] => { results := [.lit (.bool true)], args := [d1, d2, d3] }
  | _ => none }
def messageBackRow : OpenClaim := { program := "ytlpnpnjjmpkapaa", sum := "211e8c62d65b43c099cd9099a9781bbbe198abc60148dc11a4d8acea45f83eab", func := "winnow/winnowlaw05.MessageBack", spec := "messageBack", unfollowed := true, recurses := true, apart := false }
def MessageBackSaid : Prop := messageBackRow.holds Try.pinned (OpenSpec.ofChange messageBackSpec)

/-- ITS FALSE NEIGHBOUR: 'it returns false'. Refute it at one input. -/
def messageBackWrong : ChangeSpec := { name := "messageBack", fn := fun _ => fun
  | [d1, d2, d3] => { results := [.lit (.bool false)], args := [d1, d2, d3] }
  | _ => none }
def MessageBackWrongFalsely : Prop := messageBackRow.holds Try.pinned (OpenSpec.ofChange messageBackWrong)

/-- 'winnowlaw05.MessageTurned': WHATEVER THE INPUT: true; the input reads as it did. -/
def messageTurnedSpec : ChangeSpec := { name := "messageTurned", fn := fun _ => fun
  | [d1, d2, d3] => { results := [.lit (.bool true)], args := [d1, d2, d3] }
  | _ => none }
def messageTurnedRow : OpenClaim := { program := "ytlpnpnjjmpkapaa", sum := "211e8c62d65b43c099cd9099a9781bbbe198abc60148dc11a4d8acea45f83eab", func := "winnow/winnowlaw05.MessageTurned", spec := "messageTurned", unfollowed := true, recurses := true, apart := false }
def MessageTurnedSaid : Prop := messageTurnedRow.holds Try.pinned (OpenSpec.ofChange messageTurnedSpec)

/-- ITS FALSE NEIGHBOUR: 'it returns false'. Refute it at one input. -/
def messageTurnedWrong : ChangeSpec := { name := "messageTurned", fn := fun _ => fun
  | [d1, d2, d3] => { results := [.lit (.bool false)], args := [d1, d2, d3] }
  | _ => none }
def MessageTurnedWrongFalsely : Prop := messageTurnedRow.holds Try.pinned (OpenSpec.ofChange messageTurnedWrong)

/-- 'winnowlaw05.MessageApart': WHATEVER THE INPUT: true; the input reads as it did. -/
def messageApartSpec : ChangeSpec := { name := "messageApart", fn := fun _ => fun
  | [d1, d2] => { results := [.lit (.bool true)], args := [d1, d2] }
  | _ => none }
def messageApartRow : OpenClaim := { program := "ytlpnpnjjmpkapaa", sum := "211e8c62d65b43c099cd9099a9781bbbe198abc60148dc11a4d8acea45f83eab", func := "winnow/winnowlaw05.MessageApart", spec := "messageApart", unfollowed := true, recurses := true, apart := false }
def MessageApartSaid : Prop := messageApartRow.holds Try.pinned (OpenSpec.ofChange messageApartSpec)

/-- ITS FALSE NEIGHBOUR: 'it returns false'. Refute it at one input. -/
def messageApartWrong : ChangeSpec := { name := "messageApart", fn := fun _ => fun
  | [d1, d2] => { results := [.lit (.bool false)], args := [d1, d2] }
  | _ => none }
def MessageApartWrongFalsely : Prop := messageApartRow.holds Try.pinned (OpenSpec.ofChange messageApartWrong)

/-- 'winnowlaw05.MessageThings': WHATEVER THE INPUT: true; the input reads as it did. -/
def messageThingsSpec : ChangeSpec := { name := "messageThings", fn := fun _ => fun
  | [d] => { results := [.lit (.bool true)], args := [d] }
  | _ => none }
def messageThingsRow : OpenClaim := { program := "ytlpnpnjjmpkapaa", sum := "211e8c62d65b43c099cd9099a9781bbbe198abc60148dc11a4d8acea45f83eab", func := "winnow/winnowlaw05.MessageThings", spec := "messageThings", unfollowed := true, recurses := true, apart := false }
def MessageThingsSaid : Prop := messageThingsRow.holds Try.pinned (OpenSpec.ofChange messageThingsSpec)

/-- ITS FALSE NEIGHBOUR: 'it returns false'. Refute it at one input. -/
def messageThingsWrong : ChangeSpec := { name := "messageThings", fn := fun _ => fun
  | [d] => { results := [.lit (.bool false)], args := [d] }
  | _ => none }
def MessageThingsWrongFalsely : Prop := messageThingsRow.holds Try.pinned (OpenSpec.ofChange messageThingsWrong)

/-- 'winnowlaw05.MessageMust': WHATEVER THE INPUT: true; the input reads as it did. -/
def messageMustSpec : ChangeSpec := { name := "messageMust", fn := fun _ => fun
  | [d1, d2] => { results := [.lit (.bool true)], args := [d1, d2] }
  | _ => none }
def messageMustRow : OpenClaim := { program := "ytlpnpnjjmpkapaa", sum := "211e8c62d65b43c099cd9099a9781bbbe198abc60148dc11a4d8acea45f83eab", func := "winnow/winnowlaw05.MessageMust", spec := "messageMust", unfollowed := true, recurses := true, apart := false }
def MessageMustSaid : Prop := messageMustRow.holds Try.pinned (OpenSpec.ofChange messageMustSpec)

/-- ITS FALSE NEIGHBOUR: 'it returns false'. Refute it at one input. -/
def messageMustWrong : ChangeSpec := { name := "messageMust", fn := fun _ => fun
  | [d1, d2] => { results := [.lit (.bool false)], args := [d1, d2] }
  | _ => none }
def MessageMustWrongFalsely : Prop := messageMustRow.holds Try.pinned (OpenSpec.ofChange messageMustWrong)

/- THE SECOND FORM. 'bulk': how many values and letters a reading holds, each counted each time it is reached (what is shared counts as often as it is met; a slice's spare places count too). A statement '..UptoSaid' is the law's where the arguments, and the package variables that the reading takes, are together of bulk at most 1048576: NARROWER than '..Said'. Prove '..Said' where nothing that the law and all that it calls make is longer than what came in: it says more and counts as full. Else prove '..UptoSaid'. A law counts once. -/
mutual
def uptoBulk {H : Type} : DataW H → Nat
  | .lit (.string bytes) => bytes.length + 1
  | .lit _ => 1
  | .nil => 1
  | .ptr d => uptoBulk d + 1
  | .slice elems spare => uptoBulkAll elems + uptoBulkAll spare + 1
  | .agg parts => uptoBulkAll parts + 1
  | .iface _ d => uptoBulk d + 1
  | .map entries => uptoBulkEntries entries + 1
  | .held _ => 1
def uptoBulkAll {H : Type} : List (DataW H) → Nat
  | [] => 0
  | d :: r => uptoBulk d + uptoBulkAll r
def uptoBulkEntries {H : Type} : List (Lit × DataW H) → Nat
  | [] => 0
  | x :: r => uptoBulkEntry x + uptoBulkEntries r
def uptoBulkEntry {H : Type} : Lit × DataW H → Nat
  | (.string bytes, d) => bytes.length + uptoBulk d + 1
  | (_, d) => uptoBulk d + 1
 end
def uptoSmall : (H : Type) → List (DataW H) → Bool := fun _ ds => decide (uptoBulkAll ds ≤ 1048576)
def OpenSpec.upto (s : _root_.Go.ChangeSpec) : _root_.Go.OpenSpec := { _root_.Go.OpenSpec.ofChange s with cond := some uptoSmall }

/-- 'winnowlaw05.MessageRight', WHERE WHAT IT READS IS OF BULK AT MOST 1048576: true; the input reads as it did. -/
def messageRightUptoRow : OpenClaim := { program := "ytlpnpnjjmpkapaa", sum := "211e8c62d65b43c099cd9099a9781bbbe198abc60148dc11a4d8acea45f83eab", func := "winnow/winnowlaw05.MessageRight", spec := "messageRight", unfollowed := true, recurses := true, apart := false, narrowed := true }
def MessageRightUptoSaid : Prop := messageRightUptoRow.holds Try.pinned (OpenSpec.upto messageRightSpec)

/-- 'winnowlaw05.MessageEncodes', WHERE WHAT IT READS IS OF BULK AT MOST 1048576: true; the input reads as it did. -/
def messageEncodesUptoRow : OpenClaim := { program := "ytlpnpnjjmpkapaa", sum := "211e8c62d65b43c099cd9099a9781bbbe198abc60148dc11a4d8acea45f83eab", func := "winnow/winnowlaw05.MessageEncodes", spec := "messageEncodes", unfollowed := true, recurses := true, apart := false, narrowed := true }
def MessageEncodesUptoSaid : Prop := messageEncodesUptoRow.holds Try.pinned (OpenSpec.upto messageEncodesSpec)

/-- 'winnowlaw05.MessageDecodes', WHERE WHAT IT READS IS OF BULK AT MOST 1048576: true; the input reads as it did. -/
def messageDecodesUptoRow : OpenClaim := { program := "ytlpnpnjjmpkapaa", sum := "211e8c62d65b43c099cd9099a9781bbbe198abc60148dc11a4d8acea45f83eab", func := "winnow/winnowlaw05.MessageDecodes", spec := "messageDecodes", unfollowed := true, recurses := true, apart := false, narrowed := true }
def MessageDecodesUptoSaid : Prop := messageDecodesUptoRow.holds Try.pinned (OpenSpec.upto messageDecodesSpec)

/-- 'winnowlaw05.MessageFramed', WHERE WHAT IT READS IS OF BULK AT MOST 1048576: true; the input reads as it did. -/
def messageFramedUptoRow : OpenClaim := { program := "ytlpnpnjjmpkapaa", sum := "211e8c62d65b43c099cd9099a9781bbbe198abc60148dc11a4d8acea45f83eab", func := "winnow/winnowlaw05.MessageFramed", spec := "messageFramed", unfollowed := true, recurses := true, apart := false, narrowed := true }
def MessageFramedUptoSaid : Prop := messageFramedUptoRow.holds Try.pinned (OpenSpec.upto messageFramedSpec)

/-- 'winnowlaw05.MessageBack', WHERE WHAT IT READS IS OF BULK AT MOST 1048576: true; the input reads as it did. -/
def messageBackUptoRow : OpenClaim := { program := "ytlpnpnjjmpkapaa", sum := "211e8c62d65b43c099cd9099a9781bbbe198abc60148dc11a4d8acea45f83eab", func := "winnow/winnowlaw05.MessageBack", spec := "messageBack", unfollowed := true, recurses := true, apart := false, narrowed := true }
def MessageBackUptoSaid : Prop := messageBackUptoRow.holds Try.pinned (OpenSpec.upto messageBackSpec)

/-- 'winnowlaw05.MessageTurned', WHERE WHAT IT READS IS OF BULK AT MOST 1048576: true; the input reads as it did. -/
def messageTurnedUptoRow : OpenClaim := { program := "ytlpnpnjjmpkapaa", sum := "211e8c62d65b43c099cd9099a9781bbbe198abc60148dc11a4d8acea45f83eab", func := "winnow/winnowlaw05.MessageTurned", spec := "messageTurned", unfollowed := true, recurses := true, apart := false, narrowed := true }
def MessageTurnedUptoSaid : Prop := messageTurnedUptoRow.holds Try.pinned (OpenSpec.upto messageTurnedSpec)

/-- 'winnowlaw05.MessageApart', WHERE WHAT IT READS IS OF BULK AT MOST 1048576: true; the input reads as it did. -/
def messageApartUptoRow : OpenClaim := { program := "ytlpnpnjjmpkapaa", sum := "211e8c62d65b43c099cd9099a9781bbbe198abc60148dc11a4d8acea45f83eab", func := "winnow/winnowlaw05.MessageApart", spec := "messageApart", unfollowed := true, recurses := true, apart := false, narrowed := true }
def MessageApartUptoSaid : Prop := messageApartUptoRow.holds Try.pinned (OpenSpec.upto messageApartSpec)

/-- 'winnowlaw05.MessageThings', WHERE WHAT IT READS IS OF BULK AT MOST 1048576: true; the input reads as it did. -/
def messageThingsUptoRow : OpenClaim := { program := "ytlpnpnjjmpkapaa", sum := "211e8c62d65b43c099cd9099a9781bbbe198abc60148dc11a4d8acea45f83eab", func := "winnow/winnowlaw05.MessageThings", spec := "messageThings", unfollowed := true, recurses := true, apart := false, narrowed := true }
def MessageThingsUptoSaid : Prop := messageThingsUptoRow.holds Try.pinned (OpenSpec.upto messageThingsSpec)

/-- 'winnowlaw05.MessageMust', WHERE WHAT IT READS IS OF BULK AT MOST 1048576: true; the input reads as it did. -/
def messageMustUptoRow : OpenClaim := { program := "ytlpnpnjjmpkapaa", sum := "211e8c62d65b43c099cd9099a9781bbbe198abc60148dc11a4d8acea45f83eab", func := "winnow/winnowlaw05.MessageMust", spec := "messageMust", unfollowed := true, recurses := true, apart := false, narrowed := true }
def MessageMustUptoSaid : Prop := messageMustUptoRow.holds Try.pinned (OpenSpec.upto messageMustSpec)

end Rows
end Go.Proofs.Ytlpnpnjjmpkapaa
