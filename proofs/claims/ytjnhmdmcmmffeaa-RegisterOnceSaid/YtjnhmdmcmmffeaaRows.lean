/-
  No cell of these rows narrows 'for every input' (looked for: loops, veiled, ifaces, maps, wideKeys, modest, calm, conditions, laid).
  DERIVED. THE GIVEN ROWS OF THIS SEAT. 10 by the template 'for every input the law returns true; each argument reads behind the call as it read before'; 0 by the template 'total and deterministic' (their statements: YtjnhmdmcmmffeaaTotals.lean).
  GIVEN WITH THE SEED: the statements are not yours to turn. If you find one false, say at which input.
  Laid BY PROGRAM, IN A SANDBOX (cutbox-rows.mjs): the forced cells as the released guide's own fill.sh prints them over the translation 6bf4a3e67ef60b40… (all of the seat's roots in one cut). By AI agents, Wed Nov 11 2026. No macro, syntax, notation, axiom, sorry.
-/
import Derived.Test.YtjnhmdmcmmffeaaChecked
import GoSem.Claim
import GoSem.ClaimJoined
import GoSem.ClaimMapViews
import Derived.JoinedTies
import Derived.KernelRfl
namespace Go.Proofs.Ytjnhmdmcmmffeaa
/- THE CELL 'sum', in the pinned program and in every row, IS THE sha256 OF THE DUMP (.gsa) THAT YtjnhmdmcmmffeaaProg.lean LOADS. Nothing in Lean hashes anything: it is a label: what it is worth is what the hold of that sum in a sandbox is worth. -/
noncomputable def Try.pinned : Pinned := { name := "ytjnhmdmcmmffeaa", sum := "6bf4a3e67ef60b40cbeee2a1fcaa14e8449a435752be8ced66322fe548288337", checked := Try.checked }
namespace Rows
def none {H : Type} : Left H := { results := [], args := [] }

/-- 'winnowlaw11.BallotNext': WHATEVER THE INPUT: true; the input reads as it did. -/
def ballotNextSpec : ChangeSpec := { name := "ballotNext", fn := fun _ => fun
  | [d1, d2, d3] => { results := [.lit (.bool true)], args := [d1, d2, d3] }
  | _ => none }
def ballotNextRow : OpenClaim := { program := "ytjnhmdmcmmffeaa", sum := "6bf4a3e67ef60b40cbeee2a1fcaa14e8449a435752be8ced66322fe548288337", func := "winnow/winnowlaw11.BallotNext", spec := "ballotNext", apart := false }
def BallotNextSaid : Prop := ballotNextRow.holds Try.pinned (OpenSpec.ofChange ballotNextSpec)

/-- ITS FALSE NEIGHBOUR: 'it returns false'. Refute it at one input. -/
def ballotNextWrong : ChangeSpec := { name := "ballotNext", fn := fun _ => fun
  | [d1, d2, d3] => { results := [.lit (.bool false)], args := [d1, d2, d3] }
  | _ => none }
def BallotNextWrongFalsely : Prop := ballotNextRow.holds Try.pinned (OpenSpec.ofChange ballotNextWrong)

/-- 'winnowlaw11.BallotAbove': WHATEVER THE INPUT: true; the input reads as it did. -/
def ballotAboveSpec : ChangeSpec := { name := "ballotAbove", fn := fun _ => fun
  | [d1, d2, d3, d4, d5] => { results := [.lit (.bool true)], args := [d1, d2, d3, d4, d5] }
  | _ => none }
def ballotAboveRow : OpenClaim := { program := "ytjnhmdmcmmffeaa", sum := "6bf4a3e67ef60b40cbeee2a1fcaa14e8449a435752be8ced66322fe548288337", func := "winnow/winnowlaw11.BallotAbove", spec := "ballotAbove", apart := false }
def BallotAboveSaid : Prop := ballotAboveRow.holds Try.pinned (OpenSpec.ofChange ballotAboveSpec)

/-- ITS FALSE NEIGHBOUR: 'it returns false'. Refute it at one input. -/
def ballotAboveWrong : ChangeSpec := { name := "ballotAbove", fn := fun _ => fun
  | [d1, d2, d3, d4, d5] => { results := [.lit (.bool false)], args := [d1, d2, d3, d4, d5] }
  | _ => none }
def BallotAboveWrongFalsely : Prop := ballotAboveRow.holds Try.pinned (OpenSpec.ofChange ballotAboveWrong)

/-- 'winnowlaw11.BallotOrder': WHATEVER THE INPUT: true; the input reads as it did. -/
def ballotOrderSpec : ChangeSpec := { name := "ballotOrder", fn := fun _ => fun
  | [d1, d2, d3] => { results := [.lit (.bool true)], args := [d1, d2, d3] }
  | _ => none }
def ballotOrderRow : OpenClaim := { program := "ytjnhmdmcmmffeaa", sum := "6bf4a3e67ef60b40cbeee2a1fcaa14e8449a435752be8ced66322fe548288337", func := "winnow/winnowlaw11.BallotOrder", spec := "ballotOrder", apart := false }
def BallotOrderSaid : Prop := ballotOrderRow.holds Try.pinned (OpenSpec.ofChange ballotOrderSpec)

/-- ITS FALSE NEIGHBOUR: 'it returns false'. Refute it at one input. -/
def ballotOrderWrong : ChangeSpec := { name := "ballotOrder", fn := fun _ => fun
  | [d1, d2, d3] => { results := [.lit (.bool false)], args := [d1, d2, d3] }
  | _ => none }
def BallotOrderWrongFalsely : Prop := ballotOrderRow.holds Try.pinned (OpenSpec.ofChange ballotOrderWrong)

/-- 'winnowlaw11.BallotTotal': WHATEVER THE INPUT: true; the input reads as it did. -/
def ballotTotalSpec : ChangeSpec := { name := "ballotTotal", fn := fun _ => fun
  | [d1, d2, d3, d4] => { results := [.lit (.bool true)], args := [d1, d2, d3, d4] }
  | _ => none }
def ballotTotalRow : OpenClaim := { program := "ytjnhmdmcmmffeaa", sum := "6bf4a3e67ef60b40cbeee2a1fcaa14e8449a435752be8ced66322fe548288337", func := "winnow/winnowlaw11.BallotTotal", spec := "ballotTotal", apart := false }
def BallotTotalSaid : Prop := ballotTotalRow.holds Try.pinned (OpenSpec.ofChange ballotTotalSpec)

/-- ITS FALSE NEIGHBOUR: 'it returns false'. Refute it at one input. -/
def ballotTotalWrong : ChangeSpec := { name := "ballotTotal", fn := fun _ => fun
  | [d1, d2, d3, d4] => { results := [.lit (.bool false)], args := [d1, d2, d3, d4] }
  | _ => none }
def BallotTotalWrongFalsely : Prop := ballotTotalRow.holds Try.pinned (OpenSpec.ofChange ballotTotalWrong)

/-- 'winnowlaw11.BallotRuns': WHATEVER THE INPUT: true; the input reads as it did. -/
def ballotRunsSpec : ChangeSpec := { name := "ballotRuns", fn := fun _ => fun
  | [d1, d2, d3] => { results := [.lit (.bool true)], args := [d1, d2, d3] }
  | _ => none }
def ballotRunsRow : OpenClaim := { program := "ytjnhmdmcmmffeaa", sum := "6bf4a3e67ef60b40cbeee2a1fcaa14e8449a435752be8ced66322fe548288337", func := "winnow/winnowlaw11.BallotRuns", spec := "ballotRuns", apart := false }
def BallotRunsSaid : Prop := ballotRunsRow.holds Try.pinned (OpenSpec.ofChange ballotRunsSpec)

/-- ITS FALSE NEIGHBOUR: 'it returns false'. Refute it at one input. -/
def ballotRunsWrong : ChangeSpec := { name := "ballotRuns", fn := fun _ => fun
  | [d1, d2, d3] => { results := [.lit (.bool false)], args := [d1, d2, d3] }
  | _ => none }
def BallotRunsWrongFalsely : Prop := ballotRunsRow.holds Try.pinned (OpenSpec.ofChange ballotRunsWrong)

/-- 'winnowlaw12.RegisterRises': WHATEVER THE INPUT: true; the input reads as it did. -/
def registerRisesSpec : ChangeSpec := { name := "registerRises", fn := fun _ => fun
  | [d1, d2, d3] => { results := [.lit (.bool true)], args := [d1, d2, d3] }
  | _ => none }
def registerRisesRow : OpenClaim := { program := "ytjnhmdmcmmffeaa", sum := "6bf4a3e67ef60b40cbeee2a1fcaa14e8449a435752be8ced66322fe548288337", func := "winnow/winnowlaw12.RegisterRises", spec := "registerRises", apart := false }
def RegisterRisesSaid : Prop := registerRisesRow.holds Try.pinned (OpenSpec.ofChange registerRisesSpec)

/-- ITS FALSE NEIGHBOUR: 'it returns false'. Refute it at one input. -/
def registerRisesWrong : ChangeSpec := { name := "registerRises", fn := fun _ => fun
  | [d1, d2, d3] => { results := [.lit (.bool false)], args := [d1, d2, d3] }
  | _ => none }
def RegisterRisesWrongFalsely : Prop := registerRisesRow.holds Try.pinned (OpenSpec.ofChange registerRisesWrong)

/-- 'winnowlaw12.RegisterAgain': WHATEVER THE INPUT: true; the input reads as it did. -/
def registerAgainSpec : ChangeSpec := { name := "registerAgain", fn := fun _ => fun
  | [d1, d2, d3, d4] => { results := [.lit (.bool true)], args := [d1, d2, d3, d4] }
  | _ => none }
def registerAgainRow : OpenClaim := { program := "ytjnhmdmcmmffeaa", sum := "6bf4a3e67ef60b40cbeee2a1fcaa14e8449a435752be8ced66322fe548288337", func := "winnow/winnowlaw12.RegisterAgain", spec := "registerAgain", apart := false }
def RegisterAgainSaid : Prop := registerAgainRow.holds Try.pinned (OpenSpec.ofChange registerAgainSpec)

/-- ITS FALSE NEIGHBOUR: 'it returns false'. Refute it at one input. -/
def registerAgainWrong : ChangeSpec := { name := "registerAgain", fn := fun _ => fun
  | [d1, d2, d3, d4] => { results := [.lit (.bool false)], args := [d1, d2, d3, d4] }
  | _ => none }
def RegisterAgainWrongFalsely : Prop := registerAgainRow.holds Try.pinned (OpenSpec.ofChange registerAgainWrong)

/-- 'winnowlaw12.RegisterSteps': WHATEVER THE INPUT: true; the input reads as it did. -/
def registerStepsSpec : ChangeSpec := { name := "registerSteps", fn := fun _ => fun
  | [d1, d2, d3, d4, d5, d6] => { results := [.lit (.bool true)], args := [d1, d2, d3, d4, d5, d6] }
  | _ => none }
def registerStepsRow : OpenClaim := { program := "ytjnhmdmcmmffeaa", sum := "6bf4a3e67ef60b40cbeee2a1fcaa14e8449a435752be8ced66322fe548288337", func := "winnow/winnowlaw12.RegisterSteps", spec := "registerSteps", apart := false }
def RegisterStepsSaid : Prop := registerStepsRow.holds Try.pinned (OpenSpec.ofChange registerStepsSpec)

/-- ITS FALSE NEIGHBOUR: 'it returns false'. Refute it at one input. -/
def registerStepsWrong : ChangeSpec := { name := "registerSteps", fn := fun _ => fun
  | [d1, d2, d3, d4, d5, d6] => { results := [.lit (.bool false)], args := [d1, d2, d3, d4, d5, d6] }
  | _ => none }
def RegisterStepsWrongFalsely : Prop := registerStepsRow.holds Try.pinned (OpenSpec.ofChange registerStepsWrong)

/-- 'winnowlaw12.RegisterAnswers': WHATEVER THE INPUT: true; the input reads as it did. -/
def registerAnswersSpec : ChangeSpec := { name := "registerAnswers", fn := fun _ => fun
  | [d1, d2, d3, d4] => { results := [.lit (.bool true)], args := [d1, d2, d3, d4] }
  | _ => none }
def registerAnswersRow : OpenClaim := { program := "ytjnhmdmcmmffeaa", sum := "6bf4a3e67ef60b40cbeee2a1fcaa14e8449a435752be8ced66322fe548288337", func := "winnow/winnowlaw12.RegisterAnswers", spec := "registerAnswers", apart := false }
def RegisterAnswersSaid : Prop := registerAnswersRow.holds Try.pinned (OpenSpec.ofChange registerAnswersSpec)

/-- ITS FALSE NEIGHBOUR: 'it returns false'. Refute it at one input. -/
def registerAnswersWrong : ChangeSpec := { name := "registerAnswers", fn := fun _ => fun
  | [d1, d2, d3, d4] => { results := [.lit (.bool false)], args := [d1, d2, d3, d4] }
  | _ => none }
def RegisterAnswersWrongFalsely : Prop := registerAnswersRow.holds Try.pinned (OpenSpec.ofChange registerAnswersWrong)

/-- 'winnowlaw12.RegisterOnce': WHATEVER THE INPUT: true; the input reads as it did. -/
def registerOnceSpec : ChangeSpec := { name := "registerOnce", fn := fun _ => fun
  | [d1, d2] => { results := [.lit (.bool true)], args := [d1, d2] }
  | _ => none }
def registerOnceRow : OpenClaim := { program := "ytjnhmdmcmmffeaa", sum := "6bf4a3e67ef60b40cbeee2a1fcaa14e8449a435752be8ced66322fe548288337", func := "winnow/winnowlaw12.RegisterOnce", spec := "registerOnce", apart := false }
def RegisterOnceSaid : Prop := registerOnceRow.holds Try.pinned (OpenSpec.ofChange registerOnceSpec)

/-- ITS FALSE NEIGHBOUR: 'it returns false'. Refute it at one input. -/
def registerOnceWrong : ChangeSpec := { name := "registerOnce", fn := fun _ => fun
  | [d1, d2] => { results := [.lit (.bool false)], args := [d1, d2] }
  | _ => none }
def RegisterOnceWrongFalsely : Prop := registerOnceRow.holds Try.pinned (OpenSpec.ofChange registerOnceWrong)

/- THE SECOND FORM. 'bulk': how many values and letters a reading holds, each counted each time it is reached (what is shared counts as often as it is met; a slice's spare places count too). A statement '..UptoSaid' is the law's where the arguments, and the package variables that the reading takes, are together of bulk at most 1048576: NARROWER than '..Said'. Prove '..Said' where nothing that the law and all that it calls make is longer than what came in: it says more and counts as full. Else prove '..UptoSaid'. A law counts once. -/
mutual
def uptoBulk {H : Type} : DataW H → Nat
  | .lit (.string bytes) => bytes.length + 1
  | .lit _ => 1
  | .nil => 1
  | .ptr d => uptoBulk d + 1
  | .slice elems spare => uptoBulkAll elems + uptoBulkAll spare + 1
  | .agg parts => uptoBulkAll parts + 1
  | .iface _ d => uptoBulk d + 1
  | .map entries => uptoBulkEntries entries + 1
  | .held _ => 1
def uptoBulkAll {H : Type} : List (DataW H) → Nat
  | [] => 0
  | d :: r => uptoBulk d + uptoBulkAll r
def uptoBulkEntries {H : Type} : List (Lit × DataW H) → Nat
  | [] => 0
  | x :: r => uptoBulkEntry x + uptoBulkEntries r
def uptoBulkEntry {H : Type} : Lit × DataW H → Nat
  | (.string bytes, d) => bytes.length + uptoBulk d + 1
  | (_, d) => uptoBulk d + 1
 end
def uptoSmall : (H : Type) → List (DataW H) → Bool := fun _ ds => decide (uptoBulkAll ds ≤ 1048576)
def OpenSpec.upto (s : _root_.Go.ChangeSpec) : _root_.Go.OpenSpec := { _root_.Go.OpenSpec.ofChange s with cond := some uptoSmall }

/-- 'winnowlaw11.BallotNext', WHERE WHAT IT READS IS OF BULK AT MOST 1048576: true; the input reads as it did. -/
def ballotNextUptoRow : OpenClaim := { program := "ytjnhmdmcmmffeaa", sum := "6bf4a3e67ef60b40cbeee2a1fcaa14e8449a435752be8ced66322fe548288337", func := "winnow/winnowlaw11.BallotNext", spec := "ballotNext", apart := false, narrowed := true }
def BallotNextUptoSaid : Prop := ballotNextUptoRow.holds Try.pinned (OpenSpec.upto ballotNextSpec)

/-- 'winnowlaw11.BallotAbove', WHERE WHAT IT READS IS OF BULK AT MOST 1048576: true; the input reads as it did. -/
def ballotAboveUptoRow : OpenClaim := { program := "ytjnhmdmcmmffeaa", sum := "6bf4a3e67ef60b40cbeee2a1fcaa14e8449a435752be8ced66322fe548288337", func := "winnow/winnowlaw11.BallotAbove", spec := "ballotAbove", apart := false, narrowed := true }
def BallotAboveUptoSaid : Prop := ballotAboveUptoRow.holds Try.pinned (OpenSpec.upto ballotAboveSpec)

/-- 'winnowlaw11.BallotOrder', WHERE WHAT IT READS IS OF BULK AT MOST 1048576: true; the input reads as it did. -/
def ballotOrderUptoRow : OpenClaim := { program := "ytjnhmdmcmmffeaa", sum := "6bf4a3e67ef60b40cbeee2a1fcaa14e8449a435752be8ced66322fe548288337", func := "winnow/winnowlaw11.BallotOrder", spec := "ballotOrder", apart := false, narrowed := true }
def BallotOrderUptoSaid : Prop := ballotOrderUptoRow.holds Try.pinned (OpenSpec.upto ballotOrderSpec)

/-- 'winnowlaw11.BallotTotal', WHERE WHAT IT READS IS OF BULK AT MOST 1048576: true; the input reads as it did. -/
def ballotTotalUptoRow : OpenClaim := { program := "ytjnhmdmcmmffeaa", sum := "6bf4a3e67ef60b40cbeee2a1fcaa14e8449a435752be8ced66322fe548288337", func := "winnow/winnowlaw11.BallotTotal", spec := "ballotTotal", apart := false, narrowed := true }
def BallotTotalUptoSaid : Prop := ballotTotalUptoRow.holds Try.pinned (OpenSpec.upto ballotTotalSpec)

/-- 'winnowlaw11.BallotRuns', WHERE WHAT IT READS IS OF BULK AT MOST 1048576: true; the input reads as it did. -/
def ballotRunsUptoRow : OpenClaim := { program := "ytjnhmdmcmmffeaa", sum := "6bf4a3e67ef60b40cbeee2a1fcaa14e8449a435752be8ced66322fe548288337", func := "winnow/winnowlaw11.BallotRuns", spec := "ballotRuns", apart := false, narrowed := true }
def BallotRunsUptoSaid : Prop := ballotRunsUptoRow.holds Try.pinned (OpenSpec.upto ballotRunsSpec)

/-- 'winnowlaw12.RegisterRises', WHERE WHAT IT READS IS OF BULK AT MOST 1048576: true; the input reads as it did. -/
def registerRisesUptoRow : OpenClaim := { program := "ytjnhmdmcmmffeaa", sum := "6bf4a3e67ef60b40cbeee2a1fcaa14e8449a435752be8ced66322fe548288337", func := "winnow/winnowlaw12.RegisterRises", spec := "registerRises", apart := false, narrowed := true }
def RegisterRisesUptoSaid : Prop := registerRisesUptoRow.holds Try.pinned (OpenSpec.upto registerRisesSpec)

/-- 'winnowlaw12.RegisterAgain', WHERE WHAT IT READS IS OF BULK AT MOST 1048576: true; the input reads as it did. -/
def registerAgainUptoRow : OpenClaim := { program := "ytjnhmdmcmmffeaa", sum := "6bf4a3e67ef60b40cbeee2a1fcaa14e8449a435752be8ced66322fe548288337", func := "winnow/winnowlaw12.RegisterAgain", spec := "registerAgain", apart := false, narrowed := true }
def RegisterAgainUptoSaid : Prop := registerAgainUptoRow.holds Try.pinned (OpenSpec.upto registerAgainSpec)

/-- 'winnowlaw12.RegisterSteps', WHERE WHAT IT READS IS OF BULK AT MOST 1048576: true; the input reads as it did. -/
def registerStepsUptoRow : OpenClaim := { program := "ytjnhmdmcmmffeaa", sum := "6bf4a3e67ef60b40cbeee2a1fcaa14e8449a435752be8ced66322fe548288337", func := "winnow/winnowlaw12.RegisterSteps", spec := "registerSteps", apart := false, narrowed := true }
def RegisterStepsUptoSaid : Prop := registerStepsUptoRow.holds Try.pinned (OpenSpec.upto registerStepsSpec)

/-- 'winnowlaw12.RegisterAnswers', WHERE WHAT IT READS IS OF BULK AT MOST 1048576: true; the input reads as it did. -/
def registerAnswersUptoRow : OpenClaim := { program := "ytjnhmdmcmmffeaa", sum := "6bf4a3e67ef60b40cbeee2a1fcaa14e8449a435752be8ced66322fe548288337", func := "winnow/winnowlaw12.RegisterAnswers", spec := "registerAnswers", apart := false, narrowed := true }
def RegisterAnswersUptoSaid : Prop := registerAnswersUptoRow.holds Try.pinned (OpenSpec.upto registerAnswersSpec)

/-- 'winnowlaw12.RegisterOnce', WHERE WHAT IT READS IS OF BULK AT MOST 1048576: true; the input reads as it did. -/
def registerOnceUptoRow : OpenClaim := { program := "ytjnhmdmcmmffeaa", sum := "6bf4a3e67ef60b40cbeee2a1fcaa14e8449a435752be8ced66322fe548288337", func := "winnow/winnowlaw12.RegisterOnce", spec := "registerOnce", apart := false, narrowed := true }
def RegisterOnceUptoSaid : Prop := registerOnceUptoRow.holds Try.pinned (OpenSpec.upto registerOnceSpec)

end Rows
end Go.Proofs.Ytjnhmdmcmmffeaa
