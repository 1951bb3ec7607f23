/-
  NARROWER THAN 'FOR EVERY INPUT', by the rows' own cells (each row's printed sentence says how): FieldTells: laid · FieldSmall: laid · FieldOrder: laid · FieldMissing: laid · FieldTurned: laid · FieldSums: laid · FieldWrong: laid.
  DERIVED. THE GIVEN ROWS OF THIS SEAT. 7 by the template 'for every input the law returns true; each argument reads behind the call as it read before'; 0 by the template 'total and deterministic' (their statements: YtkcfpgaepmllhaaGreatDoorTotals.lean).
  GIVEN WITH THE SEED: the statements are not yours to turn. If you find one false, say at which input.
  Laid BY PROGRAM, IN A SANDBOX (cutbox-rows.mjs): the forced cells as the released guide's own fill.sh prints them over the translation 8f4cf9c48fa25db9… (all of the seat's roots in one cut). By AI agents, Wed Nov 11 2026. No macro, syntax, notation, axiom, sorry.
-/
import Derived.Test.YtkcfpgaepmllhaaGreatDoorChecked
import GoSem.Claim
import GoSem.ClaimJoined
import GoSem.ClaimMapViews
import Derived.JoinedTies
import Derived.KernelRfl
namespace Go.Proofs.YtkcfpgaepmllhaaGreatDoor
/- THE CELL 'sum', in the pinned program and in every row, IS THE sha256 OF THE DUMP (.gsa) THAT YtkcfpgaepmllhaaGreatDoorProg.lean LOADS. Nothing in Lean hashes anything: it is a label: what it is worth is what the hold of that sum in a sandbox is worth. -/
noncomputable def Tryz.pinned : Pinned := { name := "ytkcfpgaepmllhaagreatdoor", sum := "8f4cf9c48fa25db9c2f6eb5e379eb8771964973c49a57c14cee750579c2e2ab6", checked := Tryz.checked }
namespace Rows
def none {H : Type} : Left H := { results := [], args := [] }

/- WHAT THE LISTED PACKAGE-LEVEL VARIABLES READ AS WHEN THE CALL BEGINS. Each datum BY PROGRAM (the guide's laid-datum.mjs) off the statement by which the dump's own 'gosem.cut.vars' lays the variable. In a bare row this is a premise. The card (YtkcfpgaepmllhaaGreatDoorCards.lean) ties it to the program's text. -/
def laid_finesse_match_gets {H : Type} : DataW H := .agg [.lit (.int .i64 0), .lit (.int .i64 1), .lit (.int .i64 2)]
def laid_finesse_score_value {H : Type} : DataW H := .agg [.lit (.int .i64 20), .lit (.int .i64 20), .lit (.int .i64 30), .lit (.int .i64 30), .lit (.int .i64 30)]
def laid_finesse_score_factor {H : Type} : DataW H := .agg [.lit (.int .i64 1), .lit (.int .i64 2), .lit (.int .i64 4)]
def laid_finesse_score_insult {H : Type} : DataW H := .agg [.lit (.int .i64 0), .lit (.int .i64 50), .lit (.int .i64 100)]
def laid_finesse_score_more {H : Type} : DataW H := .agg [.agg [.lit (.int .i64 0), .lit (.int .i64 0)], .agg [.lit (.int .i64 100), .lit (.int .i64 200)], .agg [.lit (.int .i64 200), .lit (.int .i64 400)]]

/-- 'finesselaw32.FieldTells': WHATEVER THE INPUT: true; the input reads as it did. -/
def fieldTellsSpec : ChangeSpec := { name := "fieldTells", fn := fun _ => fun
  | [d1, d2, d3] => { results := [.lit (.bool true)], args := [d1, d2, d3] }
  | _ => none }
def fieldTellsRow : OpenClaim := { program := "ytkcfpgaepmllhaagreatdoor", sum := "8f4cf9c48fa25db9c2f6eb5e379eb8771964973c49a57c14cee750579c2e2ab6", func := "finesse/finesselaw32.FieldTells", spec := "fieldTells", inPlace := ["math/bits.Add64", "math/bits.Sub64"], unfollowed := true, recurses := true, named := ["finesse/score.value", "finesse/score.factor", "finesse/score.more", "finesse/score.insult", "finesse/match.gets", "math/bits.divideError", "math/bits.overflowError"], plainKeys := false, apart := false, laid := [("finesse/match.gets", laid_finesse_match_gets), ("finesse/score.value", laid_finesse_score_value), ("finesse/score.factor", laid_finesse_score_factor), ("finesse/score.insult", laid_finesse_score_insult), ("finesse/score.more", laid_finesse_score_more)] }
def FieldTellsSaid : Prop := fieldTellsRow.holds Tryz.pinned (OpenSpec.ofChange fieldTellsSpec)

/-- ITS FALSE NEIGHBOUR: 'it returns false'. Refute it at one input. -/
def fieldTellsWrong : ChangeSpec := { name := "fieldTells", fn := fun _ => fun
  | [d1, d2, d3] => { results := [.lit (.bool false)], args := [d1, d2, d3] }
  | _ => none }
def FieldTellsWrongFalsely : Prop := fieldTellsRow.holds Tryz.pinned (OpenSpec.ofChange fieldTellsWrong)

/-- 'finesselaw32.FieldSmall': WHATEVER THE INPUT: true; the input reads as it did. -/
def fieldSmallSpec : ChangeSpec := { name := "fieldSmall", fn := fun _ => fun
  | [] => { results := [.lit (.bool true)], args := [] }
  | _ => none }
def fieldSmallRow : OpenClaim := { program := "ytkcfpgaepmllhaagreatdoor", sum := "8f4cf9c48fa25db9c2f6eb5e379eb8771964973c49a57c14cee750579c2e2ab6", func := "finesse/finesselaw32.FieldSmall", spec := "fieldSmall", inPlace := ["math/bits.Add64", "math/bits.Sub64"], unfollowed := true, recurses := true, named := ["finesse/score.value", "finesse/score.factor", "finesse/score.more", "finesse/score.insult", "finesse/match.gets", "math/bits.divideError", "math/bits.overflowError"], plainKeys := false, apart := false, laid := [("finesse/match.gets", laid_finesse_match_gets), ("finesse/score.value", laid_finesse_score_value), ("finesse/score.factor", laid_finesse_score_factor), ("finesse/score.insult", laid_finesse_score_insult), ("finesse/score.more", laid_finesse_score_more)] }
def FieldSmallSaid : Prop := fieldSmallRow.holds Tryz.pinned (OpenSpec.ofChange fieldSmallSpec)

/-- ITS FALSE NEIGHBOUR: 'it returns false'. Refute it at one input. -/
def fieldSmallWrong : ChangeSpec := { name := "fieldSmall", fn := fun _ => fun
  | [] => { results := [.lit (.bool false)], args := [] }
  | _ => none }
def FieldSmallWrongFalsely : Prop := fieldSmallRow.holds Tryz.pinned (OpenSpec.ofChange fieldSmallWrong)

/-- 'finesselaw32.FieldOrder': WHATEVER THE INPUT: true; the input reads as it did. -/
def fieldOrderSpec : ChangeSpec := { name := "fieldOrder", fn := fun _ => fun
  | [d1, d2, d3, d4] => { results := [.lit (.bool true)], args := [d1, d2, d3, d4] }
  | _ => none }
def fieldOrderRow : OpenClaim := { program := "ytkcfpgaepmllhaagreatdoor", sum := "8f4cf9c48fa25db9c2f6eb5e379eb8771964973c49a57c14cee750579c2e2ab6", func := "finesse/finesselaw32.FieldOrder", spec := "fieldOrder", inPlace := ["math/bits.Add64", "math/bits.Sub64"], unfollowed := true, recurses := true, named := ["finesse/score.value", "finesse/score.factor", "finesse/score.more", "finesse/score.insult", "finesse/match.gets", "math/bits.divideError", "math/bits.overflowError"], plainKeys := false, apart := false, laid := [("finesse/match.gets", laid_finesse_match_gets), ("finesse/score.value", laid_finesse_score_value), ("finesse/score.factor", laid_finesse_score_factor), ("finesse/score.insult", laid_finesse_score_insult), ("finesse/score.more", laid_finesse_score_more)] }
def FieldOrderSaid : Prop := fieldOrderRow.holds Tryz.pinned (OpenSpec.ofChange fieldOrderSpec)

/-- ITS FALSE NEIGHBOUR: 'it returns false'. Refute it at one input. -/
def fieldOrderWrong : ChangeSpec := { name := "fieldOrder", fn := fun _ => fun
  | [d1, d2, d3, d4] => { results := [.lit (.bool false)], args := [d1, d2, d3, d4] }
  | _ => none }
def FieldOrderWrongFalsely : Prop := fieldOrderRow.holds Tryz.pinned (OpenSpec.ofChange fieldOrderWrong)

/-- 'finesselaw32.FieldMissing': WHATEVER THE INPUT: true; the input reads as it did. -/
def fieldMissingSpec : ChangeSpec := { name := "fieldMissing", fn := fun _ => fun
  | [d1, d2, d3] => { results := [.lit (.bool true)], args := [d1, d2, d3] }
  | _ => none }
def fieldMissingRow : OpenClaim := { program := "ytkcfpgaepmllhaagreatdoor", sum := "8f4cf9c48fa25db9c2f6eb5e379eb8771964973c49a57c14cee750579c2e2ab6", func := "finesse/finesselaw32.FieldMissing", spec := "fieldMissing", inPlace := ["math/bits.Add64", "math/bits.Sub64"], unfollowed := true, recurses := true, named := ["finesse/score.value", "finesse/score.factor", "finesse/score.more", "finesse/score.insult", "finesse/match.gets", "math/bits.divideError", "math/bits.overflowError"], plainKeys := false, apart := false, laid := [("finesse/match.gets", laid_finesse_match_gets), ("finesse/score.value", laid_finesse_score_value), ("finesse/score.factor", laid_finesse_score_factor), ("finesse/score.insult", laid_finesse_score_insult), ("finesse/score.more", laid_finesse_score_more)] }
def FieldMissingSaid : Prop := fieldMissingRow.holds Tryz.pinned (OpenSpec.ofChange fieldMissingSpec)

/-- ITS FALSE NEIGHBOUR: 'it returns false'. Refute it at one input. -/
def fieldMissingWrong : ChangeSpec := { name := "fieldMissing", fn := fun _ => fun
  | [d1, d2, d3] => { results := [.lit (.bool false)], args := [d1, d2, d3] }
  | _ => none }
def FieldMissingWrongFalsely : Prop := fieldMissingRow.holds Tryz.pinned (OpenSpec.ofChange fieldMissingWrong)

/-- 'finesselaw32.FieldTurned': WHATEVER THE INPUT: true; the input reads as it did. -/
def fieldTurnedSpec : ChangeSpec := { name := "fieldTurned", fn := fun _ => fun
  | [d1, d2, d3] => { results := [.lit (.bool true)], args := [d1, d2, d3] }
  | _ => none }
def fieldTurnedRow : OpenClaim := { program := "ytkcfpgaepmllhaagreatdoor", sum := "8f4cf9c48fa25db9c2f6eb5e379eb8771964973c49a57c14cee750579c2e2ab6", func := "finesse/finesselaw32.FieldTurned", spec := "fieldTurned", inPlace := ["math/bits.Add64", "math/bits.Sub64"], unfollowed := true, recurses := true, named := ["finesse/score.value", "finesse/score.factor", "finesse/score.more", "finesse/score.insult", "finesse/match.gets", "math/bits.divideError", "math/bits.overflowError"], plainKeys := false, apart := false, laid := [("finesse/match.gets", laid_finesse_match_gets), ("finesse/score.value", laid_finesse_score_value), ("finesse/score.factor", laid_finesse_score_factor), ("finesse/score.insult", laid_finesse_score_insult), ("finesse/score.more", laid_finesse_score_more)] }
def FieldTurnedSaid : Prop := fieldTurnedRow.holds Tryz.pinned (OpenSpec.ofChange fieldTurnedSpec)

/-- ITS FALSE NEIGHBOUR: 'it returns false'. Refute it at one input. -/
def fieldTurnedWrong : ChangeSpec := { name := "fieldTurned", fn := fun _ => fun
  | [d1, d2, d3] => { results := [.lit (.bool false)], args := [d1, d2, d3] }
  | _ => none }
def FieldTurnedWrongFalsely : Prop := fieldTurnedRow.holds Tryz.pinned (OpenSpec.ofChange fieldTurnedWrong)

/-- 'finesselaw32.FieldSums': WHATEVER THE INPUT: true; the input reads as it did. -/
def fieldSumsSpec : ChangeSpec := { name := "fieldSums", fn := fun _ => fun
  | [d1, d2] => { results := [.lit (.bool true)], args := [d1, d2] }
  | _ => none }
def fieldSumsRow : OpenClaim := { program := "ytkcfpgaepmllhaagreatdoor", sum := "8f4cf9c48fa25db9c2f6eb5e379eb8771964973c49a57c14cee750579c2e2ab6", func := "finesse/finesselaw32.FieldSums", spec := "fieldSums", inPlace := ["math/bits.Add64", "math/bits.Sub64"], unfollowed := true, recurses := true, named := ["finesse/score.value", "finesse/score.factor", "finesse/score.more", "finesse/score.insult", "finesse/match.gets", "math/bits.divideError", "math/bits.overflowError"], plainKeys := false, apart := false, laid := [("finesse/match.gets", laid_finesse_match_gets), ("finesse/score.value", laid_finesse_score_value), ("finesse/score.factor", laid_finesse_score_factor), ("finesse/score.insult", laid_finesse_score_insult), ("finesse/score.more", laid_finesse_score_more)] }
def FieldSumsSaid : Prop := fieldSumsRow.holds Tryz.pinned (OpenSpec.ofChange fieldSumsSpec)

/-- ITS FALSE NEIGHBOUR: 'it returns false'. Refute it at one input. -/
def fieldSumsWrong : ChangeSpec := { name := "fieldSums", fn := fun _ => fun
  | [d1, d2] => { results := [.lit (.bool false)], args := [d1, d2] }
  | _ => none }
def FieldSumsWrongFalsely : Prop := fieldSumsRow.holds Tryz.pinned (OpenSpec.ofChange fieldSumsWrong)

/-- 'finesselaw32.FieldWrong': WHATEVER THE INPUT: true; the input reads as it did. -/
def fieldWrongSpec : ChangeSpec := { name := "fieldWrong", fn := fun _ => fun
  | [d1, d2, d3] => { results := [.lit (.bool true)], args := [d1, d2, d3] }
  | _ => none }
def fieldWrongRow : OpenClaim := { program := "ytkcfpgaepmllhaagreatdoor", sum := "8f4cf9c48fa25db9c2f6eb5e379eb8771964973c49a57c14cee750579c2e2ab6", func := "finesse/finesselaw32.FieldWrong", spec := "fieldWrong", inPlace := ["math/bits.Add64", "math/bits.Sub64"], unfollowed := true, recurses := true, named := ["finesse/score.value", "finesse/score.factor", "finesse/score.more", "finesse/score.insult", "finesse/match.gets", "math/bits.divideError", "math/bits.overflowError"], plainKeys := false, apart := false, laid := [("finesse/match.gets", laid_finesse_match_gets), ("finesse/score.value", laid_finesse_score_value), ("finesse/score.factor", laid_finesse_score_factor), ("finesse/score.insult", laid_finesse_score_insult), ("finesse/score.more", laid_finesse_score_more)] }
def FieldWrongSaid : Prop := fieldWrongRow.holds Tryz.pinned (OpenSpec.ofChange fieldWrongSpec)

/-- ITS FALSE NEIGHBOUR: 'it returns false'. Refute it at one input. -/
def fieldWrongWrong : ChangeSpec := { name := "fieldWrong", fn := fun _ => fun
  | [d1, d2, d3] => { results := [.lit (.bool false)], args := [d1, d2, d3] }
  | _ => none }
def FieldWrongWrongFalsely : Prop := fieldWrongRow.holds Tryz.pinned (OpenSpec.ofChange fieldWrongWrong)

/- THE SECOND FORM. 'bulk': how many values and letters a reading holds, each counted each time it is reached (what is shared counts as often as it is met; a slice's spare places count too). A statement '..UptoSaid' is the law's where the arguments, and the package variables that the reading takes, are together of bulk at most 1048576: NARROWER than '..Said'. Prove '..Said' where nothing that the law and all that it calls make is longer than what came in: it says more and counts as full. Else prove '..UptoSaid'. A law counts once. -/
mutual
def uptoBulk {H : Type} : DataW H → Nat
  | .lit (.string bytes) => bytes.length + 1
  | .lit _ => 1
  | .nil => 1
  | .ptr d => uptoBulk d + 1
  | .slice elems spare => uptoBulkAll elems + uptoBulkAll spare + 1
  | .agg parts => uptoBulkAll parts + 1
  | .iface _ d => uptoBulk d + 1
  | .map entries => uptoBulkEntries entries + 1
  | .held _ => 1
def uptoBulkAll {H : Type} : List (DataW H) → Nat
  | [] => 0
  | d :: r => uptoBulk d + uptoBulkAll r
def uptoBulkEntries {H : Type} : List (Lit × DataW H) → Nat
  | [] => 0
  | x :: r => uptoBulkEntry x + uptoBulkEntries r
def uptoBulkEntry {H : Type} : Lit × DataW H → Nat
  | (.string bytes, d) => bytes.length + uptoBulk d + 1
  | (_, d) => uptoBulk d + 1
 end
def uptoSmall : (H : Type) → List (DataW H) → Bool := fun _ ds => decide (uptoBulkAll ds ≤ 1048576)
def OpenSpec.upto (s : _root_.Go.ChangeSpec) : _root_.Go.OpenSpec := { _root_.Go.OpenSpec.ofChange s with cond := some uptoSmall }

/-- 'finesselaw32.FieldTells', WHERE WHAT IT READS IS OF BULK AT MOST 1048576: true; the input reads as it did. -/
def fieldTellsUptoRow : OpenClaim := { program := "ytkcfpgaepmllhaagreatdoor", sum := "8f4cf9c48fa25db9c2f6eb5e379eb8771964973c49a57c14cee750579c2e2ab6", func := "finesse/finesselaw32.FieldTells", spec := "fieldTells", inPlace := ["math/bits.Add64", "math/bits.Sub64"], unfollowed := true, recurses := true, named := ["finesse/score.value", "finesse/score.factor", "finesse/score.more", "finesse/score.insult", "finesse/match.gets", "math/bits.divideError", "math/bits.overflowError"], plainKeys := false, apart := false, laid := [("finesse/match.gets", laid_finesse_match_gets), ("finesse/score.value", laid_finesse_score_value), ("finesse/score.factor", laid_finesse_score_factor), ("finesse/score.insult", laid_finesse_score_insult), ("finesse/score.more", laid_finesse_score_more)], narrowed := true }
def FieldTellsUptoSaid : Prop := fieldTellsUptoRow.holds Tryz.pinned (OpenSpec.upto fieldTellsSpec)

/-- 'finesselaw32.FieldSmall', WHERE WHAT IT READS IS OF BULK AT MOST 1048576: true; the input reads as it did. -/
def fieldSmallUptoRow : OpenClaim := { program := "ytkcfpgaepmllhaagreatdoor", sum := "8f4cf9c48fa25db9c2f6eb5e379eb8771964973c49a57c14cee750579c2e2ab6", func := "finesse/finesselaw32.FieldSmall", spec := "fieldSmall", inPlace := ["math/bits.Add64", "math/bits.Sub64"], unfollowed := true, recurses := true, named := ["finesse/score.value", "finesse/score.factor", "finesse/score.more", "finesse/score.insult", "finesse/match.gets", "math/bits.divideError", "math/bits.overflowError"], plainKeys := false, apart := false, laid := [("finesse/match.gets", laid_finesse_match_gets), ("finesse/score.value", laid_finesse_score_value), ("finesse/score.factor", laid_finesse_score_factor), ("finesse/score.insult", laid_finesse_score_insult), ("finesse/score.more", laid_finesse_score_more)], narrowed := true }
def FieldSmallUptoSaid : Prop := fieldSmallUptoRow.holds Tryz.pinned (OpenSpec.upto fieldSmallSpec)

/-- 'finesselaw32.FieldOrder', WHERE WHAT IT READS IS OF BULK AT MOST 1048576: true; the input reads as it did. -/
def fieldOrderUptoRow : OpenClaim := { program := "ytkcfpgaepmllhaagreatdoor", sum := "8f4cf9c48fa25db9c2f6eb5e379eb8771964973c49a57c14cee750579c2e2ab6", func := "finesse/finesselaw32.FieldOrder", spec := "fieldOrder", inPlace := ["math/bits.Add64", "math/bits.Sub64"], unfollowed := true, recurses := true, named := ["finesse/score.value", "finesse/score.factor", "finesse/score.more", "finesse/score.insult", "finesse/match.gets", "math/bits.divideError", "math/bits.overflowError"], plainKeys := false, apart := false, laid := [("finesse/match.gets", laid_finesse_match_gets), ("finesse/score.value", laid_finesse_score_value), ("finesse/score.factor", laid_finesse_score_factor), ("finesse/score.insult", laid_finesse_score_insult), ("finesse/score.more", laid_finesse_score_more)], narrowed := true }
def FieldOrderUptoSaid : Prop := fieldOrderUptoRow.holds Tryz.pinned (OpenSpec.upto fieldOrderSpec)

/-- 'finesselaw32.FieldMissing', WHERE WHAT IT READS IS OF BULK AT MOST 1048576: true; the input reads as it did. -/
def fieldMissingUptoRow : OpenClaim := { program := "ytkcfpgaepmllhaagreatdoor", sum := "8f4cf9c48fa25db9c2f6eb5e379eb8771964973c49a57c14cee750579c2e2ab6", func := "finesse/finesselaw32.FieldMissing", spec := "fieldMissing", inPlace := ["math/bits.Add64", "math/bits.Sub64"], unfollowed := true, recurses := true, named := ["finesse/score.value", "finesse/score.factor", "finesse/score.more", "finesse/score.insult", "finesse/match.gets", "math/bits.divideError", "math/bits.overflowError"], plainKeys := false, apart := false, laid := [("finesse/match.gets", laid_finesse_match_gets), ("finesse/score.value", laid_finesse_score_value), ("finesse/score.factor", laid_finesse_score_factor), ("finesse/score.insult", laid_finesse_score_insult), ("finesse/score.more", laid_finesse_score_more)], narrowed := true }
def FieldMissingUptoSaid : Prop := fieldMissingUptoRow.holds Tryz.pinned (OpenSpec.upto fieldMissingSpec)

/-- 'finesselaw32.FieldTurned', WHERE WHAT IT READS IS OF BULK AT MOST 1048576: true; the input reads as it did. -/
def fieldTurnedUptoRow : OpenClaim := { program := "ytkcfpgaepmllhaagreatdoor", sum := "8f4cf9c48fa25db9c2f6eb5e379eb8771964973c49a57c14cee750579c2e2ab6", func := "finesse/finesselaw32.FieldTurned", spec := "fieldTurned", inPlace := ["math/bits.Add64", "math/bits.Sub64"], unfollowed := true, recurses := true, named := ["finesse/score.value", "finesse/score.factor", "finesse/score.more", "finesse/score.insult", "finesse/match.gets", "math/bits.divideError", "math/bits.overflowError"], plainKeys := false, apart := false, laid := [("finesse/match.gets", laid_finesse_match_gets), ("finesse/score.value", laid_finesse_score_value), ("finesse/score.factor", laid_finesse_score_factor), ("finesse/score.insult", laid_finesse_score_insult), ("finesse/score.more", laid_finesse_score_more)], narrowed := true }
def FieldTurnedUptoSaid : Prop := fieldTurnedUptoRow.holds Tryz.pinned (OpenSpec.upto fieldTurnedSpec)

/-- 'finesselaw32.FieldSums', WHERE WHAT IT READS IS OF BULK AT MOST 1048576: true; the input reads as it did. -/
def fieldSumsUptoRow : OpenClaim := { program := "ytkcfpgaepmllhaagreatdoor", sum := "8f4cf9c48fa25db9c2f6eb5e379eb8771964973c49a57c14cee750579c2e2ab6", func := "finesse/finesselaw32.FieldSums", spec := "fieldSums", inPlace := ["math/bits.Add64", "math/bits.Sub64"], unfollowed := true, recurses := true, named := ["finesse/score.value", "finesse/score.factor", "finesse/score.more", "finesse/score.insult", "finesse/match.gets", "math/bits.divideError", "math/bits.overflowError"], plainKeys := false, apart := false, laid := [("finesse/match.gets", laid_finesse_match_gets), ("finesse/score.value", laid_finesse_score_value), ("finesse/score.factor", laid_finesse_score_factor), ("finesse/score.insult", laid_finesse_score_insult), ("finesse/score.more", laid_finesse_score_more)], narrowed := true }
def FieldSumsUptoSaid : Prop := fieldSumsUptoRow.holds Tryz.pinned (OpenSpec.upto fieldSumsSpec)

/-- 'finesselaw32.FieldWrong', WHERE WHAT IT READS IS OF BULK AT MOST 1048576: true; the input reads as it did. -/
def fieldWrongUptoRow : OpenClaim := { program := "ytkcfpgaepmllhaagreatdoor", sum := "8f4cf9c48fa25db9c2f6eb5e379eb8771964973c49a57c14cee750579c2e2ab6", func := "finesse/finesselaw32.FieldWrong", spec := "fieldWrong", inPlace := ["math/bits.Add64", "math/bits.Sub64"], unfollowed := true, recurses := true, named := ["finesse/score.value", "finesse/score.factor", "finesse/score.more", "finesse/score.insult", "finesse/match.gets", "math/bits.divideError", "math/bits.overflowError"], plainKeys := false, apart := false, laid := [("finesse/match.gets", laid_finesse_match_gets), ("finesse/score.value", laid_finesse_score_value), ("finesse/score.factor", laid_finesse_score_factor), ("finesse/score.insult", laid_finesse_score_insult), ("finesse/score.more", laid_finesse_score_more)], narrowed := true }
def FieldWrongUptoSaid : Prop := fieldWrongUptoRow.holds Tryz.pinned (OpenSpec.upto fieldWrongSpec)

end Rows
end Go.Proofs.YtkcfpgaepmllhaaGreatDoor
