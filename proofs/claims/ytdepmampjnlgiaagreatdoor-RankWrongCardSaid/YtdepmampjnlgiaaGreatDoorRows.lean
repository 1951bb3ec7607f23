/-
  NARROWER THAN 'FOR EVERY INPUT', by the rows' own cells (each row's printed sentence says how): RankLines: laid · RankTells: laid · RankSmall: laid · RankWrong: laid · RankOrder: laid · RankParts: laid · RankBetter: laid · RankSums: laid.
  DERIVED. THE GIVEN ROWS OF THIS SEAT. 8 by the template 'for every input the law returns true; each argument reads behind the call as it read before'; 0 by the template 'total and deterministic' (their statements: YtdepmampjnlgiaaGreatDoorTotals.lean).
  GIVEN WITH THE SEED: the statements are not yours to turn. If you find one false, say at which input.
  Laid BY PROGRAM, IN A SANDBOX (cutbox-rows.mjs): the forced cells as the released guide's own fill.sh prints them over the translation 10f60ba8ca20cf39… (all of the seat's roots in one cut). By AI agents, Wed Nov 11 2026. No macro, syntax, notation, axiom, sorry.
-/
import Derived.Test.YtdepmampjnlgiaaGreatDoorChecked
import GoSem.Claim
import GoSem.ClaimJoined
import GoSem.ClaimMapViews
import Derived.JoinedTies
import Derived.KernelRfl
namespace Go.Proofs.YtdepmampjnlgiaaGreatDoor
/- THE CELL 'sum', in the pinned program and in every row, IS THE sha256 OF THE DUMP (.gsa) THAT YtdepmampjnlgiaaGreatDoorProg.lean LOADS. Nothing in Lean hashes anything: it is a label: what it is worth is what the hold of that sum in a sandbox is worth. -/
noncomputable def Tryz.pinned : Pinned := { name := "ytdepmampjnlgiaagreatdoor", sum := "10f60ba8ca20cf393b5b0c53fc3e2896967507fc78216bc3bc062418fade399c", checked := Tryz.checked }
namespace Rows
def none {H : Type} : Left H := { results := [], args := [] }

/- WHAT THE LISTED PACKAGE-LEVEL VARIABLES READ AS WHEN THE CALL BEGINS. Each datum BY PROGRAM (the guide's laid-datum.mjs) off the statement by which the dump's own 'gosem.cut.vars' lays the variable. In a bare row this is a premise. The card (YtdepmampjnlgiaaGreatDoorCards.lean) ties it to the program's text. -/
def laid_finesse_match_gets {H : Type} : DataW H := .agg [.lit (.int .i64 0), .lit (.int .i64 1), .lit (.int .i64 2)]
def laid_finesse_score_value {H : Type} : DataW H := .agg [.lit (.int .i64 20), .lit (.int .i64 20), .lit (.int .i64 30), .lit (.int .i64 30), .lit (.int .i64 30)]
def laid_finesse_score_factor {H : Type} : DataW H := .agg [.lit (.int .i64 1), .lit (.int .i64 2), .lit (.int .i64 4)]
def laid_finesse_score_insult {H : Type} : DataW H := .agg [.lit (.int .i64 0), .lit (.int .i64 50), .lit (.int .i64 100)]
def laid_finesse_score_more {H : Type} : DataW H := .agg [.agg [.lit (.int .i64 0), .lit (.int .i64 0)], .agg [.lit (.int .i64 100), .lit (.int .i64 200)], .agg [.lit (.int .i64 200), .lit (.int .i64 400)]]

/-- 'finesselaw33.RankLines': WHATEVER THE INPUT: true; the input reads as it did. -/
def rankLinesSpec : ChangeSpec := { name := "rankLines", fn := fun _ => fun
  | [d1, d2] => { results := [.lit (.bool true)], args := [d1, d2] }
  | _ => none }
def rankLinesRow : OpenClaim := { program := "ytdepmampjnlgiaagreatdoor", sum := "10f60ba8ca20cf393b5b0c53fc3e2896967507fc78216bc3bc062418fade399c", func := "finesse/finesselaw33.RankLines", spec := "rankLines", inPlace := ["math/bits.Add64", "math/bits.Sub64"], unfollowed := true, recurses := true, named := ["math/bits.divideError", "math/bits.overflowError", "finesse/score.value", "finesse/score.factor", "finesse/score.more", "finesse/score.insult", "finesse/match.gets"], plainKeys := false, apart := false, laid := [("finesse/match.gets", laid_finesse_match_gets), ("finesse/score.value", laid_finesse_score_value), ("finesse/score.factor", laid_finesse_score_factor), ("finesse/score.insult", laid_finesse_score_insult), ("finesse/score.more", laid_finesse_score_more)] }
def RankLinesSaid : Prop := rankLinesRow.holds Tryz.pinned (OpenSpec.ofChange rankLinesSpec)

/-- ITS FALSE NEIGHBOUR: 'it returns false'. Refute it at one input. -/
def rankLinesWrong : ChangeSpec := { name := "rankLines", fn := fun _ => fun
  | [d1, d2] => { results := [.lit (.bool false)], args := [d1, d2] }
  | _ => none }
def RankLinesWrongFalsely : Prop := rankLinesRow.holds Tryz.pinned (OpenSpec.ofChange rankLinesWrong)

/-- 'finesselaw33.RankTells': WHATEVER THE INPUT: true; the input reads as it did. -/
def rankTellsSpec : ChangeSpec := { name := "rankTells", fn := fun _ => fun
  | [d1, d2] => { results := [.lit (.bool true)], args := [d1, d2] }
  | _ => none }
def rankTellsRow : OpenClaim := { program := "ytdepmampjnlgiaagreatdoor", sum := "10f60ba8ca20cf393b5b0c53fc3e2896967507fc78216bc3bc062418fade399c", func := "finesse/finesselaw33.RankTells", spec := "rankTells", inPlace := ["math/bits.Add64", "math/bits.Sub64"], unfollowed := true, recurses := true, named := ["finesse/score.value", "finesse/score.factor", "finesse/score.more", "finesse/score.insult", "finesse/match.gets", "math/bits.divideError", "math/bits.overflowError"], plainKeys := false, apart := false, laid := [("finesse/match.gets", laid_finesse_match_gets), ("finesse/score.value", laid_finesse_score_value), ("finesse/score.factor", laid_finesse_score_factor), ("finesse/score.insult", laid_finesse_score_insult), ("finesse/score.more", laid_finesse_score_more)] }
def RankTellsSaid : Prop := rankTellsRow.holds Tryz.pinned (OpenSpec.ofChange rankTellsSpec)

/-- ITS FALSE NEIGHBOUR: 'it returns false'. Refute it at one input. -/
def rankTellsWrong : ChangeSpec := { name := "rankTells", fn := fun _ => fun
  | [d1, d2] => { results := [.lit (.bool false)], args := [d1, d2] }
  | _ => none }
def RankTellsWrongFalsely : Prop := rankTellsRow.holds Tryz.pinned (OpenSpec.ofChange rankTellsWrong)

/-- 'finesselaw33.RankSmall': WHATEVER THE INPUT: true; the input reads as it did. -/
def rankSmallSpec : ChangeSpec := { name := "rankSmall", fn := fun _ => fun
  | [] => { results := [.lit (.bool true)], args := [] }
  | _ => none }
def rankSmallRow : OpenClaim := { program := "ytdepmampjnlgiaagreatdoor", sum := "10f60ba8ca20cf393b5b0c53fc3e2896967507fc78216bc3bc062418fade399c", func := "finesse/finesselaw33.RankSmall", spec := "rankSmall", inPlace := ["math/bits.Add64", "math/bits.Sub64"], unfollowed := true, recurses := true, named := ["math/bits.divideError", "math/bits.overflowError", "finesse/score.value", "finesse/score.factor", "finesse/score.more", "finesse/score.insult", "finesse/match.gets"], plainKeys := false, apart := false, laid := [("finesse/match.gets", laid_finesse_match_gets), ("finesse/score.value", laid_finesse_score_value), ("finesse/score.factor", laid_finesse_score_factor), ("finesse/score.insult", laid_finesse_score_insult), ("finesse/score.more", laid_finesse_score_more)] }
def RankSmallSaid : Prop := rankSmallRow.holds Tryz.pinned (OpenSpec.ofChange rankSmallSpec)

/-- ITS FALSE NEIGHBOUR: 'it returns false'. Refute it at one input. -/
def rankSmallWrong : ChangeSpec := { name := "rankSmall", fn := fun _ => fun
  | [] => { results := [.lit (.bool false)], args := [] }
  | _ => none }
def RankSmallWrongFalsely : Prop := rankSmallRow.holds Tryz.pinned (OpenSpec.ofChange rankSmallWrong)

/-- 'finesselaw33.RankWrong': WHATEVER THE INPUT: true; the input reads as it did. -/
def rankWrongSpec : ChangeSpec := { name := "rankWrong", fn := fun _ => fun
  | [d1, d2, d3] => { results := [.lit (.bool true)], args := [d1, d2, d3] }
  | _ => none }
def rankWrongRow : OpenClaim := { program := "ytdepmampjnlgiaagreatdoor", sum := "10f60ba8ca20cf393b5b0c53fc3e2896967507fc78216bc3bc062418fade399c", func := "finesse/finesselaw33.RankWrong", spec := "rankWrong", inPlace := ["math/bits.Add64", "math/bits.Sub64"], unfollowed := true, recurses := true, named := ["finesse/score.value", "finesse/score.factor", "finesse/score.more", "finesse/score.insult", "finesse/match.gets", "math/bits.divideError", "math/bits.overflowError"], plainKeys := false, apart := false, laid := [("finesse/match.gets", laid_finesse_match_gets), ("finesse/score.value", laid_finesse_score_value), ("finesse/score.factor", laid_finesse_score_factor), ("finesse/score.insult", laid_finesse_score_insult), ("finesse/score.more", laid_finesse_score_more)] }
def RankWrongSaid : Prop := rankWrongRow.holds Tryz.pinned (OpenSpec.ofChange rankWrongSpec)

/-- ITS FALSE NEIGHBOUR: 'it returns false'. Refute it at one input. -/
def rankWrongWrong : ChangeSpec := { name := "rankWrong", fn := fun _ => fun
  | [d1, d2, d3] => { results := [.lit (.bool false)], args := [d1, d2, d3] }
  | _ => none }
def RankWrongWrongFalsely : Prop := rankWrongRow.holds Tryz.pinned (OpenSpec.ofChange rankWrongWrong)

/-- 'finesselaw33.RankOrder': WHATEVER THE INPUT: true; the input reads as it did. -/
def rankOrderSpec : ChangeSpec := { name := "rankOrder", fn := fun _ => fun
  | [d1, d2, d3, d4] => { results := [.lit (.bool true)], args := [d1, d2, d3, d4] }
  | _ => none }
def rankOrderRow : OpenClaim := { program := "ytdepmampjnlgiaagreatdoor", sum := "10f60ba8ca20cf393b5b0c53fc3e2896967507fc78216bc3bc062418fade399c", func := "finesse/finesselaw33.RankOrder", spec := "rankOrder", inPlace := ["math/bits.Add64", "math/bits.Sub64"], unfollowed := true, recurses := true, named := ["finesse/score.value", "finesse/score.factor", "finesse/score.more", "finesse/score.insult", "finesse/match.gets", "math/bits.divideError", "math/bits.overflowError"], plainKeys := false, apart := false, laid := [("finesse/match.gets", laid_finesse_match_gets), ("finesse/score.value", laid_finesse_score_value), ("finesse/score.factor", laid_finesse_score_factor), ("finesse/score.insult", laid_finesse_score_insult), ("finesse/score.more", laid_finesse_score_more)] }
def RankOrderSaid : Prop := rankOrderRow.holds Tryz.pinned (OpenSpec.ofChange rankOrderSpec)

/-- ITS FALSE NEIGHBOUR: 'it returns false'. Refute it at one input. -/
def rankOrderWrong : ChangeSpec := { name := "rankOrder", fn := fun _ => fun
  | [d1, d2, d3, d4] => { results := [.lit (.bool false)], args := [d1, d2, d3, d4] }
  | _ => none }
def RankOrderWrongFalsely : Prop := rankOrderRow.holds Tryz.pinned (OpenSpec.ofChange rankOrderWrong)

/-- 'finesselaw33.RankParts': WHATEVER THE INPUT: true; the input reads as it did. -/
def rankPartsSpec : ChangeSpec := { name := "rankParts", fn := fun _ => fun
  | [d1, d2, d3] => { results := [.lit (.bool true)], args := [d1, d2, d3] }
  | _ => none }
def rankPartsRow : OpenClaim := { program := "ytdepmampjnlgiaagreatdoor", sum := "10f60ba8ca20cf393b5b0c53fc3e2896967507fc78216bc3bc062418fade399c", func := "finesse/finesselaw33.RankParts", spec := "rankParts", inPlace := ["math/bits.Add64", "math/bits.Sub64"], unfollowed := true, recurses := true, named := ["finesse/score.value", "finesse/score.factor", "finesse/score.more", "finesse/score.insult", "finesse/match.gets", "math/bits.divideError", "math/bits.overflowError"], plainKeys := false, apart := false, laid := [("finesse/match.gets", laid_finesse_match_gets), ("finesse/score.value", laid_finesse_score_value), ("finesse/score.factor", laid_finesse_score_factor), ("finesse/score.insult", laid_finesse_score_insult), ("finesse/score.more", laid_finesse_score_more)] }
def RankPartsSaid : Prop := rankPartsRow.holds Tryz.pinned (OpenSpec.ofChange rankPartsSpec)

/-- ITS FALSE NEIGHBOUR: 'it returns false'. Refute it at one input. -/
def rankPartsWrong : ChangeSpec := { name := "rankParts", fn := fun _ => fun
  | [d1, d2, d3] => { results := [.lit (.bool false)], args := [d1, d2, d3] }
  | _ => none }
def RankPartsWrongFalsely : Prop := rankPartsRow.holds Tryz.pinned (OpenSpec.ofChange rankPartsWrong)

/-- 'finesselaw33.RankBetter': WHATEVER THE INPUT: true; the input reads as it did. -/
def rankBetterSpec : ChangeSpec := { name := "rankBetter", fn := fun _ => fun
  | [d1, d2, d3] => { results := [.lit (.bool true)], args := [d1, d2, d3] }
  | _ => none }
def rankBetterRow : OpenClaim := { program := "ytdepmampjnlgiaagreatdoor", sum := "10f60ba8ca20cf393b5b0c53fc3e2896967507fc78216bc3bc062418fade399c", func := "finesse/finesselaw33.RankBetter", spec := "rankBetter", inPlace := ["math/bits.Add64", "math/bits.Sub64"], unfollowed := true, recurses := true, named := ["finesse/score.value", "finesse/score.factor", "finesse/score.more", "finesse/score.insult", "finesse/match.gets", "math/bits.divideError", "math/bits.overflowError"], plainKeys := false, apart := false, laid := [("finesse/match.gets", laid_finesse_match_gets), ("finesse/score.value", laid_finesse_score_value), ("finesse/score.factor", laid_finesse_score_factor), ("finesse/score.insult", laid_finesse_score_insult), ("finesse/score.more", laid_finesse_score_more)] }
def RankBetterSaid : Prop := rankBetterRow.holds Tryz.pinned (OpenSpec.ofChange rankBetterSpec)

/-- ITS FALSE NEIGHBOUR: 'it returns false'. Refute it at one input. -/
def rankBetterWrong : ChangeSpec := { name := "rankBetter", fn := fun _ => fun
  | [d1, d2, d3] => { results := [.lit (.bool false)], args := [d1, d2, d3] }
  | _ => none }
def RankBetterWrongFalsely : Prop := rankBetterRow.holds Tryz.pinned (OpenSpec.ofChange rankBetterWrong)

/-- 'finesselaw33.RankSums': WHATEVER THE INPUT: true; the input reads as it did. -/
def rankSumsSpec : ChangeSpec := { name := "rankSums", fn := fun _ => fun
  | [d1, d2] => { results := [.lit (.bool true)], args := [d1, d2] }
  | _ => none }
def rankSumsRow : OpenClaim := { program := "ytdepmampjnlgiaagreatdoor", sum := "10f60ba8ca20cf393b5b0c53fc3e2896967507fc78216bc3bc062418fade399c", func := "finesse/finesselaw33.RankSums", spec := "rankSums", inPlace := ["math/bits.Add64", "math/bits.Sub64"], unfollowed := true, recurses := true, named := ["finesse/score.value", "finesse/score.factor", "finesse/score.more", "finesse/score.insult", "finesse/match.gets", "math/bits.divideError", "math/bits.overflowError"], plainKeys := false, apart := false, laid := [("finesse/match.gets", laid_finesse_match_gets), ("finesse/score.value", laid_finesse_score_value), ("finesse/score.factor", laid_finesse_score_factor), ("finesse/score.insult", laid_finesse_score_insult), ("finesse/score.more", laid_finesse_score_more)] }
def RankSumsSaid : Prop := rankSumsRow.holds Tryz.pinned (OpenSpec.ofChange rankSumsSpec)

/-- ITS FALSE NEIGHBOUR: 'it returns false'. Refute it at one input. -/
def rankSumsWrong : ChangeSpec := { name := "rankSums", fn := fun _ => fun
  | [d1, d2] => { results := [.lit (.bool false)], args := [d1, d2] }
  | _ => none }
def RankSumsWrongFalsely : Prop := rankSumsRow.holds Tryz.pinned (OpenSpec.ofChange rankSumsWrong)

/- THE SECOND FORM. 'bulk': how many values and letters a reading holds, each counted each time it is reached (what is shared counts as often as it is met; a slice's spare places count too). A statement '..UptoSaid' is the law's where the arguments, and the package variables that the reading takes, are together of bulk at most 1048576: NARROWER than '..Said'. Prove '..Said' where nothing that the law and all that it calls make is longer than what came in: it says more and counts as full. Else prove '..UptoSaid'. A law counts once. -/
mutual
def uptoBulk {H : Type} : DataW H → Nat
  | .lit (.string bytes) => bytes.length + 1
  | .lit _ => 1
  | .nil => 1
  | .ptr d => uptoBulk d + 1
  | .slice elems spare => uptoBulkAll elems + uptoBulkAll spare + 1
  | .agg parts => uptoBulkAll parts + 1
  | .iface _ d => uptoBulk d + 1
  | .map entries => uptoBulkEntries entries + 1
  | .held _ => 1
def uptoBulkAll {H : Type} : List (DataW H) → Nat
  | [] => 0
  | d :: r => uptoBulk d + uptoBulkAll r
def uptoBulkEntries {H : Type} : List (Lit × DataW H) → Nat
  | [] => 0
  | x :: r => uptoBulkEntry x + uptoBulkEntries r
def uptoBulkEntry {H : Type} : Lit × DataW H → Nat
  | (.string bytes, d) => bytes.length + uptoBulk d + 1
  | (_, d) => uptoBulk d + 1
 end
def uptoSmall : (H : Type) → List (DataW H) → Bool := fun _ ds => decide (uptoBulkAll ds ≤ 1048576)
def OpenSpec.upto (s : _root_.Go.ChangeSpec) : _root_.Go.OpenSpec := { _root_.Go.OpenSpec.ofChange s with cond := some uptoSmall }

/-- 'finesselaw33.RankLines', WHERE WHAT IT READS IS OF BULK AT MOST 1048576: true; the input reads as it did. -/
def rankLinesUptoRow : OpenClaim := { program := "ytdepmampjnlgiaagreatdoor", sum := "10f60ba8ca20cf393b5b0c53fc3e2896967507fc78216bc3bc062418fade399c", func := "finesse/finesselaw33.RankLines", spec := "rankLines", inPlace := ["math/bits.Add64", "math/bits.Sub64"], unfollowed := true, recurses := true, named := ["math/bits.divideError", "math/bits.overflowError", "finesse/score.value", "finesse/score.factor", "finesse/score.more", "finesse/score.insult", "finesse/match.gets"], plainKeys := false, apart := false, laid := [("finesse/match.gets", laid_finesse_match_gets), ("finesse/score.value", laid_finesse_score_value), ("finesse/score.factor", laid_finesse_score_factor), ("finesse/score.insult", laid_finesse_score_insult), ("finesse/score.more", laid_finesse_score_more)], narrowed := true }
def RankLinesUptoSaid : Prop := rankLinesUptoRow.holds Tryz.pinned (OpenSpec.upto rankLinesSpec)

/-- 'finesselaw33.RankTells', WHERE WHAT IT READS IS OF BULK AT MOST 1048576: true; the input reads as it did. -/
def rankTellsUptoRow : OpenClaim := { program := "ytdepmampjnlgiaagreatdoor", sum := "10f60ba8ca20cf393b5b0c53fc3e2896967507fc78216bc3bc062418fade399c", func := "finesse/finesselaw33.RankTells", spec := "rankTells", inPlace := ["math/bits.Add64", "math/bits.Sub64"], unfollowed := true, recurses := true, named := ["finesse/score.value", "finesse/score.factor", "finesse/score.more", "finesse/score.insult", "finesse/match.gets", "math/bits.divideError", "math/bits.overflowError"], plainKeys := false, apart := false, laid := [("finesse/match.gets", laid_finesse_match_gets), ("finesse/score.value", laid_finesse_score_value), ("finesse/score.factor", laid_finesse_score_factor), ("finesse/score.insult", laid_finesse_score_insult), ("finesse/score.more", laid_finesse_score_more)], narrowed := true }
def RankTellsUptoSaid : Prop := rankTellsUptoRow.holds Tryz.pinned (OpenSpec.upto rankTellsSpec)

/-- 'finesselaw33.RankSmall', WHERE WHAT IT READS IS OF BULK AT MOST 1048576: true; the input reads as it did. -/
def rankSmallUptoRow : OpenClaim := { program := "ytdepmampjnlgiaagreatdoor", sum := "10f60ba8ca20cf393b5b0c53fc3e2896967507fc78216bc3bc062418fade399c", func := "finesse/finesselaw33.RankSmall", spec := "rankSmall", inPlace := ["math/bits.Add64", "math/bits.Sub64"], unfollowed := true, recurses := true, named := ["math/bits.divideError", "math/bits.overflowError", "finesse/score.value", "finesse/score.factor", "finesse/score.more", "finesse/score.insult", "finesse/match.gets"], plainKeys := false, apart := false, laid := [("finesse/match.gets", laid_finesse_match_gets), ("finesse/score.value", laid_finesse_score_value), ("finesse/score.factor", laid_finesse_score_factor), ("finesse/score.insult", laid_finesse_score_insult), ("finesse/score.more", laid_finesse_score_more)], narrowed := true }
def RankSmallUptoSaid : Prop := rankSmallUptoRow.holds Tryz.pinned (OpenSpec.upto rankSmallSpec)

/-- 'finesselaw33.RankWrong', WHERE WHAT IT READS IS OF BULK AT MOST 1048576: true; the input reads as it did. -/
def rankWrongUptoRow : OpenClaim := { program := "ytdepmampjnlgiaagreatdoor", sum := "10f60ba8ca20cf393b5b0c53fc3e2896967507fc78216bc3bc062418fade399c", func := "finesse/finesselaw33.RankWrong", spec := "rankWrong", inPlace := ["math/bits.Add64", "math/bits.Sub64"], unfollowed := true, recurses := true, named := ["finesse/score.value", "finesse/score.factor", "finesse/score.more", "finesse/score.insult", "finesse/match.gets", "math/bits.divideError", "math/bits.overflowError"], plainKeys := false, apart := false, laid := [("finesse/match.gets", laid_finesse_match_gets), ("finesse/score.value", laid_finesse_score_value), ("finesse/score.factor", laid_finesse_score_factor), ("finesse/score.insult", laid_finesse_score_insult), ("finesse/score.more", laid_finesse_score_more)], narrowed := true }
def RankWrongUptoSaid : Prop := rankWrongUptoRow.holds Tryz.pinned (OpenSpec.upto rankWrongSpec)

/-- 'finesselaw33.RankOrder', WHERE WHAT IT READS IS OF BULK AT MOST 1048576: true; the input reads as it did. -/
def rankOrderUptoRow : OpenClaim := { program := "ytdepmampjnlgiaagreatdoor", sum := "10f60ba8ca20cf393b5b0c53fc3e2896967507fc78216bc3bc062418fade399c", func := "finesse/finesselaw33.RankOrder", spec := "rankOrder", inPlace := ["math/bits.Add64", "math/bits.Sub64"], unfollowed := true, recurses := true, named := ["finesse/score.value", "finesse/score.factor", "finesse/score.more", "finesse/score.insult", "finesse/match.gets", "math/bits.divideError", "math/bits.overflowError"], plainKeys := false, apart := false, laid := [("finesse/match.gets", laid_finesse_match_gets), ("finesse/score.value", laid_finesse_score_value), ("finesse/score.factor", laid_finesse_score_factor), ("finesse/score.insult", laid_finesse_score_insult), ("finesse/score.more", laid_finesse_score_more)], narrowed := true }
def RankOrderUptoSaid : Prop := rankOrderUptoRow.holds Tryz.pinned (OpenSpec.upto rankOrderSpec)

/-- 'finesselaw33.RankParts', WHERE WHAT IT READS IS OF BULK AT MOST 1048576: true; the input reads as it did. -/
def rankPartsUptoRow : OpenClaim := { program := "ytdepmampjnlgiaagreatdoor", sum := "10f60ba8ca20cf393b5b0c53fc3e2896967507fc78216bc3bc062418fade399c", func := "finesse/finesselaw33.RankParts", spec := "rankParts", inPlace := ["math/bits.Add64", "math/bits.Sub64"], unfollowed := true, recurses := true, named := ["finesse/score.value", "finesse/score.factor", "finesse/score.more", "finesse/score.insult", "finesse/match.gets", "math/bits.divideError", "math/bits.overflowError"], plainKeys := false, apart := false, laid := [("finesse/match.gets", laid_finesse_match_gets), ("finesse/score.value", laid_finesse_score_value), ("finesse/score.factor", laid_finesse_score_factor), ("finesse/score.insult", laid_finesse_score_insult), ("finesse/score.more", laid_finesse_score_more)], narrowed := true }
def RankPartsUptoSaid : Prop := rankPartsUptoRow.holds Tryz.pinned (OpenSpec.upto rankPartsSpec)

/-- 'finesselaw33.RankBetter', WHERE WHAT IT READS IS OF BULK AT MOST 1048576: true; the input reads as it did. -/
def rankBetterUptoRow : OpenClaim := { program := "ytdepmampjnlgiaagreatdoor", sum := "10f60ba8ca20cf393b5b0c53fc3e2896967507fc78216bc3bc062418fade399c", func := "finesse/finesselaw33.RankBetter", spec := "rankBetter", inPlace := ["math/bits.Add64", "math/bits.Sub64"], unfollowed := true, recurses := true, named := ["finesse/score.value", "finesse/score.factor", "finesse/score.more", "finesse/score.insult", "finesse/match.gets", "math/bits.divideError", "math/bits.overflowError"], plainKeys := false, apart := false, laid := [("finesse/match.gets", laid_finesse_match_gets), ("finesse/score.value", laid_finesse_score_value), ("finesse/score.factor", laid_finesse_score_factor), ("finesse/score.insult", laid_finesse_score_insult), ("finesse/score.more", laid_finesse_score_more)], narrowed := true }
def RankBetterUptoSaid : Prop := rankBetterUptoRow.holds Tryz.pinned (OpenSpec.upto rankBetterSpec)

/-- 'finesselaw33.RankSums', WHERE WHAT IT READS IS OF BULK AT MOST 1048576: true; the input reads as it did. -/
def rankSumsUptoRow : OpenClaim := { program := "ytdepmampjnlgiaagreatdoor", sum := "10f60ba8ca20cf393b5b0c53fc3e2896967507fc78216bc3bc062418fade399c", func := "finesse/finesselaw33.RankSums", spec := "rankSums", inPlace := ["math/bits.Add64", "math/bits.Sub64"], unfollowed := true, recurses := true, named := ["finesse/score.value", "finesse/score.factor", "finesse/score.more", "finesse/score.insult", "finesse/match.gets", "math/bits.divideError", "math/bits.overflowError"], plainKeys := false, apart := false, laid := [("finesse/match.gets", laid_finesse_match_gets), ("finesse/score.value", laid_finesse_score_value), ("finesse/score.factor", laid_finesse_score_factor), ("finesse/score.insult", laid_finesse_score_insult), ("finesse/score.more", laid_finesse_score_more)], narrowed := true }
def RankSumsUptoSaid : Prop := rankSumsUptoRow.holds Tryz.pinned (OpenSpec.upto rankSumsSpec)

end Rows
end Go.Proofs.YtdepmampjnlgiaaGreatDoor
