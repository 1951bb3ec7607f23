/-
  No cell of these rows narrows 'for every input' (looked for: loops, veiled, ifaces, maps, wideKeys, modest, calm, conditions, laid).
  DERIVED. THE GIVEN ROWS OF THIS SEAT. 8 by the template 'for every input the law returns true; each argument reads behind the call as it read before'; 0 by the template 'total and deterministic' (their statements: YtpmgaaalfdjikaaTotals.lean).
  GIVEN WITH THE SEED: the statements are not yours to turn. If you find one false, say at which input.
  Laid BY PROGRAM, IN A SANDBOX (cutbox-rows.mjs): the forced cells as the released guide's own fill.sh prints them over the translation 339554f4350c734c… (all of the seat's roots in one cut). By AI agents, Wed Nov 11 2026. No macro, syntax, notation, axiom, sorry.
-/
import Derived.Test.YtpmgaaalfdjikaaChecked
import GoSem.Claim
import GoSem.ClaimJoined
import GoSem.ClaimMapViews
import Derived.JoinedTies
import Derived.KernelRfl
namespace Go.Proofs.Ytpmgaaalfdjikaa
/- THE CELL 'sum', in the pinned program and in every row, IS THE sha256 OF THE DUMP (.gsa) THAT YtpmgaaalfdjikaaProg.lean LOADS. Nothing in Lean hashes anything: it is a label: what it is worth is what the hold of that sum in a sandbox is worth. -/
noncomputable def Try.pinned : Pinned := { name := "ytpmgaaalfdjikaa", sum := "339554f4350c734caba978aede45c83c6eb929919b318e0f50827398f9c88a34", checked := Try.checked }
namespace Rows
def none {H : Type} : Left H := { results := [], args := [] }

/-- 'finesselaw29.TurnBest': WHATEVER THE INPUT: true; the input reads as it did. -/
def turnBestSpec : ChangeSpec := { name := "turnBest", fn := fun _ => fun
  | [d1, d2] => { results := [.lit (.bool true)], args := [d1, d2] }
  | _ => none }
def turnBestRow : OpenClaim := { program := "ytpmgaaalfdjikaa", sum := "339554f4350c734caba978aede45c83c6eb929919b318e0f50827398f9c88a34", func := "finesse/finesselaw29.TurnBest", spec := "turnBest", unfollowed := true, recurses := true, apart := false }
def TurnBestSaid : Prop := turnBestRow.holds Try.pinned (OpenSpec.ofChange turnBestSpec)

/-- ITS FALSE NEIGHBOUR: 'it returns false'. Refute it at one input. -/
def turnBestWrong : ChangeSpec := { name := "turnBest", fn := fun _ => fun
  | [d1, d2] => { results := [.lit (.bool false)], args := [d1, d2] }
  | _ => none }
def TurnBestWrongFalsely : Prop := turnBestRow.holds Try.pinned (OpenSpec.ofChange turnBestWrong)

/-- 'finesselaw29.TurnLeast': WHATEVER THE INPUT: true; the input reads as it did. -/
def turnLeastSpec : ChangeSpec := { name := "turnLeast", fn := fun _ => fun
  | [d1, d2] => { results := [.lit (.bool true)], args := [d1, d2] }
  | _ => none }
def turnLeastRow : OpenClaim := { program := "ytpmgaaalfdjikaa", sum := "339554f4350c734caba978aede45c83c6eb929919b318e0f50827398f9c88a34", func := "finesse/finesselaw29.TurnLeast", spec := "turnLeast", unfollowed := true, recurses := true, apart := false }
def TurnLeastSaid : Prop := turnLeastRow.holds Try.pinned (OpenSpec.ofChange turnLeastSpec)

/-- ITS FALSE NEIGHBOUR: 'it returns false'. Refute it at one input. -/
def turnLeastWrong : ChangeSpec := { name := "turnLeast", fn := fun _ => fun
  | [d1, d2] => { results := [.lit (.bool false)], args := [d1, d2] }
  | _ => none }
def TurnLeastWrongFalsely : Prop := turnLeastRow.holds Try.pinned (OpenSpec.ofChange turnLeastWrong)

/-- 'finesselaw29.TurnRounds': WHATEVER THE INPUT: true; the input reads as it did. -/
def turnRoundsSpec : ChangeSpec := { name := "turnRounds", fn := fun _ => fun
  | [d1, d2] => { results := [.lit (.bool true)], args := [d1, d2] }
  | _ => none }
def turnRoundsRow : OpenClaim := { program := "ytpmgaaalfdjikaa", sum := "339554f4350c734caba978aede45c83c6eb929919b318e0f50827398f9c88a34", func := "finesse/finesselaw29.TurnRounds", spec := "turnRounds", unfollowed := true, recurses := true, apart := false }
def TurnRoundsSaid : Prop := turnRoundsRow.holds Try.pinned (OpenSpec.ofChange turnRoundsSpec)

/-- ITS FALSE NEIGHBOUR: 'it returns false'. Refute it at one input. -/
def turnRoundsWrong : ChangeSpec := { name := "turnRounds", fn := fun _ => fun
  | [d1, d2] => { results := [.lit (.bool false)], args := [d1, d2] }
  | _ => none }
def TurnRoundsWrongFalsely : Prop := turnRoundsRow.holds Try.pinned (OpenSpec.ofChange turnRoundsWrong)

/-- 'finesselaw29.TurnTells': WHATEVER THE INPUT: true; the input reads as it did. -/
def turnTellsSpec : ChangeSpec := { name := "turnTells", fn := fun _ => fun
  | [d1, d2, d3, d4, d5] => { results := [.lit (.bool true)], args := [d1, d2, d3, d4, d5] }
  | _ => none }
def turnTellsRow : OpenClaim := { program := "ytpmgaaalfdjikaa", sum := "339554f4350c734caba978aede45c83c6eb929919b318e0f50827398f9c88a34", func := "finesse/finesselaw29.TurnTells", spec := "turnTells", unfollowed := true, recurses := true, apart := false }
def TurnTellsSaid : Prop := turnTellsRow.holds Try.pinned (OpenSpec.ofChange turnTellsSpec)

/-- ITS FALSE NEIGHBOUR: 'it returns false'. Refute it at one input. -/
def turnTellsWrong : ChangeSpec := { name := "turnTells", fn := fun _ => fun
  | [d1, d2, d3, d4, d5] => { results := [.lit (.bool false)], args := [d1, d2, d3, d4, d5] }
  | _ => none }
def TurnTellsWrongFalsely : Prop := turnTellsRow.holds Try.pinned (OpenSpec.ofChange turnTellsWrong)

/-- 'finesselaw29.TurnSmall': WHATEVER THE INPUT: true; the input reads as it did. -/
def turnSmallSpec : ChangeSpec := { name := "turnSmall", fn := fun _ => fun
  | [] => { results := [.lit (.bool true)], args := [] }
  | _ => none }
def turnSmallRow : OpenClaim := { program := "ytpmgaaalfdjikaa", sum := "339554f4350c734caba978aede45c83c6eb929919b318e0f50827398f9c88a34", func := "finesse/finesselaw29.TurnSmall", spec := "turnSmall", unfollowed := true, recurses := true, apart := false }
def TurnSmallSaid : Prop := turnSmallRow.holds Try.pinned (OpenSpec.ofChange turnSmallSpec)

/-- ITS FALSE NEIGHBOUR: 'it returns false'. Refute it at one input. -/
def turnSmallWrong : ChangeSpec := { name := "turnSmall", fn := fun _ => fun
  | [] => { results := [.lit (.bool false)], args := [] }
  | _ => none }
def TurnSmallWrongFalsely : Prop := turnSmallRow.holds Try.pinned (OpenSpec.ofChange turnSmallWrong)

/-- 'finesselaw29.TurnWrong': WHATEVER THE INPUT: true; the input reads as it did. -/
def turnWrongSpec : ChangeSpec := { name := "turnWrong", fn := fun _ => fun
  | [d1, d2, d3] => { results := [.lit (.bool true)], args := [d1, d2, d3] }
  | _ => none }
def turnWrongRow : OpenClaim := { program := "ytpmgaaalfdjikaa", sum := "339554f4350c734caba978aede45c83c6eb929919b318e0f50827398f9c88a34", func := "finesse/finesselaw29.TurnWrong", spec := "turnWrong", unfollowed := true, recurses := true, apart := false }
def TurnWrongSaid : Prop := turnWrongRow.holds Try.pinned (OpenSpec.ofChange turnWrongSpec)

/-- ITS FALSE NEIGHBOUR: 'it returns false'. Refute it at one input. -/
def turnWrongWrong : ChangeSpec := { name := "turnWrong", fn := fun _ => fun
  | [d1, d2, d3] => { results := [.lit (.bool false)], args := [d1, d2, d3] }
  | _ => none }
def TurnWrongWrongFalsely : Prop := turnWrongRow.holds Try.pinned (OpenSpec.ofChange turnWrongWrong)

/-- 'finesselaw29.TurnKeeps': WHATEVER THE INPUT: true; the input reads as it did. -/
def turnKeepsSpec : ChangeSpec := { name := "turnKeeps", fn := fun _ => fun
  | [d1, d2, d3] => { results := [.lit (.bool true)], args := [d1, d2, d3] }
  | _ => none }
def turnKeepsRow : OpenClaim := { program := "ytpmgaaalfdjikaa", sum := "339554f4350c734caba978aede45c83c6eb929919b318e0f50827398f9c88a34", func := "finesse/finesselaw29.TurnKeeps", spec := "turnKeeps", unfollowed := true, recurses := true, apart := false }
def TurnKeepsSaid : Prop := turnKeepsRow.holds Try.pinned (OpenSpec.ofChange turnKeepsSpec)

/-- ITS FALSE NEIGHBOUR: 'it returns false'. Refute it at one input. -/
def turnKeepsWrong : ChangeSpec := { name := "turnKeeps", fn := fun _ => fun
  | [d1, d2, d3] => { results := [.lit (.bool false)], args := [d1, d2, d3] }
  | _ => none }
def TurnKeepsWrongFalsely : Prop := turnKeepsRow.holds Try.pinned (OpenSpec.ofChange turnKeepsWrong)

/-- 'finesselaw29.TurnSums': WHATEVER THE INPUT: true; the input reads as it did. -/
def turnSumsSpec : ChangeSpec := { name := "turnSums", fn := fun _ => fun
  | [d1, d2] => { results := [.lit (.bool true)], args := [d1, d2] }
  | _ => none }
def turnSumsRow : OpenClaim := { program := "ytpmgaaalfdjikaa", sum := "339554f4350c734caba978aede45c83c6eb929919b318e0f50827398f9c88a34", func := "finesse/finesselaw29.TurnSums", spec := "turnSums", unfollowed := true, recurses := true, apart := false }
def TurnSumsSaid : Prop := turnSumsRow.holds Try.pinned (OpenSpec.ofChange turnSumsSpec)

/-- ITS FALSE NEIGHBOUR: 'it returns false'. Refute it at one input. -/
def turnSumsWrong : ChangeSpec := { name := "turnSums", fn := fun _ => fun
  | [d1, d2] => { results := [.lit (.bool false)], args := [d1, d2] }
  | _ => none }
def TurnSumsWrongFalsely : Prop := turnSumsRow.holds Try.pinned (OpenSpec.ofChange turnSumsWrong)

/- THE SECOND FORM. 'bulk': how many values and letters a reading holds, each counted each time it is reached (what is shared counts as often as it is met; a slice's spare places count too). A statement '..UptoSaid' is the law's where the arguments, and the package variables that the reading takes, are together of bulk at most 1048576: NARROWER than '..Said'. Prove '..Said' where nothing that the law and all that it calls make is longer than what came in: it says more and counts as full. Else prove '..UptoSaid'. A law counts once. -/
mutual
def uptoBulk {H : Type} : DataW H → Nat
  | .lit (.string bytes) => bytes.length + 1
  | .lit _ => 1
  | .nil => 1
  | .ptr d => uptoBulk d + 1
  | .slice elems spare => uptoBulkAll elems + uptoBulkAll spare + 1
  | .agg parts => uptoBulkAll parts + 1
  | .iface _ d => uptoBulk d + 1
  | .map entries => uptoBulkEntries entries + 1
  | .held _ => 1
def uptoBulkAll {H : Type} : List (DataW H) → Nat
  | [] => 0
  | d :: r => uptoBulk d + uptoBulkAll r
def uptoBulkEntries {H : Type} : List (Lit × DataW H) → Nat
  | [] => 0
  | x :: r => uptoBulkEntry x + uptoBulkEntries r
def uptoBulkEntry {H : Type} : Lit × DataW H → Nat
  | (.string bytes, d) => bytes.length + uptoBulk d + 1
  | (_, d) => uptoBulk d + 1
 end
def uptoSmall : (H : Type) → List (DataW H) → Bool := fun _ ds => decide (uptoBulkAll ds ≤ 1048576)
def OpenSpec.upto (s : _root_.Go.ChangeSpec) : _root_.Go.OpenSpec := { _root_.Go.OpenSpec.ofChange s with cond := some uptoSmall }

/-- 'finesselaw29.TurnBest', WHERE WHAT IT READS IS OF BULK AT MOST 1048576: true; the input reads as it did. -/
def turnBestUptoRow : OpenClaim := { program := "ytpmgaaalfdjikaa", sum := "339554f4350c734caba978aede45c83c6eb929919b318e0f50827398f9c88a34", func := "finesse/finesselaw29.TurnBest", spec := "turnBest", unfollowed := true, recurses := true, apart := false, narrowed := true }
def TurnBestUptoSaid : Prop := turnBestUptoRow.holds Try.pinned (OpenSpec.upto turnBestSpec)

/-- 'finesselaw29.TurnLeast', WHERE WHAT IT READS IS OF BULK AT MOST 1048576: true; the input reads as it did. -/
def turnLeastUptoRow : OpenClaim := { program := "ytpmgaaalfdjikaa", sum := "339554f4350c734caba978aede45c83c6eb929919b318e0f50827398f9c88a34", func := "finesse/finesselaw29.TurnLeast", spec := "turnLeast", unfollowed := true, recurses := true, apart := false, narrowed := true }
def TurnLeastUptoSaid : Prop := turnLeastUptoRow.holds Try.pinned (OpenSpec.upto turnLeastSpec)

/-- 'finesselaw29.TurnRounds', WHERE WHAT IT READS IS OF BULK AT MOST 1048576: true; the input reads as it did. -/
def turnRoundsUptoRow : OpenClaim := { program := "ytpmgaaalfdjikaa", sum := "339554f4350c734caba978aede45c83c6eb929919b318e0f50827398f9c88a34", func := "finesse/finesselaw29.TurnRounds", spec := "turnRounds", unfollowed := true, recurses := true, apart := false, narrowed := true }
def TurnRoundsUptoSaid : Prop := turnRoundsUptoRow.holds Try.pinned (OpenSpec.upto turnRoundsSpec)

/-- 'finesselaw29.TurnTells', WHERE WHAT IT READS IS OF BULK AT MOST 1048576: true; the input reads as it did. -/
def turnTellsUptoRow : OpenClaim := { program := "ytpmgaaalfdjikaa", sum := "339554f4350c734caba978aede45c83c6eb929919b318e0f50827398f9c88a34", func := "finesse/finesselaw29.TurnTells", spec := "turnTells", unfollowed := true, recurses := true, apart := false, narrowed := true }
def TurnTellsUptoSaid : Prop := turnTellsUptoRow.holds Try.pinned (OpenSpec.upto turnTellsSpec)

/-- 'finesselaw29.TurnSmall', WHERE WHAT IT READS IS OF BULK AT MOST 1048576: true; the input reads as it did. -/
def turnSmallUptoRow : OpenClaim := { program := "ytpmgaaalfdjikaa", sum := "339554f4350c734caba978aede45c83c6eb929919b318e0f50827398f9c88a34", func := "finesse/finesselaw29.TurnSmall", spec := "turnSmall", unfollowed := true, recurses := true, apart := false, narrowed := true }
def TurnSmallUptoSaid : Prop := turnSmallUptoRow.holds Try.pinned (OpenSpec.upto turnSmallSpec)

/-- 'finesselaw29.TurnWrong', WHERE WHAT IT READS IS OF BULK AT MOST 1048576: true; the input reads as it did. -/
def turnWrongUptoRow : OpenClaim := { program := "ytpmgaaalfdjikaa", sum := "339554f4350c734caba978aede45c83c6eb929919b318e0f50827398f9c88a34", func := "finesse/finesselaw29.TurnWrong", spec := "turnWrong", unfollowed := true, recurses := true, apart := false, narrowed := true }
def TurnWrongUptoSaid : Prop := turnWrongUptoRow.holds Try.pinned (OpenSpec.upto turnWrongSpec)

/-- 'finesselaw29.TurnKeeps', WHERE WHAT IT READS IS OF BULK AT MOST 1048576: true; the input reads as it did. -/
def turnKeepsUptoRow : OpenClaim := { program := "ytpmgaaalfdjikaa", sum := "339554f4350c734caba978aede45c83c6eb929919b318e0f50827398f9c88a34", func := "finesse/finesselaw29.TurnKeeps", spec := "turnKeeps", unfollowed := true, recurses := true, apart := false, narrowed := true }
def TurnKeepsUptoSaid : Prop := turnKeepsUptoRow.holds Try.pinned (OpenSpec.upto turnKeepsSpec)

/-- 'finesselaw29.TurnSums', WHERE WHAT IT READS IS OF BULK AT MOST 1048576: true; the input reads as it did. -/
def turnSumsUptoRow : OpenClaim := { program := "ytpmgaaalfdjikaa", sum := "339554f4350c734caba978aede45c83c6eb929919b318e0f50827398f9c88a34", func := "finesse/finesselaw29.TurnSums", spec := "turnSums", unfollowed := true, recurses := true, apart := false, narrowed := true }
def TurnSumsUptoSaid : Prop := turnSumsUptoRow.holds Try.pinned (OpenSpec.upto turnSumsSpec)

end Rows
end Go.Proofs.Ytpmgaaalfdjikaa
