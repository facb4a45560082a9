/-
  No cell of these rows narrows 'for every input' (looked for: loops, veiled, ifaces, maps, wideKeys, modest, calm, conditions, laid).
  DERIVED. THE GIVEN ROWS OF THIS SEAT. 8 by the template 'for every input the law returns true; each argument reads behind the call as it read before'; 0 by the template 'total and deterministic' (their statements: YtofffddcbjkdcaaTotals.lean).
  GIVEN WITH THE SEED: the statements are not yours to turn. If you find one false, say at which input.
  Laid BY PROGRAM, IN A SANDBOX (cutbox-rows.mjs): the forced cells as the released guide's own fill.sh prints them over the translation 70ac2b7cba939368… (all of the seat's roots in one cut). By AI agents, Wed Nov 11 2026. No macro, syntax, notation, axiom, sorry.
-/
import Derived.Test.YtofffddcbjkdcaaChecked
import GoSem.Claim
import GoSem.ClaimJoined
import GoSem.ClaimMapViews
import Derived.JoinedTies
import Derived.KernelRfl
namespace Go.Proofs.Ytofffddcbjkdcaa
/- THE CELL 'sum', in the pinned program and in every row, IS THE sha256 OF THE DUMP (.gsa) THAT YtofffddcbjkdcaaProg.lean LOADS. Nothing in Lean hashes anything: it is a label: what it is worth is what the hold of that sum in a sandbox is worth. -/
noncomputable def Try.pinned : Pinned := { name := "ytofffddcbjkdcaa", sum := "70ac2b7cba9393681bbdc1398d85df385f94217d1889ab2eed639851d34122be", checked := Try.checked }
namespace Rows
def none {H : Type} : Left H := { results := [], args := [] }

/-- 'stereobatelaw02.CrcSums': WHATEVER THE INPUT: true; the input reads as it did. -/
def crcSumsSpec : ChangeSpec := { name := "crcSums", fn := fun _ => fun
  | [d1, d2] => { results := [.lit (.bool true)], args := [d1, d2] }
  | _ => none }
def crcSumsRow : OpenClaim := { program := "ytofffddcbjkdcaa", sum := "70ac2b7cba9393681bbdc1398d85df385f94217d1889ab2eed639851d34122be", func := "stereobate/stereobatelaw02.CrcSums", spec := "crcSums", apart := false }
def CrcSumsSaid : Prop := crcSumsRow.holds Try.pinned (OpenSpec.ofChange crcSumsSpec)

/-- ITS FALSE NEIGHBOUR: 'it returns false'. Refute it at one input. -/
def crcSumsWrong : ChangeSpec := { name := "crcSums", fn := fun _ => fun
  | [d1, d2] => { results := [.lit (.bool false)], args := [d1, d2] }
  | _ => none }
def CrcSumsWrongFalsely : Prop := crcSumsRow.holds Try.pinned (OpenSpec.ofChange crcSumsWrong)

/-- 'stereobatelaw02.CrcSpoilt': WHATEVER THE INPUT: true; the input reads as it did. -/
def crcSpoiltSpec : ChangeSpec := { name := "crcSpoilt", fn := fun _ => fun
  | [d1, d2, d3] => { results := [.lit (.bool true)], args := [d1, d2, d3] }
  | _ => none }
def crcSpoiltRow : OpenClaim := { program := "ytofffddcbjkdcaa", sum := "70ac2b7cba9393681bbdc1398d85df385f94217d1889ab2eed639851d34122be", func := "stereobate/stereobatelaw02.CrcSpoilt", spec := "crcSpoilt", apart := false }
def CrcSpoiltSaid : Prop := crcSpoiltRow.holds Try.pinned (OpenSpec.ofChange crcSpoiltSpec)

/-- ITS FALSE NEIGHBOUR: 'it returns false'. Refute it at one input. -/
def crcSpoiltWrong : ChangeSpec := { name := "crcSpoilt", fn := fun _ => fun
  | [d1, d2, d3] => { results := [.lit (.bool false)], args := [d1, d2, d3] }
  | _ => none }
def CrcSpoiltWrongFalsely : Prop := crcSpoiltRow.holds Try.pinned (OpenSpec.ofChange crcSpoiltWrong)

/-- 'stereobatelaw02.CrcThree': WHATEVER THE INPUT: true; the input reads as it did. -/
def crcThreeSpec : ChangeSpec := { name := "crcThree", fn := fun _ => fun
  | [d1, d2, d3] => { results := [.lit (.bool true)], args := [d1, d2, d3] }
  | _ => none }
def crcThreeRow : OpenClaim := { program := "ytofffddcbjkdcaa", sum := "70ac2b7cba9393681bbdc1398d85df385f94217d1889ab2eed639851d34122be", func := "stereobate/stereobatelaw02.CrcThree", spec := "crcThree", apart := false }
def CrcThreeSaid : Prop := crcThreeRow.holds Try.pinned (OpenSpec.ofChange crcThreeSpec)

/-- ITS FALSE NEIGHBOUR: 'it returns false'. Refute it at one input. -/
def crcThreeWrong : ChangeSpec := { name := "crcThree", fn := fun _ => fun
  | [d1, d2, d3] => { results := [.lit (.bool false)], args := [d1, d2, d3] }
  | _ => none }
def CrcThreeWrongFalsely : Prop := crcThreeRow.holds Try.pinned (OpenSpec.ofChange crcThreeWrong)

/-- 'stereobatelaw02.CrcBehind': WHATEVER THE INPUT: true; the input reads as it did. -/
def crcBehindSpec : ChangeSpec := { name := "crcBehind", fn := fun _ => fun
  | [d1, d2] => { results := [.lit (.bool true)], args := [d1, d2] }
  | _ => none }
def crcBehindRow : OpenClaim := { program := "ytofffddcbjkdcaa", sum := "70ac2b7cba9393681bbdc1398d85df385f94217d1889ab2eed639851d34122be", func := "stereobate/stereobatelaw02.CrcBehind", spec := "crcBehind", unfollowed := true, recurses := true, apart := false }
def CrcBehindSaid : Prop := crcBehindRow.holds Try.pinned (OpenSpec.ofChange crcBehindSpec)

/-- ITS FALSE NEIGHBOUR: 'it returns false'. Refute it at one input. -/
def crcBehindWrong : ChangeSpec := { name := "crcBehind", fn := fun _ => fun
  | [d1, d2] => { results := [.lit (.bool false)], args := [d1, d2] }
  | _ => none }
def CrcBehindWrongFalsely : Prop := crcBehindRow.holds Try.pinned (OpenSpec.ofChange crcBehindWrong)

/-- 'stereobatelaw06.GrantsAll': WHATEVER THE INPUT: true; the input reads as it did. -/
def grantsAllSpec : ChangeSpec := { name := "grantsAll", fn := fun _ => fun
  | [d1, d2, d3] => { results := [.lit (.bool true)], args := [d1, d2, d3] }
  | _ => none }
def grantsAllRow : OpenClaim := { program := "ytofffddcbjkdcaa", sum := "70ac2b7cba9393681bbdc1398d85df385f94217d1889ab2eed639851d34122be", func := "stereobate/stereobatelaw06.GrantsAll", spec := "grantsAll", apart := false }
def GrantsAllSaid : Prop := grantsAllRow.holds Try.pinned (OpenSpec.ofChange grantsAllSpec)

/-- ITS FALSE NEIGHBOUR: 'it returns false'. Refute it at one input. -/
def grantsAllWrong : ChangeSpec := { name := "grantsAll", fn := fun _ => fun
  | [d1, d2, d3] => { results := [.lit (.bool false)], args := [d1, d2, d3] }
  | _ => none }
def GrantsAllWrongFalsely : Prop := grantsAllRow.holds Try.pinned (OpenSpec.ofChange grantsAllWrong)

/-- 'stereobatelaw06.GrantsTurns': WHATEVER THE INPUT: true; the input reads as it did. -/
def grantsTurnsSpec : ChangeSpec := { name := "grantsTurns", fn := fun _ => fun
  | [d1, d2, d3] => { results := [.lit (.bool true)], args := [d1, d2, d3] }
  | _ => none }
def grantsTurnsRow : OpenClaim := { program := "ytofffddcbjkdcaa", sum := "70ac2b7cba9393681bbdc1398d85df385f94217d1889ab2eed639851d34122be", func := "stereobate/stereobatelaw06.GrantsTurns", spec := "grantsTurns", apart := false }
def GrantsTurnsSaid : Prop := grantsTurnsRow.holds Try.pinned (OpenSpec.ofChange grantsTurnsSpec)

/-- ITS FALSE NEIGHBOUR: 'it returns false'. Refute it at one input. -/
def grantsTurnsWrong : ChangeSpec := { name := "grantsTurns", fn := fun _ => fun
  | [d1, d2, d3] => { results := [.lit (.bool false)], args := [d1, d2, d3] }
  | _ => none }
def GrantsTurnsWrongFalsely : Prop := grantsTurnsRow.holds Try.pinned (OpenSpec.ofChange grantsTurnsWrong)

/-- 'stereobatelaw17.RedoBytes': WHATEVER THE INPUT: true; the input reads as it did. -/
def redoBytesSpec : ChangeSpec := { name := "redoBytes", fn := fun _ => fun
  | [d1, d2, d3, d4, d5] => { results := [.lit (.bool true)], args := [d1, d2, d3, d4, d5] }
  | _ => none }
def redoBytesRow : OpenClaim := { program := "ytofffddcbjkdcaa", sum := "70ac2b7cba9393681bbdc1398d85df385f94217d1889ab2eed639851d34122be", func := "stereobate/stereobatelaw17.RedoBytes", spec := "redoBytes", unfollowed := true, recurses := true, apart := false }
def RedoBytesSaid : Prop := redoBytesRow.holds Try.pinned (OpenSpec.ofChange redoBytesSpec)

/-- ITS FALSE NEIGHBOUR: 'it returns false'. Refute it at one input. -/
def redoBytesWrong : ChangeSpec := { name := "redoBytes", fn := fun _ => fun
  | [d1, d2, d3, d4, d5] => { results := [.lit (.bool false)], args := [d1, d2, d3, d4, d5] }
  | _ => none }
def RedoBytesWrongFalsely : Prop := redoBytesRow.holds Try.pinned (OpenSpec.ofChange redoBytesWrong)

/-- 'stereobatelaw17.RedoParses': WHATEVER THE INPUT: true; the input reads as it did. -/
def redoParsesSpec : ChangeSpec := { name := "redoParses", fn := fun _ => fun
  | [d] => { results := [.lit (.bool true)], args := [d] }
  | _ => none }
def redoParsesRow : OpenClaim := { program := "ytofffddcbjkdcaa", sum := "70ac2b7cba9393681bbdc1398d85df385f94217d1889ab2eed639851d34122be", func := "stereobate/stereobatelaw17.RedoParses", spec := "redoParses", unfollowed := true, recurses := true, apart := false }
def RedoParsesSaid : Prop := redoParsesRow.holds Try.pinned (OpenSpec.ofChange redoParsesSpec)

/-- ITS FALSE NEIGHBOUR: 'it returns false'. Refute it at one input. -/
def redoParsesWrong : ChangeSpec := { name := "redoParses", fn := fun _ => fun
  | [d] => { results := [.lit (.bool false)], args := [d] }
  | _ => none }
def RedoParsesWrongFalsely : Prop := redoParsesRow.holds Try.pinned (OpenSpec.ofChange redoParsesWrong)

/- THE SECOND FORM. 'bulk': how many values and letters a reading holds, each counted each time it is reached (what is shared counts as often as it is met; a slice's spare places count too). A statement '..UptoSaid' is the law's where the arguments, and the package variables that the reading takes, are together of bulk at most 1048576: NARROWER than '..Said'. Prove '..Said' where nothing that the law and all that it calls make is longer than what came in: it says more and counts as full. Else prove '..UptoSaid'. A law counts once. -/
mutual
def uptoBulk {H : Type} : DataW H → Nat
  | .lit (.string bytes) => bytes.length + 1
  | .lit _ => 1
  | .nil => 1
  | .ptr d => uptoBulk d + 1
  | .slice elems spare => uptoBulkAll elems + uptoBulkAll spare + 1
  | .agg parts => uptoBulkAll parts + 1
  | .iface _ d => uptoBulk d + 1
  | .map entries => uptoBulkEntries entries + 1
  | .held _ => 1
def uptoBulkAll {H : Type} : List (DataW H) → Nat
  | [] => 0
  | d :: r => uptoBulk d + uptoBulkAll r
def uptoBulkEntries {H : Type} : List (Lit × DataW H) → Nat
  | [] => 0
  | x :: r => uptoBulkEntry x + uptoBulkEntries r
def uptoBulkEntry {H : Type} : Lit × DataW H → Nat
  | (.string bytes, d) => bytes.length + uptoBulk d + 1
  | (_, d) => uptoBulk d + 1
 end
def uptoSmall : (H : Type) → List (DataW H) → Bool := fun _ ds => decide (uptoBulkAll ds ≤ 1048576)
def OpenSpec.upto (s : _root_.Go.ChangeSpec) : _root_.Go.OpenSpec := { _root_.Go.OpenSpec.ofChange s with cond := some uptoSmall }

/-- 'stereobatelaw02.CrcSums', WHERE WHAT IT READS IS OF BULK AT MOST 1048576: true; the input reads as it did. -/
def crcSumsUptoRow : OpenClaim := { program := "ytofffddcbjkdcaa", sum := "70ac2b7cba9393681bbdc1398d85df385f94217d1889ab2eed639851d34122be", func := "stereobate/stereobatelaw02.CrcSums", spec := "crcSums", apart := false, narrowed := true }
def CrcSumsUptoSaid : Prop := crcSumsUptoRow.holds Try.pinned (OpenSpec.upto crcSumsSpec)

/-- 'stereobatelaw02.CrcSpoilt', WHERE WHAT IT READS IS OF BULK AT MOST 1048576: true; the input reads as it did. -/
def crcSpoiltUptoRow : OpenClaim := { program := "ytofffddcbjkdcaa", sum := "70ac2b7cba9393681bbdc1398d85df385f94217d1889ab2eed639851d34122be", func := "stereobate/stereobatelaw02.CrcSpoilt", spec := "crcSpoilt", apart := false, narrowed := true }
def CrcSpoiltUptoSaid : Prop := crcSpoiltUptoRow.holds Try.pinned (OpenSpec.upto crcSpoiltSpec)

/-- 'stereobatelaw02.CrcThree', WHERE WHAT IT READS IS OF BULK AT MOST 1048576: true; the input reads as it did. -/
def crcThreeUptoRow : OpenClaim := { program := "ytofffddcbjkdcaa", sum := "70ac2b7cba9393681bbdc1398d85df385f94217d1889ab2eed639851d34122be", func := "stereobate/stereobatelaw02.CrcThree", spec := "crcThree", apart := false, narrowed := true }
def CrcThreeUptoSaid : Prop := crcThreeUptoRow.holds Try.pinned (OpenSpec.upto crcThreeSpec)

/-- 'stereobatelaw02.CrcBehind', WHERE WHAT IT READS IS OF BULK AT MOST 1048576: true; the input reads as it did. -/
def crcBehindUptoRow : OpenClaim := { program := "ytofffddcbjkdcaa", sum := "70ac2b7cba9393681bbdc1398d85df385f94217d1889ab2eed639851d34122be", func := "stereobate/stereobatelaw02.CrcBehind", spec := "crcBehind", unfollowed := true, recurses := true, apart := false, narrowed := true }
def CrcBehindUptoSaid : Prop := crcBehindUptoRow.holds Try.pinned (OpenSpec.upto crcBehindSpec)

/-- 'stereobatelaw06.GrantsAll', WHERE WHAT IT READS IS OF BULK AT MOST 1048576: true; the input reads as it did. -/
def grantsAllUptoRow : OpenClaim := { program := "ytofffddcbjkdcaa", sum := "70ac2b7cba9393681bbdc1398d85df385f94217d1889ab2eed639851d34122be", func := "stereobate/stereobatelaw06.GrantsAll", spec := "grantsAll", apart := false, narrowed := true }
def GrantsAllUptoSaid : Prop := grantsAllUptoRow.holds Try.pinned (OpenSpec.upto grantsAllSpec)

/-- 'stereobatelaw06.GrantsTurns', WHERE WHAT IT READS IS OF BULK AT MOST 1048576: true; the input reads as it did. -/
def grantsTurnsUptoRow : OpenClaim := { program := "ytofffddcbjkdcaa", sum := "70ac2b7cba9393681bbdc1398d85df385f94217d1889ab2eed639851d34122be", func := "stereobate/stereobatelaw06.GrantsTurns", spec := "grantsTurns", apart := false, narrowed := true }
def GrantsTurnsUptoSaid : Prop := grantsTurnsUptoRow.holds Try.pinned (OpenSpec.upto grantsTurnsSpec)

/-- 'stereobatelaw17.RedoBytes', WHERE WHAT IT READS IS OF BULK AT MOST 1048576: true; the input reads as it did. -/
def redoBytesUptoRow : OpenClaim := { program := "ytofffddcbjkdcaa", sum := "70ac2b7cba9393681bbdc1398d85df385f94217d1889ab2eed639851d34122be", func := "stereobate/stereobatelaw17.RedoBytes", spec := "redoBytes", unfollowed := true, recurses := true, apart := false, narrowed := true }
def RedoBytesUptoSaid : Prop := redoBytesUptoRow.holds Try.pinned (OpenSpec.upto redoBytesSpec)

/-- 'stereobatelaw17.RedoParses', WHERE WHAT IT READS IS OF BULK AT MOST 1048576: true; the input reads as it did. -/
def redoParsesUptoRow : OpenClaim := { program := "ytofffddcbjkdcaa", sum := "70ac2b7cba9393681bbdc1398d85df385f94217d1889ab2eed639851d34122be", func := "stereobate/stereobatelaw17.RedoParses", spec := "redoParses", unfollowed := true, recurses := true, apart := false, narrowed := true }
def RedoParsesUptoSaid : Prop := redoParsesUptoRow.holds Try.pinned (OpenSpec.upto redoParsesSpec)

end Rows
end Go.Proofs.Ytofffddcbjkdcaa
