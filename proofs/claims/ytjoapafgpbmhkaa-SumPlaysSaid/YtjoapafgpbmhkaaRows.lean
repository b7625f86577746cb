/-
  No cell of these rows narrows 'for every input' (looked for: loops, veiled, ifaces, maps, wideKeys, modest, calm, conditions, laid).
  DERIVED. THE GIVEN ROWS OF THIS SEAT. 7 by the template 'for every input the law returns true; each argument reads behind the call as it read before'; 0 by the template 'total and deterministic' (their statements: YtjoapafgpbmhkaaTotals.lean).
  GIVEN WITH THE SEED: the statements are not yours to turn. If you find one false, say at which input.
  Laid BY PROGRAM, IN A SANDBOX (cutbox-rows.mjs): the forced cells as the released guide's own fill.sh prints them over the translation 1f88ad2eb161a6a5… (all of the seat's roots in one cut). By AI agents, Wed Nov 11 2026. No macro, syntax, notation, axiom, sorry.
-/
import Derived.Test.YtjoapafgpbmhkaaChecked
import GoSem.Claim
import GoSem.ClaimJoined
import GoSem.ClaimMapViews
import Derived.JoinedTies
import Derived.KernelRfl
namespace Go.Proofs.Ytjoapafgpbmhkaa
/- THE CELL 'sum', in the pinned program and in every row, IS THE sha256 OF THE DUMP (.gsa) THAT YtjoapafgpbmhkaaProg.lean LOADS. Nothing in Lean hashes anything: it is a label: what it is worth is what the hold of that sum in a sandbox is worth. -/
noncomputable def Try.pinned : Pinned := { name := "ytjoapafgpbmhkaa", sum := "1f88ad2eb161a6a5dd6d0cf0d91ddd86381a216f56fc32be88f4747aa45908b0", checked := Try.checked }
namespace Rows
def none {H : Type} : Left H := { results := [], args := [] }

/-- 'pursuivantlaw07.SumParts': WHATEVER THE INPUT: true; the input reads as it did. -/
def sumPartsSpec : ChangeSpec := { name := "sumParts", fn := fun _ => fun
  | [d] => { results := [.lit (.bool true)], args := [d] }
  | _ => none }
def sumPartsRow : OpenClaim := { program := "ytjoapafgpbmhkaa", sum := "1f88ad2eb161a6a5dd6d0cf0d91ddd86381a216f56fc32be88f4747aa45908b0", func := "pursuivant/pursuivantlaw07.SumParts", spec := "sumParts", unfollowed := true, recurses := true, apart := false }
def SumPartsSaid : Prop := sumPartsRow.holds Try.pinned (OpenSpec.ofChange sumPartsSpec)

/-- ITS FALSE NEIGHBOUR: 'it returns false'. Refute it at one input. -/
def sumPartsWrong : ChangeSpec := { name := "sumParts", fn := fun _ => fun
  | [d] => { results := [.lit (.bool false)], args := [d] }
  | _ => none }
def SumPartsWrongFalsely : Prop := sumPartsRow.holds Try.pinned (OpenSpec.ofChange sumPartsWrong)

/-- 'pursuivantlaw07.SumHeads': WHATEVER THE INPUT: true; the input reads as it did. -/
def sumHeadsSpec : ChangeSpec := { name := "sumHeads", fn := fun _ => fun
  | [d1, d2, d3] => { results := [.lit (.bool true)], args := [d1, d2, d3] }
  | _ => none }
def sumHeadsRow : OpenClaim := { program := "ytjoapafgpbmhkaa", sum := "1f88ad2eb161a6a5dd6d0cf0d91ddd86381a216f56fc32be88f4747aa45908b0", func := "pursuivant/pursuivantlaw07.SumHeads", spec := "sumHeads", unfollowed := true, recurses := true, apart := false }
def SumHeadsSaid : Prop := sumHeadsRow.holds Try.pinned (OpenSpec.ofChange sumHeadsSpec)

/-- ITS FALSE NEIGHBOUR: 'it returns false'. Refute it at one input. -/
def sumHeadsWrong : ChangeSpec := { name := "sumHeads", fn := fun _ => fun
  | [d1, d2, d3] => { results := [.lit (.bool false)], args := [d1, d2, d3] }
  | _ => none }
def SumHeadsWrongFalsely : Prop := sumHeadsRow.holds Try.pinned (OpenSpec.ofChange sumHeadsWrong)

/-- 'pursuivantlaw07.SumLays': WHATEVER THE INPUT: true; the input reads as it did. -/
def sumLaysSpec : ChangeSpec := { name := "sumLays", fn := fun _ => fun
  | [d1, d2] => { results := [.lit (.bool true)], args := [d1, d2] }
  | _ => none }
def sumLaysRow : OpenClaim := { program := "ytjoapafgpbmhkaa", sum := "1f88ad2eb161a6a5dd6d0cf0d91ddd86381a216f56fc32be88f4747aa45908b0", func := "pursuivant/pursuivantlaw07.SumLays", spec := "sumLays", unfollowed := true, recurses := true, apart := false }
def SumLaysSaid : Prop := sumLaysRow.holds Try.pinned (OpenSpec.ofChange sumLaysSpec)

/-- ITS FALSE NEIGHBOUR: 'it returns false'. Refute it at one input. -/
def sumLaysWrong : ChangeSpec := { name := "sumLays", fn := fun _ => fun
  | [d1, d2] => { results := [.lit (.bool false)], args := [d1, d2] }
  | _ => none }
def SumLaysWrongFalsely : Prop := sumLaysRow.holds Try.pinned (OpenSpec.ofChange sumLaysWrong)

/-- 'pursuivantlaw07.SumTurns': WHATEVER THE INPUT: true; the input reads as it did. -/
def sumTurnsSpec : ChangeSpec := { name := "sumTurns", fn := fun _ => fun
  | [d1, d2] => { results := [.lit (.bool true)], args := [d1, d2] }
  | _ => none }
def sumTurnsRow : OpenClaim := { program := "ytjoapafgpbmhkaa", sum := "1f88ad2eb161a6a5dd6d0cf0d91ddd86381a216f56fc32be88f4747aa45908b0", func := "pursuivant/pursuivantlaw07.SumTurns", spec := "sumTurns", unfollowed := true, recurses := true, apart := false }
def SumTurnsSaid : Prop := sumTurnsRow.holds Try.pinned (OpenSpec.ofChange sumTurnsSpec)

/-- ITS FALSE NEIGHBOUR: 'it returns false'. Refute it at one input. -/
def sumTurnsWrong : ChangeSpec := { name := "sumTurns", fn := fun _ => fun
  | [d1, d2] => { results := [.lit (.bool false)], args := [d1, d2] }
  | _ => none }
def SumTurnsWrongFalsely : Prop := sumTurnsRow.holds Try.pinned (OpenSpec.ofChange sumTurnsWrong)

/-- 'pursuivantlaw07.SumAdds': WHATEVER THE INPUT: true; the input reads as it did. -/
def sumAddsSpec : ChangeSpec := { name := "sumAdds", fn := fun _ => fun
  | [d1, d2, d3] => { results := [.lit (.bool true)], args := [d1, d2, d3] }
  | _ => none }
def sumAddsRow : OpenClaim := { program := "ytjoapafgpbmhkaa", sum := "1f88ad2eb161a6a5dd6d0cf0d91ddd86381a216f56fc32be88f4747aa45908b0", func := "pursuivant/pursuivantlaw07.SumAdds", spec := "sumAdds", unfollowed := true, recurses := true, apart := false }
def SumAddsSaid : Prop := sumAddsRow.holds Try.pinned (OpenSpec.ofChange sumAddsSpec)

/-- ITS FALSE NEIGHBOUR: 'it returns false'. Refute it at one input. -/
def sumAddsWrong : ChangeSpec := { name := "sumAdds", fn := fun _ => fun
  | [d1, d2, d3] => { results := [.lit (.bool false)], args := [d1, d2, d3] }
  | _ => none }
def SumAddsWrongFalsely : Prop := sumAddsRow.holds Try.pinned (OpenSpec.ofChange sumAddsWrong)

/-- 'pursuivantlaw07.SumHolds': WHATEVER THE INPUT: true; the input reads as it did. -/
def sumHoldsSpec : ChangeSpec := { name := "sumHolds", fn := fun _ => fun
  | [d1, d2, d3, d4] => { results := [.lit (.bool true)], args := [d1, d2, d3, d4] }
  | _ => none }
def sumHoldsRow : OpenClaim := { program := "ytjoapafgpbmhkaa", sum := "1f88ad2eb161a6a5dd6d0cf0d91ddd86381a216f56fc32be88f4747aa45908b0", func := "pursuivant/pursuivantlaw07.SumHolds", spec := "sumHolds", unfollowed := true, recurses := true, apart := false }
def SumHoldsSaid : Prop := sumHoldsRow.holds Try.pinned (OpenSpec.ofChange sumHoldsSpec)

/-- ITS FALSE NEIGHBOUR: 'it returns false'. Refute it at one input. -/
def sumHoldsWrong : ChangeSpec := { name := "sumHolds", fn := fun _ => fun
  | [d1, d2, d3, d4] => { results := [.lit (.bool false)], args := [d1, d2, d3, d4] }
  | _ => none }
def SumHoldsWrongFalsely : Prop := sumHoldsRow.holds Try.pinned (OpenSpec.ofChange sumHoldsWrong)

/-- 'pursuivantlaw07.SumPlays': WHATEVER THE INPUT: true; the input reads as it did. -/
def sumPlaysSpec : ChangeSpec := { name := "sumPlays", fn := fun _ => fun
  | [d] => { results := [.lit (.bool true)], args := [d] }
  | _ => none }
def sumPlaysRow : OpenClaim := { program := "ytjoapafgpbmhkaa", sum := "1f88ad2eb161a6a5dd6d0cf0d91ddd86381a216f56fc32be88f4747aa45908b0", func := "pursuivant/pursuivantlaw07.SumPlays", spec := "sumPlays", unfollowed := true, recurses := true, apart := false }
def SumPlaysSaid : Prop := sumPlaysRow.holds Try.pinned (OpenSpec.ofChange sumPlaysSpec)

/-- ITS FALSE NEIGHBOUR: 'it returns false'. Refute it at one input. -/
def sumPlaysWrong : ChangeSpec := { name := "sumPlays", fn := fun _ => fun
  | [d] => { results := [.lit (.bool false)], args := [d] }
  | _ => none }
def SumPlaysWrongFalsely : Prop := sumPlaysRow.holds Try.pinned (OpenSpec.ofChange sumPlaysWrong)

/- THE SECOND FORM. 'bulk': how many values and letters a reading holds, each counted each time it is reached (what is shared counts as often as it is met; a slice's spare places count too). A statement '..UptoSaid' is the law's where the arguments, and the package variables that the reading takes, are together of bulk at most 1048576: NARROWER than '..Said'. Prove '..Said' where nothing that the law and all that it calls make is longer than what came in: it says more and counts as full. Else prove '..UptoSaid'. A law counts once. -/
mutual
def uptoBulk {H : Type} : DataW H → Nat
  | .lit (.string bytes) => bytes.length + 1
  | .lit _ => 1
  | .nil => 1
  | .ptr d => uptoBulk d + 1
  | .slice elems spare => uptoBulkAll elems + uptoBulkAll spare + 1
  | .agg parts => uptoBulkAll parts + 1
  | .iface _ d => uptoBulk d + 1
  | .map entries => uptoBulkEntries entries + 1
  | .held _ => 1
def uptoBulkAll {H : Type} : List (DataW H) → Nat
  | [] => 0
  | d :: r => uptoBulk d + uptoBulkAll r
def uptoBulkEntries {H : Type} : List (Lit × DataW H) → Nat
  | [] => 0
  | x :: r => uptoBulkEntry x + uptoBulkEntries r
def uptoBulkEntry {H : Type} : Lit × DataW H → Nat
  | (.string bytes, d) => bytes.length + uptoBulk d + 1
  | (_, d) => uptoBulk d + 1
 end
def uptoSmall : (H : Type) → List (DataW H) → Bool := fun _ ds => decide (uptoBulkAll ds ≤ 1048576)
def OpenSpec.upto (s : _root_.Go.ChangeSpec) : _root_.Go.OpenSpec := { _root_.Go.OpenSpec.ofChange s with cond := some uptoSmall }

/-- 'pursuivantlaw07.SumParts', WHERE WHAT IT READS IS OF BULK AT MOST 1048576: true; the input reads as it did. -/
def sumPartsUptoRow : OpenClaim := { program := "ytjoapafgpbmhkaa", sum := "1f88ad2eb161a6a5dd6d0cf0d91ddd86381a216f56fc32be88f4747aa45908b0", func := "pursuivant/pursuivantlaw07.SumParts", spec := "sumParts", unfollowed := true, recurses := true, apart := false, narrowed := true }
def SumPartsUptoSaid : Prop := sumPartsUptoRow.holds Try.pinned (OpenSpec.upto sumPartsSpec)

/-- 'pursuivantlaw07.SumHeads', WHERE WHAT IT READS IS OF BULK AT MOST 1048576: true; the input reads as it did. -/
def sumHeadsUptoRow : OpenClaim := { program := "ytjoapafgpbmhkaa", sum := "1f88ad2eb161a6a5dd6d0cf0d91ddd86381a216f56fc32be88f4747aa45908b0", func := "pursuivant/pursuivantlaw07.SumHeads", spec := "sumHeads", unfollowed := true, recurses := true, apart := false, narrowed := true }
def SumHeadsUptoSaid : Prop := sumHeadsUptoRow.holds Try.pinned (OpenSpec.upto sumHeadsSpec)

/-- 'pursuivantlaw07.SumLays', WHERE WHAT IT READS IS OF BULK AT MOST 1048576: true; the input reads as it did. -/
def sumLaysUptoRow : OpenClaim := { program := "ytjoapafgpbmhkaa", sum := "1f88ad2eb161a6a5dd6d0cf0d91ddd86381a216f56fc32be88f4747aa45908b0", func := "pursuivant/pursuivantlaw07.SumLays", spec := "sumLays", unfollowed := true, recurses := true, apart := false, narrowed := true }
def SumLaysUptoSaid : Prop := sumLaysUptoRow.holds Try.pinned (OpenSpec.upto sumLaysSpec)

/-- 'pursuivantlaw07.SumTurns', WHERE WHAT IT READS IS OF BULK AT MOST 1048576: true; the input reads as it did. -/
def sumTurnsUptoRow : OpenClaim := { program := "ytjoapafgpbmhkaa", sum := "1f88ad2eb161a6a5dd6d0cf0d91ddd86381a216f56fc32be88f4747aa45908b0", func := "pursuivant/pursuivantlaw07.SumTurns", spec := "sumTurns", unfollowed := true, recurses := true, apart := false, narrowed := true }
def SumTurnsUptoSaid : Prop := sumTurnsUptoRow.holds Try.pinned (OpenSpec.upto sumTurnsSpec)

/-- 'pursuivantlaw07.SumAdds', WHERE WHAT IT READS IS OF BULK AT MOST 1048576: true; the input reads as it did. -/
def sumAddsUptoRow : OpenClaim := { program := "ytjoapafgpbmhkaa", sum := "1f88ad2eb161a6a5dd6d0cf0d91ddd86381a216f56fc32be88f4747aa45908b0", func := "pursuivant/pursuivantlaw07.SumAdds", spec := "sumAdds", unfollowed := true, recurses := true, apart := false, narrowed := true }
def SumAddsUptoSaid : Prop := sumAddsUptoRow.holds Try.pinned (OpenSpec.upto sumAddsSpec)

/-- 'pursuivantlaw07.SumHolds', WHERE WHAT IT READS IS OF BULK AT MOST 1048576: true; the input reads as it did. -/
def sumHoldsUptoRow : OpenClaim := { program := "ytjoapafgpbmhkaa", sum := "1f88ad2eb161a6a5dd6d0cf0d91ddd86381a216f56fc32be88f4747aa45908b0", func := "pursuivant/pursuivantlaw07.SumHolds", spec := "sumHolds", unfollowed := true, recurses := true, apart := false, narrowed := true }
def SumHoldsUptoSaid : Prop := sumHoldsUptoRow.holds Try.pinned (OpenSpec.upto sumHoldsSpec)

/-- 'pursuivantlaw07.SumPlays', WHERE WHAT IT READS IS OF BULK AT MOST 1048576: true; the input reads as it did. -/
def sumPlaysUptoRow : OpenClaim := { program := "ytjoapafgpbmhkaa", sum := "1f88ad2eb161a6a5dd6d0cf0d91ddd86381a216f56fc32be88f4747aa45908b0", func := "pursuivant/pursuivantlaw07.SumPlays", spec := "sumPlays", unfollowed := true, recurses := true, apart := false, narrowed := true }
def SumPlaysUptoSaid : Prop := sumPlaysUptoRow.holds Try.pinned (OpenSpec.upto sumPlaysSpec)

end Rows
end Go.Proofs.Ytjoapafgpbmhkaa
