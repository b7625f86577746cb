/-
  No cell of these rows narrows 'for every input' (looked for: loops, veiled, ifaces, maps, wideKeys, modest, calm, conditions, laid).
  DERIVED. THE GIVEN ROWS OF THIS SEAT. 6 by the template 'for every input the law returns true; each argument reads behind the call as it read before'; 0 by the template 'total and deterministic' (their statements: YtfeohojpjncgaaaTotals.lean).
  GIVEN WITH THE SEED: the statements are not yours to turn. If you find one false, say at which input.
  Laid BY PROGRAM, IN A SANDBOX (cutbox-rows.mjs): the forced cells as the released guide's own fill.sh prints them over the translation 9bc30cca2871c8d4… (all of the seat's roots in one cut). By AI agents, Wed Nov 11 2026. No macro, syntax, notation, axiom, sorry.
-/
import Derived.Test.YtfeohojpjncgaaaChecked
import GoSem.Claim
import GoSem.ClaimJoined
import GoSem.ClaimMapViews
import Derived.JoinedTies
import Derived.KernelRfl
namespace Go.Proofs.Ytfeohojpjncgaaa
/- THE CELL 'sum', in the pinned program and in every row, IS THE sha256 OF THE DUMP (.gsa) THAT YtfeohojpjncgaaaProg.lean LOADS. Nothing in Lean hashes anything: it is a label: what it is worth is what the hold of that sum in a sandbox is worth. -/
noncomputable def Try.pinned : Pinned := { name := "ytfeohojpjncgaaa", sum := "9bc30cca2871c8d4e4e84cdd0234e2905ac0899f789852213a0014510ff30894", checked := Try.checked }
namespace Rows
def none {H : Type} : Left H := { results := [], args := [] }

/-- 'pursuivantlaw02.HmacBlocks': WHATEVER THE INPUT: true; the input reads as it did. -/
def hmacBlocksSpec : ChangeSpec := { name := "hmacBlocks", fn := fun _ => fun
  | [d] => { results := [.lit (.bool true)], args := [d] }
  | _ => none }
def hmacBlocksRow : OpenClaim := { program := "ytfeohojpjncgaaa", sum := "9bc30cca2871c8d4e4e84cdd0234e2905ac0899f789852213a0014510ff30894", func := "pursuivant/pursuivantlaw02.HmacBlocks", spec := "hmacBlocks", unfollowed := true, recurses := true, apart := false }
def HmacBlocksSaid : Prop := hmacBlocksRow.holds Try.pinned (OpenSpec.ofChange hmacBlocksSpec)

/-- ITS FALSE NEIGHBOUR: 'it returns false'. Refute it at one input. -/
def hmacBlocksWrong : ChangeSpec := { name := "hmacBlocks", fn := fun _ => fun
  | [d] => { results := [.lit (.bool false)], args := [d] }
  | _ => none }
def HmacBlocksWrongFalsely : Prop := hmacBlocksRow.holds Try.pinned (OpenSpec.ofChange hmacBlocksWrong)

/-- 'pursuivantlaw02.HmacPlays': WHATEVER THE INPUT: true; the input reads as it did. -/
def hmacPlaysSpec : ChangeSpec := { name := "hmacPlays", fn := fun _ => fun
  | [d1, d2, d3] => { results := [.lit (.bool true)], args := [d1, d2, d3] }
  | _ => none }
def hmacPlaysRow : OpenClaim := { program := "ytfeohojpjncgaaa", sum := "9bc30cca2871c8d4e4e84cdd0234e2905ac0899f789852213a0014510ff30894", func := "pursuivant/pursuivantlaw02.HmacPlays", spec := "hmacPlays", unfollowed := true, recurses := true, apart := false }
def HmacPlaysSaid : Prop := hmacPlaysRow.holds Try.pinned (OpenSpec.ofChange hmacPlaysSpec)

/-- ITS FALSE NEIGHBOUR: 'it returns false'. Refute it at one input. -/
def hmacPlaysWrong : ChangeSpec := { name := "hmacPlays", fn := fun _ => fun
  | [d1, d2, d3] => { results := [.lit (.bool false)], args := [d1, d2, d3] }
  | _ => none }
def HmacPlaysWrongFalsely : Prop := hmacPlaysRow.holds Try.pinned (OpenSpec.ofChange hmacPlaysWrong)

/-- 'pursuivantlaw02.HmacTags': WHATEVER THE INPUT: true; the input reads as it did. -/
def hmacTagsSpec : ChangeSpec := { name := "hmacTags", fn := fun _ => fun
  | [d1, d2] => { results := [.lit (.bool true)], args := [d1, d2] }
  | _ => none }
def hmacTagsRow : OpenClaim := { program := "ytfeohojpjncgaaa", sum := "9bc30cca2871c8d4e4e84cdd0234e2905ac0899f789852213a0014510ff30894", func := "pursuivant/pursuivantlaw02.HmacTags", spec := "hmacTags", unfollowed := true, recurses := true, apart := false }
def HmacTagsSaid : Prop := hmacTagsRow.holds Try.pinned (OpenSpec.ofChange hmacTagsSpec)

/-- ITS FALSE NEIGHBOUR: 'it returns false'. Refute it at one input. -/
def hmacTagsWrong : ChangeSpec := { name := "hmacTags", fn := fun _ => fun
  | [d1, d2] => { results := [.lit (.bool false)], args := [d1, d2] }
  | _ => none }
def HmacTagsWrongFalsely : Prop := hmacTagsRow.holds Try.pinned (OpenSpec.ofChange hmacTagsWrong)

/-- 'pursuivantlaw02.HmacParts': WHATEVER THE INPUT: true; the input reads as it did. -/
def hmacPartsSpec : ChangeSpec := { name := "hmacParts", fn := fun _ => fun
  | [d1, d2] => { results := [.lit (.bool true)], args := [d1, d2] }
  | _ => none }
def hmacPartsRow : OpenClaim := { program := "ytfeohojpjncgaaa", sum := "9bc30cca2871c8d4e4e84cdd0234e2905ac0899f789852213a0014510ff30894", func := "pursuivant/pursuivantlaw02.HmacParts", spec := "hmacParts", unfollowed := true, recurses := true, apart := false }
def HmacPartsSaid : Prop := hmacPartsRow.holds Try.pinned (OpenSpec.ofChange hmacPartsSpec)

/-- ITS FALSE NEIGHBOUR: 'it returns false'. Refute it at one input. -/
def hmacPartsWrong : ChangeSpec := { name := "hmacParts", fn := fun _ => fun
  | [d1, d2] => { results := [.lit (.bool false)], args := [d1, d2] }
  | _ => none }
def HmacPartsWrongFalsely : Prop := hmacPartsRow.holds Try.pinned (OpenSpec.ofChange hmacPartsWrong)

/-- 'pursuivantlaw02.HmacLong': WHATEVER THE INPUT: true; the input reads as it did. -/
def hmacLongSpec : ChangeSpec := { name := "hmacLong", fn := fun _ => fun
  | [] => { results := [.lit (.bool true)], args := [] }
  | _ => none }
def hmacLongRow : OpenClaim := { program := "ytfeohojpjncgaaa", sum := "9bc30cca2871c8d4e4e84cdd0234e2905ac0899f789852213a0014510ff30894", func := "pursuivant/pursuivantlaw02.HmacLong", spec := "hmacLong", unfollowed := true, recurses := true, apart := false }
def HmacLongSaid : Prop := hmacLongRow.holds Try.pinned (OpenSpec.ofChange hmacLongSpec)

/-- ITS FALSE NEIGHBOUR: 'it returns false'. Refute it at one input. -/
def hmacLongWrong : ChangeSpec := { name := "hmacLong", fn := fun _ => fun
  | [] => { results := [.lit (.bool false)], args := [] }
  | _ => none }
def HmacLongWrongFalsely : Prop := hmacLongRow.holds Try.pinned (OpenSpec.ofChange hmacLongWrong)

/-- 'pursuivantlaw02.HmacHolds': WHATEVER THE INPUT: true; the input reads as it did. -/
def hmacHoldsSpec : ChangeSpec := { name := "hmacHolds", fn := fun _ => fun
  | [d1, d2, d3, d4] => { results := [.lit (.bool true)], args := [d1, d2, d3, d4] }
  | _ => none }
def hmacHoldsRow : OpenClaim := { program := "ytfeohojpjncgaaa", sum := "9bc30cca2871c8d4e4e84cdd0234e2905ac0899f789852213a0014510ff30894", func := "pursuivant/pursuivantlaw02.HmacHolds", spec := "hmacHolds", unfollowed := true, recurses := true, apart := false }
def HmacHoldsSaid : Prop := hmacHoldsRow.holds Try.pinned (OpenSpec.ofChange hmacHoldsSpec)

/-- ITS FALSE NEIGHBOUR: 'it returns false'. Refute it at one input. -/
def hmacHoldsWrong : ChangeSpec := { name := "hmacHolds", fn := fun _ => fun
  | [d1, d2, d3, d4] => { results := [.lit (.bool false)], args := [d1, d2, d3, d4] }
  | _ => none }
def HmacHoldsWrongFalsely : Prop := hmacHoldsRow.holds Try.pinned (OpenSpec.ofChange hmacHoldsWrong)

/- THE SECOND FORM. 'bulk': how many values and letters a reading holds, each counted each time it is reached (what is shared counts as often as it is met; a slice's spare places count too). A statement '..UptoSaid' is the law's where the arguments, and the package variables that the reading takes, are together of bulk at most 1048576: NARROWER than '..Said'. Prove '..Said' where nothing that the law and all that it calls make is longer than what came in: it says more and counts as full. Else prove '..UptoSaid'. A law counts once. -/
mutual
def uptoBulk {H : Type} : DataW H → Nat
  | .lit (.string bytes) => bytes.length + 1
  | .lit _ => 1
  | .nil => 1
  | .ptr d => uptoBulk d + 1
  | .slice elems spare => uptoBulkAll elems + uptoBulkAll spare + 1
  | .agg parts => uptoBulkAll parts + 1
  | .iface _ d => uptoBulk d + 1
  | .map entries => uptoBulkEntries entries + 1
  | .held _ => 1
def uptoBulkAll {H : Type} : List (DataW H) → Nat
  | [] => 0
  | d :: r => uptoBulk d + uptoBulkAll r
def uptoBulkEntries {H : Type} : List (Lit × DataW H) → Nat
  | [] => 0
  | x :: r => uptoBulkEntry x + uptoBulkEntries r
def uptoBulkEntry {H : Type} : Lit × DataW H → Nat
  | (.string bytes, d) => bytes.length + uptoBulk d + 1
  | (_, d) => uptoBulk d + 1
 end
def uptoSmall : (H : Type) → List (DataW H) → Bool := fun _ ds => decide (uptoBulkAll ds ≤ 1048576)
def OpenSpec.upto (s : _root_.Go.ChangeSpec) : _root_.Go.OpenSpec := { _root_.Go.OpenSpec.ofChange s with cond := some uptoSmall }

/-- 'pursuivantlaw02.HmacBlocks', WHERE WHAT IT READS IS OF BULK AT MOST 1048576: true; the input reads as it did. -/
def hmacBlocksUptoRow : OpenClaim := { program := "ytfeohojpjncgaaa", sum := "9bc30cca2871c8d4e4e84cdd0234e2905ac0899f789852213a0014510ff30894", func := "pursuivant/pursuivantlaw02.HmacBlocks", spec := "hmacBlocks", unfollowed := true, recurses := true, apart := false, narrowed := true }
def HmacBlocksUptoSaid : Prop := hmacBlocksUptoRow.holds Try.pinned (OpenSpec.upto hmacBlocksSpec)

/-- 'pursuivantlaw02.HmacPlays', WHERE WHAT IT READS IS OF BULK AT MOST 1048576: true; the input reads as it did. -/
def hmacPlaysUptoRow : OpenClaim := { program := "ytfeohojpjncgaaa", sum := "9bc30cca2871c8d4e4e84cdd0234e2905ac0899f789852213a0014510ff30894", func := "pursuivant/pursuivantlaw02.HmacPlays", spec := "hmacPlays", unfollowed := true, recurses := true, apart := false, narrowed := true }
def HmacPlaysUptoSaid : Prop := hmacPlaysUptoRow.holds Try.pinned (OpenSpec.upto hmacPlaysSpec)

/-- 'pursuivantlaw02.HmacTags', WHERE WHAT IT READS IS OF BULK AT MOST 1048576: true; the input reads as it did. -/
def hmacTagsUptoRow : OpenClaim := { program := "ytfeohojpjncgaaa", sum := "9bc30cca2871c8d4e4e84cdd0234e2905ac0899f789852213a0014510ff30894", func := "pursuivant/pursuivantlaw02.HmacTags", spec := "hmacTags", unfollowed := true, recurses := true, apart := false, narrowed := true }
def HmacTagsUptoSaid : Prop := hmacTagsUptoRow.holds Try.pinned (OpenSpec.upto hmacTagsSpec)

/-- 'pursuivantlaw02.HmacParts', WHERE WHAT IT READS IS OF BULK AT MOST 1048576: true; the input reads as it did. -/
def hmacPartsUptoRow : OpenClaim := { program := "ytfeohojpjncgaaa", sum := "9bc30cca2871c8d4e4e84cdd0234e2905ac0899f789852213a0014510ff30894", func := "pursuivant/pursuivantlaw02.HmacParts", spec := "hmacParts", unfollowed := true, recurses := true, apart := false, narrowed := true }
def HmacPartsUptoSaid : Prop := hmacPartsUptoRow.holds Try.pinned (OpenSpec.upto hmacPartsSpec)

/-- 'pursuivantlaw02.HmacLong', WHERE WHAT IT READS IS OF BULK AT MOST 1048576: true; the input reads as it did. -/
def hmacLongUptoRow : OpenClaim := { program := "ytfeohojpjncgaaa", sum := "9bc30cca2871c8d4e4e84cdd0234e2905ac0899f789852213a0014510ff30894", func := "pursuivant/pursuivantlaw02.HmacLong", spec := "hmacLong", unfollowed := true, recurses := true, apart := false, narrowed := true }
def HmacLongUptoSaid : Prop := hmacLongUptoRow.holds Try.pinned (OpenSpec.upto hmacLongSpec)

/-- 'pursuivantlaw02.HmacHolds', WHERE WHAT IT READS IS OF BULK AT MOST 1048576: true; the input reads as it did. -/
def hmacHoldsUptoRow : OpenClaim := { program := "ytfeohojpjncgaaa", sum := "9bc30cca2871c8d4e4e84cdd0234e2905ac0899f789852213a0014510ff30894", func := "pursuivant/pursuivantlaw02.HmacHolds", spec := "hmacHolds", unfollowed := true, recurses := true, apart := false, narrowed := true }
def HmacHoldsUptoSaid : Prop := hmacHoldsUptoRow.holds Try.pinned (OpenSpec.upto hmacHoldsSpec)

end Rows
end Go.Proofs.Ytfeohojpjncgaaa
