/-
  No cell of these rows narrows 'for every input' (looked for: loops, veiled, ifaces, maps, wideKeys, modest, calm, conditions, laid).
  DERIVED. THE GIVEN ROWS OF THIS SEAT. 7 by the template 'for every input the law returns true; each argument reads behind the call as it read before'; 0 by the template 'total and deterministic' (their statements: YtfenpgeicgoedaaTotals.lean).
  GIVEN WITH THE SEED: the statements are not yours to turn. If you find one false, say at which input.
  Laid BY PROGRAM, IN A SANDBOX (cutbox-rows.mjs): the forced cells as the released guide's own fill.sh prints them over the translation 22c518a9dc0dec60… (all of the seat's roots in one cut). By AI agents, Wed Nov 11 2026. No macro, syntax, notation, axiom, sorry.
-/
import Derived.Test.YtfenpgeicgoedaaChecked
import GoSem.Claim
import GoSem.ClaimJoined
import GoSem.ClaimMapViews
import Derived.JoinedTies
import Derived.KernelRfl
namespace Go.Proofs.Ytfenpgeicgoedaa
/- THE CELL 'sum', in the pinned program and in every row, IS THE sha256 OF THE DUMP (.gsa) THAT YtfenpgeicgoedaaProg.lean LOADS. Nothing in Lean hashes anything: it is a label: what it is worth is what the hold of that sum in a sandbox is worth. -/
noncomputable def Try.pinned : Pinned := { name := "ytfenpgeicgoedaa", sum := "22c518a9dc0dec60a4427dcb3c94b4c992f049774831f0b306f996b0061fd6bb", checked := Try.checked }
namespace Rows
def none {H : Type} : Left H := { results := [], args := [] }

/-- 'pursuivantlaw01.Sha1Sums': WHATEVER THE INPUT: true; the input reads as it did. -/
def sha1SumsSpec : ChangeSpec := { name := "sha1Sums", fn := fun _ => fun
  | [d] => { results := [.lit (.bool true)], args := [d] }
  | _ => none }
def sha1SumsRow : OpenClaim := { program := "ytfenpgeicgoedaa", sum := "22c518a9dc0dec60a4427dcb3c94b4c992f049774831f0b306f996b0061fd6bb", func := "pursuivant/pursuivantlaw01.Sha1Sums", spec := "sha1Sums", unfollowed := true, recurses := true, apart := false }
def Sha1SumsSaid : Prop := sha1SumsRow.holds Try.pinned (OpenSpec.ofChange sha1SumsSpec)

/-- ITS FALSE NEIGHBOUR: 'it returns false'. Refute it at one input. -/
def sha1SumsWrong : ChangeSpec := { name := "sha1Sums", fn := fun _ => fun
  | [d] => { results := [.lit (.bool false)], args := [d] }
  | _ => none }
def Sha1SumsWrongFalsely : Prop := sha1SumsRow.holds Try.pinned (OpenSpec.ofChange sha1SumsWrong)

/-- 'pursuivantlaw01.Sha1Parts': WHATEVER THE INPUT: true; the input reads as it did. -/
def sha1PartsSpec : ChangeSpec := { name := "sha1Parts", fn := fun _ => fun
  | [d] => { results := [.lit (.bool true)], args := [d] }
  | _ => none }
def sha1PartsRow : OpenClaim := { program := "ytfenpgeicgoedaa", sum := "22c518a9dc0dec60a4427dcb3c94b4c992f049774831f0b306f996b0061fd6bb", func := "pursuivant/pursuivantlaw01.Sha1Parts", spec := "sha1Parts", unfollowed := true, recurses := true, apart := false }
def Sha1PartsSaid : Prop := sha1PartsRow.holds Try.pinned (OpenSpec.ofChange sha1PartsSpec)

/-- ITS FALSE NEIGHBOUR: 'it returns false'. Refute it at one input. -/
def sha1PartsWrong : ChangeSpec := { name := "sha1Parts", fn := fun _ => fun
  | [d] => { results := [.lit (.bool false)], args := [d] }
  | _ => none }
def Sha1PartsWrongFalsely : Prop := sha1PartsRow.holds Try.pinned (OpenSpec.ofChange sha1PartsWrong)

/-- 'pursuivantlaw01.Sha1Blocks': WHATEVER THE INPUT: true; the input reads as it did. -/
def sha1BlocksSpec : ChangeSpec := { name := "sha1Blocks", fn := fun _ => fun
  | [d1, d2] => { results := [.lit (.bool true)], args := [d1, d2] }
  | _ => none }
def sha1BlocksRow : OpenClaim := { program := "ytfenpgeicgoedaa", sum := "22c518a9dc0dec60a4427dcb3c94b4c992f049774831f0b306f996b0061fd6bb", func := "pursuivant/pursuivantlaw01.Sha1Blocks", spec := "sha1Blocks", unfollowed := true, recurses := true, apart := false }
def Sha1BlocksSaid : Prop := sha1BlocksRow.holds Try.pinned (OpenSpec.ofChange sha1BlocksSpec)

/-- ITS FALSE NEIGHBOUR: 'it returns false'. Refute it at one input. -/
def sha1BlocksWrong : ChangeSpec := { name := "sha1Blocks", fn := fun _ => fun
  | [d1, d2] => { results := [.lit (.bool false)], args := [d1, d2] }
  | _ => none }
def Sha1BlocksWrongFalsely : Prop := sha1BlocksRow.holds Try.pinned (OpenSpec.ofChange sha1BlocksWrong)

/-- 'pursuivantlaw01.Sha1Tails': WHATEVER THE INPUT: true; the input reads as it did. -/
def sha1TailsSpec : ChangeSpec := { name := "sha1Tails", fn := fun _ => fun
  | [d] => { results := [.lit (.bool true)], args := [d] }
  | _ => none }
def sha1TailsRow : OpenClaim := { program := "ytfenpgeicgoedaa", sum := "22c518a9dc0dec60a4427dcb3c94b4c992f049774831f0b306f996b0061fd6bb", func := "pursuivant/pursuivantlaw01.Sha1Tails", spec := "sha1Tails", unfollowed := true, recurses := true, apart := false }
def Sha1TailsSaid : Prop := sha1TailsRow.holds Try.pinned (OpenSpec.ofChange sha1TailsSpec)

/-- ITS FALSE NEIGHBOUR: 'it returns false'. Refute it at one input. -/
def sha1TailsWrong : ChangeSpec := { name := "sha1Tails", fn := fun _ => fun
  | [d] => { results := [.lit (.bool false)], args := [d] }
  | _ => none }
def Sha1TailsWrongFalsely : Prop := sha1TailsRow.holds Try.pinned (OpenSpec.ofChange sha1TailsWrong)

/-- 'pursuivantlaw01.Sha1Lasts': WHATEVER THE INPUT: true; the input reads as it did. -/
def sha1LastsSpec : ChangeSpec := { name := "sha1Lasts", fn := fun _ => fun
  | [d1, d2] => { results := [.lit (.bool true)], args := [d1, d2] }
  | _ => none }
def sha1LastsRow : OpenClaim := { program := "ytfenpgeicgoedaa", sum := "22c518a9dc0dec60a4427dcb3c94b4c992f049774831f0b306f996b0061fd6bb", func := "pursuivant/pursuivantlaw01.Sha1Lasts", spec := "sha1Lasts", unfollowed := true, recurses := true, apart := false }
def Sha1LastsSaid : Prop := sha1LastsRow.holds Try.pinned (OpenSpec.ofChange sha1LastsSpec)

/-- ITS FALSE NEIGHBOUR: 'it returns false'. Refute it at one input. -/
def sha1LastsWrong : ChangeSpec := { name := "sha1Lasts", fn := fun _ => fun
  | [d1, d2] => { results := [.lit (.bool false)], args := [d1, d2] }
  | _ => none }
def Sha1LastsWrongFalsely : Prop := sha1LastsRow.holds Try.pinned (OpenSpec.ofChange sha1LastsWrong)

/-- 'pursuivantlaw01.Sha1Plays': WHATEVER THE INPUT: true; the input reads as it did. -/
def sha1PlaysSpec : ChangeSpec := { name := "sha1Plays", fn := fun _ => fun
  | [d] => { results := [.lit (.bool true)], args := [d] }
  | _ => none }
def sha1PlaysRow : OpenClaim := { program := "ytfenpgeicgoedaa", sum := "22c518a9dc0dec60a4427dcb3c94b4c992f049774831f0b306f996b0061fd6bb", func := "pursuivant/pursuivantlaw01.Sha1Plays", spec := "sha1Plays", unfollowed := true, recurses := true, apart := false }
def Sha1PlaysSaid : Prop := sha1PlaysRow.holds Try.pinned (OpenSpec.ofChange sha1PlaysSpec)

/-- ITS FALSE NEIGHBOUR: 'it returns false'. Refute it at one input. -/
def sha1PlaysWrong : ChangeSpec := { name := "sha1Plays", fn := fun _ => fun
  | [d] => { results := [.lit (.bool false)], args := [d] }
  | _ => none }
def Sha1PlaysWrongFalsely : Prop := sha1PlaysRow.holds Try.pinned (OpenSpec.ofChange sha1PlaysWrong)

/-- 'pursuivantlaw01.Sha1Cuts': WHATEVER THE INPUT: true; the input reads as it did. -/
def sha1CutsSpec : ChangeSpec := { name := "sha1Cuts", fn := fun _ => fun
  | [d1, d2] => { results := [.lit (.bool true)], args := [d1, d2] }
  | _ => none }
def sha1CutsRow : OpenClaim := { program := "ytfenpgeicgoedaa", sum := "22c518a9dc0dec60a4427dcb3c94b4c992f049774831f0b306f996b0061fd6bb", func := "pursuivant/pursuivantlaw01.Sha1Cuts", spec := "sha1Cuts", unfollowed := true, recurses := true, apart := false }
def Sha1CutsSaid : Prop := sha1CutsRow.holds Try.pinned (OpenSpec.ofChange sha1CutsSpec)

/-- ITS FALSE NEIGHBOUR: 'it returns false'. Refute it at one input. -/
def sha1CutsWrong : ChangeSpec := { name := "sha1Cuts", fn := fun _ => fun
  | [d1, d2] => { results := [.lit (.bool false)], args := [d1, d2] }
  | _ => none }
def Sha1CutsWrongFalsely : Prop := sha1CutsRow.holds Try.pinned (OpenSpec.ofChange sha1CutsWrong)

/- THE SECOND FORM. 'bulk': how many values and letters a reading holds, each counted each time it is reached (what is shared counts as often as it is met; a slice's spare places count too). A statement '..UptoSaid' is the law's where the arguments, and the package variables that the reading takes, are together of bulk at most 1048576: NARROWER than '..Said'. Prove '..Said' where nothing that the law and all that it calls make is longer than what came in: it says more and counts as full. Else prove '..UptoSaid'. A law counts once. -/
mutual
def uptoBulk {H : Type} : DataW H → Nat
  | .lit (.string bytes) => bytes.length + 1
  | .lit _ => 1
  | .nil => 1
  | .ptr d => uptoBulk d + 1
  | .slice elems spare => uptoBulkAll elems + uptoBulkAll spare + 1
  | .agg parts => uptoBulkAll parts + 1
  | .iface _ d => uptoBulk d + 1
  | .map entries => uptoBulkEntries entries + 1
  | .held _ => 1
def uptoBulkAll {H : Type} : List (DataW H) → Nat
  | [] => 0
  | d :: r => uptoBulk d + uptoBulkAll r
def uptoBulkEntries {H : Type} : List (Lit × DataW H) → Nat
  | [] => 0
  | x :: r => uptoBulkEntry x + uptoBulkEntries r
def uptoBulkEntry {H : Type} : Lit × DataW H → Nat
  | (.string bytes, d) => bytes.length + uptoBulk d + 1
  | (_, d) => uptoBulk d + 1
 end
def uptoSmall : (H : Type) → List (DataW H) → Bool := fun _ ds => decide (uptoBulkAll ds ≤ 1048576)
def OpenSpec.upto (s : _root_.Go.ChangeSpec) : _root_.Go.OpenSpec := { _root_.Go.OpenSpec.ofChange s with cond := some uptoSmall }

/-- 'pursuivantlaw01.Sha1Sums', WHERE WHAT IT READS IS OF BULK AT MOST 1048576: true; the input reads as it did. -/
def sha1SumsUptoRow : OpenClaim := { program := "ytfenpgeicgoedaa", sum := "22c518a9dc0dec60a4427dcb3c94b4c992f049774831f0b306f996b0061fd6bb", func := "pursuivant/pursuivantlaw01.Sha1Sums", spec := "sha1Sums", unfollowed := true, recurses := true, apart := false, narrowed := true }
def Sha1SumsUptoSaid : Prop := sha1SumsUptoRow.holds Try.pinned (OpenSpec.upto sha1SumsSpec)

/-- 'pursuivantlaw01.Sha1Parts', WHERE WHAT IT READS IS OF BULK AT MOST 1048576: true; the input reads as it did. -/
def sha1PartsUptoRow : OpenClaim := { program := "ytfenpgeicgoedaa", sum := "22c518a9dc0dec60a4427dcb3c94b4c992f049774831f0b306f996b0061fd6bb", func := "pursuivant/pursuivantlaw01.Sha1Parts", spec := "sha1Parts", unfollowed := true, recurses := true, apart := false, narrowed := true }
def Sha1PartsUptoSaid : Prop := sha1PartsUptoRow.holds Try.pinned (OpenSpec.upto sha1PartsSpec)

/-- 'pursuivantlaw01.Sha1Blocks', WHERE WHAT IT READS IS OF BULK AT MOST 1048576: true; the input reads as it did. -/
def sha1BlocksUptoRow : OpenClaim := { program := "ytfenpgeicgoedaa", sum := "22c518a9dc0dec60a4427dcb3c94b4c992f049774831f0b306f996b0061fd6bb", func := "pursuivant/pursuivantlaw01.Sha1Blocks", spec := "sha1Blocks", unfollowed := true, recurses := true, apart := false, narrowed := true }
def Sha1BlocksUptoSaid : Prop := sha1BlocksUptoRow.holds Try.pinned (OpenSpec.upto sha1BlocksSpec)

/-- 'pursuivantlaw01.Sha1Tails', WHERE WHAT IT READS IS OF BULK AT MOST 1048576: true; the input reads as it did. -/
def sha1TailsUptoRow : OpenClaim := { program := "ytfenpgeicgoedaa", sum := "22c518a9dc0dec60a4427dcb3c94b4c992f049774831f0b306f996b0061fd6bb", func := "pursuivant/pursuivantlaw01.Sha1Tails", spec := "sha1Tails", unfollowed := true, recurses := true, apart := false, narrowed := true }
def Sha1TailsUptoSaid : Prop := sha1TailsUptoRow.holds Try.pinned (OpenSpec.upto sha1TailsSpec)

/-- 'pursuivantlaw01.Sha1Lasts', WHERE WHAT IT READS IS OF BULK AT MOST 1048576: true; the input reads as it did. -/
def sha1LastsUptoRow : OpenClaim := { program := "ytfenpgeicgoedaa", sum := "22c518a9dc0dec60a4427dcb3c94b4c992f049774831f0b306f996b0061fd6bb", func := "pursuivant/pursuivantlaw01.Sha1Lasts", spec := "sha1Lasts", unfollowed := true, recurses := true, apart := false, narrowed := true }
def Sha1LastsUptoSaid : Prop := sha1LastsUptoRow.holds Try.pinned (OpenSpec.upto sha1LastsSpec)

/-- 'pursuivantlaw01.Sha1Plays', WHERE WHAT IT READS IS OF BULK AT MOST 1048576: true; the input reads as it did. -/
def sha1PlaysUptoRow : OpenClaim := { program := "ytfenpgeicgoedaa", sum := "22c518a9dc0dec60a4427dcb3c94b4c992f049774831f0b306f996b0061fd6bb", func := "pursuivant/pursuivantlaw01.Sha1Plays", spec := "sha1Plays", unfollowed := true, recurses := true, apart := false, narrowed := true }
def Sha1PlaysUptoSaid : Prop := sha1PlaysUptoRow.holds Try.pinned (OpenSpec.upto sha1PlaysSpec)

/-- 'pursuivantlaw01.Sha1Cuts', WHERE WHAT IT READS IS OF BULK AT MOST 1048576: true; the input reads as it did. -/
def sha1CutsUptoRow : OpenClaim := { program := "ytfenpgeicgoedaa", sum := "22c518a9dc0dec60a4427dcb3c94b4c992f049774831f0b306f996b0061fd6bb", func := "pursuivant/pursuivantlaw01.Sha1Cuts", spec := "sha1Cuts", unfollowed := true, recurses := true, apart := false, narrowed := true }
def Sha1CutsUptoSaid : Prop := sha1CutsUptoRow.holds Try.pinned (OpenSpec.upto sha1CutsSpec)

end Rows
end Go.Proofs.Ytfenpgeicgoedaa
