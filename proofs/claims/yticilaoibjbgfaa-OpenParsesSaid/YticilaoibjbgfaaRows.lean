/-
  No cell of these rows narrows 'for every input' (looked for: loops, veiled, ifaces, maps, wideKeys, modest, calm, conditions, laid).
  DERIVED. THE GIVEN ROWS OF THIS SEAT. 6 by the template 'for every input the law returns true; each argument reads behind the call as it read before'; 0 by the template 'total and deterministic' (their statements: YticilaoibjbgfaaTotals.lean).
  GIVEN WITH THE SEED: the statements are not yours to turn. If you find one false, say at which input.
  Laid BY PROGRAM, IN A SANDBOX (cutbox-rows.mjs): the forced cells as the released guide's own fill.sh prints them over the translation 8eb00ae7727cfeba… (all of the seat's roots in one cut). By AI agents, Wed Nov 11 2026. No macro, syntax, notation, axiom, sorry.
-/
import Derived.Test.YticilaoibjbgfaaChecked
import GoSem.Claim
import GoSem.ClaimJoined
import GoSem.ClaimMapViews
import Derived.JoinedTies
import Derived.KernelRfl
namespace Go.Proofs.Yticilaoibjbgfaa
/- THE CELL 'sum', in the pinned program and in every row, IS THE sha256 OF THE DUMP (.gsa) THAT YticilaoibjbgfaaProg.lean LOADS. Nothing in Lean hashes anything: it is a label: what it is worth is what the hold of that sum in a sandbox is worth. -/
noncomputable def Try.pinned : Pinned := { name := "yticilaoibjbgfaa", sum := "8eb00ae7727cfeba3b6ca3a435e5e74672b8fc8f7dd467ea710a4cee0a7fda1d", checked := Try.checked }
namespace Rows
def none {H : Type} : Left H := { results := [], args := [] }

/-- 'pursuivantlaw18.OpenRaws': WHATEVER THE INPUT: true; the input reads as it did. -/
def openRawsSpec : ChangeSpec := { name := "openRaws", fn := fun _ => fun
  | [d] => { results := [.lit (.bool true)], args := [d] }
  | _ => none }
def openRawsRow : OpenClaim := { program := "yticilaoibjbgfaa", sum := "8eb00ae7727cfeba3b6ca3a435e5e74672b8fc8f7dd467ea710a4cee0a7fda1d", func := "pursuivant/pursuivantlaw18.OpenRaws", spec := "openRaws", unfollowed := true, recurses := true, apart := false }
def OpenRawsSaid : Prop := openRawsRow.holds Try.pinned (OpenSpec.ofChange openRawsSpec)

/-- ITS FALSE NEIGHBOUR: 'it returns false'. Refute it at one input. -/
def openRawsWrong : ChangeSpec := { name := "openRaws", fn := fun _ => fun
  | [d] => { results := [.lit (.bool false)], args := [d] }
  | _ => none }
def OpenRawsWrongFalsely : Prop := openRawsRow.holds Try.pinned (OpenSpec.ofChange openRawsWrong)

/-- 'pursuivantlaw18.OpenParses': WHATEVER THE INPUT: true; the input reads as it did. -/
def openParsesSpec : ChangeSpec := { name := "openParses", fn := fun _ => fun
  | [d] => { results := [.lit (.bool true)], args := [d] }
  | _ => none }
def openParsesRow : OpenClaim := { program := "yticilaoibjbgfaa", sum := "8eb00ae7727cfeba3b6ca3a435e5e74672b8fc8f7dd467ea710a4cee0a7fda1d", func := "pursuivant/pursuivantlaw18.OpenParses", spec := "openParses", unfollowed := true, recurses := true, apart := false }
def OpenParsesSaid : Prop := openParsesRow.holds Try.pinned (OpenSpec.ofChange openParsesSpec)

/-- ITS FALSE NEIGHBOUR: 'it returns false'. Refute it at one input. -/
def openParsesWrong : ChangeSpec := { name := "openParses", fn := fun _ => fun
  | [d] => { results := [.lit (.bool false)], args := [d] }
  | _ => none }
def OpenParsesWrongFalsely : Prop := openParsesRow.holds Try.pinned (OpenSpec.ofChange openParsesWrong)

/-- 'pursuivantlaw18.OpenMeets': WHATEVER THE INPUT: true; the input reads as it did. -/
def openMeetsSpec : ChangeSpec := { name := "openMeets", fn := fun _ => fun
  | [d1, d2] => { results := [.lit (.bool true)], args := [d1, d2] }
  | _ => none }
def openMeetsRow : OpenClaim := { program := "yticilaoibjbgfaa", sum := "8eb00ae7727cfeba3b6ca3a435e5e74672b8fc8f7dd467ea710a4cee0a7fda1d", func := "pursuivant/pursuivantlaw18.OpenMeets", spec := "openMeets", unfollowed := true, recurses := true, apart := false }
def OpenMeetsSaid : Prop := openMeetsRow.holds Try.pinned (OpenSpec.ofChange openMeetsSpec)

/-- ITS FALSE NEIGHBOUR: 'it returns false'. Refute it at one input. -/
def openMeetsWrong : ChangeSpec := { name := "openMeets", fn := fun _ => fun
  | [d1, d2] => { results := [.lit (.bool false)], args := [d1, d2] }
  | _ => none }
def OpenMeetsWrongFalsely : Prop := openMeetsRow.holds Try.pinned (OpenSpec.ofChange openMeetsWrong)

/-- 'pursuivantlaw18.OpenBent': WHATEVER THE INPUT: true; the input reads as it did. -/
def openBentSpec : ChangeSpec := { name := "openBent", fn := fun _ => fun
  | [d1, d2, d3, d4] => { results := [.lit (.bool true)], args := [d1, d2, d3, d4] }
  | _ => none }
def openBentRow : OpenClaim := { program := "yticilaoibjbgfaa", sum := "8eb00ae7727cfeba3b6ca3a435e5e74672b8fc8f7dd467ea710a4cee0a7fda1d", func := "pursuivant/pursuivantlaw18.OpenBent", spec := "openBent", unfollowed := true, recurses := true, apart := false }
def OpenBentSaid : Prop := openBentRow.holds Try.pinned (OpenSpec.ofChange openBentSpec)

/-- ITS FALSE NEIGHBOUR: 'it returns false'. Refute it at one input. -/
def openBentWrong : ChangeSpec := { name := "openBent", fn := fun _ => fun
  | [d1, d2, d3, d4] => { results := [.lit (.bool false)], args := [d1, d2, d3, d4] }
  | _ => none }
def OpenBentWrongFalsely : Prop := openBentRow.holds Try.pinned (OpenSpec.ofChange openBentWrong)

/-- 'pursuivantlaw18.OpenCaps': WHATEVER THE INPUT: true; the input reads as it did. -/
def openCapsSpec : ChangeSpec := { name := "openCaps", fn := fun _ => fun
  | [d1, d2, d3] => { results := [.lit (.bool true)], args := [d1, d2, d3] }
  | _ => none }
def openCapsRow : OpenClaim := { program := "yticilaoibjbgfaa", sum := "8eb00ae7727cfeba3b6ca3a435e5e74672b8fc8f7dd467ea710a4cee0a7fda1d", func := "pursuivant/pursuivantlaw18.OpenCaps", spec := "openCaps", unfollowed := true, recurses := true, apart := false }
def OpenCapsSaid : Prop := openCapsRow.holds Try.pinned (OpenSpec.ofChange openCapsSpec)

/-- ITS FALSE NEIGHBOUR: 'it returns false'. Refute it at one input. -/
def openCapsWrong : ChangeSpec := { name := "openCaps", fn := fun _ => fun
  | [d1, d2, d3] => { results := [.lit (.bool false)], args := [d1, d2, d3] }
  | _ => none }
def OpenCapsWrongFalsely : Prop := openCapsRow.holds Try.pinned (OpenSpec.ofChange openCapsWrong)

/-- 'pursuivantlaw18.OpenBack': WHATEVER THE INPUT: true; the input reads as it did. -/
def openBackSpec : ChangeSpec := { name := "openBack", fn := fun _ => fun
  | [d1, d2, d3] => { results := [.lit (.bool true)], args := [d1, d2, d3] }
  | _ => none }
def openBackRow : OpenClaim := { program := "yticilaoibjbgfaa", sum := "8eb00ae7727cfeba3b6ca3a435e5e74672b8fc8f7dd467ea710a4cee0a7fda1d", func := "pursuivant/pursuivantlaw18.OpenBack", spec := "openBack", unfollowed := true, recurses := true, apart := false }
def OpenBackSaid : Prop := openBackRow.holds Try.pinned (OpenSpec.ofChange openBackSpec)

/-- ITS FALSE NEIGHBOUR: 'it returns false'. Refute it at one input. -/
def openBackWrong : ChangeSpec := { name := "openBack", fn := fun _ => fun
  | [d1, d2, d3] => { results := [.lit (.bool false)], args := [d1, d2, d3] }
  | _ => none }
def OpenBackWrongFalsely : Prop := openBackRow.holds Try.pinned (OpenSpec.ofChange openBackWrong)

/- THE SECOND FORM. 'bulk': how many values and letters a reading holds, each counted each time it is reached (what is shared counts as often as it is met; a slice's spare places count too). A statement '..UptoSaid' is the law's where the arguments, and the package variables that the reading takes, are together of bulk at most 1048576: NARROWER than '..Said'. Prove '..Said' where nothing that the law and all that it calls make is longer than what came in: it says more and counts as full. Else prove '..UptoSaid'. A law counts once. -/
mutual
def uptoBulk {H : Type} : DataW H → Nat
  | .lit (.string bytes) => bytes.length + 1
  | .lit _ => 1
  | .nil => 1
  | .ptr d => uptoBulk d + 1
  | .slice elems spare => uptoBulkAll elems + uptoBulkAll spare + 1
  | .agg parts => uptoBulkAll parts + 1
  | .iface _ d => uptoBulk d + 1
  | .map entries => uptoBulkEntries entries + 1
  | .held _ => 1
def uptoBulkAll {H : Type} : List (DataW H) → Nat
  | [] => 0
  | d :: r => uptoBulk d + uptoBulkAll r
def uptoBulkEntries {H : Type} : List (Lit × DataW H) → Nat
  | [] => 0
  | x :: r => uptoBulkEntry x + uptoBulkEntries r
def uptoBulkEntry {H : Type} : Lit × DataW H → Nat
  | (.string bytes, d) => bytes.length + uptoBulk d + 1
  | (_, d) => uptoBulk d + 1
 end
def uptoSmall : (H : Type) → List (DataW H) → Bool := fun _ ds => decide (uptoBulkAll ds ≤ 1048576)
def OpenSpec.upto (s : _root_.Go.ChangeSpec) : _root_.Go.OpenSpec := { _root_.Go.OpenSpec.ofChange s with cond := some uptoSmall }

/-- 'pursuivantlaw18.OpenRaws', WHERE WHAT IT READS IS OF BULK AT MOST 1048576: true; the input reads as it did. -/
def openRawsUptoRow : OpenClaim := { program := "yticilaoibjbgfaa", sum := "8eb00ae7727cfeba3b6ca3a435e5e74672b8fc8f7dd467ea710a4cee0a7fda1d", func := "pursuivant/pursuivantlaw18.OpenRaws", spec := "openRaws", unfollowed := true, recurses := true, apart := false, narrowed := true }
def OpenRawsUptoSaid : Prop := openRawsUptoRow.holds Try.pinned (OpenSpec.upto openRawsSpec)

/-- 'pursuivantlaw18.OpenParses', WHERE WHAT IT READS IS OF BULK AT MOST 1048576: true; the input reads as it did. -/
def openParsesUptoRow : OpenClaim := { program := "yticilaoibjbgfaa", sum := "8eb00ae7727cfeba3b6ca3a435e5e74672b8fc8f7dd467ea710a4cee0a7fda1d", func := "pursuivant/pursuivantlaw18.OpenParses", spec := "openParses", unfollowed := true, recurses := true, apart := false, narrowed := true }
def OpenParsesUptoSaid : Prop := openParsesUptoRow.holds Try.pinned (OpenSpec.upto openParsesSpec)

/-- 'pursuivantlaw18.OpenMeets', WHERE WHAT IT READS IS OF BULK AT MOST 1048576: true; the input reads as it did. -/
def openMeetsUptoRow : OpenClaim := { program := "yticilaoibjbgfaa", sum := "8eb00ae7727cfeba3b6ca3a435e5e74672b8fc8f7dd467ea710a4cee0a7fda1d", func := "pursuivant/pursuivantlaw18.OpenMeets", spec := "openMeets", unfollowed := true, recurses := true, apart := false, narrowed := true }
def OpenMeetsUptoSaid : Prop := openMeetsUptoRow.holds Try.pinned (OpenSpec.upto openMeetsSpec)

/-- 'pursuivantlaw18.OpenBent', WHERE WHAT IT READS IS OF BULK AT MOST 1048576: true; the input reads as it did. -/
def openBentUptoRow : OpenClaim := { program := "yticilaoibjbgfaa", sum := "8eb00ae7727cfeba3b6ca3a435e5e74672b8fc8f7dd467ea710a4cee0a7fda1d", func := "pursuivant/pursuivantlaw18.OpenBent", spec := "openBent", unfollowed := true, recurses := true, apart := false, narrowed := true }
def OpenBentUptoSaid : Prop := openBentUptoRow.holds Try.pinned (OpenSpec.upto openBentSpec)

/-- 'pursuivantlaw18.OpenCaps', WHERE WHAT IT READS IS OF BULK AT MOST 1048576: true; the input reads as it did. -/
def openCapsUptoRow : OpenClaim := { program := "yticilaoibjbgfaa", sum := "8eb00ae7727cfeba3b6ca3a435e5e74672b8fc8f7dd467ea710a4cee0a7fda1d", func := "pursuivant/pursuivantlaw18.OpenCaps", spec := "openCaps", unfollowed := true, recurses := true, apart := false, narrowed := true }
def OpenCapsUptoSaid : Prop := openCapsUptoRow.holds Try.pinned (OpenSpec.upto openCapsSpec)

/-- 'pursuivantlaw18.OpenBack', WHERE WHAT IT READS IS OF BULK AT MOST 1048576: true; the input reads as it did. -/
def openBackUptoRow : OpenClaim := { program := "yticilaoibjbgfaa", sum := "8eb00ae7727cfeba3b6ca3a435e5e74672b8fc8f7dd467ea710a4cee0a7fda1d", func := "pursuivant/pursuivantlaw18.OpenBack", spec := "openBack", unfollowed := true, recurses := true, apart := false, narrowed := true }
def OpenBackUptoSaid : Prop := openBackUptoRow.holds Try.pinned (OpenSpec.upto openBackSpec)

end Rows
end Go.Proofs.Yticilaoibjbgfaa
