/-
  No cell of these rows narrows 'for every input' (looked for: loops, veiled, ifaces, maps, wideKeys, modest, calm, conditions, laid).
  DERIVED. THE GIVEN ROWS OF THIS SEAT. 5 by the template 'for every input the law returns true; each argument reads behind the call as it read before'; 0 by the template 'total and deterministic' (their statements: YtndjhnipahkclaaTotals.lean).
  GIVEN WITH THE SEED: the statements are not yours to turn. If you find one false, say at which input.
  Laid BY PROGRAM, IN A SANDBOX (cutbox-rows.mjs): the forced cells as the released guide's own fill.sh prints them over the translation eb3f615f11c4c1a3… (all of the seat's roots in one cut). By AI agents, Wed Nov 11 2026. No macro, syntax, notation, axiom, sorry.
-/
import Derived.Test.YtndjhnipahkclaaChecked
import GoSem.Claim
import GoSem.ClaimJoined
import GoSem.ClaimMapViews
import Derived.JoinedTies
import Derived.KernelRfl
namespace Go.Proofs.Ytndjhnipahkclaa
/- THE CELL 'sum', in the pinned program and in every row, IS THE sha256 OF THE DUMP (.gsa) THAT YtndjhnipahkclaaProg.lean LOADS. Nothing in Lean hashes anything: it is a label: what it is worth is what the hold of that sum in a sandbox is worth. -/
noncomputable def Try.pinned : Pinned := { name := "ytndjhnipahkclaa", sum := "eb3f615f11c4c1a32066a5e248e2ad1261e7aebbacac8faf995447c477b3130d", checked := Try.checked }
namespace Rows
def none {H : Type} : Left H := { results := [], args := [] }

/-- 'pursuivantlaw10.KeysPlay': WHATEVER THE INPUT: true; the input reads as it did. -/
def keysPlaySpec : ChangeSpec := { name := "keysPlay", fn := fun _ => fun
  | [d] => { results := [.lit (.bool true)], args := [d] }
  | _ => none }
def keysPlayRow : OpenClaim := { program := "ytndjhnipahkclaa", sum := "eb3f615f11c4c1a32066a5e248e2ad1261e7aebbacac8faf995447c477b3130d", func := "pursuivant/pursuivantlaw10.KeysPlay", spec := "keysPlay", unfollowed := true, recurses := true, apart := false }
def KeysPlaySaid : Prop := keysPlayRow.holds Try.pinned (OpenSpec.ofChange keysPlaySpec)

/-- ITS FALSE NEIGHBOUR: 'it returns false'. Refute it at one input. -/
def keysPlayWrong : ChangeSpec := { name := "keysPlay", fn := fun _ => fun
  | [d] => { results := [.lit (.bool false)], args := [d] }
  | _ => none }
def KeysPlayWrongFalsely : Prop := keysPlayRow.holds Try.pinned (OpenSpec.ofChange keysPlayWrong)

/-- 'pursuivantlaw10.KeysBounds': WHATEVER THE INPUT: true; the input reads as it did. -/
def keysBoundsSpec : ChangeSpec := { name := "keysBounds", fn := fun _ => fun
  | [d1, d2] => { results := [.lit (.bool true)], args := [d1, d2] }
  | _ => none }
def keysBoundsRow : OpenClaim := { program := "ytndjhnipahkclaa", sum := "eb3f615f11c4c1a32066a5e248e2ad1261e7aebbacac8faf995447c477b3130d", func := "pursuivant/pursuivantlaw10.KeysBounds", spec := "keysBounds", unfollowed := true, recurses := true, apart := false }
def KeysBoundsSaid : Prop := keysBoundsRow.holds Try.pinned (OpenSpec.ofChange keysBoundsSpec)

/-- ITS FALSE NEIGHBOUR: 'it returns false'. Refute it at one input. -/
def keysBoundsWrong : ChangeSpec := { name := "keysBounds", fn := fun _ => fun
  | [d1, d2] => { results := [.lit (.bool false)], args := [d1, d2] }
  | _ => none }
def KeysBoundsWrongFalsely : Prop := keysBoundsRow.holds Try.pinned (OpenSpec.ofChange keysBoundsWrong)

/-- 'pursuivantlaw10.KeysApart': WHATEVER THE INPUT: true; the input reads as it did. -/
def keysApartSpec : ChangeSpec := { name := "keysApart", fn := fun _ => fun
  | [d] => { results := [.lit (.bool true)], args := [d] }
  | _ => none }
def keysApartRow : OpenClaim := { program := "ytndjhnipahkclaa", sum := "eb3f615f11c4c1a32066a5e248e2ad1261e7aebbacac8faf995447c477b3130d", func := "pursuivant/pursuivantlaw10.KeysApart", spec := "keysApart", inPlace := ["maps.clone"], unfollowed := true, recurses := true, apart := false }
def KeysApartSaid : Prop := keysApartRow.holds Try.pinned (OpenSpec.ofChange keysApartSpec)

/-- ITS FALSE NEIGHBOUR: 'it returns false'. Refute it at one input. -/
def keysApartWrong : ChangeSpec := { name := "keysApart", fn := fun _ => fun
  | [d] => { results := [.lit (.bool false)], args := [d] }
  | _ => none }
def KeysApartWrongFalsely : Prop := keysApartRow.holds Try.pinned (OpenSpec.ofChange keysApartWrong)

/-- 'pursuivantlaw10.KeysCopies': WHATEVER THE INPUT: true; the input reads as it did. -/
def keysCopiesSpec : ChangeSpec := { name := "keysCopies", fn := fun _ => fun
  | [d1, d2] => { results := [.lit (.bool true)], args := [d1, d2] }
  | _ => none }
def keysCopiesRow : OpenClaim := { program := "ytndjhnipahkclaa", sum := "eb3f615f11c4c1a32066a5e248e2ad1261e7aebbacac8faf995447c477b3130d", func := "pursuivant/pursuivantlaw10.KeysCopies", spec := "keysCopies", inPlace := ["maps.clone"], unfollowed := true, recurses := true, apart := false }
def KeysCopiesSaid : Prop := keysCopiesRow.holds Try.pinned (OpenSpec.ofChange keysCopiesSpec)

/-- ITS FALSE NEIGHBOUR: 'it returns false'. Refute it at one input. -/
def keysCopiesWrong : ChangeSpec := { name := "keysCopies", fn := fun _ => fun
  | [d1, d2] => { results := [.lit (.bool false)], args := [d1, d2] }
  | _ => none }
def KeysCopiesWrongFalsely : Prop := keysCopiesRow.holds Try.pinned (OpenSpec.ofChange keysCopiesWrong)

/-- 'pursuivantlaw10.KeysNil': WHATEVER THE INPUT: true; the input reads as it did. -/
def keysNilSpec : ChangeSpec := { name := "keysNil", fn := fun _ => fun
  | [d] => { results := [.lit (.bool true)], args := [d] }
  | _ => none }
def keysNilRow : OpenClaim := { program := "ytndjhnipahkclaa", sum := "eb3f615f11c4c1a32066a5e248e2ad1261e7aebbacac8faf995447c477b3130d", func := "pursuivant/pursuivantlaw10.KeysNil", spec := "keysNil", inPlace := ["maps.clone"], unfollowed := true, recurses := true, apart := false }
def KeysNilSaid : Prop := keysNilRow.holds Try.pinned (OpenSpec.ofChange keysNilSpec)

/-- ITS FALSE NEIGHBOUR: 'it returns false'. Refute it at one input. -/
def keysNilWrong : ChangeSpec := { name := "keysNil", fn := fun _ => fun
  | [d] => { results := [.lit (.bool false)], args := [d] }
  | _ => none }
def KeysNilWrongFalsely : Prop := keysNilRow.holds Try.pinned (OpenSpec.ofChange keysNilWrong)

/- THE SECOND FORM. 'bulk': how many values and letters a reading holds, each counted each time it is reached (what is shared counts as often as it is met; a slice's spare places count too). A statement '..UptoSaid' is the law's where the arguments, and the package variables that the reading takes, are together of bulk at most 1048576: NARROWER than '..Said'. Prove '..Said' where nothing that the law and all that it calls make is longer than what came in: it says more and counts as full. Else prove '..UptoSaid'. A law counts once. -/
mutual
def uptoBulk {H : Type} : DataW H → Nat
  | .lit (.string bytes) => bytes.length + 1
  | .lit _ => 1
  | .nil => 1
  | .ptr d => uptoBulk d + 1
  | .slice elems spare => uptoBulkAll elems + uptoBulkAll spare + 1
  | .agg parts => uptoBulkAll parts + 1
  | .iface _ d => uptoBulk d + 1
  | .map entries => uptoBulkEntries entries + 1
  | .held _ => 1
def uptoBulkAll {H : Type} : List (DataW H) → Nat
  | [] => 0
  | d :: r => uptoBulk d + uptoBulkAll r
def uptoBulkEntries {H : Type} : List (Lit × DataW H) → Nat
  | [] => 0
  | x :: r => uptoBulkEntry x + uptoBulkEntries r
def uptoBulkEntry {H : Type} : Lit × DataW H → Nat
  | (.string bytes, d) => bytes.length + uptoBulk d + 1
  | (_, d) => uptoBulk d + 1
 end
def uptoSmall : (H : Type) → List (DataW H) → Bool := fun _ ds => decide (uptoBulkAll ds ≤ 1048576)
def OpenSpec.upto (s : _root_.Go.ChangeSpec) : _root_.Go.OpenSpec := { _root_.Go.OpenSpec.ofChange s with cond := some uptoSmall }

/-- 'pursuivantlaw10.KeysPlay', WHERE WHAT IT READS IS OF BULK AT MOST 1048576: true; the input reads as it did. -/
def keysPlayUptoRow : OpenClaim := { program := "ytndjhnipahkclaa", sum := "eb3f615f11c4c1a32066a5e248e2ad1261e7aebbacac8faf995447c477b3130d", func := "pursuivant/pursuivantlaw10.KeysPlay", spec := "keysPlay", unfollowed := true, recurses := true, apart := false, narrowed := true }
def KeysPlayUptoSaid : Prop := keysPlayUptoRow.holds Try.pinned (OpenSpec.upto keysPlaySpec)

/-- 'pursuivantlaw10.KeysBounds', WHERE WHAT IT READS IS OF BULK AT MOST 1048576: true; the input reads as it did. -/
def keysBoundsUptoRow : OpenClaim := { program := "ytndjhnipahkclaa", sum := "eb3f615f11c4c1a32066a5e248e2ad1261e7aebbacac8faf995447c477b3130d", func := "pursuivant/pursuivantlaw10.KeysBounds", spec := "keysBounds", unfollowed := true, recurses := true, apart := false, narrowed := true }
def KeysBoundsUptoSaid : Prop := keysBoundsUptoRow.holds Try.pinned (OpenSpec.upto keysBoundsSpec)

/-- 'pursuivantlaw10.KeysApart', WHERE WHAT IT READS IS OF BULK AT MOST 1048576: true; the input reads as it did. -/
def keysApartUptoRow : OpenClaim := { program := "ytndjhnipahkclaa", sum := "eb3f615f11c4c1a32066a5e248e2ad1261e7aebbacac8faf995447c477b3130d", func := "pursuivant/pursuivantlaw10.KeysApart", spec := "keysApart", inPlace := ["maps.clone"], unfollowed := true, recurses := true, apart := false, narrowed := true }
def KeysApartUptoSaid : Prop := keysApartUptoRow.holds Try.pinned (OpenSpec.upto keysApartSpec)

/-- 'pursuivantlaw10.KeysCopies', WHERE WHAT IT READS IS OF BULK AT MOST 1048576: true; the input reads as it did. -/
def keysCopiesUptoRow : OpenClaim := { program := "ytndjhnipahkclaa", sum := "eb3f615f11c4c1a32066a5e248e2ad1261e7aebbacac8faf995447c477b3130d", func := "pursuivant/pursuivantlaw10.KeysCopies", spec := "keysCopies", inPlace := ["maps.clone"], unfollowed := true, recurses := true, apart := false, narrowed := true }
def KeysCopiesUptoSaid : Prop := keysCopiesUptoRow.holds Try.pinned (OpenSpec.upto keysCopiesSpec)

/-- 'pursuivantlaw10.KeysNil', WHERE WHAT IT READS IS OF BULK AT MOST 1048576: true; the input reads as it did. -/
def keysNilUptoRow : OpenClaim := { program := "ytndjhnipahkclaa", sum := "eb3f615f11c4c1a32066a5e248e2ad1261e7aebbacac8faf995447c477b3130d", func := "pursuivant/pursuivantlaw10.KeysNil", spec := "keysNil", inPlace := ["maps.clone"], unfollowed := true, recurses := true, apart := false, narrowed := true }
def KeysNilUptoSaid : Prop := keysNilUptoRow.holds Try.pinned (OpenSpec.upto keysNilSpec)

end Rows
end Go.Proofs.Ytndjhnipahkclaa
