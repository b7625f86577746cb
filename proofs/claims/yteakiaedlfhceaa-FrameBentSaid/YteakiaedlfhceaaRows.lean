/-
  No cell of these rows narrows 'for every input' (looked for: loops, veiled, ifaces, maps, wideKeys, modest, calm, conditions, laid).
  DERIVED. THE GIVEN ROWS OF THIS SEAT. 6 by the template 'for every input the law returns true; each argument reads behind the call as it read before'; 0 by the template 'total and deterministic' (their statements: YteakiaedlfhceaaTotals.lean).
  GIVEN WITH THE SEED: the statements are not yours to turn. If you find one false, say at which input.
  Laid BY PROGRAM, IN A SANDBOX (cutbox-rows.mjs): the forced cells as the released guide's own fill.sh prints them over the translation 43dc8432ad4c1f4b… (all of the seat's roots in one cut). By AI agents, Wed Nov 11 2026. No macro, syntax, notation, axiom, sorry.
-/
import Derived.Test.YteakiaedlfhceaaChecked
import GoSem.Claim
import GoSem.ClaimJoined
import GoSem.ClaimMapViews
import Derived.JoinedTies
import Derived.KernelRfl
namespace Go.Proofs.Yteakiaedlfhceaa
/- THE CELL 'sum', in the pinned program and in every row, IS THE sha256 OF THE DUMP (.gsa) THAT YteakiaedlfhceaaProg.lean LOADS. Nothing in Lean hashes anything: it is a label: what it is worth is what the hold of that sum in a sandbox is worth. -/
noncomputable def Try.pinned : Pinned := { name := "yteakiaedlfhceaa", sum := "43dc8432ad4c1f4b57c65b74988bf60f3fa490d51d4a665459a67ed537d45377", checked := Try.checked }
namespace Rows
def none {H : Type} : Left H := { results := [], args := [] }

/-- 'pursuivantlaw17.FrameRaws': WHATEVER THE INPUT: true; the input reads as it did. -/
def frameRawsSpec : ChangeSpec := { name := "frameRaws", fn := fun _ => fun
  | [d1, d2] => { results := [.lit (.bool true)], args := [d1, d2] }
  | _ => none }
def frameRawsRow : OpenClaim := { program := "yteakiaedlfhceaa", sum := "43dc8432ad4c1f4b57c65b74988bf60f3fa490d51d4a665459a67ed537d45377", func := "pursuivant/pursuivantlaw17.FrameRaws", spec := "frameRaws", unfollowed := true, recurses := true, apart := false }
def FrameRawsSaid : Prop := frameRawsRow.holds Try.pinned (OpenSpec.ofChange frameRawsSpec)

/-- ITS FALSE NEIGHBOUR: 'it returns false'. Refute it at one input. -/
def frameRawsWrong : ChangeSpec := { name := "frameRaws", fn := fun _ => fun
  | [d1, d2] => { results := [.lit (.bool false)], args := [d1, d2] }
  | _ => none }
def FrameRawsWrongFalsely : Prop := frameRawsRow.holds Try.pinned (OpenSpec.ofChange frameRawsWrong)

/-- 'pursuivantlaw17.FrameCuts': WHATEVER THE INPUT: true; the input reads as it did. -/
def frameCutsSpec : ChangeSpec := { name := "frameCuts", fn := fun _ => fun
  | [d] => { results := [.lit (.bool true)], args := [d] }
  | _ => none }
def frameCutsRow : OpenClaim := { program := "yteakiaedlfhceaa", sum := "43dc8432ad4c1f4b57c65b74988bf60f3fa490d51d4a665459a67ed537d45377", func := "pursuivant/pursuivantlaw17.FrameCuts", spec := "frameCuts", unfollowed := true, recurses := true, apart := false }
def FrameCutsSaid : Prop := frameCutsRow.holds Try.pinned (OpenSpec.ofChange frameCutsSpec)

/-- ITS FALSE NEIGHBOUR: 'it returns false'. Refute it at one input. -/
def frameCutsWrong : ChangeSpec := { name := "frameCuts", fn := fun _ => fun
  | [d] => { results := [.lit (.bool false)], args := [d] }
  | _ => none }
def FrameCutsWrongFalsely : Prop := frameCutsRow.holds Try.pinned (OpenSpec.ofChange frameCutsWrong)

/-- 'pursuivantlaw17.FrameLong': WHATEVER THE INPUT: true; the input reads as it did. -/
def frameLongSpec : ChangeSpec := { name := "frameLong", fn := fun _ => fun
  | [] => { results := [.lit (.bool true)], args := [] }
  | _ => none }
def frameLongRow : OpenClaim := { program := "yteakiaedlfhceaa", sum := "43dc8432ad4c1f4b57c65b74988bf60f3fa490d51d4a665459a67ed537d45377", func := "pursuivant/pursuivantlaw17.FrameLong", spec := "frameLong", unfollowed := true, recurses := true, apart := false }
def FrameLongSaid : Prop := frameLongRow.holds Try.pinned (OpenSpec.ofChange frameLongSpec)

/-- ITS FALSE NEIGHBOUR: 'it returns false'. Refute it at one input. -/
def frameLongWrong : ChangeSpec := { name := "frameLong", fn := fun _ => fun
  | [] => { results := [.lit (.bool false)], args := [] }
  | _ => none }
def FrameLongWrongFalsely : Prop := frameLongRow.holds Try.pinned (OpenSpec.ofChange frameLongWrong)

/-- 'pursuivantlaw17.FrameBent': WHATEVER THE INPUT: true; the input reads as it did. -/
def frameBentSpec : ChangeSpec := { name := "frameBent", fn := fun _ => fun
  | [d1, d2, d3] => { results := [.lit (.bool true)], args := [d1, d2, d3] }
  | _ => none }
def frameBentRow : OpenClaim := { program := "yteakiaedlfhceaa", sum := "43dc8432ad4c1f4b57c65b74988bf60f3fa490d51d4a665459a67ed537d45377", func := "pursuivant/pursuivantlaw17.FrameBent", spec := "frameBent", unfollowed := true, recurses := true, apart := false }
def FrameBentSaid : Prop := frameBentRow.holds Try.pinned (OpenSpec.ofChange frameBentSpec)

/-- ITS FALSE NEIGHBOUR: 'it returns false'. Refute it at one input. -/
def frameBentWrong : ChangeSpec := { name := "frameBent", fn := fun _ => fun
  | [d1, d2, d3] => { results := [.lit (.bool false)], args := [d1, d2, d3] }
  | _ => none }
def FrameBentWrongFalsely : Prop := frameBentRow.holds Try.pinned (OpenSpec.ofChange frameBentWrong)

/-- 'pursuivantlaw17.FrameCutsAny': WHATEVER THE INPUT: true; the input reads as it did. -/
def frameCutsAnySpec : ChangeSpec := { name := "frameCutsAny", fn := fun _ => fun
  | [d1, d2, d3] => { results := [.lit (.bool true)], args := [d1, d2, d3] }
  | _ => none }
def frameCutsAnyRow : OpenClaim := { program := "yteakiaedlfhceaa", sum := "43dc8432ad4c1f4b57c65b74988bf60f3fa490d51d4a665459a67ed537d45377", func := "pursuivant/pursuivantlaw17.FrameCutsAny", spec := "frameCutsAny", unfollowed := true, recurses := true, apart := false }
def FrameCutsAnySaid : Prop := frameCutsAnyRow.holds Try.pinned (OpenSpec.ofChange frameCutsAnySpec)

/-- ITS FALSE NEIGHBOUR: 'it returns false'. Refute it at one input. -/
def frameCutsAnyWrong : ChangeSpec := { name := "frameCutsAny", fn := fun _ => fun
  | [d1, d2, d3] => { results := [.lit (.bool false)], args := [d1, d2, d3] }
  | _ => none }
def FrameCutsAnyWrongFalsely : Prop := frameCutsAnyRow.holds Try.pinned (OpenSpec.ofChange frameCutsAnyWrong)

/-- 'pursuivantlaw17.FramePlays': WHATEVER THE INPUT: true; the input reads as it did. -/
def framePlaysSpec : ChangeSpec := { name := "framePlays", fn := fun _ => fun
  | [d] => { results := [.lit (.bool true)], args := [d] }
  | _ => none }
def framePlaysRow : OpenClaim := { program := "yteakiaedlfhceaa", sum := "43dc8432ad4c1f4b57c65b74988bf60f3fa490d51d4a665459a67ed537d45377", func := "pursuivant/pursuivantlaw17.FramePlays", spec := "framePlays", unfollowed := true, recurses := true, apart := false }
def FramePlaysSaid : Prop := framePlaysRow.holds Try.pinned (OpenSpec.ofChange framePlaysSpec)

/-- ITS FALSE NEIGHBOUR: 'it returns false'. Refute it at one input. -/
def framePlaysWrong : ChangeSpec := { name := "framePlays", fn := fun _ => fun
  | [d] => { results := [.lit (.bool false)], args := [d] }
  | _ => none }
def FramePlaysWrongFalsely : Prop := framePlaysRow.holds Try.pinned (OpenSpec.ofChange framePlaysWrong)

/- THE SECOND FORM. 'bulk': how many values and letters a reading holds, each counted each time it is reached (what is shared counts as often as it is met; a slice's spare places count too). A statement '..UptoSaid' is the law's where the arguments, and the package variables that the reading takes, are together of bulk at most 1048576: NARROWER than '..Said'. Prove '..Said' where nothing that the law and all that it calls make is longer than what came in: it says more and counts as full. Else prove '..UptoSaid'. A law counts once. -/
mutual
def uptoBulk {H : Type} : DataW H → Nat
  | .lit (.string bytes) => bytes.length + 1
  | .lit _ => 1
  | .nil => 1
  | .ptr d => uptoBulk d + 1
  | .slice elems spare => uptoBulkAll elems + uptoBulkAll spare + 1
  | .agg parts => uptoBulkAll parts + 1
  | .iface _ d => uptoBulk d + 1
  | .map entries => uptoBulkEntries entries + 1
  | .held _ => 1
def uptoBulkAll {H : Type} : List (DataW H) → Nat
  | [] => 0
  | d :: r => uptoBulk d + uptoBulkAll r
def uptoBulkEntries {H : Type} : List (Lit × DataW H) → Nat
  | [] => 0
  | x :: r => uptoBulkEntry x + uptoBulkEntries r
def uptoBulkEntry {H : Type} : Lit × DataW H → Nat
  | (.string bytes, d) => bytes.length + uptoBulk d + 1
  | (_, d) => uptoBulk d + 1
 end
def uptoSmall : (H : Type) → List (DataW H) → Bool := fun _ ds => decide (uptoBulkAll ds ≤ 1048576)
def OpenSpec.upto (s : _root_.Go.ChangeSpec) : _root_.Go.OpenSpec := { _root_.Go.OpenSpec.ofChange s with cond := some uptoSmall }

/-- 'pursuivantlaw17.FrameRaws', WHERE WHAT IT READS IS OF BULK AT MOST 1048576: true; the input reads as it did. -/
def frameRawsUptoRow : OpenClaim := { program := "yteakiaedlfhceaa", sum := "43dc8432ad4c1f4b57c65b74988bf60f3fa490d51d4a665459a67ed537d45377", func := "pursuivant/pursuivantlaw17.FrameRaws", spec := "frameRaws", unfollowed := true, recurses := true, apart := false, narrowed := true }
def FrameRawsUptoSaid : Prop := frameRawsUptoRow.holds Try.pinned (OpenSpec.upto frameRawsSpec)

/-- 'pursuivantlaw17.FrameCuts', WHERE WHAT IT READS IS OF BULK AT MOST 1048576: true; the input reads as it did. -/
def frameCutsUptoRow : OpenClaim := { program := "yteakiaedlfhceaa", sum := "43dc8432ad4c1f4b57c65b74988bf60f3fa490d51d4a665459a67ed537d45377", func := "pursuivant/pursuivantlaw17.FrameCuts", spec := "frameCuts", unfollowed := true, recurses := true, apart := false, narrowed := true }
def FrameCutsUptoSaid : Prop := frameCutsUptoRow.holds Try.pinned (OpenSpec.upto frameCutsSpec)

/-- 'pursuivantlaw17.FrameLong', WHERE WHAT IT READS IS OF BULK AT MOST 1048576: true; the input reads as it did. -/
def frameLongUptoRow : OpenClaim := { program := "yteakiaedlfhceaa", sum := "43dc8432ad4c1f4b57c65b74988bf60f3fa490d51d4a665459a67ed537d45377", func := "pursuivant/pursuivantlaw17.FrameLong", spec := "frameLong", unfollowed := true, recurses := true, apart := false, narrowed := true }
def FrameLongUptoSaid : Prop := frameLongUptoRow.holds Try.pinned (OpenSpec.upto frameLongSpec)

/-- 'pursuivantlaw17.FrameBent', WHERE WHAT IT READS IS OF BULK AT MOST 1048576: true; the input reads as it did. -/
def frameBentUptoRow : OpenClaim := { program := "yteakiaedlfhceaa", sum := "43dc8432ad4c1f4b57c65b74988bf60f3fa490d51d4a665459a67ed537d45377", func := "pursuivant/pursuivantlaw17.FrameBent", spec := "frameBent", unfollowed := true, recurses := true, apart := false, narrowed := true }
def FrameBentUptoSaid : Prop := frameBentUptoRow.holds Try.pinned (OpenSpec.upto frameBentSpec)

/-- 'pursuivantlaw17.FrameCutsAny', WHERE WHAT IT READS IS OF BULK AT MOST 1048576: true; the input reads as it did. -/
def frameCutsAnyUptoRow : OpenClaim := { program := "yteakiaedlfhceaa", sum := "43dc8432ad4c1f4b57c65b74988bf60f3fa490d51d4a665459a67ed537d45377", func := "pursuivant/pursuivantlaw17.FrameCutsAny", spec := "frameCutsAny", unfollowed := true, recurses := true, apart := false, narrowed := true }
def FrameCutsAnyUptoSaid : Prop := frameCutsAnyUptoRow.holds Try.pinned (OpenSpec.upto frameCutsAnySpec)

/-- 'pursuivantlaw17.FramePlays', WHERE WHAT IT READS IS OF BULK AT MOST 1048576: true; the input reads as it did. -/
def framePlaysUptoRow : OpenClaim := { program := "yteakiaedlfhceaa", sum := "43dc8432ad4c1f4b57c65b74988bf60f3fa490d51d4a665459a67ed537d45377", func := "pursuivant/pursuivantlaw17.FramePlays", spec := "framePlays", unfollowed := true, recurses := true, apart := false, narrowed := true }
def FramePlaysUptoSaid : Prop := framePlaysUptoRow.holds Try.pinned (OpenSpec.upto framePlaysSpec)

end Rows
end Go.Proofs.Yteakiaedlfhceaa
