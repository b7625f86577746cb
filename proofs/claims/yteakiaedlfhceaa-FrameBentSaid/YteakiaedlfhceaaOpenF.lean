/- Frames that came in, as a list. -/
import Derived.Test.YteakiaedlfhceaaOpen
import Derived.Test.YteakiaedlfhceaaBent
namespace Go.Proofs.Yteakiaedlfhceaa.Row
open Go.RowKit Go.Proofs.YteakiaedlfhceaaW.PrintWords Go.Proofs.YteakiaedlfhceaaW.PrintLast Go.Proofs.YteakiaedlfhceaaW.PrintMore
theorem opens_frame : Opens Frame.FR 44 (fun x => (Lit.int .i64 x.1).wf = true ∧ ∀ n ∈ x.2, (Lit.int .u8 n).wf = true) :=
  opens_struct (l := [(0, 3), (1, 22)]) Try.underlying44 (by rfl) (by kernel_rfl)
    (opensF_cons (opens_int Try.underlying3 (by kernel_rfl)) (opensF_one (opens_slice Try.underlying22 (by kernel_rfl) (opens_int Try.underlying5 (by kernel_rfl))) 1))
theorem opens_frames : Opens (Kd.slice 44 Frame.FR) 42 (fun xs => ∀ x ∈ xs, (Lit.int .i64 x.1).wf = true ∧ ∀ n ∈ x.2, (Lit.int .u8 n).wf = true) :=
  opens_slice Try.underlying42 (by kernel_rfl) opens_frame
end Go.Proofs.Yteakiaedlfhceaa.Row
