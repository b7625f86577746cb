/- Parts that came in, as lists. -/
import Derived.Test.YtjoapafgpbmhkaaOpen
import Derived.Test.YtjoapafgpbmhkaaLibB
namespace Go.Proofs.Ytjoapafgpbmhkaa.Row
open Go.RowKit Go.Proofs.YtjoapafgpbmhkaaW.PrintWords Go.Proofs.YtjoapafgpbmhkaaW.PrintLast Go.Proofs.YtjoapafgpbmhkaaW.PrintMore
theorem opens_bytes : Opens Lib.KBB 23 (fun xs => ∀ n ∈ xs, (Lit.int .u8 n).wf = true) :=
  opens_slice Try.underlying23 (by kernel_rfl) (opens_int Try.underlying5 (by kernel_rfl))
theorem opens_parts : Opens (Kd.slice 23 Lib.KBB) 22 (fun l => ∀ xs ∈ l, ∀ n ∈ xs, (Lit.int .u8 n).wf = true) :=
  opens_slice Try.underlying22 (by kernel_rfl) opens_bytes
end Go.Proofs.Ytjoapafgpbmhkaa.Row
