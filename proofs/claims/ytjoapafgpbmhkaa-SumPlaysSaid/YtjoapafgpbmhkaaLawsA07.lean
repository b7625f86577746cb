/- The walk of SumAdds. -/
import Derived.Test.YtjoapafgpbmhkaaWorks07
import Derived.Test.YtjoapafgpbmhkaaRef07
set_option linter.unusedSimpArgs false
set_option linter.unusedVariables false
namespace Go.Proofs.Ytjoapafgpbmhkaa.Sum
open Go.RowKit Go.Proofs.YtjoapafgpbmhkaaW.PrintWords Go.Proofs.YtjoapafgpbmhkaaW.PrintLast Go.Proofs.YtjoapafgpbmhkaaW.PrintMore Go.Proofs.Ytjoapafgpbmhkaa.Lex Go.Proofs.Ytjoapafgpbmhkaa.Lib Go.Proofs.Ytjoapafgpbmhkaa.High
theorem wf16 {n : Int} (h : (Lit.int .u16 n).wf = true) : 0 ≤ n ∧ n ≤ 65535 := by
  have h2 := h
  simp [Lit.wf, IntKind.min, IntKind.max, IntKind.bits, IntKind.signed] at h2
  omega
theorem sumAdds (a b c : Int) (w : World) (ha : (Lit.int .u16 a).wf = true) (hb : (Lit.int .u16 b).wf = true) (hc : (Lit.int .u16 c).wf = true) :
    Calls Try.prog 7 #[.int .u16 a, .int .u16 b, .int .u16 c] w fun e w' => e = .returned (.bool true) ∧ Below w.heap.size w w' := by
  have HA := Aside0.mk (fun W => add a b W (wf16 ha) (wf16 hb))
  have HRA := Aside0.mk (fun W => rAdd a b W (wf16 ha) (wf16 hb))
  have HC := Aside0.mk (fun W => change a b c W (wf16 ha) (wf16 hb) (wf16 hc))
  have HRC := Aside0.mk (fun W => rChange a b c W (wf16 ha) (wf16 hb) (wf16 hc))
  obtain ⟨r, hr⟩ : ∃ r, carry (sum16 [a, b]) = r := ⟨_, rfl⟩
  obtain ⟨t, ht⟩ : ∃ t, (65535 - (carry (sum16 [65535 - a, 65535 - b, c]) : Int)) = t := ⟨_, rfl⟩
  simp only [hr] at HA HRA
  simp only [ht] at HC HRC
  clear hr ht ha hb hc
  go_enter Try.func7, Try.ntmps7
  go_wp2_with fail
  refine (HA.out _).mono ?_
  rintro e w1 ⟨rfl, b1⟩
  have B1 := Aside0.mk b1
  clear b1
  go_wp2_with fail
  refine (HRA.out _).mono ?_
  rintro e w2 ⟨rfl, rfl⟩
  go_wp2_with fail
  refine (HC.out _).mono ?_
  rintro e w2 ⟨rfl, b2⟩
  have B2 := Aside0.mk (B1.out.trans (b2.mono B1.out.size))
  clear b2
  go_wp2_with fail
  refine (HRC.out _).mono ?_
  rintro e w3 ⟨rfl, rfl⟩
  go_wp2_with fail
  refine (works _).mono ?_
  rintro e w3 ⟨rfl, b3⟩
  go_wp2_with fail
  go_ret
  exact ⟨rfl, B2.out.trans (b3.mono B2.out.size)⟩
end Go.Proofs.Ytjoapafgpbmhkaa.Sum
