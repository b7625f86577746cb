/- The walk of SumHeads. -/
import Derived.Test.YtjoapafgpbmhkaaRefHead07
import Derived.Test.YtjoapafgpbmhkaaLawsA07
set_option linter.unusedSimpArgs false
set_option linter.unusedVariables false
namespace Go.Proofs.Ytjoapafgpbmhkaa.Sum
open Go.RowKit Go.Proofs.YtjoapafgpbmhkaaW.PrintWords Go.Proofs.YtjoapafgpbmhkaaW.PrintLast Go.Proofs.YtjoapafgpbmhkaaW.PrintMore Go.Proofs.Ytjoapafgpbmhkaa.Lex Go.Proofs.Ytjoapafgpbmhkaa.Lib Go.Proofs.Ytjoapafgpbmhkaa.High
theorem wf32 {n : Int} (h : (Lit.int .u32 n).wf = true) : 0 ≤ n ∧ n ≤ 4294967295 := by
  have h2 := h
  simp [Lit.wf, IntKind.min, IntKind.max, IntKind.bits, IntKind.signed] at h2
  omega
set_option maxHeartbeats 1000000 in
theorem sumHeads (a b n : Int) (w : World) (ha : (Lit.int .u32 a).wf = true) (hb : (Lit.int .u32 b).wf = true) (hn : (Lit.int .i64 n).wf = true) :
    Calls Try.prog 4 #[.int .u32 a, .int .u32 b, .int .i64 n] w fun e w' => e = .returned (.bool true) ∧ Below w.heap.size w w' := by
  have wa := wf32 ha
  have wb := wf32 hb
  clear ha hb hn
  by_cases h : n < 0 ∨ 65535 < n
  · have HH := Aside0.mk (fun W => head_bad a b n W h)
    rcases h with h | h
    · have d1 : decide (n < 0) = true := by simpa using h
      clear wa wb
      go_enter Try.func4, Try.ntmps4
      go_wp2_with fail
      refine (HH.out _).mono ?_
      rintro e w1 ⟨rfl, rfl⟩
      go_wp2_with (first | (go_at_call 18; refine (num _ _).mono ?_; rintro e w' ⟨rfl, rfl⟩) | (go_at_call 11; refine (works _).mono ?_; rintro e w' ⟨rfl, hbw⟩))
      go_ret
      exact ⟨rfl, hbw⟩
    · have d1 : decide (n < 0) = false := by simp; omega
      have d2 : decide (65535 < n) = true := by simp; omega
      clear wa wb
      go_enter Try.func4, Try.ntmps4
      go_wp2_with fail
      refine (HH.out _).mono ?_
      rintro e w1 ⟨rfl, rfl⟩
      go_wp2_with (first | (go_at_call 18; refine (num _ _).mono ?_; rintro e w' ⟨rfl, rfl⟩) | (go_at_call 11; refine (works _).mono ?_; rintro e w' ⟨rfl, hbw⟩))
      go_ret
      exact ⟨rfl, hbw⟩
  · obtain ⟨a, rfl⟩ := Int.eq_ofNat_of_zero_le wa.1
    obtain ⟨b, rfl⟩ := Int.eq_ofNat_of_zero_le wb.1
    obtain ⟨n, rfl⟩ := Int.eq_ofNat_of_zero_le (show 0 ≤ n by omega)
    have d2 : ¬ (65535 : Int) < (n : Int) := by omega
    have HA := Aside0.mk (fun W => head a b n W (by omega) (by omega) (by omega))
    have HR := Aside0.mk (fun W => rHead a b n W (by omega) (by omega) (by omega))
    obtain ⟨L, hL⟩ : ∃ L, headOf a b n = L := ⟨_, rfl⟩
    simp only [hL] at HA HR
    clear hL wa wb h
    go_enter Try.func4, Try.ntmps4
    go_wp2_with fail
    refine (HA.out _).mono ?_
    rintro e w1 ⟨v1, rfl, o1, b1⟩
    have O1 := Aside0.mk o1
    have B1 := Aside0.mk b1
    obtain ⟨A1, c1, rfl, _, _⟩ := o1.reads
    clear o1 b1
    go_wp2_with fail
    have hc1 := conv w1.drew A1 c1 L (O1.out.below (Below.refl _ _).drew).readsAt
    refine region [(0, .p), (2, .p), (3, .p), (4, .p), (1, .t), (5, .o), (6, .o), (7, .p), (8, .p), (9, .p), (10, .o), (11, .p), (12, .p), (13, .p), (14, .o), (15, .p), (16, .p)] (fun W => (convert 23 9 (.slice A1 L.length c1)).run Try.prog W = .ok (.string (strOfNums L)) W) (by kernel_rfl) (by kernel_rfl) (fun _ _ _ _ _ h => h) (hc1) (fun hHeld => ?_)
    iterate 4 (refine lex_p rfl rfl rfl (by intro w'; go_simp; with_reducible rfl) (by simp only [Act.put, List.setIfInBounds_toArray, List.set_cons_zero, List.set_cons_succ, i64_w, i32_w]; rfl) ?_)
    (refine lex_t rfl rfl rfl (by rintro w' s1; go_simp; with_reducible rfl) (by simp only [Act.put, List.setIfInBounds_toArray, List.set_cons_zero, List.set_cons_succ, i64_w, i32_w]; rfl) ?_)
    refine lex_o rfl ?_
    go_wp2_with fail
    refine (HR.out _).mono ?_
    rintro e w2 ⟨v2, rfl, o2, b2⟩
    have B2' : Below w1.heap.size w1 w2 := (Below.refl _ _).drew.trans b2
    have B2 := Aside0.mk (B1.out.trans (B2'.mono B1.out.size))
    obtain ⟨A2, c2, rfl, _, _⟩ := o2.reads
    have hS := conv w2 A1 c1 L (O1.out.below B2').readsAt
    have hc2 := conv w2 A2 c2 L o2.readsAt
    have O12 := Aside0.mk (O1.out.below B2')
    clear o2 b2 O1 B1 HA HR B2'
    go_wp2_with fail
    refine lex_end (by first | (simp only [Act.put, List.setIfInBounds_toArray, List.set_cons_zero, List.set_cons_succ, i64_w, i32_w]; rfl) | rfl) hS (fun hHeld => ?_)
    refine lex_o rfl ?_
    go_wp2_with fail
    refine lex_end (by first | (simp only [Act.put, List.setIfInBounds_toArray, List.set_cons_zero, List.set_cons_succ, i64_w, i32_w]; rfl) | rfl) hS (fun hHeld => ?_)
    iterate 3 (refine lex_p rfl rfl rfl (by intro w'; go_simp; with_reducible rfl) (by simp only [Act.put, List.setIfInBounds_toArray, List.set_cons_zero, List.set_cons_succ, i64_w, i32_w]; rfl) ?_)
    refine lex_o rfl ?_
    go_wp2_with fail
    refine (num _ _).mono ?_
    rintro e w' ⟨rfl, rfl⟩
    go_wp2_with fail
    refine lex_end (by first | (simp only [Act.put, List.setIfInBounds_toArray, List.set_cons_zero, List.set_cons_succ, i64_w, i32_w]; rfl) | rfl) hS (fun hHeld => ?_)
    iterate 3 (refine lex_p rfl rfl rfl (by intro w'; go_simp; with_reducible rfl) (by simp only [Act.put, List.setIfInBounds_toArray, List.set_cons_zero, List.set_cons_succ, i64_w, i32_w]; rfl) ?_)
    refine lex_o rfl ?_
    go_wp2_with fail
    refine (works _).mono ?_
    rintro e w' ⟨rfl, hbw⟩
    have hS := conv w' A1 c1 L (O12.out.below hbw).readsAt
    go_wp2_with fail
    refine lex_end (by first | (simp only [Act.put, List.setIfInBounds_toArray, List.set_cons_zero, List.set_cons_succ, i64_w, i32_w]; rfl) | rfl) hS (fun hHeld => ?_)
    iterate 2 (refine lex_p rfl rfl rfl (by intro w'; go_simp; with_reducible rfl) (by simp only [Act.put, List.setIfInBounds_toArray, List.set_cons_zero, List.set_cons_succ, i64_w, i32_w]; rfl) ?_)
    refine lex_nil ?_
    go_wp2_with fail
    go_ret
    exact ⟨rfl, B2.out.trans (hbw.mono B2.out.size)⟩
end Go.Proofs.Ytjoapafgpbmhkaa.Sum
