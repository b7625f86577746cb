/- Contracts of slices.Clone, Grow (of nil), Concat at bytes. -/
import Derived.Test.YticilaoibjbgfaaLibB0
set_option linter.unusedSimpArgs false
set_option linter.unusedVariables false
namespace Go.Proofs.Yticilaoibjbgfaa.Lib
open Go.RowKit Go.Proofs.YticilaoibjbgfaaW.PrintWords Go.Proofs.YticilaoibjbgfaaW.PrintLast Go.Proofs.YticilaoibjbgfaaW.PrintMore Go.Proofs.Yticilaoibjbgfaa.Lex

set_option maxHeartbeats 1000000 in
theorem clone (A : Option Addr) (c : Nat) (xs : List Int) (w : World) (hx : Kd.C KB w A xs.length xs) (hl : xs.length ≤ 140737488355328) :
   Calls Try.prog 44 #[.slice A xs.length c] w fun e w' => ∃ v, e = .returned v ∧ OB w.heap.size w' v xs ∧ Below w.heap.size w w' := by
  have hn := fun (w : World) => Lib.run_eql_slice_nil (P := Try.prog) w 30 5 A xs.length c 0 0 Try.underlying30
  have HX := Aside0.mk hx
  clear hx
  go_enter Try.func44, Try.ntmps44
  cases A with
  | none =>
    have hN : (none : Option Addr).isNone = true := rfl
    go_wp2
    go_ret
    have := C_nil HX.out
    subst this
    exact ⟨_, rfl, OB.nil _ _, Below.refl _ _⟩
  | some ad =>
    have hN : (some ad).isNone = false := rfl
    go_wp2_with ((with_reducible refine gate_builtin (b := .append) (xs := #[.tmp 5, .tmp 6]) rfl ?_); refine ap_row w.heap.size _ _ rfl rfl (OB.lit w [] [] rfl 0 rfl (Nat.le_refl _) (by simp)) (Kd.C_below HX.out (below_alloc (Below.refl _ _) _)) rfl rfl (by simp) (by simpa using hl) ?_; intro v w1 ho hb)
    go_ret
    exact ⟨_, rfl, ho, (below_alloc (Below.refl _ _) _).trans hb⟩

set_option maxHeartbeats 1000000 in
theorem grow_nil (n : Int) (w : World) (h0 : 0 ≤ n) (hl : n ≤ 140737488355328) :
   Calls Try.prog 49 #[.slice none 0 0, .int .i64 n] w fun e w' => ∃ v, e = .returned v ∧ OB w.heap.size w' v [] ∧ Below w.heap.size w w' := by
  by_cases hp : 0 < n
  · go_enter Try.func49, Try.ntmps49
    go_wp2_with ((with_reducible refine gate_builtin (b := .append) (xs := #[.tmp 20, .tmp 21]) rfl ?_); refine ap_zeros w.heap.size _ _ rfl rfl (OB.nil w.heap.size w) rfl rfl (by omega) (by omega) (by simp; omega) ?_; intro v w1 ho hb; obtain ⟨A, c, rfl, hc, hC⟩ := ho.reads)
    go_ret
    refine ⟨_, rfl, ?_, hb⟩
    have h2 := Kd.R_take ho (m := 0) (by omega)
    rw [List.take_zero] at h2
    exact h2
  · have : n = 0 := by omega
    subst this
    go_enter Try.func49, Try.ntmps49
    go_wp2
    go_ret
    exact ⟨_, rfl, OB.nil _ _, Below.refl _ _⟩

set_option maxHeartbeats 2000000 in
theorem concat (A : Option Addr) (c : Nat) (l : List (List Int)) (w : World) (hx : Kd.C KBB w A l.length l) (hl : (flat l).length ≤ 140737488355328) :
   Calls Try.prog 26 #[.slice A l.length c] w fun e w' => ∃ v, e = .returned v ∧ OB w.heap.size w' v (flat l) ∧ Below w.heap.size w w' := by
  have HX := Aside0.mk hx
  have hm := hx.2.1
  clear hx
  go_enter Try.func26, Try.ntmps26
  go_wp2
  go_loopg [3, 5, 11] l.length (fun gk s3 s5 s11 w' => ∃ k : Nat, k ≤ l.length ∧ l.length - k ≤ gk ∧ s11 = .int .i64 k ∧ s3 = .int .i64 (flat (l.take k)).length ∧ w = w')
  case atStart => exact ⟨0, by omega, by omega, rfl, by simp [flat], rfl⟩
  case round =>
    obtain ⟨k, hk, hgk, rfl, rfl, rfl⟩ := hrel
    have hle := flat_le l k
    by_cases hlt : k < l.length
    · have hle1 := flat_le l (k+1)
      have hft := flat_take l k hlt
      obtain ⟨ab, ao, A0, c0, rfl, hc, hlc, hC⟩ := C_row HX.out k hlt
      have hfl : (flat (l.take (k+1))).length = (flat (l.take k)).length + (l.getD k []).length := by rw [hft, List.length_append]
      obtain ⟨y, hy⟩ : ∃ y, l.getD k [] = y := ⟨_, rfl⟩
      rw [hy] at hc hlc hC hfl
      obtain ⟨m, hm⟩ : ∃ m, (flat (l.take k)).length = m := ⟨_, rfl⟩
      obtain ⟨m1, hm1⟩ : ∃ m, (flat (l.take (k+1))).length = m := ⟨_, rfl⟩
      rw [hm] at hle hfl
      rw [hm1] at hle1 hfl
      simp only [hm]
      have H1 := Aside0.mk hm
      have H2 := Aside0.mk hm1
      have H3 := Aside0.mk hfl
      have h0 : m + y.length ≤ 140737488355328 := by omega
      clear hm hm1 hfl hft hy hC hle1
      go_wp2
      go_roundg (gk - 1)
      case measure => omega
      case rel => exact ⟨k+1, by omega, by omega, by go_num, by rw [H2.out, H3.out]; simp, rfl⟩
    · obtain rfl : k = l.length := by omega
      rw [List.take_length] at *
      go_wp2_with fail
      refine (grow_nil _ _ (by omega) (by omega)).mono ?_
      rintro e w1 ⟨v, rfl, ho, hb⟩
      go_wp2_with fail
      have HO0 := Aside0.mk ho
      have HB0 := Aside0.mk hb
      clear ho hb
      go_loopg [6, 8, 27] l.length (fun gk s6 s8 s27 w' => ∃ k : Nat, k ≤ l.length ∧ l.length - k ≤ gk ∧ s27 = .int .i64 k ∧ Aside0 (OB w.heap.size w' s6 (flat (l.take k))) ∧ Aside0 (Below w.heap.size w w'))
      case atStart => exact ⟨0, by omega, by omega, rfl, ⟨by simpa [flat] using HO0.out⟩, HB0⟩
      case round =>
        clear HO0 HB0
        obtain ⟨k, hk, hgk, rfl, HO, HB⟩ := hrel
        by_cases hlt : k < l.length
        · have hle1 := flat_le l (k+1)
          have hft := flat_take l k hlt
          obtain ⟨ab, ao, A0, c0, rfl, hc, hlc, hC⟩ := C_row (Kd.C_below HX.out HB.out) k hlt
          have hfl : (flat (l.take k)).length + (l.getD k []).length ≤ 140737488355328 := by rw [hft, List.length_append] at hle1; omega
          obtain ⟨y, hy⟩ : ∃ y, l.getD k [] = y := ⟨_, rfl⟩
          rw [hy] at hc hlc hC hfl hft
          have HC := Aside0.mk hC
          have HF := Aside0.mk hft
          have HFL := Aside0.mk hfl
          have hsz := HB.out.size
          clear hfl hft hy hC hle1 hlc hle
          go_wp2_with ((with_reducible refine gate_builtin (b := .append) (xs := #[.tmp 31, .tmp 32]) rfl ?_); refine ap_row w.heap.size _ _ rfl rfl HO.out HC.out rfl rfl hsz HFL.out ?_; intro v w1 ho hb; have HO2 := Aside0.mk ho; have HB2 := Aside0.mk hb; clear ho hb)
          go_roundg (gk - 1)
          case measure => omega
          case rel => exact ⟨k+1, by omega, by omega, by go_num, ⟨by rw [HF.out]; exact HO2.out⟩, ⟨HB.out.trans HB2.out⟩⟩
        · obtain rfl : k = l.length := by omega
          go_wp2
          go_ret
          have h := HO.out
          rw [List.take_length] at h
          exact ⟨_, rfl, h, HB.out⟩
end Go.Proofs.Yticilaoibjbgfaa.Lib
