/- Contracts of First, the closures of parts, parts, word. -/
import Derived.Test.YtfeohojpjncgaaaSpec01
import Derived.Test.YtfeohojpjncgaaaObj
import Derived.WalkMore
import Derived.Laws.EntriesVeiled
import Derived.Laws.BitsAllLaws
import Derived.Outline
set_option linter.unusedSimpArgs false
set_option linter.unusedVariables false
namespace Go.Proofs.Ytfeohojpjncgaaa.Sha
open Go.RowKit Go.Proofs.YtfeohojpjncgaaaW.PrintWords Go.Proofs.YtfeohojpjncgaaaW.PrintLast Go.Proofs.YtfeohojpjncgaaaW.PrintMore Go.Proofs.Ytfeohojpjncgaaa.PSha1Plays Go.Proofs.Ytfeohojpjncgaaa.Lex Go.Proofs.Ytfeohojpjncgaaa.Lib

theorem pFirst (w : World) : Calls Try.prog 36 #[] w fun e w' => e = .returned first.v ∧ Below w.heap.size w w' := by
  go_enter Try.func36, Try.ntmps36
  go_wp2
  exact bodyPost_ret (v := .agg #[.int .u32 1732584193, .int .u32 4023233417, .int .u32 2562383102, .int .u32 271733878, .int .u32 3285377520]) (by simp [results, Try.results36, go_sem]) rfl ⟨rfl, below_alloc (Below.refl _ _) _⟩
theorem rFirst (w : World) : Calls Try.prog 34 #[] w fun e w' => e = .returned first.v ∧ Below w.heap.size w w' := by
  go_enter Try.func34, Try.ntmps34
  go_wp2
  exact bodyPost_ret (v := .agg #[.int .u32 1732584193, .int .u32 4023233417, .int .u32 2562383102, .int .u32 271733878, .int .u32 3285377520]) (by simp [results, Try.results34, go_sem]) rfl ⟨rfl, below_alloc (Below.refl _ _) _⟩
theorem xor32 (r : Nat) (hr : r ≤ 4294967295) : 4294967295 ^^^ r = 4294967295 - r := by
  apply Nat.eq_of_testBit_eq
  intro i
  have h1 : (4294967295 : Nat) = 2 ^ 32 - 1 := rfl
  have h2 : 4294967295 - r = 2 ^ 32 - (r + 1) := by omega
  rw [Nat.testBit_xor, h2, Nat.testBit_two_pow_sub_succ (by omega)]
  conv => lhs; lhs; rw [h1, Nat.testBit_two_pow_sub_one]
  rcases Nat.lt_or_ge i 32 with h | h
  · simp [h]
  · have h3 : r < 2 ^ i := Nat.lt_of_lt_of_le (by omega : r < 2 ^ 32) (Nat.pow_le_pow_right (by omega) h)
    have h4 : r.testBit i = false := Nat.testBit_lt_two_pow h3
    simp [Nat.not_lt.2 h, h4]
theorem not32 (b : Int) (hb : W32 b) : Go.bits .xor .u32 IntKind.u32.max b = 4294967295 - b := by
  obtain ⟨r, rfl⟩ := Int.eq_ofNat_of_zero_le hb.1
  have hr : r ≤ 4294967295 := by have := hb.2; omega
  have h : Go.bits .xor .u32 ((4294967295 : Nat) : Int) (r : Int) = ((4294967295 ^^^ r : Nat) : Int) := u32_xor_nat 4294967295 r (by decide) (by omega)
  rw [xor32 r hr] at h
  have h2 : IntKind.u32.max = ((4294967295 : Nat) : Int) := by decide
  rw [h2, h]
  omega
theorem do1 (b c d : Int) (w : World) : Calls Try.prog 54 #[.int .u32 b, .int .u32 c, .int .u32 d] w fun e w' => e = .returned (.int .u32 (xor (xor b c) d)) ∧ w = w' := by
  go_enter Try.func54, Try.ntmps54
  go_wp2
  go_ret
  exact ⟨rfl, rfl⟩
theorem do2 (b c d : Int) (w : World) (hb : W32 b) : Calls Try.prog 55 #[.int .u32 b, .int .u32 c, .int .u32 d] w fun e w' => e = .returned (.int .u32 (or (and b c) (and (4294967295 - b) d))) ∧ w = w' := by
  have hn := Aside0.mk (not32 b hb)
  clear hb
  go_enter Try.func55, Try.ntmps55
  go_wp2
  go_ret
  exact ⟨by rw [← hn.out]; rfl, rfl⟩
theorem do3 (b c d : Int) (w : World) : Calls Try.prog 56 #[.int .u32 b, .int .u32 c, .int .u32 d] w fun e w' => e = .returned (.int .u32 (or (or (and b c) (and b d)) (and c d))) ∧ w = w' := by
  go_enter Try.func56, Try.ntmps56
  go_wp2
  go_ret
  exact ⟨rfl, rfl⟩
def fnv (g : Nat) : Value := .func (.func g) #[] #[]
theorem parts (w : World) : Calls Try.prog 50 #[] w fun e w' => e = .returned (.slice (some ⟨w.heap.size, 0, none⟩) 4 4) ∧
    w.alloc (.cells #[.int .i64 20, .func (.func 55) #[] #[], .int .u32 1518500249, .int .i64 40, .func (.func 54) #[] #[], .int .u32 1859775393, .int .i64 60, .func (.func 56) #[] #[], .int .u32 2400959708, .int .i64 80, .func (.func 54) #[] #[], .int .u32 3395469782] 103) = w' := by
  go_enter Try.func50, Try.ntmps50
  go_wp2
  go_ret
  exact ⟨rfl, rfl⟩
end Go.Proofs.Ytfeohojpjncgaaa.Sha
