/- Contracts of package sum: number.raw, Adder. -/
import Derived.Test.YtjoapafgpbmhkaaWords07
import Derived.Laws.BitsAllLaws
import Derived.Laws.Bits64
set_option linter.unusedSimpArgs false
set_option linter.unusedVariables false
namespace Go.Proofs.Ytjoapafgpbmhkaa.Sum
open Go.RowKit Go.Proofs.YtjoapafgpbmhkaaW.PrintWords Go.Proofs.YtjoapafgpbmhkaaW.PrintLast Go.Proofs.YtjoapafgpbmhkaaW.PrintMore Go.Proofs.Ytjoapafgpbmhkaa.Lex Go.Proofs.Ytjoapafgpbmhkaa.Lib
attribute [local go_sem] Oper.semAt_some

/-- a number, carried -/
def carry (n : Nat) : Nat := if n = 0 then 0 else (n - 1) % 65535 + 1
theorem carry_le (n : Nat) : carry n ≤ 65535 := by
  unfold carry
  split <;> omega
theorem carry_small (n : Nat) (h : n ≤ 65535) : carry n = n := by
  unfold carry
  split <;> omega
theorem carry_step (n : Nat) (h : 65535 < n) : carry (n % 65536 + n / 65536) = carry n := by
  unfold carry
  rw [if_neg (by omega), if_neg (by omega)]
  omega
theorem carry_add (a b : Nat) : carry (carry a + b) = carry (a + b) := by
  unfold carry
  by_cases ha : a = 0
  · simp [ha]
  · rw [if_neg ha, if_neg (by omega), if_neg (by omega)]
    omega
theorem and16 (k : Nat) (hk : k < 18446744073709551616) : IntKind.u64.wrap (bits .and .u64 (k : Int) 65535 + (k : Int) / 65536) = ((k % 65536 + k / 65536 : Nat) : Int) := by
  have h := u64_and_nat k 65535 hk (by decide)
  have h2 : k &&& 65535 = k % 65536 := Nat.and_two_pow_sub_one_eq_mod k 16
  rw [h2] at h
  have h3 : bits .and .u64 (k : Int) 65535 = ((k % 65536 : Nat) : Int) := h
  rw [h3, IntKind.wrap_u64]
  omega
def sumN (l : List Int) : Nat := (l.foldl (fun s x => s + x) 0).toNat

theorem raw (n : Nat) (w : World) (hn : n < 18446744073709551616) : Calls Try.prog 40 #[.agg #[.int .u64 n]] w fun e w' => e = .returned (.int .u16 (carry n)) ∧ Below w.heap.size w w' := by
  go_enter Try.func40, Try.ntmps40
  go_wp2_with fail
  go_loopg [3] n (fun gk s3 w' => ∃ k : Nat, k ≤ gk ∧ s3 = .int .u64 k ∧ k ≤ n ∧ Aside0 (carry k = carry n) ∧ Aside0 (Below w.heap.size w w'))
  case atStart => exact ⟨n, Nat.le_refl _, rfl, Nat.le_refl _, ⟨rfl⟩, ⟨below_alloc (Below.refl _ _) _⟩⟩
  case round =>
    obtain ⟨k, hgk, rfl, hkn, HC, HB⟩ := hrel
    by_cases hlt : 65535 < k
    · have hlt2 : (65535 : Int) < (k : Int) := by omega
      have hw1 : k % 65536 + k / 65536 < k := by omega
      go_wp2_with fail
      go_roundg (gk - 1)
      case measure => omega
      case rel =>
        refine ⟨k % 65536 + k / 65536, by omega, ?_, by omega, ⟨by rw [carry_step k hlt]; exact HC.out⟩, HB⟩
        rw [and16 k (by omega)]
    · have hlt2 : ¬ (65535 : Int) < (k : Int) := by omega
      have hk := HC.out
      rw [carry_small k (by omega)] at hk
      go_wp2_with fail
      go_ret
      exact ⟨rfl, HB.out⟩

/-- A sum under way, at a block: the number, how many bytes. -/
abbrev Ad (p : Nat) (w : World) (s k : Nat) : Prop := Ob p w [.int .u64 s, .int .i64 k, .bool true]
abbrev ptr (p : Nat) : Value := .pointer (some ⟨p, 0, none⟩)
theorem new (w : World) : Calls Try.prog 26 #[] w fun e w' => e = .returned (ptr w.heap.size) ∧ Ad w.heap.size w' 0 0 ∧ Below w.heap.size w w' := by
  go_enter Try.func26, Try.ntmps26
  go_wp2
  go_ret
  exact ⟨rfl, Ob.new w _ _ rfl _, below_alloc (Below.refl _ _) _⟩
theorem none_ (p s k : Nat) (w : World) (h : Ad p w s k) : Calls Try.prog 38 #[ptr p] w fun e w' => e = .returned (.bool false) ∧ w = w' := by
  have c2 := (h 2 _ rfl).1
  clear h
  go_enter Try.func38, Try.ntmps38
  go_wp2
  go_ret
  exact ⟨rfl, rfl⟩
theorem none_nil (w : World) : Calls Try.prog 38 #[.pointer none] w fun e w' => e = .returned (.bool true) ∧ w = w' := by
  go_enter Try.func38, Try.ntmps38
  go_wp2
  go_ret
  exact ⟨rfl, rfl⟩
theorem aRaw (p s k : Nat) (w : World) (h : Ad p w s k) (hs : s ≤ 65535) : Calls Try.prog 28 #[ptr p] w fun e w' => e = .returned (.int .u16 s) ∧ Below w.heap.size w w' := by
  have HN := Aside0.mk (none_ p s k w h)
  have c0 := (h 0 _ rfl).1
  have HR := Aside0.mk (raw s w (by omega))
  rw [carry_small s hs] at HR
  clear h
  go_enter Try.func28, Try.ntmps28
  go_wp2_with fail
  refine HN.out.mono ?_
  rintro e w' ⟨rfl, rfl⟩
  go_wp2_with fail
  refine HR.out.mono ?_
  rintro e w' ⟨rfl, hb⟩
  go_wp2_with fail
  go_ret
  exact ⟨rfl, hb⟩
theorem aLen (p s k : Nat) (w : World) (h : Ad p w s k) : Calls Try.prog 29 #[ptr p] w fun e w' => e = .returned (.int .i64 k) ∧ w = w' := by
  have HN := Aside0.mk (none_ p s k w h)
  have c1 := (h 1 _ rfl).1
  clear h
  go_enter Try.func29, Try.ntmps29
  go_wp2_with fail
  refine HN.out.mono ?_
  rintro e w' ⟨rfl, rfl⟩
  go_wp2_with fail
  go_ret
  exact ⟨rfl, rfl⟩
theorem aCopy (p s k : Nat) (w : World) (h : Ad p w s k) : Calls Try.prog 30 #[ptr p] w fun e w' => e = .returned (ptr w.heap.size) ∧ Ad w.heap.size w' s k ∧ Below w.heap.size w w' := by
  have HN := Aside0.mk (none_ p s k w h)
  have c0 := (h 0 _ rfl).1
  have c1 := (h 1 _ rfl).1
  have c2 := (h 2 _ rfl).1
  clear h
  go_enter Try.func30, Try.ntmps30
  go_wp2_with fail
  refine HN.out.mono ?_
  rintro e w' ⟨rfl, rfl⟩
  go_wp2_with fail
  go_ret
  exact ⟨rfl, Ob.new w _ _ rfl _, below_alloc (Below.refl _ _) _⟩
theorem words (A : Option Addr) (n c : Nat) (odd : Bool) (w : World) : Calls Try.prog 39 #[.slice A n c, .bool odd] w fun e w' =>
    e = .returned (.func (.func 43) #[] #[ptr (w.heap.size + 1), ptr w.heap.size]) ∧ Ob w.heap.size w' [.slice A n c] ∧ Ob (w.heap.size + 1) w' [.bool odd] ∧ Below w.heap.size w w' ∧ w'.heap.size = w.heap.size + 2 := by
  go_enter Try.func39, Try.ntmps39
  go_wp2
  go_ret
  have h0 := Ob.new w [.slice A n c] _ rfl 23
  have h1 := Ob.new (w.alloc (.cells #[.slice A n c] 23)) [.bool odd] _ rfl 4
  rw [show (w.alloc (.cells #[.slice A n c] 23)).heap.size = w.heap.size + 1 by simp] at h1
  exact ⟨rfl, h0.below (below_alloc (Below.refl _ _) _) (by simp), h1, below_alloc (below_alloc (Below.refl _ _) _) _, by simp⟩
end Go.Proofs.Ytjoapafgpbmhkaa.Sum
