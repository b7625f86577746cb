/- Contracts of the reference of package 07: Carry, Raw, Sum, Add, Change. -/
import Derived.Test.YtjoapafgpbmhkaaRaw07
set_option linter.unusedSimpArgs false
set_option linter.unusedVariables false
namespace Go.Proofs.Ytjoapafgpbmhkaa.Sum
open Go.RowKit Go.Proofs.YtjoapafgpbmhkaaW.PrintWords Go.Proofs.YtjoapafgpbmhkaaW.PrintLast Go.Proofs.YtjoapafgpbmhkaaW.PrintMore Go.Proofs.Ytjoapafgpbmhkaa.Lex Go.Proofs.Ytjoapafgpbmhkaa.Lib

theorem rCarry (n : Nat) (w : World) (hn : n < 4611686018427387904) : Calls Try.prog 31 #[.int .i64 n] w fun e w' => e = .returned (.int .i64 (carry n)) ∧ w = w' := by
  go_enter Try.func31, Try.ntmps31
  go_wp2_with fail
  go_loopg [0] n (fun gk s0 w' => ∃ k : Nat, k ≤ gk ∧ s0 = .int .i64 k ∧ k ≤ n ∧ Aside0 (carry k = carry n) ∧ w = w')
  case atStart => exact ⟨n, Nat.le_refl _, rfl, Nat.le_refl _, ⟨rfl⟩, rfl⟩
  case round =>
    obtain ⟨k, hgk, rfl, hkn, HC, rfl⟩ := hrel
    by_cases hlt : 65536 ≤ k
    · have hlt2 : (65536 : Int) ≤ (k : Int) := by omega
      go_wp2_with fail
      go_roundg (gk - 1)
      case measure => omega
      case rel =>
        refine ⟨k % 65536 + k / 65536, by omega, ?_, by omega, ⟨by rw [carry_step k (by omega)]; exact HC.out⟩, rfl⟩
        go_num
    · have hlt2 : ¬ (65536 : Int) ≤ (k : Int) := by omega
      have hk := HC.out
      rw [carry_small k (by omega)] at hk
      have HK := Aside0.mk hk
      clear hk
      go_wp2_with fail
      go_ret
      rw [← HK.out]
      exact ⟨rfl, rfl⟩
theorem rAdd (a b : Int) (w : World) (ha : 0 ≤ a ∧ a ≤ 65535) (hb : 0 ≤ b ∧ b ≤ 65535) : Calls Try.prog 23 #[.int .u16 a, .int .u16 b] w fun e w' => e = .returned (.int .u16 (carry (sum16 [a, b]))) ∧ w = w' := by
  obtain ⟨a, rfl⟩ := Int.eq_ofNat_of_zero_le ha.1
  obtain ⟨b, rfl⟩ := Int.eq_ofNat_of_zero_le hb.1
  have e1 : sum16 [(a : Int), (b : Int)] = a + b := by simp [sum16]
  have hc := carry_le (a + b)
  have HC := Aside0.mk (rCarry (a + b) w (by omega))
  rw [e1]
  rw [Int.natCast_add] at HC
  obtain ⟨r, hr⟩ : ∃ r, carry (a + b) = r := ⟨_, rfl⟩
  rw [hr] at HC hc
  rw [hr]
  clear hr e1
  go_enter Try.func23, Try.ntmps23
  go_wp2_with fail
  refine HC.out.mono ?_
  rintro e w2 ⟨rfl, rfl⟩
  go_wp2_with fail
  go_ret
  exact ⟨rfl, rfl⟩
theorem rChange (a b c : Int) (w : World) (ha : 0 ≤ a ∧ a ≤ 65535) (hb : 0 ≤ b ∧ b ≤ 65535) (hc : 0 ≤ c ∧ c ≤ 65535) : Calls Try.prog 25 #[.int .u16 a, .int .u16 b, .int .u16 c] w fun e w' => e = .returned (.int .u16 (65535 - (carry (sum16 [65535 - a, 65535 - b, c]) : Int))) ∧ w = w' := by
  have e1 : ((sum16 [65535 - a, 65535 - b, c] : Nat) : Int) = 65535 - a + (65535 - b) + c := by simp [sum16]; omega
  have hcl := carry_le (sum16 [65535 - a, 65535 - b, c])
  have HC := Aside0.mk (rCarry (sum16 [65535 - a, 65535 - b, c]) w (by omega))
  rw [e1] at HC
  obtain ⟨r, hr⟩ : ∃ r, carry (sum16 [65535 - a, 65535 - b, c]) = r := ⟨_, rfl⟩
  rw [hr] at HC hcl
  rw [hr]
  clear hr e1
  go_enter Try.func25, Try.ntmps25
  go_wp2_with fail
  refine HC.out.mono ?_
  rintro e w2 ⟨rfl, rfl⟩
  go_wp2_with fail
  go_ret
  exact ⟨rfl, rfl⟩

theorem sumW_one (x : Int) (hx : 0 ≤ x) : ((sumW false [x] : Nat) : Int) = x * 256 := by simp [sumW, wordsOf, next1]; omega
theorem sumW_two (x y : Int) (hx : 0 ≤ x) (hy : 0 ≤ y) : ((sumW false [x, y] : Nat) : Int) = x * 256 + y := by simp [sumW, wordsOf, next1]; omega
theorem take_one (xs : List Int) (i : Nat) (h : i + 1 = xs.length) : xs.take (i + 2) = xs.take i ++ [xs.getD i 0] := by
  rw [List.take_of_length_le (by omega), List.getD_eq_getElem?_getD, List.getElem?_eq_getElem (by omega)]
  have h2 := List.take_succ_eq_append_getElem (l := xs) (i := i) (by omega)
  rw [List.take_of_length_le (by omega)] at h2
  exact h2
theorem take_two (xs : List Int) (i : Nat) (h : i + 1 < xs.length) : xs.take (i + 2) = xs.take i ++ [xs.getD i 0, xs.getD (i + 1) 0] := by
  rw [List.take_succ_eq_append_getElem (l := xs) (i := i + 1) h, List.take_succ_eq_append_getElem (l := xs) (i := i) (by omega), List.append_assoc]
  rw [List.getD_eq_getElem?_getD, List.getElem?_eq_getElem (by omega), List.getD_eq_getElem?_getD, List.getElem?_eq_getElem h]
  rfl
set_option maxHeartbeats 2000000 in
theorem rRaw (A : Option Addr) (c : Nat) (xs : List Int) (w : World) (hx : Kd.C KB w A xs.length xs) (hb : Byt xs) (hl : xs.length ≤ 1099511627776) :
    Calls Try.prog 13 #[.slice A xs.length c] w fun e w' => e = .returned (.int .u16 (rawS xs)) ∧ w = w' := by
  have HX := Aside0.mk hx
  clear hx
  go_enter Try.func13, Try.ntmps13
  go_wp2_with fail
  go_loopg [3, 4] xs.length (fun gk s3 s4 w' => ∃ j : Nat, 2 * j ≤ xs.length + 1 ∧ xs.length - 2 * j ≤ gk ∧ s4 = .int .i64 ((2 * j : Nat) : Int) ∧ s3 = .int .i64 ((rawS (xs.take (2 * j)) : Nat) : Int) ∧ w = w')
  case atStart => exact ⟨0, by omega, by omega, rfl, rfl, rfl⟩
  case round =>
    obtain ⟨j, hj, hgk, rfl, rfl, rfl⟩ := hrel
    obtain ⟨i, hi⟩ : ∃ i, 2 * j = i := ⟨_, rfl⟩
    rw [hi] at hj hgk ⊢
    have hr := rawS_le (xs.take i)
    by_cases hlt : i < xs.length
    · obtain ⟨b, o, rfl, hcell⟩ := C_byte HX.out i hlt
      have hby := hb (xs.getD i 0) (by rw [List.getD_eq_getElem?_getD, List.getElem?_eq_getElem hlt]; exact List.getElem_mem hlt)
      have hil : (xs.take i).length = i := by rw [List.length_take]; omega
      by_cases hlt2 : i + 1 < xs.length
      · obtain ⟨b2, o2, e2, hcell2⟩ := C_byte HX.out (i + 1) hlt2
        simp only [Option.some.injEq, Addr.mk.injEq, and_true] at e2
        obtain ⟨rfl, rfl⟩ := e2
        have hby2 := hb (xs.getD (i + 1) 0) (by rw [List.getD_eq_getElem?_getD, List.getElem?_eq_getElem hlt2]; exact List.getElem_mem hlt2)
        have hs := rawS_snoc (xs.take i) [xs.getD i 0, xs.getD (i + 1) 0]
        rw [← take_two xs i hlt2, hil, show (i % 2 == 1) = false by rw [show i % 2 = 0 by omega]; rfl] at hs
        have hw2 := sumW_two (xs.getD i 0) (xs.getD (i + 1) 0) hby.1 hby2.1
        obtain ⟨x, hx⟩ : ∃ x, xs.getD i 0 = x := ⟨_, rfl⟩
        obtain ⟨y, hy⟩ : ∃ x, xs.getD (i + 1) 0 = x := ⟨_, rfl⟩
        obtain ⟨r, hr2⟩ : ∃ r, rawS (xs.take i) = r := ⟨_, rfl⟩
        obtain ⟨q, hq⟩ : ∃ r, rawS (xs.take (i + 2)) = r := ⟨_, rfl⟩
        rw [hx, hy] at hs hw2
        rw [hx] at hcell hby
        rw [hy] at hcell2 hby2
        rw [hr2, hq] at hs
        rw [hr2] at hr ⊢
        have HC := Aside0.mk (rCarry (r + sumW false [x, y]) w (by omega))
        rw [hs] at HC
        have hsum : ((r + sumW false [x, y] : Nat) : Int) = (r : Int) + x * 256 + y := by omega
        rw [hsum] at HC
        have HQ := Aside0.mk hq
        have HI := Aside0.mk hi
        have hi1 : (i : Int) + 1 < (xs.length : Int) := by omega
        clear hs hw2 hx hy hr2 hq hsum hi hil
        go_wp2_with fail
        refine HC.out.mono ?_
        rintro e w2 ⟨rfl, rfl⟩
        go_wp2_with fail
        go_roundg (gk - 2)
        case measure => omega
        case rel =>
          have := HI.out
          refine ⟨j + 1, by omega, by omega, ?_, ?_, rfl⟩
          · rw [show 2 * (j + 1) = i + 2 by omega]; go_num
          · rw [show 2 * (j + 1) = i + 2 by omega, HQ.out]
      · have hs := rawS_snoc (xs.take i) [xs.getD i 0]
        rw [← take_one xs i (by omega), hil, show (i % 2 == 1) = false by rw [show i % 2 = 0 by omega]; rfl] at hs
        have hw2 := sumW_one (xs.getD i 0) hby.1
        obtain ⟨x, hx⟩ : ∃ x, xs.getD i 0 = x := ⟨_, rfl⟩
        obtain ⟨r, hr2⟩ : ∃ r, rawS (xs.take i) = r := ⟨_, rfl⟩
        obtain ⟨q, hq⟩ : ∃ r, rawS (xs.take (i + 2)) = r := ⟨_, rfl⟩
        rw [hx] at hs hw2
        rw [hx] at hcell hby
        rw [hr2, hq] at hs
        rw [hr2] at hr ⊢
        have HC := Aside0.mk (rCarry (r + sumW false [x]) w (by omega))
        rw [hs] at HC
        have hsum : ((r + sumW false [x] : Nat) : Int) = (r : Int) + x * 256 := by omega
        rw [hsum] at HC
        have HQ := Aside0.mk hq
        have HI := Aside0.mk hi
        have hi1 : ¬ (i : Int) + 1 < (xs.length : Int) := by omega
        clear hs hw2 hx hr2 hq hsum hi hil
        go_wp2_with fail
        refine HC.out.mono ?_
        rintro e w2 ⟨rfl, rfl⟩
        go_wp2_with fail
        go_roundg (gk - 1)
        case measure => omega
        case rel =>
          have := HI.out
          refine ⟨j + 1, by omega, by omega, ?_, ?_, rfl⟩
          · rw [show 2 * (j + 1) = i + 2 by omega]; go_num
          · rw [show 2 * (j + 1) = i + 2 by omega, HQ.out]
    · rw [List.take_of_length_le (by omega)] at hr ⊢
      obtain ⟨r, hr2⟩ : ∃ r, rawS xs = r := ⟨_, rfl⟩
      have HR := Aside0.mk hr2
      rw [hr2] at hr ⊢
      clear hr2 hi
      go_wp2_with fail
      go_ret
      rw [HR.out]
      exact ⟨rfl, rfl⟩
theorem rSum (A : Option Addr) (c : Nat) (xs : List Int) (w : World) (hx : Kd.C KB w A xs.length xs) (hb : Byt xs) (hl : xs.length ≤ 1099511627776) :
    Calls Try.prog 15 #[.slice A xs.length c] w fun e w' => e = .returned (.int .u16 (65535 - (rawS xs : Int))) ∧ w = w' := by
  have HR := Aside0.mk (rRaw A c xs w hx hb hl)
  have hle := rawS_le xs
  obtain ⟨r, hr⟩ : ∃ r, rawS xs = r := ⟨_, rfl⟩
  rw [hr] at HR hle
  rw [hr]
  clear hx hb hl hr
  go_enter Try.func15, Try.ntmps15
  go_wp2_with fail
  refine HR.out.mono ?_
  rintro e w2 ⟨rfl, rfl⟩
  go_wp2_with fail
  go_ret
  exact ⟨rfl, rfl⟩
end Go.Proofs.Ytjoapafgpbmhkaa.Sum
