/- Contracts of sum.Raw, Sum, Check, added, Add, Change. -/
import Derived.Test.YtjoapafgpbmhkaaWrite07
set_option linter.unusedSimpArgs false
set_option linter.unusedVariables false
namespace Go.Proofs.Ytjoapafgpbmhkaa.Sum
open Go.RowKit Go.Proofs.YtjoapafgpbmhkaaW.PrintWords Go.Proofs.YtjoapafgpbmhkaaW.PrintLast Go.Proofs.YtjoapafgpbmhkaaW.PrintMore Go.Proofs.Ytjoapafgpbmhkaa.Lex Go.Proofs.Ytjoapafgpbmhkaa.Lib

theorem lowAt_mod (low : Bool) (n : Nat) : lowAt low n = (low != (n % 2 == 1)) := by
  induction n with
  | zero => cases low <;> rfl
  | succ n ih =>
    rw [show lowAt low (n + 1) = !(lowAt low n) from rfl, ih]
    rcases Nat.mod_two_eq_zero_or_one n with h | h
    · rw [h, show (n + 1) % 2 = 1 by omega]; cases low <;> rfl
    · rw [h, show (n + 1) % 2 = 0 by omega]; cases low <;> rfl
theorem wordsOf_append (low : Bool) (a b : List Int) : wordsOf low (a ++ b) = wordsOf low a ++ wordsOf (lowAt low a.length) b := by
  induction a generalizing low with
  | nil => rfl
  | cons c r ih => simp only [List.cons_append, wordsOf, List.length_cons, ih, lowAt, lowAt_succ]
theorem sumW_append (a b : List Int) : sumW false (a ++ b) = sumW false a + sumW (a.length % 2 == 1) b := by
  unfold sumW
  rw [wordsOf_append, List.map_append, List.sum_append, lowAt_mod]
  simp
/-- the raw sum of bytes -/
def rawS (all : List Int) : Nat := carry (sumW false all)
theorem rawS_le (all : List Int) : rawS all ≤ 65535 := carry_le _
theorem rawS_snoc (a b : List Int) : carry (rawS a + sumW (a.length % 2 == 1) b) = rawS (a ++ b) := by
  unfold rawS
  rw [carry_add, sumW_append]
def Byt (xs : List Int) : Prop := ∀ x ∈ xs, 0 ≤ x ∧ x ≤ 255

set_option maxHeartbeats 2000000 in
theorem sRaw (A : Option Addr) (c : Nat) (l : List (List Int)) (w : World) (hx : Kd.C KBB w A l.length l) (hb : ∀ xs ∈ l, Byt xs) (hl : (flat l).length ≤ 1099511627776) :
    Calls Try.prog 12 #[.slice A l.length c] w fun e w' => e = .returned (.int .u16 (rawS (flat l))) ∧ Below w.heap.size w w' := by
  have HX := Aside0.mk hx
  have hm := hx.2.1
  clear hx
  go_enter Try.func12, Try.ntmps12
  go_wp2_with fail
  refine (new w).mono ?_
  rintro e w1 ⟨rfl, ha, hb1⟩
  have HA := Aside0.mk ha
  have HB := Aside0.mk hb1
  clear ha hb1
  go_wp2_with fail
  go_loopg [9] l.length (fun gk s9 w' => ∃ k : Nat, k ≤ l.length ∧ l.length - k ≤ gk ∧ s9 = .int .i64 k ∧ Aside0 (Ad w.heap.size w' (rawS (flat (l.take k))) (flat (l.take k)).length) ∧ Aside0 (Below w.heap.size w w'))
  case atStart => exact ⟨0, by omega, by omega, rfl, HA, HB⟩
  case round =>
    clear HA HB
    obtain ⟨k, hk, hgk, rfl, HA, HB⟩ := hrel
    by_cases hlt : k < l.length
    · obtain ⟨b, o, A0, c0, rfl, hcellw, hc0, hCw⟩ := C_row HX.out k hlt
      have hcell := pw_cell_below HB.out hcellw
      have hmem : l.getD k [] ∈ l := by rw [List.getD_eq_getElem?_getD, List.getElem?_eq_getElem hlt]; exact List.getElem_mem hlt
      have hby := hb _ hmem
      have hft := flat_take l k hlt
      have hle1 := flat_le l (k + 1)
      obtain ⟨y, hy⟩ : ∃ y, l.getD k [] = y := ⟨_, rfl⟩
      rw [hy] at hcell hcellw hc0 hCw hby hft
      rw [hft, List.length_append] at hle1
      have hlt0 : 0 < y.length → ∀ a, A0 = some a → a.block ≠ w.heap.size := fun h0 a ha => by
        obtain ⟨b2, o2, e2, hc2⟩ := C_byte hCw 0 h0
        rw [ha] at e2
        injection e2 with e2
        have := World.block_lt_of_cell? w _ hc2
        subst e2
        show b2 ≠ w.heap.size
        simp at this
        omega
      have HW := Aside0.mk (aWrite w.heap.size _ _ A0 c0 y wr HA.out (rawS_le _) (Kd.C_below hCw HB.out) hby hlt0 (by omega) (by omega))
      have HF := Aside0.mk hft
      clear hCw hcellw hby hmem hy hft hle1 hlt0
      go_wp2_with fail
      refine HW.out.mono ?_
      rintro e w2 ⟨rfl, ha, hbt⟩
      have HA2 := Aside0.mk ha
      have HB2 := Aside0.mk (HB.out.trans (hbt.below HB.out.size (fun j hj e => by have : j = w.heap.size := e; omega)))
      clear ha hbt HW HA HB
      go_wp2_with fail
      go_roundg (gk - 1)
      case measure => omega
      case rel => exact ⟨k + 1, by omega, by omega, by go_num, ⟨by rw [HF.out, ← rawS_snoc, List.length_append]; exact HA2.out⟩, HB2⟩
    · obtain rfl : k = l.length := by omega
      have HR := Aside0.mk (aRaw _ _ _ wr HA.out (rawS_le _))
      rw [List.take_length] at HR
      go_wp2_with fail
      refine HR.out.mono ?_
      rintro e w2 ⟨rfl, hb2⟩
      go_wp2_with fail
      go_ret
      exact ⟨rfl, HB.out.trans (hb2.mono HB.out.size)⟩
theorem xor16 (r : Nat) (hr : r ≤ 65535) : 65535 ^^^ r = 65535 - r := by
  apply Nat.eq_of_testBit_eq
  intro i
  have h1 : (65535 : Nat) = 2 ^ 16 - 1 := rfl
  have h2 : 65535 - r = 2 ^ 16 - (r + 1) := by omega
  rw [Nat.testBit_xor, h2, Nat.testBit_two_pow_sub_succ (by omega)]
  conv => lhs; lhs; rw [h1, Nat.testBit_two_pow_sub_one]
  rcases Nat.lt_or_ge i 16 with h | h
  · simp [h]
  · have h3 : r < 2 ^ i := Nat.lt_of_lt_of_le (by omega : r < 2 ^ 16) (Nat.pow_le_pow_right (by omega) h)
    have h4 : r.testBit i = false := Nat.testBit_lt_two_pow h3
    simp [Nat.not_lt.2 h, h4]
theorem not16 (r : Nat) (hr : r ≤ 65535) : bits .xor .u16 IntKind.u16.max (r : Int) = 65535 - (r : Int) := by
  have h : bits .xor .u16 ((65535 : Nat) : Int) (r : Int) = ((65535 ^^^ r : Nat) : Int) := u16_xor_nat 65535 r (by decide) (by omega)
  rw [xor16 r hr] at h
  have h2 : IntKind.u16.max = ((65535 : Nat) : Int) := by decide
  rw [h2, h]
  omega
theorem sSum (A : Option Addr) (c : Nat) (l : List (List Int)) (w : World) (hx : Kd.C KBB w A l.length l) (hb : ∀ xs ∈ l, Byt xs) (hl : (flat l).length ≤ 1099511627776) :
    Calls Try.prog 14 #[.slice A l.length c] w fun e w' => e = .returned (.int .u16 (65535 - (rawS (flat l) : Int))) ∧ Below w.heap.size w w' := by
  have HR := Aside0.mk (sRaw A c l w hx hb hl)
  have hle := rawS_le (flat l)
  obtain ⟨r, hr⟩ : ∃ r, rawS (flat l) = r := ⟨_, rfl⟩
  rw [hr] at HR hle
  rw [hr]
  clear hx hb hl hr
  go_enter Try.func14, Try.ntmps14
  go_wp2_with fail
  refine HR.out.mono ?_
  rintro e w2 ⟨rfl, hb2⟩
  go_wp2_with fail
  go_ret
  exact ⟨by rw [← not16 r hle]; rfl, hb2⟩
theorem sCheck (A : Option Addr) (c : Nat) (l : List (List Int)) (w : World) (hx : Kd.C KBB w A l.length l) (hb : ∀ xs ∈ l, Byt xs) (hl : (flat l).length ≤ 1099511627776) :
    Calls Try.prog 16 #[.slice A l.length c] w fun e w' => e = .returned (.bool (decide (rawS (flat l) = 65535))) ∧ Below w.heap.size w w' := by
  have HR := Aside0.mk (sRaw A c l w hx hb hl)
  obtain ⟨r, hr⟩ : ∃ r, rawS (flat l) = r := ⟨_, rfl⟩
  rw [hr] at HR
  rw [hr]
  clear hx hb hl hr
  go_enter Try.func16, Try.ntmps16
  go_wp2_with fail
  refine HR.out.mono ?_
  rintro e w2 ⟨rfl, hb2⟩
  go_wp2_with fail
  go_ret
  refine ⟨?_, hb2⟩
  show Ending.returned (Value.bool ((r : Int) == 65535)) = _
  by_cases h : r = 65535
  · subst h; rfl
  · rw [decide_eq_false h, show ((r : Int) == 65535) = false by simpa using (by omega : ¬ (r : Int) = 65535)]

abbrev K16 : Kd Int := Kd.int .u16
theorem C_u16 {w : World} {A : Option Addr} {n : Nat} {xs : List Int} (h : Kd.C K16 w A n xs) (k : Nat) (hk : k < n) : ∃ b o, A = some ⟨b, o, none⟩ ∧ w.cell? ⟨b, o + k, none⟩ = some (.int .u16 (xs.getD k 0)) := by
  obtain ⟨b, o, e⟩ := C_addr (by decide) h (by omega)
  obtain ⟨ad, c0, e0, hc1, hK, hc2⟩ := ReadsRow.get_ h 0 k (by omega) (by omega)
  have hK' : c0 = [.int .u16 (xs.getD k 0)] := hK
  subst hK'
  have h1 := hc2 0 _ rfl
  have h2 : w.cell? (ad.add k) = some (.int .u16 (xs.getD k 0)) := by simpa [Kd.int, Kd.scalar] using h1
  rw [e0] at e
  injection e with e
  subst e
  rw [add_none] at h2
  exact ⟨b, o, e0, h2⟩
def sum16 (l : List Int) : Nat := (l.map Int.toNat).sum
theorem sum16_take (l : List Int) (k : Nat) (hk : k < l.length) : sum16 (l.take (k + 1)) = sum16 (l.take k) + (l.getD k 0).toNat := by
  unfold sum16
  rw [List.take_succ_eq_append_getElem hk, List.map_append, List.sum_append, List.getD_eq_getElem?_getD, List.getElem?_eq_getElem hk]
  simp
set_option maxHeartbeats 2000000 in
theorem added (A : Option Addr) (c : Nat) (l : List Int) (w : World) (hx : Kd.C K16 w A l.length l) (hb : ∀ x ∈ l, 0 ≤ x ∧ x ≤ 65535) (hl : l.length ≤ 1000) :
    Calls Try.prog 37 #[.slice A l.length c] w fun e w' => e = .returned (.int .u16 (carry (sum16 l))) ∧ Below w.heap.size w w' := by
  have HX := Aside0.mk hx
  clear hx
  go_enter Try.func37, Try.ntmps37
  go_wp2_with fail
  go_loopg [8] l.length (fun gk s8 w' => ∃ k : Nat, k ≤ l.length ∧ l.length - k ≤ gk ∧ s8 = .int .i64 k ∧ Aside0 (Ob w.heap.size w' [.int .u64 (sum16 (l.take k))]) ∧ sum16 (l.take k) ≤ 65535 * k ∧ Aside0 (Below w.heap.size w w'))
  case atStart => exact ⟨0, by omega, by omega, rfl, ⟨Ob.new w _ _ rfl _⟩, by simp [sum16], ⟨below_alloc (Below.refl _ _) _⟩⟩
  case round =>
    obtain ⟨k, hk, hgk, rfl, HO, hle, HB⟩ := hrel
    obtain ⟨q0, f0⟩ := HO.out 0 _ rfl
    by_cases hlt : k < l.length
    · obtain ⟨b, o, rfl, hcell⟩ := C_u16 (Kd.C_below HX.out HB.out) k hlt
      have hby := hb (l.getD k 0) (by rw [List.getD_eq_getElem?_getD, List.getElem?_eq_getElem hlt]; exact List.getElem_mem hlt)
      have hft := sum16_take l k hlt
      obtain ⟨y, hy⟩ : ∃ y, l.getD k 0 = y := ⟨_, rfl⟩
      rw [hy] at hcell hby hft
      have hwr : IntKind.u64.wrap ((sum16 (l.take k) : Int) + IntKind.u64.wrap y) = ((sum16 (l.take (k + 1)) : Nat) : Int) := by rw [IntKind.wrap_u64, IntKind.wrap_u64, hft]; omega
      have HR := Aside0.mk hwr
      have hle2 : sum16 (l.take (k + 1)) ≤ 65535 * (k + 1) := by omega
      have H2 := Aside0.mk (HO.out.set 0 (by simp) (.int .u64 (sum16 (l.take (k + 1)))))
      obtain ⟨u, hu⟩ : ∃ u, sum16 (l.take k) = u := ⟨_, rfl⟩
      obtain ⟨v, hv⟩ : ∃ v, sum16 (l.take (k + 1)) = v := ⟨_, rfl⟩
      rw [hu] at q0 HR
      rw [hv] at HR H2
      have HV := Aside0.mk hv
      clear hy hwr hft hu hv HO hle hby
      go_wp2
      go_roundg (gk - 1)
      case measure => omega
      case rel =>
        refine ⟨k + 1, by omega, by omega, by go_num, ⟨?_⟩, hle2, ⟨HB.out.setCell (p := ⟨w.heap.size, 0, none⟩) (Nat.le_refl _) _⟩⟩
        rw [HR.out, HV.out]
        exact H2.out
    · obtain rfl : k = l.length := by omega
      rw [List.take_length] at q0 hle
      go_wp2_with fail
      refine (raw _ _ (by omega)).mono ?_
      rintro e w2 ⟨rfl, hb2⟩
      go_wp2_with fail
      go_ret
      exact ⟨rfl, HB.out.trans (hb2.mono HB.out.size)⟩
theorem C16_lit (w : World) (xs : List Int) (a : Array Value) (ha : a = (xs.map (Value.int .u16)).toArray) (t : Nat) (hn : xs.length ≤ 1000) : Kd.C K16 (w.alloc (.cells a t)) (some ⟨w.heap.size, 0, none⟩) xs.length xs := by
  subst ha
  refine ⟨rfl, by omega, fun _ => ⟨_, rfl, fun j x hj => ⟨[.int .u16 x], rfl, rfl, fun i u hi => ?_⟩⟩⟩
  match i, hi with
  | 0, hi =>
    simp only [List.getElem?_cons_zero, Option.some.injEq] at hi
    subst hi
    rw [add_none, World.cell?_alloc_at _ _ _ _ rfl]
    show ((xs.map (Value.int .u16)).toArray)[0 + (j * 1 + 0)]? = _
    rw [Nat.mul_one, Nat.add_zero, Nat.zero_add]
    simp [hj]
theorem add (a b : Int) (w : World) (ha : 0 ≤ a ∧ a ≤ 65535) (hb : 0 ≤ b ∧ b ≤ 65535) : Calls Try.prog 22 #[.int .u16 a, .int .u16 b] w fun e w' => e = .returned (.int .u16 (carry (sum16 [a, b]))) ∧ Below w.heap.size w w' := by
  have HA := Aside0.mk (added (some ⟨w.heap.size, 0, none⟩) 2 [a, b] _ (C16_lit w [a, b] #[.int .u16 a, .int .u16 b] rfl 27 (by simp)) (by intro x hx; simp at hx; rcases hx with rfl | rfl <;> omega) (by simp))
  go_enter Try.func22, Try.ntmps22
  go_wp2_with fail
  refine HA.out.mono ?_
  rintro e w2 ⟨rfl, hb2⟩
  go_wp2_with fail
  go_ret
  exact ⟨rfl, (below_alloc (Below.refl _ _) _).trans (hb2.mono (by simp))⟩
theorem change (a b c : Int) (w : World) (ha : 0 ≤ a ∧ a ≤ 65535) (hb : 0 ≤ b ∧ b ≤ 65535) (hc : 0 ≤ c ∧ c ≤ 65535) : Calls Try.prog 24 #[.int .u16 a, .int .u16 b, .int .u16 c] w fun e w' => e = .returned (.int .u16 (65535 - (carry (sum16 [65535 - a, 65535 - b, c]) : Int))) ∧ Below w.heap.size w w' := by
  have n1 : bits .xor .u16 IntKind.u16.max a = 65535 - a := by have := not16 a.toNat (by omega); rwa [Int.toNat_of_nonneg ha.1] at this
  have n2 : bits .xor .u16 IntKind.u16.max b = 65535 - b := by have := not16 b.toNat (by omega); rwa [Int.toNat_of_nonneg hb.1] at this
  have n3 := not16 (carry (sum16 [65535 - a, 65535 - b, c])) (carry_le _)
  have HA := Aside0.mk (added (some ⟨w.heap.size, 0, none⟩) 3 [65535 - a, 65535 - b, c] _ (C16_lit w [65535 - a, 65535 - b, c] #[.int .u16 (65535 - a), .int .u16 (65535 - b), .int .u16 c] rfl 27 (by simp)) (by intro x hx; simp at hx; rcases hx with rfl | rfl | rfl <;> omega) (by simp))
  obtain ⟨r, hr⟩ : ∃ r, carry (sum16 [65535 - a, 65535 - b, c]) = r := ⟨_, rfl⟩
  rw [hr] at n3 HA
  rw [hr]
  clear hr ha hb hc
  go_enter Try.func24, Try.ntmps24
  go_wp2_with fail
  refine HA.out.mono ?_
  rintro e w2 ⟨rfl, hb2⟩
  go_wp2_with fail
  go_ret
  exact ⟨rfl, (below_alloc (Below.refl _ _) _).trans (hb2.mono (by simp))⟩
end Go.Proofs.Ytjoapafgpbmhkaa.Sum
