/- SHA-1 in plain Lean: words, the schedule, the rounds, the tail; what the printed functions make of them. -/
import Derived.Test.YtfeohojpjncgaaaPr01
import Derived.Test.YtfeohojpjncgaaaLibB0
set_option linter.unusedSimpArgs false
set_option linter.unusedVariables false
namespace Go.Proofs.Ytfeohojpjncgaaa.Sha
open Go.RowKit Go.Proofs.YtfeohojpjncgaaaW.PrintWords Go.Proofs.YtfeohojpjncgaaaW.PrintLast Go.Proofs.YtfeohojpjncgaaaW.PrintMore Go.Proofs.Ytfeohojpjncgaaa.PSha1Plays

/-- a word -/
def W32 (x : Int) : Prop := 0 ≤ x ∧ x ≤ 4294967295
def rotN (n x : Nat) : Nat := (x % 2 ^ (32 - n)) * 2 ^ n + x / 2 ^ (32 - n)
/-- a word, rolled -/
def rot (n : Nat) (x : Int) : Int := ((rotN n x.toNat : Nat) : Int)
theorem rotN_lt (n x : Nat) (hn : n ≤ 32) (hx : x < 4294967296) : rotN n x < 4294967296 := by
  unfold rotN
  have hp : 2 ^ (32 - n) * 2 ^ n = 4294967296 := by rw [← Nat.pow_add, Nat.sub_add_cancel hn]
  have h0 : 0 < 2 ^ (32 - n) := Nat.two_pow_pos _
  have h1 : x % 2 ^ (32 - n) + 1 ≤ 2 ^ (32 - n) := Nat.mod_lt _ h0
  have h2 := Nat.mul_le_mul_right (2 ^ n) h1
  have h3 : x / 2 ^ (32 - n) < 2 ^ n := by
    rw [Nat.div_lt_iff_lt_mul h0, Nat.mul_comm, hp]; exact hx
  rw [Nat.add_mul, hp] at h2
  omega
theorem rot_w (n : Nat) (x : Int) (hn : n ≤ 32) (hx : W32 x) : W32 (rot n x) := by
  have := rotN_lt n x.toNat hn (by unfold W32 at hx; omega)
  unfold rot W32
  omega
theorem rotN_succ (n x : Nat) (hn : n < 32) (hx : x < 4294967296) : rotN 1 (rotN n x) = rotN (n + 1) x := by
  obtain ⟨k, hk⟩ : ∃ k, 32 - n = k + 1 := ⟨31 - n, by omega⟩
  have hk2 : 32 - (n + 1) = k := by omega
  unfold rotN
  have p1 : 2 ^ (k + 1) = 2 ^ k * 2 := Nat.pow_succ _ _
  have p2 : 2 ^ (n + 1) = 2 ^ n * 2 := Nat.pow_succ _ _
  rw [hk, hk2, p1, p2]
  obtain ⟨p, hp⟩ : ∃ p, 2 ^ k = p := ⟨_, rfl⟩
  obtain ⟨m, hm⟩ : ∃ m, 2 ^ n = m := ⟨_, rfl⟩
  have hpm : p * m = 2147483648 := by rw [← hp, ← hm, ← Nat.pow_add, show k + n = 31 by omega]
  have hp0 : 0 < p := by rw [← hp]; exact Nat.two_pow_pos _
  rw [hp, hm]
  obtain ⟨q, hq⟩ : ∃ q, x / (p * 2) = q := ⟨_, rfl⟩
  obtain ⟨s, hs⟩ : ∃ s, x % (p * 2) = s := ⟨_, rfl⟩
  have hx2 : x = p * 2 * q + s := by rw [← hq, ← hs]; exact (Nat.div_add_mod x (p * 2)).symm
  have hs2 : s < p * 2 := by rw [← hs]; exact Nat.mod_lt _ (by omega)
  have hqm : q < m := by
    rw [← hq]
    refine (Nat.div_lt_iff_lt_mul (by omega)).2 ?_
    have : m * (p * 2) = 4294967296 := by rw [← Nat.mul_assoc, Nat.mul_comm m p, hpm]
    omega
  rw [hq, hs]
  have hb : ∃ b r, b < 2 ∧ r < p ∧ s = b * p + r := by
    by_cases h : s < p
    · exact ⟨0, s, by omega, h, by omega⟩
    · exact ⟨1, s - p, by omega, by omega, by omega⟩
  obtain ⟨b, r, hb2, hr, rfl⟩ := hb
  have e1 : x / p = 2 * q + b := by
    rw [hx2]
    rw [show p * 2 * q + (b * p + r) = p * (2 * q + b) + r by rw [Nat.mul_add, Nat.mul_assoc, Nat.mul_comm b p]; omega]
    rw [Nat.mul_add_div hp0, Nat.div_eq_of_lt hr]
    omega
  have e2 : x % p = r := by
    rw [hx2]
    rw [show p * 2 * q + (b * p + r) = p * (2 * q + b) + r by rw [Nat.mul_add, Nat.mul_assoc, Nat.mul_comm b p]; omega]
    rw [Nat.mul_add_mod, Nat.mod_eq_of_lt hr]
  rw [e1, e2]
  have e3 : (b * p + r) * m = b * 2147483648 + r * m := by rw [Nat.add_mul, Nat.mul_assoc, hpm]
  have e4 : (r + 1) * m ≤ p * m := Nat.mul_le_mul_right m hr
  rw [Nat.add_mul, hpm] at e4
  rw [e3]
  have e5 : r * (m * 2) = 2 * (r * m) := by rw [← Nat.mul_assoc, Nat.mul_comm]
  rw [e5]
  generalize r * m = z at *
  show (b * 2147483648 + z + q) % 2147483648 * 2 + (b * 2147483648 + z + q) / 2147483648 = 2 * z + (2 * q + b)
  omega
theorem rot_succ (n : Nat) (x : Int) (hn : n < 32) (hx : W32 x) : rot 1 (rot n x) = rot (n + 1) x := by
  unfold rot
  rw [Int.toNat_natCast, rotN_succ n _ hn (by unfold W32 at hx; omega)]
theorem rot_zero (x : Int) (hx : W32 x) : rot 0 x = x := by
  unfold rot rotN
  unfold W32 at hx
  have : x.toNat < 4294967296 := by omega
  show (((x.toNat % 4294967296) * 1 + x.toNat / 4294967296 : Nat) : Int) = x
  omega
theorem rot1_eq (x : Int) (hx : W32 x) : (((x * 2) % 4294967296) + ((Int.tdiv x 2147483648) % 4294967296)) % 4294967296 = rot 1 x := by
  unfold W32 at hx
  rw [Int.tdiv_eq_ediv_of_nonneg hx.1]
  obtain ⟨n, rfl⟩ := Int.eq_ofNat_of_zero_le hx.1
  unfold rot rotN
  rw [Int.toNat_natCast]
  show _ = (((n % 2147483648) * 2 + n / 2147483648 : Nat) : Int)
  omega
theorem roll_l (n : Nat) (x : Int) (hn : n ≤ 31) (hx : W32 x) : ∀ (k i : Nat), i ≤ n → n - i < k → pursuivantref01_Roll.l0 k (rot i x) (n : Int) (i : Int) = some (rot n x) := by
  intro k
  induction k with
  | zero => intro i h1 h2; omega
  | succ k ih =>
    intro i h1 h2
    unfold pursuivantref01_Roll.l0
    by_cases h : i < n
    · rw [if_pos (by omega), rot1_eq _ (rot_w i x (by omega) hx), rot_succ i x (by omega) hx]
      have e : wrap64 ((i : Int) + 1) = ((i + 1 : Nat) : Int) := by unfold wrap64; omega
      rw [e]
      exact ih (i + 1) (by omega) (by omega)
    · obtain rfl : i = n := by omega
      rw [if_neg (by omega)]
theorem roll_f (n : Nat) (x : Int) (hn : n ≤ 31) (hx : W32 x) : pursuivantref01_Roll.f 40 x (n : Int) = some (rot n x) := by
  have h := roll_l n x hn hx 40 0 (by omega) (by omega)
  rw [rot_zero x hx] at h
  exact h
theorem rot_lib (n : Nat) (hn : n = 1 ∨ n = 5 ∨ n = 30) (x : Int) (hx : W32 x) : bits_RotateLeft32.f x (n : Int) = some (rot n x) := by
  unfold W32 at hx
  have h1 : Go.bits .and .u64 (IntKind.u64.wrap (n : Int)) 31 = n := by rcases hn with rfl | rfl | rfl <;> decide
  have h2 : IntKind.u64.wrap (32 - (n : Int)) = 32 - n := by rcases hn with rfl | rfl | rfl <;> decide
  unfold bits_RotateLeft32.f
  rw [h1, h2, if_pos (by omega), if_pos (by rcases hn with rfl | rfl | rfl <;> decide)]
  congr 1
  unfold shl shr
  rw [IntKind.wrap_u32]
  have hw : ∀ n : Int, 0 ≤ n → n < 2 ^ 32 → IntKind.u32.wrap n = n := fun n h0 h1 => by rw [IntKind.wrap_u32]; omega
  obtain ⟨x, rfl⟩ := Int.eq_ofNat_of_zero_le hx.1
  rcases hn with rfl | rfl | rfl
  · show Go.bits .or .u32 ((x : Int) * 2 % 4294967296) ((x : Int) / 2147483648) = ((((x % 2147483648) * 2 + x / 2147483648 : Nat)) : Int)
    rw [bits_join .u32 32 (by decide) hw 1 _ _ (by omega) (by omega) (by omega) (by omega) (by omega) (by omega)]
    omega
  · show Go.bits .or .u32 ((x : Int) * 32 % 4294967296) ((x : Int) / 134217728) = ((((x % 134217728) * 32 + x / 134217728 : Nat)) : Int)
    rw [bits_join .u32 32 (by decide) hw 5 _ _ (by omega) (by omega) (by omega) (by omega) (by omega) (by omega)]
    omega
  · show Go.bits .or .u32 ((x : Int) * 1073741824 % 4294967296) ((x : Int) / 4) = ((((x % 4) * 1073741824 + x / 4 : Nat)) : Int)
    rw [bits_join .u32 32 (by decide) hw 30 _ _ (by omega) (by omega) (by omega) (by omega) (by omega) (by omega)]
    omega

/-! ### The roots -/
theorem root2 : pursuivantref01_root.f 40 2 = some 1518500249 := by decide +kernel
theorem root3 : pursuivantref01_root.f 40 3 = some 1859775393 := by decide +kernel
theorem root5 : pursuivantref01_root.f 40 5 = some 2400959708 := by decide +kernel
theorem root10 : pursuivantref01_root.f 40 10 = some 3395469782 := by decide +kernel

/-! ### Rounds -/
abbrev add (a b : Int) : Int := IntKind.u32.wrap (a + b)
abbrev xor (a b : Int) : Int := Go.bits .xor .u32 a b
abbrev and (a b : Int) : Int := Go.bits .and .u32 a b
abbrev or (a b : Int) : Int := Go.bits .or .u32 a b
theorem add_w (a b : Int) : W32 (add a b) := by unfold add W32; rw [IntKind.wrap_u32]; omega
theorem bits_w (op : BinOp) (a b : Int) : W32 (Go.bits op .u32 a b) := ⟨bits_lo_u32 op a b, bits_hi_u32 op a b⟩
structure St where
  a : Int
  b : Int
  c : Int
  d : Int
  e : Int
structure St.ok (s : St) : Prop where
  a : W32 s.a
  b : W32 s.b
  c : W32 s.c
  d : W32 s.d
  e : W32 s.e
def St.l (s : St) : List Int := [s.a, s.b, s.c, s.d, s.e]
abbrev St.v (s : St) : Value := .agg #[.int .u32 s.a, .int .u32 s.b, .int .u32 s.c, .int .u32 s.d, .int .u32 s.e]
/-- what a round does with three words, and its word -/
def fOf (i : Nat) (b c d : Int) : Int := if i < 20 then or (and b c) (and (4294967295 - b) d) else if i < 40 then xor (xor b c) d else if i < 60 then or (or (and b c) (and b d)) (and c d) else xor (xor b c) d
def kOf (i : Nat) : Int := if i < 20 then 1518500249 else if i < 40 then 1859775393 else if i < 60 then 2400959708 else 3395469782
def round (i : Nat) (w : Int) (s : St) : St := ⟨add (add (add (add (rot 5 s.a) (fOf i s.b s.c s.d)) s.e) (kOf i)) w, s.a, rot 30 s.b, s.c, s.d⟩
theorem round_ok (i : Nat) (w : Int) (s : St) (h : s.ok) : (round i w s).ok := ⟨add_w _ _, h.a, rot_w 30 _ (by decide) h.b, h.c, h.d⟩
def rounds (ws : List Int) (s : St) : Nat → St
  | 0 => s
  | n + 1 => round n (ws.getD n 0) (rounds ws s n)
theorem rounds_ok (ws : List Int) (s : St) (h : s.ok) (n : Nat) : (rounds ws s n).ok := by
  induction n with
  | zero => exact h
  | succ n ih => exact round_ok _ _ _ ih
/-- a word of four bytes -/
def word (bs : List Int) (i : Nat) : Int := bs.getD i 0 * 16777216 + bs.getD (i + 1) 0 * 65536 + bs.getD (i + 2) 0 * 256 + bs.getD (i + 3) 0
def words (bs : List Int) (n : Nat) : List Int := (List.range n).map (fun i => word bs (4 * i))
def nextW (ws : List Int) : Int := rot 1 (xor (xor (xor (ws.getD (ws.length - 3) 0) (ws.getD (ws.length - 8) 0)) (ws.getD (ws.length - 14) 0)) (ws.getD (ws.length - 16) 0))
def sched (ws : List Int) : Nat → List Int
  | 0 => ws
  | n + 1 => sched ws n ++ [nextW (sched ws n)]
def final (s t : St) : St := ⟨add s.a t.a, add s.b t.b, add s.c t.c, add s.d t.d, add s.e t.e⟩
/-- the state behind a block -/
def block (s : St) (bs : List Int) : St := final (rounds (sched (words bs 16) 64) s 80) s
theorem block_ok (s : St) (bs : List Int) : (block s bs).ok := ⟨add_w _ _, add_w _ _, add_w _ _, add_w _ _, add_w _ _⟩
def first : St := ⟨1732584193, 4023233417, 2562383102, 271733878, 3285377520⟩
theorem first_ok : first.ok := ⟨by unfold W32 first; decide, by unfold W32 first; decide, by unfold W32 first; decide, by unfold W32 first; decide, by unfold W32 first; decide⟩
theorem words_len (bs : List Int) (n : Nat) : (words bs n).length = n := by simp [words]
theorem sched_len (ws : List Int) (n : Nat) : (sched ws n).length = ws.length + n := by
  induction n with
  | zero => rfl
  | succ n ih => simp only [sched, List.length_append, ih]; simp; omega

/-! ### The tail -/
def tailZ (n : Nat) : Nat := (119 - n % 64) % 64
def lenB (n : Nat) : List Int := [((n * 8 / 72057594037927936 % 256 : Nat) : Int), ((n * 8 / 281474976710656 % 256 : Nat) : Int), ((n * 8 / 1099511627776 % 256 : Nat) : Int), ((n * 8 / 4294967296 % 256 : Nat) : Int), ((n * 8 / 16777216 % 256 : Nat) : Int), ((n * 8 / 65536 % 256 : Nat) : Int), ((n * 8 / 256 % 256 : Nat) : Int), ((n * 8 % 256 : Nat) : Int)]
def tail (n : Nat) : List Int := (128 :: List.replicate (tailZ n) 0) ++ lenB n
def byteAt (n i : Nat) : Int := ((n * 8 / 2 ^ (56 - 8 * i) % 256 : Nat) : Int)
theorem lenB_eq (n : Nat) : lenB n = [byteAt n 0, byteAt n 1, byteAt n 2, byteAt n 3, byteAt n 4, byteAt n 5, byteAt n 6, byteAt n 7] := by
  simp [lenB, byteAt]
theorem tail_len (n : Nat) : (tail n).length = 9 + tailZ n := by simp [tail, lenB]; omega
theorem wr64 (n : Int) (h : -1000000 ≤ n) (h2 : n ≤ 1000000) : wrap64 n = n := by unfold wrap64; omega
theorem shr_byte (n s : Nat) (hn : n ≤ 1152921504606846976) (hs : s ≤ 64) : shr .u64 (IntKind.u64.wrap (IntKind.u64.wrap (n : Int) * 8)) (s : Int) = ((n * 8 / 2 ^ s : Nat) : Int) := by
  have e1 : IntKind.u64.wrap (n : Int) = (n : Int) := by rw [IntKind.wrap_u64]; omega
  have e2 : IntKind.u64.wrap ((n : Int) * 8) = ((n * 8 : Nat) : Int) := by rw [IntKind.wrap_u64]; omega
  rw [e1, e2]
  unfold shr
  rw [Int.toNat_natCast, Nat.min_eq_left (show s ≤ IntKind.u64.bits from hs)]
  simp
theorem tail_step (k n i : Nat) (hi : i < 8) (hn : n ≤ 1152921504606846976) (xs : List Int) (hl : xs.length < 1000) : sha1_Tail.l0 (k + 1) (n : Int) xs (i : Int) = sha1_Tail.l0 k (n : Int) (xs ++ [byteAt n i]) ((i + 1 : Nat) : Int) := by
  conv => lhs; unfold sha1_Tail.l0
  have e1 : wrap64 (8 * (i : Int)) = ((8 * i : Nat) : Int) := by rw [wr64 _ (by omega) (by omega)]; omega
  have e2 : wrap64 (56 - ((8 * i : Nat) : Int)) = ((56 - 8 * i : Nat) : Int) := by rw [wr64 _ (by omega) (by omega)]; omega
  have e3 : wrap64 ((i : Int) + 1) = ((i + 1 : Nat) : Int) := by rw [wr64 _ (by omega) (by omega)]; omega
  rw [if_pos (by omega), e1, e2, if_pos (by omega), if_pos (by omega), shr_byte n _ hn (by omega), e3]
  congr 1
theorem tail_prog (k n : Nat) (hn : n ≤ 1152921504606846976) : sha1_Tail.f (k + 10) (n : Int) = some (tail n, 0) := by
  unfold sha1_Tail.f
  rw [if_neg (by omega), decide_eq_false (by omega)]
  unfold sha1_Tail.j0
  dsimp only
  have e0 : Int.tmod (n : Int) 64 = ((n % 64 : Nat) : Int) := by rw [Int.tmod_eq_emod_of_nonneg (by omega)]; omega
  have e1 : wrap64 (119 - ((n % 64 : Nat) : Int)) = ((119 - n % 64 : Nat) : Int) := by rw [wr64 _ (by omega) (by omega)]; omega
  have e2 : Int.tmod ((119 - n % 64 : Nat) : Int) 64 = (tailZ n : Int) := by rw [Int.tmod_eq_emod_of_nonneg (by omega)]; unfold tailZ; omega
  have hz : tailZ n < 64 := Nat.mod_lt _ (by decide)
  rw [if_neg (by decide), e0, e1, e2, Int.toNat_natCast]
  simp only [Option.bind_some]
  rw [if_pos (by omega), if_pos (by simp; omega)]
  have hl : ∀ ys : List Int, ys.length ≤ 8 → ((([128] : List Int) ++ List.replicate (tailZ n) 0) ++ ys).length < 1000 := fun ys h => by simp; omega
  show sha1_Tail.l0 (k + 9) (n : Int) ([128] ++ List.replicate (tailZ n) 0) ((0 : Nat) : Int) = _
  rw [tail_step (k + 8) n 0 (by decide) hn _ (by simp; omega), tail_step (k + 7) n 1 (by decide) hn _ (by simp; omega), tail_step (k + 6) n 2 (by decide) hn _ (by simp; omega), tail_step (k + 5) n 3 (by decide) hn _ (by simp; omega), tail_step (k + 4) n 4 (by decide) hn _ (by simp; omega), tail_step (k + 3) n 5 (by decide) hn _ (by simp; omega), tail_step (k + 2) n 6 (by decide) hn _ (by simp; omega), tail_step (k + 1) n 7 (by decide) hn _ (by simp; omega)]
  unfold sha1_Tail.l0
  rw [if_neg (by decide), tail, lenB_eq]
  simp
theorem tail_bad (k : Nat) (n : Int) (hn : n < 0 ∨ 1152921504606846976 < n) : sha1_Tail.f (k + 1) n = some ([], 2) := by
  unfold sha1_Tail.f
  by_cases h : n < 0
  · rw [if_pos h]
    unfold sha1_Tail.j0
    dsimp only
    rw [if_pos rfl]
  · rw [if_neg h, decide_eq_true (by omega)]
    unfold sha1_Tail.j0
    dsimp only
    rw [if_pos rfl]
theorem rtail_step (k n i : Nat) (hi : i < 8) (hn : n ≤ 1152921504606846976) (xs : List Int) (hl : xs.length < 1000) : pursuivantref01_Tail.l1 (k + 1) xs (IntKind.u64.wrap (IntKind.u64.wrap (n : Int) * 8)) ((7 : Int) - i) = pursuivantref01_Tail.l1 k (xs ++ [byteAt n i]) (IntKind.u64.wrap (IntKind.u64.wrap (n : Int) * 8)) ((7 : Int) - ((i + 1 : Nat) : Int)) := by
  conv => lhs; unfold pursuivantref01_Tail.l1
  have e1 : wrap64 (8 * ((7 : Int) - i)) = ((56 - 8 * i : Nat) : Int) := by rw [wr64 _ (by omega) (by omega)]; omega
  have e2 : IntKind.u64.wrap ((56 - 8 * i : Nat) : Int) = ((56 - 8 * i : Nat) : Int) := by rw [IntKind.wrap_u64]; omega
  have e3 : wrap64 (((7 : Int) - i) - 1) = (7 : Int) - ((i + 1 : Nat) : Int) := by rw [wr64 _ (by omega) (by omega)]; omega
  rw [if_pos (by omega), e1, e2, if_pos (by omega), if_pos (by omega), shr_byte n _ hn (by omega), e3]
  have e4 : Int.tmod ((n * 8 / 2 ^ (56 - 8 * i) : Nat) : Int) 256 % 256 = byteAt n i := by
    unfold byteAt
    generalize n * 8 / 2 ^ (56 - 8 * i) = q
    rw [Int.tmod_eq_emod_of_nonneg (Int.natCast_nonneg _)]
    omega
  rw [e4]
theorem rtail_end (n k : Nat) (hn : n ≤ 1152921504606846976) : pursuivantref01_Tail.l1 (k + 9) (128 :: List.replicate (tailZ n) 0) (IntKind.u64.wrap (IntKind.u64.wrap (n : Int) * 8)) 7 = some (tail n) := by
  have hz : tailZ n < 64 := Nat.mod_lt _ (by decide)
  show pursuivantref01_Tail.l1 (k + 9) (128 :: List.replicate (tailZ n) 0) (IntKind.u64.wrap (IntKind.u64.wrap (n : Int) * 8)) ((7 : Int) - ((0 : Nat) : Int)) = _
  rw [rtail_step (k + 8) n 0 (by decide) hn _ (by simp; omega), rtail_step (k + 7) n 1 (by decide) hn _ (by simp; omega), rtail_step (k + 6) n 2 (by decide) hn _ (by simp; omega), rtail_step (k + 5) n 3 (by decide) hn _ (by simp; omega), rtail_step (k + 4) n 4 (by decide) hn _ (by simp; omega), rtail_step (k + 3) n 5 (by decide) hn _ (by simp; omega), rtail_step (k + 2) n 6 (by decide) hn _ (by simp; omega), rtail_step (k + 1) n 7 (by decide) hn _ (by simp; omega)]
  unfold pursuivantref01_Tail.l1
  rw [if_neg (by decide), tail, lenB_eq]
  simp
theorem rtail_l0 (n : Nat) (hn : n ≤ 1152921504606846976) : ∀ d j k : Nat, j + d = tailZ n → pursuivantref01_Tail.l0 (k + d + 10) (n : Int) (128 :: List.replicate j 0) = some (tail n) := by
  have hz : tailZ n < 64 := Nat.mod_lt _ (by decide)
  have hzd : tailZ n = (119 - n % 64) % 64 := rfl
  intro d
  induction d with
  | zero =>
    intro j k hj
    unfold pursuivantref01_Tail.l0
    have e : Int.tmod (wrap64 ((n : Int) + ((128 :: List.replicate j (0 : Int)).length : Int))) 64 = 56 := by
      have : wrap64 ((n : Int) + ((128 :: List.replicate j (0 : Int)).length : Int)) = (n : Int) + (j + 1) := by simp [wrap64]; omega
      rw [this, Int.tmod_eq_emod_of_nonneg (by omega)]
      omega
    rw [if_pos e, show j = tailZ n by omega]
    exact rtail_end n k hn
  | succ d ih =>
    intro j k hj
    unfold pursuivantref01_Tail.l0
    have e : ¬ Int.tmod (wrap64 ((n : Int) + ((128 :: List.replicate j (0 : Int)).length : Int))) 64 = 56 := by
      have : wrap64 ((n : Int) + ((128 :: List.replicate j (0 : Int)).length : Int)) = (n : Int) + (j + 1) := by simp [wrap64]; omega
      rw [this, Int.tmod_eq_emod_of_nonneg (by omega)]
      omega
    rw [if_neg e, if_pos (by simp; omega)]
    have h2 := ih (j + 1) k (by omega)
    rw [List.replicate_succ'] at h2
    exact h2
theorem rtail (n : Nat) (hn : n ≤ 1152921504606846976) : pursuivantref01_Tail.f (tailZ n + 10) (n : Int) = some (tail n) := by
  have h := rtail_l0 n hn (tailZ n) 0 0 (by omega)
  unfold pursuivantref01_Tail.f
  rw [Nat.zero_add] at h
  exact h
theorem tail_all (n : Nat) : (n + (tail n).length) % 64 = 0 := by
  rw [tail_len]
  unfold tailZ
  omega
end Go.Proofs.Ytfeohojpjncgaaa.Sha
