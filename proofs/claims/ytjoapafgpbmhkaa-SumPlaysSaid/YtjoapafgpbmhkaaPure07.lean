/- Sums: what is laid checks, parts in any order, a word that is changed. -/
import Derived.Test.YtjoapafgpbmhkaaLay07
import Derived.Test.YtjoapafgpbmhkaaRef07
set_option linter.unusedSimpArgs false
set_option linter.unusedVariables false
namespace Go.Proofs.Ytjoapafgpbmhkaa.Sum
open Go.RowKit Go.Proofs.YtjoapafgpbmhkaaW.PrintWords Go.Proofs.Ytjoapafgpbmhkaa.Lib

theorem set_two (xs : List Int) (i : Nat) (h : i + 2 ≤ xs.length) (a b : Int) : (xs.set i a).set (i + 1) b = xs.take i ++ ([a, b] ++ xs.drop (i + 2)) := by
  induction i generalizing xs with
  | zero =>
    match xs, h with
    | x :: y :: r, _ => rfl
  | succ i ih =>
    match xs, h with
    | x :: r, h =>
      have h2 := ih r (by simp only [List.length_cons] at h; omega)
      show x :: ((r.set i a).set (i + 1) b) = x :: (r.take i ++ ([a, b] ++ r.drop (i + 2)))
      rw [h2]
theorem sumW_three (p q : List Int) (a b : Int) (he : p.length % 2 = 0) (ha : 0 ≤ a) (hb : 0 ≤ b) : ((sumW false (p ++ ([a, b] ++ q)) : Nat) : Int) = sumW false p + sumW false q + (a * 256 + b) := by
  have h2 := sumW_two a b ha hb
  rw [sumW_append, show (p.length % 2 == 1) = false by rw [he]; rfl, sumW_append, show (([a, b] : List Int).length % 2 == 1) = false by simp]
  omega
theorem carry_fill (n : Nat) : carry (n + (65535 - carry n)) = 65535 := by
  unfold carry
  split
  · rename_i h; subst h; rfl
  · rw [if_neg (by omega)]
    omega
theorem parts_two (xs : List Int) (i : Nat) (h : i + 2 ≤ xs.length) : xs = xs.take i ++ ([xs.getD i 0, xs.getD (i + 1) 0] ++ xs.drop (i + 2)) := by
  have h1 := take_two xs i (by omega)
  conv => lhs; rw [← List.take_append_drop (i + 2) xs, h1]
  rw [List.append_assoc]
theorem nought_eq (xs : List Int) (i : Nat) (h : i + 2 ≤ xs.length) : nought xs i = xs.take i ++ ([0, 0] ++ xs.drop (i + 2)) := set_two xs i h 0 0
theorem nought_len (xs : List Int) (i : Nat) : (nought xs i).length = xs.length := by simp [nought]
theorem layOf_len (xs : List Int) (i : Nat) : (layOf xs i).length = xs.length := by simp [layOf, nought]
theorem layOf_eq (xs : List Int) (i : Nat) (h : i + 2 ≤ xs.length) : layOf xs i = xs.take i ++ ([(((65535 - rawS (nought xs i)) / 256 % 256 : Nat) : Int), (((65535 - rawS (nought xs i)) % 256 : Nat) : Int)] ++ xs.drop (i + 2)) := by
  unfold layOf
  rw [set_two _ _ (by rw [nought_len]; exact h)]
  generalize rawS (nought xs i) = r
  rw [nought_eq xs i h]
  have hl : (xs.take i).length = i := by rw [List.length_take]; omega
  congr 1
  · rw [List.take_append_of_le_length (by omega), List.take_of_length_le (by omega)]
  · congr 1
    rw [List.drop_append, hl, List.drop_of_length_le (by omega), List.nil_append]
    rw [show i + 2 - i = 2 by omega]
    rfl
/-- what is laid checks -/
theorem raw_lay (xs : List Int) (i : Nat) (h : i + 2 ≤ xs.length) (he : i % 2 = 0) : rawS (layOf xs i) = 65535 := by
  have hl : (xs.take i).length % 2 = 0 := by rw [List.length_take]; omega
  rw [layOf_eq xs i h]
  have hn := sumW_three (xs.take i) (xs.drop (i + 2)) 0 0 hl (by omega) (by omega)
  rw [← nought_eq xs i h] at hn
  have hle := rawS_le (nought xs i)
  have hs := sumW_three (xs.take i) (xs.drop (i + 2)) (((65535 - rawS (nought xs i)) / 256 % 256 : Nat) : Int) (((65535 - rawS (nought xs i)) % 256 : Nat) : Int) hl (by omega) (by omega)
  have hc := carry_fill (sumW false (nought xs i))
  have hraw : rawS (nought xs i) = carry (sumW false (nought xs i)) := rfl
  rw [hraw] at hs hle ⊢
  show carry (sumW false _) = 65535
  generalize carry (sumW false (nought xs i)) = c at *
  have e : sumW false (xs.take i ++ ([(((65535 - c) / 256 % 256 : Nat) : Int), (((65535 - c) % 256 : Nat) : Int)] ++ xs.drop (i + 2))) = sumW false (nought xs i) + (65535 - c) := by omega
  rw [e]
  exact hc
theorem byt_layOf (xs : List Int) (i : Nat) (hb : Byt xs) : Byt (layOf xs i) := by
  intro x hx
  unfold layOf nought at hx
  rcases List.mem_or_eq_of_mem_set hx with hx | rfl
  · rcases List.mem_or_eq_of_mem_set hx with hx | rfl
    · rcases List.mem_or_eq_of_mem_set hx with hx | rfl
      · rcases List.mem_or_eq_of_mem_set hx with hx | rfl
        · exact hb x hx
        · decide
      · decide
    · omega
  · omega
theorem byt_nought (xs : List Int) (i : Nat) (hb : Byt xs) : Byt (nought xs i) := by
  intro x hx
  unfold nought at hx
  rcases List.mem_or_eq_of_mem_set hx with hx | rfl
  · rcases List.mem_or_eq_of_mem_set hx with hx | rfl
    · exact hb x hx
    · decide
  · decide
/-- parts of an even length, in any order -/
theorem raw_pair (a b : List Int) (ha : a.length % 2 = 0) : rawS (flat [a, b]) = carry (sumW false a + sumW false b) := by
  unfold rawS
  rw [show flat [a, b] = a ++ b by simp [flat], sumW_append, show (a.length % 2 == 1) = false by rw [ha]; rfl]
theorem raw_turn (a b : List Int) (ha : a.length % 2 = 0) (hb : b.length % 2 = 0) : rawS (flat [a, b]) = rawS (flat [b, a]) := by
  rw [raw_pair a b ha, raw_pair b a hb, Nat.add_comm]
theorem raw_one (a : List Int) : rawS (flat [a]) = carry (sumW false a) := by unfold rawS; rw [show flat [a] = a by simp [flat]]
theorem raw_sum (a b : List Int) (ha : a.length % 2 = 0) : rawS (flat [a, b]) = carry (sum16 [(rawS (flat [a]) : Int), (rawS (flat [b]) : Int)]) := by
  rw [raw_pair a b ha, raw_one, raw_one]
  have e : sum16 [(carry (sumW false a) : Int), (carry (sumW false b) : Int)] = carry (sumW false a) + carry (sumW false b) := by simp [sum16]
  rw [e, carry_add, Nat.add_comm (sumW false a) (carry _), carry_add, Nat.add_comm]
theorem carry_mod (x y : Nat) (h : x % 65535 = y % 65535) : carry x = carry y ∨ (x = 0 ∧ carry y = 65535) ∨ (y = 0 ∧ carry x = 65535) := by
  unfold carry
  split
  · split
    · exact .inl rfl
    · rename_i h1 h2; subst h1; right; left; exact ⟨rfl, by omega⟩
  · split
    · rename_i h1 h2; subst h2; right; right; exact ⟨rfl, by omega⟩
    · left; omega
/-- a word that is changed -/
theorem change_anew (xs : List Int) (i : Nat) (h : i + 2 ≤ xs.length) (he : i % 2 = 0) (hb : Byt xs) (wd : Int) (hw : 0 ≤ wd ∧ wd ≤ 65535) (C A : Int)
    (hC : C = 65535 - (carry (sum16 [65535 - (65535 - (rawS xs : Int)), 65535 - (xs.getD i 0 * 256 + xs.getD (i + 1) 0), wd]) : Int))
    (hA : A = 65535 - (rawS ((xs.set i (wd / 256)).set (i + 1) (wd % 256)) : Int)) : C = A ∨ (C = 0 ∧ A = 65535) ∨ (C = 65535 ∧ A = 0) := by
  have hl : (xs.take i).length % 2 = 0 := by rw [List.length_take]; omega
  have h0 := hb (xs.getD i 0) (by rw [List.getD_eq_getElem?_getD, List.getElem?_eq_getElem (by omega)]; exact List.getElem_mem _)
  have h1 := hb (xs.getD (i + 1) 0) (by rw [List.getD_eq_getElem?_getD, List.getElem?_eq_getElem (by omega)]; exact List.getElem_mem _)
  have e1 := sumW_three (xs.take i) (xs.drop (i + 2)) _ _ hl h0.1 h1.1
  rw [← parts_two xs i h] at e1
  have e2 := sumW_three (xs.take i) (xs.drop (i + 2)) (wd / 256) (wd % 256) hl (by omega) (by omega)
  rw [← set_two xs i h] at e2
  have hle := rawS_le xs
  have es : sum16 [65535 - (65535 - (rawS xs : Int)), 65535 - (xs.getD i 0 * 256 + xs.getD (i + 1) 0), wd] = rawS xs + (65535 - (xs.getD i 0 * 256 + xs.getD (i + 1) 0)).toNat + wd.toNat := by simp [sum16]; omega
  rw [es] at hC
  have hr : rawS xs = carry (sumW false xs) := rfl
  have hr2 : rawS ((xs.set i (wd / 256)).set (i + 1) (wd % 256)) = carry (sumW false ((xs.set i (wd / 256)).set (i + 1) (wd % 256))) := rfl
  rw [hr2] at hA
  rw [hr] at hC hle
  have hm : carry (sumW false xs) % 65535 = sumW false xs % 65535 := by unfold carry; split <;> omega
  have hcm := carry_mod (carry (sumW false xs) + (65535 - (xs.getD i 0 * 256 + xs.getD (i + 1) 0)).toNat + wd.toNat) (sumW false ((xs.set i (wd / 256)).set (i + 1) (wd % 256))) (by omega)
  have c0 : carry 0 = 0 := rfl
  rcases hcm with hcm | ⟨hx, hcm⟩ | ⟨hx, hcm⟩
  · left; rw [hC, hA, hcm]
  · right; right; rw [hC, hA, hx, hcm, c0]; omega
  · right; left; rw [hC, hA, hx, hcm, c0]; omega
end Go.Proofs.Ytjoapafgpbmhkaa.Sum
