/- Openings: numbers of bytes, sessions, capabilities' bytes: plain. -/
import Derived.Test.YticilaoibjbgfaaOp1
set_option linter.unusedSimpArgs false
set_option linter.unusedVariables false
namespace Go.Proofs.Yticilaoibjbgfaa.Op
open Go.RowKit Go.Proofs.YticilaoibjbgfaaW.PrintWords Go.Proofs.YticilaoibjbgfaaW.PrintLast Go.Proofs.YticilaoibjbgfaaW.PrintMore Go.Proofs.Yticilaoibjbgfaa.POpenRaws Go.Proofs.Yticilaoibjbgfaa.Lib Go.Proofs.Yticilaoibjbgfaa.High

theorem number16_ex (b : List Int) (hb : b.length = 2) (hw : Byt b) : ∃ k, open_number_uint16.f k b = some (num2 b) := by
  match b, hb with
  | [x, y], _ =>
    have hx := hw x (by simp)
    have hy := hw y (by simp)
    refine ⟨3, ?_⟩
    show open_number_uint16.l0 3 0 [x, y] 2 0 = _
    rw [open_number_uint16.l0, if_pos (by decide), if_pos (by decide), if_pos (show (0 : Int) < (([x, y] : List Int).length : Int) by simp), show rd [x, y] 0 = x from rfl, show wrap64 (0 + 1) = 1 by unfold wrap64; omega, or_byte 0 x (by decide) (by decide) hx, IntKind.wrap_u16]
    rw [open_number_uint16.l0, if_pos (by decide), if_pos (by decide), if_pos (show (1 : Int) < (([x, y] : List Int).length : Int) by simp), show rd [x, y] 1 = y from rfl, show wrap64 (1 + 1) = 2 by unfold wrap64; omega, or_byte _ y (by omega) (by omega) hy, IntKind.wrap_u16]
    rw [open_number_uint16.l0, if_neg (by decide)]
    show some _ = some (x * 256 + y)
    congr 1
    omega
theorem number32_ex (b : List Int) (hb : b.length = 4) (hw : Byt b) : ∃ k, open_number_uint32.f k b = some (num4 b) := by
  match b, hb with
  | [x, y, z, t], _ =>
    have hx := hw x (by simp)
    have hy := hw y (by simp)
    have hz := hw z (by simp)
    have ht := hw t (by simp)
    refine ⟨5, ?_⟩
    show open_number_uint32.l0 5 0 [x, y, z, t] 4 0 = _
    rw [open_number_uint32.l0, if_pos (by decide), if_pos (by decide), if_pos (show (0 : Int) < (([x, y, z, t] : List Int).length : Int) by simp), show rd [x, y, z, t] 0 = x from rfl, show wrap64 (0 + 1) = 1 by unfold wrap64; omega, or_byte 0 x (by decide) (by decide) hx]
    rw [open_number_uint32.l0, if_pos (by decide), if_pos (by decide), if_pos (show (1 : Int) < (([x, y, z, t] : List Int).length : Int) by simp), show rd [x, y, z, t] 1 = y from rfl, show wrap64 (1 + 1) = 2 by unfold wrap64; omega, or_byte _ y (by omega) (by omega) hy]
    rw [open_number_uint32.l0, if_pos (by decide), if_pos (by decide), if_pos (show (2 : Int) < (([x, y, z, t] : List Int).length : Int) by simp), show rd [x, y, z, t] 2 = z from rfl, show wrap64 (2 + 1) = 3 by unfold wrap64; omega, or_byte _ z (by omega) (by omega) hz]
    rw [open_number_uint32.l0, if_pos (by decide), if_pos (by decide), if_pos (show (3 : Int) < (([x, y, z, t] : List Int).length : Int) by simp), show rd [x, y, z, t] 3 = t from rfl, show wrap64 (3 + 1) = 4 by unfold wrap64; omega, or_byte _ t (by omega) (by omega) ht]
    rw [open_number_uint32.l0, if_neg (by decide)]
    show some _ = some (((x * 256 + y) * 256 + z) * 256 + t)
    congr 1
    omega
theorem word2_ex (b : List Int) (hb : b.length = 2) (hw : Byt b) : ∃ k, pursuivantref18_word.f k b = some (num2 b) := by
  match b, hb with
  | [x, y], _ =>
    have hx := hw x (by simp)
    have hy := hw y (by simp)
    refine ⟨3, ?_⟩
    show pursuivantref18_word.l0 3 [x, y] 0 0 = _
    rw [pursuivantref18_word.l0, if_pos (show (0 : Int) < (([x, y] : List Int).length : Int) by simp), if_pos (by decide), show rd [x, y] 0 = x from rfl, show wrap64 (0 + 1) = 1 by unfold wrap64; omega]
    rw [pursuivantref18_word.l0, if_pos (show (1 : Int) < (([x, y] : List Int).length : Int) by simp), if_pos (by decide), show rd [x, y] 1 = y from rfl, show wrap64 (1 + 1) = 2 by unfold wrap64; omega]
    rw [pursuivantref18_word.l0, if_neg (show ¬ (2 : Int) < (([x, y] : List Int).length : Int) by simp)]
    show some _ = some (x * 256 + y)
    congr 1
    omega
theorem word4_ex (b : List Int) (hb : b.length = 4) (hw : Byt b) : ∃ k, pursuivantref18_word.f k b = some (num4 b) := by
  match b, hb with
  | [x, y, z, t], _ =>
    have hx := hw x (by simp)
    have hy := hw y (by simp)
    have hz := hw z (by simp)
    have ht := hw t (by simp)
    refine ⟨5, ?_⟩
    show pursuivantref18_word.l0 5 [x, y, z, t] 0 0 = _
    rw [pursuivantref18_word.l0, if_pos (show (0 : Int) < (([x, y, z, t] : List Int).length : Int) by simp), if_pos (by decide), show rd [x, y, z, t] 0 = x from rfl, show wrap64 (0 + 1) = 1 by unfold wrap64; omega]
    rw [pursuivantref18_word.l0, if_pos (show (1 : Int) < (([x, y, z, t] : List Int).length : Int) by simp), if_pos (by decide), show rd [x, y, z, t] 1 = y from rfl, show wrap64 (1 + 1) = 2 by unfold wrap64; omega]
    rw [pursuivantref18_word.l0, if_pos (show (2 : Int) < (([x, y, z, t] : List Int).length : Int) by simp), if_pos (by decide), show rd [x, y, z, t] 2 = z from rfl, show wrap64 (2 + 1) = 3 by unfold wrap64; omega]
    rw [pursuivantref18_word.l0, if_pos (show (3 : Int) < (([x, y, z, t] : List Int).length : Int) by simp), if_pos (by decide), show rd [x, y, z, t] 3 = t from rfl, show wrap64 (3 + 1) = 4 by unfold wrap64; omega]
    rw [pursuivantref18_word.l0, if_neg (show ¬ (4 : Int) < (([x, y, z, t] : List Int).length : Int) by simp)]
    show some _ = some (((x * 256 + y) * 256 + z) * 256 + t)
    congr 1
    omega
theorem num2_bd {b : List Int} (hb : b.length = 2) (hw : Byt b) : 0 ≤ num2 b ∧ num2 b < 65536 := by
  match b, hb with
  | [x, y], _ =>
    have hx := hw x (by simp)
    have hy := hw y (by simp)
    show 0 ≤ x * 256 + y ∧ x * 256 + y < 65536
    omega
theorem num4_bd {b : List Int} (hb : b.length = 4) (hw : Byt b) : 0 ≤ num4 b ∧ num4 b < 4294967296 := by
  match b, hb with
  | [x, y, z, t], _ =>
    have hx := hw x (by simp)
    have hy := hw y (by simp)
    have hz := hw z (by simp)
    have ht := hw t (by simp)
    show 0 ≤ ((x * 256 + y) * 256 + z) * 256 + t ∧ ((x * 256 + y) * 256 + z) * 256 + t < 4294967296
    omega

/-! ### capabilities of bytes -/
def eachF : Nat → List Int → List S54
  | 0, _ => []
  | d + 1, b =>
    if b.length = 0 then [] else if b.length < 2 ∨ (b.length : Int) < 2 + b.getD 1 0 then [z54]
    else ⟨b.getD 0 0, (b.take (2 + (b.getD 1 0).toNat)).drop 2⟩ :: eachF d (b.drop (2 + (b.getD 1 0).toNat))
theorem eachF_more : ∀ (d e : Nat) (b : List Int), b.length ≤ d → d ≤ e → eachF e b = eachF d b
  | 0, 0, b, _, _ => rfl
  | 0, e + 1, b, h, _ => by
    have : b = [] := List.length_eq_zero_iff.1 (by omega)
    subst this
    rfl
  | d + 1, e + 1, b, h, he => by
    rw [eachF, eachF]
    split
    · rfl
    split
    · rfl
    · rw [eachF_more d e (b.drop (2 + (b.getD 1 0).toNat)) (by rw [List.length_drop]; omega) (by omega)]
def eachL (b : List Int) : List S54 := eachF b.length b
theorem eachL_nil {b : List Int} (h : b.length = 0) : eachL b = [] := by rw [eachL, h, eachF]
theorem eachL_bad {b : List Int} (h : b.length ≠ 0) (h2 : b.length < 2 ∨ (b.length : Int) < 2 + b.getD 1 0) : eachL b = [z54] := by
  obtain ⟨n, hn⟩ : ∃ n, b.length = n + 1 := ⟨b.length - 1, by omega⟩
  rw [eachL, hn, eachF, if_neg h, if_pos h2]
theorem eachL_one {b : List Int} (h : b.length ≠ 0) (h2 : ¬ (b.length < 2 ∨ (b.length : Int) < 2 + b.getD 1 0)) : eachL b = ⟨b.getD 0 0, (b.take (2 + (b.getD 1 0).toNat)).drop 2⟩ :: eachL (b.drop (2 + (b.getD 1 0).toNat)) := by
  obtain ⟨n, hn⟩ : ∃ n, b.length = n + 1 := ⟨b.length - 1, by omega⟩
  rw [eachL, hn, eachF, if_neg h, if_neg h2, eachL, eachF_more _ n _ (Nat.le_refl _) (by rw [List.length_drop]; omega)]
def okB (c : S54) : Bool := !(c.f0 == 0 || decide (100 < c.f1.length))
/-- what is read may be -/
def okL (l : List S54) : Bool := l.all okB && (l.length == 0 || riseB l.tail)
end Go.Proofs.Yticilaoibjbgfaa.Op
