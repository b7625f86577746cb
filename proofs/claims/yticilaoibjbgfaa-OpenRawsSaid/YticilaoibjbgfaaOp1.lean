/- Openings: plain functions, and that the functions that print.sh told of are these. -/
import Derived.Test.YticilaoibjbgfaaPrA
import Derived.Test.YticilaoibjbgfaaPrB
import Derived.Test.YticilaoibjbgfaaPrC
import Derived.Test.YticilaoibjbgfaaPrD
import Derived.Test.YticilaoibjbgfaaPOpenRawsx3
import Derived.Test.YticilaoibjbgfaaHigh18
import Derived.Laws.Bits64b
import Derived.Laws.BitsAllLaws
set_option linter.unusedSimpArgs false
set_option linter.unusedVariables false
namespace Go.Proofs.Yticilaoibjbgfaa.Op
open Go.RowKit Go.Proofs.YticilaoibjbgfaaW.PrintWords Go.Proofs.YticilaoibjbgfaaW.PrintLast Go.Proofs.YticilaoibjbgfaaW.PrintMore Go.Proofs.Yticilaoibjbgfaa.POpenRaws Go.Proofs.Yticilaoibjbgfaa.Lib Go.Proofs.Yticilaoibjbgfaa.High

def Byt (b : List Int) : Prop := ∀ x ∈ b, 0 ≤ x ∧ x ≤ 255
def WfC (c : S54) : Prop := (0 ≤ c.f0 ∧ c.f0 ≤ 255) ∧ Byt c.f1
def WfL (l : List S54) : Prop := ∀ c ∈ l, WfC c
/-- an opening -/
structure Opn where
  a : Nat
  h : Nat
  i : Nat
  l : List S54
def Opn.Wf (o : Opn) : Prop := o.a < 4294967296 ∧ o.h < 65536 ∧ o.i < 4294967296 ∧ WfL o.l
def zo : Opn := ⟨0, 0, 0, []⟩

theorem up64 (k : Nat) (h : k < 4611686018427387904) : wrap64 ((k : Int) + 1) = ((k + 1 : Nat) : Int) := by unfold wrap64; omega
theorem dn64 (k : Nat) (h : k < 4611686018427387904) (h0 : 0 < k) : wrap64 ((k : Int) - 1) = ((k - 1 : Nat) : Int) := by unfold wrap64; omega
theorem id64 (x : Int) (h : -4611686018427387904 ≤ x) (h0 : x < 4611686018427387904) : wrap64 x = x := by unfold wrap64; omega
theorem rd_at (l : List S54) (k : Nat) : rd_T54 l (k : Int) = l.getD k z54 := rfl
theorem rdi_at (l : List Int) (k : Nat) : rd l (k : Int) = l.getD k 0 := rfl
theorem getD_mem {α : Type} (l : List α) (k : Nat) (d : α) (hk : k < l.length) : l.getD k d ∈ l := by
  rw [List.getD_eq_getElem?_getD, List.getElem?_eq_getElem hk]
  exact List.getElem_mem hk
theorem take_snoc {α : Type} (l : List α) (k : Nat) (d : α) (hk : k < l.length) : l.take (k + 1) = l.take k ++ [l.getD k d] := by
  rw [List.getD_eq_getElem?_getD, List.getElem?_eq_getElem hk, List.take_add_one, List.getElem?_eq_getElem hk]
  rfl

/-! ### few -/
def fewB (l : List S54) : Bool := l.all (fun c => decide (c.f1.length ≤ 200)) && decide (l.length ≤ 30)
theorem up63 (k : Nat) (h : k < 9223372036854775807) : wrap64 ((k : Int) + 1) = ((k + 1 : Nat) : Int) := by unfold wrap64; omega
theorem few_l (l : List S54) (a h i : Int) (hl : l.length < 9223372036854775808) : ∀ (d k : Nat), k + d = l.length → (∀ j, j < k → (l.getD j z54).f1.length ≤ 200) → pursuivantlaw18_few.l0 (d + 1) k a h i l = some (fewB l)
  | 0, k, hk, hp => by
    have hall : l.all (fun c => decide (c.f1.length ≤ 200)) = true := by
      rw [List.all_eq_true]
      intro c hc
      obtain ⟨j, hj, rfl⟩ := List.getElem_of_mem hc
      have := hp j (by omega)
      rw [List.getD_eq_getElem?_getD, List.getElem?_eq_getElem hj] at this
      exact decide_eq_true this
    rw [pursuivantlaw18_few.l0, if_neg (by omega), fewB, hall, Bool.true_and]
    congr 2
    exact propext (by omega)
  | d + 1, k, hk, hp => by
    rw [pursuivantlaw18_few.l0, if_pos (by omega), if_pos (by omega), rd_at]
    by_cases h2 : ((l.getD k z54).f1.length : Int) > 200
    · rw [if_pos h2]
      have hall : l.all (fun c => decide (c.f1.length ≤ 200)) = false := by
        rw [List.all_eq_false]
        exact ⟨_, getD_mem l k z54 (by omega), by simp only [decide_eq_true_eq]; omega⟩
      rw [fewB, hall, Bool.false_and]
    · rw [if_neg h2, up63 k (by omega)]
      exact few_l l a h i hl d (k + 1) (by omega) (fun j hj => by
        by_cases h3 : j < k
        · exact hp j h3
        · have : j = k := by omega
          subst this
          omega)
theorem few_ex (l : List S54) (a h i : Int) (hl : l.length < 9223372036854775808) : ∃ k, pursuivantlaw18_few.f k a h i l = some (fewB l) :=
  ⟨l.length + 1, few_l l a h i hl l.length 0 (by omega) (fun j hj => by omega)⟩

/-! ### laid -/
def capB (c : S54) : List Int := c.f0 :: ((c.f1.length : Int) % 256) :: c.f1
def laidL (l : List S54) : List Int := l.flatMap capB
theorem laidL_snoc (l : List S54) (c : S54) : laidL (l ++ [c]) = laidL l ++ [c.f0, (c.f1.length : Int) % 256] ++ c.f1 := by simp [laidL, capB]
theorem laidL_take (l : List S54) (k : Nat) : (laidL (l.take k)).length ≤ (laidL l).length := by
  conv => rhs; rw [← List.take_append_drop k l]
  rw [laidL, laidL, List.flatMap_append, List.length_append]
  omega
theorem laid_l (l : List S54) (hl : l.length < 4611686018427387904) (hL : (laidL l).length < 140737488355328) : ∀ (d k : Nat), k + d = l.length → open_laid.l0 (d + 1) (laidL (l.take k)) l (l.length : Int) k = some (laidL l)
  | 0, k, hk => by
    rw [open_laid.l0, if_neg (by omega), List.take_of_length_le (by omega)]
  | d + 1, k, hk => by
    have h1 := laidL_take l (k + 1)
    rw [take_snoc l k z54 (by omega), laidL_snoc] at h1
    simp only [List.length_append, List.length_cons, List.length_nil] at h1
    rw [open_laid.l0, if_pos (by omega), if_pos (by omega), if_pos (by omega), rd_at]
    simp only [Option.bind_some]
    rw [if_pos (by simp only [List.length_cons, List.length_nil]; omega), if_pos (by simp only [List.length_append, List.length_cons, List.length_nil]; omega), up64 k (by omega), ← laidL_snoc, ← take_snoc l k z54 (by omega)]
    exact laid_l l hl hL d (k + 1) (by omega)
theorem laid_ex (l : List S54) (hl : l.length < 4611686018427387904) (hL : (laidL l).length < 140737488355328) : ∃ k, open_laid.f k l = some (laidL l) :=
  ⟨l.length + 1, laid_l l hl hL l.length 0 (by omega)⟩
def laidO (o : Opn) : List Int := laidL (⟨65, high4 o.a⟩ :: o.l)
theorem laidO_eq (o : Opn) : laidO o = ([65, 4] ++ high4 o.a) ++ laidL o.l := by simp [laidO, laidL, capB, high4]
theorem rlaid_l (p : List Int) (a h i : Int) (l : List S54) (hl : l.length < 4611686018427387904) (hL : p.length + (laidL l).length < 140737488355328) : ∀ (d k : Nat), k + d = l.length → pursuivantref18_laid.l0 (d + 1) (p ++ laidL (l.take k)) k a h i l = some (p ++ laidL l)
  | 0, k, hk => by
    rw [pursuivantref18_laid.l0, if_neg (by omega), List.take_of_length_le (by omega)]
  | d + 1, k, hk => by
    have h1 := laidL_take l (k + 1)
    rw [take_snoc l k z54 (by omega), laidL_snoc] at h1
    simp only [List.length_append, List.length_cons, List.length_nil] at h1
    rw [pursuivantref18_laid.l0, if_pos (by omega), if_pos (by omega), rd_at]
    simp only [Option.bind_some]
    rw [if_pos (by simp only [List.length_append, List.length_cons, List.length_nil]; omega), if_pos (by simp only [List.length_append, List.length_cons, List.length_nil]; omega), up64 k (by omega), List.append_assoc p, List.append_assoc p, ← laidL_snoc, ← take_snoc l k z54 (by omega)]
    exact rlaid_l p a h i l hl hL d (k + 1) (by omega)
theorem tdivN (a b : Nat) : Int.tdiv (a : Int) (b : Int) = ((a / b : Nat) : Int) := by rw [Int.tdiv_eq_ediv_of_nonneg (by omega)]; rfl
theorem tmodN (a b : Nat) : Int.tmod (a : Int) (b : Int) = ((a % b : Nat) : Int) := by rw [Int.tmod_eq_emod_of_nonneg (by omega)]; rfl
theorem rhead (a : Nat) (ha : a < 4294967296) : ([65, 4, ((Int.tdiv a 16777216) % 4294967296) % 256, ((Int.tdiv a 65536) % 4294967296) % 256, ((Int.tdiv a 256) % 4294967296) % 256, (Int.tmod a 256) % 256] : List Int) = [65, 4] ++ high4 a := by
  have e1 : Int.tdiv (a : Int) 16777216 = ((a / 16777216 : Nat) : Int) := tdivN a 16777216
  have e2 : Int.tdiv (a : Int) 65536 = ((a / 65536 : Nat) : Int) := tdivN a 65536
  have e3 : Int.tdiv (a : Int) 256 = ((a / 256 : Nat) : Int) := tdivN a 256
  have e4 : Int.tmod (a : Int) 256 = ((a % 256 : Nat) : Int) := tmodN a 256
  rw [e1, e2, e3, e4]
  show [65, 4, _, _, _, _] = [65, 4, _, _, _, _]
  congr 4
  · omega
  congr 1
  · omega
  congr 1
  · omega
  congr 1
  omega
theorem rlaid_ex (o : Opn) (ho : o.Wf) (hl : o.l.length < 4611686018427387904) (hL : (laidO o).length < 140737488355328) : ∃ k, pursuivantref18_laid.f k o.a o.h o.i o.l = some (laidO o) := by
  refine ⟨o.l.length + 1, ?_⟩
  rw [pursuivantref18_laid.f, rhead o.a ho.1, laidO_eq]
  rw [laidO_eq, List.length_append] at hL
  have := rlaid_l ([65, 4] ++ high4 o.a) o.a o.h o.i o.l hl hL o.l.length 0 (by omega)
  simpa [laidL] using this

/-! ### Check -/
def badB (c : S54) : Bool := c.f0 == 0 || c.f0 == 65 || decide (100 < c.f1.length)
def riseA (l : List S54) (j : Nat) : Bool := !(badB (l.getD j z54)) && (j == 0 || decide ((l.getD (j - 1) z54).f0 < (l.getD j z54).f0))
def riseB (l : List S54) : Bool := (List.range l.length).all (riseA l) && decide (l.length ≤ 8)
theorem rise_bad {l : List S54} {j : Nat} (h : badB (l.getD j z54) = true) : riseA l j = false := by rw [riseA, h]; rfl
theorem rise_no {l : List S54} {j : Nat} (hj : j < l.length) (h : riseA l j = false) : riseB l = false := by
  have : (List.range l.length).all (riseA l) = false := by
    rw [List.all_eq_false]
    exact ⟨j, List.mem_range.2 hj, by rw [h]; simp⟩
  rw [riseB, this, Bool.false_and]
theorem rise_yes {l : List S54} (h : ∀ j, j < l.length → riseA l j = true) : riseB l = decide (l.length ≤ 8) := by
  have : (List.range l.length).all (riseA l) = true := by
    rw [List.all_eq_true]
    exact fun j hj => h j (List.mem_range.1 hj)
  rw [riseB, this, Bool.true_and]
def checkN (o : Opn) : Int := if o.a = 0 ∨ o.h = 1 ∨ o.h = 2 ∨ o.i = 0 ∨ riseB o.l = false then 2 else if 253 < (laidO o).length then 3 else 0
theorem mono_up {α : Type} {f : Nat → Option α} (hm : ∀ k, LeO (f k) (f (k + 1))) {k : Nat} {r : α} (h : f k = some r) : ∀ m, k ≤ m → f m = some r := by
  intro m hkm
  induction m with
  | zero =>
    have : k = 0 := by omega
    subst this
    exact h
  | succ m ih =>
    by_cases h2 : k = m + 1
    · subst h2
      exact h
    · exact hm m r (ih (by omega))
theorem bad0 {c : S54} (h : c.f0 = 0) : badB c = true := by rw [badB, h]; rfl
theorem bad65 {c : S54} (h : c.f0 = 65) : badB c = true := by rw [badB, h]; rfl
theorem badLong {c : S54} (h : (c.f1.length : Int) > 100) : badB c = true := by rw [badB, decide_eq_true (by omega : 100 < c.f1.length), Bool.or_true]
theorem badNot {c : S54} (h0 : c.f0 ≠ 0) (h1 : c.f0 ≠ 65) (h2 : ¬ (c.f1.length : Int) > 100) : badB c = false := by
  rw [badB, beq_false_of_ne h0, beq_false_of_ne h1, decide_eq_false (by omega)]
  rfl
theorem rise_first {l : List S54} (hb : badB (l.getD 0 z54) = false) : riseA l 0 = true := by rw [riseA, hb]; rfl
theorem rise_next {l : List S54} {k : Nat} (hb : badB (l.getD k z54) = false) (h : (l.getD (k - 1) z54).f0 < (l.getD k z54).f0) : riseA l k = true := by rw [riseA, hb, decide_eq_true h, Bool.or_true]; rfl
theorem rise_ge {l : List S54} {k : Nat} (h0 : k ≠ 0) (h : ¬ (l.getD (k - 1) z54).f0 < (l.getD k z54).f0) : riseA l k = false := by
  rw [riseA, decide_eq_false h, beq_false_of_ne h0, Bool.or_false, Bool.and_false]
theorem checkN_no {o : Opn} (h : o.a = 0 ∨ o.h = 1 ∨ o.h = 2 ∨ o.i = 0 ∨ riseB o.l = false) : checkN o = 2 := by rw [checkN, if_pos h]
theorem checkN_yes {o : Opn} (h : ¬ (o.a = 0 ∨ o.h = 1 ∨ o.h = 2 ∨ o.i = 0)) (h2 : riseB o.l = true) : checkN o = if 253 < (laidO o).length then 3 else 0 := by
  rw [checkN, if_neg]
  rintro (h3 | h3 | h3 | h3 | h3)
  · exact h (.inl h3)
  · exact h (.inr (.inl h3))
  · exact h (.inr (.inr (.inl h3)))
  · exact h (.inr (.inr (.inr h3)))
  · rw [h2] at h3
    cases h3
theorem check_end (m : Nat) (a h i : Int) (l : List S54) (k : Nat) (hk : ¬ (k : Int) < (l.length : Int)) (L : List Int) (hm : pursuivantref18_laid.f m a h i l = some L) (hL : L.length < 140737488355328) : pursuivantref18_Check.l0 (m + 1) k a h i l = some (if 253 < L.length then 3 else 0) := by
  rw [pursuivantref18_Check.l0, if_neg hk, hm, Option.bind_some, id64 _ (by omega) (by omega)]
  by_cases h3 : 253 < L.length
  · rw [if_pos h3, if_pos (by omega)]
  · rw [if_neg h3, if_neg (by omega)]
theorem check_no (m : Nat) (a h i : Int) (l : List S54) (k : Nat) (hk : k < l.length) (hl : l.length ≤ 8) (hw : WfL l) (hr : riseA l k = false) : pursuivantref18_Check.l0 (m + 1) k a h i l = some 2 := by
  have hc := (hw _ (getD_mem l k z54 hk)).1
  rw [pursuivantref18_Check.l0, if_pos (by omega), if_pos (by omega), rd_at, id64 (l.getD k z54).f0 (by omega) (by omega)]
  by_cases c0 : (l.getD k z54).f0 = 0
  · rw [if_pos c0]
  rw [if_neg c0]
  by_cases c1 : (l.getD k z54).f0 = 65
  · rw [if_pos c1]
  rw [if_neg c1]
  by_cases c2 : ((l.getD k z54).f1.length : Int) > 100
  · rw [if_pos c2]
  rw [if_neg c2]
  have hb := badNot c0 c1 c2
  by_cases c3 : k = 0
  · subst c3
    rw [rise_first hb] at hr
    cases hr
  · rw [if_pos (by omega), dn64 k (by omega) (by omega), if_pos (by omega), if_pos (by omega), rd_at]
    by_cases c4 : (l.getD (k - 1) z54).f0 < (l.getD k z54).f0
    · rw [rise_next hb c4] at hr
      cases hr
    · rw [if_pos (by omega)]
theorem check_go (m : Nat) (a h i : Int) (l : List S54) (k : Nat) (hk : k < l.length) (hl : l.length ≤ 8) (hw : WfL l) (hr : riseA l k = true) : pursuivantref18_Check.l0 (m + 1) k a h i l = pursuivantref18_Check.l0 m ((k + 1 : Nat) : Int) a h i l := by
  have hc := (hw _ (getD_mem l k z54 hk)).1
  have hb : badB (l.getD k z54) = false := by
    cases hb : badB (l.getD k z54)
    · rfl
    · rw [rise_bad hb] at hr
      cases hr
  rw [pursuivantref18_Check.l0, if_pos (by omega), if_pos (by omega), rd_at, id64 (l.getD k z54).f0 (by omega) (by omega)]
  by_cases c0 : (l.getD k z54).f0 = 0
  · rw [bad0 c0] at hb
    cases hb
  rw [if_neg c0]
  by_cases c1 : (l.getD k z54).f0 = 65
  · rw [bad65 c1] at hb
    cases hb
  rw [if_neg c1]
  by_cases c2 : ((l.getD k z54).f1.length : Int) > 100
  · rw [badLong c2] at hb
    cases hb
  rw [if_neg c2]
  by_cases c3 : k = 0
  · subst c3
    rw [if_neg (by omega), up64 0 (by omega)]
  · rw [if_pos (by omega), dn64 k (by omega) (by omega), if_pos (by omega), if_pos (by omega), rd_at]
    by_cases c4 : (l.getD (k - 1) z54).f0 < (l.getD k z54).f0
    · rw [if_neg (by omega), up64 k (by omega)]
    · rw [rise_ge c3 c4] at hr
      cases hr
theorem check_l (o : Opn) (ho : o.Wf) (hl : o.l.length ≤ 8) (hL : (laidO o).length < 140737488355328) (h1 : ¬ (o.a = 0 ∨ o.h = 1 ∨ o.h = 2 ∨ o.i = 0)) (kk : Nat) (hkk : ∀ m, kk ≤ m → pursuivantref18_laid.f m o.a o.h o.i o.l = some (laidO o)) (d : Nat) : ∀ (k : Nat), k + d = o.l.length → (∀ j, j < k → riseA o.l j = true) → ∃ K, ∀ m, K ≤ m → pursuivantref18_Check.l0 m k o.a o.h o.i o.l = some (checkN o) := by
  induction d with
  | zero =>
    intro k hk hp
    have hr : riseB o.l = true := by rw [rise_yes (fun j hj => hp j (by omega))]; exact decide_eq_true hl
    refine ⟨kk + 1, fun m hm => ?_⟩
    obtain ⟨m, rfl⟩ : ∃ m', m = m' + 1 := ⟨m - 1, by omega⟩
    rw [checkN_yes h1 hr]
    exact check_end m _ _ _ _ k (by omega) _ (hkk m (by omega)) hL
  | succ d ih =>
    intro k hk hp
    cases hr : riseA o.l k with
    | false =>
      refine ⟨1, fun m hm => ?_⟩
      obtain ⟨m, rfl⟩ : ∃ m', m = m' + 1 := ⟨m - 1, by omega⟩
      rw [check_no m _ _ _ _ k (by omega) hl ho.2.2.2 hr, checkN_no (.inr (.inr (.inr (.inr (rise_no (by omega) hr)))))]
    | true =>
      obtain ⟨K, hK⟩ := ih (k + 1) (by omega) (fun j hj => by
        by_cases h3 : j < k
        · exact hp j h3
        · have : j = k := by omega
          subst this
          exact hr)
      refine ⟨K + 1, fun m hm => ?_⟩
      obtain ⟨m, rfl⟩ : ∃ m', m = m' + 1 := ⟨m - 1, by omega⟩
      rw [check_go m _ _ _ _ k (by omega) hl ho.2.2.2 hr]
      exact hK m (by omega)
theorem check_ex (o : Opn) (ho : o.Wf) (hl : o.l.length < 4611686018427387904) (hL : (laidO o).length < 140737488355328) : ∃ k, pursuivantref18_Check.f k o.a o.h o.i o.l = some (checkN o) := by
  obtain ⟨kk, hkk⟩ := rlaid_ex o ho hl hL
  have yes : ∀ k b, b = true → checkN o = 2 → pursuivantref18_Check.j0 (k + 1) b o.a o.h o.i o.l = some (checkN o) := fun k b hb h => by rw [pursuivantref18_Check.j0, if_pos hb, h]
  by_cases c4 : o.l.length ≤ 8
  · by_cases c : o.a = 0 ∨ o.h = 1 ∨ o.h = 2 ∨ o.i = 0
    · have h2 : checkN o = 2 := checkN_no (by omega)
      refine ⟨1, ?_⟩
      rw [pursuivantref18_Check.f]
      by_cases c0 : o.a = 0
      · rw [if_pos (by omega), yes _ _ rfl h2]
      rw [if_neg (by omega)]
      by_cases c1 : o.h = 1
      · rw [if_pos (by omega), yes _ _ rfl h2]
      rw [if_neg (by omega)]
      by_cases c2 : o.h = 2
      · rw [if_pos (by omega), yes _ _ rfl h2]
      rw [if_neg (by omega), if_pos (by omega), yes _ _ rfl h2]
    · obtain ⟨K, hK⟩ := check_l o ho c4 hL c kk (mono_up (fun k => pursuivantref18_laid.mono _ _ _ _ k) hkk) o.l.length 0 (by omega) (fun j hj => by omega)
      refine ⟨K + 1, ?_⟩
      rw [pursuivantref18_Check.f, if_neg (by omega), if_neg (by omega), if_neg (by omega), if_neg (by omega), decide_eq_false (by omega), pursuivantref18_Check.j0, if_neg (by simp)]
      exact hK K (Nat.le_refl _)
  · have h2 : checkN o = 2 := checkN_no (.inr (.inr (.inr (.inr (by rw [riseB, decide_eq_false c4, Bool.and_false])))))
    refine ⟨1, ?_⟩
    rw [pursuivantref18_Check.f, decide_eq_true (by omega)]
    rw [yes _ _ rfl h2]
    simp only [ite_self]

/-! ### Raw -/
def shortN (a : Nat) : Nat := if a < 65536 then a else 23456
theorem short_ex (a : Nat) : open_short.f a = some (shortN a : Int) := by
  rw [open_short.f, shortN]
  by_cases h : a < 65536
  · rw [if_neg (by omega), if_pos h]
    have : IntKind.u16.wrap (a : Int) = a := by rw [IntKind.wrap_u16]; omega
    rw [this]
  · rw [if_pos (by omega), if_neg h]
    rfl
theorem rshort_ex (a : Nat) : pursuivantref18_short.f a = some (shortN a : Int) := by
  rw [pursuivantref18_short.f, shortN]
  by_cases h : a < 65536
  · rw [if_pos (by omega), if_pos h]
  · rw [if_neg (by omega), if_neg h]
    rfl
def rawB (o : Opn) : List Int := ([4] ++ high2 (shortN o.a) ++ high2 o.h) ++ high4 o.i ++ [(((laidO o).length : Int) + 2) % 256, 2, ((laidO o).length : Int) % 256] ++ laidO o
theorem rraw_ex (o : Opn) (ho : o.Wf) (hl : o.l.length < 4611686018427387904) (hL : (laidO o).length < 140737488355000) : ∃ k, pursuivantref18_Raw.f k o.a o.h o.i o.l = some (rawB o) := by
  obtain ⟨kk, hkk⟩ := rlaid_ex o ho hl (by omega)
  have hs : shortN o.a < 65536 := by rw [shortN]; split <;> omega
  refine ⟨kk, ?_⟩
  rw [pursuivantref18_Raw.f, hkk, rshort_ex]
  simp only [Option.bind_some]
  have e1 : Int.tdiv (shortN o.a : Int) 256 = ((shortN o.a / 256 : Nat) : Int) := tdivN (shortN o.a) 256
  have e2 : Int.tmod (shortN o.a : Int) 256 = ((shortN o.a % 256 : Nat) : Int) := tmodN (shortN o.a) 256
  have e3 : Int.tdiv (o.h : Int) 256 = ((o.h / 256 : Nat) : Int) := tdivN o.h 256
  have e4 : Int.tmod (o.h : Int) 256 = ((o.h % 256 : Nat) : Int) := tmodN o.h 256
  have f1 : Int.tdiv (o.i : Int) 16777216 = ((o.i / 16777216 : Nat) : Int) := tdivN o.i 16777216
  have f2 : Int.tdiv (o.i : Int) 65536 = ((o.i / 65536 : Nat) : Int) := tdivN o.i 65536
  have f3 : Int.tdiv (o.i : Int) 256 = ((o.i / 256 : Nat) : Int) := tdivN o.i 256
  have f4 : Int.tmod (o.i : Int) 256 = ((o.i % 256 : Nat) : Int) := tmodN o.i 256
  rw [e1, e2, e3, e4, f1, f2, f3, f4, IntKind.wrap_u16, id64 _ (by omega) (by omega)]
  have hh := ho.2.1
  have hi := ho.2.2.1
  have g1 : ([4, ((shortN o.a / 256 : Nat) : Int) % 4294967296 % 256, ((shortN o.a % 256 : Nat) : Int) % 256, ((o.h / 256 : Nat) : Int) % 65536 % 256, ((o.h % 256 : Nat) : Int) % 256] : List Int) = [4] ++ high2 (shortN o.a) ++ high2 o.h := by
    show [4, _, _, _, _] = [4, _, _, _, _]
    congr 2
    · omega
    congr 1
    · omega
    congr 1
    · omega
    congr 1
    omega
  have g2 : ([((o.i / 16777216 : Nat) : Int) % 4294967296 % 256, ((o.i / 65536 : Nat) : Int) % 4294967296 % 256, ((o.i / 256 : Nat) : Int) % 4294967296 % 256, ((o.i % 256 : Nat) : Int) % 256] : List Int) = high4 o.i := by
    show [_, _, _, _] = [_, _, _, _]
    congr 1
    · omega
    congr 1
    · omega
    congr 1
    · omega
    congr 1
    omega
  rw [g1, g2, if_pos (by simp [high2, high4]), if_pos (by simp [high2, high4]), if_pos (by simp [high2, high4]; omega)]
  rfl

/-! ### numbers of bytes -/
def num2 (b : List Int) : Int := b.getD 0 0 * 256 + b.getD 1 0
def num4 (b : List Int) : Int := ((b.getD 0 0 * 256 + b.getD 1 0) * 256 + b.getD 2 0) * 256 + b.getD 3 0
theorem or_byte (a b : Int) (ha : 0 ≤ a) (ha2 : a < 4294967296) (hb : 0 ≤ b ∧ b ≤ 255) : Go.bits .or .u64 (IntKind.u64.wrap ((IntKind.u64.wrap a) * 256)) (IntKind.u64.wrap b) = a * 256 + b := by
  obtain ⟨n, rfl⟩ := Int.eq_ofNat_of_zero_le ha
  obtain ⟨m, rfl⟩ := Int.eq_ofNat_of_zero_le hb.1
  have h1 : IntKind.u64.wrap ((IntKind.u64.wrap (n : Int)) * 256) = ((n * 256 : Nat) : Int) := by rw [IntKind.wrap_u64, IntKind.wrap_u64]; omega
  have h2 : IntKind.u64.wrap (m : Int) = (m : Int) := by rw [IntKind.wrap_u64]; omega
  rw [h1, h2, bits_or_u64_nat _ _ (by omega) (by omega)]
  have h3 := Nat.shiftLeft_add_eq_or_of_lt (i := 8) (b := m) (by omega) n
  rw [Nat.shiftLeft_eq] at h3
  rw [show n * 256 = n * 2 ^ 8 from rfl, ← h3]
  omega
end Go.Proofs.Yticilaoibjbgfaa.Op
