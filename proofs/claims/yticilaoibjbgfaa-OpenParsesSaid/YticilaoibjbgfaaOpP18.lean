/- Openings: plain functions, and that the functions that print.sh told of are these. · Openings: numbers of bytes, sessions, capabilities' bytes: plain. · Openings: the walks of rise, caps, Check. · Openings: the walks of caps, Check. · Openings: the walk of Check. · Openings: the walk of Raw. · Openings: the reference's Same, the law's lent. · Openings: the law's lent. · Openings: the walk of Cap. · Openings: the walk of Meet. · Openings: works. -/
import Derived.Test.YticilaoibjbgfaaPrA
import Derived.Test.YticilaoibjbgfaaPrC
import Derived.Test.YticilaoibjbgfaaPrD
import Derived.Test.YticilaoibjbgfaaPOpenRawsx3
import Derived.Test.YticilaoibjbgfaaHigh18
import Derived.Laws.Bits64b
import Derived.Laws.BitsAllLaws
import Derived.Test.YticilaoibjbgfaaLexI
import Derived.Test.YticilaoibjbgfaaLexT
import Derived.Lib.Bytes
import Derived.Laws.EntriesVeiled
import Derived.WalkMore
set_option linter.unusedSimpArgs false
set_option linter.unusedVariables false
namespace Go.Proofs.Yticilaoibjbgfaa.Op
open Go.RowKit Go.Proofs.YticilaoibjbgfaaW.PrintWords Go.Proofs.YticilaoibjbgfaaW.PrintLast Go.Proofs.YticilaoibjbgfaaW.PrintMore Go.Proofs.Yticilaoibjbgfaa.POpenRaws Go.Proofs.Yticilaoibjbgfaa.Lib Go.Proofs.Yticilaoibjbgfaa.High

def Byt (b : List Int) : Prop := ∀ x ∈ b, 0 ≤ x ∧ x ≤ 255
def WfC (c : S54) : Prop := (0 ≤ c.f0 ∧ c.f0 ≤ 255) ∧ Byt c.f1
def WfL (l : List S54) : Prop := ∀ c ∈ l, WfC c
/-- an opening -/
structure Opn where
  a : Nat
  h : Nat
  i : Nat
  l : List S54
def Opn.Wf (o : Opn) : Prop := o.a < 4294967296 ∧ o.h < 65536 ∧ o.i < 4294967296 ∧ WfL o.l
def zo : Opn := ⟨0, 0, 0, []⟩

theorem up64 (k : Nat) (h : k < 4611686018427387904) : wrap64 ((k : Int) + 1) = ((k + 1 : Nat) : Int) := by unfold wrap64; omega
theorem dn64 (k : Nat) (h : k < 4611686018427387904) (h0 : 0 < k) : wrap64 ((k : Int) - 1) = ((k - 1 : Nat) : Int) := by unfold wrap64; omega
theorem id64 (x : Int) (h : -4611686018427387904 ≤ x) (h0 : x < 4611686018427387904) : wrap64 x = x := by unfold wrap64; omega
theorem rd_at (l : List S54) (k : Nat) : rd_T54 l (k : Int) = l.getD k z54 := rfl
theorem rdi_at (l : List Int) (k : Nat) : rd l (k : Int) = l.getD k 0 := rfl
theorem getD_mem {α : Type} (l : List α) (k : Nat) (d : α) (hk : k < l.length) : l.getD k d ∈ l := by
  rw [List.getD_eq_getElem?_getD, List.getElem?_eq_getElem hk]
  exact List.getElem_mem hk
theorem take_snoc {α : Type} (l : List α) (k : Nat) (d : α) (hk : k < l.length) : l.take (k + 1) = l.take k ++ [l.getD k d] := by
  rw [List.getD_eq_getElem?_getD, List.getElem?_eq_getElem hk, List.take_add_one, List.getElem?_eq_getElem hk]
  rfl

/-! ### few -/
def fewB (l : List S54) : Bool := l.all (fun c => decide (c.f1.length ≤ 200)) && decide (l.length ≤ 30)
theorem up63 (k : Nat) (h : k < 9223372036854775807) : wrap64 ((k : Int) + 1) = ((k + 1 : Nat) : Int) := by unfold wrap64; omega
theorem few_l (l : List S54) (a h i : Int) (hl : l.length < 9223372036854775808) : ∀ (d k : Nat), k + d = l.length → (∀ j, j < k → (l.getD j z54).f1.length ≤ 200) → pursuivantlaw18_few.l0 (d + 1) k a h i l = some (fewB l)
  | 0, k, hk, hp => by
    have hall : l.all (fun c => decide (c.f1.length ≤ 200)) = true := by
      rw [List.all_eq_true]
      intro c hc
      obtain ⟨j, hj, rfl⟩ := List.getElem_of_mem hc
      have := hp j (by omega)
      rw [List.getD_eq_getElem?_getD, List.getElem?_eq_getElem hj] at this
      exact decide_eq_true this
    rw [pursuivantlaw18_few.l0, if_neg (by omega), fewB, hall, Bool.true_and]
    congr 2
    exact propext (by omega)
  | d + 1, k, hk, hp => by
    rw [pursuivantlaw18_few.l0, if_pos (by omega), if_pos (by omega), rd_at]
    by_cases h2 : ((l.getD k z54).f1.length : Int) > 200
    · rw [if_pos h2]
      have hall : l.all (fun c => decide (c.f1.length ≤ 200)) = false := by
        rw [List.all_eq_false]
        exact ⟨_, getD_mem l k z54 (by omega), by simp only [decide_eq_true_eq]; omega⟩
      rw [fewB, hall, Bool.false_and]
    · rw [if_neg h2, up63 k (by omega)]
      exact few_l l a h i hl d (k + 1) (by omega) (fun j hj => by
        by_cases h3 : j < k
        · exact hp j h3
        · have : j = k := by omega
          subst this
          omega)
theorem few_ex (l : List S54) (a h i : Int) (hl : l.length < 9223372036854775808) : ∃ k, pursuivantlaw18_few.f k a h i l = some (fewB l) :=
  ⟨l.length + 1, few_l l a h i hl l.length 0 (by omega) (fun j hj => by omega)⟩

/-! ### laid -/
def capB (c : S54) : List Int := c.f0 :: ((c.f1.length : Int) % 256) :: c.f1
def laidL (l : List S54) : List Int := l.flatMap capB
theorem laidL_snoc (l : List S54) (c : S54) : laidL (l ++ [c]) = laidL l ++ [c.f0, (c.f1.length : Int) % 256] ++ c.f1 := by simp [laidL, capB]
theorem laidL_take (l : List S54) (k : Nat) : (laidL (l.take k)).length ≤ (laidL l).length := by
  conv => rhs; rw [← List.take_append_drop k l]
  rw [laidL, laidL, List.flatMap_append, List.length_append]
  omega
theorem laid_l (l : List S54) (hl : l.length < 4611686018427387904) (hL : (laidL l).length < 140737488355328) : ∀ (d k : Nat), k + d = l.length → open_laid.l0 (d + 1) (laidL (l.take k)) l (l.length : Int) k = some (laidL l)
  | 0, k, hk => by
    rw [open_laid.l0, if_neg (by omega), List.take_of_length_le (by omega)]
  | d + 1, k, hk => by
    have h1 := laidL_take l (k + 1)
    rw [take_snoc l k z54 (by omega), laidL_snoc] at h1
    simp only [List.length_append, List.length_cons, List.length_nil] at h1
    rw [open_laid.l0, if_pos (by omega), if_pos (by omega), if_pos (by omega), rd_at]
    simp only [Option.bind_some]
    rw [if_pos (by simp only [List.length_cons, List.length_nil]; omega), if_pos (by simp only [List.length_append, List.length_cons, List.length_nil]; omega), up64 k (by omega), ← laidL_snoc, ← take_snoc l k z54 (by omega)]
    exact laid_l l hl hL d (k + 1) (by omega)
theorem laid_ex (l : List S54) (hl : l.length < 4611686018427387904) (hL : (laidL l).length < 140737488355328) : ∃ k, open_laid.f k l = some (laidL l) :=
  ⟨l.length + 1, laid_l l hl hL l.length 0 (by omega)⟩
def laidO (o : Opn) : List Int := laidL (⟨65, high4 o.a⟩ :: o.l)
theorem laidO_eq (o : Opn) : laidO o = ([65, 4] ++ high4 o.a) ++ laidL o.l := by simp [laidO, laidL, capB, high4]
theorem rlaid_l (p : List Int) (a h i : Int) (l : List S54) (hl : l.length < 4611686018427387904) (hL : p.length + (laidL l).length < 140737488355328) : ∀ (d k : Nat), k + d = l.length → pursuivantref18_laid.l0 (d + 1) (p ++ laidL (l.take k)) k a h i l = some (p ++ laidL l)
  | 0, k, hk => by
    rw [pursuivantref18_laid.l0, if_neg (by omega), List.take_of_length_le (by omega)]
  | d + 1, k, hk => by
    have h1 := laidL_take l (k + 1)
    rw [take_snoc l k z54 (by omega), laidL_snoc] at h1
    simp only [List.length_append, List.length_cons, List.length_nil] at h1
    rw [pursuivantref18_laid.l0, if_pos (by omega), if_pos (by omega), rd_at]
    simp only [Option.bind_some]
    rw [if_pos (by simp only [List.length_append, List.length_cons, List.length_nil]; omega), if_pos (by simp only [List.length_append, List.length_cons, List.length_nil]; omega), up64 k (by omega), List.append_assoc p, List.append_assoc p, ← laidL_snoc, ← take_snoc l k z54 (by omega)]
    exact rlaid_l p a h i l hl hL d (k + 1) (by omega)
theorem tdivN (a b : Nat) : Int.tdiv (a : Int) (b : Int) = ((a / b : Nat) : Int) := by rw [Int.tdiv_eq_ediv_of_nonneg (by omega)]; rfl
theorem tmodN (a b : Nat) : Int.tmod (a : Int) (b : Int) = ((a % b : Nat) : Int) := by rw [Int.tmod_eq_emod_of_nonneg (by omega)]; rfl
theorem rhead (a : Nat) (ha : a < 4294967296) : ([65, 4, ((Int.tdiv a 16777216) % 4294967296) % 256, ((Int.tdiv a 65536) % 4294967296) % 256, ((Int.tdiv a 256) % 4294967296) % 256, (Int.tmod a 256) % 256] : List Int) = [65, 4] ++ high4 a := by
  have e1 : Int.tdiv (a : Int) 16777216 = ((a / 16777216 : Nat) : Int) := tdivN a 16777216
  have e2 : Int.tdiv (a : Int) 65536 = ((a / 65536 : Nat) : Int) := tdivN a 65536
  have e3 : Int.tdiv (a : Int) 256 = ((a / 256 : Nat) : Int) := tdivN a 256
  have e4 : Int.tmod (a : Int) 256 = ((a % 256 : Nat) : Int) := tmodN a 256
  rw [e1, e2, e3, e4]
  show [65, 4, _, _, _, _] = [65, 4, _, _, _, _]
  congr 4
  · omega
  congr 1
  · omega
  congr 1
  · omega
  congr 1
  omega
theorem rlaid_ex (o : Opn) (ho : o.Wf) (hl : o.l.length < 4611686018427387904) (hL : (laidO o).length < 140737488355328) : ∃ k, pursuivantref18_laid.f k o.a o.h o.i o.l = some (laidO o) := by
  refine ⟨o.l.length + 1, ?_⟩
  rw [pursuivantref18_laid.f, rhead o.a ho.1, laidO_eq]
  rw [laidO_eq, List.length_append] at hL
  have := rlaid_l ([65, 4] ++ high4 o.a) o.a o.h o.i o.l hl hL o.l.length 0 (by omega)
  simpa [laidL] using this

/-! ### Check -/
def badB (c : S54) : Bool := c.f0 == 0 || c.f0 == 65 || decide (100 < c.f1.length)
def riseA (l : List S54) (j : Nat) : Bool := !(badB (l.getD j z54)) && (j == 0 || decide ((l.getD (j - 1) z54).f0 < (l.getD j z54).f0))
def riseB (l : List S54) : Bool := (List.range l.length).all (riseA l) && decide (l.length ≤ 8)
theorem rise_bad {l : List S54} {j : Nat} (h : badB (l.getD j z54) = true) : riseA l j = false := by rw [riseA, h]; rfl
theorem rise_no {l : List S54} {j : Nat} (hj : j < l.length) (h : riseA l j = false) : riseB l = false := by
  have : (List.range l.length).all (riseA l) = false := by
    rw [List.all_eq_false]
    exact ⟨j, List.mem_range.2 hj, by rw [h]; simp⟩
  rw [riseB, this, Bool.false_and]
theorem rise_yes {l : List S54} (h : ∀ j, j < l.length → riseA l j = true) : riseB l = decide (l.length ≤ 8) := by
  have : (List.range l.length).all (riseA l) = true := by
    rw [List.all_eq_true]
    exact fun j hj => h j (List.mem_range.1 hj)
  rw [riseB, this, Bool.true_and]
def checkN (o : Opn) : Int := if o.a = 0 ∨ o.h = 1 ∨ o.h = 2 ∨ o.i = 0 ∨ riseB o.l = false then 2 else if 253 < (laidO o).length then 3 else 0
theorem mono_up {α : Type} {f : Nat → Option α} (hm : ∀ k, LeO (f k) (f (k + 1))) {k : Nat} {r : α} (h : f k = some r) : ∀ m, k ≤ m → f m = some r := by
  intro m hkm
  induction m with
  | zero =>
    have : k = 0 := by omega
    subst this
    exact h
  | succ m ih =>
    by_cases h2 : k = m + 1
    · subst h2
      exact h
    · exact hm m r (ih (by omega))
theorem bad0 {c : S54} (h : c.f0 = 0) : badB c = true := by rw [badB, h]; rfl
theorem bad65 {c : S54} (h : c.f0 = 65) : badB c = true := by rw [badB, h]; rfl
theorem badLong {c : S54} (h : (c.f1.length : Int) > 100) : badB c = true := by rw [badB, decide_eq_true (by omega : 100 < c.f1.length), Bool.or_true]
theorem badNot {c : S54} (h0 : c.f0 ≠ 0) (h1 : c.f0 ≠ 65) (h2 : ¬ (c.f1.length : Int) > 100) : badB c = false := by
  rw [badB, beq_false_of_ne h0, beq_false_of_ne h1, decide_eq_false (by omega)]
  rfl
theorem rise_first {l : List S54} (hb : badB (l.getD 0 z54) = false) : riseA l 0 = true := by rw [riseA, hb]; rfl
theorem rise_next {l : List S54} {k : Nat} (hb : badB (l.getD k z54) = false) (h : (l.getD (k - 1) z54).f0 < (l.getD k z54).f0) : riseA l k = true := by rw [riseA, hb, decide_eq_true h, Bool.or_true]; rfl
theorem rise_ge {l : List S54} {k : Nat} (h0 : k ≠ 0) (h : ¬ (l.getD (k - 1) z54).f0 < (l.getD k z54).f0) : riseA l k = false := by
  rw [riseA, decide_eq_false h, beq_false_of_ne h0, Bool.or_false, Bool.and_false]
theorem checkN_no {o : Opn} (h : o.a = 0 ∨ o.h = 1 ∨ o.h = 2 ∨ o.i = 0 ∨ riseB o.l = false) : checkN o = 2 := by rw [checkN, if_pos h]
theorem checkN_yes {o : Opn} (h : ¬ (o.a = 0 ∨ o.h = 1 ∨ o.h = 2 ∨ o.i = 0)) (h2 : riseB o.l = true) : checkN o = if 253 < (laidO o).length then 3 else 0 := by
  rw [checkN, if_neg]
  rintro (h3 | h3 | h3 | h3 | h3)
  · exact h (.inl h3)
  · exact h (.inr (.inl h3))
  · exact h (.inr (.inr (.inl h3)))
  · exact h (.inr (.inr (.inr h3)))
  · rw [h2] at h3
    cases h3
theorem check_end (m : Nat) (a h i : Int) (l : List S54) (k : Nat) (hk : ¬ (k : Int) < (l.length : Int)) (L : List Int) (hm : pursuivantref18_laid.f m a h i l = some L) (hL : L.length < 140737488355328) : pursuivantref18_Check.l0 (m + 1) k a h i l = some (if 253 < L.length then 3 else 0) := by
  rw [pursuivantref18_Check.l0, if_neg hk, hm, Option.bind_some, id64 _ (by omega) (by omega)]
  by_cases h3 : 253 < L.length
  · rw [if_pos h3, if_pos (by omega)]
  · rw [if_neg h3, if_neg (by omega)]
theorem check_no (m : Nat) (a h i : Int) (l : List S54) (k : Nat) (hk : k < l.length) (hl : l.length ≤ 8) (hw : WfL l) (hr : riseA l k = false) : pursuivantref18_Check.l0 (m + 1) k a h i l = some 2 := by
  have hc := (hw _ (getD_mem l k z54 hk)).1
  rw [pursuivantref18_Check.l0, if_pos (by omega), if_pos (by omega), rd_at, id64 (l.getD k z54).f0 (by omega) (by omega)]
  by_cases c0 : (l.getD k z54).f0 = 0
  · rw [if_pos c0]
  rw [if_neg c0]
  by_cases c1 : (l.getD k z54).f0 = 65
  · rw [if_pos c1]
  rw [if_neg c1]
  by_cases c2 : ((l.getD k z54).f1.length : Int) > 100
  · rw [if_pos c2]
  rw [if_neg c2]
  have hb := badNot c0 c1 c2
  by_cases c3 : k = 0
  · subst c3
    rw [rise_first hb] at hr
    cases hr
  · rw [if_pos (by omega), dn64 k (by omega) (by omega), if_pos (by omega), if_pos (by omega), rd_at]
    by_cases c4 : (l.getD (k - 1) z54).f0 < (l.getD k z54).f0
    · rw [rise_next hb c4] at hr
      cases hr
    · rw [if_pos (by omega)]
theorem check_go (m : Nat) (a h i : Int) (l : List S54) (k : Nat) (hk : k < l.length) (hl : l.length ≤ 8) (hw : WfL l) (hr : riseA l k = true) : pursuivantref18_Check.l0 (m + 1) k a h i l = pursuivantref18_Check.l0 m ((k + 1 : Nat) : Int) a h i l := by
  have hc := (hw _ (getD_mem l k z54 hk)).1
  have hb : badB (l.getD k z54) = false := by
    cases hb : badB (l.getD k z54)
    · rfl
    · rw [rise_bad hb] at hr
      cases hr
  rw [pursuivantref18_Check.l0, if_pos (by omega), if_pos (by omega), rd_at, id64 (l.getD k z54).f0 (by omega) (by omega)]
  by_cases c0 : (l.getD k z54).f0 = 0
  · rw [bad0 c0] at hb
    cases hb
  rw [if_neg c0]
  by_cases c1 : (l.getD k z54).f0 = 65
  · rw [bad65 c1] at hb
    cases hb
  rw [if_neg c1]
  by_cases c2 : ((l.getD k z54).f1.length : Int) > 100
  · rw [badLong c2] at hb
    cases hb
  rw [if_neg c2]
  by_cases c3 : k = 0
  · subst c3
    rw [if_neg (by omega), up64 0 (by omega)]
  · rw [if_pos (by omega), dn64 k (by omega) (by omega), if_pos (by omega), if_pos (by omega), rd_at]
    by_cases c4 : (l.getD (k - 1) z54).f0 < (l.getD k z54).f0
    · rw [if_neg (by omega), up64 k (by omega)]
    · rw [rise_ge c3 c4] at hr
      cases hr
theorem check_l (o : Opn) (ho : o.Wf) (hl : o.l.length ≤ 8) (hL : (laidO o).length < 140737488355328) (h1 : ¬ (o.a = 0 ∨ o.h = 1 ∨ o.h = 2 ∨ o.i = 0)) (kk : Nat) (hkk : ∀ m, kk ≤ m → pursuivantref18_laid.f m o.a o.h o.i o.l = some (laidO o)) (d : Nat) : ∀ (k : Nat), k + d = o.l.length → (∀ j, j < k → riseA o.l j = true) → ∃ K, ∀ m, K ≤ m → pursuivantref18_Check.l0 m k o.a o.h o.i o.l = some (checkN o) := by
  induction d with
  | zero =>
    intro k hk hp
    have hr : riseB o.l = true := by rw [rise_yes (fun j hj => hp j (by omega))]; exact decide_eq_true hl
    refine ⟨kk + 1, fun m hm => ?_⟩
    obtain ⟨m, rfl⟩ : ∃ m', m = m' + 1 := ⟨m - 1, by omega⟩
    rw [checkN_yes h1 hr]
    exact check_end m _ _ _ _ k (by omega) _ (hkk m (by omega)) hL
  | succ d ih =>
    intro k hk hp
    cases hr : riseA o.l k with
    | false =>
      refine ⟨1, fun m hm => ?_⟩
      obtain ⟨m, rfl⟩ : ∃ m', m = m' + 1 := ⟨m - 1, by omega⟩
      rw [check_no m _ _ _ _ k (by omega) hl ho.2.2.2 hr, checkN_no (.inr (.inr (.inr (.inr (rise_no (by omega) hr)))))]
    | true =>
      obtain ⟨K, hK⟩ := ih (k + 1) (by omega) (fun j hj => by
        by_cases h3 : j < k
        · exact hp j h3
        · have : j = k := by omega
          subst this
          exact hr)
      refine ⟨K + 1, fun m hm => ?_⟩
      obtain ⟨m, rfl⟩ : ∃ m', m = m' + 1 := ⟨m - 1, by omega⟩
      rw [check_go m _ _ _ _ k (by omega) hl ho.2.2.2 hr]
      exact hK m (by omega)
theorem check_ex (o : Opn) (ho : o.Wf) (hl : o.l.length < 4611686018427387904) (hL : (laidO o).length < 140737488355328) : ∃ k, pursuivantref18_Check.f k o.a o.h o.i o.l = some (checkN o) := by
  obtain ⟨kk, hkk⟩ := rlaid_ex o ho hl hL
  have yes : ∀ k b, b = true → checkN o = 2 → pursuivantref18_Check.j0 (k + 1) b o.a o.h o.i o.l = some (checkN o) := fun k b hb h => by rw [pursuivantref18_Check.j0, if_pos hb, h]
  by_cases c4 : o.l.length ≤ 8
  · by_cases c : o.a = 0 ∨ o.h = 1 ∨ o.h = 2 ∨ o.i = 0
    · have h2 : checkN o = 2 := checkN_no (by omega)
      refine ⟨1, ?_⟩
      rw [pursuivantref18_Check.f]
      by_cases c0 : o.a = 0
      · rw [if_pos (by omega), yes _ _ rfl h2]
      rw [if_neg (by omega)]
      by_cases c1 : o.h = 1
      · rw [if_pos (by omega), yes _ _ rfl h2]
      rw [if_neg (by omega)]
      by_cases c2 : o.h = 2
      · rw [if_pos (by omega), yes _ _ rfl h2]
      rw [if_neg (by omega), if_pos (by omega), yes _ _ rfl h2]
    · obtain ⟨K, hK⟩ := check_l o ho c4 hL c kk (mono_up (fun k => pursuivantref18_laid.mono _ _ _ _ k) hkk) o.l.length 0 (by omega) (fun j hj => by omega)
      refine ⟨K + 1, ?_⟩
      rw [pursuivantref18_Check.f, if_neg (by omega), if_neg (by omega), if_neg (by omega), if_neg (by omega), decide_eq_false (by omega), pursuivantref18_Check.j0, if_neg (by simp)]
      exact hK K (Nat.le_refl _)
  · have h2 : checkN o = 2 := checkN_no (.inr (.inr (.inr (.inr (by rw [riseB, decide_eq_false c4, Bool.and_false])))))
    refine ⟨1, ?_⟩
    rw [pursuivantref18_Check.f, decide_eq_true (by omega)]
    rw [yes _ _ rfl h2]
    simp only [ite_self]

/-! ### Raw -/
def shortN (a : Nat) : Nat := if a < 65536 then a else 23456
theorem short_ex (a : Nat) : open_short.f a = some (shortN a : Int) := by
  rw [open_short.f, shortN]
  by_cases h : a < 65536
  · rw [if_neg (by omega), if_pos h]
    have : IntKind.u16.wrap (a : Int) = a := by rw [IntKind.wrap_u16]; omega
    rw [this]
  · rw [if_pos (by omega), if_neg h]
    rfl
theorem rshort_ex (a : Nat) : pursuivantref18_short.f a = some (shortN a : Int) := by
  rw [pursuivantref18_short.f, shortN]
  by_cases h : a < 65536
  · rw [if_pos (by omega), if_pos h]
  · rw [if_neg (by omega), if_neg h]
    rfl
def rawB (o : Opn) : List Int := ([4] ++ high2 (shortN o.a) ++ high2 o.h) ++ high4 o.i ++ [(((laidO o).length : Int) + 2) % 256, 2, ((laidO o).length : Int) % 256] ++ laidO o
theorem rraw_ex (o : Opn) (ho : o.Wf) (hl : o.l.length < 4611686018427387904) (hL : (laidO o).length < 140737488355000) : ∃ k, pursuivantref18_Raw.f k o.a o.h o.i o.l = some (rawB o) := by
  obtain ⟨kk, hkk⟩ := rlaid_ex o ho hl (by omega)
  have hs : shortN o.a < 65536 := by rw [shortN]; split <;> omega
  refine ⟨kk, ?_⟩
  rw [pursuivantref18_Raw.f, hkk, rshort_ex]
  simp only [Option.bind_some]
  have e1 : Int.tdiv (shortN o.a : Int) 256 = ((shortN o.a / 256 : Nat) : Int) := tdivN (shortN o.a) 256
  have e2 : Int.tmod (shortN o.a : Int) 256 = ((shortN o.a % 256 : Nat) : Int) := tmodN (shortN o.a) 256
  have e3 : Int.tdiv (o.h : Int) 256 = ((o.h / 256 : Nat) : Int) := tdivN o.h 256
  have e4 : Int.tmod (o.h : Int) 256 = ((o.h % 256 : Nat) : Int) := tmodN o.h 256
  have f1 : Int.tdiv (o.i : Int) 16777216 = ((o.i / 16777216 : Nat) : Int) := tdivN o.i 16777216
  have f2 : Int.tdiv (o.i : Int) 65536 = ((o.i / 65536 : Nat) : Int) := tdivN o.i 65536
  have f3 : Int.tdiv (o.i : Int) 256 = ((o.i / 256 : Nat) : Int) := tdivN o.i 256
  have f4 : Int.tmod (o.i : Int) 256 = ((o.i % 256 : Nat) : Int) := tmodN o.i 256
  rw [e1, e2, e3, e4, f1, f2, f3, f4, IntKind.wrap_u16, id64 _ (by omega) (by omega)]
  have hh := ho.2.1
  have hi := ho.2.2.1
  have g1 : ([4, ((shortN o.a / 256 : Nat) : Int) % 4294967296 % 256, ((shortN o.a % 256 : Nat) : Int) % 256, ((o.h / 256 : Nat) : Int) % 65536 % 256, ((o.h % 256 : Nat) : Int) % 256] : List Int) = [4] ++ high2 (shortN o.a) ++ high2 o.h := by
    show [4, _, _, _, _] = [4, _, _, _, _]
    congr 2
    · omega
    congr 1
    · omega
    congr 1
    · omega
    congr 1
    omega
  have g2 : ([((o.i / 16777216 : Nat) : Int) % 4294967296 % 256, ((o.i / 65536 : Nat) : Int) % 4294967296 % 256, ((o.i / 256 : Nat) : Int) % 4294967296 % 256, ((o.i % 256 : Nat) : Int) % 256] : List Int) = high4 o.i := by
    show [_, _, _, _] = [_, _, _, _]
    congr 1
    · omega
    congr 1
    · omega
    congr 1
    · omega
    congr 1
    omega
  rw [g1, g2, if_pos (by simp [high2, high4]), if_pos (by simp [high2, high4]), if_pos (by simp [high2, high4]; omega)]
  rfl

/-! ### numbers of bytes -/
def num2 (b : List Int) : Int := b.getD 0 0 * 256 + b.getD 1 0
def num4 (b : List Int) : Int := ((b.getD 0 0 * 256 + b.getD 1 0) * 256 + b.getD 2 0) * 256 + b.getD 3 0
theorem or_byte (a b : Int) (ha : 0 ≤ a) (ha2 : a < 4294967296) (hb : 0 ≤ b ∧ b ≤ 255) : Go.bits .or .u64 (IntKind.u64.wrap ((IntKind.u64.wrap a) * 256)) (IntKind.u64.wrap b) = a * 256 + b := by
  obtain ⟨n, rfl⟩ := Int.eq_ofNat_of_zero_le ha
  obtain ⟨m, rfl⟩ := Int.eq_ofNat_of_zero_le hb.1
  have h1 : IntKind.u64.wrap ((IntKind.u64.wrap (n : Int)) * 256) = ((n * 256 : Nat) : Int) := by rw [IntKind.wrap_u64, IntKind.wrap_u64]; omega
  have h2 : IntKind.u64.wrap (m : Int) = (m : Int) := by rw [IntKind.wrap_u64]; omega
  rw [h1, h2, bits_or_u64_nat _ _ (by omega) (by omega)]
  have h3 := Nat.shiftLeft_add_eq_or_of_lt (i := 8) (b := m) (by omega) n
  rw [Nat.shiftLeft_eq] at h3
  rw [show n * 256 = n * 2 ^ 8 from rfl, ← h3]
  omega
end Go.Proofs.Yticilaoibjbgfaa.Op

set_option linter.unusedSimpArgs false
set_option linter.unusedVariables false
namespace Go.Proofs.Yticilaoibjbgfaa.Op
open Go.RowKit Go.Proofs.YticilaoibjbgfaaW.PrintWords Go.Proofs.YticilaoibjbgfaaW.PrintLast Go.Proofs.YticilaoibjbgfaaW.PrintMore Go.Proofs.Yticilaoibjbgfaa.POpenRaws Go.Proofs.Yticilaoibjbgfaa.Lib Go.Proofs.Yticilaoibjbgfaa.High

theorem number16_ex (b : List Int) (hb : b.length = 2) (hw : Byt b) : ∃ k, open_number_uint16.f k b = some (num2 b) := by
  match b, hb with
  | [x, y], _ =>
    have hx := hw x (by simp)
    have hy := hw y (by simp)
    refine ⟨3, ?_⟩
    show open_number_uint16.l0 3 0 [x, y] 2 0 = _
    rw [open_number_uint16.l0, if_pos (by decide), if_pos (by decide), if_pos (show (0 : Int) < (([x, y] : List Int).length : Int) by simp), show rd [x, y] 0 = x from rfl, show wrap64 (0 + 1) = 1 by unfold wrap64; omega, or_byte 0 x (by decide) (by decide) hx, IntKind.wrap_u16]
    rw [open_number_uint16.l0, if_pos (by decide), if_pos (by decide), if_pos (show (1 : Int) < (([x, y] : List Int).length : Int) by simp), show rd [x, y] 1 = y from rfl, show wrap64 (1 + 1) = 2 by unfold wrap64; omega, or_byte _ y (by omega) (by omega) hy, IntKind.wrap_u16]
    rw [open_number_uint16.l0, if_neg (by decide)]
    show some _ = some (x * 256 + y)
    congr 1
    omega
theorem number32_ex (b : List Int) (hb : b.length = 4) (hw : Byt b) : ∃ k, open_number_uint32.f k b = some (num4 b) := by
  match b, hb with
  | [x, y, z, t], _ =>
    have hx := hw x (by simp)
    have hy := hw y (by simp)
    have hz := hw z (by simp)
    have ht := hw t (by simp)
    refine ⟨5, ?_⟩
    show open_number_uint32.l0 5 0 [x, y, z, t] 4 0 = _
    rw [open_number_uint32.l0, if_pos (by decide), if_pos (by decide), if_pos (show (0 : Int) < (([x, y, z, t] : List Int).length : Int) by simp), show rd [x, y, z, t] 0 = x from rfl, show wrap64 (0 + 1) = 1 by unfold wrap64; omega, or_byte 0 x (by decide) (by decide) hx]
    rw [open_number_uint32.l0, if_pos (by decide), if_pos (by decide), if_pos (show (1 : Int) < (([x, y, z, t] : List Int).length : Int) by simp), show rd [x, y, z, t] 1 = y from rfl, show wrap64 (1 + 1) = 2 by unfold wrap64; omega, or_byte _ y (by omega) (by omega) hy]
    rw [open_number_uint32.l0, if_pos (by decide), if_pos (by decide), if_pos (show (2 : Int) < (([x, y, z, t] : List Int).length : Int) by simp), show rd [x, y, z, t] 2 = z from rfl, show wrap64 (2 + 1) = 3 by unfold wrap64; omega, or_byte _ z (by omega) (by omega) hz]
    rw [open_number_uint32.l0, if_pos (by decide), if_pos (by decide), if_pos (show (3 : Int) < (([x, y, z, t] : List Int).length : Int) by simp), show rd [x, y, z, t] 3 = t from rfl, show wrap64 (3 + 1) = 4 by unfold wrap64; omega, or_byte _ t (by omega) (by omega) ht]
    rw [open_number_uint32.l0, if_neg (by decide)]
    show some _ = some (((x * 256 + y) * 256 + z) * 256 + t)
    congr 1
    omega
theorem word2_ex (b : List Int) (hb : b.length = 2) (hw : Byt b) : ∃ k, pursuivantref18_word.f k b = some (num2 b) := by
  match b, hb with
  | [x, y], _ =>
    have hx := hw x (by simp)
    have hy := hw y (by simp)
    refine ⟨3, ?_⟩
    show pursuivantref18_word.l0 3 [x, y] 0 0 = _
    rw [pursuivantref18_word.l0, if_pos (show (0 : Int) < (([x, y] : List Int).length : Int) by simp), if_pos (by decide), show rd [x, y] 0 = x from rfl, show wrap64 (0 + 1) = 1 by unfold wrap64; omega]
    rw [pursuivantref18_word.l0, if_pos (show (1 : Int) < (([x, y] : List Int).length : Int) by simp), if_pos (by decide), show rd [x, y] 1 = y from rfl, show wrap64 (1 + 1) = 2 by unfold wrap64; omega]
    rw [pursuivantref18_word.l0, if_neg (show ¬ (2 : Int) < (([x, y] : List Int).length : Int) by simp)]
    show some _ = some (x * 256 + y)
    congr 1
    omega
theorem word4_ex (b : List Int) (hb : b.length = 4) (hw : Byt b) : ∃ k, pursuivantref18_word.f k b = some (num4 b) := by
  match b, hb with
  | [x, y, z, t], _ =>
    have hx := hw x (by simp)
    have hy := hw y (by simp)
    have hz := hw z (by simp)
    have ht := hw t (by simp)
    refine ⟨5, ?_⟩
    show pursuivantref18_word.l0 5 [x, y, z, t] 0 0 = _
    rw [pursuivantref18_word.l0, if_pos (show (0 : Int) < (([x, y, z, t] : List Int).length : Int) by simp), if_pos (by decide), show rd [x, y, z, t] 0 = x from rfl, show wrap64 (0 + 1) = 1 by unfold wrap64; omega]
    rw [pursuivantref18_word.l0, if_pos (show (1 : Int) < (([x, y, z, t] : List Int).length : Int) by simp), if_pos (by decide), show rd [x, y, z, t] 1 = y from rfl, show wrap64 (1 + 1) = 2 by unfold wrap64; omega]
    rw [pursuivantref18_word.l0, if_pos (show (2 : Int) < (([x, y, z, t] : List Int).length : Int) by simp), if_pos (by decide), show rd [x, y, z, t] 2 = z from rfl, show wrap64 (2 + 1) = 3 by unfold wrap64; omega]
    rw [pursuivantref18_word.l0, if_pos (show (3 : Int) < (([x, y, z, t] : List Int).length : Int) by simp), if_pos (by decide), show rd [x, y, z, t] 3 = t from rfl, show wrap64 (3 + 1) = 4 by unfold wrap64; omega]
    rw [pursuivantref18_word.l0, if_neg (show ¬ (4 : Int) < (([x, y, z, t] : List Int).length : Int) by simp)]
    show some _ = some (((x * 256 + y) * 256 + z) * 256 + t)
    congr 1
    omega
theorem num2_bd {b : List Int} (hb : b.length = 2) (hw : Byt b) : 0 ≤ num2 b ∧ num2 b < 65536 := by
  match b, hb with
  | [x, y], _ =>
    have hx := hw x (by simp)
    have hy := hw y (by simp)
    show 0 ≤ x * 256 + y ∧ x * 256 + y < 65536
    omega
theorem num4_bd {b : List Int} (hb : b.length = 4) (hw : Byt b) : 0 ≤ num4 b ∧ num4 b < 4294967296 := by
  match b, hb with
  | [x, y, z, t], _ =>
    have hx := hw x (by simp)
    have hy := hw y (by simp)
    have hz := hw z (by simp)
    have ht := hw t (by simp)
    show 0 ≤ ((x * 256 + y) * 256 + z) * 256 + t ∧ ((x * 256 + y) * 256 + z) * 256 + t < 4294967296
    omega

/-! ### capabilities of bytes -/
def eachF : Nat → List Int → List S54
  | 0, _ => []
  | d + 1, b =>
    if b.length = 0 then [] else if b.length < 2 ∨ (b.length : Int) < 2 + b.getD 1 0 then [z54]
    else ⟨b.getD 0 0, (b.take (2 + (b.getD 1 0).toNat)).drop 2⟩ :: eachF d (b.drop (2 + (b.getD 1 0).toNat))
theorem eachF_more : ∀ (d e : Nat) (b : List Int), b.length ≤ d → d ≤ e → eachF e b = eachF d b
  | 0, 0, b, _, _ => rfl
  | 0, e + 1, b, h, _ => by
    have : b = [] := List.length_eq_zero_iff.1 (by omega)
    subst this
    rfl
  | d + 1, e + 1, b, h, he => by
    rw [eachF, eachF]
    split
    · rfl
    split
    · rfl
    · rw [eachF_more d e (b.drop (2 + (b.getD 1 0).toNat)) (by rw [List.length_drop]; omega) (by omega)]
def eachL (b : List Int) : List S54 := eachF b.length b
theorem eachL_nil {b : List Int} (h : b.length = 0) : eachL b = [] := by rw [eachL, h, eachF]
theorem eachL_bad {b : List Int} (h : b.length ≠ 0) (h2 : b.length < 2 ∨ (b.length : Int) < 2 + b.getD 1 0) : eachL b = [z54] := by
  obtain ⟨n, hn⟩ : ∃ n, b.length = n + 1 := ⟨b.length - 1, by omega⟩
  rw [eachL, hn, eachF, if_neg h, if_pos h2]
theorem eachL_one {b : List Int} (h : b.length ≠ 0) (h2 : ¬ (b.length < 2 ∨ (b.length : Int) < 2 + b.getD 1 0)) : eachL b = ⟨b.getD 0 0, (b.take (2 + (b.getD 1 0).toNat)).drop 2⟩ :: eachL (b.drop (2 + (b.getD 1 0).toNat)) := by
  obtain ⟨n, hn⟩ : ∃ n, b.length = n + 1 := ⟨b.length - 1, by omega⟩
  rw [eachL, hn, eachF, if_neg h, if_neg h2, eachL, eachF_more _ n _ (Nat.le_refl _) (by rw [List.length_drop]; omega)]
def okB (c : S54) : Bool := !(c.f0 == 0 || decide (100 < c.f1.length))
/-- what is read may be -/
def okL (l : List S54) : Bool := l.all okB && (l.length == 0 || riseB l.tail)
end Go.Proofs.Yticilaoibjbgfaa.Op

set_option linter.unusedSimpArgs false
set_option linter.unusedVariables false
namespace Go.Proofs.Yticilaoibjbgfaa.Op
open Go.RowKit Go.Proofs.YticilaoibjbgfaaW.PrintWords Go.Proofs.YticilaoibjbgfaaW.PrintLast Go.Proofs.YticilaoibjbgfaaW.PrintMore Go.Proofs.Yticilaoibjbgfaa.POpenRaws Go.Proofs.Yticilaoibjbgfaa.Lib Go.Proofs.Yticilaoibjbgfaa.High Go.Proofs.Yticilaoibjbgfaa.Lex

theorem C_cap {w : World} {A : Option Addr} {n : Nat} {l : List S54} (h : Kd.C k54 w A n l) (k : Nat) (hk : k < n) :
    ∃ b o A1 c1, A = some ⟨b, o, none⟩ ∧ w.cell? ⟨b, o + k * 2, none⟩ = some (.int .u8 (l.getD k z54).f0) ∧ w.cell? ⟨b, o + k * 2 + 1, none⟩ = some (.slice A1 (l.getD k z54).f1.length c1) ∧ (l.getD k z54).f1.length ≤ c1 ∧ Kd.C KB w A1 (l.getD k z54).f1.length (l.getD k z54).f1 := by
  obtain ⟨ad, c, e, _, hK, hc0⟩ := Kd.C_get h z54 k (by omega) (by omega)
  obtain ⟨A1, c1, hK', hl, hC⟩ := k54_open hK
  subst hK'
  have hq := hc0 0 _ rfl
  have hq1 := hc0 1 _ rfl
  obtain ⟨b, o, e1⟩ := C_addr (by show 0 < 2; decide) h (by omega)
  rw [e] at e1
  injection e1 with e1
  subst e1
  rw [add_none] at hq hq1
  exact ⟨b, o, A1, c1, e, hq, hq1, hl, hC⟩
theorem heap54 : Kd.Heap k54 := Kd.heap_iso _ (Kd.heap_pair (Kd.heap_int _) (Kd.heap_slice _ (Kd.heap_int _)))
/-- what is read stays so while its world's blocks stay -/
theorem F_came {α : Type} {d : Kd α} (hd : Kd.Heap d) {w W : World} {A : Option Addr} {n : Nat} {xs : List α} (h : Kd.C d w A n xs) (hb : Below w.heap.size w W) : Kd.F d W (fun k => k < w.heap.size) A n xs :=
  fun W' h' => Kd.Heap.C hd (fun k hk => (h' k hk (Nat.lt_of_lt_of_le hk hb.size)).trans (hb.block k hk)) h
/-- a row of one capability -/
theorem one54 {b : Nat} {w : World} {u : Value} (x : S54) (hu : OB b w u x.f1) (hb : b ≤ w.heap.size) : Kd.N k54 54 (w.alloc (.cells #[.int .u8 x.f0, u] 54)) b (fun _ => True) (.slice (some ⟨w.heap.size, 0, none⟩) 1 1) [x] :=
  Kd.R_N (show Kd.R k54 54 (w.alloc (.cells #[.int .u8 x.f0, u] 54)) b (fun _ => True) (.slice (some ⟨w.heap.size, 0, none⟩) 1 1) [x] from
    ⟨fun _ _ => trivial, OwnRow.lit (ps := [x]) (inner := [.int .u8 x.f0, u]) w b ⟨rfl, fun j p hj => by
      cases j with
      | zero =>
        have : p = x := by simpa using hj.symm
        subst this
        exact k54_mkM _ _ _ _ (Kd.R_below (Kd.R_mono (Kd.R_bound hu) (fun k hk => ⟨trivial, fun e => by
          have h1 := hk.2.2.1
          have e2 : k = w.heap.size := Option.some.inj e
          omega⟩)) (below_alloc (Below.refl _ _) _))
      | succ j => simp at hj⟩ hb (by simp)⟩)
theorem wr_nat (j : Nat) (h : j < 1000000) : IntKind.i64.wrap (j : Int) = (j : Int) := by rw [IntKind.wrap_i64]; omega
theorem dec100 (n : Nat) : decide (100 < n) = decide ((100 : Int) < (n : Int)) := by rw [decide_eq_decide]; omega
theorem dec8 (n : Nat) : decide (n ≤ 8) = decide ((n : Int) ≤ 8) := by rw [decide_eq_decide]; omega
abbrev aO (o : Opn) (A : Option Addr) (c : Nat) : Value := .agg #[.int .u32 o.a, .int .u16 o.h, .int .u32 o.i, .slice A o.l.length c]
set_option maxRecDepth 100000 in
set_option maxHeartbeats 4000000 in
theorem badC (c : S54) (A : Option Addr) (cc : Nat) (w : World) :
    Calls Try.prog 51 #[.agg #[.int .u8 c.f0, .slice A c.f1.length cc]] w fun e w' => e = .returned (.bool (badB c)) ∧ Below w.heap.size w w' := by
  have hb := Aside0.mk (below_alloc (Below.refl w.heap.size w) (.cells #[.int .u8 c.f0, .slice A c.f1.length cc] 54))
  have hob := Ob.new w [.int .u8 c.f0, .slice A c.f1.length cc] _ rfl 54
  have q0 := (hob 0 _ rfl).1
  have q1 := (hob 1 _ rfl).1
  obtain ⟨r, hr⟩ : ∃ r, badB c = r := ⟨_, rfl⟩
  rw [hr]
  have HR := Aside0.mk hr
  clear hob hr
  cases h0 : (c.f0 == 0) <;> cases h1 : (c.f0 == 65) <;> cases h2 : decide ((100 : Int) < (c.f1.length : Int)) <;>
  · have HE : Aside0 (badB c = _) := ⟨by rw [badB, h0, h1, dec100, h2]⟩
    go_enter Try.func51, Try.ntmps51
    go_wp2_with fail
    go_ret
    exact ⟨by rw [← HR.out, HE.out]; rfl, hb.out⟩

set_option maxRecDepth 100000 in
set_option maxHeartbeats 8000000 in
theorem riseC (A : Option Addr) (c : Nat) (l : List S54) (w : World) (hx : Kd.C k54 w A l.length l) (hll : l.length < 1000000) :
    Calls Try.prog 31 #[.slice A l.length c] w fun e w' => e = .returned (.bool (riseB l)) ∧ Below w.heap.size w w' := by
  have HX := Aside0.mk hx
  clear hx
  go_enter Try.func31, Try.ntmps31
  go_wp2_with fail
  go_loopg [8] l.length (fun gk s8 W => ∃ k : Nat, k ≤ l.length ∧ l.length - k ≤ gk ∧ s8 = .int .i64 k ∧ Aside0 (∀ j, j < k → riseA l j = true) ∧ Aside0 (Below w.heap.size w W))
  case atStart => exact ⟨0, by omega, by omega, rfl, ⟨fun j hj => by omega⟩, ⟨Below.refl _ _⟩⟩
  case round =>
    obtain ⟨k, hk, hgk, rfl, HN, HB⟩ := hrel
    by_cases hlt : k < l.length
    · obtain ⟨b, o, A1, c1, rfl, q0, q1, _, _⟩ := C_cap (Kd.C_below HX.out HB.out) k hlt
      obtain ⟨x, hxe⟩ : ∃ x, l.getD k z54 = x := ⟨_, rfl⟩
      rw [hxe] at q0 q1
      have HXE := Aside0.mk hxe
      obtain ⟨g, hg⟩ : ∃ g, wr.heap.size = g := ⟨_, rfl⟩
      obtain ⟨V, hV⟩ : ∃ V, wr.alloc (.cells #[.int .u8 x.f0, .slice A1 x.f1.length c1] 54) = V := ⟨_, rfl⟩
      have hob := Ob.new wr [.int .u8 x.f0, .slice A1 x.f1.length c1] _ rfl 54
      have hbV := below_alloc (Below.refl wr.heap.size wr) (.cells #[.int .u8 x.f0, .slice A1 x.f1.length c1] 54)
      have hsV : V.heap.size = wr.heap.size + 1 := by rw [← hV]; simp
      rw [hV, hg] at hob
      rw [hV] at hbV
      have HBV := Aside0.mk (HB.out.trans (hbV.mono HB.out.size))
      rw [hg] at hsV
      have HCE : Aside0 (∀ U : World, Below V.heap.size V U → U.cell? ⟨g, 0, none⟩ = some (.int .u8 x.f0) ∧ U.cell? ⟨g, 1, none⟩ = some (.slice A1 x.f1.length c1) ∧ Below w.heap.size w U) := ⟨fun U hU => ⟨((hob.below hU (by omega)) 0 _ rfl).1, ((hob.below hU (by omega)) 1 _ rfl).1, HBV.out.trans (hU.mono HBV.out.size)⟩⟩
      have hlI : (k : Int) < (l.length : Int) := by omega
      have HLT := Aside0.mk hlt
      have HV := Aside0.mk hV
      clear hxe hob hbV hsV hlt hV
      cases hb : badB x with
      | true =>
        have HNO := Aside0.mk (rise_no HLT.out (rise_bad (by rw [HXE.out]; exact hb)))
        have HBC := fun W => badC x A1 c1 W
        rw [hb] at HBC
        have HBC := Aside0.mk HBC
        clear hb
        go_wp2_with fail
        rw [HV.out]
        refine region [(0, .p), (1, .t), (2, .o), (3, .p), (4, .p), (5, .p), (6, .p), (7, .p), (8, .p), (9, .p), (10, .p), (11, .p), (12, .p), (13, .p), (14, .p), (15, .p), (16, .p), (17, .p)] (fun U => U.cell? ⟨g, 0, none⟩ = some (.int .u8 x.f0) ∧ U.cell? ⟨g, 1, none⟩ = some (.slice A1 x.f1.length c1) ∧ Below w.heap.size w U) (by kernel_rfl) (by kernel_rfl) (fun _ _ _ _ _ h => h) (HCE.out _ (below_drew (Below.refl _ _))) (fun hHeld => ?_)
        (refine lex_p rfl rfl rfl (by intro w'; go_simp; with_reducible rfl) (by simp only [Act.put, List.setIfInBounds_toArray, List.set_cons_zero, List.set_cons_succ, i64_w, i32_w]; rfl) ?_)
        (refine lex_t rfl rfl rfl (by rintro w' ⟨s0, s1, s2⟩; go_simp; with_reducible rfl) (by simp only [Act.put, List.setIfInBounds_toArray, List.set_cons_zero, List.set_cons_succ, i64_w, i32_w]; rfl) ?_)
        refine lex_o rfl ?_
        go_wp2_with fail
        refine (HBC.out _).mono ?_
        rintro e w2 ⟨rfl, hb2⟩
        have B2 := Aside0.mk ((below_drew (Below.refl V.heap.size V)).trans hb2)
        clear hb2
        go_wp2_with fail
        refine lex_end (by first | (simp only [Act.put, List.setIfInBounds_toArray, List.set_cons_zero, List.set_cons_succ, i64_w, i32_w]; rfl) | rfl) (HCE.out _ B2.out) (fun hHeld => ?_)
        (refine lex_p rfl rfl rfl (by intro w'; go_simp; with_reducible rfl) (by simp only [Act.put, List.setIfInBounds_toArray, List.set_cons_zero, List.set_cons_succ, i64_w, i32_w]; rfl) ?_)
        iterate 13 (refine lex_off rfl rfl rfl (by simp only [Act.put, List.setIfInBounds_toArray, List.set_cons_zero, List.set_cons_succ, i64_w, i32_w]; rfl) ?_)
        (refine lex_p rfl rfl rfl (by intro w'; go_simp; with_reducible rfl) (by simp only [Act.put, List.setIfInBounds_toArray, List.set_cons_zero, List.set_cons_succ, i64_w, i32_w]; rfl) ?_)
        refine lex_nil ?_
        go_wp2_with fail
        go_ret
        exact ⟨by rw [HNO.out]; rfl, HBV.out.trans (B2.out.mono HBV.out.size)⟩
      | false =>
        have HBF := Aside0.mk (show badB (l.getD k z54) = false by rw [HXE.out]; exact hb)
        have HBC := fun W => badC x A1 c1 W
        rw [hb] at HBC
        have HBC := Aside0.mk HBC
        clear hb
        cases k with
        | zero =>
          have HOK := Aside0.mk (rise_first HBF.out)
          simp only [Nat.zero_mul, Nat.add_zero] at q0 q1
          have hl0 := HLT.out
          go_wp2_with fail
          rw [HV.out]
          refine region [(0, .p), (1, .t), (2, .o), (3, .p), (4, .p), (5, .p), (6, .p), (7, .p), (8, .p), (9, .p), (10, .p), (11, .p), (12, .p), (13, .p), (14, .p), (15, .p), (16, .p), (17, .p)] (fun U => U.cell? ⟨g, 0, none⟩ = some (.int .u8 x.f0) ∧ U.cell? ⟨g, 1, none⟩ = some (.slice A1 x.f1.length c1) ∧ Below w.heap.size w U) (by kernel_rfl) (by kernel_rfl) (fun _ _ _ _ _ h => h) (HCE.out _ (below_drew (Below.refl _ _))) (fun hHeld => ?_)
          (refine lex_p rfl rfl rfl (by intro w'; go_simp; with_reducible rfl) (by simp only [Act.put, List.setIfInBounds_toArray, List.set_cons_zero, List.set_cons_succ, i64_w, i32_w]; rfl) ?_)
          (refine lex_t rfl rfl rfl (by rintro w' ⟨s0, s1, s2⟩; go_simp; with_reducible rfl) (by simp only [Act.put, List.setIfInBounds_toArray, List.set_cons_zero, List.set_cons_succ, i64_w, i32_w]; rfl) ?_)
          refine lex_o rfl ?_
          go_wp2_with fail
          refine (HBC.out _).mono ?_
          rintro e w2 ⟨rfl, hb2⟩
          have B2 := Aside0.mk ((below_drew (Below.refl V.heap.size V)).trans hb2)
          clear hb2
          go_wp2_with fail
          refine lex_end (by first | (simp only [Act.put, List.setIfInBounds_toArray, List.set_cons_zero, List.set_cons_succ, i64_w, i32_w]; rfl) | rfl) (HCE.out _ B2.out) (fun hHeld => ?_)
          iterate 4 (refine lex_p rfl rfl rfl (by intro w'; go_simp; with_reducible rfl) (by simp only [Act.put, List.setIfInBounds_toArray, List.set_cons_zero, List.set_cons_succ, i64_w, i32_w]; rfl) ?_)
          iterate 9 (refine lex_off rfl rfl rfl (by simp only [Act.put, List.setIfInBounds_toArray, List.set_cons_zero, List.set_cons_succ, i64_w, i32_w]; rfl) ?_)
          iterate 2 (refine lex_p rfl rfl rfl (by intro w'; go_simp; with_reducible rfl) (by simp only [Act.put, List.setIfInBounds_toArray, List.set_cons_zero, List.set_cons_succ, i64_w, i32_w]; rfl) ?_)
          refine lex_nil ?_
          go_wp2_with fail
          go_roundg (gk - 1)
          case measure => have := HLT.out; omega
          case rel => exact ⟨1, by have := HLT.out; omega, by omega, by go_num, ⟨fun j hj => by
            have : j = 0 := by omega
            subst this
            exact HOK.out⟩, ⟨HBV.out.trans (B2.out.mono HBV.out.size)⟩⟩
        | succ j =>
          obtain ⟨b', o', A2, c2, e', p0, p1, _, _⟩ := C_cap (Kd.C_below HX.out HBV.out) j (by have := HLT.out; omega)
          injection e' with e'
          injection e' with e1 e2
          subst e1 e2
          obtain ⟨y, hye⟩ : ∃ y, l.getD j z54 = y := ⟨_, rfl⟩
          rw [hye] at p0
          have HYE := Aside0.mk hye
          have hjI : (j : Int) < (l.length : Int) := by omega
          have HCP : Aside0 (∀ U : World, Below V.heap.size V U → U.cell? ⟨b, o + j * 2, none⟩ = some (.int .u8 y.f0)) := ⟨fun U hU => by
            have hl := World.block_lt_of_cell? V _ p0
            exact pw_cell_below hU p0⟩
          have HWR := Aside0.mk (wr_nat j (Nat.lt_of_le_of_lt (Nat.le_of_succ_le hk) hll))
          have hpos : decide ((0 : Int) < (j : Int) + 1) = true := decide_eq_true (by omega)
          clear p0 p1 hye
          cases hq : decide (x.f0 ≤ y.f0) with
          | true =>
            have HNO := Aside0.mk (rise_no HLT.out (rise_ge (by omega) (by rw [Nat.add_sub_cancel, HXE.out, HYE.out]; have := of_decide_eq_true hq; omega)))
            go_wp2_with fail
            rw [HV.out]
            refine region [(0, .p), (1, .t), (2, .o), (3, .p), (4, .p), (5, .p), (6, .p), (7, .p), (8, .p), (9, .p), (10, .p), (11, .p), (13, .p), (12, .t), (14, .t), (15, .p), (16, .p), (17, .p)] (fun U => U.cell? ⟨g, 0, none⟩ = some (.int .u8 x.f0) ∧ U.cell? ⟨g, 1, none⟩ = some (.slice A1 x.f1.length c1) ∧ Below w.heap.size w U ∧ U.cell? ⟨b, o + j * 2, none⟩ = some (.int .u8 y.f0)) (by kernel_rfl) (by kernel_rfl) (fun _ _ _ _ _ h => h) (⟨(HCE.out _ (below_drew (Below.refl _ _))).1, (HCE.out _ (below_drew (Below.refl _ _))).2.1, (HCE.out _ (below_drew (Below.refl _ _))).2.2, HCP.out _ (below_drew (Below.refl _ _))⟩) (fun hHeld => ?_)
            (refine lex_p rfl rfl rfl (by intro w'; go_simp; with_reducible rfl) (by simp only [Act.put, List.setIfInBounds_toArray, List.set_cons_zero, List.set_cons_succ, i64_w, i32_w]; rfl) ?_)
            (refine lex_t rfl rfl rfl (by rintro w' ⟨s0, s1, s2, s3⟩; go_simp; with_reducible rfl) (by simp only [Act.put, List.setIfInBounds_toArray, List.set_cons_zero, List.set_cons_succ, i64_w, i32_w]; rfl) ?_)
            refine lex_o rfl ?_
            go_wp2_with fail
            refine (HBC.out _).mono ?_
            rintro e w2 ⟨rfl, hb2⟩
            have B2 := Aside0.mk ((below_drew (Below.refl V.heap.size V)).trans hb2)
            clear hb2
            go_wp2_with fail
            refine lex_end (by first | (simp only [Act.put, List.setIfInBounds_toArray, List.set_cons_zero, List.set_cons_succ, i64_w, i32_w]; rfl) | rfl) (⟨(HCE.out _ B2.out).1, (HCE.out _ B2.out).2.1, (HCE.out _ B2.out).2.2, HCP.out _ B2.out⟩) (fun hHeld => ?_)
            iterate 6 (refine lex_p rfl rfl rfl (by intro w'; go_simp; with_reducible rfl) (by simp only [Act.put, List.setIfInBounds_toArray, List.set_cons_zero, List.set_cons_succ, i64_w, i32_w]; rfl) ?_)
            (refine lex_p rfl rfl rfl (by intro w'; go_simp; rw [HWR.out]) (by simp only [Act.put, List.setIfInBounds_toArray, List.set_cons_zero, List.set_cons_succ, i64_w, i32_w]; rfl) ?_)
            iterate 3 (refine lex_p rfl rfl rfl (by intro w'; go_simp; with_reducible rfl) (by simp only [Act.put, List.setIfInBounds_toArray, List.set_cons_zero, List.set_cons_succ, i64_w, i32_w]; rfl) ?_)
            iterate 2 (refine lex_t rfl rfl rfl (by rintro w' ⟨s0, s1, s2, s3⟩; go_simp; with_reducible rfl) (by simp only [Act.put, List.setIfInBounds_toArray, List.set_cons_zero, List.set_cons_succ, i64_w, i32_w]; rfl) ?_)
            iterate 3 (refine lex_p rfl rfl rfl (by intro w'; go_simp; with_reducible rfl) (by simp only [Act.put, List.setIfInBounds_toArray, List.set_cons_zero, List.set_cons_succ, i64_w, i32_w]; rfl) ?_)
            refine lex_nil ?_
            go_wp2_with fail
            go_ret
            exact ⟨by rw [HNO.out]; rfl, HBV.out.trans (B2.out.mono HBV.out.size)⟩
          | false =>
            have HOK := Aside0.mk (rise_next (k := j + 1) HBF.out (by rw [Nat.add_sub_cancel, HXE.out, HYE.out]; have := of_decide_eq_false hq; omega))
            go_wp2_with fail
            rw [HV.out]
            refine region [(0, .p), (1, .t), (2, .o), (3, .p), (4, .p), (5, .p), (6, .p), (7, .p), (8, .p), (9, .p), (10, .p), (11, .p), (13, .p), (12, .t), (14, .t), (15, .p), (16, .p), (17, .p)] (fun U => U.cell? ⟨g, 0, none⟩ = some (.int .u8 x.f0) ∧ U.cell? ⟨g, 1, none⟩ = some (.slice A1 x.f1.length c1) ∧ Below w.heap.size w U ∧ U.cell? ⟨b, o + j * 2, none⟩ = some (.int .u8 y.f0)) (by kernel_rfl) (by kernel_rfl) (fun _ _ _ _ _ h => h) (⟨(HCE.out _ (below_drew (Below.refl _ _))).1, (HCE.out _ (below_drew (Below.refl _ _))).2.1, (HCE.out _ (below_drew (Below.refl _ _))).2.2, HCP.out _ (below_drew (Below.refl _ _))⟩) (fun hHeld => ?_)
            (refine lex_p rfl rfl rfl (by intro w'; go_simp; with_reducible rfl) (by simp only [Act.put, List.setIfInBounds_toArray, List.set_cons_zero, List.set_cons_succ, i64_w, i32_w]; rfl) ?_)
            (refine lex_t rfl rfl rfl (by rintro w' ⟨s0, s1, s2, s3⟩; go_simp; with_reducible rfl) (by simp only [Act.put, List.setIfInBounds_toArray, List.set_cons_zero, List.set_cons_succ, i64_w, i32_w]; rfl) ?_)
            refine lex_o rfl ?_
            go_wp2_with fail
            refine (HBC.out _).mono ?_
            rintro e w2 ⟨rfl, hb2⟩
            have B2 := Aside0.mk ((below_drew (Below.refl V.heap.size V)).trans hb2)
            clear hb2
            go_wp2_with fail
            refine lex_end (by first | (simp only [Act.put, List.setIfInBounds_toArray, List.set_cons_zero, List.set_cons_succ, i64_w, i32_w]; rfl) | rfl) (⟨(HCE.out _ B2.out).1, (HCE.out _ B2.out).2.1, (HCE.out _ B2.out).2.2, HCP.out _ B2.out⟩) (fun hHeld => ?_)
            iterate 6 (refine lex_p rfl rfl rfl (by intro w'; go_simp; with_reducible rfl) (by simp only [Act.put, List.setIfInBounds_toArray, List.set_cons_zero, List.set_cons_succ, i64_w, i32_w]; rfl) ?_)
            (refine lex_p rfl rfl rfl (by intro w'; go_simp; rw [HWR.out]) (by simp only [Act.put, List.setIfInBounds_toArray, List.set_cons_zero, List.set_cons_succ, i64_w, i32_w]; rfl) ?_)
            iterate 3 (refine lex_p rfl rfl rfl (by intro w'; go_simp; with_reducible rfl) (by simp only [Act.put, List.setIfInBounds_toArray, List.set_cons_zero, List.set_cons_succ, i64_w, i32_w]; rfl) ?_)
            iterate 2 (refine lex_t rfl rfl rfl (by rintro w' ⟨s0, s1, s2, s3⟩; go_simp; with_reducible rfl) (by simp only [Act.put, List.setIfInBounds_toArray, List.set_cons_zero, List.set_cons_succ, i64_w, i32_w]; rfl) ?_)
            iterate 3 (refine lex_p rfl rfl rfl (by intro w'; go_simp; with_reducible rfl) (by simp only [Act.put, List.setIfInBounds_toArray, List.set_cons_zero, List.set_cons_succ, i64_w, i32_w]; rfl) ?_)
            refine lex_nil ?_
            go_wp2_with fail
            go_roundg (gk - 1)
            case measure => have := HLT.out; omega
            case rel => exact ⟨j + 1 + 1, by have := HLT.out; omega, by omega, by go_num, ⟨fun i hi => by
              by_cases e : i = j + 1
              · rw [e]
                exact HOK.out
              · exact HN.out i (by omega)⟩, ⟨HBV.out.trans (B2.out.mono HBV.out.size)⟩⟩
    · obtain rfl : k = l.length := by omega
      have HYS := Aside0.mk (rise_yes HN.out)
      have hlI : ¬ ((l.length : Int) < (l.length : Int)) := by omega
      cases hq : decide ((l.length : Int) ≤ 8) <;>
      · go_wp2_with fail
        go_ret
        exact ⟨by rw [HYS.out, dec8, hq]; rfl, HB.out⟩
end Go.Proofs.Yticilaoibjbgfaa.Op

set_option linter.unusedSimpArgs false
set_option linter.unusedVariables false
namespace Go.Proofs.Yticilaoibjbgfaa.Op
open Go.RowKit Go.Proofs.YticilaoibjbgfaaW.PrintWords Go.Proofs.YticilaoibjbgfaaW.PrintLast Go.Proofs.YticilaoibjbgfaaW.PrintMore Go.Proofs.Yticilaoibjbgfaa.POpenRaws Go.Proofs.Yticilaoibjbgfaa.Lib Go.Proofs.Yticilaoibjbgfaa.High Go.Proofs.Yticilaoibjbgfaa.Lex

abbrev NC (b : Nat) (w : World) (v : Value) (xs : List S54) : Prop := Kd.N k54 54 w b (fun _ => True) v xs
section
variable {ops : Array Oper} {rest : List Oper} {o : Oper} {a : Act} {Q : Exit → Act → World → Prop}
/-- append(v, u...) of capabilities to a row of the call's own. -/
theorem ap_caps {W : World} (b : Nat) (s x : Operand) (hgd : o.guard = none)
    (ho : o.op = .call { callee := .builtin .append, args := #[s, x], argTypes := #[24, 24] })
    {v : Value} {xs ys : List S54} {A : Option Addr} {m c : Nat} {okp : Nat → Prop} (HO : NC b W v xs) (HR : Kd.F k54 W okp A m ys) (hokp : ∀ k, okp k → some k ≠ v.ownBlock)
    (hs : a.eval s = v) (hx : a.eval x = .slice A m c) (hb : b ≤ W.heap.size) (hl : xs.length + m ≤ 1000000)
    (h : ∀ v1 w1, NC b w1 v1 (xs ++ ys) → Below b W w1 → W.grownBy w1 v.ownBlock → wpList Try.prog ops Q rest (a.put o.dst v1) w1) :
    wpList Try.prog ops Q (o :: rest) a W :=
  Kd.N_append_rows k54 (w0 := W) b hgd s x 24 54 (.agg #[.int .u8 0, .slice none 0 0]) 32 ho Try.underlying24 info54 rfl (by decide) (by decide) v xs ys A m c (fun _ => True) okp hs hx HO HR (fun k hk => ⟨trivial, hokp k hk⟩) (fun _ _ => trivial) (Below.refl _ _) hb (by omega) (fun v1 w1 h1 h2 h3 _ => h v1 w1 h1 h2 h3)
end
theorem high4_len (v : Nat) : (high4 v).length = 4 := rfl
theorem laidO_len (o : Opn) : (laidO o).length = 6 + (laidL o.l).length := by rw [laidO_eq]; simp [high4]; omega
set_option maxRecDepth 100000 in
set_option maxHeartbeats 4000000 in
theorem capsC (o : Opn) (ho : o.Wf) (A : Option Addr) (c : Nat) (w : World) (hx : Kd.C k54 w A o.l.length o.l) (hc : o.l.length ≤ c) (hL : (laidO o).length < 140737488355000) (hl : o.l.length < 500000) :
    Calls Try.prog 25 #[aO o A c] w fun e w' => ∃ v, e = .returned v ∧ OB w.heap.size w' v (laidO o) ∧ Below w.heap.size w w' := by
  obtain ⟨kk, hkk⟩ := laid_ex (⟨65, high4 o.a⟩ :: o.l) (by simp; omega) (by show (laidO o).length < _; omega)
  have HKK := Aside0.mk hkk
  have hb := below_alloc (Below.refl w.heap.size w) (.cells #[.int .u32 o.a, .int .u16 o.h, .int .u32 o.i, .slice A o.l.length c] 26)
  have hob := Ob.new w [.int .u32 o.a, .int .u16 o.h, .int .u32 o.i, .slice A o.l.length c] _ rfl 26
  obtain ⟨V, hV⟩ : ∃ V, w.alloc (.cells #[.int .u32 o.a, .int .u16 o.h, .int .u32 o.i, .slice A o.l.length c] 26) = V := ⟨_, rfl⟩
  have hsV : V.heap.size = w.heap.size + 1 := by rw [← hV]; simp
  rw [hV] at hb hob
  have HV := Aside0.mk hV
  have HBV := Aside0.mk hb
  have HXV := Aside0.mk (Kd.C_below hx hb)
  have HCE : Aside0 (∀ U : World, Below V.heap.size V U → U.cell? ⟨w.heap.size, 0, none⟩ = some (.int .u32 o.a) ∧ U.cell? ⟨w.heap.size, 3, none⟩ = some (.slice A o.l.length c)) := ⟨fun U hU => ⟨((hob.below hU (by omega)) 0 _ rfl).1, ((hob.below hU (by omega)) 3 _ rfl).1⟩⟩
  have ha := ho.1
  clear hx hb hob hsV hV hkk ho hL
  go_enter Try.func25, Try.ntmps25
  go_wp2_with fail
  rw [HV.out]
  refine region [(0, .p), (5, .p), (1, .t), (6, .t), (2, .o), (3, .p), (4, .o), (7, .o), (8, .q), (9, .p)] (fun U => U.cell? ⟨w.heap.size, 0, none⟩ = some (.int .u32 o.a) ∧ U.cell? ⟨w.heap.size, 3, none⟩ = some (.slice A o.l.length c)) (by kernel_rfl) (by kernel_rfl) (fun _ _ _ _ _ h => h) (HCE.out _ (below_drew (Below.refl _ _))) (fun hHeld => ?_)
  iterate 2 (refine lex_p rfl rfl rfl (by intro w'; go_simp; with_reducible rfl) (by simp only [Act.put, List.setIfInBounds_toArray, List.set_cons_zero, List.set_cons_succ, i64_w, i32_w]; rfl) ?_)
  iterate 2 (refine lex_t rfl rfl rfl (by rintro w' ⟨s0, s1⟩; go_simp; with_reducible rfl) (by simp only [Act.put, List.setIfInBounds_toArray, List.set_cons_zero, List.set_cons_succ, i64_w, i32_w]; rfl) ?_)
  refine lex_o rfl ?_
  go_wp2_with fail
  refine (high_uint32 o.a _ (by omega)).mono ?_
  rintro e w2 ⟨u, rfl, hob2, hb2⟩
  have hb2' := (below_drew (Below.refl V.heap.size V)).trans hb2
  have B2 := Aside0.mk hb2'
  obtain ⟨g2, cap2, rfl, hg2, _, _⟩ := hob2.form (by rw [high4_len]; decide)
  have HO2 := Aside0.mk (hob2.lower (show V.heap.size ≤ _ from Nat.le_refl _))
  rw [high4_len] at HO2 ⊢
  clear hb2 hob2 hb2' hg2
  go_wp2_with fail
  refine lex_end (by first | (simp only [Act.put, List.setIfInBounds_toArray, List.set_cons_zero, List.set_cons_succ, i64_w, i32_w]; rfl) | rfl) (HCE.out _ B2.out) (fun hHeld => ?_)
  (refine lex_p rfl rfl rfl (by intro w'; go_simp; with_reducible rfl) (by simp only [Act.put, List.setIfInBounds_toArray, List.set_cons_zero, List.set_cons_succ, i64_w, i32_w]; rfl) ?_)
  refine lex_o rfl ?_
  go_wp2_with fail
  have hn4 := one54 (⟨65, high4 o.a⟩ : S54) HO2.out B2.out.size
  have hb4 := below_alloc (Below.refl w2.heap.size w2) (.cells #[.int .u8 65, .slice (some ⟨g2, 0, none⟩) 4 cap2] 54)
  have B4 := Aside0.mk (B2.out.trans (hb4.mono B2.out.size))
  have HN4 := Aside0.mk hn4
  have HG4 := Aside0.mk (show V.heap.size ≤ w2.heap.size from B2.out.size)
  clear hn4 hb4
  refine lex_end (by first | (simp only [Act.put, List.setIfInBounds_toArray, List.set_cons_zero, List.set_cons_succ, i64_w, i32_w]; rfl) | rfl) (HCE.out _ B4.out) (fun hHeld => ?_)
  refine lex_o rfl ?_
  refine ap_caps V.heap.size _ _ rfl rfl HN4.out (F_came heap54 HXV.out B4.out) (fun k hk e => ?_) rfl rfl B4.out.size (by show [_].length + o.l.length ≤ 1000000; simp; omega) ?_
  · have e2 : k = w2.heap.size := Option.some.inj e
    have := HG4.out
    omega
  intro v7 w7 hn7 hb7 _
  have B7 := Aside0.mk (B4.out.trans hb7)
  have HN7 := Aside0.mk (Kd.N_reads hn7)
  clear hn7 hb7
  refine lex_end (by first | (simp only [Act.put, List.setIfInBounds_toArray, List.set_cons_zero, List.set_cons_succ, i64_w, i32_w]; rfl) | rfl) (HCE.out _ B7.out) (fun hHeld => ?_)
  refine lex_q rfl ?_
  obtain ⟨A7, c7, rfl, hc7, hC7⟩ := HN7.out
  go_wp2_with fail
  refine (open_laid.calls kk A7 c7 _ _ _ hC7 hc7 HKK.out).mono ?_
  rintro e w8 ⟨v8, rfl, hr8, hb8⟩
  have HR8 : Aside0 (OB w.heap.size w8 v8 (laidO o)) := ⟨OB.lower hr8 (Nat.le_trans HBV.out.size B7.out.size)⟩
  have B8 := Aside0.mk (B7.out.trans (hb8.mono B7.out.size))
  clear hr8 hb8 hC7
  go_wp2_with fail
  refine lex_endq (by first | (simp only [Act.put, List.setIfInBounds_toArray, List.set_cons_zero, List.set_cons_succ, i64_w, i32_w]; rfl) | rfl) ?_
  (refine lex_p rfl rfl rfl (by intro w'; go_simp; with_reducible rfl) (by simp only [Act.put, List.setIfInBounds_toArray, List.set_cons_zero, List.set_cons_succ, i64_w, i32_w]; rfl) ?_)
  refine lex_nil ?_
  go_wp2_with fail
  go_ret
  exact ⟨_, rfl, HR8.out, HBV.out.trans (B8.out.mono HBV.out.size)⟩
end Go.Proofs.Yticilaoibjbgfaa.Op

set_option linter.unusedSimpArgs false
set_option linter.unusedVariables false
namespace Go.Proofs.Yticilaoibjbgfaa.Op
open Go.RowKit Go.Proofs.YticilaoibjbgfaaW.PrintWords Go.Proofs.YticilaoibjbgfaaW.PrintLast Go.Proofs.YticilaoibjbgfaaW.PrintMore Go.Proofs.Yticilaoibjbgfaa.POpenRaws Go.Proofs.Yticilaoibjbgfaa.Lib Go.Proofs.Yticilaoibjbgfaa.High Go.Proofs.Yticilaoibjbgfaa.Lex
theorem beqN (n : Nat) (m : Nat) : ((n : Int) == (m : Int)) = decide (n = m) := by
  rw [Bool.eq_iff_iff, beq_iff_eq, decide_eq_true_iff]
  omega
set_option maxRecDepth 100000 in
set_option maxHeartbeats 4000000 in
theorem checkC (o : Opn) (ho : o.Wf) (A : Option Addr) (c : Nat) (w : World) (hx : Kd.C k54 w A o.l.length o.l) (hc : o.l.length ≤ c) (hL : (laidO o).length < 140737488355000) (hl : o.l.length < 500000) :
    Calls Try.prog 15 #[aO o A c] w fun e w' => e = .returned (.int .i64 (checkN o)) ∧ Below w.heap.size w w' := by
  have hb := below_alloc (Below.refl w.heap.size w) (.cells #[.int .u32 o.a, .int .u16 o.h, .int .u32 o.i, .slice A o.l.length c] 26)
  have hob := Ob.new w [.int .u32 o.a, .int .u16 o.h, .int .u32 o.i, .slice A o.l.length c] _ rfl 26
  have hsV : (w.alloc (.cells #[.int .u32 o.a, .int .u16 o.h, .int .u32 o.i, .slice A o.l.length c] 26)).heap.size = w.heap.size + 1 := by simp
  have q0 := (hob 0 _ rfl).1
  have q1 := (hob 1 _ rfl).1
  have q2 := (hob 2 _ rfl).1
  have q3 := (hob 3 _ rfl).1
  have HXV := Aside0.mk (Kd.C_below hx hb)
  have HOB := Aside0.mk hob
  have HB := Aside0.mk hb
  have HO := Aside0.mk ho
  have HLL := Aside0.mk hL
  have HSV := Aside0.mk hsV
  clear hx hob hb ho hL hsV
  cases h0 : ((o.a : Int) == 0) with
  | true =>
    have HE := Aside0.mk (checkN_no (o := o) (.inl (by have := eq_of_beq h0; omega)))
    go_enter Try.func15, Try.ntmps15
    go_wp2_with fail
    go_ret
    exact ⟨by rw [HE.out]; rfl, HB.out⟩
  | false =>
  cases h1 : ((o.h : Int) == 1) with
  | true =>
    have HE := Aside0.mk (checkN_no (o := o) (.inr (.inl (by have := eq_of_beq h1; omega))))
    go_enter Try.func15, Try.ntmps15
    go_wp2_with fail
    go_ret
    exact ⟨by rw [HE.out]; rfl, HB.out⟩
  | false =>
  cases h2 : ((o.h : Int) == 2) with
  | true =>
    have HE := Aside0.mk (checkN_no (o := o) (.inr (.inr (.inl (by have := eq_of_beq h2; omega)))))
    go_enter Try.func15, Try.ntmps15
    go_wp2_with fail
    go_ret
    exact ⟨by rw [HE.out]; rfl, HB.out⟩
  | false =>
  cases h3 : ((o.i : Int) == 0) with
  | true =>
    have HE := Aside0.mk (checkN_no (o := o) (.inr (.inr (.inr (.inl (by have := eq_of_beq h3; omega))))))
    go_enter Try.func15, Try.ntmps15
    go_wp2_with fail
    go_ret
    exact ⟨by rw [HE.out]; rfl, HB.out⟩
  | false =>
  have HNO : Aside0 (¬ (o.a = 0 ∨ o.h = 1 ∨ o.h = 2 ∨ o.i = 0)) := ⟨by
    have g0 := ne_of_beq_false h0
    have g1 := ne_of_beq_false h1
    have g2 := ne_of_beq_false h2
    have g3 := ne_of_beq_false h3
    omega⟩
  cases hr : riseB o.l with
  | false =>
    have HE := Aside0.mk (checkN_no (o := o) (.inr (.inr (.inr (.inr hr)))))
    have HR := Aside0.mk hr
    clear hr
    go_enter Try.func15, Try.ntmps15
    go_wp2_with fail
    refine (riseC A c o.l _ HXV.out (by omega)).mono ?_
    rintro e w2 ⟨rfl, hb2⟩
    rw [HR.out]
    have HB2 := Aside0.mk (HB.out.trans (hb2.mono HB.out.size))
    clear hb2
    go_wp2_with fail
    go_ret
    exact ⟨by rw [HE.out]; rfl, HB2.out⟩
  | true =>
    have HE := Aside0.mk (checkN_yes (o := o) HNO.out hr)
    have HR := Aside0.mk hr
    clear hr
    go_enter Try.func15, Try.ntmps15
    go_wp2_with fail
    refine (riseC A c o.l _ HXV.out (by omega)).mono ?_
    rintro e w2 ⟨rfl, hb2⟩
    rw [HR.out]
    have hob2 := HOB.out.below hb2 (by rw [HSV.out]; omega)
    have p0 := (hob2 0 _ rfl).1
    have p1 := (hob2 1 _ rfl).1
    have p2 := (hob2 2 _ rfl).1
    have p3 := (hob2 3 _ rfl).1
    have HX2 := Aside0.mk (Kd.C_below HXV.out hb2)
    have HB2 := Aside0.mk (HB.out.trans (hb2.mono HB.out.size))
    clear hb2 hob2
    go_wp2_with fail
    refine (capsC o HO.out A c _ HX2.out hc HLL.out hl).mono ?_
    rintro e w3 ⟨v3, rfl, ho3, hb3⟩
    obtain ⟨A3, c3, rfl, _, _⟩ := ho3.reads
    have HB3 := Aside0.mk (HB2.out.trans (hb3.mono HB2.out.size))
    have hLL := HLL.out
    obtain ⟨n, hn⟩ : ∃ n, (laidO o).length = n := ⟨_, rfl⟩
    rw [hn] at hLL HE ⊢
    have HW : Aside0 (IntKind.i64.wrap ((n : Int) + 2) = (n : Int) + 2) := ⟨by rw [IntKind.wrap_i64]; omega⟩
    clear ho3 hb3 hn
    cases hq : decide (255 < (n : Int) + 2) with
    | true =>
      have HE2 := Aside0.mk (HE.out.trans (if_pos (by have := of_decide_eq_true hq; omega)))
      go_wp2_with fail
      go_ret
      exact ⟨by rw [HE2.out]; rfl, HB3.out⟩
    | false =>
      have HE2 := Aside0.mk (HE.out.trans (if_neg (by have := of_decide_eq_false hq; omega)))
      go_wp2_with fail
      go_ret
      exact ⟨by rw [HE2.out]; rfl, HB3.out⟩
end Go.Proofs.Yticilaoibjbgfaa.Op

set_option linter.unusedSimpArgs false
set_option linter.unusedVariables false
namespace Go.Proofs.Yticilaoibjbgfaa.Op
open Go.RowKit Go.Proofs.YticilaoibjbgfaaW.PrintWords Go.Proofs.YticilaoibjbgfaaW.PrintLast Go.Proofs.YticilaoibjbgfaaW.PrintMore Go.Proofs.Yticilaoibjbgfaa.POpenRaws Go.Proofs.Yticilaoibjbgfaa.Lib Go.Proofs.Yticilaoibjbgfaa.High Go.Proofs.Yticilaoibjbgfaa.Lex
theorem liP {Q : Exit → Act → World → Prop} {K : Act → World → Prop} {a : Act} {W : World} (h : K a W) : putQ Q K .normal a W := h
theorem lt24 {P : Nat → Prop} (h0 : P 0) (h1 : P 1) (h2 : P 2) (h3 : P 3) (h4 : P 4) (h5 : P 5) (h6 : P 6) (h7 : P 7) (h8 : P 8) (h9 : P 9) (h10 : P 10) (h11 : P 11) (h12 : P 12) (h13 : P 13) (h14 : P 14) (h15 : P 15) (h16 : P 16) (h17 : P 17) (h18 : P 18) (h19 : P 19) (h20 : P 20) (h21 : P 21) (h22 : P 22) (h23 : P 23) : ∀ i, i < 24 → P i
  | 0, _ => h0
  | 1, _ => h1
  | 2, _ => h2
  | 3, _ => h3
  | 4, _ => h4
  | 5, _ => h5
  | 6, _ => h6
  | 7, _ => h7
  | 8, _ => h8
  | 9, _ => h9
  | 10, _ => h10
  | 11, _ => h11
  | 12, _ => h12
  | 13, _ => h13
  | 14, _ => h14
  | 15, _ => h15
  | 16, _ => h16
  | 17, _ => h17
  | 18, _ => h18
  | 19, _ => h19
  | 20, _ => h20
  | 21, _ => h21
  | 22, _ => h22
  | 23, _ => h23
  | n + 24, h => absurd h (by omega)
def rawS (o : Opn) : List Int := if checkN o = 0 then rawB o else []
/-- what is so of the values of Raw's last region -/
def rawF (B p : Nat) (o : Opn) (v5 : Value) (L : Nat) : Nat → Value → World → Prop
  | 0, v, W => OB B W v [4]
  | 1, v, _ => v = .pointer (some ⟨p, 0, none⟩)
  | 2, v, _ => v = .int .u32 o.a
  | 3, v, _ => v = .int .u16 (shortN o.a)
  | 4, v, W => OB B W v (high2 (shortN o.a))
  | 5, v, _ => v = .pointer (some ⟨p, 1, none⟩)
  | 6, v, _ => v = .int .u16 o.h
  | 7, v, W => OB B W v (high2 o.h)
  | 8, v, _ => v = .pointer (some ⟨p, 2, none⟩)
  | 9, v, _ => v = .int .u32 o.i
  | 10, v, W => OB B W v (high4 o.i)
  | 11, v, _ => v = v5
  | 12, v, _ => v = .int .i64 L
  | 13, v, _ => v = .int .i64 ((L : Int) + 2)
  | 14, v, _ => v = .int .u8 (((L : Int) + 2) % 256)
  | 15, v, _ => v = v5
  | 16, v, _ => v = .int .i64 L
  | 17, v, _ => v = .int .u8 ((L : Int) % 256)
  | 18, v, W => OB B W v [((L : Int) + 2) % 256, 2, (L : Int) % 256]
  | 19, v, _ => v = v5
  | 20, v, W => ∃ A, v = .slice A 6 6 ∧ Kd.C KBB W A 6 [[4], high2 (shortN o.a), high2 o.h, high4 o.i, [((L : Int) + 2) % 256, 2, (L : Int) % 256], laidO o]
  | 21, v, W => OB B W v (rawB o)
  | 22, v, W => OB B W v (rawB o)
  | 23, v, _ => v = .int .i64 0
  | _ + 24, _, _ => True
theorem rawF_step {B p : Nat} {o : Opn} {v5 : Value} {L : Nat} : ∀ i v W W', Below W.heap.size W W' → rawF B p o v5 L i v W → rawF B p o v5 L i v W'
  | 0, v, W, W', hs, hf => OB.below (show OB B W v _ from hf) hs
  | 1, v, W, W', hs, hf => hf
  | 2, v, W, W', hs, hf => hf
  | 3, v, W, W', hs, hf => hf
  | 4, v, W, W', hs, hf => OB.below (show OB B W v _ from hf) hs
  | 5, v, W, W', hs, hf => hf
  | 6, v, W, W', hs, hf => hf
  | 7, v, W, W', hs, hf => OB.below (show OB B W v _ from hf) hs
  | 8, v, W, W', hs, hf => hf
  | 9, v, W, W', hs, hf => hf
  | 10, v, W, W', hs, hf => OB.below (show OB B W v _ from hf) hs
  | 11, v, W, W', hs, hf => hf
  | 12, v, W, W', hs, hf => hf
  | 13, v, W, W', hs, hf => hf
  | 14, v, W, W', hs, hf => hf
  | 15, v, W, W', hs, hf => hf
  | 16, v, W, W', hs, hf => hf
  | 17, v, W, W', hs, hf => hf
  | 18, v, W, W', hs, hf => OB.below (show OB B W v _ from hf) hs
  | 19, v, W, W', hs, hf => hf
  | 20, v, W, W', hs, hf => by
    obtain ⟨A, h1, h2⟩ := hf
    exact ⟨A, h1, Kd.C_below h2 hs⟩
  | 21, v, W, W', hs, hf => OB.below (show OB B W v _ from hf) hs
  | 22, v, W, W', hs, hf => OB.below (show OB B W v _ from hf) hs
  | 23, v, W, W', hs, hf => hf
  | _ + 24, v, W, W', hs, hf => trivial
set_option maxRecDepth 100000 in
set_option maxHeartbeats 8000000 in
theorem rawC (o : Opn) (ho : o.Wf) (A : Option Addr) (c : Nat) (w : World) (hx : Kd.C k54 w A o.l.length o.l) (hc : o.l.length ≤ c) (hL : (laidO o).length < 140737488355000) (hl : o.l.length < 500000) :
    Calls Try.prog 12 #[aO o A c] w fun e w' => ∃ v, e = .returned (.tuple #[v, .int .i64 (checkN o)]) ∧ OB w.heap.size w' v (rawS o) ∧ Below w.heap.size w w' := by
  have hb := below_alloc (Below.refl w.heap.size w) (.cells #[.int .u32 o.a, .int .u16 o.h, .int .u32 o.i, .slice A o.l.length c] 26)
  have hob := Ob.new w [.int .u32 o.a, .int .u16 o.h, .int .u32 o.i, .slice A o.l.length c] _ rfl 26
  have hsV : (w.alloc (.cells #[.int .u32 o.a, .int .u16 o.h, .int .u32 o.i, .slice A o.l.length c] 26)).heap.size = w.heap.size + 1 := by simp
  have q0 := (hob 0 _ rfl).1
  have q1 := (hob 1 _ rfl).1
  have q2 := (hob 2 _ rfl).1
  have q3 := (hob 3 _ rfl).1
  have HXV := Aside0.mk (Kd.C_below hx hb)
  have HOB := Aside0.mk hob
  have HB := Aside0.mk hb
  have HO := Aside0.mk ho
  have HLL := Aside0.mk hL
  have HSV := Aside0.mk hsV
  clear hx hob hb ho hL hsV
  go_enter Try.func12, Try.ntmps12
  go_wp2_with fail
  refine (checkC o HO.out A c _ HXV.out hc HLL.out hl).mono ?_
  rintro e w2 ⟨rfl, hb2⟩
  have hob2 := HOB.out.below hb2 (by rw [HSV.out]; omega)
  have p0 := (hob2 0 _ rfl).1
  have p1 := (hob2 1 _ rfl).1
  have p2 := (hob2 2 _ rfl).1
  have p3 := (hob2 3 _ rfl).1
  have HX2 := Aside0.mk (Kd.C_below HXV.out hb2)
  have HB2 := Aside0.mk (HB.out.trans (hb2.mono HB.out.size))
  have HOB2 := Aside0.mk hob2
  clear hb2 hob2 q0 q1 q2 q3
  obtain ⟨E, hE⟩ : ∃ E, checkN o = E := ⟨_, rfl⟩
  have HEQ := Aside0.mk hE
  rw [hE]
  clear hE
  cases hq : (E == 0) with
  | false =>
    have hq2 : (E != 0) = true := by rw [bne, hq]; rfl
    have HE := Aside0.mk (show rawS o = [] by rw [rawS, HEQ.out, if_neg (ne_of_beq_false hq)])
    go_wp2_with fail
    refine bodyPost_ret (v := .tuple #[.slice none 0 0, .int .i64 E]) (by simp [results, Try.results12, go_sem]) rfl ⟨_, by rw [HEQ.out], ?_, HB2.out⟩
    rw [HE.out]
    exact OB.nil _ _
  | true =>
    have hq2 : (E != 0) = false := by rw [bne, hq]; rfl
    have HE := Aside0.mk (show rawS o = rawB o by rw [rawS, HEQ.out, if_pos (eq_of_beq hq)])
    have HE0 := Aside0.mk (eq_of_beq hq)
    go_wp2_with fail
    refine (capsC o HO.out A c _ HX2.out hc HLL.out hl).mono ?_
    rintro e w3 ⟨v5, rfl, ho3, hb3⟩
    have hob3 := HOB2.out.below hb3 HOB2.out.lt
    have HCE : Aside0 (∀ U : World, Below w3.heap.size w3 U → U.cell? ⟨w.heap.size, 0, none⟩ = some (.int .u32 o.a) ∧ U.cell? ⟨w.heap.size, 1, none⟩ = some (.int .u16 o.h) ∧ U.cell? ⟨w.heap.size, 2, none⟩ = some (.int .u32 o.i)) := ⟨fun U hU => ⟨((hob3.below hU hob3.lt) 0 _ rfl).1, ((hob3.below hU hob3.lt) 1 _ rfl).1, ((hob3.below hU hob3.lt) 2 _ rfl).1⟩⟩
    have HB3 := Aside0.mk (HB2.out.trans (hb3.mono HB2.out.size))
    obtain ⟨A5, c5, e5, hc5, hC5⟩ := ho3.reads
    have HC5 := Aside0.mk hC5
    have HL5 := Aside0.mk hc5
    obtain ⟨L, hLn⟩ : ∃ L, (laidO o).length = L := ⟨_, rfl⟩
    have HLn := Aside0.mk hLn
    have hLb := HLL.out
    rw [hLn] at e5 hLb
    have HW : Aside0 (IntKind.i64.wrap ((L : Int) + 2) = (L : Int) + 2) := ⟨by rw [IntKind.wrap_i64]; omega⟩
    have HW1 : Aside0 (IntKind.u8.wrap ((L : Int) + 2) = ((L : Int) + 2) % 256) := ⟨by rw [IntKind.wrap_u8]⟩
    have HW2 : Aside0 (IntKind.u8.wrap (L : Int) = (L : Int) % 256) := ⟨by rw [IntKind.wrap_u8]⟩
    subst e5
    clear ho3 hb3 hob3 hC5 hc5 hLn p0 p1 p2 p3
    go_wp2_with fail
    refine regionI (n := 24) (fun x => #[aO o A c, .pointer (some ⟨w.heap.size, 0, none⟩), x 22, x 23, .int .i64 E, .slice A5 L c5, .agg #[.int .u32 o.a, .int .u16 o.h, .int .u32 o.i, .slice A o.l.length c], .int .i64 E, .int .i64 E, .bool false, undef, .agg #[.int .u32 o.a, .int .u16 o.h, .int .u32 o.i, .slice A o.l.length c], .slice A5 L c5, x 0, x 1, x 2, x 3, x 4, x 5, x 6, x 7, x 8, x 9, x 10, x 11, x 12, x 13, x 14, x 15, x 16, x 17, x 18, x 19, x 20, x 21]) [] (rawF w.heap.size w.heap.size o (.slice A5 L c5) L) (fun U => Below w3.heap.size w3 U) (fun U U' => Below U.heap.size U U') (fun i => match i with
      | 22 => .slice none 0 0
      | 23 => .int .i64 0
      | _ => undef) (by kernel_rfl) rfl (by kernel_rfl) rfl (below_drew (Below.refl _ _)) rawF_step ?each ?done
    case done =>
      intro x W hF hG
      have f22 : OB w.heap.size W (x 22) (rawB o) := hF 22 (by decide)
      have f23 : x 23 = .int .i64 0 := hF 23 (by decide)
      have HF22 := Aside0.mk f22
      have HBW := Aside0.mk (HB3.out.trans (hG.mono HB3.out.size))
      clear hF hG f22
      dsimp only
      go_wp2_with fail
      refine bodyPost_ret (v := .tuple #[x 22, .int .i64 0]) (by simp [results, Try.results12, go_sem, f23]) rfl ⟨_, by rw [HEQ.out, HE0.out], ?_, HBW.out⟩
      rw [HE.out]
      exact HF22.out
    case each =>
      refine lt24 ?_ ?_ ?_ ?_ ?_ ?_ ?_ ?_ ?_ ?_ ?_ ?_ ?_ ?_ ?_ ?_ ?_ ?_ ?_ ?_ ?_ ?_ ?_ ?_
      · refine opI_of rfl ?_
        intro x W hF hG
        obtain ⟨c0, c1, c2⟩ := HCE.out W hG
        have HG := Aside0.mk hG
        clear hF hG
        dsimp only
        go_wp2_with fail
        exact liP ⟨_, (by first | rfl | (simp only [Act.put, List.setIfInBounds_toArray, List.set_cons_zero, List.set_cons_succ]; rfl) | (simp [upd])), OB.lit W [4] _ rfl 1 rfl (Nat.le_trans HB3.out.size HG.out.size) (by simp), below_alloc HG.out _, below_alloc (Below.refl _ _) _⟩
      · refine opI_of rfl ?_
        intro x W hF hG
        obtain ⟨c0, c1, c2⟩ := HCE.out W hG
        have HG := Aside0.mk hG
        clear hF hG
        dsimp only
        go_wp2_with fail
        exact liP ⟨.pointer (some ⟨w.heap.size, 0, none⟩), (by first | rfl | (simp only [Act.put, List.setIfInBounds_toArray, List.set_cons_zero, List.set_cons_succ]; rfl) | (simp [upd])), rfl, HG.out, Below.refl _ _⟩
      · refine opI_of rfl ?_
        intro x W hF hG
        have f1 : x 1 = .pointer (some ⟨w.heap.size, 0, none⟩) := hF 1 (by kernel_rfl)
        obtain ⟨c0, c1, c2⟩ := HCE.out W hG
        have HG := Aside0.mk hG
        clear hF hG
        dsimp only
        go_wp2_with fail
        exact liP ⟨.int .u32 o.a, (by first | rfl | (simp only [f1, Act.put, List.setIfInBounds_toArray, List.set_cons_zero, List.set_cons_succ]; rfl) | (simp [f1, upd])), rfl, HG.out, Below.refl _ _⟩
      · refine opI_of rfl ?_
        intro x W hF hG
        have f2 : x 2 = .int .u32 o.a := hF 2 (by kernel_rfl)
        obtain ⟨c0, c1, c2⟩ := HCE.out W hG
        have HG := Aside0.mk hG
        clear hF hG
        dsimp only
        go_wp2_with fail
        refine (open_short.calls _ _ _ (short_ex o.a)).mono ?_
        rintro e W2 ⟨rfl, hd⟩
        have hb := hd.below
        go_wp2_with fail
        exact liP ⟨_, (by first | rfl | (simp only [f2, Act.put, List.setIfInBounds_toArray, List.set_cons_zero, List.set_cons_succ]; rfl) | (simp [f2, upd])), rfl, HG.out.trans (hb.mono HG.out.size), hb⟩
      · refine opI_of rfl ?_
        intro x W hF hG
        have f3 : x 3 = .int .u16 (shortN o.a) := hF 3 (by kernel_rfl)
        obtain ⟨c0, c1, c2⟩ := HCE.out W hG
        have HG := Aside0.mk hG
        clear hF hG
        dsimp only
        go_wp2_with fail
        refine (high_uint16 (shortN o.a) _ (by rw [shortN]; split <;> omega)).mono ?_
        rintro e W2 ⟨u, rfl, ho, hb⟩
        have HO2 := Aside0.mk ho
        have HB2' := Aside0.mk hb
        clear ho hb
        go_wp2_with fail
        exact liP ⟨_, (by first | rfl | (simp only [f3, Act.put, List.setIfInBounds_toArray, List.set_cons_zero, List.set_cons_succ]; rfl) | (simp [f3, upd])), OB.lower HO2.out (Nat.le_trans HB3.out.size HG.out.size), HG.out.trans (HB2'.out.mono HG.out.size), HB2'.out⟩
      · refine opI_of rfl ?_
        intro x W hF hG
        obtain ⟨c0, c1, c2⟩ := HCE.out W hG
        have HG := Aside0.mk hG
        clear hF hG
        dsimp only
        go_wp2_with fail
        exact liP ⟨.pointer (some ⟨w.heap.size, 1, none⟩), (by first | rfl | (simp only [Act.put, List.setIfInBounds_toArray, List.set_cons_zero, List.set_cons_succ]; rfl) | (simp [upd])), rfl, HG.out, Below.refl _ _⟩
      · refine opI_of rfl ?_
        intro x W hF hG
        have f5 : x 5 = .pointer (some ⟨w.heap.size, 1, none⟩) := hF 5 (by kernel_rfl)
        obtain ⟨c0, c1, c2⟩ := HCE.out W hG
        have HG := Aside0.mk hG
        clear hF hG
        dsimp only
        go_wp2_with fail
        exact liP ⟨.int .u16 o.h, (by first | rfl | (simp only [f5, Act.put, List.setIfInBounds_toArray, List.set_cons_zero, List.set_cons_succ]; rfl) | (simp [f5, upd])), rfl, HG.out, Below.refl _ _⟩
      · refine opI_of rfl ?_
        intro x W hF hG
        have f6 : x 6 = .int .u16 o.h := hF 6 (by kernel_rfl)
        obtain ⟨c0, c1, c2⟩ := HCE.out W hG
        have HG := Aside0.mk hG
        clear hF hG
        dsimp only
        go_wp2_with fail
        refine (high_uint16 o.h _ (by have := HO.out.2.1; omega)).mono ?_
        rintro e W2 ⟨u, rfl, ho, hb⟩
        have HO2 := Aside0.mk ho
        have HB2' := Aside0.mk hb
        clear ho hb
        go_wp2_with fail
        exact liP ⟨_, (by first | rfl | (simp only [f6, Act.put, List.setIfInBounds_toArray, List.set_cons_zero, List.set_cons_succ]; rfl) | (simp [f6, upd])), OB.lower HO2.out (Nat.le_trans HB3.out.size HG.out.size), HG.out.trans (HB2'.out.mono HG.out.size), HB2'.out⟩
      · refine opI_of rfl ?_
        intro x W hF hG
        obtain ⟨c0, c1, c2⟩ := HCE.out W hG
        have HG := Aside0.mk hG
        clear hF hG
        dsimp only
        go_wp2_with fail
        exact liP ⟨.pointer (some ⟨w.heap.size, 2, none⟩), (by first | rfl | (simp only [Act.put, List.setIfInBounds_toArray, List.set_cons_zero, List.set_cons_succ]; rfl) | (simp [upd])), rfl, HG.out, Below.refl _ _⟩
      · refine opI_of rfl ?_
        intro x W hF hG
        have f8 : x 8 = .pointer (some ⟨w.heap.size, 2, none⟩) := hF 8 (by kernel_rfl)
        obtain ⟨c0, c1, c2⟩ := HCE.out W hG
        have HG := Aside0.mk hG
        clear hF hG
        dsimp only
        go_wp2_with fail
        exact liP ⟨.int .u32 o.i, (by first | rfl | (simp only [f8, Act.put, List.setIfInBounds_toArray, List.set_cons_zero, List.set_cons_succ]; rfl) | (simp [f8, upd])), rfl, HG.out, Below.refl _ _⟩
      · refine opI_of rfl ?_
        intro x W hF hG
        have f9 : x 9 = .int .u32 o.i := hF 9 (by kernel_rfl)
        obtain ⟨c0, c1, c2⟩ := HCE.out W hG
        have HG := Aside0.mk hG
        clear hF hG
        dsimp only
        go_wp2_with fail
        refine (high_uint32 o.i _ (by have := HO.out.2.2.1; omega)).mono ?_
        rintro e W2 ⟨u, rfl, ho, hb⟩
        have HO2 := Aside0.mk ho
        have HB2' := Aside0.mk hb
        clear ho hb
        go_wp2_with fail
        exact liP ⟨_, (by first | rfl | (simp only [f9, Act.put, List.setIfInBounds_toArray, List.set_cons_zero, List.set_cons_succ]; rfl) | (simp [f9, upd])), OB.lower HO2.out (Nat.le_trans HB3.out.size HG.out.size), HG.out.trans (HB2'.out.mono HG.out.size), HB2'.out⟩
      · refine opI_of rfl ?_
        intro x W hF hG
        obtain ⟨c0, c1, c2⟩ := HCE.out W hG
        have HG := Aside0.mk hG
        clear hF hG
        dsimp only
        go_wp2_with fail
        exact liP ⟨.slice A5 L c5, (by first | rfl | (simp only [Act.put, List.setIfInBounds_toArray, List.set_cons_zero, List.set_cons_succ]; rfl) | (simp [upd])), rfl, HG.out, Below.refl _ _⟩
      · refine opI_of rfl ?_
        intro x W hF hG
        have f11 : x 11 = .slice A5 L c5 := hF 11 (by kernel_rfl)
        obtain ⟨c0, c1, c2⟩ := HCE.out W hG
        have HG := Aside0.mk hG
        clear hF hG
        dsimp only
        go_wp2_with fail
        exact liP ⟨.int .i64 L, (by first | rfl | (simp only [f11, Act.put, List.setIfInBounds_toArray, List.set_cons_zero, List.set_cons_succ]; rfl) | (simp [f11, upd])), rfl, HG.out, Below.refl _ _⟩
      · refine opI_of rfl ?_
        intro x W hF hG
        have f12 : x 12 = .int .i64 L := hF 12 (by kernel_rfl)
        obtain ⟨c0, c1, c2⟩ := HCE.out W hG
        have HG := Aside0.mk hG
        clear hF hG
        dsimp only
        go_wp2_with fail
        exact liP ⟨.int .i64 ((L : Int) + 2), (by first | rfl | (simp only [f12, HW.out, Act.put, List.setIfInBounds_toArray, List.set_cons_zero, List.set_cons_succ]; rfl) | (simp [f12, HW.out, upd])), rfl, HG.out, Below.refl _ _⟩
      · refine opI_of rfl ?_
        intro x W hF hG
        have f13 : x 13 = .int .i64 ((L : Int) + 2) := hF 13 (by kernel_rfl)
        obtain ⟨c0, c1, c2⟩ := HCE.out W hG
        have HG := Aside0.mk hG
        clear hF hG
        dsimp only
        go_wp2_with fail
        exact liP ⟨.int .u8 (((L : Int) + 2) % 256), (by first | rfl | (simp only [f13, HW1.out, Act.put, List.setIfInBounds_toArray, List.set_cons_zero, List.set_cons_succ]; rfl) | (simp [f13, HW1.out, upd])), rfl, HG.out, Below.refl _ _⟩
      · refine opI_of rfl ?_
        intro x W hF hG
        obtain ⟨c0, c1, c2⟩ := HCE.out W hG
        have HG := Aside0.mk hG
        clear hF hG
        dsimp only
        go_wp2_with fail
        exact liP ⟨.slice A5 L c5, (by first | rfl | (simp only [Act.put, List.setIfInBounds_toArray, List.set_cons_zero, List.set_cons_succ]; rfl) | (simp [upd])), rfl, HG.out, Below.refl _ _⟩
      · refine opI_of rfl ?_
        intro x W hF hG
        have f15 : x 15 = .slice A5 L c5 := hF 15 (by kernel_rfl)
        obtain ⟨c0, c1, c2⟩ := HCE.out W hG
        have HG := Aside0.mk hG
        clear hF hG
        dsimp only
        go_wp2_with fail
        exact liP ⟨.int .i64 L, (by first | rfl | (simp only [f15, Act.put, List.setIfInBounds_toArray, List.set_cons_zero, List.set_cons_succ]; rfl) | (simp [f15, upd])), rfl, HG.out, Below.refl _ _⟩
      · refine opI_of rfl ?_
        intro x W hF hG
        have f16 : x 16 = .int .i64 L := hF 16 (by kernel_rfl)
        obtain ⟨c0, c1, c2⟩ := HCE.out W hG
        have HG := Aside0.mk hG
        clear hF hG
        dsimp only
        go_wp2_with fail
        exact liP ⟨.int .u8 ((L : Int) % 256), (by first | rfl | (simp only [f16, HW2.out, Act.put, List.setIfInBounds_toArray, List.set_cons_zero, List.set_cons_succ]; rfl) | (simp [f16, HW2.out, upd])), rfl, HG.out, Below.refl _ _⟩
      · refine opI_of rfl ?_
        intro x W hF hG
        have f14 : x 14 = .int .u8 (((L : Int) + 2) % 256) := hF 14 (by kernel_rfl)
        have f17 : x 17 = .int .u8 ((L : Int) % 256) := hF 17 (by kernel_rfl)
        obtain ⟨c0, c1, c2⟩ := HCE.out W hG
        have HG := Aside0.mk hG
        clear hF hG
        dsimp only
        go_wp2_with fail
        exact liP ⟨_, (by first | rfl | (simp only [f14, f17, Act.put, List.setIfInBounds_toArray, List.set_cons_zero, List.set_cons_succ]; rfl) | (simp [f14, f17, upd])), OB.lit W [((L : Int) + 2) % 256, 2, (L : Int) % 256] _ rfl 3 rfl (Nat.le_trans HB3.out.size HG.out.size) (by simp), below_alloc HG.out _, below_alloc (Below.refl _ _) _⟩
      · refine opI_of rfl ?_
        intro x W hF hG
        obtain ⟨c0, c1, c2⟩ := HCE.out W hG
        have HG := Aside0.mk hG
        clear hF hG
        dsimp only
        go_wp2_with fail
        exact liP ⟨.slice A5 L c5, (by first | rfl | (simp only [Act.put, List.setIfInBounds_toArray, List.set_cons_zero, List.set_cons_succ]; rfl) | (simp [upd])), rfl, HG.out, Below.refl _ _⟩
      · refine opI_of rfl ?_
        intro x W hF hG
        have f0 : OB w.heap.size W (x 0) [4] := hF 0 (by kernel_rfl)
        have f4 : OB w.heap.size W (x 4) (high2 (shortN o.a)) := hF 4 (by kernel_rfl)
        have f7 : OB w.heap.size W (x 7) (high2 o.h) := hF 7 (by kernel_rfl)
        have f10 : OB w.heap.size W (x 10) (high4 o.i) := hF 10 (by kernel_rfl)
        have f18 : OB w.heap.size W (x 18) [((L : Int) + 2) % 256, 2, (L : Int) % 256] := hF 18 (by kernel_rfl)
        have f19 : x 19 = .slice A5 L c5 := hF 19 (by kernel_rfl)
        obtain ⟨c0, c1, c2⟩ := HCE.out W hG
        have HG := Aside0.mk hG
        clear hF hG
        have F0 := Aside0.mk f0
        have F4 := Aside0.mk f4
        have F7 := Aside0.mk f7
        have F10 := Aside0.mk f10
        have F18 := Aside0.mk f18
        clear f0 f4 f7 f10 f18
        have hb6 := below_alloc (Below.refl W.heap.size W) (.cells #[x 0, x 4, x 7, x 10, x 18, .slice A5 L c5] 30)
        have row : ∀ (v : Value) (xs : List Int), OB w.heap.size W v xs → ∃ (A : Option Addr) (c : Nat), some v = some (Value.slice A xs.length c) ∧ xs.length ≤ c ∧ Kd.C KB (W.alloc (.cells #[x 0, x 4, x 7, x 10, x 18, .slice A5 L c5] 30)) A xs.length xs := fun v xs h => by
          obtain ⟨A, c, e, h1, h2⟩ := h.reads
          exact ⟨A, c, by rw [e], h1, Kd.C_below h2 hb6⟩
        have hC : Kd.C KBB (W.alloc (.cells #[x 0, x 4, x 7, x 10, x 18, .slice A5 L c5] 30)) (some ⟨W.heap.size, 0, none⟩) 6 [[4], high2 (shortN o.a), high2 o.h, high4 o.i, [((L : Int) + 2) % 256, 2, (L : Int) % 256], laidO o] := by
          refine CBB_alloc (W := W) (cs := [x 0, x 4, x 7, x 10, x 18, .slice A5 L c5]) rfl [[4], high2 (shortN o.a), high2 o.h, high4 o.i, [((L : Int) + 2) % 256, 2, (L : Int) % 256], laidO o] rfl (by simp) ?_
          intro j xs hj
          match j, hj with
          | 0, hj =>
            obtain rfl := Option.some.inj hj
            exact row _ _ F0.out
          | 1, hj =>
            obtain rfl := Option.some.inj hj
            exact row _ _ F4.out
          | 2, hj =>
            obtain rfl := Option.some.inj hj
            exact row _ _ F7.out
          | 3, hj =>
            obtain rfl := Option.some.inj hj
            exact row _ _ F10.out
          | 4, hj =>
            obtain rfl := Option.some.inj hj
            exact row _ _ F18.out
          | 5, hj =>
            obtain rfl := Option.some.inj hj
            exact ⟨A5, c5, by rw [HLn.out]; rfl, HL5.out, Kd.C_below HC5.out (HG.out.trans (hb6.mono HG.out.size))⟩
          | n + 6, hj => simp at hj
        obtain ⟨B0, d0, e0, _, _⟩ := F0.out.reads
        have e0 : x 0 = .slice B0 1 d0 := e0
        obtain ⟨B4, d4, e4, _, _⟩ := F4.out.reads
        have e4 : x 4 = .slice B4 2 d4 := e4
        obtain ⟨B7, d7, e7, _, _⟩ := F7.out.reads
        have e7 : x 7 = .slice B7 2 d7 := e7
        obtain ⟨B10, d10, e10, _, _⟩ := F10.out.reads
        have e10 : x 10 = .slice B10 4 d10 := e10
        obtain ⟨B18, d18, e18, _, _⟩ := F18.out.reads
        have e18 : x 18 = .slice B18 3 d18 := e18
        rw [e0, e4, e7, e10, e18] at hC
        have HC := Aside0.mk hC
        clear hC row hb6
        dsimp only
        go_wp2_with fail
        exact liP ⟨_, (by first | rfl | (simp only [f19, e0, e4, e7, e10, e18, Act.put, List.setIfInBounds_toArray, List.set_cons_zero, List.set_cons_succ]; rfl) | (simp [f19, e0, e4, e7, e10, e18, upd])), show ∃ A, _ = Value.slice A 6 6 ∧ Kd.C KBB _ A 6 _ from ⟨_, rfl, HC.out⟩, below_alloc HG.out _, below_alloc (Below.refl _ _) _⟩
      · refine opI_of rfl ?_
        intro x W hF hG
        have f20 : ∃ A, x 20 = .slice A 6 6 ∧ Kd.C KBB W A 6 [[4], high2 (shortN o.a), high2 o.h, high4 o.i, [((L : Int) + 2) % 256, 2, (L : Int) % 256], laidO o] := hF 20 (by kernel_rfl)
        obtain ⟨c0, c1, c2⟩ := HCE.out W hG
        have HG := Aside0.mk hG
        clear hF hG
        obtain ⟨A20, f20, hc20⟩ := f20
        have HC20 := Aside0.mk hc20
        clear hc20
        dsimp only
        go_wp2_with fail
        refine (concat A20 6 _ _ HC20.out (by have := HLL.out; rw [HLn.out] at this; simp [flat, high2, high4, HLn.out]; omega)).mono ?_
        rintro e W2 ⟨u, rfl, ho, hb⟩
        have ho2 : OB W.heap.size W2 u (rawB o) := by
          have e2 : flat [[4], high2 (shortN o.a), high2 o.h, high4 o.i, [((L : Int) + 2) % 256, 2, (L : Int) % 256], laidO o] = rawB o := by rw [rawB, HLn.out]; simp [flat]
          rw [← e2]
          exact ho
        have HO2 := Aside0.mk ho2
        have HB2' := Aside0.mk hb
        clear ho hb ho2
        go_wp2_with fail
        exact liP ⟨_, (by first | rfl | (simp only [f20, Act.put, List.setIfInBounds_toArray, List.set_cons_zero, List.set_cons_succ]; rfl) | (simp [f20, upd])), OB.lower HO2.out (Nat.le_trans HB3.out.size HG.out.size), HG.out.trans (HB2'.out.mono HG.out.size), HB2'.out⟩
      · refine opI_of rfl ?_
        intro x W hF hG
        have f21 : OB w.heap.size W (x 21) (rawB o) := hF 21 (by kernel_rfl)
        obtain ⟨c0, c1, c2⟩ := HCE.out W hG
        have HG := Aside0.mk hG
        clear hF hG
        have F21 := Aside0.mk f21
        clear f21
        dsimp only
        go_wp2_with fail
        exact liP ⟨_, (by first | rfl | (simp only [Act.put, List.setIfInBounds_toArray, List.set_cons_zero, List.set_cons_succ]; rfl) | (simp [upd])), F21.out, HG.out, Below.refl _ _⟩
      · refine opI_of rfl ?_
        intro x W hF hG
        obtain ⟨c0, c1, c2⟩ := HCE.out W hG
        have HG := Aside0.mk hG
        clear hF hG
        dsimp only
        go_wp2_with fail
        exact liP ⟨.int .i64 0, (by first | rfl | (simp only [Act.put, List.setIfInBounds_toArray, List.set_cons_zero, List.set_cons_succ]; rfl) | (simp [upd])), rfl, HG.out, Below.refl _ _⟩
end Go.Proofs.Yticilaoibjbgfaa.Op

set_option linter.unusedSimpArgs false
set_option linter.unusedVariables false
namespace Go.Proofs.Yticilaoibjbgfaa.Op
open Go.RowKit Go.Proofs.YticilaoibjbgfaaW.PrintWords Go.Proofs.YticilaoibjbgfaaW.PrintLast Go.Proofs.YticilaoibjbgfaaW.PrintMore Go.Proofs.Yticilaoibjbgfaa.POpenRaws Go.Proofs.Yticilaoibjbgfaa.Lib Go.Proofs.Yticilaoibjbgfaa.High Go.Proofs.Yticilaoibjbgfaa.Lex
/-! ### structs stored and loaded whole -/
/-- cells laid over others, one by one -/
def putAll : List Value → Nat → List Value → List Value
  | cs, _, [] => cs
  | cs, o, v :: r => putAll (cs.set o v) (o + 1) r
theorem putAll_eq : ∀ (vs pre rest : List Value), rest.length = vs.length → putAll (pre ++ rest) pre.length vs = pre ++ vs
  | [], pre, rest, h => by
    have : rest = [] := List.length_eq_zero_iff.1 h
    subst this
    rfl
  | v :: r, pre, [], h => by simp at h
  | v :: r, pre, y :: rest, h => by
    have h1 : (pre ++ y :: rest).set pre.length v = (pre ++ [v]) ++ rest := by simp
    have h2 := putAll_eq r (pre ++ [v]) rest (by simpa using h)
    rw [List.length_append, List.length_singleton] at h2
    rw [putAll, h1, h2]
    simp
theorem ob_setCells {g : Nat} : ∀ (vs : List Value) (o : Nat) (w : World) (cs : List Value), Ob g w cs → o + vs.length ≤ cs.length → Ob g (w.setCells g o vs) (putAll cs o vs)
  | [], o, w, cs, h, _ => h
  | v :: r, o, w, cs, h, hl => by
    simp only [List.length_cons] at hl
    exact ob_setCells r (o + 1) _ _ (h.set o (by omega) v) (by simp; omega)
theorem but_setCells (g : Nat) : ∀ (vs : List Value) (o : Nat) (w : World), But w.heap.size (fun k => k = g) w (w.setCells g o vs)
  | [], _, w => But.refl _ _ w
  | v :: r, o, w => by
    have h := but_setCells g r (o + 1) (w.setCell ⟨g, o, none⟩ v)
    have h2 := But.setCell (But.refl w.heap.size (fun k => k = g) w) (p := ⟨g, o, none⟩) (.inr rfl) v
    exact h2.trans (h.mono h2.size (fun _ _ e => e))
theorem storeS {g : Nat} {w : World} {ys : List Value} (cs : List Value) (T : TypeId) (h : Ob g w ys) (hl : ys.length = cs.length) (hi : (Try.prog.info? T).map (·.size) = some cs.length) (h1 : cs.toArray.all (·.oneCell') = true) :
    ∃ W', (storeVar T ⟨g, 0, none⟩ (.agg cs.toArray)).run Try.prog w = .ok () W' ∧ Ob g W' cs ∧ But w.heap.size (fun k => k = g) w W' := by
  have h2 := ob_setCells cs 0 w _ h (by omega)
  have h3 := putAll_eq cs [] ys hl
  simp only [List.nil_append, List.length_nil] at h3
  rw [h3] at h2
  refine ⟨_, run_storeVar_mid w g 0 T cs.toArray (fun j hj => ?_) (by simpa using hi) h1, h2, but_setCells g _ 0 w⟩
  have hj5 : j < ys.length := by rw [hl]; simpa using hj
  obtain ⟨h1, h2⟩ := h j _ (List.getElem?_eq_getElem hj5)
  rw [Nat.zero_add]
  exact ⟨by rw [h1]; rfl, h2⟩
theorem loadS {g : Nat} {w : World} {cs : List Value} (T : TypeId) {fs : Array Field} (h : Ob g w cs) (hu : Try.prog.underlying T = some (.struct fs)) (hi : (Try.prog.info? T).map (·.size) = some cs.length) : (loadVar T ⟨g, 0, none⟩).run Try.prog w = .ok (.agg cs.toArray) w :=
  run_loadVar_mid w g 0 T cs _ (fun j v hj => by rw [Nat.zero_add]; exact (h j v hj).1) hu rfl hi
section
variable {P : Program} {ops : Array Oper} {rest : List Oper} {a : Act} {Q : Exit → Act → World → Prop} {w : World}
theorem pl_load {o : Oper} (hg : o.guard = none) (T : TypeId) (x : Operand) (ho : o.op = .load T x) (ad : Addr) (v : Value) (hrun : (loadVar T ad).run P w = .ok v w) (hx : a.eval x = .pointer (some ad)) (h : wpList P ops Q rest (a.put o.dst v) w) : wpList P ops Q (o :: rest) a w :=
  wpList_plain hg fun K hK => by
    unfold Oper.wp execOp
    simp only [ho, hx, Instr.loadAt, Instr.sureAddr, Sem.run_bind, Sem.run_pure, Result.andThen_ok, hrun]
    exact hK _ _ h
theorem pl_store {o : Oper} (hg : o.guard = none) (T : TypeId) (x y : Operand) (ho : o.op = .store T x y) (ad : Addr) (v : Value) {w' : World} (hrun : (storeVar T ad v).run P w = .ok () w') (hx : a.eval x = .pointer (some ad)) (hy : a.eval y = v) (h : wpList P ops Q rest (a.put o.dst undef) w') : wpList P ops Q (o :: rest) a w :=
  wpList_plain hg fun K hK => by
    unfold Oper.wp execOp
    simp only [ho, hx, hy, Instr.storeAt, Instr.sureAddr, Sem.run_bind, Sem.run_pure, Result.andThen_ok, hrun]
    exact hK _ _ h
end
theorem results_cell {P : Program} {fn : Func} {p : Tmp} {ty : TypeId} (h : fn.results = #[.cell p ty]) (tmps : Array Value) (w : World) (g : Nat) (v : Value)
    (hp : tmps.getD p undef = .pointer (some ⟨g, 0, none⟩)) (hl : (loadVar ty ⟨g, 0, none⟩).run P w = .ok v w) :
    (results fn tmps).run P w = .ok v w := by
  have hp' : tmps[p]?.getD undef = .pointer (some ⟨g, 0, none⟩) := by simpa using hp
  simp [results, h, hp', asAddr, hl]
theorem results_cell_tmp {P : Program} {fn : Func} {p t : Tmp} {ty : TypeId} (h : fn.results = #[.cell p ty, .tmp t]) (tmps : Array Value) (w : World) (g : Nat) (v : Value)
    (hp : tmps.getD p undef = .pointer (some ⟨g, 0, none⟩)) (hl : (loadVar ty ⟨g, 0, none⟩).run P w = .ok v w) :
    (results fn tmps).run P w = .ok (.tuple #[v, tmps.getD t undef]) w := by
  have hp' : tmps[p]?.getD undef = .pointer (some ⟨g, 0, none⟩) := by simpa using hp
  simp [results, h, hp', asAddr, hl]
/-! ### strings of bytes -/
theorem conv (W : World) (A : Option Addr) (c : Nat) (xs : List Int) (h : Kd.C KB W A xs.length xs) : (convert 30 9 (.slice A xs.length c)).run Try.prog W = .ok (.string (strOfNums xs)) W :=
  Kd.C_string (dst := 9) Try.underlying30 Try.underlying5 Try.underlying9 h
theorem str_inj {xs ys : List Int} (hx : Byt xs) (hy : Byt ys) (h : strOfNums xs = strOfNums ys) : xs = ys := by
  have h1 : xs.map (fun n => UInt8.ofNat n.toNat) = ys.map (fun n => UInt8.ofNat n.toNat) := by rw [← strOfNums_data, ← strOfNums_data, h]
  have h2 := congrArg (List.map (fun b : UInt8 => (b.toNat : Int))) h1
  have h3 : ∀ zs : List Int, Byt zs → (zs.map (fun n => UInt8.ofNat n.toNat)).map (fun b : UInt8 => (b.toNat : Int)) = zs := fun zs hz => by
    rw [List.map_map]
    conv => rhs; rw [← List.map_id zs]
    refine List.map_congr_left (fun z hm => ?_)
    have := hz z hm
    have h4 : z.toNat < 256 := by omega
    simp only [Function.comp, UInt8.toNat_ofNat', id]
    omega
  rw [h3 xs hx, h3 ys hy] at h2
  exact h2
theorem str_ne {xs ys : List Int} (hx : Byt xs) (hy : Byt ys) (h : xs ≠ ys) : ((strOfNums xs).toList == (strOfNums ys).toList) = false := by
  rw [beq_eq_false_iff_ne]
  intro e
  rw [Go.Lib.toList_data, Go.Lib.toList_data] at e
  exact h (str_inj hx hy (by
    have e2 : (strOfNums xs).data = (strOfNums ys).data := Array.ext' e
    have : ∀ a b : ByteArray, a.data = b.data → a = b := fun a b h => by cases a; cases b; cases h; rfl
    exact this _ _ e2))

/-! ### Same -/
def eqC (x y : S54) : Bool := x.f0 == y.f0 && x.f1 == y.f1
def sameL (l m : List S54) : Bool := decide (l.length = m.length) && (List.range l.length).all (fun j => eqC (l.getD j z54) (m.getD j z54))
def sameB (x y : Opn) : Bool := decide (x.a = y.a) && (decide (x.h = y.h) && (decide (x.i = y.i) && sameL x.l y.l))
theorem sameL_no {l m : List S54} {j : Nat} (hj : j < l.length) (h : eqC (l.getD j z54) (m.getD j z54) = false) : sameL l m = false := by
  have : (List.range l.length).all (fun j => eqC (l.getD j z54) (m.getD j z54)) = false := by
    rw [List.all_eq_false]
    exact ⟨j, List.mem_range.2 hj, by rw [h]; simp⟩
  rw [sameL, this, Bool.and_false]
theorem sameL_yes {l m : List S54} (hl : l.length = m.length) (h : ∀ j, j < l.length → eqC (l.getD j z54) (m.getD j z54) = true) : sameL l m = true := by
  have : (List.range l.length).all (fun j => eqC (l.getD j z54) (m.getD j z54)) = true := by
    rw [List.all_eq_true]
    exact fun j hj => h j (List.mem_range.1 hj)
  rw [sameL, this, decide_eq_true hl, Bool.true_and]
theorem eqC_refl (x : S54) : eqC x x = true := by simp [eqC]
theorem sameL_refl (l : List S54) : sameL l l = true := sameL_yes rfl (fun j _ => eqC_refl _)
theorem sameB_refl (o : Opn) : sameB o o = true := by simp [sameB, sameL_refl]
set_option maxRecDepth 100000 in
set_option maxHeartbeats 8000000 in
theorem rsameC (x y : Opn) (hwx : x.Wf) (hwy : y.Wf) (A : Option Addr) (c : Nat) (B : Option Addr) (d : Nat) (w : World) (hx : Kd.C k54 w A x.l.length x.l) (hy : Kd.C k54 w B y.l.length y.l) (hll : x.l.length < 1000000) :
    Calls Try.prog 16 #[aO x A c, aO y B d] w fun e w' => e = .returned (.bool (sameB x y)) ∧ Below w.heap.size w w' := by
  have hob1 := Ob.new w [.int .u32 x.a, .int .u16 x.h, .int .u32 x.i, .slice A x.l.length c] _ rfl 26
  have hb1 := below_alloc (Below.refl w.heap.size w) (.cells #[.int .u32 x.a, .int .u16 x.h, .int .u32 x.i, .slice A x.l.length c] 26)
  obtain ⟨w1, hw1⟩ : ∃ W, w.alloc (.cells #[.int .u32 x.a, .int .u16 x.h, .int .u32 x.i, .slice A x.l.length c] 26) = W := ⟨_, rfl⟩
  have hs1 : w1.heap.size = w.heap.size + 1 := by rw [← hw1]; simp
  rw [hw1] at hob1 hb1
  have hob2 := Ob.new w1 [.int .u32 y.a, .int .u16 y.h, .int .u32 y.i, .slice B y.l.length d] _ rfl 26
  have hb2 := below_alloc (Below.refl w1.heap.size w1) (.cells #[.int .u32 y.a, .int .u16 y.h, .int .u32 y.i, .slice B y.l.length d] 26)
  obtain ⟨V, hV⟩ : ∃ W, w1.alloc (.cells #[.int .u32 y.a, .int .u16 y.h, .int .u32 y.i, .slice B y.l.length d] 26) = W := ⟨_, rfl⟩
  have hs2 : V.heap.size = w.heap.size + 1 + 1 := by rw [← hV, World.size_alloc, hs1]
  rw [hV, hs1] at hob2
  rw [hV] at hb2
  have hob1' := hob1.below hb2 (by omega)
  have HV := Aside0.mk hV
  have HW1 := Aside0.mk hw1
  have HS2 := Aside0.mk hs2
  have hbV := hb1.trans (hb2.mono hb1.size)
  have HBV := Aside0.mk hbV
  have HXV := Aside0.mk (Kd.C_below hx hbV)
  have HYV := Aside0.mk (Kd.C_below hy hbV)
  have HO1 := Aside0.mk hob1'
  have HO2 := Aside0.mk hob2
  have q0 := (hob1' 0 _ rfl).1
  have q1 := (hob1' 1 _ rfl).1
  have q2 := (hob1' 2 _ rfl).1
  have q3 := (hob1' 3 _ rfl).1
  have p0 := (hob2 0 _ rfl).1
  have p1 := (hob2 1 _ rfl).1
  have p2 := (hob2 2 _ rfl).1
  have p3 := (hob2 3 _ rfl).1
  have HWX := Aside0.mk hwx.2.2.2
  have HWY := Aside0.mk hwy.2.2.2
  clear hob1 hob1' hob2 hb1 hb2 hbV hV hx hy hs1 hs2 hwx hwy hw1
  cases h0 : ((x.a : Int) != (y.a : Int)) with
  | true =>
    have HE : Aside0 (sameB x y = false) := ⟨by rw [sameB, decide_eq_false (fun e => by rw [e] at h0; simp at h0), Bool.false_and]⟩
    go_enter Try.func16, Try.ntmps16
    go_wp2_with (rw [HW1.out, HV.out])
    go_ret
    exact ⟨by rw [HE.out]; rfl, HBV.out⟩
  | false =>
  have HE0 : Aside0 (x.a = y.a) := ⟨by simp at h0; omega⟩
  cases h1 : ((x.h : Int) != (y.h : Int)) with
  | true =>
    have HE : Aside0 (sameB x y = false) := ⟨by rw [sameB, decide_eq_false (fun e => by rw [e] at h1; simp at h1 : ¬ x.h = y.h), Bool.false_and, Bool.and_false]⟩
    go_enter Try.func16, Try.ntmps16
    go_wp2_with (rw [HW1.out, HV.out])
    go_ret
    exact ⟨by rw [HE.out]; rfl, HBV.out⟩
  | false =>
  have HE1 : Aside0 (x.h = y.h) := ⟨by simp at h1; omega⟩
  cases h2 : ((x.i : Int) != (y.i : Int)) with
  | true =>
    have HE : Aside0 (sameB x y = false) := ⟨by rw [sameB, decide_eq_false (fun e => by rw [e] at h2; simp at h2 : ¬ x.i = y.i), Bool.false_and, Bool.and_false, Bool.and_false]⟩
    go_enter Try.func16, Try.ntmps16
    go_wp2_with (rw [HW1.out, HV.out])
    go_ret
    exact ⟨by rw [HE.out]; rfl, HBV.out⟩
  | false =>
  have HE2 : Aside0 (x.i = y.i) := ⟨by simp at h2; omega⟩
  cases h3 : ((x.l.length : Int) != (y.l.length : Int)) with
  | true =>
    have HE : Aside0 (sameB x y = false) := ⟨by rw [sameB, sameL, decide_eq_false (fun e => by rw [e] at h3; simp at h3 : ¬ x.l.length = y.l.length)]; simp⟩
    go_enter Try.func16, Try.ntmps16
    go_wp2_with (rw [HW1.out, HV.out])
    go_ret
    exact ⟨by rw [HE.out]; rfl, HBV.out⟩
  | false =>
  have hlen : x.l.length = y.l.length := by simp at h3; omega
  have HEQ : Aside0 (sameB x y = sameL x.l y.l) := ⟨by rw [sameB, decide_eq_true HE0.out, decide_eq_true HE1.out, decide_eq_true HE2.out]; rfl⟩
  have HLN := Aside0.mk hlen
  clear hlen
  rw [HEQ.out]
  go_enter Try.func16, Try.ntmps16
  go_wp2_with (rw [HW1.out, HV.out])
  clear q0 q1 q2 q3 p0 p1 p2 p3 h0 h1 h2 h3
  go_loopg [5] x.l.length (fun gk s5 W => ∃ k : Nat, k ≤ x.l.length ∧ x.l.length - k ≤ gk ∧ s5 = .int .i64 k ∧ Aside0 (∀ j, j < k → eqC (x.l.getD j z54) (y.l.getD j z54) = true) ∧ Aside0 (Below V.heap.size V W))
  case atStart => exact ⟨0, by omega, by omega, rfl, ⟨fun j hj => by omega⟩, ⟨Below.refl _ _⟩⟩
  case round =>
    obtain ⟨k, hk, hgk, rfl, HN, HB⟩ := hrel
    have ho1 := HO1.out.below HB.out (by rw [HS2.out]; omega)
    have ho2 := HO2.out.below HB.out (by rw [HS2.out]; omega)
    have q3 := (ho1 3 _ rfl).1
    have p3 := (ho2 3 _ rfl).1
    have HBW := Aside0.mk (HBV.out.trans (HB.out.mono HBV.out.size))
    by_cases hlt : k < x.l.length
    · obtain ⟨b, o, A1, c1, rfl, e0, e1, _, hc1⟩ := C_cap (Kd.C_below HXV.out HB.out) k hlt
      obtain ⟨b', o', A2, c2, rfl, f0, f1, _, hc2⟩ := C_cap (Kd.C_below HYV.out HB.out) k (by have := HLN.out; omega)
      obtain ⟨s, hs⟩ : ∃ s, x.l.getD k z54 = s := ⟨_, rfl⟩
      obtain ⟨t, ht⟩ : ∃ s, y.l.getD k z54 = s := ⟨_, rfl⟩
      have hbs : Byt s.f1 := by rw [← hs]; exact (HWX.out _ (getD_mem _ _ _ hlt)).2
      have hbt : Byt t.f1 := by rw [← ht]; exact (HWY.out _ (getD_mem _ _ _ (by have := HLN.out; omega))).2
      rw [hs] at e0 e1 hc1
      rw [ht] at f0 f1 hc2
      have HCE : Aside0 (∀ U : World, Below wr.heap.size wr U → U.cell? ⟨w.heap.size, 3, none⟩ = some (.slice (some ⟨b, o, none⟩) x.l.length c) ∧ U.cell? ⟨w.heap.size + 1, 3, none⟩ = some (.slice (some ⟨b', o', none⟩) y.l.length d) ∧ U.cell? ⟨b, o + k * 2, none⟩ = some (.int .u8 s.f0) ∧ U.cell? ⟨b, o + k * 2 + 1, none⟩ = some (.slice A1 s.f1.length c1) ∧ U.cell? ⟨b', o' + k * 2, none⟩ = some (.int .u8 t.f0) ∧ U.cell? ⟨b', o' + k * 2 + 1, none⟩ = some (.slice A2 t.f1.length c2) ∧ (convert 30 9 (.slice A1 s.f1.length c1)).run Try.prog U = .ok (.string (strOfNums s.f1)) U ∧ (convert 30 9 (.slice A2 t.f1.length c2)).run Try.prog U = .ok (.string (strOfNums t.f1)) U) :=
        ⟨fun U hU => ⟨pw_cell_below hU q3, pw_cell_below hU p3, pw_cell_below hU e0, pw_cell_below hU e1, pw_cell_below hU f0, pw_cell_below hU f1, conv U _ _ _ (Kd.C_below hc1 hU), conv U _ _ _ (Kd.C_below hc2 hU)⟩⟩
      have hlI : (k : Int) < (x.l.length : Int) := by omega
      have hlJ : (k : Int) < (y.l.length : Int) := by have := HLN.out; omega
      have HLT := Aside0.mk hlt
      have HSE := Aside0.mk hs
      have HTE := Aside0.mk ht
      clear e0 e1 f0 f1 hc1 hc2 ho1 ho2 hs ht hlt p3
      cases hf : (s.f0 != t.f0) with
      | true =>
        have HNO := Aside0.mk (sameL_no (m := y.l) HLT.out (by rw [HSE.out, HTE.out, eqC, beq_false_of_ne (bne_iff_ne.1 hf), Bool.false_and]))
        go_wp2_with fail
        refine region [(0, .p), (2, .p), (6, .p), (8, .p), (1, .t), (3, .p), (4, .p), (5, .t), (7, .t), (9, .p), (10, .p), (11, .t), (12, .p), (13, .p), (14, .p), (15, .p), (16, .p), (17, .p), (18, .p), (19, .p), (20, .p), (21, .p), (22, .p), (23, .p), (24, .p), (25, .p), (26, .p), (27, .p), (28, .p), (29, .p)] (fun U => U.cell? ⟨w.heap.size, 3, none⟩ = some (.slice (some ⟨b, o, none⟩) x.l.length c) ∧ U.cell? ⟨w.heap.size + 1, 3, none⟩ = some (.slice (some ⟨b', o', none⟩) y.l.length d) ∧ U.cell? ⟨b, o + k * 2, none⟩ = some (.int .u8 s.f0) ∧ U.cell? ⟨b, o + k * 2 + 1, none⟩ = some (.slice A1 s.f1.length c1) ∧ U.cell? ⟨b', o' + k * 2, none⟩ = some (.int .u8 t.f0) ∧ U.cell? ⟨b', o' + k * 2 + 1, none⟩ = some (.slice A2 t.f1.length c2) ∧ (convert 30 9 (.slice A1 s.f1.length c1)).run Try.prog U = .ok (.string (strOfNums s.f1)) U ∧ (convert 30 9 (.slice A2 t.f1.length c2)).run Try.prog U = .ok (.string (strOfNums t.f1)) U) (by kernel_rfl) (by kernel_rfl) (fun _ _ _ _ _ h => h) (HCE.out _ (below_drew (Below.refl _ _))) (fun hHeld => ?_)
        iterate 4 (refine lex_p rfl rfl rfl (by intro w'; go_simp; with_reducible rfl) (by simp only [Act.put, List.setIfInBounds_toArray, List.set_cons_zero, List.set_cons_succ, i64_w, i32_w]; rfl) ?_)
        (refine lex_t rfl rfl rfl (by rintro w' ⟨s0, s1, s2, s3, s4, s5, s6, s7⟩; go_simp; with_reducible rfl) (by simp only [Act.put, List.setIfInBounds_toArray, List.set_cons_zero, List.set_cons_succ, i64_w, i32_w]; rfl) ?_)
        iterate 2 (refine lex_p rfl rfl rfl (by intro w'; go_simp; with_reducible rfl) (by simp only [Act.put, List.setIfInBounds_toArray, List.set_cons_zero, List.set_cons_succ, i64_w, i32_w]; rfl) ?_)
        iterate 2 (refine lex_t rfl rfl rfl (by rintro w' ⟨s0, s1, s2, s3, s4, s5, s6, s7⟩; go_simp; with_reducible rfl) (by simp only [Act.put, List.setIfInBounds_toArray, List.set_cons_zero, List.set_cons_succ, i64_w, i32_w]; rfl) ?_)
        iterate 2 (refine lex_p rfl rfl rfl (by intro w'; go_simp; with_reducible rfl) (by simp only [Act.put, List.setIfInBounds_toArray, List.set_cons_zero, List.set_cons_succ, i64_w, i32_w]; rfl) ?_)
        (refine lex_t rfl rfl rfl (by rintro w' ⟨s0, s1, s2, s3, s4, s5, s6, s7⟩; go_simp; with_reducible rfl) (by simp only [Act.put, List.setIfInBounds_toArray, List.set_cons_zero, List.set_cons_succ, i64_w, i32_w]; rfl) ?_)
        iterate 2 (refine lex_p rfl rfl rfl (by intro w'; go_simp; with_reducible rfl) (by simp only [Act.put, List.setIfInBounds_toArray, List.set_cons_zero, List.set_cons_succ, i64_w, i32_w]; rfl) ?_)
        iterate 15 (refine lex_off rfl rfl rfl (by simp only [Act.put, List.setIfInBounds_toArray, List.set_cons_zero, List.set_cons_succ, i64_w, i32_w]; rfl) ?_)
        (refine lex_p rfl rfl rfl (by intro w'; go_simp; with_reducible rfl) (by simp only [Act.put, List.setIfInBounds_toArray, List.set_cons_zero, List.set_cons_succ, i64_w, i32_w]; rfl) ?_)
        refine lex_nil ?_
        go_wp2_with fail
        go_ret
        exact ⟨by rw [HNO.out]; rfl, below_drew HBW.out⟩
      | false =>
        obtain ⟨S1, hS1⟩ : ∃ S, strOfNums s.f1 = S := ⟨_, rfl⟩
        obtain ⟨S2, hS2⟩ : ∃ S, strOfNums t.f1 = S := ⟨_, rfl⟩
        rw [hS1, hS2] at HCE
        by_cases hg : s.f1 = t.f1
        · have hsame : (S1.toList == S2.toList) = true := by rw [← hS1, ← hS2, hg, beq_self_eq_true]
          have HOK : Aside0 (eqC (x.l.getD k z54) (y.l.getD k z54) = true) := ⟨by
            rw [HSE.out, HTE.out, eqC, hg]
            have : s.f0 = t.f0 := by simpa using hf
            simp [this]⟩
          clear hS1 hS2 hg
          go_wp2_with fail
          refine region [(0, .p), (2, .p), (6, .p), (8, .p), (1, .t), (3, .p), (4, .p), (5, .t), (7, .t), (9, .p), (10, .p), (11, .t), (12, .p), (13, .p), (14, .p), (16, .p), (21, .p), (23, .p), (15, .t), (17, .p), (18, .p), (19, .t), (20, .t), (22, .t), (24, .p), (25, .p), (26, .t), (27, .t), (28, .p), (29, .p)] (fun U => U.cell? ⟨w.heap.size, 3, none⟩ = some (.slice (some ⟨b, o, none⟩) x.l.length c) ∧ U.cell? ⟨w.heap.size + 1, 3, none⟩ = some (.slice (some ⟨b', o', none⟩) y.l.length d) ∧ U.cell? ⟨b, o + k * 2, none⟩ = some (.int .u8 s.f0) ∧ U.cell? ⟨b, o + k * 2 + 1, none⟩ = some (.slice A1 s.f1.length c1) ∧ U.cell? ⟨b', o' + k * 2, none⟩ = some (.int .u8 t.f0) ∧ U.cell? ⟨b', o' + k * 2 + 1, none⟩ = some (.slice A2 t.f1.length c2) ∧ (convert 30 9 (.slice A1 s.f1.length c1)).run Try.prog U = .ok (.string S1) U ∧ (convert 30 9 (.slice A2 t.f1.length c2)).run Try.prog U = .ok (.string S2) U) (by kernel_rfl) (by kernel_rfl) (fun _ _ _ _ _ h => h) (HCE.out _ (below_drew (Below.refl _ _))) (fun hHeld => ?_)
          iterate 4 (refine lex_p rfl rfl rfl (by intro w'; go_simp; with_reducible rfl) (by simp only [Act.put, List.setIfInBounds_toArray, List.set_cons_zero, List.set_cons_succ, i64_w, i32_w]; rfl) ?_)
          (refine lex_t rfl rfl rfl (by rintro w' ⟨s0, s1, s2, s3, s4, s5, s6, s7⟩; go_simp; with_reducible rfl) (by simp only [Act.put, List.setIfInBounds_toArray, List.set_cons_zero, List.set_cons_succ, i64_w, i32_w]; rfl) ?_)
          iterate 2 (refine lex_p rfl rfl rfl (by intro w'; go_simp; with_reducible rfl) (by simp only [Act.put, List.setIfInBounds_toArray, List.set_cons_zero, List.set_cons_succ, i64_w, i32_w]; rfl) ?_)
          iterate 2 (refine lex_t rfl rfl rfl (by rintro w' ⟨s0, s1, s2, s3, s4, s5, s6, s7⟩; go_simp; with_reducible rfl) (by simp only [Act.put, List.setIfInBounds_toArray, List.set_cons_zero, List.set_cons_succ, i64_w, i32_w]; rfl) ?_)
          iterate 2 (refine lex_p rfl rfl rfl (by intro w'; go_simp; with_reducible rfl) (by simp only [Act.put, List.setIfInBounds_toArray, List.set_cons_zero, List.set_cons_succ, i64_w, i32_w]; rfl) ?_)
          (refine lex_t rfl rfl rfl (by rintro w' ⟨s0, s1, s2, s3, s4, s5, s6, s7⟩; go_simp; with_reducible rfl) (by simp only [Act.put, List.setIfInBounds_toArray, List.set_cons_zero, List.set_cons_succ, i64_w, i32_w]; rfl) ?_)
          iterate 6 (refine lex_p rfl rfl rfl (by intro w'; go_simp; with_reducible rfl) (by simp only [Act.put, List.setIfInBounds_toArray, List.set_cons_zero, List.set_cons_succ, i64_w, i32_w]; rfl) ?_)
          (refine lex_t rfl rfl rfl (by rintro w' ⟨s0, s1, s2, s3, s4, s5, s6, s7⟩; go_simp; with_reducible rfl) (by simp only [Act.put, List.setIfInBounds_toArray, List.set_cons_zero, List.set_cons_succ, i64_w, i32_w]; rfl) ?_)
          iterate 2 (refine lex_p rfl rfl rfl (by intro w'; go_simp; with_reducible rfl) (by simp only [Act.put, List.setIfInBounds_toArray, List.set_cons_zero, List.set_cons_succ, i64_w, i32_w]; rfl) ?_)
          iterate 3 (refine lex_t rfl rfl rfl (by rintro w' ⟨s0, s1, s2, s3, s4, s5, s6, s7⟩; go_simp; with_reducible rfl) (by simp only [Act.put, List.setIfInBounds_toArray, List.set_cons_zero, List.set_cons_succ, i64_w, i32_w]; rfl) ?_)
          iterate 2 (refine lex_p rfl rfl rfl (by intro w'; go_simp; with_reducible rfl) (by simp only [Act.put, List.setIfInBounds_toArray, List.set_cons_zero, List.set_cons_succ, i64_w, i32_w]; rfl) ?_)
          iterate 2 (refine lex_t rfl rfl rfl (by rintro w' ⟨s0, s1, s2, s3, s4, s5, s6, s7⟩; go_simp; with_reducible rfl) (by simp only [Act.put, List.setIfInBounds_toArray, List.set_cons_zero, List.set_cons_succ, i64_w, i32_w]; rfl) ?_)
          iterate 2 (refine lex_p rfl rfl rfl (by intro w'; go_simp; with_reducible rfl) (by simp only [Act.put, List.setIfInBounds_toArray, List.set_cons_zero, List.set_cons_succ, i64_w, i32_w]; rfl) ?_)
          refine lex_nil ?_
          go_wp2_with fail
          go_roundg (gk - 1)
          case measure => have := HLT.out; omega
          case rel => exact ⟨k + 1, by have := HLT.out; omega, by omega, by go_num, ⟨fun j hj => by
            by_cases e : j = k
            · rw [e]
              exact HOK.out
            · exact HN.out j (by omega)⟩, ⟨below_drew HB.out⟩⟩
        · have hsame : (S1.toList == S2.toList) = false := by rw [← hS1, ← hS2]; exact str_ne hbs hbt hg
          have HNO := Aside0.mk (sameL_no (m := y.l) HLT.out (by rw [HSE.out, HTE.out, eqC, beq_false_of_ne hg, Bool.and_false]))
          clear hS1 hS2 hg
          go_wp2_with fail
          refine region [(0, .p), (2, .p), (6, .p), (8, .p), (1, .t), (3, .p), (4, .p), (5, .t), (7, .t), (9, .p), (10, .p), (11, .t), (12, .p), (13, .p), (14, .p), (16, .p), (21, .p), (23, .p), (15, .t), (17, .p), (18, .p), (19, .t), (20, .t), (22, .t), (24, .p), (25, .p), (26, .t), (27, .t), (28, .p), (29, .p)] (fun U => U.cell? ⟨w.heap.size, 3, none⟩ = some (.slice (some ⟨b, o, none⟩) x.l.length c) ∧ U.cell? ⟨w.heap.size + 1, 3, none⟩ = some (.slice (some ⟨b', o', none⟩) y.l.length d) ∧ U.cell? ⟨b, o + k * 2, none⟩ = some (.int .u8 s.f0) ∧ U.cell? ⟨b, o + k * 2 + 1, none⟩ = some (.slice A1 s.f1.length c1) ∧ U.cell? ⟨b', o' + k * 2, none⟩ = some (.int .u8 t.f0) ∧ U.cell? ⟨b', o' + k * 2 + 1, none⟩ = some (.slice A2 t.f1.length c2) ∧ (convert 30 9 (.slice A1 s.f1.length c1)).run Try.prog U = .ok (.string S1) U ∧ (convert 30 9 (.slice A2 t.f1.length c2)).run Try.prog U = .ok (.string S2) U) (by kernel_rfl) (by kernel_rfl) (fun _ _ _ _ _ h => h) (HCE.out _ (below_drew (Below.refl _ _))) (fun hHeld => ?_)
          iterate 4 (refine lex_p rfl rfl rfl (by intro w'; go_simp; with_reducible rfl) (by simp only [Act.put, List.setIfInBounds_toArray, List.set_cons_zero, List.set_cons_succ, i64_w, i32_w]; rfl) ?_)
          (refine lex_t rfl rfl rfl (by rintro w' ⟨s0, s1, s2, s3, s4, s5, s6, s7⟩; go_simp; with_reducible rfl) (by simp only [Act.put, List.setIfInBounds_toArray, List.set_cons_zero, List.set_cons_succ, i64_w, i32_w]; rfl) ?_)
          iterate 2 (refine lex_p rfl rfl rfl (by intro w'; go_simp; with_reducible rfl) (by simp only [Act.put, List.setIfInBounds_toArray, List.set_cons_zero, List.set_cons_succ, i64_w, i32_w]; rfl) ?_)
          iterate 2 (refine lex_t rfl rfl rfl (by rintro w' ⟨s0, s1, s2, s3, s4, s5, s6, s7⟩; go_simp; with_reducible rfl) (by simp only [Act.put, List.setIfInBounds_toArray, List.set_cons_zero, List.set_cons_succ, i64_w, i32_w]; rfl) ?_)
          iterate 2 (refine lex_p rfl rfl rfl (by intro w'; go_simp; with_reducible rfl) (by simp only [Act.put, List.setIfInBounds_toArray, List.set_cons_zero, List.set_cons_succ, i64_w, i32_w]; rfl) ?_)
          (refine lex_t rfl rfl rfl (by rintro w' ⟨s0, s1, s2, s3, s4, s5, s6, s7⟩; go_simp; with_reducible rfl) (by simp only [Act.put, List.setIfInBounds_toArray, List.set_cons_zero, List.set_cons_succ, i64_w, i32_w]; rfl) ?_)
          iterate 6 (refine lex_p rfl rfl rfl (by intro w'; go_simp; with_reducible rfl) (by simp only [Act.put, List.setIfInBounds_toArray, List.set_cons_zero, List.set_cons_succ, i64_w, i32_w]; rfl) ?_)
          (refine lex_t rfl rfl rfl (by rintro w' ⟨s0, s1, s2, s3, s4, s5, s6, s7⟩; go_simp; with_reducible rfl) (by simp only [Act.put, List.setIfInBounds_toArray, List.set_cons_zero, List.set_cons_succ, i64_w, i32_w]; rfl) ?_)
          iterate 2 (refine lex_p rfl rfl rfl (by intro w'; go_simp; with_reducible rfl) (by simp only [Act.put, List.setIfInBounds_toArray, List.set_cons_zero, List.set_cons_succ, i64_w, i32_w]; rfl) ?_)
          iterate 3 (refine lex_t rfl rfl rfl (by rintro w' ⟨s0, s1, s2, s3, s4, s5, s6, s7⟩; go_simp; with_reducible rfl) (by simp only [Act.put, List.setIfInBounds_toArray, List.set_cons_zero, List.set_cons_succ, i64_w, i32_w]; rfl) ?_)
          iterate 2 (refine lex_p rfl rfl rfl (by intro w'; go_simp; with_reducible rfl) (by simp only [Act.put, List.setIfInBounds_toArray, List.set_cons_zero, List.set_cons_succ, i64_w, i32_w]; rfl) ?_)
          iterate 2 (refine lex_t rfl rfl rfl (by rintro w' ⟨s0, s1, s2, s3, s4, s5, s6, s7⟩; go_simp; with_reducible rfl) (by simp only [Act.put, List.setIfInBounds_toArray, List.set_cons_zero, List.set_cons_succ, i64_w, i32_w]; rfl) ?_)
          iterate 2 (refine lex_p rfl rfl rfl (by intro w'; go_simp; with_reducible rfl) (by simp only [Act.put, List.setIfInBounds_toArray, List.set_cons_zero, List.set_cons_succ, i64_w, i32_w]; rfl) ?_)
          refine lex_nil ?_
          go_wp2_with fail
          go_ret
          exact ⟨by rw [HNO.out]; rfl, below_drew HBW.out⟩
    · obtain rfl : k = x.l.length := by omega
      have HYS := Aside0.mk (sameL_yes (m := y.l) HLN.out HN.out)
      have hlI : ¬ ((x.l.length : Int) < (x.l.length : Int)) := by omega
      go_wp2_with fail
      go_ret
      exact ⟨by rw [HYS.out]; rfl, HBW.out⟩
end Go.Proofs.Yticilaoibjbgfaa.Op

set_option linter.unusedSimpArgs false
set_option linter.unusedVariables false
namespace Go.Proofs.Yticilaoibjbgfaa.Op
open Go.RowKit Go.Proofs.YticilaoibjbgfaaW.PrintWords Go.Proofs.YticilaoibjbgfaaW.PrintLast Go.Proofs.YticilaoibjbgfaaW.PrintMore Go.Proofs.Yticilaoibjbgfaa.POpenRaws Go.Proofs.Yticilaoibjbgfaa.Lib Go.Proofs.Yticilaoibjbgfaa.High Go.Proofs.Yticilaoibjbgfaa.Lex
/-- cells of an opening -/
abbrev cO (o : Opn) (A : Option Addr) (c : Nat) : List Value := [.int .u32 o.a, .int .u16 o.h, .int .u32 o.i, .slice A o.l.length c]
theorem set_getD {α : Type} (l : List α) (k : Nat) (z : α) : l.set k (l.getD k z) = l := by
  apply List.ext_getElem?
  intro j
  by_cases h : k = j
  · subst h
    by_cases hk : k < l.length
    · rw [List.getElem?_set_self hk, List.getD_eq_getElem?_getD, List.getElem?_eq_getElem hk]
      rfl
    · rw [List.getElem?_eq_none (by simpa using hk), List.getElem?_eq_none (by simpa using hk)]
  · rw [List.getElem?_set_ne h]
theorem stopHere {p : Prop} (h : Aside0 p) : p := h.out
theorem zero54 {b : Nat} {w : World} (ok : Nat → Prop) (hf : ok w.heap.size) (hb : b ≤ w.heap.size) : Kd.N k54 54 (w.alloc (.cells #[] 54)) b ok (.slice (some ⟨w.heap.size, 0, none⟩) 0 0) [] :=
  Kd.R_N (show Kd.R k54 54 (w.alloc (.cells #[] 54)) b ok (.slice (some ⟨w.heap.size, 0, none⟩) 0 0) [] from
    ⟨fun k hk => by have e : w.heap.size = k := Option.some.inj hk; rw [← e]; exact hf, OwnRow.lit (ps := []) (inner := []) w b ⟨rfl, fun j p hj => by simp at hj⟩ hb (by simp)⟩)
theorem size26 (o : Opn) (A : Option Addr) (c : Nat) : (Try.prog.info? 26).map (·.size) = some (cO o A c).length := by show _ = some 4; kernel_rfl
theorem FK_body {x : S54} {W : World} {u : Value} {b : Nat} {ok : Nat → Prop} (hu : OB b W u x.f1) (hok : ∀ k, u.ownBlock = some k → ok k) : Kd.FK k54 W ok x [.int .u8 x.f0, u] := by
  obtain ⟨A, c, e, h1, h2⟩ := hu.reads
  subst e
  refine fun W' hW => k54_mk W' x h1 ?_
  have h3 : Kd.R KB 5 W b (fun k => some k = (Value.slice A x.f1.length c).ownBlock) (.slice A x.f1.length c) x.f1 := Kd.R_tight rfl hu
  have h4 := Kd.R_step (w1 := W') h3 (fun k hk hlt => hW k (hok k hk.symm) hlt)
  obtain ⟨A', c', e', _, h5⟩ := Kd.R_reads h4
  injection e' with e1 e2 e3
  rw [e1]
  exact h5
set_option maxRecDepth 100000 in
set_option maxHeartbeats 8000000 in
theorem lentC (o : Opn) (A : Option Addr) (c : Nat) (w : World) (hx : Kd.C k54 w A o.l.length o.l) (hl : o.l.length < 500000) (hbl : ∀ x ∈ o.l, x.f1.length ≤ 1000000) :
    Calls Try.prog 11 #[aO o A c] w fun e w' => ∃ A' c', e = .returned (aO o A' c') ∧ o.l.length ≤ c' ∧ Kd.C k54 w' A' o.l.length o.l ∧ Below w.heap.size w w' := by
  obtain ⟨p, hp⟩ : ∃ p, w.heap.size = p := ⟨_, rfl⟩
  have hob1 := Ob.new w (cO o A c) _ rfl 26
  have hb1 := below_alloc (Below.refl w.heap.size w) (.cells (cO o A c).toArray 26)
  obtain ⟨w1, hw1⟩ : ∃ W, w.alloc (.cells (cO o A c).toArray 26) = W := ⟨_, rfl⟩
  have hs1 : w1.heap.size = p + 1 := by rw [← hw1, ← hp]; simp
  rw [hw1] at hob1 hb1
  have hob2 := Ob.new w1 [.int .u32 0, .int .u16 0, .int .u32 0, .slice none 0 0] _ rfl 26
  have hb2 := below_alloc (Below.refl w1.heap.size w1) (.cells #[.int .u32 0, .int .u16 0, .int .u32 0, .slice none 0 0] 26)
  obtain ⟨w2, hw2⟩ : ∃ W, w1.alloc (.cells #[.int .u32 0, .int .u16 0, .int .u32 0, .slice none 0 0] 26) = W := ⟨_, rfl⟩
  have hs2 : w2.heap.size = p + 1 + 1 := by rw [← hw2, World.size_alloc, hs1]
  rw [hw2, hs1] at hob2
  rw [hw2] at hb2
  have hb3 := below_alloc (Below.refl w2.heap.size w2) (.cells #[] 54)
  have hn3 := zero54 (b := p + 1 + 1) (w := w2) (fun k => k ≠ p ∧ k ≠ p + 1) (by omega) (by omega)
  obtain ⟨V, hV⟩ : ∃ W, w2.alloc (.cells #[] 54) = W := ⟨_, rfl⟩
  have hs3 : V.heap.size = p + 1 + 1 + 1 := by rw [← hV, World.size_alloc, hs2]
  rw [hV] at hb3
  rw [hV, hs2] at hn3
  rw [hp] at hob1
  have o1 := (hob1.below hb2 (by omega)).below hb3 (by omega)
  have o2 := hob2.below hb3 (by omega)
  have hbV := (hb1.trans (hb2.mono hb1.size)).trans (hb3.mono (by omega))
  have HP := Aside0.mk hp
  have HW1 := Aside0.mk hw1
  have HW2 := Aside0.mk hw2
  have HV := Aside0.mk hV
  have HS3 := Aside0.mk hs3
  have HS2 := Aside0.mk hs2
  have HN3 := Aside0.mk hn3
  have HO1 := Aside0.mk o1
  have HO2 := Aside0.mk o2
  have HBV := Aside0.mk hbV
  have HF := Aside0.mk (F_came heap54 hx hbV)
  have q3 := (o1 3 _ rfl).1
  have HBL := Aside0.mk hbl
  have HOK : Aside0 (∀ k, k < w.heap.size → (k ≠ p ∧ k ≠ p + 1) ∧ some k ≠ (Value.slice (some ⟨p + 1 + 1, 0, none⟩) 0 0).ownBlock) := ⟨fun k hk => ⟨⟨by omega, by omega⟩, fun e => by have e2 : k = p + 1 + 1 := Option.some.inj e; omega⟩⟩
  have HFR : Aside0 (∀ k, V.heap.size ≤ k → k ≠ p ∧ k ≠ p + 1) := ⟨fun k hk => ⟨by omega, by omega⟩⟩
  clear hob1 hob2 hb1 hb2 hb3 hn3 o1 o2 hbV hx hw1 hw2 hV hs1 hs2 hs3 hbl
  go_enter Try.func11, Try.ntmps11
  go_wp2_with ((with_reducible refine gate_builtin (b := .append) (xs := #[.tmp 5, .tmp 7]) rfl ?_); refine stopHere ?_)
  refine ⟨?_⟩
  rw [HW1.out, HW2.out, HV.out]; refine Kd.N_append_rows k54 (w0 := V) (p + 1 + 1) rfl (.tmp 5) (.tmp 7) 24 54 (.agg #[.int .u8 0, .slice none 0 0]) 32 rfl Try.underlying24 info54 rfl (by decide) (by decide) (.slice (some ⟨p + 1 + 1, 0, none⟩) 0 0) [] o.l A o.l.length c (fun k => k ≠ p ∧ k ≠ p + 1) _ rfl rfl HN3.out HF.out (fun k hk => HOK.out k hk) HFR.out (Below.refl _ _) (by have := HS3.out; omega) (by simp; omega) ?_; intro v1 w3 hn hb _ _; have HN := Aside0.mk hn; have HB3 := Aside0.mk hb; clear hn hb; rw [List.nil_append] at HN; obtain ⟨Av, cv, ev, hcv, _⟩ := Kd.N_reads HN.out; subst ev
  go_wp2_with fail
  have o1 := HO1.out.below HB3.out (by omega)
  have o2 := HO2.out.below HB3.out (by omega)
  go_loopg [4] o.l.length (fun gk s4 W => ∃ k : Nat, k ≤ o.l.length ∧ o.l.length - k ≤ gk ∧ s4 = .int .i64 k ∧ Aside0 (Kd.N k54 54 W (p + 1 + 1) (fun k => k ≠ p ∧ k ≠ p + 1) (.slice Av o.l.length cv) o.l) ∧ Aside0 (Ob p W (cO o A c)) ∧ Aside0 (Ob (p + 1) W [.int .u32 0, .int .u16 0, .int .u32 0, .slice none 0 0]) ∧ Aside0 (Below w.heap.size w W))
  case atStart => exact ⟨0, by omega, by omega, rfl, HN, ⟨o1⟩, ⟨o2⟩, ⟨HBV.out.trans (HB3.out.mono (by omega))⟩⟩
  case round =>
    clear o1 o2 HO1 HO2 HN HB3
    obtain ⟨k, hk, hgk, rfl, HN, HO1, HO2, HB⟩ := hrel
    by_cases hlt : k < o.l.length
    · obtain ⟨g, cap, eg, hg0, hg1, _⟩ := Kd.N_form HN.out (by omega)
      injection eg with e1 _ e3
      subst e1 e3
      obtain ⟨cs, _, hFK, hcc, _⟩ := Kd.N_elem HN.out z54 k (by omega) (by omega)
      obtain ⟨A1, c1, ecs, hl1, hF1⟩ := k54_openF hFK
      subst ecs
      have e0 := hcc 0 _ rfl
      have e1 := hcc 1 _ rfl
      rw [Int.toNat_natCast] at e0 e1 hF1 hl1 hcc
      obtain ⟨x, hxe⟩ : ∃ x, o.l.getD k z54 = x := ⟨_, rfl⟩
      rw [hxe] at e0 e1 hF1 hl1 hcc
      have e0 : wr.cell? ⟨g, k * 2, none⟩ = some (.int .u8 x.f0) := e0
      have e1 : wr.cell? ⟨g, k * 2 + 1, none⟩ = some (.slice A1 x.f1.length c1) := e1
      have hbx : x.f1.length ≤ 1000000 := by rw [← hxe]; exact HBL.out _ (getD_mem _ _ _ hlt)
      have HXE := Aside0.mk hxe
      have HC1 := Aside0.mk (Kd.F_now hF1)
      have hob0 := OB.lit (b := wr.heap.size) wr [] [] rfl 0 rfl (Nat.le_refl _) (by simp)
      have hb0 := below_alloc (Below.refl wr.heap.size wr) (.cells #[] 5)
      have HO0 := Aside0.mk hob0
      have e2 := pw_cell_below hb0 e1
      have HB0 := Aside0.mk hb0
      have HCC : Aside0 (∀ W, Below wr.heap.size wr W → ∀ j u, [Value.int .u8 x.f0, Value.slice A1 x.f1.length c1][j]? = some u → W.cell? ⟨g, (k : Int).toNat * 2 + j, none⟩ = some u) := ⟨fun W hW j u hj => pw_cell_below hW (hcc j u hj)⟩
      have hlI : (k : Int) < (o.l.length : Int) := by omega
      have HSW := Aside0.mk (show p + 1 + 1 ≤ wr.heap.size by omega)
      have HG := Aside0.mk (show p + 1 + 1 ≤ g ∧ g < wr.heap.size from ⟨hg0, hg1⟩)
      have HLT := Aside0.mk hlt
      have HQ : Aside0 (∀ q, wr.heap.size ≤ q → (q ≠ p ∧ q ≠ p + 1) ∧ q ≠ g) := ⟨fun q hq => ⟨⟨by omega, by omega⟩, by omega⟩⟩
      clear hFK hcc hF1 hxe hob0 hb0 hlt hg0 hg1
      go_wp2_with (first | ((with_reducible refine gate_builtin (b := .append) (xs := #[.tmp 17, .tmp 22]) rfl ?_); refine ap_row wr.heap.size _ _ rfl rfl HO0.out (Kd.C_below HC1.out HB0.out) rfl rfl HB0.out.size (by simp; omega) ?_; intro v w4 ho4 hb4; rw [List.nil_append] at ho4; have HO4 := Aside0.mk ho4; have HB4 := Aside0.mk (HB0.out.trans hb4); clear ho4 hb4; obtain ⟨Ar, cr, er, _, _⟩ := HO4.out.reads; subst er) | ((with_reducible refine gate_store (t := 30) (p := 25) rfl ?_); refine stopHere ?_))
      refine ⟨?_⟩
      refine Kd.N_store k54 (w0 := w4) (p + 1 + 1) rfl rfl 30 (.tmp 25) (.tmp 23) rfl 54 (k : Int) 1 o.l x (.slice Ar x.f1.length cr) [.slice Ar x.f1.length cr] [.int .u8 x.f0, .slice A1 x.f1.length c1] (fun k => k ≠ p ∧ k ≠ p + 1) (fun q => (Value.slice Ar x.f1.length cr).ownBlock = some q) rfl rfl rfl rfl (by kernel_rfl) (by simp [Value.oneCell']) (Kd.N_below HN.out HB4.out) (Int.natCast_nonneg k) hlI rfl (HCC.out _ HB4.out) (show 1 + 1 ≤ 2 by decide) (FK_body HO4.out (fun _ h => h)) (fun q hq => HQ.out q (Kd.R_base HO4.out q hq)) (Below.refl _ _) ?_
      intro w5 hn5 hb5 hg5
      have HN5 := Aside0.mk hn5
      have HB5 := Aside0.mk hb5
      have HG5 := Aside0.mk hg5
      clear hn5 hb5 hg5
      go_wp2_with fail
      have hn := HN5.out
      rw [Int.toNat_natCast, ← HXE.out, set_getD] at hn
      have sw4 := HB4.out.size
      have u1 := (HO1.out.below HB4.out (by have := HSW.out; omega)).same (HG5.out.block p (by have := HSW.out; omega) (fun e => by have := HG.out; have e2 := Option.some.inj e; omega))
      have u2 := (HO2.out.below HB4.out (by have := HSW.out; omega)).same (HG5.out.block (p + 1) (by have := HSW.out; omega) (fun e => by have := HG.out; have e2 := Option.some.inj e; omega))
      have ub := (HB.out.trans (HB4.out.mono HB.out.size)).trans (HB5.out.mono (show w.heap.size ≤ p + 1 + 1 by omega))
      go_roundg (gk - 1)
      case measure => have := HLT.out; omega
      case rel => exact ⟨k + 1, by have := HLT.out; omega, by omega, by go_num, ⟨hn⟩, ⟨u1⟩, ⟨u2⟩, ⟨ub⟩⟩
    · obtain rfl : k = o.l.length := by omega
      have hlI : ¬ ((o.l.length : Int) < (o.l.length : Int)) := by omega
      obtain ⟨q3, f3⟩ := HO1.out 3 _ rfl
      have hO1 : Ob p (wr.setCell ⟨p, 3, none⟩ (.slice Av o.l.length cv)) (cO o Av cv) := HO1.out.set 3 (by simp) _
      have hO2 := HO2.out.far (q := ⟨p, 3, none⟩) (by simp) (.slice Av o.l.length cv)
      have hN := Kd.N_far HN.out (p := ⟨p, 3, none⟩) (fun k hk => hk.1) (.slice Av o.l.length cv)
      have hBs := Below.setCell (HB.out) (p := ⟨p, 3, none⟩) (by show w.heap.size ≤ p; omega) (.slice Av o.l.length cv)
      obtain ⟨W1, hW1⟩ : ∃ W, wr.setCell ⟨p, 3, none⟩ (.slice Av o.l.length cv) = W := ⟨_, rfl⟩
      rw [hW1] at hO1 hO2 hN hBs
      obtain ⟨W2, hst, hO3, hbut⟩ := storeS (cO o Av cv) 26 hO2 rfl (size26 o Av cv) (by simp [Value.oneCell'])
      have HLD := Aside0.mk (loadS 26 hO1 Try.underlying26 (size26 o Av cv))
      have HLE := Aside0.mk (loadS 26 hO3 Try.underlying26 (size26 o Av cv))
      have HST := Aside0.mk hst
      have hN2 := Kd.N_step (w1 := W2) hN (fun k hk hlt => hbut.block k hlt hk.2)
      have HC := Aside0.mk (Kd.N_reads hN2)
      have HBF := Aside0.mk (hBs.trans (hbut.below hBs.size (fun k hk e => by have : k = p + 1 := e; omega)))
      have HW := Aside0.mk hW1
      have HCV := Aside0.mk hcv
      clear hst hO1 hO2 hO3 hN hN2 hBs hbut hW1 hcv
      go_wp2_with (first | (rw [HW.out]; refine pl_load rfl 26 _ rfl _ _ HLD.out rfl ?_) | (refine pl_store rfl 26 _ _ rfl _ _ HST.out rfl rfl ?_))
      obtain ⟨A', c', e', h1, h2⟩ := HC.out
      refine bodyPost_ret (results_cell rfl _ _ (p + 1) _ rfl HLE.out) rfl ⟨Av, cv, rfl, HCV.out, ?_, by have hbf := HBF.out; rw [hp] at hbf; exact hbf⟩
      injection e' with e1 e2 e3
      rw [e1]
      exact h2
end Go.Proofs.Yticilaoibjbgfaa.Op

set_option linter.unusedSimpArgs false
set_option linter.unusedVariables false
namespace Go.Proofs.Yticilaoibjbgfaa.Op
open Go.RowKit Go.Proofs.YticilaoibjbgfaaW.PrintWords Go.Proofs.YticilaoibjbgfaaW.PrintLast Go.Proofs.YticilaoibjbgfaaW.PrintMore Go.Proofs.Yticilaoibjbgfaa.POpenRaws Go.Proofs.Yticilaoibjbgfaa.Lib Go.Proofs.Yticilaoibjbgfaa.High Go.Proofs.Yticilaoibjbgfaa.Lex
set_option maxRecDepth 100000 in
set_option maxHeartbeats 4000000 in
theorem isCode (x : S54) (A : Option Addr) (c q : Nat) (code : Int) (w : World) (hq : w.cell? ⟨q, 0, none⟩ = some (.int .u8 code)) :
    Calls Try.prog 43 #[.agg #[.int .u8 x.f0, .slice A x.f1.length c], .pointer (some ⟨q, 0, none⟩)] w fun e w' => e = .returned (.bool (x.f0 == code)) ∧ Below w.heap.size w w' := by
  have hb := below_alloc (Below.refl w.heap.size w) (.cells #[.int .u8 x.f0, .slice A x.f1.length c] 54)
  have hob := Ob.new w [.int .u8 x.f0, .slice A x.f1.length c] _ rfl 54
  have q0 := (hob 0 _ rfl).1
  have q1 := pw_cell_below hb hq
  have HB := Aside0.mk hb
  clear hob hb
  go_enter Try.func43, Try.ntmps43
  go_wp2_with fail
  go_ret
  exact ⟨rfl, HB.out⟩
set_option maxRecDepth 100000 in
set_option maxHeartbeats 4000000 in
theorem idxC (q : Nat) (code : Int) (A : Option Addr) (c : Nat) (l : List S54) (w : World) (hx : Kd.C k54 w A l.length l) (hq : w.cell? ⟨q, 0, none⟩ = some (.int .u8 code)) (hll : l.length < 1000000) :
    Calls Try.prog 42 #[.slice A l.length c, .func (.func 43) #[] #[.pointer (some ⟨q, 0, none⟩)]] w fun e w' =>
      ((e = .returned (.int .i64 (-1)) ∧ ∀ j, j < l.length → (l.getD j z54).f0 ≠ code) ∨ ∃ k : Nat, k < l.length ∧ e = .returned (.int .i64 k) ∧ (l.getD k z54).f0 = code ∧ ∀ j, j < k → (l.getD j z54).f0 ≠ code) ∧ Below w.heap.size w w' := by
  have HX := Aside0.mk hx
  have HQ := Aside0.mk hq
  clear hx hq
  go_enter Try.func42, Try.ntmps42
  go_wp2_with fail
  go_loopg [8] l.length (fun gk s8 W => ∃ k : Nat, k ≤ l.length ∧ l.length - k ≤ gk ∧ s8 = .int .i64 k ∧ Aside0 (∀ j, j < k → (l.getD j z54).f0 ≠ code) ∧ Aside0 (Below w.heap.size w W))
  case atStart => exact ⟨0, by omega, by omega, rfl, ⟨fun j hj => by omega⟩, ⟨Below.refl _ _⟩⟩
  case round =>
    obtain ⟨k, hk, hgk, rfl, HN, HB⟩ := hrel
    by_cases hlt : k < l.length
    · obtain ⟨b, o, A1, c1, rfl, q0, q1, _, _⟩ := C_cap (Kd.C_below HX.out HB.out) k hlt
      obtain ⟨x, hxe⟩ : ∃ x, l.getD k z54 = x := ⟨_, rfl⟩
      rw [hxe] at q0 q1
      have HXE := Aside0.mk hxe
      have hlI : (k : Int) < (l.length : Int) := by omega
      have HLT := Aside0.mk hlt
      have HP := Aside0.mk (isCode x A1 c1 q code wr (pw_cell_below HB.out HQ.out))
      clear hxe hlt
      cases hc : (x.f0 == code) with
      | true =>
        have HE := Aside0.mk (eq_of_beq hc)
        rw [hc] at HP
        clear hc
        go_wp2_with fail
        refine HP.out.mono ?_
        rintro e w2 ⟨rfl, hb2⟩
        go_wp2_with fail
        go_ret
        exact ⟨.inr ⟨k, HLT.out, rfl, by rw [HXE.out]; exact HE.out, HN.out⟩, HB.out.trans (hb2.mono HB.out.size)⟩
      | false =>
        have HE := Aside0.mk (ne_of_beq_false hc)
        rw [hc] at HP
        clear hc
        go_wp2_with fail
        refine HP.out.mono ?_
        rintro e w2 ⟨rfl, hb2⟩
        have HB2 := Aside0.mk (HB.out.trans (hb2.mono HB.out.size))
        clear hb2
        go_wp2_with fail
        go_roundg (gk - 1)
        case measure => have := HLT.out; omega
        case rel => exact ⟨k + 1, by have := HLT.out; omega, by omega, by go_num, ⟨fun j hj => by
          by_cases e : j = k
          · rw [e, HXE.out]
            exact HE.out
          · exact HN.out j (by omega)⟩, HB2⟩
    · obtain rfl : k = l.length := by omega
      have hlI : ¬ ((l.length : Int) < (l.length : Int)) := by omega
      go_wp2_with fail
      go_ret
      exact ⟨.inl ⟨rfl, HN.out⟩, HB.out⟩
set_option maxRecDepth 100000 in
set_option maxHeartbeats 4000000 in
theorem capC (o : Opn) (A : Option Addr) (c : Nat) (code : Int) (w : World) (hx : Kd.C k54 w A o.l.length o.l) (hll : o.l.length < 1000000) (hbl : ∀ x ∈ o.l, x.f1.length ≤ 1000000) :
    Calls Try.prog 23 #[aO o A c, .int .u8 code] w fun e w' =>
      ∃ v, ((e = .returned (.tuple #[v, .bool false]) ∧ v = .slice none 0 0 ∧ ∀ j, j < o.l.length → (o.l.getD j z54).f0 ≠ code) ∨ ∃ k : Nat, k < o.l.length ∧ e = .returned (.tuple #[v, .bool true]) ∧ OB w.heap.size w' v (o.l.getD k z54).f1 ∧ (o.l.getD k z54).f0 = code ∧ ∀ j, j < k → (o.l.getD j z54).f0 ≠ code) ∧ Below w.heap.size w w' := by
  have hb1 := below_alloc (Below.refl w.heap.size w) (.cells (cO o A c).toArray 26)
  have hob1 := Ob.new w (cO o A c) _ rfl 26
  obtain ⟨w1, hw1⟩ : ∃ W, w.alloc (.cells (cO o A c).toArray 26) = W := ⟨_, rfl⟩
  have hs1 : w1.heap.size = w.heap.size + 1 := by rw [← hw1]; simp
  rw [hw1] at hb1 hob1
  have hb2 := below_alloc (Below.refl w1.heap.size w1) (.cells #[.int .u8 code] 5)
  have hob2 := Ob.new w1 [.int .u8 code] _ rfl 5
  obtain ⟨V, hV⟩ : ∃ W, w1.alloc (.cells #[.int .u8 code] 5) = W := ⟨_, rfl⟩
  have hs2 : V.heap.size = w.heap.size + 1 + 1 := by rw [← hV, World.size_alloc, hs1]
  rw [hV] at hb2 hob2
  rw [hs1] at hob2
  have o1 := hob1.below hb2 (by omega)
  have hbV := hb1.trans (hb2.mono hb1.size)
  have HXV := Aside0.mk (Kd.C_below hx hbV)
  have HBV := Aside0.mk hbV
  have HO1 := Aside0.mk o1
  have q3 := (o1 3 _ rfl).1
  have HQ := Aside0.mk (hob2 0 _ rfl).1
  have HW1 := Aside0.mk hw1
  have HV := Aside0.mk hV
  have HS := Aside0.mk hs2
  have HBL := Aside0.mk hbl
  clear hb1 hob1 hb2 hob2 o1 hbV hx hw1 hV hs1 hs2 hbl
  go_enter Try.func23, Try.ntmps23
  go_wp2_with (rw [HW1.out, HV.out])
  refine (idxC (w.heap.size + 1) code A c o.l _ HXV.out HQ.out hll).mono ?_
  rintro e w2 ⟨hor, hb2⟩
  have o2 := HO1.out.below hb2 (by rw [HS.out]; omega)
  have p3 := (o2 3 _ rfl).1
  have HB2 := Aside0.mk (HBV.out.trans (hb2.mono HBV.out.size))
  have HX2 := Aside0.mk (Kd.C_below HXV.out hb2)
  clear hb2 o2
  rcases hor with ⟨rfl, hno⟩ | ⟨k, hk, rfl, hc, hno⟩
  · have HNO := Aside0.mk hno
    clear hno
    go_wp2_with fail
    refine bodyPost_ret (v := .tuple #[.slice none 0 0, .bool false]) (by simp [results, Try.results23, go_sem]) rfl ⟨_, .inl ⟨rfl, rfl, HNO.out⟩, HB2.out⟩
  · have HNO := Aside0.mk hno
    have HC := Aside0.mk hc
    have HK := Aside0.mk hk
    obtain ⟨b, o', A1, c1, rfl, e0, e1, hl1, hC1⟩ := C_cap HX2.out k hk
    have hbx : (o.l.getD k z54).f1.length ≤ 1000000 := HBL.out _ (getD_mem _ _ _ hk)
    obtain ⟨x, hxe⟩ : ∃ x, o.l.getD k z54 = x := ⟨_, rfl⟩
    rw [hxe] at e0 e1 hl1 hC1 hbx
    have HXE := Aside0.mk hxe
    have HC1 := Aside0.mk hC1
    have hkI : (k : Int) < (o.l.length : Int) := by omega
    have hkn : ¬ ((k : Int) < 0) := by omega
    clear hno hc hxe hC1 hk
    go_wp2_with fail
    refine (clone A1 c1 x.f1 _ HC1.out (by omega)).mono ?_
    rintro e w3 ⟨v, rfl, ho3, hb3⟩
    have HO3 := Aside0.mk (ho3.lower HB2.out.size)
    have HB3 := Aside0.mk (HB2.out.trans (hb3.mono HB2.out.size))
    clear ho3 hb3
    go_wp2_with fail
    refine bodyPost_ret (v := .tuple #[v, .bool true]) (by simp [results, Try.results23, go_sem]) rfl ⟨_, .inr ⟨k, HK.out, rfl, by rw [HXE.out]; exact HO3.out, HC.out, HNO.out⟩, HB3.out⟩
end Go.Proofs.Yticilaoibjbgfaa.Op

set_option linter.unusedSimpArgs false
set_option linter.unusedVariables false
namespace Go.Proofs.Yticilaoibjbgfaa.Op
open Go.RowKit Go.Proofs.YticilaoibjbgfaaW.PrintWords Go.Proofs.YticilaoibjbgfaaW.PrintLast Go.Proofs.YticilaoibjbgfaaW.PrintMore Go.Proofs.Yticilaoibjbgfaa.POpenRaws Go.Proofs.Yticilaoibjbgfaa.Lib Go.Proofs.Yticilaoibjbgfaa.High Go.Proofs.Yticilaoibjbgfaa.Lex
def meetN (a b : Opn) : Int := if checkN a = 2 ∨ checkN b = 2 then 2 else if checkN a = 3 ∨ checkN b = 3 then 3 else 0
def hasB (l : List S54) (code : Int) : Bool := l.any (fun c => c.f0 == code)
def both (l m : List S54) : List Int := (l.filter (fun c => hasB m c.f0)).map (fun c => c.f0)
theorem both_snoc (l m : List S54) (c : S54) : both (l ++ [c]) m = both l m ++ (if hasB m c.f0 then [c.f0] else []) := by
  rw [both, both, List.filter_append, List.map_append]
  congr 1
  by_cases h : hasB m c.f0 = true
  · simp [h]
  · simp [h]
theorem has_yes {l : List S54} {code : Int} {k : Nat} (hk : k < l.length) (h : (l.getD k z54).f0 = code) : hasB l code = true := by
  rw [hasB, List.any_eq_true]
  exact ⟨_, getD_mem l k z54 hk, by rw [h]; simp⟩
theorem has_no {l : List S54} {code : Int} (h : ∀ j, j < l.length → (l.getD j z54).f0 ≠ code) : hasB l code = false := by
  rw [hasB, List.any_eq_false]
  intro x hx
  obtain ⟨j, hj, rfl⟩ := List.mem_iff_getElem.1 hx
  have := h j hj
  rw [List.getD_eq_getElem?_getD, List.getElem?_eq_getElem hj] at this
  simpa using this
theorem checkN_three (o : Opn) : checkN o = 0 ∨ checkN o = 2 ∨ checkN o = 3 := by
  rw [checkN]
  split
  · exact .inr (.inl rfl)
  · split
    · exact .inr (.inr rfl)
    · exact .inl rfl
theorem store16 {g i : Nat} {w : World} {u0 : Value} (x : Int) (h1 : w.cell? ⟨g, i, none⟩ = some u0) (h2 : w.frozen? ⟨g, i, none⟩ = false) : (storeVar 23 ⟨g, i, none⟩ (.int .u16 x)).run Try.prog w = .ok () (w.setCell ⟨g, i, none⟩ (.int .u16 x)) := by
  go_simp
theorem storeB {g i : Nat} {w : World} {u0 : Value} (x : Bool) (h1 : w.cell? ⟨g, i, none⟩ = some u0) (h2 : w.frozen? ⟨g, i, none⟩ = false) : (storeVar 4 ⟨g, i, none⟩ (.bool x)).run Try.prog w = .ok () (w.setCell ⟨g, i, none⟩ (.bool x)) := by
  go_simp
theorem both_len (l m : List S54) : (both l m).length ≤ l.length := by rw [both, List.length_map]; exact List.length_filter_le _ _
theorem outE {P : Program} {ops : Array Oper} {Q : Exit → Act → World → Prop} {a : Act} {w : World} (h : Q .normal a w) : wpList P ops (putQ Q (fun a' w' => Q .normal a' w')) [] a w := h
abbrev cS (h : Int) (i : Bool) (v : Value) : List Value := [.int .u16 h, .bool i, v]
theorem size45 (h : Int) (i : Bool) (v : Value) : (Try.prog.info? 45).map (·.size) = some (cS h i v).length := by show _ = some 3; kernel_rfl
/-- a session as a value -/
def SesV (b : Nat) (w : World) (v : Value) (h : Int) (i : Bool) (l : List Int) : Prop := ∃ u, v = .agg #[.int .u16 h, .bool i, u] ∧ OB b w u l
/-- what Meet answers -/
def meetH (a b : Opn) : Int := if meetN a b = 0 then ((min a.h b.h : Nat) : Int) else 0
def meetI (a b : Opn) : Bool := if meetN a b = 0 then decide (a.a = b.a) else false
def meetL (a b : Opn) : List Int := if meetN a b = 0 then both a.l b.l else []
theorem meetN_2 {a b : Opn} (h : checkN a = 2 ∨ checkN b = 2) : meetN a b = 2 := by rw [meetN, if_pos h]
theorem meetN_3 {a b : Opn} (h2 : ¬ (checkN a = 2 ∨ checkN b = 2)) (h : checkN a = 3 ∨ checkN b = 3) : meetN a b = 3 := by rw [meetN, if_neg h2, if_pos h]
theorem meetN_0 {a b : Opn} (h2 : ¬ (checkN a = 2 ∨ checkN b = 2)) (h : ¬ (checkN a = 3 ∨ checkN b = 3)) : meetN a b = 0 := by rw [meetN, if_neg h2, if_neg h]
theorem meet_no {a b : Opn} (h : meetN a b ≠ 0) : meetH a b = 0 ∧ meetI a b = false ∧ meetL a b = [] := ⟨if_neg h, if_neg h, if_neg h⟩
theorem meet_yes {a b : Opn} (h : meetN a b = 0) : meetH a b = ((min a.h b.h : Nat) : Int) ∧ meetI a b = decide (a.a = b.a) ∧ meetL a b = both a.l b.l := ⟨if_pos h, if_pos h, if_pos h⟩
set_option maxRecDepth 100000 in
set_option maxHeartbeats 8000000 in
theorem meetC (a b : Opn) (ha : a.Wf) (hb : b.Wf) (A : Option Addr) (c : Nat) (B : Option Addr) (d : Nat) (w : World) (hx : Kd.C k54 w A a.l.length a.l) (hc : a.l.length ≤ c) (hy : Kd.C k54 w B b.l.length b.l) (hd : b.l.length ≤ d)
    (hLa : (laidO a).length < 140737488355000) (hla : a.l.length < 500000) (hLb : (laidO b).length < 140737488355000) (hlb : b.l.length < 500000) (hbl : ∀ x ∈ b.l, x.f1.length ≤ 1000000) :
    Calls Try.prog 20 #[aO a A c, aO b B d] w fun e w' => ∃ v, e = .returned (.tuple #[v, .int .i64 (meetN a b)]) ∧ SesV w.heap.size w' v (meetH a b) (meetI a b) (meetL a b) ∧ Below w.heap.size w w' := by
  obtain ⟨p, hp⟩ : ∃ p, w.heap.size = p := ⟨_, rfl⟩
  have hob1 := Ob.new w (cO a A c) _ rfl 26
  have hb1 := below_alloc (Below.refl w.heap.size w) (.cells (cO a A c).toArray 26)
  obtain ⟨w1, hw1⟩ : ∃ W, w.alloc (.cells (cO a A c).toArray 26) = W := ⟨_, rfl⟩
  have hs1 : w1.heap.size = p + 1 := by rw [← hw1, ← hp]; simp
  rw [hw1] at hob1 hb1
  rw [hp] at hob1
  have hob2 := Ob.new w1 (cO b B d) _ rfl 26
  have hb2 := below_alloc (Below.refl w1.heap.size w1) (.cells (cO b B d).toArray 26)
  obtain ⟨w2, hw2⟩ : ∃ W, w1.alloc (.cells (cO b B d).toArray 26) = W := ⟨_, rfl⟩
  have hs2 : w2.heap.size = p + 1 + 1 := by rw [← hw2, World.size_alloc, hs1]
  rw [hw2, hs1] at hob2
  rw [hw2] at hb2
  have hob3 := Ob.new w2 (cS 0 false (.slice none 0 0)) _ rfl 45
  have hb3 := below_alloc (Below.refl w2.heap.size w2) (.cells (cS 0 false (.slice none 0 0)).toArray 45)
  obtain ⟨V, hV⟩ : ∃ W, w2.alloc (.cells (cS 0 false (.slice none 0 0)).toArray 45) = W := ⟨_, rfl⟩
  have hs3 : V.heap.size = p + 1 + 1 + 1 := by rw [← hV, World.size_alloc, hs2]
  rw [hV, hs2] at hob3
  rw [hV] at hb3
  have o1 := (hob1.below hb2 (by omega)).below hb3 (by omega)
  have o2 := hob2.below hb3 (by omega)
  have hbV := (hb1.trans (hb2.mono hb1.size)).trans (hb3.mono (by omega))
  have HW1 := Aside0.mk hw1
  have HW2 := Aside0.mk hw2
  have HV := Aside0.mk hV
  have HS := Aside0.mk hs3
  have HO1 := Aside0.mk o1
  have HO2 := Aside0.mk o2
  have HO3 := Aside0.mk hob3
  have HBV := Aside0.mk hbV
  have HXW := Aside0.mk hx
  have HYW := Aside0.mk hy
  have HXV := Aside0.mk (Kd.C_below hx hbV)
  have HYV := Aside0.mk (Kd.C_below hy hbV)
  have HWA := Aside0.mk ha
  have HWB := Aside0.mk hb
  have HLA := Aside0.mk hLa
  have HLB := Aside0.mk hLb
  have HBL := Aside0.mk hbl
  have HCF : Aside0 (∀ U : World, Below V.heap.size V U → U.cell? ⟨p, 0, none⟩ = some (.int .u32 a.a) ∧ U.cell? ⟨p, 1, none⟩ = some (.int .u16 a.h) ∧ U.cell? ⟨p, 2, none⟩ = some (.int .u32 a.i) ∧ U.cell? ⟨p, 3, none⟩ = some (.slice A a.l.length c) ∧ U.cell? ⟨p + 1, 0, none⟩ = some (.int .u32 b.a) ∧ U.cell? ⟨p + 1, 1, none⟩ = some (.int .u16 b.h) ∧ U.cell? ⟨p + 1, 2, none⟩ = some (.int .u32 b.i) ∧ U.cell? ⟨p + 1, 3, none⟩ = some (.slice B b.l.length d)) := ⟨fun U hU => by
    have u1 := o1.below hU (by omega)
    have u2 := o2.below hU (by omega)
    exact ⟨(u1 0 _ rfl).1, (u1 1 _ rfl).1, (u1 2 _ rfl).1, (u1 3 _ rfl).1, (u2 0 _ rfl).1, (u2 1 _ rfl).1, (u2 2 _ rfl).1, (u2 3 _ rfl).1⟩⟩
  clear hob1 hob2 hob3 hb1 hb2 hb3 o1 o2 hbV hx hy ha hb hLa hLb hbl hw1 hw2 hV hs1 hs2 hs3
  go_enter Try.func20, Try.ntmps20
  go_wp2_with (rw [HW1.out, HW2.out, HV.out])
  refine region [(0, .t), (2, .t), (1, .o), (3, .q), (4, .p), (5, .p)] (fun U => U.cell? ⟨p, 0, none⟩ = some (.int .u32 a.a) ∧ U.cell? ⟨p, 1, none⟩ = some (.int .u16 a.h) ∧ U.cell? ⟨p, 2, none⟩ = some (.int .u32 a.i) ∧ U.cell? ⟨p, 3, none⟩ = some (.slice A a.l.length c) ∧ U.cell? ⟨p + 1, 0, none⟩ = some (.int .u32 b.a) ∧ U.cell? ⟨p + 1, 1, none⟩ = some (.int .u16 b.h) ∧ U.cell? ⟨p + 1, 2, none⟩ = some (.int .u32 b.i) ∧ U.cell? ⟨p + 1, 3, none⟩ = some (.slice B b.l.length d)) (by kernel_rfl) (by kernel_rfl) (fun _ _ _ _ _ h => h) (HCF.out _ (below_drew (Below.refl _ _))) (fun hHeld => ?_)
  iterate 2 (refine lex_t rfl rfl rfl (by rintro w' ⟨s0, s1, s2, s3, t0, t1, t2, t3⟩; go_simp; with_reducible rfl) (by simp only [Act.put, List.setIfInBounds_toArray, List.set_cons_zero, List.set_cons_succ, i64_w, i32_w]; rfl) ?_)
  refine lex_o rfl ?_
  go_wp2_with fail
  refine (checkC a HWA.out A c _ (Kd.C_below HXV.out (below_drew (Below.refl _ _))) hc HLA.out hla).mono ?_
  rintro e y2 ⟨rfl, hb2⟩
  have B2 := Aside0.mk ((below_drew (Below.refl V.heap.size V)).trans hb2)
  clear hb2
  go_wp2_with fail
  refine lex_end (by first | (simp only [Act.put, List.setIfInBounds_toArray, List.set_cons_zero, List.set_cons_succ, i64_w, i32_w]; rfl) | rfl) (HCF.out _ B2.out) (fun hHeld => ?_)
  refine lex_q rfl ?_
  go_wp2_with fail
  refine (checkC b HWB.out B d _ (Kd.C_below HYV.out B2.out) hd HLB.out hlb).mono ?_
  rintro e y3 ⟨rfl, hb3⟩
  have B3 := Aside0.mk (B2.out.trans (hb3.mono B2.out.size))
  clear hb3
  go_wp2_with fail
  refine lex_endq (by first | (simp only [Act.put, List.setIfInBounds_toArray, List.set_cons_zero, List.set_cons_succ, i64_w, i32_w]; rfl) | rfl) ?_
  iterate 2 (refine lex_p rfl rfl rfl (by intro w'; go_simp; with_reducible rfl) (by simp only [Act.put, List.setIfInBounds_toArray, List.set_cons_zero, List.set_cons_succ, i64_w, i32_w]; rfl) ?_)
  refine lex_nil ?_
  go_wp2_with fail
  obtain ⟨N1, hN1⟩ : ∃ N, checkN a = N := ⟨_, rfl⟩
  obtain ⟨N2, hN2⟩ : ∃ N, checkN b = N := ⟨_, rfl⟩
  rw [hN1, hN2]
  have HN1 := Aside0.mk hN1
  have HN2 := Aside0.mk hN2
  have hob5 := Ob.new y3 [.int .i64 2, .int .i64 3] _ rfl 31
  have hb5 := below_alloc (Below.refl y3.heap.size y3) (.cells #[.int .i64 2, .int .i64 3] 31)
  obtain ⟨g, hg⟩ : ∃ g, y3.heap.size = g := ⟨_, rfl⟩
  obtain ⟨V5, hV5⟩ : ∃ W, y3.alloc (.cells #[.int .i64 2, .int .i64 3] 31) = W := ⟨_, rfl⟩
  have hs5 : V5.heap.size = g + 1 := by rw [← hV5, ← hg]; simp
  rw [hV5] at hob5 hb5
  rw [hg] at hob5
  have B5 := Aside0.mk (B3.out.trans (hb5.mono B3.out.size))
  have HO5 := Aside0.mk (HO3.out.below B5.out (by have := HS.out; omega))
  have HB5 := Aside0.mk (HBV.out.trans (B5.out.mono HBV.out.size))
  have r0 := (hob5 0 _ rfl).1
  have r1 := (hob5 1 _ rfl).1
  have HV5 := Aside0.mk hV5
  rw [HV5.out]
  clear hob5 hb5 hV5 hN1 hN2
  go_loopg [20] 2 (fun gk s20 W => ∃ k : Nat, k ≤ 2 ∧ 2 - k ≤ gk ∧ s20 = .int .i64 k ∧ Aside0 (0 < k → ¬ (N1 = 2 ∨ N2 = 2)) ∧ Aside0 (1 < k → ¬ (N1 = 3 ∨ N2 = 3)) ∧ W = V5)
  case atStart => exact ⟨0, by omega, by omega, rfl, ⟨fun h => absurd h (by omega)⟩, ⟨fun h => absurd h (by omega)⟩, rfl⟩
  case round =>
    obtain ⟨k, hk, hgk, rfl, HK0, HK1, rfl⟩ := hrel
    match k, hk, HK0, HK1, hgk with
    | 0, _, HK0, HK1, hgk =>
      cases h1 : (N1 == 2) with
      | true =>
        have HMN := Aside0.mk (meetN_2 (a := a) (b := b) (.inl (HN1.out.trans (eq_of_beq h1))))
        have hO := HO5.out
        obtain ⟨W', hst, hO', hbut⟩ := storeS (cS 0 false (.slice none 0 0)) 45 hO rfl (size45 _ _ _) (by simp [Value.oneCell'])
        have HLD := Aside0.mk (loadS 45 hO Try.underlying45 (size45 _ _ _))
        have HLE := Aside0.mk (loadS 45 hO' Try.underlying45 (size45 _ _ _))
        have HST := Aside0.mk hst
        have HBF := Aside0.mk (HB5.out.trans (hbut.below HB5.out.size (fun k hk e => by have : k = p + 1 + 1 := e; omega)))
        clear hst hO hO' hbut
        go_wp2_with (first | (refine pl_load rfl 45 _ rfl _ _ HLD.out rfl ?_) | (refine pl_store rfl 45 _ _ rfl _ _ HST.out rfl rfl ?_))
        refine bodyPost_ret (results_cell_tmp rfl _ _ (p + 1 + 1) _ rfl HLE.out) rfl ?_
        obtain ⟨m1, m2, m3⟩ := meet_no (a := a) (b := b) (by rw [HMN.out]; decide)
        refine ⟨_, by rw [HMN.out]; rfl, ⟨_, by rw [m1, m2], by rw [m3]; exact OB.nil _ _⟩, HBF.out⟩
      | false =>
        cases h2 : (N2 == 2) with
        | true =>
          have HMN := Aside0.mk (meetN_2 (a := a) (b := b) (.inr (HN2.out.trans (eq_of_beq h2))))
          have hO := HO5.out
          obtain ⟨W', hst, hO', hbut⟩ := storeS (cS 0 false (.slice none 0 0)) 45 hO rfl (size45 _ _ _) (by simp [Value.oneCell'])
          have HLD := Aside0.mk (loadS 45 hO Try.underlying45 (size45 _ _ _))
          have HLE := Aside0.mk (loadS 45 hO' Try.underlying45 (size45 _ _ _))
          have HST := Aside0.mk hst
          have HBF := Aside0.mk (HB5.out.trans (hbut.below HB5.out.size (fun k hk e => by have : k = p + 1 + 1 := e; omega)))
          clear hst hO hO' hbut
          go_wp2_with (first | (refine pl_load rfl 45 _ rfl _ _ HLD.out rfl ?_) | (refine pl_store rfl 45 _ _ rfl _ _ HST.out rfl rfl ?_))
          refine bodyPost_ret (results_cell_tmp rfl _ _ (p + 1 + 1) _ rfl HLE.out) rfl ?_
          obtain ⟨m1, m2, m3⟩ := meet_no (a := a) (b := b) (by rw [HMN.out]; decide)
          refine ⟨_, by rw [HMN.out]; rfl, ⟨_, by rw [m1, m2], by rw [m3]; exact OB.nil _ _⟩, HBF.out⟩
        | false =>
          have HR := Aside0.mk (show ¬ (N1 = 2 ∨ N2 = 2) from fun h => h.elim (ne_of_beq_false h1) (ne_of_beq_false h2))
          go_wp2_with fail
          go_roundg (gk - 1)
          case measure => omega
          case rel => exact ⟨1, by omega, by omega, rfl, ⟨fun _ => HR.out⟩, ⟨fun h => absurd h (by omega)⟩, rfl⟩
    | 1, _, HK0, HK1, hgk =>
      cases h1 : (N1 == 3) with
      | true =>
        have HMN := Aside0.mk (meetN_3 (a := a) (b := b) (by rw [HN1.out, HN2.out]; exact HK0.out (by omega)) (.inl (HN1.out.trans (eq_of_beq h1))))
        have hO := HO5.out
        obtain ⟨W', hst, hO', hbut⟩ := storeS (cS 0 false (.slice none 0 0)) 45 hO rfl (size45 _ _ _) (by simp [Value.oneCell'])
        have HLD := Aside0.mk (loadS 45 hO Try.underlying45 (size45 _ _ _))
        have HLE := Aside0.mk (loadS 45 hO' Try.underlying45 (size45 _ _ _))
        have HST := Aside0.mk hst
        have HBF := Aside0.mk (HB5.out.trans (hbut.below HB5.out.size (fun k hk e => by have : k = p + 1 + 1 := e; omega)))
        clear hst hO hO' hbut
        go_wp2_with (first | (refine pl_load rfl 45 _ rfl _ _ HLD.out rfl ?_) | (refine pl_store rfl 45 _ _ rfl _ _ HST.out rfl rfl ?_))
        refine bodyPost_ret (results_cell_tmp rfl _ _ (p + 1 + 1) _ rfl HLE.out) rfl ?_
        obtain ⟨m1, m2, m3⟩ := meet_no (a := a) (b := b) (by rw [HMN.out]; decide)
        refine ⟨_, by rw [HMN.out]; rfl, ⟨_, by rw [m1, m2], by rw [m3]; exact OB.nil _ _⟩, HBF.out⟩
      | false =>
        cases h2 : (N2 == 3) with
        | true =>
          have HMN := Aside0.mk (meetN_3 (a := a) (b := b) (by rw [HN1.out, HN2.out]; exact HK0.out (by omega)) (.inr (HN2.out.trans (eq_of_beq h2))))
          have hO := HO5.out
          obtain ⟨W', hst, hO', hbut⟩ := storeS (cS 0 false (.slice none 0 0)) 45 hO rfl (size45 _ _ _) (by simp [Value.oneCell'])
          have HLD := Aside0.mk (loadS 45 hO Try.underlying45 (size45 _ _ _))
          have HLE := Aside0.mk (loadS 45 hO' Try.underlying45 (size45 _ _ _))
          have HST := Aside0.mk hst
          have HBF := Aside0.mk (HB5.out.trans (hbut.below HB5.out.size (fun k hk e => by have : k = p + 1 + 1 := e; omega)))
          clear hst hO hO' hbut
          go_wp2_with (first | (refine pl_load rfl 45 _ rfl _ _ HLD.out rfl ?_) | (refine pl_store rfl 45 _ _ rfl _ _ HST.out rfl rfl ?_))
          refine bodyPost_ret (results_cell_tmp rfl _ _ (p + 1 + 1) _ rfl HLE.out) rfl ?_
          obtain ⟨m1, m2, m3⟩ := meet_no (a := a) (b := b) (by rw [HMN.out]; decide)
          refine ⟨_, by rw [HMN.out]; rfl, ⟨_, by rw [m1, m2], by rw [m3]; exact OB.nil _ _⟩, HBF.out⟩
        | false =>
          have HR := Aside0.mk (show ¬ (N1 = 3 ∨ N2 = 3) from fun h => h.elim (ne_of_beq_false h1) (ne_of_beq_false h2))
          go_wp2_with fail
          go_roundg (gk - 1)
          case measure => omega
          case rel => exact ⟨2, by omega, by omega, rfl, ⟨fun _ => HK0.out (by omega)⟩, ⟨fun _ => HR.out⟩, rfl⟩
    | 2, _, HK0, HK1, hgk =>
      have HMN := Aside0.mk (meetN_0 (a := a) (b := b) (by rw [HN1.out, HN2.out]; exact HK0.out (by omega)) (by rw [HN1.out, HN2.out]; exact HK1.out (by omega)))
      go_wp2_with fail
      have hO1 := HO1.out.below B5.out (by have := HS.out; omega)
      have hO2 := HO2.out.below B5.out (by have := HS.out; omega)
      have HF8 : Aside0 (∀ U : World, U.heap[p]? = wr.heap[p]? → U.heap[p + 1]? = wr.heap[p + 1]? → U.cell? ⟨p, 0, none⟩ = some (.int .u32 a.a) ∧ U.cell? ⟨p, 1, none⟩ = some (.int .u16 a.h) ∧ U.cell? ⟨p + 1, 0, none⟩ = some (.int .u32 b.a) ∧ U.cell? ⟨p + 1, 1, none⟩ = some (.int .u16 b.h)) := ⟨fun U e1 e2 => by
        have u1 := hO1.same e1
        have u2 := hO2.same e2
        exact ⟨(u1 0 _ rfl).1, (u1 1 _ rfl).1, (u2 0 _ rfl).1, (u2 1 _ rfl).1⟩⟩
      have HS0 : Aside0 (wr.drew.cell? ⟨p + 1 + 1, 0, none⟩ = some (.int .u16 0) ∧ wr.drew.frozen? ⟨p + 1 + 1, 0, none⟩ = false) := ⟨(HO5.out.same (w' := wr.drew) rfl) 0 _ rfl⟩
      have HSS : Aside0 (Ob (p + 1 + 1) wr.drew (cS 0 false (.slice none 0 0))) := ⟨HO5.out.same rfl⟩
      have HOP : Aside0 (Ob p wr.drew (cO a A c)) := ⟨hO1.same rfl⟩
      have HOQ : Aside0 (Ob (p + 1) wr.drew (cO b B d)) := ⟨hO2.same rfl⟩
      have HSZ : Aside0 (p + 1 + 1 + 1 ≤ wr.heap.size) := ⟨by have := HS.out; have := B5.out.size; omega⟩
      obtain ⟨HM, hHM⟩ : ∃ H, (if b.h < a.h then (b.h : Int) else (a.h : Int)) = H := ⟨_, rfl⟩
      obtain ⟨IN, hIN⟩ : ∃ I, ((a.a : Int) == (b.a : Int)) = I := ⟨_, rfl⟩
      have HMV := Aside0.mk (show HM = ((min a.h b.h : Nat) : Int) by rw [← hHM]; split <;> omega)
      have INV := Aside0.mk (show IN = decide (a.a = b.a) by rw [← hIN, beqN])
      clear hO1 hO2
      refine region [(0, .p), (2, .p), (5, .p), (7, .p), (1, .t), (3, .t), (4, .p), (10, .p), (6, .t), (8, .t), (9, .p), (11, .o), (12, .p), (13, .e)] (fun U => U.cell? ⟨p, 0, none⟩ = some (.int .u32 a.a) ∧ U.cell? ⟨p, 1, none⟩ = some (.int .u16 a.h) ∧ U.cell? ⟨p + 1, 0, none⟩ = some (.int .u32 b.a) ∧ U.cell? ⟨p + 1, 1, none⟩ = some (.int .u16 b.h)) (by kernel_rfl) (by kernel_rfl) (fun _ _ _ _ _ h => h) (HF8.out _ rfl rfl) (fun hHeld => ?_)
      iterate 4 (refine lex_p rfl rfl rfl (by intro w'; go_simp; with_reducible rfl) (by simp only [Act.put, List.setIfInBounds_toArray, List.set_cons_zero, List.set_cons_succ, i64_w, i32_w]; rfl) ?_)
      iterate 2 (refine lex_t rfl rfl rfl (by rintro w' ⟨s0, s1, s2, s3⟩; go_simp; with_reducible rfl) (by simp only [Act.put, List.setIfInBounds_toArray, List.set_cons_zero, List.set_cons_succ, i64_w, i32_w]; rfl) ?_)
      iterate 2 (refine lex_p rfl rfl rfl (by intro w'; go_simp; with_reducible rfl) (by simp only [Act.put, List.setIfInBounds_toArray, List.set_cons_zero, List.set_cons_succ, i64_w, i32_w]; rfl) ?_)
      iterate 2 (refine lex_t rfl rfl rfl (by rintro w' ⟨s0, s1, s2, s3⟩; go_simp; with_reducible rfl) (by simp only [Act.put, List.setIfInBounds_toArray, List.set_cons_zero, List.set_cons_succ, i64_w, i32_w]; rfl) ?_)
      (refine lex_p rfl rfl rfl (by intro w'; go_simp; with_reducible rfl) (by simp only [Act.put, List.setIfInBounds_toArray, List.set_cons_zero, List.set_cons_succ, i64_w, i32_w]; rfl) ?_)
      refine lex_o rfl ?_
      refine pl_store rfl 23 _ _ rfl _ _ (store16 _ HS0.out.1 HS0.out.2) rfl rfl ?_
      have HU1 : Aside0 ((wr.drew.setCell ⟨p + 1 + 1, 0, none⟩ (.int .u16 HM)).heap[p]? = wr.heap[p]? ∧ (wr.drew.setCell ⟨p + 1 + 1, 0, none⟩ (.int .u16 HM)).heap[p + 1]? = wr.heap[p + 1]?) := ⟨⟨Below.heap_setCell wr.drew ⟨p + 1 + 1, 0, none⟩ _ p (by show p ≠ p + 1 + 1; omega), Below.heap_setCell wr.drew ⟨p + 1 + 1, 0, none⟩ _ (p + 1) (by show p + 1 ≠ p + 1 + 1; omega)⟩⟩
      refine lex_end (by first | (simp only [Act.put, List.setIfInBounds_toArray, List.set_cons_zero, List.set_cons_succ, i64_w, i32_w]; rfl) | rfl) (HF8.out _ HU1.out.1 HU1.out.2) (fun hHeld => ?_)
      (refine lex_p rfl rfl rfl (by intro w'; go_simp; with_reducible rfl) (by simp only [Act.put, List.setIfInBounds_toArray, List.set_cons_zero, List.set_cons_succ, i64_w, i32_w]; rfl) ?_)
      refine lex_e rfl ?_
      have hS1 := HSS.out.set 0 (by simp) (.int .u16 HM)
      obtain ⟨c1, f1⟩ := hS1 1 _ rfl
      refine pl_store rfl 4 _ _ rfl _ _ (storeB IN c1 f1) rfl rfl ?_
      have hS2 := hS1.set 1 (by simp) (.bool IN)
      have hBs := (Below.setCell (below_drew HB5.out) (p := ⟨p + 1 + 1, 0, none⟩) (by show w.heap.size ≤ p + 1 + 1; omega) (.int .u16 HM)).setCell (p := ⟨p + 1 + 1, 1, none⟩) (by show w.heap.size ≤ p + 1 + 1; omega) (.bool IN)
      have hP := ((HOP.out.far (q := ⟨p + 1 + 1, 0, none⟩) (by show p ≠ p + 1 + 1; omega) (.int .u16 HM)).far (q := ⟨p + 1 + 1, 1, none⟩) (by show p ≠ p + 1 + 1; omega) (.bool IN))
      have hQ := ((HOQ.out.far (q := ⟨p + 1 + 1, 0, none⟩) (by show p + 1 ≠ p + 1 + 1; omega) (.int .u16 HM)).far (q := ⟨p + 1 + 1, 1, none⟩) (by show p + 1 ≠ p + 1 + 1; omega) (.bool IN))
      have hz : p + 1 + 1 + 1 ≤ ((wr.drew.setCell ⟨p + 1 + 1, 0, none⟩ (.int .u16 HM)).setCell ⟨p + 1 + 1, 1, none⟩ (.bool IN)).heap.size := by simp [World.setCell]; have := HSZ.out; exact this
      obtain ⟨W8, hW8⟩ : ∃ W, (wr.drew.setCell ⟨p + 1 + 1, 0, none⟩ (.int .u16 HM)).setCell ⟨p + 1 + 1, 1, none⟩ (.bool IN) = W := ⟨_, rfl⟩
      rw [hW8] at hS2 hBs hP hQ hz
      have HS2 := Aside0.mk hS2
      have HB8 := Aside0.mk hBs
      have HP8 := Aside0.mk hP
      have HQ8 := Aside0.mk hQ
      have HZ8 := Aside0.mk hz
      have HW8 := Aside0.mk hW8
      have p3 := (hP 3 _ rfl).1
      clear hS1 hS2 hBs hP hQ hW8 hz
      rw [HW8.out]
      refine outE ?_
      clear hHM hIN
      go_wp2_with fail
      have HS3 := HS2
      go_loopg [50] a.l.length (fun gk s50 W => ∃ k : Nat, k ≤ a.l.length ∧ a.l.length - k ≤ gk ∧ s50 = .int .i64 k ∧ ∃ v, Aside0 (Ob (p + 1 + 1) W (cS HM IN v)) ∧ Aside0 (OB (p + 1 + 1 + 1) W v (both (a.l.take k) b.l)) ∧ Aside0 (Ob p W (cO a A c)) ∧ Aside0 (Ob (p + 1) W (cO b B d)) ∧ Aside0 (Below w.heap.size w W) ∧ Aside0 (p + 1 + 1 + 1 ≤ W.heap.size))
      case atStart => exact ⟨0, by omega, by omega, rfl, _, HS3, ⟨OB.nil _ _⟩, HP8, HQ8, HB8, HZ8⟩
      case round =>
        clear HO1 HO2 HO3 HO5 HS2 HS3 HP8 HQ8 HB8 HZ8
        obtain ⟨k, hk, hgk, rfl, v, HSv, HOv, HPv, HQv, HBv, HZv⟩ := hrel
        by_cases hlt : k < a.l.length
        · obtain ⟨bb, oo, A1, c1, rfl, q0, q1, _, _⟩ := C_cap (Kd.C_below HXW.out HBv.out) k hlt
          obtain ⟨x, hxe⟩ : ∃ x, a.l.getD k z54 = x := ⟨_, rfl⟩
          rw [hxe] at q0 q1
          have HXE := Aside0.mk hxe
          have HTK := Aside0.mk (show both (a.l.take (k + 1)) b.l = both (a.l.take k) b.l ++ (if hasB b.l x.f0 then [x.f0] else []) by rw [take_snoc a.l k z54 hlt, hxe, both_snoc])
          have hbl2 : (both (a.l.take k) b.l).length ≤ 1000000 := by have := both_len (a.l.take k) b.l; rw [List.length_take] at this; omega
          obtain ⟨q, hq⟩ : ∃ q, wr.heap.size = q := ⟨_, rfl⟩
          have hob9 := Ob.new wr [.int .u8 x.f0, .slice A1 x.f1.length c1] _ rfl 54
          have hb9 := below_alloc (Below.refl wr.heap.size wr) (.cells #[.int .u8 x.f0, .slice A1 x.f1.length c1] 54)
          obtain ⟨W9, hW9⟩ : ∃ W, wr.alloc (.cells #[.int .u8 x.f0, .slice A1 x.f1.length c1] 54) = W := ⟨_, rfl⟩
          have hs9 : W9.heap.size = q + 1 := by rw [← hW9, ← hq]; simp
          rw [hW9] at hob9 hb9
          rw [hq] at hob9
          have hzq := HZv.out
          rw [hq] at hzq
          have h9S := HSv.out.below hb9 (by omega)
          have h9P := HPv.out.below hb9 (by omega)
          have h9Q := HQv.out.below hb9 (by omega)
          have g0 := (h9Q 0 _ rfl).1
          have g1 := (h9Q 1 _ rfl).1
          have g2 := (h9Q 2 _ rfl).1
          have g3 := (h9Q 3 _ rfl).1
          have x0 := (hob9 0 _ rfl).1
          have HB9 := Aside0.mk (HBv.out.trans (hb9.mono HBv.out.size))
          have HO9 := Aside0.mk (HOv.out.below hb9)
          have H9S := Aside0.mk h9S
          have H9P := Aside0.mk h9P
          have H9Q := Aside0.mk h9Q
          have H9X := Aside0.mk hob9
          have HS9 := Aside0.mk hs9
          have HZ9 := Aside0.mk hzq
          have HW9 := Aside0.mk hW9
          have hlI : (k : Int) < (a.l.length : Int) := by omega
          have HLT := Aside0.mk hlt
          clear hxe hob9 hb9 hW9 hs9 h9S h9P h9Q hlt HSv HOv HPv HQv HBv HZv hzq
          go_wp2_with (rw [HW9.out])
          refine (capC b B d x.f0 W9 (Kd.C_below HYW.out HB9.out) (by omega) HBL.out).mono ?_
          rintro e y5 ⟨vr, hor, hb5'⟩
          have h5S := H9S.out.below hb5' (by have := HS9.out; have := HZ9.out; omega)
          have h5P := H9P.out.below hb5' (by have := HS9.out; have := HZ9.out; omega)
          have h5Q := H9Q.out.below hb5' (by have := HS9.out; have := HZ9.out; omega)
          have h5X := H9X.out.below hb5' (by have := HS9.out; omega)
          have H5S := Aside0.mk h5S
          have H5P := Aside0.mk h5P
          have H5Q := Aside0.mk h5Q
          have H5B := Aside0.mk (HB9.out.trans (hb5'.mono HB9.out.size))
          have H5O := Aside0.mk (HO9.out.below hb5')
          have H5Z := Aside0.mk (show p + 1 + 1 + 1 ≤ y5.heap.size by have := hb5'.size; have := HS9.out; have := HZ9.out; omega)
          rcases hor with ⟨rfl, rfl, hno⟩ | ⟨kk, hkk, rfl, _, hcode, _⟩
          · have HT2 := Aside0.mk (HTK.out.trans (by rw [has_no hno]; simp : _ = both (a.l.take k) b.l))
            clear hno hb5' h5S h5P h5Q h5X g0 g1 g2 g3 x0 H9S H9P H9Q H9X
            go_wp2_with fail
            go_roundg (gk - 1)
            case measure => have := HLT.out; omega
            case rel => exact ⟨k + 1, by have := HLT.out; omega, by omega, by go_num, v, H5S, ⟨by rw [HT2.out]; exact H5O.out⟩, H5P, H5Q, H5B, H5Z⟩
          · have HT2 := Aside0.mk (HTK.out.trans (by rw [has_yes hkk hcode]; rfl : _ = both (a.l.take k) b.l ++ [x.f0]))
            have x0 := (h5X 0 _ rfl).1
            have v2 := (h5S 2 _ rfl).1
            have hlit := OB.lit (b := y5.heap.size) y5 [x.f0] _ rfl 1 rfl (Nat.le_refl _) (by simp)
            have hb6 := below_alloc (Below.refl y5.heap.size y5) (.cells #[.int .u8 x.f0] 5)
            have HLIT := Aside0.mk hlit.readsAt
            have HB6 := Aside0.mk hb6
            have HO6 := Aside0.mk (H5O.out.below hb6)
            have v3 := pw_cell_below hb6 v2
            have x3 := pw_cell_below hb6 x0
            clear hkk hcode hb5' h5S h5P h5Q h5X g0 g1 g2 g3 H9S H9P H9Q H9X hlit hb6
            go_wp2_with (first | ((with_reducible refine gate_builtin (b := .append) (xs := #[.tmp 63, .tmp 66]) rfl ?_); refine ap_row (p + 1 + 1 + 1) _ _ rfl rfl HO6.out HLIT.out rfl rfl (Nat.le_trans H5Z.out HB6.out.size) (by omega) ?_; intro v4 w4 ho4 hb4; have HO4 := Aside0.mk ho4; have HB4 := Aside0.mk hb4; have h4S := (H5S.out.below HB6.out (by have := H5Z.out; omega)).below hb4 (by omega); have H4S := Aside0.mk h4S; obtain ⟨c2, f2⟩ := h4S 2 _ rfl; obtain ⟨A4, c4, e4, _, _⟩ := ho4.reads; subst e4; clear ho4 hb4 h4S v2 v3 x0 x3))
            have k4P := ((H5P.out.below HB6.out (by have := H5Z.out; omega)).below HB4.out (by omega)).far (q := ⟨p + 1 + 1, 2, none⟩) (by show p ≠ p + 1 + 1; omega) (.slice A4 (both (a.l.take k) b.l ++ [x.f0]).length c4)
            have k4Q := ((H5Q.out.below HB6.out (by have := H5Z.out; omega)).below HB4.out (by omega)).far (q := ⟨p + 1 + 1, 2, none⟩) (by show p + 1 ≠ p + 1 + 1; omega) (.slice A4 (both (a.l.take k) b.l ++ [x.f0]).length c4)
            have k4S := H4S.out.set 2 (by simp) (.slice A4 (both (a.l.take k) b.l ++ [x.f0]).length c4)
            have k4O := HO4.out.far (p := ⟨p + 1 + 1, 2, none⟩) (by show p + 1 + 1 < p + 1 + 1 + 1; omega) (.slice A4 (both (a.l.take k) b.l ++ [x.f0]).length c4)
            have k4B := Below.setCell ((H5B.out.trans (HB6.out.mono H5B.out.size)).trans (HB4.out.mono (by omega))) (p := ⟨p + 1 + 1, 2, none⟩) (by show w.heap.size ≤ p + 1 + 1; omega) (.slice A4 (both (a.l.take k) b.l ++ [x.f0]).length c4)
            rw [List.length_append, List.length_singleton] at k4S k4P k4Q k4O k4B
            go_roundg (gk - 1)
            case measure => have := HLT.out; omega
            case rel => exact ⟨k + 1, by have := HLT.out; omega, by omega, by go_num, _, ⟨k4S⟩, ⟨by rw [HT2.out]; exact k4O⟩, ⟨k4P⟩, ⟨k4Q⟩, ⟨k4B⟩, ⟨by simp [World.setCell]; have := H5Z.out; have := HB6.out.size; have := HB4.out.size; omega⟩⟩
        · obtain rfl : k = a.l.length := by omega
          have hlI : ¬ ((a.l.length : Int) < (a.l.length : Int)) := by omega
          obtain ⟨W', hst, hO', hbut⟩ := storeS (cS HM IN v) 45 HSv.out rfl (size45 _ _ _) (by obtain ⟨A4, c4, e4, _, _⟩ := HOv.out.reads; subst e4; simp [Value.oneCell'])
          have HLD := Aside0.mk (loadS 45 HSv.out Try.underlying45 (size45 _ _ _))
          have HLE := Aside0.mk (loadS 45 hO' Try.underlying45 (size45 _ _ _))
          have HST := Aside0.mk hst
          have HBF := Aside0.mk (HBv.out.trans (hbut.below HBv.out.size (fun k hk e => by have : k = p + 1 + 1 := e; omega)))
          have hOf : OB (p + 1 + 1 + 1) W' v (both (a.l.take a.l.length) b.l) := OB.step HOv.out (fun k hk => hbut.block k ((Kd.R_bound HOv.out).1 k hk).2.2.1 (fun e => by have e2 : k = p + 1 + 1 := e; have := ((Kd.R_bound HOv.out).1 k hk).2.1; omega))
          rw [List.take_length] at hOf
          have HOF := Aside0.mk (hOf.lower (b' := w.heap.size) (by omega))
          clear hst hO' hbut hOf
          go_wp2_with (first | (refine pl_load rfl 45 _ rfl _ _ HLD.out rfl ?_) | (refine pl_store rfl 45 _ _ rfl _ _ HST.out rfl rfl ?_))
          refine bodyPost_ret (results_cell_tmp rfl _ _ (p + 1 + 1) _ rfl HLE.out) rfl ?_
          obtain ⟨m1, m2, m3⟩ := meet_yes (a := a) (b := b) HMN.out
          refine ⟨_, by rw [HMN.out]; rfl, ⟨v, by rw [m1, m2, ← HMV.out, ← INV.out], by rw [m3]; have ho := HOF.out; rw [hp] at ho; exact ho⟩, by have hbf := HBF.out; rw [hp] at hbf; exact hbf⟩
end Go.Proofs.Yticilaoibjbgfaa.Op

set_option linter.unusedSimpArgs false
set_option linter.unusedVariables false
namespace Go.Proofs.Yticilaoibjbgfaa.Op
open Go.RowKit Go.Proofs.YticilaoibjbgfaaW.PrintWords Go.Proofs.YticilaoibjbgfaaW.PrintLast Go.Proofs.YticilaoibjbgfaaW.PrintMore Go.Proofs.Yticilaoibjbgfaa.POpenRaws Go.Proofs.Yticilaoibjbgfaa.Lib Go.Proofs.Yticilaoibjbgfaa.High Go.Proofs.Yticilaoibjbgfaa.Lex
theorem num (e : Int) (w : World) : Calls Try.prog 14 #[.int .i64 e] w fun x w' => x = .returned (.int .i64 e) ∧ w = w' := by
  go_enter Try.func14, Try.ntmps14
  go_wp2
  go_ret
  exact ⟨rfl, rfl⟩
set_option maxRecDepth 100000 in
set_option maxHeartbeats 4000000 in
theorem parseShort (A : Option Addr) (c : Nat) (b : List Int) (hb : b.length < 10) (w : World) :
    Calls Try.prog 18 #[.slice A b.length c] w fun e w' => e = .returned (.tuple #[aO zo none 0, .int .i64 280]) ∧ Below w.heap.size w w' := by
  obtain ⟨p, hp⟩ : ∃ p, w.heap.size = p := ⟨_, rfl⟩
  have hob1 := Ob.new w [.slice A b.length c] _ rfl 30
  have hb1 := below_alloc (Below.refl w.heap.size w) (.cells #[.slice A b.length c] 30)
  obtain ⟨w1, hw1⟩ : ∃ W, w.alloc (.cells #[.slice A b.length c] 30) = W := ⟨_, rfl⟩
  have hs1 : w1.heap.size = p + 1 := by rw [← hw1, ← hp]; simp
  rw [hw1] at hob1 hb1
  rw [hp] at hob1
  have hob2 := Ob.new w1 (cO zo none 0) _ rfl 26
  have hb2 := below_alloc (Below.refl w1.heap.size w1) (.cells (cO zo none 0).toArray 26)
  obtain ⟨V, hV⟩ : ∃ W, w1.alloc (.cells (cO zo none 0).toArray 26) = W := ⟨_, rfl⟩
  rw [hV, hs1] at hob2
  rw [hV] at hb2
  have o1 := hob1.below hb2 (by omega)
  have q0 := (o1 0 _ rfl).1
  obtain ⟨W', hst, hO', hbut⟩ := storeS (cO zo none 0) 26 hob2 rfl (size26 _ _ _) (by simp [Value.oneCell'])
  have HLD := Aside0.mk (loadS 26 hob2 Try.underlying26 (size26 zo none 0))
  have HLE := Aside0.mk (loadS 26 hO' Try.underlying26 (size26 zo none 0))
  have HST := Aside0.mk hst
  have hbV := hb1.trans (hb2.mono hb1.size)
  have HBF := Aside0.mk (hbV.trans (hbut.below hbV.size (fun k hk e => by have : k = p + 1 := e; omega)))
  have HW1 := Aside0.mk hw1
  have HV : Aside0 (w1.alloc (.cells #[.int .u32 0, .int .u16 0, .int .u32 0, .slice none 0 0] 26) = V) := ⟨hV⟩
  have hlI : (b.length : Int) < 10 := by omega
  clear hst hO' hbut hob1 hob2 hb1 hb2 hw1 hV hs1 hbV o1
  go_enter Try.func18, Try.ntmps18
  go_wp2_with fail
  rw [HW1.out, HV.out]
  go_step3
  go_wp2_with (first | (refine pl_load rfl 26 _ rfl _ _ HLD.out rfl ?_) | (refine pl_store rfl 26 _ _ rfl _ _ HST.out rfl rfl ?_))
  rw [Exit.noGoto_ret]
  refine bodyPost_ret (results_cell_tmp rfl _ _ (p + 1) _ rfl HLE.out) rfl ?_
  exact ⟨rfl, HBF.out⟩
def o1 : Opn := ⟨1, 3, 9, []⟩
def o2 : Opn := ⟨1, 30, 9, []⟩
def o3 : Opn := ⟨1, 90, 8, []⟩
def o4 : Opn := ⟨1, 2, 9, []⟩
theorem wf1 : o1.Wf := ⟨by decide, by decide, by decide, fun x h => by cases h⟩
theorem wf2 : o2.Wf := ⟨by decide, by decide, by decide, fun x h => by cases h⟩
theorem wf3 : o3.Wf := ⟨by decide, by decide, by decide, fun x h => by cases h⟩
theorem wf4 : o4.Wf := ⟨by decide, by decide, by decide, fun x h => by cases h⟩
theorem chk1 : checkN o1 = 0 := by decide
theorem chk4 : checkN o4 = 2 := by decide
theorem raw1 : rawS o1 = [4, 0, 1, 0, 3, 0, 0, 0, 9, 8, 2, 6, 65, 4, 0, 0, 0, 1] := by decide
theorem mt23 : meetN o2 o3 = 0 ∧ meetH o2 o3 = 30 ∧ meetI o2 o3 = true ∧ meetL o2 o3 = [] := by decide
theorem str1 : strOfNums [4, 0, 1, 0, 3, 0, 0, 0, 9, 8, 2, 6, 65, 4, 0, 0, 0, 1] = ⟨#[4, 0, 1, 0, 3, 0, 0, 0, 9, 8, 2, 6, 65, 4, 0, 0, 0, 1]⟩ := rfl
theorem nilC (w : World) : Kd.C k54 w none 0 [] := ⟨rfl, by decide, fun h => absurd h (by decide)⟩
set_option maxRecDepth 100000 in
set_option maxHeartbeats 8000000 in
theorem worksC (w : World) : Calls Try.prog 10 #[] w fun e w' => e = .returned (.bool true) ∧ Below w.heap.size w w' := by
  go_enter Try.func10, Try.ntmps10
  go_wp2_with fail
  refine (rawC o1 wf1 none 0 _ (nilC _) (Nat.le_refl _) (by decide) (by decide)).mono ?_
  rintro e w1 ⟨v1, rfl, ho1, hb1⟩
  rw [raw1] at ho1
  rw [chk1]
  obtain ⟨A1, c1, rfl, _, hC1⟩ := ho1.reads
  have HC1 := Aside0.mk hC1
  have HB1 := Aside0.mk hb1
  clear ho1 hb1 hC1
  go_wp2_with fail
  refine (parseShort none 0 [] (by decide) _).mono ?_
  rintro e w2 ⟨rfl, hb2⟩
  have HB2 := Aside0.mk (HB1.out.trans (hb2.mono HB1.out.size))
  have HC2 := Aside0.mk (Kd.C_below HC1.out hb2)
  clear hb2
  go_wp2_with fail
  have hob3 := Ob.new w2 (cO zo none 0) _ rfl 26
  have hb3 := below_alloc (Below.refl w2.heap.size w2) (.cells (cO zo none 0).toArray 26)
  obtain ⟨w3, hw3⟩ : ∃ W, w2.alloc (.cells (cO zo none 0).toArray 26) = W := ⟨_, rfl⟩
  rw [hw3] at hb3
  have HB3 := Aside0.mk (HB2.out.trans (hb3.mono HB2.out.size))
  have HC3 := Aside0.mk (Kd.C_below HC2.out hb3)
  have HW3 := Aside0.mk hw3
  clear hob3 hb3 hw3
  obtain ⟨m1, m2, m3, m4⟩ := mt23
  have hmeet := meetC o2 o3 wf2 wf3 none 0 none 0 w3 (nilC _) (Nat.le_refl _) (nilC _) (Nat.le_refl _) (by decide) (by decide) (by decide) (by decide) (fun x h => by cases h)
  rw [m1, m2, m3, m4] at hmeet
  clear m1 m2 m3 m4
  first | rw [HW3.out] | skip
  refine hmeet.mono ?_
  rintro e w4 ⟨v4, rfl, ⟨u4, rfl, ho4⟩, hb4⟩
  have HB4 := Aside0.mk (HB3.out.trans (hb4.mono HB3.out.size))
  have HC4 := Aside0.mk (Kd.C_below HC3.out hb4)
  clear hb4 hmeet
  obtain ⟨A4, c4, e4, _, _⟩ := ho4.reads
  have e4 : u4 = .slice A4 0 c4 := e4
  subst e4
  clear ho4
  have hob5 := Ob.new w4 (cS 30 true (.slice A4 0 c4)) _ rfl 45
  have hb5 := below_alloc (Below.refl w4.heap.size w4) (.cells (cS 30 true (.slice A4 0 c4)).toArray 45)
  obtain ⟨w5, hw5⟩ : ∃ W, w4.alloc (.cells (cS 30 true (.slice A4 0 c4)).toArray 45) = W := ⟨_, rfl⟩
  rw [hw5] at hob5 hb5
  have HB5 := Aside0.mk (HB4.out.trans (hb5.mono HB4.out.size))
  have hconv : (convert 30 9 (.slice A1 18 c1)).run Try.prog w5 = .ok (.string ⟨#[4, 0, 1, 0, 3, 0, 0, 0, 9, 8, 2, 6, 65, 4, 0, 0, 0, 1]⟩) w5 := by
    rw [← str1]
    exact conv w5 A1 c1 _ (Kd.C_below HC4.out hb5)
  have HW5 := Aside0.mk hw5
  have HO5 := Aside0.mk hob5
  have HB45 := Aside0.mk hb5
  clear hob5 hb5 hw5
  go_wp2_with fail
  rw [HW5.out]
  refine (num _ _).mono ?_
  rintro e y1 ⟨rfl, rfl⟩
  go_wp2_with fail
  refine (num _ _).mono ?_
  rintro e y2 ⟨rfl, rfl⟩
  go_wp2_with fail
  refine (num _ _).mono ?_
  rintro e y3 ⟨rfl, rfl⟩
  go_wp2_with fail
  have hchk := checkC o4 wf4 none 0 w5 (nilC _) (Nat.le_refl _) (by decide) (by decide)
  rw [chk4] at hchk
  refine hchk.mono ?_
  rintro e w6 ⟨rfl, hb6⟩
  have h6 := HO5.out.below hb6 HO5.out.lt
  have s0 := (h6 0 _ rfl).1
  have s1 := (h6 1 _ rfl).1
  have HB6 := Aside0.mk (HB5.out.trans (hb6.mono HB5.out.size))
  clear hchk hb6 h6
  go_wp2_with fail
  refine (num _ _).mono ?_
  rintro e y4 ⟨rfl, rfl⟩
  go_wp2_with fail
  go_ret
  exact ⟨rfl, HB6.out⟩
end Go.Proofs.Yticilaoibjbgfaa.Op
