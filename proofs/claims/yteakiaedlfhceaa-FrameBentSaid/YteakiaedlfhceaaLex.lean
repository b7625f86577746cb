/- A region that draws its order, walked in ONE order of the prover's choosing: operations that yield in every world ('p'), operations that yield in every world of a class S ('t'), operations that alone may come up ('o', each walked as a list of one operation). Conditions: the kernel's check 'lexOK' of the chosen order. -/
import Derived.Test.YteakiaedlfhceaaWLast
import Derived.Test.YteakiaedlfhceaaWMore
namespace Go.Proofs.Yteakiaedlfhceaa.Lex
open Go.RowKit Go.Proofs.YteakiaedlfhceaaW.PrintLast

/-- how an operation of the region is taken -/
structure LK where
  n : Nat
abbrev LK.p : LK := ⟨0⟩
abbrev LK.t : LK := ⟨1⟩
abbrev LK.o : LK := ⟨2⟩

/-- Q, but behind the last operation K. -/
def putQ (Q : Exit → Act → World → Prop) (K : Act → World → Prop) : Exit → Act → World → Prop
  | .normal => K
  | e => Q e

def lexOK (md : Region.Mode) (ops : Array Oper) : List (Nat × LK) → Array Bool → Bool
  | [], l => Region.ready md ops l == []
  | (i, ⟨0⟩) :: r, l => anyB md ops l (l.setIfInBounds i true) i && lexOK md ops r (l.setIfInBounds i true)
  | (i, ⟨1⟩) :: r, l => takeB md ops [] l (l.setIfInBounds i true) i && lexOK md ops r (l.setIfInBounds i true)
  | (i, ⟨_ + 2⟩) :: r, l => readyB md ops l (l.setIfInBounds i true) i && lexOK md ops r (l.setIfInBounds i true)

def wpLex (P : Program) (ops : Array Oper) (Q : Exit → Act → World → Prop) (S : World → Prop) : List (Nat × LK) → Act → World → Prop
  | [], a, w => Q .normal a w
  | (i, ⟨0⟩) :: r, a, w => ∃ oi v, ops[i]? = some oi ∧ Yields P ops oi v a ∧ wpLex P ops Q S r (a.put oi.dst v) w
  | (i, ⟨1⟩) :: r, a, w => ∃ oi v, ops[i]? = some oi ∧ YieldsIf P ops S oi v a ∧ wpLex P ops Q S r (a.put oi.dst v) w
  | (i, ⟨_ + 2⟩) :: r, a, w => ∃ oi, ops[i]? = some oi ∧ wpList P ops (putQ Q (fun a' w' => S w' ∧ (S w' → wpLex P ops Q S r a' w'))) [oi] a w

section
variable {P : Program} {ops : Array Oper} {Q : Exit → Act → World → Prop} {S : World → Prop} {md : Region.Mode} {a : Act} {w : World} {i : Nat} {oi : Oper} {v : Value} {r : List (Nat × LK)}

theorem wp_of_putQ {K : Act → World → Prop} (h : wpList P ops (putQ Q K) [oi] a w) :
    if Region.wanted oi (yielded ops a.tmps) then oi.wp P a w K Q ∨ (oi.asks P a w ∧ LetsOut Q) else K (a.put oi.dst undef) w := by
  have h1 : if Region.wanted oi (yielded ops a.tmps) then oi.wp P a w (fun a w => K a w) (putQ Q K) ∨ (oi.asks P a w ∧ LetsOut (putQ Q K)) else K (a.put oi.dst undef) w := h
  split
  · rename_i hw
    rw [if_pos hw] at h1
    rcases h1 with h1 | ⟨h1, h2⟩
    · refine .inl ?_
      unfold Oper.wp at h1 ⊢
      cases hr : (execOp a.eval oi).run P w with
      | ok n w' =>
        rw [hr] at h1
        cases n with
        | enter f args =>
          refine Calls.mono (show Calls P f args w' _ from h1) ?_
          intro e w'' he
          cases e <;> exact he
        | _ => exact h1
      | halt x w' =>
        rw [hr] at h1
        cases x <;> exact h1
    · exact .inr ⟨h1, h2⟩
  · rename_i hw
    rw [if_neg hw] at h1
    exact h1

theorem lex_any (hQ : ∀ c a (N : Tmp) v w, Q (.panic c) { a with tmps := a.tmps.setIfInBounds N v } w → Q (.panic c) a w) :
    ∀ (order : List (Nat × LK)) (l : Array Bool) (a : Act) (w : World), lexOK md ops order l = true → S w → wpLex P ops Q S order a w → wpAnyLast P md ops Q S [] order.length l a w
  | [], l, a, w, hc, _, h => done_ (by simpa [lexOK] using hc) h
  | (i, ⟨0⟩) :: r, l, a, w, hc, hS, h => by
    obtain ⟨oi, v, hi, hy, h⟩ := h
    simp only [lexOK, Bool.and_eq_true] at hc
    refine pure_ (i := i) (N := oi.dst) _ hi rfl hc.1 ?_ hy rfl (lex_any hQ r _ _ _ hc.2 hS h)
    intro c a w hq
    cases hd : oi.dst with
    | none => rw [hd] at hq; exact hq
    | some N => rw [hd] at hq; exact hQ c a N v w hq
  | (i, ⟨1⟩) :: r, l, a, w, hc, hS, h => by
    obtain ⟨oi, v, hi, hy, h⟩ := h
    simp only [lexOK, Bool.and_eq_true] at hc
    refine take_ (i := i) (N := oi.dst) _ hi rfl hc.1 ?_ hy hS rfl (lex_any hQ r _ _ _ hc.2 hS h)
    intro c a w hq
    cases hd : oi.dst with
    | none => rw [hd] at hq; exact hq
    | some N => rw [hd] at hq; exact hQ c a N v w hq
  | (i, ⟨_ + 2⟩) :: r, l, a, w, hc, hS, h => by
    obtain ⟨oi, hi, h⟩ := h
    simp only [lexOK, Bool.and_eq_true, readyB, beq_iff_eq] at hc
    refine wpAnyLast_all hc.1.1 (by simp) ?_
    intro j hj
    obtain rfl := List.mem_singleton.1 hj
    have h2 := wp_of_putQ h
    refine wpOp_mono (K := fun a' w' => S w' ∧ (S w' → wpLex P ops Q S r a' w')) (fun a' w' h6 => ⟨fun _ _ => h6.1, lex_any hQ r _ _ _ hc.2 h6.1 (h6.2 h6.1)⟩) ?_
    unfold wpOp
    simp only [hi]
    exact h2

/-- THE REGION, in the order that is chosen. -/
theorem region {id : Nat} (order : List (Nat × LK)) (S : World → Prop) (hm : P.follows .mixedOrders = true)
    (hc : (order.length == ops.size && lexOK .any ops order (Array.replicate ops.size false)) = true)
    (hQ : ∀ c a (N : Tmp) v w, Q (.panic c) { a with tmps := a.tmps.setIfInBounds N v } w → Q (.panic c) a w)
    (hS : S w.drew) (h : S w.drew → wpLex P ops Q S order a w.drew) : (Code.region id ops true).wp P Q a w := by
  simp only [Bool.and_eq_true, beq_iff_eq] at hc
  refine wp_region_last (S := S) (ds := []) hm ?_
  have := lex_any hQ order _ a w.drew hc.2 hS (h hS)
  rw [hc.1] at this
  exact this

theorem at_drop {rs : List Oper} (h : ops.toList.drop i = oi :: rs) : ops[i]? = some oi := by
  have h1 : (ops.toList.drop i)[0]? = some oi := by rw [h]; rfl
  simpa using h1
theorem lex_nil (h : Q .normal a w) : wpLex P ops Q S [] a w := h
theorem lex_p {a' : Act} {N : Option Tmp} {rs : List Oper} (hi : ops.toList.drop i = oi :: rs) (hN : oi.dst = N) (hw : Region.wanted oi (yielded ops a.tmps) = true) (hv : ∀ w', (execOp a.eval oi).run P w' = .ok (.value v) w') (ha : a.put N v = a')
    (h : wpLex P ops Q S r a' w) : wpLex P ops Q S ((i, .p) :: r) a w := by
  subst ha hN
  exact ⟨oi, v, at_drop hi, .inl ⟨hw, hv⟩, h⟩
theorem lex_off {a' : Act} {N : Option Tmp} {rs : List Oper} (hi : ops.toList.drop i = oi :: rs) (hN : oi.dst = N) (hw : Region.wanted oi (yielded ops a.tmps) = false) (ha : a.put N undef = a')
    (h : wpLex P ops Q S r a' w) : wpLex P ops Q S ((i, .p) :: r) a w := by
  subst ha hN
  exact ⟨oi, undef, at_drop hi, .inr ⟨hw, rfl⟩, h⟩
theorem lex_t {a' : Act} {N : Option Tmp} {rs : List Oper} (hi : ops.toList.drop i = oi :: rs) (hN : oi.dst = N) (hw : Region.wanted oi (yielded ops a.tmps) = true) (hv : ∀ w', S w' → (execOp a.eval oi).run P w' = .ok (.value v) w') (ha : a.put N v = a')
    (h : wpLex P ops Q S r a' w) : wpLex P ops Q S ((i, .t) :: r) a w := by
  subst ha hN
  exact ⟨oi, v, at_drop hi, .inl ⟨hw, hv⟩, h⟩
theorem lex_o {rs : List Oper} (hi : ops.toList.drop i = oi :: rs) (h : wpList P ops (putQ Q (fun a' w' => S w' ∧ (S w' → wpLex P ops Q S r a' w'))) [oi] a w) :
    wpLex P ops Q S ((i, .o) :: r) a w := ⟨oi, at_drop hi, h⟩
/-- the end of a list of one operation -/
theorem lex_end {a' : Act} (ha : a = a') (hS : S w) (h : S w → wpLex P ops Q S r a' w) : wpList P ops (putQ Q (fun a' w' => S w' ∧ (S w' → wpLex P ops Q S r a' w'))) [] a w := by
  subst ha
  exact ⟨hS, h⟩
end
end Go.Proofs.Yteakiaedlfhceaa.Lex
