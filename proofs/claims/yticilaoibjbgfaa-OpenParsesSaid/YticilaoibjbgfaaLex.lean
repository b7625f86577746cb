/- A region that draws its order, walked in ONE order of the prover's choosing: operations that yield in every world ('p'), operations that yield in every world of a class S ('t'), operations that alone may come up ('o', each walked as a list of one operation). Conditions: the kernel's check 'lexOK' of the chosen order. -/
import Derived.Test.YticilaoibjbgfaaWLast
import Derived.Test.YticilaoibjbgfaaWMore
namespace Go.Proofs.Yticilaoibjbgfaa.Lex
open Go.RowKit Go.Proofs.YticilaoibjbgfaaW.PrintLast

/-- how an operation of the region is taken -/
structure LK where
  n : Nat
abbrev LK.p : LK := ⟨0⟩
abbrev LK.t : LK := ⟨1⟩
abbrev LK.o : LK := ⟨2⟩
/-- the last one, which need not keep S -/
abbrev LK.e : LK := ⟨3⟩
/-- one that need not keep S, behind which only operations stand that yield in every world -/
abbrev LK.q : LK := ⟨4⟩
/-- the operations of an order that need not keep S -/
def exOf (order : List (Nat × LK)) : List Nat := (order.filter (fun q => decide (3 ≤ q.2.n))).map (·.1)

/-- Q, but behind the last operation K. -/
def putQ (Q : Exit → Act → World → Prop) (K : Act → World → Prop) : Exit → Act → World → Prop
  | .normal => K
  | e => Q e

def lexOK (md : Region.Mode) (ops : Array Oper) (ds : List Nat) : List (Nat × LK) → Array Bool → Bool
  | [], l => Region.ready md ops l == []
  | (i, ⟨0⟩) :: r, l => anyB md ops l (l.setIfInBounds i true) i && lexOK md ops ds r (l.setIfInBounds i true)
  | (i, ⟨1⟩) :: r, l => takeB md ops ds l (l.setIfInBounds i true) i && lexOK md ops ds r (l.setIfInBounds i true)
  | (i, ⟨2⟩) :: r, l => readyB md ops l (l.setIfInBounds i true) i && lexOK md ops ds r (l.setIfInBounds i true)
  | (i, ⟨3⟩) :: r, l => ds.contains i && (r.isEmpty && (readyB md ops l (l.setIfInBounds i true) i && lexOK md ops ds r (l.setIfInBounds i true)))
  | (i, ⟨_ + 4⟩) :: r, l => ds.contains i && (r.all (fun q => q.2.n == 0) && (readyB md ops l (l.setIfInBounds i true) i && lexOK md ops ds r (l.setIfInBounds i true)))

def wpLex (P : Program) (ops : Array Oper) (Q : Exit → Act → World → Prop) (S : World → Prop) : List (Nat × LK) → Act → World → Prop
  | [], a, w => Q .normal a w
  | (i, ⟨0⟩) :: r, a, w => ∃ oi v, ops[i]? = some oi ∧ Yields P ops oi v a ∧ wpLex P ops Q S r (a.put oi.dst v) w
  | (i, ⟨1⟩) :: r, a, w => ∃ oi v, ops[i]? = some oi ∧ YieldsIf P ops S oi v a ∧ wpLex P ops Q S r (a.put oi.dst v) w
  | (i, ⟨2⟩) :: r, a, w => ∃ oi, ops[i]? = some oi ∧ wpList P ops (putQ Q (fun a' w' => S w' ∧ (S w' → wpLex P ops Q S r a' w'))) [oi] a w
  | (i, ⟨3⟩) :: _, a, w => ∃ oi, ops[i]? = some oi ∧ wpList P ops (putQ Q (fun a' w' => Q .normal a' w')) [oi] a w
  | (i, ⟨_ + 4⟩) :: r, a, w => ∃ oi, ops[i]? = some oi ∧ wpList P ops (putQ Q (fun a' w' => wpLex P ops Q S r a' w')) [oi] a w

section
variable {P : Program} {ops : Array Oper} {Q : Exit → Act → World → Prop} {S : World → Prop} {md : Region.Mode} {a : Act} {w : World} {i : Nat} {oi : Oper} {v : Value} {r : List (Nat × LK)}

theorem wp_of_putQ {K : Act → World → Prop} (h : wpList P ops (putQ Q K) [oi] a w) :
    if Region.wanted oi (yielded ops a.tmps) then oi.wp P a w K Q ∨ (oi.asks P a w ∧ LetsOut Q) else K (a.put oi.dst undef) w := by
  have h1 : if Region.wanted oi (yielded ops a.tmps) then oi.wp P a w (fun a w => K a w) (putQ Q K) ∨ (oi.asks P a w ∧ LetsOut (putQ Q K)) else K (a.put oi.dst undef) w := h
  split
  · rename_i hw
    rw [if_pos hw] at h1
    rcases h1 with h1 | ⟨h1, h2⟩
    · refine .inl ?_
      unfold Oper.wp at h1 ⊢
      cases hr : (execOp a.eval oi).run P w with
      | ok n w' =>
        rw [hr] at h1
        cases n with
        | enter f args =>
          refine Calls.mono (show Calls P f args w' _ from h1) ?_
          intro e w'' he
          cases e <;> exact he
        | _ => exact h1
      | halt x w' =>
        rw [hr] at h1
        cases x <;> exact h1
    · exact .inr ⟨h1, h2⟩
  · rename_i hw
    rw [if_neg hw] at h1
    exact h1

theorem lex_free {ds : List Nat} (hQ : ∀ c a (N : Tmp) v w, Q (.panic c) { a with tmps := a.tmps.setIfInBounds N v } w → Q (.panic c) a w) :
    ∀ (order : List (Nat × LK)) (l : Array Bool) (a : Act) (w : World), order.all (fun q => q.2.n == 0) = true → lexOK md ops ds order l = true → wpLex P ops Q S order a w → wpAnyLast P md ops Q S ds order.length l a w
  | [], l, a, w, _, hc, h => done_ (by simpa [lexOK] using hc) h
  | (i, ⟨0⟩) :: r, l, a, w, hp, hc, h => by
    obtain ⟨oi, v, hi, hy, h⟩ := h
    simp only [lexOK, Bool.and_eq_true] at hc
    simp only [List.all_cons, Bool.and_eq_true] at hp
    refine pure_ (i := i) (N := oi.dst) _ hi rfl hc.1 ?_ hy rfl (lex_free hQ r _ _ _ hp.2 hc.2 h)
    intro c a w hq
    cases hd : oi.dst with
    | none => rw [hd] at hq; exact hq
    | some N => rw [hd] at hq; exact hQ c a N v w hq
  | (i, ⟨k + 1⟩) :: r, l, a, w, hp, hc, h => by simp at hp
theorem lex_any {ds : List Nat} (hQ : ∀ c a (N : Tmp) v w, Q (.panic c) { a with tmps := a.tmps.setIfInBounds N v } w → Q (.panic c) a w) :
    ∀ (order : List (Nat × LK)) (l : Array Bool) (a : Act) (w : World), lexOK md ops ds order l = true → S w → wpLex P ops Q S order a w → wpAnyLast P md ops Q S ds order.length l a w
  | [], l, a, w, hc, _, h => done_ (by simpa [lexOK] using hc) h
  | (i, ⟨0⟩) :: r, l, a, w, hc, hS, h => by
    obtain ⟨oi, v, hi, hy, h⟩ := h
    simp only [lexOK, Bool.and_eq_true] at hc
    refine pure_ (i := i) (N := oi.dst) _ hi rfl hc.1 ?_ hy rfl (lex_any hQ r _ _ _ hc.2 hS h)
    intro c a w hq
    cases hd : oi.dst with
    | none => rw [hd] at hq; exact hq
    | some N => rw [hd] at hq; exact hQ c a N v w hq
  | (i, ⟨1⟩) :: r, l, a, w, hc, hS, h => by
    obtain ⟨oi, v, hi, hy, h⟩ := h
    simp only [lexOK, Bool.and_eq_true] at hc
    refine take_ (i := i) (N := oi.dst) _ hi rfl hc.1 ?_ hy hS rfl (lex_any hQ r _ _ _ hc.2 hS h)
    intro c a w hq
    cases hd : oi.dst with
    | none => rw [hd] at hq; exact hq
    | some N => rw [hd] at hq; exact hQ c a N v w hq
  | (i, ⟨2⟩) :: r, l, a, w, hc, hS, h => by
    obtain ⟨oi, hi, h⟩ := h
    simp only [lexOK, Bool.and_eq_true, readyB, beq_iff_eq] at hc
    refine wpAnyLast_all hc.1.1 (by simp) ?_
    intro j hj
    obtain rfl := List.mem_singleton.1 hj
    have h2 := wp_of_putQ h
    refine wpOp_mono (K := fun a' w' => S w' ∧ (S w' → wpLex P ops Q S r a' w')) (fun a' w' h6 => ⟨fun _ _ => h6.1, lex_any hQ r _ _ _ hc.2 h6.1 (h6.2 h6.1)⟩) ?_
    unfold wpOp
    simp only [hi]
    exact h2
  | (i, ⟨_ + 4⟩) :: r, l, a, w, hc, hS, h => by
    obtain ⟨oi, hi, h⟩ := h
    simp only [lexOK, Bool.and_eq_true, readyB, beq_iff_eq, List.contains_iff_mem] at hc
    obtain ⟨hd, hr, hc, hc2⟩ := hc
    refine wpAnyLast_all hc.1 (by simp) ?_
    intro j hj
    obtain rfl := List.mem_singleton.1 hj
    have h2 := wp_of_putQ h
    refine wpOp_mono (K := fun a' w' => wpLex P ops Q S r a' w') (fun a' w' h6 => ⟨fun hn => absurd hd hn, lex_free hQ r _ _ _ hr hc2 h6⟩) ?_
    unfold wpOp
    simp only [hi]
    exact h2
  | (i, ⟨3⟩) :: r, l, a, w, hc, hS, h => by
    obtain ⟨oi, hi, h⟩ := h
    simp only [lexOK, Bool.and_eq_true, readyB, beq_iff_eq, List.contains_iff_mem, List.isEmpty_iff] at hc
    obtain ⟨hd, hr, hc, hc2⟩ := hc
    subst hr
    refine wpAnyLast_all hc.1 (by simp) ?_
    intro j hj
    obtain rfl := List.mem_singleton.1 hj
    have h2 := wp_of_putQ h
    refine wpOp_mono (K := fun a' w' => Q .normal a' w') (fun a' w' h6 => ⟨fun hn => absurd hd hn, ?_⟩) ?_
    · exact done_ (by simpa [lexOK] using hc2) h6
    · unfold wpOp
      simp only [hi]
      exact h2

/-- THE REGION, in the order that is chosen. -/
theorem region {id : Nat} (order : List (Nat × LK)) (S : World → Prop) (hm : P.follows .mixedOrders = true)
    (hc : (order.length == ops.size && lexOK .any ops (exOf order) order (Array.replicate ops.size false)) = true)
    (hQ : ∀ c a (N : Tmp) v w, Q (.panic c) { a with tmps := a.tmps.setIfInBounds N v } w → Q (.panic c) a w)
    (hS : S w.drew) (h : S w.drew → wpLex P ops Q S order a w.drew) : (Code.region id ops true).wp P Q a w := by
  simp only [Bool.and_eq_true, beq_iff_eq] at hc
  refine wp_region_last (S := S) (ds := exOf order) hm ?_
  have := lex_any hQ order _ a w.drew hc.2 hS (h hS)
  rw [hc.1] at this
  exact this

/-- Q, where the end is the normal one. -/
def only (Q : Exit → Act → World → Prop) : Exit → Act → World → Prop
  | .normal, a, w => Q .normal a w
  | _, _, _ => False
/-- .. where nothing in the region panics. -/
theorem regionN {id : Nat} (order : List (Nat × LK)) (S : World → Prop) (hm : P.follows .mixedOrders = true)
    (hc : (order.length == ops.size && lexOK .any ops (exOf order) order (Array.replicate ops.size false)) = true)
    (hS : S w.drew) (h : S w.drew → wpLex P ops (only Q) S order a w.drew) : (Code.region id ops true).wp P Q a w := by
  refine wp_mono (region (Q := only Q) order S hm hc (fun _ _ _ _ _ h => h) hS h) ?_
  intro e a w h
  cases e <;> first | exact h | exact h.elim
theorem lex_nilN (h : Q .normal a w) : wpLex P ops (only Q) S [] a w := h
theorem outN (h : Q .normal a w) : putQ (only Q) (fun a' w' => only Q .normal a' w') .normal a w := h
theorem at_drop {rs : List Oper} (h : ops.toList.drop i = oi :: rs) : ops[i]? = some oi := by
  have h1 : (ops.toList.drop i)[0]? = some oi := by rw [h]; rfl
  simpa using h1
theorem lex_nil (h : Q .normal a w) : wpLex P ops Q S [] a w := h
theorem lex_p {a' : Act} {N : Option Tmp} {rs : List Oper} (hi : ops.toList.drop i = oi :: rs) (hN : oi.dst = N) (hw : Region.wanted oi (yielded ops a.tmps) = true) (hv : ∀ w', (execOp a.eval oi).run P w' = .ok (.value v) w') (ha : a.put N v = a')
    (h : wpLex P ops Q S r a' w) : wpLex P ops Q S ((i, .p) :: r) a w := by
  subst ha hN
  exact ⟨oi, v, at_drop hi, .inl ⟨hw, hv⟩, h⟩
theorem lex_off {a' : Act} {N : Option Tmp} {rs : List Oper} (hi : ops.toList.drop i = oi :: rs) (hN : oi.dst = N) (hw : Region.wanted oi (yielded ops a.tmps) = false) (ha : a.put N undef = a')
    (h : wpLex P ops Q S r a' w) : wpLex P ops Q S ((i, .p) :: r) a w := by
  subst ha hN
  exact ⟨oi, undef, at_drop hi, .inr ⟨hw, rfl⟩, h⟩
theorem lex_t {a' : Act} {N : Option Tmp} {rs : List Oper} (hi : ops.toList.drop i = oi :: rs) (hN : oi.dst = N) (hw : Region.wanted oi (yielded ops a.tmps) = true) (hv : ∀ w', S w' → (execOp a.eval oi).run P w' = .ok (.value v) w') (ha : a.put N v = a')
    (h : wpLex P ops Q S r a' w) : wpLex P ops Q S ((i, .t) :: r) a w := by
  subst ha hN
  exact ⟨oi, v, at_drop hi, .inl ⟨hw, hv⟩, h⟩
theorem lex_o {rs : List Oper} (hi : ops.toList.drop i = oi :: rs) (h : wpList P ops (putQ Q (fun a' w' => S w' ∧ (S w' → wpLex P ops Q S r a' w'))) [oi] a w) :
    wpLex P ops Q S ((i, .o) :: r) a w := ⟨oi, at_drop hi, h⟩
theorem lex_e {rs : List Oper} (hi : ops.toList.drop i = oi :: rs) (h : wpList P ops (putQ Q (fun a' w' => Q .normal a' w')) [oi] a w) :
    wpLex P ops Q S [(i, .e)] a w := ⟨oi, at_drop hi, h⟩
theorem lex_q {rs : List Oper} (hi : ops.toList.drop i = oi :: rs) (h : wpList P ops (putQ Q (fun a' w' => wpLex P ops Q S r a' w')) [oi] a w) :
    wpLex P ops Q S ((i, .q) :: r) a w := ⟨oi, at_drop hi, h⟩
theorem lex_endq {a' : Act} (ha : a = a') (h : wpLex P ops Q S r a' w) : wpList P ops (putQ Q (fun a' w' => wpLex P ops Q S r a' w')) [] a w := by
  subst ha
  exact h
/-- the end of a list of one operation -/
theorem lex_end {a' : Act} (ha : a = a') (hS : S w) (h : S w → wpLex P ops Q S r a' w) : wpList P ops (putQ Q (fun a' w' => S w' ∧ (S w' → wpLex P ops Q S r a' w'))) [] a w := by
  subst ha
  exact ⟨hS, h⟩
end
end Go.Proofs.Yticilaoibjbgfaa.Lex
