/- A region that draws its order, walked along a TREE of orders: as XLex's, but where two operations that are walked alone are ready at once, both ways are walked. Conditions: the kernel's check 'lexTOK' of the tree. -/
import Derived.Test.YticilaoibjbgfaaLex
namespace Go.Proofs.Yticilaoibjbgfaa.Lex
open Go.RowKit Go.Proofs.YticilaoibjbgfaaW.PrintLast

/-- a tree of orders -/
inductive LT where
  | nil
  | one (i : Nat) (k : LK) (r : LT)
  | two (i : Nat) (r : LT) (j : Nat) (s : LT)
  | last (i : Nat)
def LT.len : LT → Nat
  | .nil => 0
  | .one _ _ r => r.len + 1
  | .two _ r _ _ => r.len + 1
  | .last _ => 1
/-- the operations that need not keep S: last ones -/
def exT : LT → List Nat
  | .nil => []
  | .one _ _ r => exT r
  | .two _ r _ s => exT r ++ exT s
  | .last i => [i]

def lexTOK (md : Region.Mode) (ops : Array Oper) (ds : List Nat) : LT → Array Bool → Bool
  | .nil, l => Region.ready md ops l == []
  | .one i ⟨0⟩ r, l => anyB md ops l (l.setIfInBounds i true) i && lexTOK md ops ds r (l.setIfInBounds i true)
  | .one i ⟨1⟩ r, l => takeB md ops ds l (l.setIfInBounds i true) i && lexTOK md ops ds r (l.setIfInBounds i true)
  | .one i ⟨_ + 2⟩ r, l => readyB md ops l (l.setIfInBounds i true) i && lexTOK md ops ds r (l.setIfInBounds i true)
  | .two i r j s, l => (Region.ready md ops l == [i, j] && r.len == s.len) && (lexTOK md ops ds r (l.setIfInBounds i true) && lexTOK md ops ds s (l.setIfInBounds j true))
  | .last i, l => ds.contains i && (readyB md ops l (l.setIfInBounds i true) i && (Region.ready md ops (l.setIfInBounds i true) == []))

def wpLexT (P : Program) (ops : Array Oper) (Q : Exit → Act → World → Prop) (S : World → Prop) : LT → Act → World → Prop
  | .nil, a, w => Q .normal a w
  | .one i ⟨0⟩ r, a, w => ∃ oi v, ops[i]? = some oi ∧ Yields P ops oi v a ∧ wpLexT P ops Q S r (a.put oi.dst v) w
  | .one i ⟨1⟩ r, a, w => ∃ oi v, ops[i]? = some oi ∧ YieldsIf P ops S oi v a ∧ wpLexT P ops Q S r (a.put oi.dst v) w
  | .one i ⟨_ + 2⟩ r, a, w => ∃ oi, ops[i]? = some oi ∧ wpList P ops (putQ Q (fun a' w' => S w' ∧ (S w' → wpLexT P ops Q S r a' w'))) [oi] a w
  | .two i r j s, a, w => (∃ oi, ops[i]? = some oi ∧ wpList P ops (putQ Q (fun a' w' => S w' ∧ (S w' → wpLexT P ops Q S r a' w'))) [oi] a w) ∧ (∃ oi, ops[j]? = some oi ∧ wpList P ops (putQ Q (fun a' w' => S w' ∧ (S w' → wpLexT P ops Q S s a' w'))) [oi] a w)
  | .last i, a, w => ∃ oi, ops[i]? = some oi ∧ wpList P ops (putQ Q (fun a' w' => Q .normal a' w')) [oi] a w

section
variable {P : Program} {ops : Array Oper} {Q : Exit → Act → World → Prop} {S : World → Prop} {md : Region.Mode} {a : Act} {w : World} {i : Nat} {oi : Oper} {v : Value} {r : LT}

theorem lexT_any {ds : List Nat} (hQ : ∀ c a (N : Tmp) v w, Q (.panic c) { a with tmps := a.tmps.setIfInBounds N v } w → Q (.panic c) a w) :
    ∀ (t : LT) (l : Array Bool) (a : Act) (w : World), lexTOK md ops ds t l = true → S w → wpLexT P ops Q S t a w → wpAnyLast P md ops Q S ds t.len l a w
  | .nil, l, a, w, hc, _, h => done_ (by simpa [lexTOK] using hc) h
  | .one i ⟨0⟩ r, l, a, w, hc, hS, h => by
    obtain ⟨oi, v, hi, hy, h⟩ := h
    simp only [lexTOK, Bool.and_eq_true] at hc
    refine pure_ (i := i) (N := oi.dst) _ hi rfl hc.1 ?_ hy rfl (lexT_any hQ r _ _ _ hc.2 hS h)
    intro c a w hq
    cases hd : oi.dst with
    | none => rw [hd] at hq; exact hq
    | some N => rw [hd] at hq; exact hQ c a N v w hq
  | .one i ⟨1⟩ r, l, a, w, hc, hS, h => by
    obtain ⟨oi, v, hi, hy, h⟩ := h
    simp only [lexTOK, Bool.and_eq_true] at hc
    refine take_ (i := i) (N := oi.dst) _ hi rfl hc.1 ?_ hy hS rfl (lexT_any hQ r _ _ _ hc.2 hS h)
    intro c a w hq
    cases hd : oi.dst with
    | none => rw [hd] at hq; exact hq
    | some N => rw [hd] at hq; exact hQ c a N v w hq
  | .one i ⟨_ + 2⟩ r, l, a, w, hc, hS, h => by
    obtain ⟨oi, hi, h⟩ := h
    simp only [lexTOK, Bool.and_eq_true, readyB, beq_iff_eq] at hc
    refine wpAnyLast_all hc.1.1 (by simp) ?_
    intro j hj
    obtain rfl := List.mem_singleton.1 hj
    have h2 := wp_of_putQ h
    refine wpOp_mono (K := fun a' w' => S w' ∧ (S w' → wpLexT P ops Q S r a' w')) (fun a' w' h6 => ⟨fun _ _ => h6.1, lexT_any hQ r _ _ _ hc.2 h6.1 (h6.2 h6.1)⟩) ?_
    unfold wpOp
    simp only [hi]
    exact h2
  | .two i r j s, l, a, w, hc, hS, h => by
    obtain ⟨⟨oi, hi, h⟩, ⟨oj, hj, g⟩⟩ := h
    simp only [lexTOK, Bool.and_eq_true, beq_iff_eq] at hc
    obtain ⟨⟨hc1, hc2⟩, hc3, hc4⟩ := hc
    refine wpAnyLast_all hc1 (by simp) ?_
    intro k hk
    simp only [List.mem_cons, List.not_mem_nil, or_false] at hk
    rcases hk with rfl | rfl
    · have h2 := wp_of_putQ h
      refine wpOp_mono (K := fun a' w' => S w' ∧ (S w' → wpLexT P ops Q S r a' w')) (fun a' w' h6 => ⟨fun _ _ => h6.1, lexT_any hQ r _ _ _ hc3 h6.1 (h6.2 h6.1)⟩) ?_
      unfold wpOp
      simp only [hi]
      exact h2
    · have h2 := wp_of_putQ g
      refine wpOp_mono (K := fun a' w' => S w' ∧ (S w' → wpLexT P ops Q S s a' w')) (fun a' w' h6 => ⟨fun _ _ => h6.1, ?_⟩) ?_
      · have := lexT_any hQ s _ _ _ hc4 h6.1 (h6.2 h6.1)
        rw [hc2]
        exact this
      · unfold wpOp
        simp only [hj]
        exact h2
  | .last i, l, a, w, hc, hS, h => by
    obtain ⟨oi, hi, h⟩ := h
    simp only [lexTOK, Bool.and_eq_true, readyB, beq_iff_eq, List.contains_iff_mem] at hc
    obtain ⟨hd, hc, hc2⟩ := hc
    refine wpAnyLast_all hc.1 (by simp) ?_
    intro j hj
    obtain rfl := List.mem_singleton.1 hj
    have h2 := wp_of_putQ h
    refine wpOp_mono (K := fun a' w' => Q .normal a' w') (fun a' w' h6 => ⟨fun hn => absurd hd hn, ?_⟩) ?_
    · exact done_ (by simpa using hc2) h6
    · unfold wpOp
      simp only [hi]
      exact h2

/-- THE REGION, along the tree that is chosen. -/
theorem regionT {id : Nat} (t : LT) (S : World → Prop) (hm : P.follows .mixedOrders = true)
    (hc : (t.len == ops.size && lexTOK .any ops (exT t) t (Array.replicate ops.size false)) = true)
    (hQ : ∀ c a (N : Tmp) v w, Q (.panic c) { a with tmps := a.tmps.setIfInBounds N v } w → Q (.panic c) a w)
    (hS : S w.drew) (h : S w.drew → wpLexT P ops Q S t a w.drew) : (Code.region id ops true).wp P Q a w := by
  simp only [Bool.and_eq_true, beq_iff_eq] at hc
  refine wp_region_last (S := S) (ds := exT t) hm ?_
  have := lexT_any hQ t _ a w.drew hc.2 hS (h hS)
  rw [hc.1] at this
  exact this
theorem lt_nil (h : Q .normal a w) : wpLexT P ops Q S .nil a w := h
theorem lt_p {a' : Act} {N : Option Tmp} {rs : List Oper} (hi : ops.toList.drop i = oi :: rs) (hN : oi.dst = N) (hw : Region.wanted oi (yielded ops a.tmps) = true) (hv : ∀ w', (execOp a.eval oi).run P w' = .ok (.value v) w') (ha : a.put N v = a')
    (h : wpLexT P ops Q S r a' w) : wpLexT P ops Q S (.one i .p r) a w := by
  subst ha hN
  exact ⟨oi, v, at_drop hi, .inl ⟨hw, hv⟩, h⟩
theorem lt_off {a' : Act} {N : Option Tmp} {rs : List Oper} (hi : ops.toList.drop i = oi :: rs) (hN : oi.dst = N) (hw : Region.wanted oi (yielded ops a.tmps) = false) (ha : a.put N undef = a')
    (h : wpLexT P ops Q S r a' w) : wpLexT P ops Q S (.one i .p r) a w := by
  subst ha hN
  exact ⟨oi, undef, at_drop hi, .inr ⟨hw, rfl⟩, h⟩
theorem lt_t {a' : Act} {N : Option Tmp} {rs : List Oper} (hi : ops.toList.drop i = oi :: rs) (hN : oi.dst = N) (hw : Region.wanted oi (yielded ops a.tmps) = true) (hv : ∀ w', S w' → (execOp a.eval oi).run P w' = .ok (.value v) w') (ha : a.put N v = a')
    (h : wpLexT P ops Q S r a' w) : wpLexT P ops Q S (.one i .t r) a w := by
  subst ha hN
  exact ⟨oi, v, at_drop hi, .inl ⟨hw, hv⟩, h⟩
theorem lt_o {rs : List Oper} (hi : ops.toList.drop i = oi :: rs) (h : wpList P ops (putQ Q (fun a' w' => S w' ∧ (S w' → wpLexT P ops Q S r a' w'))) [oi] a w) :
    wpLexT P ops Q S (.one i .o r) a w := ⟨oi, at_drop hi, h⟩
theorem lt_e {rs : List Oper} (hi : ops.toList.drop i = oi :: rs) (h : wpList P ops (putQ Q (fun a' w' => Q .normal a' w')) [oi] a w) : wpLexT P ops Q S (.last i) a w := ⟨oi, at_drop hi, h⟩
theorem lt_two {j : Nat} {oj : Oper} {s : LT} {rs rs2 : List Oper} (hi : ops.toList.drop i = oi :: rs) (hj : ops.toList.drop j = oj :: rs2)
    (h : wpList P ops (putQ Q (fun a' w' => S w' ∧ (S w' → wpLexT P ops Q S r a' w'))) [oi] a w) (g : wpList P ops (putQ Q (fun a' w' => S w' ∧ (S w' → wpLexT P ops Q S s a' w'))) [oj] a w) :
    wpLexT P ops Q S (.two i r j s) a w := ⟨⟨oi, at_drop hi, h⟩, ⟨oj, at_drop hj, g⟩⟩
/-- the end of a list of one operation -/
theorem lt_end {a' : Act} (ha : a = a') (hS : S w) (h : S w → wpLexT P ops Q S r a' w) : wpList P ops (putQ Q (fun a' w' => S w' ∧ (S w' → wpLexT P ops Q S r a' w'))) [] a w := by
  subst ha
  exact ⟨hS, h⟩
end
end Go.Proofs.Yticilaoibjbgfaa.Lex
