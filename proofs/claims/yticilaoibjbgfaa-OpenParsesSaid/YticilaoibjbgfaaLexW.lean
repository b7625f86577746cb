/- A region that draws its order, at the wide fence, in which one operation may be a call of yield: walked in one order of the prover's choosing (XLex's law, one kind of operation more: 'y'). -/
import Derived.Test.YticilaoibjbgfaaLex
import Derived.Test.YticilaoibjbgfaaRange
import Derived.OrdersIn
set_option linter.unusedVariables false
namespace Go.Proofs.Yticilaoibjbgfaa.LexW
open Go.RowKit Go.Proofs.YticilaoibjbgfaaW.PrintLast Go.Proofs.Yticilaoibjbgfaa.Lex
section
variable {n0 : Nat} {P : Program} {ops : Array Oper} {Q : Exit → Act → World → Prop} {md : Region.Mode} {S : World → Prop} {ds : List Nat}
theorem noabout {P : Program} {o : Oper} {w : World} {ρ : Operand → Value} : ∀ f, o.about P w ρ = some f → Fence.wide.fn f := fun _ _ => trivial
theorem _root_.Go.YieldsIf.wpOpW {i : Nat} {o : Oper} {v : Value} {a : Act} (hi : ops[i]? = some o) (hy : YieldsIf P ops S o v a)
    {K : Act → World → Prop} {w : World} (hS : S w) (h : K (a.put o.dst v) w) : wpOpIn Fence.wide n0 P ops Q i K a w := by
  unfold Go.wpOpIn
  simp only [hi]
  rcases hy with ⟨hw, hv⟩ | ⟨hw, rfl⟩
  · simp only [hw, if_true, Oper.wpIn, Fence.wide_round, Oper.semAt_none, hv w hS, Oper.uponIn]; exact ⟨noabout, h⟩
  · simp only [hw, Bool.false_eq_true, if_false]; exact ⟨noabout, h⟩
theorem wpOpW_putIf {j : Nat} {oi oj : Oper} {v : Value} (hj : ops[j]? = some oj) (hap : oi.apart ops oj = true)
    (hsi : ∀ cs b, oi.op ≠ .select cs b) (hsj : ∀ cs b, oj.op ≠ .select cs b)
    (hQ : ∀ c a w, Q (.panic c) (a.put oi.dst v) w → Q (.panic c) a w) {K : Act → World → Prop} {a : Act} {w : World}
    (hy : YieldsIf P ops S oi v a) (h : wpOpIn Fence.wide n0 P ops Q j K (a.put oi.dst v) w) :
    wpOpIn Fence.wide n0 P ops Q j (fun a' w' => YieldsIf P ops S oi v a' ∧ K (a'.put oi.dst v) w') a w := by
  obtain ⟨h1, h2, h3⟩ := Oper.apart_spec hap
  have keep : ∀ (a : Act), YieldsIf P ops S oi v a → ∀ u, YieldsIf P ops S oi v (a.put oj.dst u) := fun a hy u =>
    hy.of_same (execOp_put oi hsi a oj.dst u h3) (wanted_put oi a oj.dst u h3)
  have keepD : ∀ d, YieldsIf P ops S oi v { a with defers := d :: a.defers } := fun d => hy.of_same rfl rfl
  unfold wpOpIn at *
  simp only [hj] at *
  rw [wanted_put oj a oi.dst v h1, about_put oj w a oi.dst v h1] at h
  split
  · rename_i hw
    simp only [hw, if_true] at h
    unfold Oper.wpIn at *
    rw [about_put oj w a oi.dst v h1] at h
    refine ⟨h.1, ?_⟩
    have h := h.2
    rw [Fence.wide_round, Oper.semAt_none, execOp_put oj hsj a oi.dst v h1] at h
    rw [Fence.wide_round, Oper.semAt_none]
    generalize (execOp a.eval oj).run P w = r at *
    cases r with
    | ok x w' =>
      cases x <;> simp only [Oper.uponIn] at h ⊢
      case value u => exact ⟨keep a hy u, by rw [← Act.put_comm a v u h2]; exact h⟩
      case skip => exact ⟨keep a hy _, by rw [← Act.put_comm a v undef h2]; exact h⟩
      case defer d =>
        refine ⟨keep _ (keepD d) _, ?_⟩
        rw [← Act.put_comm _ v undef h2, ← Act.put_defers]
        exact h
      case enter f args =>
        refine ⟨h.1, CallsIn.mono h.2 fun e w'' he => ?_⟩
        cases e with
        | returned u => exact ⟨keep a hy u, by rw [← Act.put_comm a v u h2]; exact he⟩
        | panicked c => exact hQ _ _ _ he
        | outgrown => exact he
      case row row args => exact ⟨h.1, RowsIn.mono h.2 fun u w'' he => ⟨keep a hy u, by rw [← Act.put_comm a v u h2]; exact he⟩⟩
      case round l f tmps assign body =>
        refine ⟨h.1, RoundIn.mono h.2 fun e w'' he => ?_⟩
        cases e with
        | returned u => exact ⟨keep a hy u, by rw [← Act.put_comm a v u h2]; exact he⟩
        | panicked c => exact hQ _ _ _ he
        | outgrown => exact he
    | halt x w' =>
      cases x <;> simp only [Oper.uponIn] at h ⊢
      case panic u => exact hQ _ _ _ h
  · rename_i hw
    simp only [hw] at h
    exact ⟨h.1, keep a hy _, by rw [← Act.put_comm a v undef h2]; exact h.2⟩
def wpAnyLW (n0 : Nat) (P : Program) (md : Region.Mode) (ops : Array Oper) (Q : Exit → Act → World → Prop) (S : World → Prop) (ds : List Nat) : Nat → Array Bool → Act → World → Prop
  | 0, listed, a, w => Region.ready md ops listed = [] ∧ Q .normal a w
  | fuel + 1, listed, a, w =>
    (Region.ready md ops listed = [] → Q .normal a w) ∧
    ∀ i ∈ Region.ready md ops listed, wpOpIn Fence.wide n0 P ops Q i (fun a' w' => (i ∉ ds → S w → S w') ∧ wpAnyLW n0 P md ops Q S ds fuel (listed.setIfInBounds i true) a' w') a w
theorem wpAnyIn_of_LW : ∀ (fuel : Nat) (listed : Array Bool) (a : Act) (w : World), wpAnyLW n0 P md ops Q S ds fuel listed a w → wpAnyIn Fence.wide n0 P md ops Q fuel listed a w
  | 0, _, _, _, h => h
  | fuel + 1, _, _, _, h => ⟨h.1, fun i hi => wpOpIn_mono (fun a' w' h' => wpAnyIn_of_LW fuel _ a' w' h'.2) (h.2 i hi)⟩
theorem wpAnyLW_first {i : Nat} {oi : Oper} {v : Value} (hi : ops[i]? = some oi) (hsel : ∀ (j : Nat) (o : Oper) cs b, ops[j]? = some o → o.op ≠ .select cs b)
    (hQ : ∀ c a w, Q (.panic c) (a.put oi.dst v) w → Q (.panic c) a w) (n : Nat) :
    ∀ (fuel : Nat) (listed : Array Bool) (a : Act) (w : World),
      (∀ j oj, ops[j]? = some oj → j ≠ i → listed.getD j true = false → (∀ e ∈ oj.after, Region.binds md e = true → e.on ≠ i) → oi.apart ops oj = true) →
      ListedClosed md ops listed → (∀ d ∈ ds, listed.getD d true = false → Region.reachB md ops i n d = true) →
      i ∈ Region.ready md ops listed → YieldsIf P ops S oi v a → S w →
      wpAnyLW n0 P md ops Q S ds fuel (listed.setIfInBounds i true) (a.put oi.dst v) w → wpAnyLW n0 P md ops Q S ds (fuel + 1) listed a w := by
  intro fuel
  induction fuel with
  | zero =>
    intro listed a w _ _ _ hr hy hS H
    refine ⟨fun h => (by rw [h] at hr; cases hr), fun j hj => ?_⟩
    by_cases hji : j = i
    · subst hji; exact hy.wpOpW hi hS ⟨fun _ h => h, H⟩
    · have := ready_mono hj hji
      rw [H.1] at this
      cases this
  | succ fuel ih =>
    intro listed a w hfree hc hd hr hy hS H
    refine ⟨fun h => (by rw [h] at hr; cases hr), fun j hj => ?_⟩
    by_cases hji : j = i
    · subst hji; exact hy.wpOpW hi hS ⟨fun _ h => h, H⟩
    · have h1 := H.2 j (ready_mono hj hji)
      obtain ⟨hjun, oj, hoj, hall⟩ := mem_ready.1 hj
      have hiun := (mem_ready.1 hr).1
      have hnot : ∀ e ∈ oj.after, Region.binds md e = true → e.on ≠ i := fun e he hb heq => by
        have h1 := hall e he hb
        rw [heq] at h1
        rcases Nat.lt_or_ge i listed.size with h' | h'
        · simp [h'] at hiun h1; rw [hiun] at h1; cases h1
        · simp [Array.getElem?_eq_none h'] at h1
      have hjd : j ∉ ds := fun hm => Region.reach_not_ready hc (hd j hm hjun) hiun hj
      have h2 := wpOpW_putIf hoj (hfree j oj hoj hji hjun hnot) (fun cs b => hsel i oi cs b hi) (fun cs b => hsel j oj cs b hoj) hQ hy h1
      have hfree' : ∀ k ok, ops[k]? = some ok → k ≠ i → (listed.setIfInBounds j true).getD k true = false →
          (∀ e ∈ ok.after, Region.binds md e = true → e.on ≠ i) → oi.apart ops ok = true := fun k ok hk hki hun hno => by
        refine hfree k ok hk hki ?_ hno
        by_cases hjk : j = k
        · subst hjk; exact hjun
        · rw [getD_set_ne true hjk] at hun; exact hun
      have hd' : ∀ d ∈ ds, (listed.setIfInBounds j true).getD d true = false → Region.reachB md ops i n d = true := fun d hm hun => by
        refine hd d hm ?_
        by_cases hjk : j = d
        · subst hjk; exact hjun
        · rw [getD_set_ne true hjk] at hun; exact hun
      refine wpOpIn_mono (fun a' w' h3 => ⟨h3.2.1, ih (listed.setIfInBounds j true) a' w' hfree' (hc.set hj) hd' (ready_mono hr (Ne.symm hji)) h3.1 (h3.2.1 hjd hS) ?_⟩) h2
      rw [Array.setIfInBounds_comm _ _ hji]
      exact h3.2.2
theorem wpAnyLW_any {i : Nat} {oi : Oper} {v : Value} (hi : ops[i]? = some oi) (hsel : ∀ (j : Nat) (o : Oper) cs b, ops[j]? = some o → o.op ≠ .select cs b)
    (hQ : ∀ c a w, Q (.panic c) (a.put oi.dst v) w → Q (.panic c) a w) :
    ∀ (fuel : Nat) (listed : Array Bool) (a : Act) (w : World),
      (∀ j oj, ops[j]? = some oj → j ≠ i → listed.getD j true = false → (∀ e ∈ oj.after, Region.binds md e = true → e.on ≠ i) → oi.apart ops oj = true) →
      i ∈ Region.ready md ops listed → YieldsIf P ops (fun _ => True) oi v a →
      wpAnyLW n0 P md ops Q S ds fuel (listed.setIfInBounds i true) (a.put oi.dst v) w → wpAnyLW n0 P md ops Q S ds (fuel + 1) listed a w := by
  intro fuel
  induction fuel with
  | zero =>
    intro listed a w _ hr hy H
    refine ⟨fun h => (by rw [h] at hr; cases hr), fun j hj => ?_⟩
    by_cases hji : j = i
    · subst hji; exact hy.wpOpW hi trivial ⟨fun _ h => h, H⟩
    · have := ready_mono hj hji
      rw [H.1] at this
      cases this
  | succ fuel ih =>
    intro listed a w hfree hr hy H
    refine ⟨fun h => (by rw [h] at hr; cases hr), fun j hj => ?_⟩
    by_cases hji : j = i
    · subst hji; exact hy.wpOpW hi trivial ⟨fun _ h => h, H⟩
    · have h1 := H.2 j (ready_mono hj hji)
      obtain ⟨hjun, oj, hoj, hall⟩ := mem_ready.1 hj
      have hiun := (mem_ready.1 hr).1
      have hnot : ∀ e ∈ oj.after, Region.binds md e = true → e.on ≠ i := fun e he hb heq => by
        have h1 := hall e he hb
        rw [heq] at h1
        rcases Nat.lt_or_ge i listed.size with h' | h'
        · simp [h'] at hiun h1; rw [hiun] at h1; cases h1
        · simp [Array.getElem?_eq_none h'] at h1
      have h2 := wpOpW_putIf hoj (hfree j oj hoj hji hjun hnot) (fun cs b => hsel i oi cs b hi) (fun cs b => hsel j oj cs b hoj) hQ hy h1
      have hfree' : ∀ k ok, ops[k]? = some ok → k ≠ i → (listed.setIfInBounds j true).getD k true = false →
          (∀ e ∈ ok.after, Region.binds md e = true → e.on ≠ i) → oi.apart ops ok = true := fun k ok hk hki hun hno => by
        refine hfree k ok hk hki ?_ hno
        by_cases hjk : j = k
        · subst hjk; exact hjun
        · rw [getD_set_ne true hjk] at hun; exact hun
      refine wpOpIn_mono (fun a' w' h3 => ⟨h3.2.1, ih (listed.setIfInBounds j true) a' w' hfree' (ready_mono hr (Ne.symm hji)) h3.1 ?_⟩) h2
      rw [Array.setIfInBounds_comm _ _ hji]
      exact h3.2.2

def lexOKW (md : Region.Mode) (ops : Array Oper) (ds : List Nat) : List (Nat × LK) → Array Bool → Bool
  | [], l => Region.ready md ops l == []
  | (i, ⟨0⟩) :: r, l => anyB md ops l (l.setIfInBounds i true) i && lexOKW md ops ds r (l.setIfInBounds i true)
  | (i, ⟨1⟩) :: r, l => takeB md ops ds l (l.setIfInBounds i true) i && lexOKW md ops ds r (l.setIfInBounds i true)
  | (i, ⟨2⟩) :: r, l => readyB md ops l (l.setIfInBounds i true) i && lexOKW md ops ds r (l.setIfInBounds i true)
  | (i, ⟨_ + 3⟩) :: r, l => ds.contains i && (r.all (fun q => q.2.n == 0) && (readyB md ops l (l.setIfInBounds i true) i && lexOKW md ops ds r (l.setIfInBounds i true)))
/-- p, t, o: as in XLex; y: an operation walked at the wide fence (a call of yield), behind which only operations stand that yield in every world. -/
def wpLexW (n0 : Nat) (P : Program) (ops : Array Oper) (Q : Exit → Act → World → Prop) (S : World → Prop) : List (Nat × LK) → Act → World → Prop
  | [], a, w => Q .normal a w
  | (i, ⟨0⟩) :: r, a, w => ∃ oi v, ops[i]? = some oi ∧ YieldsIf P ops (fun _ => True) oi v a ∧ wpLexW n0 P ops Q S r (a.put oi.dst v) w
  | (i, ⟨1⟩) :: r, a, w => ∃ oi v, ops[i]? = some oi ∧ YieldsIf P ops S oi v a ∧ wpLexW n0 P ops Q S r (a.put oi.dst v) w
  | (i, ⟨2⟩) :: r, a, w => ∃ oi, ops[i]? = some oi ∧ wpListIn Fence.wide n0 P ops (putQ Q (fun a' w' => S w' ∧ (S w' → wpLexW n0 P ops Q S r a' w'))) [oi] a w
  | (i, ⟨_ + 3⟩) :: r, a, w => ∃ oi, ops[i]? = some oi ∧ wpListIn Fence.wide n0 P ops (putQ Q (fun a' w' => wpLexW n0 P ops Q S r a' w')) [oi] a w
theorem letsOut_putQ {K : Act → World → Prop} (h : LetsOut (putQ Q K)) : LetsOut Q := h
theorem wpW_of_putQ {K : Act → World → Prop} {oi : Oper} {i : Nat} {a : Act} {w : World} (hi : ops[i]? = some oi) (h : wpListIn Fence.wide n0 P ops (putQ Q K) [oi] a w) : wpOpIn Fence.wide n0 P ops Q i K a w := by
  unfold wpOpIn
  simp only [hi]
  have h1 : if Region.wanted oi (yielded ops a.tmps) then oi.wpIn Fence.wide n0 P a w (fun a w => K a w) (putQ Q K) else (∀ f, oi.about P w a.eval = some f → Fence.wide.fn f) ∧ K (a.put oi.dst undef) w := h
  split
  · rename_i hw
    rw [if_pos hw] at h1
    unfold Oper.wpIn at h1 ⊢
    refine ⟨h1.1, ?_⟩
    have h2 := h1.2
    cases hr : (oi.semAt Fence.wide.round a.eval).run P w with
    | ok x w' =>
      rw [hr] at h2
      cases x <;> simp only [Oper.uponIn] at h2 ⊢
      case value u => exact h2
      case skip => exact h2
      case defer d => exact h2
      case enter f args => exact ⟨h2.1, CallsIn.mono h2.2 fun e w'' he => by cases e <;> exact he⟩
      case row row args => exact h2
      case round l f tmps assign body => exact ⟨h2.1, RoundIn.mono h2.2 fun e w'' he => by cases e <;> exact he⟩
    | halt x w' =>
      rw [hr] at h2
      cases x <;> simp only [Oper.uponIn] at h2 ⊢ <;> exact h2
  · rename_i hw
    rw [if_neg hw] at h1
    exact h1
theorem hQ_put (hQ : ∀ c a (N : Tmp) v w, Q (.panic c) { a with tmps := a.tmps.setIfInBounds N v } w → Q (.panic c) a w) (oi : Oper) (v : Value) : ∀ c a w, Q (.panic c) (a.put oi.dst v) w → Q (.panic c) a w := by
  intro c a w hq
  cases hd : oi.dst with
  | none => rw [hd] at hq; exact hq
  | some N => rw [hd] at hq; exact hQ c a N v w hq
theorem lexW_free (hQ : ∀ c a (N : Tmp) v w, Q (.panic c) { a with tmps := a.tmps.setIfInBounds N v } w → Q (.panic c) a w) :
    ∀ (order : List (Nat × LK)) (l : Array Bool) (a : Act) (w : World), order.all (fun q => q.2.n == 0) = true → lexOKW md ops ds order l = true → wpLexW n0 P ops Q S order a w → wpAnyLW n0 P md ops Q S ds order.length l a w
  | [], l, a, w, _, hc, h => ⟨by simpa [lexOKW] using hc, h⟩
  | (i, ⟨0⟩) :: r, l, a, w, hp, hc, h => by
    obtain ⟨oi, v, hi, hy, h⟩ := h
    simp only [lexOKW, anyB, Bool.and_eq_true, beq_iff_eq] at hc
    simp only [List.all_cons, Bool.and_eq_true] at hp
    obtain ⟨⟨⟨⟨h1, h2⟩, h3⟩, h6⟩, h7⟩ := hc
    exact wpAnyLW_any hi (Region.noSelect_spec h1) (hQ_put hQ oi v) r.length l a w (Region.free_spec hi h2) (by simpa using h3) hy (lexW_free hQ r _ _ _ hp.2 h7 h)
  | (i, ⟨k + 1⟩) :: r, l, a, w, hp, hc, h => by simp at hp
theorem lexW_any (hQ : ∀ c a (N : Tmp) v w, Q (.panic c) { a with tmps := a.tmps.setIfInBounds N v } w → Q (.panic c) a w) :
    ∀ (order : List (Nat × LK)) (l : Array Bool) (a : Act) (w : World), lexOKW md ops ds order l = true → S w → wpLexW n0 P ops Q S order a w → wpAnyLW n0 P md ops Q S ds order.length l a w
  | [], l, a, w, hc, _, h => ⟨by simpa [lexOKW] using hc, h⟩
  | (i, ⟨0⟩) :: r, l, a, w, hc, hS, h => by
    obtain ⟨oi, v, hi, hy, h⟩ := h
    simp only [lexOKW, anyB, Bool.and_eq_true, beq_iff_eq] at hc
    obtain ⟨⟨⟨⟨h1, h2⟩, h3⟩, h6⟩, h7⟩ := hc
    exact wpAnyLW_any hi (Region.noSelect_spec h1) (hQ_put hQ oi v) r.length l a w (Region.free_spec hi h2) (by simpa using h3) hy (lexW_any hQ r _ _ _ h7 hS h)
  | (i, ⟨1⟩) :: r, l, a, w, hc, hS, h => by
    obtain ⟨oi, v, hi, hy, h⟩ := h
    simp only [lexOKW, takeB, Bool.and_eq_true, beq_iff_eq] at hc
    obtain ⟨⟨⟨⟨⟨⟨h1, h2⟩, h3⟩, h4⟩, h5⟩, h6⟩, h7⟩ := hc
    exact wpAnyLW_first hi (Region.noSelect_spec h1) (hQ_put hQ oi v) ops.size r.length l a w (Region.free_spec hi h2) (Region.closedB_spec h4)
      (fun d hm hun => by have := List.all_eq_true.1 h5 d hm; rw [hun] at this; simpa using this) (by simpa using h3) hy hS (lexW_any hQ r _ _ _ h7 hS h)
  | (i, ⟨2⟩) :: r, l, a, w, hc, hS, h => by
    obtain ⟨oi, hi, h⟩ := h
    simp only [lexOKW, Bool.and_eq_true, readyB, beq_iff_eq] at hc
    refine ⟨fun h0 => absurd (hc.1.1.symm.trans h0) (by simp), ?_⟩
    rw [hc.1.1]
    intro j hj
    obtain rfl := List.mem_singleton.1 hj
    exact wpOpIn_mono (fun a' w' h6 => ⟨fun _ _ => h6.1, lexW_any hQ r _ _ _ hc.2 h6.1 (h6.2 h6.1)⟩) (wpW_of_putQ hi h)
  | (i, ⟨_ + 3⟩) :: r, l, a, w, hc, hS, h => by
    obtain ⟨oi, hi, h⟩ := h
    simp only [lexOKW, Bool.and_eq_true, readyB, beq_iff_eq, List.contains_iff_mem] at hc
    obtain ⟨hd, hr, hc, hc2⟩ := hc
    refine ⟨fun h0 => absurd (hc.1.symm.trans h0) (by simp), ?_⟩
    rw [hc.1]
    intro j hj
    obtain rfl := List.mem_singleton.1 hj
    exact wpOpIn_mono (fun a' w' h6 => ⟨fun hn => absurd hd hn, lexW_free hQ r _ _ _ hr hc2 h6⟩) (wpW_of_putQ hi h)
/-- THE REGION, in the order that is chosen. -/
theorem regionW {id : Nat} {a : Act} {w : World} (order : List (Nat × LK)) (S : World → Prop) (hm : P.follows .mixedOrders = true)
    (hc : (order.length == ops.size && lexOKW .any ops (exOf order) order (Array.replicate ops.size false)) = true)
    (hQ : ∀ c a (N : Tmp) v w, Q (.panic c) { a with tmps := a.tmps.setIfInBounds N v } w → Q (.panic c) a w)
    (hS : S w.drew) (h : S w.drew → wpLexW n0 P ops Q S order a w.drew) : (Code.region id ops true).wpIn Fence.wide n0 P Q a w := by
  simp only [Bool.and_eq_true, beq_iff_eq] at hc
  have := lexW_any hQ order _ a w.drew hc.2 hS (h hS)
  rw [hc.1] at this
  exact wpIn_region_any hm (wpAnyIn_of_LW _ _ _ _ this)
theorem regionWN {id : Nat} {a : Act} {w : World} (order : List (Nat × LK)) (S : World → Prop) (hm : P.follows .mixedOrders = true)
    (hc : (order.length == ops.size && lexOKW .any ops (exOf order) order (Array.replicate ops.size false)) = true)
    (hS : S w.drew) (h : S w.drew → wpLexW n0 P ops (only Q) S order a w.drew) : (Code.region id ops true).wpIn Fence.wide n0 P Q a w := by
  refine wpIn_mono (regionW (Q := only Q) order S hm hc (fun _ _ _ _ _ h => h) hS h) ?_
  intro e a w h
  cases e <;> first | exact h | exact h.elim
end
section
variable {n0 : Nat} {P : Program} {ops : Array Oper} {Q : Exit → Act → World → Prop} {S : World → Prop} {a : Act} {w : World} {i : Nat} {oi : Oper} {v : Value} {r : List (Nat × LK)}
theorem lw_nil (h : Q .normal a w) : wpLexW n0 P ops Q S [] a w := h
theorem lw_nilN (h : Q .normal a w) : wpLexW n0 P ops (only Q) S [] a w := h
theorem lw_p {a' : Act} {N : Option Tmp} {rs : List Oper} (hi : ops.toList.drop i = oi :: rs) (hN : oi.dst = N) (hw : Region.wanted oi (yielded ops a.tmps) = true) (hv : ∀ w', (execOp a.eval oi).run P w' = .ok (.value v) w') (ha : a.put N v = a')
    (h : wpLexW n0 P ops Q S r a' w) : wpLexW n0 P ops Q S ((i, .p) :: r) a w := by
  subst ha hN
  exact ⟨oi, v, at_drop hi, .inl ⟨hw, fun w' _ => hv w'⟩, h⟩
theorem lw_off {a' : Act} {N : Option Tmp} {rs : List Oper} (hi : ops.toList.drop i = oi :: rs) (hN : oi.dst = N) (hw : Region.wanted oi (yielded ops a.tmps) = false) (ha : a.put N undef = a')
    (h : wpLexW n0 P ops Q S r a' w) : wpLexW n0 P ops Q S ((i, .p) :: r) a w := by
  subst ha hN
  exact ⟨oi, undef, at_drop hi, .inr ⟨hw, rfl⟩, h⟩
theorem lw_t {a' : Act} {N : Option Tmp} {rs : List Oper} (hi : ops.toList.drop i = oi :: rs) (hN : oi.dst = N) (hw : Region.wanted oi (yielded ops a.tmps) = true) (hv : ∀ w', S w' → (execOp a.eval oi).run P w' = .ok (.value v) w') (ha : a.put N v = a')
    (h : wpLexW n0 P ops Q S r a' w) : wpLexW n0 P ops Q S ((i, .t) :: r) a w := by
  subst ha hN
  exact ⟨oi, v, at_drop hi, .inl ⟨hw, hv⟩, h⟩
theorem lw_o {rs : List Oper} (hi : ops.toList.drop i = oi :: rs) (h : wpListIn Fence.wide n0 P ops (putQ Q (fun a' w' => S w' ∧ (S w' → wpLexW n0 P ops Q S r a' w'))) [oi] a w) :
    wpLexW n0 P ops Q S ((i, .o) :: r) a w := ⟨oi, at_drop hi, h⟩
theorem lw_q {rs : List Oper} (hi : ops.toList.drop i = oi :: rs) (h : wpListIn Fence.wide n0 P ops (putQ Q (fun a' w' => wpLexW n0 P ops Q S r a' w')) [oi] a w) :
    wpLexW n0 P ops Q S ((i, .q) :: r) a w := ⟨oi, at_drop hi, h⟩
theorem lw_end {a' : Act} (ha : a = a') (hS : S w) (h : S w → wpLexW n0 P ops Q S r a' w) : wpListIn Fence.wide n0 P ops (putQ Q (fun a' w' => S w' ∧ (S w' → wpLexW n0 P ops Q S r a' w'))) [] a w := by
  subst ha
  exact ⟨hS, h⟩
theorem lw_endq {a' : Act} (ha : a = a') (h : wpLexW n0 P ops Q S r a' w) : wpListIn Fence.wide n0 P ops (putQ Q (fun a' w' => wpLexW n0 P ops Q S r a' w')) [] a w := by
  subst ha
  exact h
end
section
variable {F : Fence} {n : Nat} {P : Program} {ops : Array Oper} {rest : List Oper} {a : Act} {Q : Exit → Act → World → Prop} {w : World}
theorem in_load {o : Oper} (hg : o.guard = none) (T : TypeId) (x : Operand) (ho : o.op = .load T x) (ad : Addr) (v : Value) (hrun : (loadVar T ad).run P w = .ok v w) (hx : a.eval x = .pointer (some ad)) (h : wpListIn F n P ops Q rest (a.put o.dst v) w) : wpListIn F n P ops Q (o :: rest) a w := by
  refine wpListIn_plain hg fun K hK' => ?_
  unfold Oper.wpIn
  refine ⟨?_, ?_⟩
  · simp [Oper.about, ho]
  · rw [Oper.semAt_plain F _ _ (by rw [ho]; intro c hc'; cases hc')]
    simp [execOp, ho, hx, Instr.loadAt, Instr.sureAddr, hrun, Result.andThen]
    exact hK' _ _ h
theorem in_store {o : Oper} (hg : o.guard = none) (T : TypeId) (x y : Operand) (ho : o.op = .store T x y) (ad : Addr) (v : Value) {w' : World} (hrun : (storeVar T ad v).run P w = .ok () w') (hx : a.eval x = .pointer (some ad)) (hy : a.eval y = v) (h : wpListIn F n P ops Q rest (a.put o.dst undef) w') : wpListIn F n P ops Q (o :: rest) a w := by
  refine wpListIn_plain hg fun K hK' => ?_
  unfold Oper.wpIn
  refine ⟨?_, ?_⟩
  · simp [Oper.about, ho]
  · rw [Oper.semAt_plain F _ _ (by rw [ho]; intro c hc'; cases hc')]
    simp [execOp, ho, hx, hy, Instr.storeAt, Instr.sureAddr, hrun, Result.andThen]
    exact hK' _ _ h
end
end Go.Proofs.Yticilaoibjbgfaa.LexW
