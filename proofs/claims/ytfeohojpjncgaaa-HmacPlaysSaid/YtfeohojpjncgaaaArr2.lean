/- Arrays in blocks of their own, loaded and stored whole. -/
import Derived.Test.YtfeohojpjncgaaaArr
import Derived.Deep.WholeRow
import Derived.Deep.MidRow
import Derived.Laws.StructEq
set_option linter.unusedSimpArgs false
set_option linter.unusedVariables false
namespace Go.Proofs.Ytfeohojpjncgaaa.Lib
open Go.RowKit Go.Proofs.YtfeohojpjncgaaaW.PrintWords Go.Proofs.YtfeohojpjncgaaaW.PrintLast Go.Proofs.YtfeohojpjncgaaaW.PrintMore Go.Proofs.Ytfeohojpjncgaaa.Lex
section
variable {P : Program} {ops : Array Oper} {rest : List Oper} {a : Act} {Q : Exit → Act → World → Prop} {w : World}
theorem pl_load {o : Oper} (hg : o.guard = none) (T : TypeId) (x : Operand) (ho : o.op = .load T x) (ad : Addr) (v : Value) (hrun : (loadVar T ad).run P w = .ok v w) (hx : a.eval x = .pointer (some ad)) (h : wpList P ops Q rest (a.put o.dst v) w) : wpList P ops Q (o :: rest) a w :=
  wpList_plain hg fun K hK => by
    unfold Oper.wp execOp
    simp only [ho, hx, Instr.loadAt, Instr.sureAddr, Sem.run_bind, Sem.run_pure, Result.andThen_ok, hrun]
    exact hK _ _ h
theorem pl_store {o : Oper} (hg : o.guard = none) (T : TypeId) (x y : Operand) (ho : o.op = .store T x y) (ad : Addr) (v : Value) {w' : World} (hrun : (storeVar T ad v).run P w = .ok () w') (hx : a.eval x = .pointer (some ad)) (hy : a.eval y = v) (h : wpList P ops Q rest (a.put o.dst undef) w') : wpList P ops Q (o :: rest) a w :=
  wpList_plain hg fun K hK => by
    unfold Oper.wp execOp
    simp only [ho, hx, hy, Instr.storeAt, Instr.sureAddr, Sem.run_bind, Sem.run_pure, Result.andThen_ok, hrun]
    exact hK _ _ h
end
theorem setCells_block {g : Nat} {t : TypeId} : ∀ (vs : List Value) (o : Nat) (w : World) (cs : Array Value), w.heap[g]? = some (.cells cs t (0, 0)) → o + vs.length ≤ cs.size →
    ∃ cs', (w.setCells g o vs).heap[g]? = some (.cells cs' t (0, 0)) ∧ cs'.size = cs.size ∧ ∀ j, cs'[j]? = if o ≤ j ∧ j < o + vs.length then vs[j - o]? else cs[j]?
  | [], o, w, cs, hg, _ => ⟨cs, hg, rfl, fun j => by rw [if_neg (by simp only [List.length_nil]; omega)]⟩
  | v :: r, o, w, cs, hg, hl => by
    simp only [List.length_cons] at hl
    have h1 := heap_setCell_same w g o cs t v hg
    obtain ⟨cs', h2, h3, h4⟩ := setCells_block r (o + 1) (w.setCell ⟨g, o, none⟩ v) _ h1 (by simp; omega)
    refine ⟨cs', h2, by rw [h3]; simp, fun j => ?_⟩
    rw [h4 j]
    by_cases hj : j = o
    · subst hj
      rw [if_neg (by omega), if_pos (by simp), Array.getElem?_setIfInBounds_self_of_lt (by omega)]
      simp
    · by_cases hj2 : o + 1 ≤ j ∧ j < o + 1 + r.length
      · rw [if_pos hj2, if_pos (by simp; omega), show j - o = (j - (o + 1)) + 1 by omega]
        simp
      · rw [if_neg hj2, if_neg (by simp; omega), Array.getElem?_setIfInBounds_ne (by omega)]
theorem but_setCells (g : Nat) : ∀ (vs : List Value) (o : Nat) (w : World), But w.heap.size (fun k => k = g) w (w.setCells g o vs)
  | [], _, w => But.refl _ _ w
  | v :: r, o, w => by
    have h := but_setCells g r (o + 1) (w.setCell ⟨g, o, none⟩ v)
    have h2 := But.setCell (But.refl w.heap.size (fun k => k = g) w) (p := ⟨g, o, none⟩) (.inr rfl) v
    exact h2.trans (h.mono h2.size (fun _ _ e => e))
/-- A store of a whole array into a block of its own. -/
theorem arr_store {k : IntKind} {g t : Nat} {w : World} {xs : List Int} (h : Arr k g t w xs) (T : TypeId) (ys : List Int) (hl : ys.length = xs.length) (hi : (Try.prog.info? T).map (·.size) = some ys.length) :
    ∃ W', (storeVar T ⟨g, 0, none⟩ (.agg (ys.map (Value.int k)).toArray)).run Try.prog w = .ok () W' ∧ Arr k g t W' ys ∧ But w.heap.size (fun j => j = g) w W' := by
  refine ⟨w.setCells g 0 (ys.map (Value.int k)).toArray.toList, run_storeVar_mid w g 0 T _ (fun j hj => ?_) (by simpa using hi) (by simp [Value.oneCell']), ?_, but_setCells g _ 0 w⟩
  · have hj2 : j < xs.length := by simp at hj; omega
    have hc := h.cell j hj2
    rw [Nat.zero_add]
    exact ⟨by rw [hc.1]; rfl, hc.2⟩
  · obtain ⟨cs', h1, h2, h3⟩ := setCells_block (ys.map (Value.int k)).toArray.toList 0 w _ h (by simp; omega)
    unfold Arr
    rw [h1]
    have e : cs' = (ys.map (Value.int k)).toArray := by
      apply Array.ext_getElem?
      intro j
      rw [h3 j]
      by_cases hj : j < ys.length
      · rw [if_pos (by simp; omega)]
        simp
      · rw [if_neg (by simp; omega)]
        rw [Array.getElem?_eq_none (by simp; omega), Array.getElem?_eq_none (by simp; omega)]
    rw [e]
theorem arr_load {k : IntKind} {g t : Nat} {w : World} {xs : List Int} (h : Arr k g t w xs) (T : TypeId) {n : Nat} {E : TypeId} (hu : Try.prog.underlying T = some (.array n E)) (hi : (Try.prog.info? T).map (·.size) = some xs.length) :
    (loadVar T ⟨g, 0, none⟩).run Try.prog w = .ok (.agg (xs.map (Value.int k)).toArray) w :=
  run_loadVar_row _ _ t T _ (0, 0) (.array n E) h hu rfl (by simpa using hi)
theorem all_range_eqI : ∀ (xs ys : List Int), xs.length = ys.length → ((List.range xs.length).all fun i => xs.getD i 0 == ys.getD i 0) = (xs == ys)
  | [], [], _ => rfl
  | x :: xs, y :: ys, h => by
    have ih := all_range_eqI xs ys (by simpa using h)
    rw [List.length_cons, List.range_succ_eq_map, List.all_cons, List.all_map]
    simp only [List.getD_cons_zero, Function.comp_def, List.getD_cons_succ, ih]
    simp [List.cons_beq_cons]
  | [], _ :: _, h => by simp at h
  | _ :: _, [], h => by simp at h
section
variable {P : Program}
/-- '==' of two arrays of whole numbers. -/
theorem equalIn_arr (w : World) (d : Nat) (t e : TypeId) (n : Nat) (k : IntKind) (ht : P.underlying t = some (.array n e)) (he : P.underlying e = some (.int k)) (hsz : ∀ w, (sizeOf e).run P w = .ok 1 w)
    (xs ys : List Int) (hx : xs.length = n) (hy : ys.length = n) :
    (Op.equalIn (d + 2) t (.agg (xs.map (Value.int k)).toArray) (.agg (ys.map (Value.int k)).toArray)).run P w = .ok (xs == ys) w := by
  rw [← all_range_eqI xs ys (hx.trans hy.symm), hx, List.range_eq_range', Op.equalIn]
  simp only [Sem.run_bind, run_underlying ht, Result.andThen_ok, hsz, Std.Legacy.Range.forIn_eq_forIn_range', Std.Legacy.Range.size, Nat.sub_zero, Nat.add_sub_cancel, Nat.div_one]
  have hl : ∀ i ∈ List.range' 0 n 1, i < n := fun i hi => by simpa using (List.mem_range'_1.1 hi).2
  generalize List.range' 0 n 1 = l at hl ⊢
  induction l with
  | nil => simp
  | cons i l ih =>
    have hi : i < n := hl i (by simp)
    have px : (part e (xs.map (Value.int k)).toArray (i * 1)).run P w = .ok (Value.int k (xs.getD i 0)) w := by
      simp [part, isAgg, run_underlying he, List.getD, List.getElem?_eq_getElem (show i < xs.length by omega)]
    have py : (part e (ys.map (Value.int k)).toArray (i * 1)).run P w = .ok (Value.int k (ys.getD i 0)) w := by
      simp [part, isAgg, run_underlying he, List.getD, List.getElem?_eq_getElem (show i < ys.length by omega)]
    have pe : (Op.equalIn (d + 1) e (Value.int k (xs.getD i 0)) (Value.int k (ys.getD i 0))).run P w = .ok (xs.getD i 0 == ys.getD i 0) w := run_equalIn_int w d e k k _ _ he
    simp only [List.forIn_cons, Sem.run_bind, px, py, pe, Result.andThen_ok, List.all_cons]
    cases hb : (xs.getD i 0 == ys.getD i 0)
    · simp
    · simp only [Bool.not_true, Bool.false_eq_true, if_false, Sem.run_pure, Result.andThen_ok, Bool.true_and]
      exact ih fun j hj => hl j (by simp [hj])
theorem run_eql_arr (w : World) (t e : TypeId) (n : Nat) (k : IntKind) (ht : P.underlying t = some (.array n e)) (he : P.underlying e = some (.int k)) (hsz : ∀ w, (sizeOf e).run P w = .ok 1 w)
    (xs ys : List Int) (hx : xs.length = n) (hy : ys.length = n) :
    (binOp .eql t (.agg (xs.map (Value.int k)).toArray) (.agg (ys.map (Value.int k)).toArray)).run P w = .ok (.bool (xs == ys)) w := by
  rw [run_eql_struct, equalIn_arr w 9998 t e n k ht he hsz xs ys hx hy]
  rfl
end
end Go.Proofs.Ytfeohojpjncgaaa.Lib
