/- What is said of cells abides the turn of a block that is no cells (the book-keeping of a range over a function). -/
import Derived.Test.YticilaoibjbgfaaObj
import Derived.Test.YticilaoibjbgfaaRange
set_option linter.unusedVariables false
namespace Go.Proofs.Yticilaoibjbgfaa.Lib
open Go.RowKit Go.Proofs.YticilaoibjbgfaaW.PrintWords Go.Proofs.YticilaoibjbgfaaW.PrintLast Go.Proofs.YticilaoibjbgfaaW.PrintMore Go.Proofs.Yticilaoibjbgfaa.Lex

theorem block_of_cell {w : World} {a : Addr} {v : Value} (h : w.cell? a = some v) : ∃ o, w.heap[a.block]? = some o ∧ o.isCells = true := by
  unfold World.cell? at h
  split at h
  · rename_i c e f hb
    exact ⟨_, hb, rfl⟩
  · cases h
theorem turn_block {w : World} {l : Nat} {o : Obj} (hl : w.heap[l]? = some o) (ho : o.isCells = false) (o' : Obj) {k : Nat} {q : Obj} (hk : w.heap[k]? = some q) (hq : q.isCells = true) : (w.putObj l o').heap[k]? = w.heap[k]? := by
  refine World.putObj_heap_other (fun e => ?_)
  subst e
  rw [hl] at hk
  injection hk with hk
  subst hk
  rw [ho] at hq
  cases hq
theorem Ob.turn {p : Nat} {w : World} {c : Value} {cs : List Value} (h : Ob p w (c :: cs)) {l : Nat} {o : Obj} (hl : w.heap[l]? = some o) (ho : o.isCells = false) (o' : Obj) : Ob p (w.putObj l o') (c :: cs) := by
  obtain ⟨q, h1, h2⟩ := block_of_cell (h 0 c rfl).1
  exact h.same (turn_block hl ho o' h1 h2)
theorem OB.turn {b : Nat} {w : World} {v : Value} {xs : List Int} (h : OB b w v xs) {l : Nat} {o : Obj} (hl : w.heap[l]? = some o) (ho : o.isCells = false) (o' : Obj) : OB b (w.putObj l o') v xs :=
  h.step (fun k hk => by
    obtain ⟨cells, hc⟩ := own_typed (Kd.own_of_R h) k hk
    exact turn_block hl ho o' hc rfl)
theorem Below.turn {n : Nat} {a w : World} (h : Below n a w) {l : Nat} (hl : n ≤ l) (o' : Obj) : Below n a (w.putObj l o') :=
  h.trans ⟨rfl, rfl, rfl, by simp, fun k hk => World.putObj_heap_other (by omega)⟩
theorem But.turn {n : Nat} {S : Nat → Prop} {a w : World} (h : But n S a w) {l : Nat} (hl : n ≤ l) (o' : Obj) : But n S a (w.putObj l o') :=
  h.trans ⟨rfl, rfl, rfl, by simp, fun k hk _ => World.putObj_heap_other (by omega)⟩
end Go.Proofs.Yticilaoibjbgfaa.Lib
