/- The words of bytes: the iterator's contract. -/
import Derived.Test.YticilaoibjbgfaaTurns
import Derived.WalkMore
import Derived.Laws.EntriesVeiled
set_option linter.unusedSimpArgs false
set_option linter.unusedVariables false
namespace Go.Proofs.Yticilaoibjbgfaa.Lib
open Go.RowKit Go.Proofs.YticilaoibjbgfaaW.PrintWords Go.Proofs.YticilaoibjbgfaaW.PrintLast Go.Proofs.YticilaoibjbgfaaW.PrintMore Go.Proofs.Yticilaoibjbgfaa.Lex
attribute [local go_sem] Oper.semAt_some

/-- Blocks of cells, but for some, hold what they held. -/
structure Kept (S : Nat → Prop) (A B : World) : Prop where
  size : A.heap.size ≤ B.heap.size
  same : ∀ k o, A.heap[k]? = some o → o.isCells = true → ¬ S k → B.heap[k]? = some o
theorem Kept.refl (S : Nat → Prop) (A : World) : Kept S A A := ⟨Nat.le_refl _, fun _ _ h _ _ => h⟩
theorem Kept.trans {S : Nat → Prop} {A B C : World} (h : Kept S A B) (k : Kept S B C) : Kept S A C := ⟨Nat.le_trans h.size k.size, fun i o hi ho hs => k.same i o (h.same i o hi ho hs) ho hs⟩
theorem Kept.mono {S S' : Nat → Prop} {A B : World} (h : Kept S A B) (hs : ∀ k, S k → S' k) : Kept S' A B := ⟨h.size, fun k o hk ho hn => h.same k o hk ho (fun q => hn (hs k q))⟩
theorem Kept.turn {S : Nat → Prop} {W : World} {l : Nat} {o : Obj} (hl : W.heap[l]? = some o) (ho : o.isCells = false) (o' : Obj) : Kept S W (W.putObj l o') :=
  ⟨by simp, fun k q hk hq _ => (turn_block hl ho o' hk hq).trans hk⟩
theorem Kept.but {n : Nat} {S : Nat → Prop} {A B : World} (h : But n S A B) (hn : A.heap.size ≤ n) : Kept S A B :=
  ⟨h.size, fun k o hk _ hs => (h.block k (by have := (Array.getElem?_eq_some_iff.1 hk).1; omega) hs).trans hk⟩
theorem Kept.cell {S : Nat → Prop} {A B : World} (h : Kept S A B) {a : Addr} {v : Value} (hc : A.cell? a = some v) (hs : ¬ S a.block) : B.cell? a = some v := by
  obtain ⟨o, h1, h2⟩ := block_of_cell hc
  rw [World.cell?_of_block (w := A) ((h.same _ o h1 h2 hs).trans h1.symm)]
  exact hc
theorem Kept.ob {S : Nat → Prop} {A B : World} (h : Kept S A B) {p : Nat} {c : Value} {cs : List Value} (hc : Ob p A (c :: cs)) (hs : ¬ S p) : Ob p B (c :: cs) := by
  obtain ⟨o, h1, h2⟩ := block_of_cell (hc 0 c rfl).1
  exact hc.same ((h.same _ o h1 h2 hs).trans h1.symm)

theorem C_kept {S : Nat → Prop} {A B : World} (h : Kept S A B) {a : Option Addr} {n : Nat} {xs : List Int} (hC : Kd.C KB A a n xs) (hs : ∀ p, a = some p → ¬ S p.block) : Kd.C KB B a n xs := by
  rcases Nat.eq_zero_or_pos n with h0 | h0
  · subst h0
    exact ⟨hC.1, hC.2.1, fun h => absurd h (Nat.lt_irrefl 0)⟩
  · refine C_same hC (fun p hp => ?_)
    obtain ⟨b, o, e, hc⟩ := C_byte hC 0 h0
    rw [hp] at e
    injection e with e
    subst e
    obtain ⟨q, h1, h2⟩ := block_of_cell hc
    exact (h.same _ q h1 h2 (hs _ hp)).trans h1.symm
theorem Kept.sl {S T : Nat → Prop} {A B : World} (h : Kept S A B) {v : Value} {xs : List Int} (hv : Sl T A v xs) (hs : ∀ k, T k → ¬ S k) : Sl T B v xs := by
  obtain ⟨a, c, e, h1, h2, h3⟩ := hv
  exact ⟨a, c, e, h1, C_kept h h2 (fun p hp => hs _ (h3 p hp)), h3⟩
end Go.Proofs.Yticilaoibjbgfaa.Lib
