/- A range over a function whose iterator has variables of its own: the iterator's contract SeqB (what it may turn between two rounds: Ka; what a round keeps: Kp), and the caller's law rangeB. -/
import Derived.RangeFuncNested
import Derived.RangeFuncBound
import Derived.RangeFuncCalls
import Derived.RangeFuncLeaves
import Derived.RangeFuncFrom
import Derived.Shelf.Abstract
import Derived.Shelf.RegionOpen
import Derived.WalkKit
import Derived.OwnWalkIn
import Derived.TacticsInMore
import Derived.LoopNIn
import Derived.LoopIn
import Derived.Test.YticilaoibjbgfaaWMore
set_option linter.unusedVariables false
namespace Go.Proofs.Yticilaoibjbgfaa.Lib
open Go.RowKit

variable {F : Fence} {n : Nat} {P : Program}

/-- The contract of an iterator (function g, captured values lb): whatever the caller holds (J) that abides the iterator's own steps (Ka), it holds again behind each round and at the end: all has come (Sf), or a round has said 'no more' (Sp). -/
def SeqB {α : Type} (F : Fence) (n : Nat) (P : Program) (g : Nat) (lb : Array Value) (encs : α → Array Value) (Kp : World → World → Prop) (Ka : Nat → World → World → Prop) (Sf Sp : List α → World → Prop) (m N : Nat) (w : World) : Prop :=
  ∀ (l : Nat) (J Jx : List α → World → Prop) (W : World), Below w.heap.size w W → (∀ xs A B, J xs A → Ka W.heap.size A B → J xs B) → (∀ xs A B, Jx xs A → Ka W.heap.size A B → Jx xs B) →
    (∀ pre x W1, J pre W1 → pre.length < N → W.heap.size + m ≤ W1.heap.size → YieldAt F (n - 1) P l (encs x) W1 fun e W' =>
      (e = .returned (.bool true) ∧ J (pre ++ [x]) W' ∧ Kp W1 W') ∨ (e = .returned (.bool false) ∧ Jx (pre ++ [x]) W')) →
    J [] W →
    CallsIn F n P g (#[.func (.yield l) #[] #[]] ++ lb) W fun e W' => (∃ v, e = .returned v) ∧ ((∃ xs, Sf xs W' ∧ J xs W') ∨ (∃ pre, Sp pre W' ∧ Jx pre W'))

/-- The turn of a block that is no cells, from B on. -/
def Turns {β : Type} (B : Nat) (I : β → World → Prop) : Prop := ∀ s W l o o', I s W → B ≤ l → W.heap[l]? = some o → o.isCells = false → I s (W.putObj l o')

theorem rangeB {α : Type} {g : Operand} {ps : Array Tmp} {assign body : Code} {Q : Exit → Act → World → Prop} {a : Act} {w : World}
    (hro : F.round = none) (h1 : 1 ≤ n) {gf : Nat} {lb : Array Value} (hg : a.eval g = .func (.func gf) #[] lb) (hFg : F.fn gf) (eg : ∀ args w, (callFunc gf args).run P w = .ok (.enter gf args) w)
    {encs : α → Array Value} {Kp : World → World → Prop} {Ka : Nat → World → World → Prop} {Sf Sp : List α → World → Prop} {m N : Nat} (hseq : SeqB F (n - 1) P gf lb encs Kp Ka Sf Sp m N w)
    (hKa : ∀ h A B, Ka h A B → ∀ k o, k < h → A.heap[k]? = some o → o.isCells = false → B.heap[k]? = some o)
    (hKt : ∀ {A B C : World}, Kp A B → Kp B C → Kp A C) (hKb : ∀ (W : World) (l : Nat) (o o' : Obj), w.heap.size ≤ l → W.heap[l]? = some o → o.isCells = false → Kp W (W.putObj l o')) (hps : ∀ x, (encs x).size = ps.size)
    (I : List α → World → Prop) (Ix : Code → List α → World → Prop)
    (hI : ∀ xs A B, I xs A → Ka (w.heap.size + 2) A B → I xs B) (hIx : ∀ c xs A B, Ix c xs A → Ka (w.heap.size + 2) A B → Ix c xs B)
    (tI : Turns w.heap.size I) (tIx : ∀ c, Turns w.heap.size (Ix c)) (tSf : Turns w.heap.size Sf) (tSp : Turns w.heap.size Sp)
    (h0 : ∀ W, Below w.heap.size w W → W.heap.size = w.heap.size + 2 → I [] W) (a₁ : α → Act)
    (hassign : ∀ (l : Nat) (x : α) (W : World) (K : Act → World → Prop), K (a₁ x) W →
      assign.wpIn (F.inRound l) (n - 1 - 1) P (Exit.then K (fun _ _ _ => False)) { tmps := (ps.zip (encs x)).foldl (fun t (p, v) => t.setIfInBounds p v) a.tmps, defers := [] } W)
    (hbody : ∀ (l : Nat) (pre : List α) (x : α) (W : World), I pre W → pre.length < N → w.heap.size + 2 + m ≤ W.heap.size → body.wpIn (F.inRound l) (n - 1 - 1) P (ownPostK Kp I Ix (pre ++ [x]) W) (a₁ x) W)
    (hdone : ∀ (D : Nat) (xs : List α) (W : World), D = w.heap.size → Sf xs W → I xs W → W.heap[D]? = some (.deferred (some [])) → Q .normal { a with defers := { target := .collected D, args := #[] } :: a.defers } W)
    (hstop : ∀ (D : Nat) (c : Code) (pre : List α) (W : World), D = w.heap.size → Sp pre W → Ix c pre W → W.heap[D]? = some (.deferred (some [])) → c.wpIn F n P Q { a with defers := { target := .collected D, args := #[] } :: a.defers } W) :
    (Code.rangeFunc g ps assign body).wpIn F n P Q a w := by
  refine wpIn_rangeFunc fun fn hfn => ?_
  rw [hro]
  -- the loop's record, in its three states; two blocks of book-keeping: D0 (deferred calls), L0 (the record)
  let lp : LoopState → Option Code → Obj := fun st pe => .loop { state := st, pending := pe, fn := fn, tmps := a.tmps, params := ps, assign := assign, body := body, defers := w.heap.size }
  obtain ⟨D0, hD0⟩ : ∃ k, k = w.heap.size := ⟨_, rfl⟩
  obtain ⟨V, hV⟩ : ∃ V, V = (w.alloc (.deferred (some []))).alloc (lp .ready none) := ⟨_, rfl⟩
  have sV : V.heap.size = D0 + 2 := by rw [hV, hD0]; simp
  have bV : Below w.heap.size w V := by rw [hV]; exact ((Below.refl _ w).alloc (Nat.le_refl _) _).alloc (by simp) _
  have rV : V.heap[D0 + 1]? = some (lp .ready none) := by
    rw [hV, hD0]
    have := World.alloc_heap_new (w.alloc (.deferred (some []))) (lp .ready none)
    rwa [World.size_alloc] at this
  have dV : V.heap[D0]? = some (.deferred (some [])) := by
    rw [hV, hD0]
    exact (Below.heap_alloc _ _ _ (by simp)).trans (World.alloc_heap_new w _)
  have turn : ∀ {β : Type} {J : β → World → Prop}, Turns w.heap.size J → ∀ {s : β} {W : World} {st : LoopState} {pe : Option Code} (o' : Obj), J s W → W.heap[D0 + 1]? = some (lp st pe) → J s (W.putObj (D0 + 1) o') :=
    fun {β J} hJ {s W st pe} o' hs hr => hJ s W (D0 + 1) _ o' hs (by omega) hr rfl
  refine ⟨D0 + 1, [{ target := .collected D0, args := #[] }], V, { target := .fn (.func gf) lb, args := #[.func (.yield (D0 + 1)) #[] #[]] }, V, gf, #[.func (.yield (D0 + 1)) #[] #[]] ++ lb, V, ?_, ?_, ?_, ?_, fun _ => h1, ?_⟩
  · rw [hV, hD0]
    exact run_enterLoop_outer _ _ _ _ _
  · simp only [resolve, hg]
    simp [go_sem]
  · intro f' hf'
    simp [Target.leads] at hf'
    subst hf'
    exact hFg
  · simp [invoke, go_sem, eg]
  -- the iterator's contract at the caller's invariant beside the two blocks
  have hend : ∀ (st : LoopState) (pe : Option Code) (W : World), W.heap[D0 + 1]? = some (lp st pe) → st ≠ .busy → ∃ W2, (Instr.endLoop (D0 + 1)).run P W = .ok pe W2 ∧ W2 = W.putObj (D0 + 1) (lp .exhausted pe) :=
    fun st pe W hr hne => ⟨_, run_endLoop hr hne, rfl⟩
  refine (hseq (D0 + 1) (fun xs W => I xs W ∧ W.heap[D0 + 1]? = some (lp .ready none) ∧ W.heap[D0]? = some (.deferred (some [])))
    (fun xs W => ∃ c, Ix c xs W ∧ W.heap[D0 + 1]? = some (lp .done (some c)) ∧ W.heap[D0]? = some (.deferred (some []))) V bV ?_ ?_ ?_ ⟨h0 V bV (by rw [sV, hD0]), rV, dV⟩).mono ?_
  · rintro xs A B ⟨h, hr, hd⟩ hk
    rw [sV] at hk
    exact ⟨hI xs A B h (by rw [← hD0]; exact hk), hKa _ A B hk _ _ (by omega) hr rfl, hKa _ A B hk _ _ (by omega) hd rfl⟩
  · rintro xs A B ⟨c, h, hr, hd⟩ hk
    rw [sV] at hk
    exact ⟨c, hIx c xs A B h (by rw [← hD0]; exact hk), hKa _ A B hk _ _ (by omega) hr rfl, hKa _ A B hk _ _ (by omega) hd rfl⟩
  · rintro pre x W ⟨hi, hr, hd⟩ hlen hsz
    rw [sV] at hsz
    have hlt : D0 + 1 < W.heap.size := (Array.getElem?_eq_some_iff.1 hr).1
    refine ⟨fn, _, assign, body, run_yield (args := encs x) hr (hps x), roundIn_of_wpIn hfn (hassign (D0 + 1) x W _ ⟨_, run_beginRound hr rfl, ?_⟩)⟩
    obtain ⟨W1, hW1⟩ : ∃ W1, W1 = W.putObj (D0 + 1) (lp .busy none) := ⟨_, rfl⟩
    have r1 : W1.heap[D0 + 1]? = some (lp .busy none) := by rw [hW1]; exact World.putObj_heap_same hlt
    have d1 : W1.heap[D0]? = some (.deferred (some [])) := by rw [hW1]; exact (World.putObj_heap_other (by omega)).trans hd
    have k1 : Kp W W1 := by rw [hW1]; exact hKb W (D0 + 1) _ _ (by omega) hr rfl
    have i1 : I pre W1 := by rw [hW1]; exact turn tI _ hi hr
    have z1 : W1.heap.size = W.heap.size := by rw [hW1]; exact World.putObj_size
    show body.wpIn _ _ _ _ _ (W.putObj (D0 + 1) (lp .busy none))
    rw [← hW1]
    refine wpIn_mono (hbody (D0 + 1) pre x W1 i1 hlen (by rw [z1]; omega)) ?_
    have leave : ∀ (c : Code) (W3 : World), KeepsOthers W1 W3 → Ix c (pre ++ [x]) W3 → ∃ v W4, (Instr.endRound (D0 + 1) (some c)).run P W3 = .ok v W4 ∧ v = .bool false ∧ ∃ c, Ix c (pre ++ [x]) W4 ∧ W4.heap[D0 + 1]? = some (lp .done (some c)) ∧ W4.heap[D0]? = some (.deferred (some [])) := fun c W3 hk h => by
      have r3 := hk.same _ _ r1 rfl
      have d3 := hk.same _ _ d1 rfl
      exact ⟨_, _, run_endRound (some c) r3, rfl, c, turn (tIx c) _ h r3, World.putObj_heap_same (Array.getElem?_eq_some_iff.1 r3).1, (World.putObj_heap_other (by omega)).trans d3⟩
    rintro e a3 W3 hp
    cases e with
    | normal =>
      obtain ⟨hk, hkp, h⟩ := hp
      have r3 := hk.same _ _ r1 rfl
      have d3 := hk.same _ _ d1 rfl
      exact ⟨_, _, run_endRound none r3, .inl ⟨rfl, ⟨turn tI _ h r3, World.putObj_heap_same (Array.getElem?_eq_some_iff.1 r3).1, (World.putObj_heap_other (by omega)).trans d3⟩, hKt (hKt k1 hkp) (hKb W3 (D0 + 1) _ _ (by omega) r3 rfl)⟩⟩
    | ret =>
      obtain ⟨v, W4, e1, e2, h⟩ := leave .ret W3 hp.1 hp.2
      exact ⟨_, _, e1, .inr ⟨by rw [e2], h⟩⟩
    | exit id =>
      obtain ⟨v, W4, e1, e2, h⟩ := leave (.exit id) W3 hp.1 hp.2
      exact ⟨_, _, e1, .inr ⟨by rw [e2], h⟩⟩
    | goto t =>
      obtain ⟨v, W4, e1, e2, h⟩ := leave (.goto t) W3 hp.1 hp.2
      exact ⟨_, _, e1, .inr ⟨by rw [e2], h⟩⟩
    | panic ch => exact hp.elim
    | outgrown => exact hp.elim
  · rintro e W ⟨⟨v, rfl⟩, hor⟩
    rcases hor with ⟨xs, hS, hi, hr, hd⟩ | ⟨pre, hS, c, hi, hr, hd⟩
    · obtain ⟨W2, e2, hW2⟩ := hend _ _ W hr (by simp)
      refine ⟨_, _, e2, ?_⟩
      rw [hW2]
      exact hdone D0 xs _ hD0 (turn tSf _ hS hr) (turn tI _ hi hr) ((World.putObj_heap_other (by omega)).trans hd)
    · obtain ⟨W2, e2, hW2⟩ := hend _ _ W hr (by simp)
      refine ⟨_, _, e2, ?_⟩
      rw [hW2]
      exact hstop D0 c pre _ hD0 (turn tSp _ hS hr) (turn (tIx c) _ hi hr) ((World.putObj_heap_other (by omega)).trans hd)
end Go.Proofs.Yticilaoibjbgfaa.Lib
