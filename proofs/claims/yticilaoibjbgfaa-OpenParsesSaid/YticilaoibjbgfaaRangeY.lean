/- The caller's law of a range over a function whose iterator hands a fact on what it yields to the round (Y), the loop's variable in a block of its own; a round's end tells what it kept in each way: SeqY, rangeY. -/
import Derived.Test.YticilaoibjbgfaaRange
set_option linter.unusedVariables false
namespace Go.Proofs.Yticilaoibjbgfaa.Lib
open Go.RowKit

variable {F : Fence} {n : Nat} {P : Program}

/-- The contract of an iterator that hands a fact (Y) on what it yields to the caller's round, and is told what the round kept (Kp) on 'no more' too. -/
def SeqY {α : Type} (F : Fence) (n : Nat) (P : Program) (g : Nat) (lb : Array Value) (encs : α → Array Value) (Y : α → World → Prop) (Kp : World → World → Prop) (Ka : Nat → World → World → Prop) (Sf Sp : List α → World → Prop) (m N : Nat) (w : World) : Prop :=
  ∀ (l : Nat) (J Jx : List α → World → Prop) (W : World), Below w.heap.size w W → w.heap.size + 2 ≤ W.heap.size → (∀ xs A B, J xs A → Ka W.heap.size A B → J xs B) → (∀ xs A B, Jx xs A → Ka W.heap.size A B → Jx xs B) →
    (∀ pre x W1, J pre W1 → Y x W1 → pre.length < N → W.heap.size + m ≤ W1.heap.size → YieldAt F (n - 1) P l (encs x) W1 fun e W' =>
      (e = .returned (.bool true) ∧ J (pre ++ [x]) W' ∧ Kp W1 W') ∨ (e = .returned (.bool false) ∧ Jx (pre ++ [x]) W' ∧ Kp W1 W')) →
    J [] W →
    CallsIn F n P g (#[.func (.yield l) #[] #[]] ++ lb) W fun e W' => (∃ v, e = .returned v) ∧ ((∃ xs, Sf xs W' ∧ J xs W') ∨ (∃ pre, Sp pre W' ∧ Jx pre W'))
/-- stable under the loop's own book-keeping (its record lies in block n + 1) -/
def Turn1 {β : Type} (n : Nat) (J : β → World → Prop) : Prop := ∀ (s : β) (W : World) (o o' : Obj), J s W → W.heap[n + 1]? = some o → o.isCells = false → J s (W.putObj (n + 1) o')
/-- How a round ends: what it keeps (Kp) in each way. -/
def ownPostY {α : Type} (Kp : World → World → Prop) (I : List α → World → Prop) (Ix : Code → List α → World → Prop) (xs : List α) (W : World) : Exit → Act → World → Prop
  | .normal, _, W' => KeepsOthers W W' ∧ Kp W W' ∧ I xs W'
  | .ret, _, W' => KeepsOthers W W' ∧ Kp W W' ∧ Ix .ret xs W'
  | .exit id, _, W' => KeepsOthers W W' ∧ Kp W W' ∧ Ix (.exit id) xs W'
  | .goto t, _, W' => KeepsOthers W W' ∧ Kp W W' ∧ Ix (.goto t) xs W'
  | .panic _, _, _ => False
  | .outgrown, _, _ => False

theorem rangeY {α : Type} {g : Operand} {ps : Array Tmp} {assign body : Code} {Q : Exit → Act → World → Prop} {a : Act} {w : World}
    (hro : F.round = none) (h1 : 1 ≤ n) {gf : Nat} {lb : Array Value} (hg : a.eval g = .func (.func gf) #[] lb) (hFg : F.fn gf) (eg : ∀ args w, (callFunc gf args).run P w = .ok (.enter gf args) w)
    {encs : α → Array Value} {Y : α → World → Prop} {Kp : World → World → Prop} {Ka : Nat → World → World → Prop} {Sf Sp : List α → World → Prop} {m N : Nat} (hseq : SeqY F (n - 1) P gf lb encs Y Kp Ka Sf Sp m N w)
    (hKa : ∀ h A B, Ka h A B → ∀ k o, k < h → A.heap[k]? = some o → o.isCells = false → B.heap[k]? = some o)
    (hKt : ∀ {A B C : World}, Kp A B → Kp B C → Kp A C) (hKb : ∀ (W : World) (o o' : Obj), W.heap[w.heap.size + 1]? = some o → o.isCells = false → Kp W (W.putObj (w.heap.size + 1) o')) (hps : ∀ x, (encs x).size = ps.size)
    (I : List α → World → Prop) (Ix : Code → List α → World → Prop)
    (hI : ∀ xs A B, I xs A → Ka (w.heap.size + 2) A B → I xs B) (hIx : ∀ c xs A B, Ix c xs A → Ka (w.heap.size + 2) A B → Ix c xs B)
    (tI : Turn1 w.heap.size I) (tIx : ∀ c, Turn1 w.heap.size (Ix c)) (tSf : Turn1 w.heap.size Sf) (tSp : Turn1 w.heap.size Sp)
    (h0 : ∀ W, Below w.heap.size w W → W.heap.size = w.heap.size + 2 → I [] W) (Ax : α → Act → World → Prop) (tAx : ∀ a', Turn1 w.heap.size (fun x => Ax x a'))
    (hassign : ∀ (l : Nat) (pre : List α) (x : α) (W : World) (K : Act → World → Prop), I pre W → Y x W → w.heap.size + 2 + m ≤ W.heap.size → (∀ a' Wa, KeepsOthers W Wa → W.heap.size ≤ Wa.heap.size → Kp W Wa → I pre Wa → Ax x a' Wa → K a' Wa) →
      assign.wpIn (F.inRound l) (n - 1 - 1) P (Exit.then K (fun _ _ _ => False)) { tmps := (ps.zip (encs x)).foldl (fun t (p, v) => t.setIfInBounds p v) a.tmps, defers := [] } W)
    (hbody : ∀ (l : Nat) (pre : List α) (x : α) (a' : Act) (W : World), I pre W → Ax x a' W → pre.length < N → w.heap.size + 2 + m ≤ W.heap.size → body.wpIn (F.inRound l) (n - 1 - 1) P (ownPostY Kp I Ix (pre ++ [x]) W) a' W)
    (hdone : ∀ (D : Nat) (xs : List α) (W : World), D = w.heap.size → Sf xs W → I xs W → W.heap[D]? = some (.deferred (some [])) → Q .normal { a with defers := { target := .collected D, args := #[] } :: a.defers } W)
    (hstop : ∀ (D : Nat) (c : Code) (pre : List α) (W : World), D = w.heap.size → Sp pre W → Ix c pre W → W.heap[D]? = some (.deferred (some [])) → c.wpIn F n P Q { a with defers := { target := .collected D, args := #[] } :: a.defers } W) :
    (Code.rangeFunc g ps assign body).wpIn F n P Q a w := by
  refine wpIn_rangeFunc fun fn hfn => ?_
  rw [hro]
  -- the loop's record, in its three states; two blocks of book-keeping: D0 (deferred calls), L0 (the record)
  let lp : LoopState → Option Code → Obj := fun st pe => .loop { state := st, pending := pe, fn := fn, tmps := a.tmps, params := ps, assign := assign, body := body, defers := w.heap.size }
  obtain ⟨D0, hD0⟩ : ∃ k, k = w.heap.size := ⟨_, rfl⟩
  obtain ⟨V, hV⟩ : ∃ V, V = (w.alloc (.deferred (some []))).alloc (lp .ready none) := ⟨_, rfl⟩
  have sV : V.heap.size = D0 + 2 := by rw [hV, hD0]; simp
  have bV : Below w.heap.size w V := by rw [hV]; exact ((Below.refl _ w).alloc (Nat.le_refl _) _).alloc (by simp) _
  have rV : V.heap[D0 + 1]? = some (lp .ready none) := by
    rw [hV, hD0]
    have := World.alloc_heap_new (w.alloc (.deferred (some []))) (lp .ready none)
    rwa [World.size_alloc] at this
  have dV : V.heap[D0]? = some (.deferred (some [])) := by
    rw [hV, hD0]
    exact (Below.heap_alloc _ _ _ (by simp)).trans (World.alloc_heap_new w _)
  have turn : ∀ {β : Type} {J : β → World → Prop}, Turn1 w.heap.size J → ∀ {s : β} {W : World} {st : LoopState} {pe : Option Code} (o' : Obj), J s W → W.heap[D0 + 1]? = some (lp st pe) → J s (W.putObj (D0 + 1) o') :=
    fun {β J} hJ {s W st pe} o' hs hr => by
      have hr' : W.heap[w.heap.size + 1]? = some (lp st pe) := by rw [← hD0]; exact hr
      have := hJ s W _ o' hs hr' rfl
      rw [← hD0] at this
      exact this
  have kb : ∀ {W : World} {st : LoopState} {pe : Option Code} (o' : Obj), W.heap[D0 + 1]? = some (lp st pe) → Kp W (W.putObj (D0 + 1) o') := fun {W st pe} o' hr => by
    have hr' : W.heap[w.heap.size + 1]? = some (lp st pe) := by rw [← hD0]; exact hr
    have := hKb W _ o' hr' rfl
    rw [← hD0] at this
    exact this
  refine ⟨D0 + 1, [{ target := .collected D0, args := #[] }], V, { target := .fn (.func gf) lb, args := #[.func (.yield (D0 + 1)) #[] #[]] }, V, gf, #[.func (.yield (D0 + 1)) #[] #[]] ++ lb, V, ?_, ?_, ?_, ?_, fun _ => h1, ?_⟩
  · rw [hV, hD0]
    exact run_enterLoop_outer _ _ _ _ _
  · simp only [resolve, hg]
    simp [go_sem]
  · intro f' hf'
    simp [Target.leads] at hf'
    subst hf'
    exact hFg
  · simp [invoke, go_sem, eg]
  -- the iterator's contract at the caller's invariant beside the two blocks
  have hend : ∀ (st : LoopState) (pe : Option Code) (W : World), W.heap[D0 + 1]? = some (lp st pe) → st ≠ .busy → ∃ W2, (Instr.endLoop (D0 + 1)).run P W = .ok pe W2 ∧ W2 = W.putObj (D0 + 1) (lp .exhausted pe) :=
    fun st pe W hr hne => ⟨_, run_endLoop hr hne, rfl⟩
  refine (hseq (D0 + 1) (fun xs W => I xs W ∧ W.heap[D0 + 1]? = some (lp .ready none) ∧ W.heap[D0]? = some (.deferred (some [])))
    (fun xs W => ∃ c, Ix c xs W ∧ W.heap[D0 + 1]? = some (lp .done (some c)) ∧ W.heap[D0]? = some (.deferred (some []))) V bV (by rw [sV, hD0]; exact Nat.le_refl _) ?_ ?_ ?_ ⟨h0 V bV (by rw [sV, hD0]), rV, dV⟩).mono ?_
  · rintro xs A B ⟨h, hr, hd⟩ hk
    rw [sV] at hk
    exact ⟨hI xs A B h (by rw [← hD0]; exact hk), hKa _ A B hk _ _ (by omega) hr rfl, hKa _ A B hk _ _ (by omega) hd rfl⟩
  · rintro xs A B ⟨c, h, hr, hd⟩ hk
    rw [sV] at hk
    exact ⟨c, hIx c xs A B h (by rw [← hD0]; exact hk), hKa _ A B hk _ _ (by omega) hr rfl, hKa _ A B hk _ _ (by omega) hd rfl⟩
  · rintro pre x W ⟨hi, hr, hd⟩ hY hlen hsz
    rw [sV] at hsz
    refine ⟨fn, _, assign, body, run_yield (args := encs x) hr (hps x), roundIn_of_wpIn hfn (hassign (D0 + 1) pre x W _ hi hY (by omega) ?_)⟩
    intro a' Wa hka hza hkp hia hax
    have hr := hka.same _ _ hr rfl
    have hd := hka.same _ _ hd rfl
    have hlt : D0 + 1 < Wa.heap.size := (Array.getElem?_eq_some_iff.1 hr).1
    refine ⟨_, run_beginRound hr rfl, ?_⟩
    obtain ⟨W1, hW1⟩ : ∃ W1, W1 = Wa.putObj (D0 + 1) (lp .busy none) := ⟨_, rfl⟩
    have r1 : W1.heap[D0 + 1]? = some (lp .busy none) := by rw [hW1]; exact World.putObj_heap_same hlt
    have d1 : W1.heap[D0]? = some (.deferred (some [])) := by rw [hW1]; exact (World.putObj_heap_other (by omega)).trans hd
    have k1 : Kp W W1 := by rw [hW1]; exact hKt hkp (kb _ hr)
    have i1 : I pre W1 := by rw [hW1]; exact turn tI _ hia hr
    have x1 : Ax x a' W1 := by rw [hW1]; exact turn (J := fun (_ : Unit) W => Ax x a' W) (fun _ W o o' h hl ho => tAx a' x W o o' h hl ho) (s := ()) _ hax hr
    have z1 : W1.heap.size = Wa.heap.size := by rw [hW1]; exact World.putObj_size
    show body.wpIn _ _ _ _ _ (Wa.putObj (D0 + 1) (lp .busy none))
    rw [← hW1]
    refine wpIn_mono (hbody (D0 + 1) pre x a' W1 i1 x1 hlen (by rw [z1]; omega)) ?_
    have leave : ∀ (c : Code) (W3 : World), KeepsOthers W1 W3 → Kp W1 W3 → Ix c (pre ++ [x]) W3 → ∃ v W4, (Instr.endRound (D0 + 1) (some c)).run P W3 = .ok v W4 ∧ v = .bool false ∧ (∃ c, Ix c (pre ++ [x]) W4 ∧ W4.heap[D0 + 1]? = some (lp .done (some c)) ∧ W4.heap[D0]? = some (.deferred (some []))) ∧ Kp W W4 := fun c W3 hk hkp h => by
      have r3 := hk.same _ _ r1 rfl
      have d3 := hk.same _ _ d1 rfl
      exact ⟨_, _, run_endRound (some c) r3, rfl, ⟨c, turn (tIx c) _ h r3, World.putObj_heap_same (Array.getElem?_eq_some_iff.1 r3).1, (World.putObj_heap_other (by omega)).trans d3⟩, hKt (hKt k1 hkp) (kb _ r3)⟩
    rintro e a3 W3 hp
    cases e with
    | normal =>
      obtain ⟨hk, hkp, h⟩ := hp
      have r3 := hk.same _ _ r1 rfl
      have d3 := hk.same _ _ d1 rfl
      exact ⟨_, _, run_endRound none r3, .inl ⟨rfl, ⟨turn tI _ h r3, World.putObj_heap_same (Array.getElem?_eq_some_iff.1 r3).1, (World.putObj_heap_other (by omega)).trans d3⟩, hKt (hKt k1 hkp) (kb _ r3)⟩⟩
    | ret =>
      obtain ⟨v, W4, e1, e2, h⟩ := leave .ret W3 hp.1 hp.2.1 hp.2.2
      exact ⟨_, _, e1, .inr ⟨by rw [e2], h⟩⟩
    | exit id =>
      obtain ⟨v, W4, e1, e2, h⟩ := leave (.exit id) W3 hp.1 hp.2.1 hp.2.2
      exact ⟨_, _, e1, .inr ⟨by rw [e2], h⟩⟩
    | goto t =>
      obtain ⟨v, W4, e1, e2, h⟩ := leave (.goto t) W3 hp.1 hp.2.1 hp.2.2
      exact ⟨_, _, e1, .inr ⟨by rw [e2], h⟩⟩
    | panic ch => exact hp.elim
    | outgrown => exact hp.elim
  · rintro e W ⟨⟨v, rfl⟩, hor⟩
    rcases hor with ⟨xs, hS, hi, hr, hd⟩ | ⟨pre, hS, c, hi, hr, hd⟩
    · obtain ⟨W2, e2, hW2⟩ := hend _ _ W hr (by simp)
      refine ⟨_, _, e2, ?_⟩
      rw [hW2]
      exact hdone D0 xs _ hD0 (turn tSf _ hS hr) (turn tI _ hi hr) ((World.putObj_heap_other (by omega)).trans hd)
    · obtain ⟨W2, e2, hW2⟩ := hend _ _ W hr (by simp)
      refine ⟨_, _, e2, ?_⟩
      rw [hW2]
      exact hstop D0 c pre _ hD0 (turn tSp _ hS hr) (turn (tIx c) _ hi hr) ((World.putObj_heap_other (by omega)).trans hd)
/-- .. where the round's frame is a function (FR) of the block of the loop's variable and of what was yielded. -/
theorem rangeYX {α : Type} {g : Operand} {ps : Array Tmp} {assign body : Code} {Q : Exit → Act → World → Prop} {a : Act} {w : World}
    (hro : F.round = none) (h1 : 1 ≤ n) {gf : Nat} {lb : Array Value} (hg : a.eval g = .func (.func gf) #[] lb) (hFg : F.fn gf) (eg : ∀ args w, (callFunc gf args).run P w = .ok (.enter gf args) w)
    {encs : α → Array Value} {Y : α → World → Prop} {Kp : World → World → Prop} {Ka : Nat → World → World → Prop} {Sf Sp : List α → World → Prop} {m N : Nat} (hseq : SeqY F (n - 1) P gf lb encs Y Kp Ka Sf Sp m N w)
    (hKa : ∀ h A B, Ka h A B → ∀ k o, k < h → A.heap[k]? = some o → o.isCells = false → B.heap[k]? = some o)
    (hKt : ∀ {A B C : World}, Kp A B → Kp B C → Kp A C) (hKb : ∀ (W : World) (o o' : Obj), W.heap[w.heap.size + 1]? = some o → o.isCells = false → Kp W (W.putObj (w.heap.size + 1) o')) (hps : ∀ x, (encs x).size = ps.size)
    (I : List α → World → Prop) (Ix : Code → List α → World → Prop)
    (hI : ∀ xs A B, I xs A → Ka (w.heap.size + 2) A B → I xs B) (hIx : ∀ c xs A B, Ix c xs A → Ka (w.heap.size + 2) A B → Ix c xs B)
    (tI : Turn1 w.heap.size I) (tIx : ∀ c, Turn1 w.heap.size (Ix c)) (tSf : Turn1 w.heap.size Sf) (tSp : Turn1 w.heap.size Sp)
    (h0 : ∀ W, Below w.heap.size w W → W.heap.size = w.heap.size + 2 → I [] W) (FR : Nat → α → Act) (Bx : Nat → α → World → Prop) (tBx : ∀ cg, Turn1 w.heap.size (Bx cg))
    (hassign : ∀ (l : Nat) (pre : List α) (x : α) (W : World) (K : Act → World → Prop), I pre W → Y x W → w.heap.size + 2 + m ≤ W.heap.size → (∀ cg Wa, KeepsOthers W Wa → W.heap.size ≤ Wa.heap.size → Kp W Wa → I pre Wa → Bx cg x Wa → K (FR cg x) Wa) →
      assign.wpIn (F.inRound l) (n - 1 - 1) P (Exit.then K (fun _ _ _ => False)) { tmps := (ps.zip (encs x)).foldl (fun t (p, v) => t.setIfInBounds p v) a.tmps, defers := [] } W)
    (hbody : ∀ (l : Nat) (pre : List α) (x : α) (cg : Nat) (W : World), I pre W → Bx cg x W → pre.length < N → w.heap.size + 2 + m ≤ W.heap.size → body.wpIn (F.inRound l) (n - 1 - 1) P (ownPostY Kp I Ix (pre ++ [x]) W) (FR cg x) W)
    (hdone : ∀ (D : Nat) (xs : List α) (W : World), D = w.heap.size → Sf xs W → I xs W → W.heap[D]? = some (.deferred (some [])) → Q .normal { a with defers := { target := .collected D, args := #[] } :: a.defers } W)
    (hstop : ∀ (D : Nat) (c : Code) (pre : List α) (W : World), D = w.heap.size → Sp pre W → Ix c pre W → W.heap[D]? = some (.deferred (some [])) → c.wpIn F n P Q { a with defers := { target := .collected D, args := #[] } :: a.defers } W) :
    (Code.rangeFunc g ps assign body).wpIn F n P Q a w :=
  rangeY hro h1 hg hFg eg hseq hKa hKt hKb hps I Ix hI hIx tI tIx tSf tSp h0 (fun x a' W => ∃ cg, a' = FR cg x ∧ Bx cg x W) (fun a' x W o o' h hl ho => h.elim fun cg h => ⟨cg, h.1, tBx cg x W o o' h.2 hl ho⟩)
    (fun l pre x W K hi hy hz hk => hassign l pre x W K hi hy hz (fun cg Wa h1 h2 h3 h4 h5 => hk _ Wa h1 h2 h3 h4 ⟨cg, rfl, h5⟩)) (fun l pre x a' W hi hx hl hz => hx.elim fun cg h => by rw [h.1]; exact hbody l pre x cg W hi h.2 hl hz) hdone hstop
end Go.Proofs.Yticilaoibjbgfaa.Lib
