/- Objects behind a pointer: their cells, what a call leaves of them; slices of bytes that lie in some blocks. -/
import Derived.Test.YticilaoibjbgfaaLibB0
set_option linter.unusedSimpArgs false
set_option linter.unusedVariables false
namespace Go.Proofs.Yticilaoibjbgfaa.Lib
open Go.RowKit Go.Proofs.YticilaoibjbgfaaW.PrintWords Go.Proofs.YticilaoibjbgfaaW.PrintLast Go.Proofs.YticilaoibjbgfaaW.PrintMore Go.Proofs.Yticilaoibjbgfaa.Lex

/-- Below block n the world is as it was, but for some blocks. -/
structure But (n : Nat) (S : Nat → Prop) (w w' : World) : Prop where
  os : w'.os = w.os
  tape : w'.tape = w.tape
  output : w'.output = w.output
  size : w.heap.size ≤ w'.heap.size
  block : ∀ k, k < n → ¬ S k → w'.heap[k]? = w.heap[k]?
theorem But.refl (n : Nat) (S : Nat → Prop) (w : World) : But n S w w := ⟨rfl, rfl, rfl, Nat.le_refl _, fun _ _ _ => rfl⟩
theorem But.trans {n : Nat} {S : Nat → Prop} {a b c : World} (h : But n S a b) (k : But n S b c) : But n S a c :=
  ⟨k.os.trans h.os, k.tape.trans h.tape, k.output.trans h.output, Nat.le_trans h.size k.size, fun i hi hs => (k.block i hi hs).trans (h.block i hi hs)⟩
theorem But.mono {n n' : Nat} {S S' : Nat → Prop} {w w' : World} (h : But n S w w') (hn : n' ≤ n) (hs : ∀ k, k < n' → S k → S' k) : But n' S' w w' :=
  ⟨h.os, h.tape, h.output, h.size, fun k hk hk2 => h.block k (by omega) (fun q => hk2 (hs k hk q))⟩
theorem But.of {n n' : Nat} {S : Nat → Prop} {w w' : World} (h : Below n w w') (hn : n' ≤ n) : But n' S w w' :=
  ⟨h.os, h.tape, h.output, h.size, fun k hk _ => h.block k (by omega)⟩
theorem But.below {n n' : Nat} {S : Nat → Prop} {w w' : World} (h : But n S w w') (hn : n' ≤ n) (hs : ∀ k, k < n' → ¬ S k) : Below n' w w' :=
  ⟨h.os, h.tape, h.output, h.size, fun k hk => h.block k (by omega) (hs k hk)⟩
theorem But.setCell {n : Nat} {S : Nat → Prop} {a w : World} (h : But n S a w) {p : Addr} (hp : n ≤ p.block ∨ S p.block) (u : Value) : But n S a (w.setCell p u) :=
  h.trans ⟨rfl, rfl, rfl, by simp [World.setCell], fun k hk hk2 => Below.heap_setCell _ _ _ _ (fun e => by subst e; exact hp.elim (fun h => by omega) hk2)⟩
theorem But.then {n m : Nat} {S : Nat → Prop} {a b c : World} (h : But n S a b) (k : Below m b c) (hm : n ≤ m) : But n S a c := h.trans (But.of k hm)

/-- The cells of a block. -/
def Ob (p : Nat) (w : World) (cs : List Value) : Prop := ∀ i v, cs[i]? = some v → w.cell? ⟨p, i, none⟩ = some v ∧ w.frozen? ⟨p, i, none⟩ = false
theorem Ob.same {p : Nat} {w w' : World} {cs : List Value} (h : Ob p w cs) (hb : w'.heap[p]? = w.heap[p]?) : Ob p w' cs := fun i v hi => by
  have h2 := h i v hi
  exact ⟨(World.cell?_of_block (w := w) (a := ⟨p, i, none⟩) hb).trans h2.1, (World.frozen?_of_block (w := w) (a := ⟨p, i, none⟩) hb).trans h2.2⟩
theorem Ob.lt {p : Nat} {w : World} {c : Value} {cs : List Value} (h : Ob p w (c :: cs)) : p < w.heap.size := World.block_lt_of_cell? w _ (h 0 c rfl).1
theorem Ob.but {n p : Nat} {S : Nat → Prop} {w w' : World} {cs : List Value} (h : Ob p w cs) (hb : But n S w w') (hp : p < n) (hs : ¬ S p) : Ob p w' cs := h.same (hb.block p hp hs)
theorem Ob.below {n p : Nat} {w w' : World} {cs : List Value} (h : Ob p w cs) (hb : Below n w w') (hp : p < n) : Ob p w' cs := h.same (hb.block p hp)
theorem Ob.far {p : Nat} {w : World} {cs : List Value} (h : Ob p w cs) {q : Addr} (hq : p ≠ q.block) (u : Value) : Ob p (w.setCell q u) cs := h.same (Below.heap_setCell _ _ _ _ hq)
theorem Ob.set {p : Nat} {w : World} {cs : List Value} (h : Ob p w cs) (i : Nat) (hi : i < cs.length) (u : Value) : Ob p (w.setCell ⟨p, i, none⟩ u) (cs.set i u) := fun j v hj => by
  rw [World.frozen?_setCell]
  rw [List.getElem?_set] at hj
  split at hj
  · rename_i e
    subst e
    injection hj with hj
    subst hj
    have h2 := h i _ (List.getElem?_eq_getElem hi)
    exact ⟨World.cell?_setCell_same w _ _ h2.1, h2.2⟩
  · rename_i e
    have h2 := h j v hj
    have h3 : (⟨p, i, none⟩ : Addr) ≠ ⟨p, j, none⟩ := by intro q; injection q with _ q _; exact e q
    rw [World.cell?_setCell_other (h := h3)]
    exact h2
theorem Ob.new (w : World) (cs : List Value) (a : Array Value) (ha : a = cs.toArray) (t : TypeId) : Ob w.heap.size (w.alloc (.cells a t)) cs := fun i v hi => by
  subst ha
  rw [World.cell?_alloc_at _ _ _ _ rfl, World.frozen?_alloc_at _ _ _ _ rfl]
  exact ⟨by simpa using hi, rfl⟩

theorem C_same {w w' : World} {A : Option Addr} {n : Nat} {xs : List Int} (h : Kd.C KB w A n xs) (hs : ∀ a, A = some a → w'.heap[a.block]? = w.heap[a.block]?) : Kd.C KB w' A n xs := by
  obtain ⟨h1, h2, h3⟩ := h
  refine ⟨h1, h2, fun hp => ?_⟩
  obtain ⟨ad, e, hc⟩ := h3 hp
  refine ⟨ad, e, fun j p hj => ?_⟩
  obtain ⟨cs, c1, c2, c3⟩ := hc j p hj
  exact ⟨cs, c1, c2, fun i u hi => (World.cell?_of_block (w := w) (by rw [add_block]; exact hs ad e)).trans (c3 i u hi)⟩
/-- A slice of bytes that lies in some blocks. -/
def Sl (S : Nat → Prop) (w : World) (v : Value) (xs : List Int) : Prop := ∃ A c, v = .slice A xs.length c ∧ xs.length ≤ c ∧ Kd.C KB w A xs.length xs ∧ ∀ a, A = some a → S a.block
theorem Sl.same {S : Nat → Prop} {w w' : World} {v : Value} {xs : List Int} (h : Sl S w v xs) (hs : ∀ k, S k → w'.heap[k]? = w.heap[k]?) : Sl S w' v xs := by
  obtain ⟨A, c, e, h1, h2, h3⟩ := h
  exact ⟨A, c, e, h1, C_same h2 (fun a ha => hs _ (h3 a ha)), h3⟩
theorem Sl.mono {S S' : Nat → Prop} {w : World} {v : Value} {xs : List Int} (h : Sl S w v xs) (hs : ∀ k, S k → S' k) : Sl S' w v xs := by
  obtain ⟨A, c, e, h1, h2, h3⟩ := h
  exact ⟨A, c, e, h1, h2, fun a ha => hs _ (h3 a ha)⟩
theorem Sl.nil (S : Nat → Prop) (w : World) : Sl S w (.slice none 0 0) [] := ⟨none, 0, rfl, Nat.le_refl _, ⟨rfl, by decide, fun h => absurd h (by decide)⟩, fun a h => by cases h⟩
theorem OB.sl {b : Nat} {w : World} {v : Value} {xs : List Int} (h : OB b w v xs) {S : Nat → Prop} (hS : ∀ k, b ≤ k → k < w.heap.size → S k) : Sl S w v xs := by
  obtain ⟨A, c, e, h1, h2⟩ := h.reads
  have h3 := (Kd.R_bound h).1
  refine ⟨A, c, e, h1, h2, fun a ha => ?_⟩
  subst ha e
  obtain ⟨_, h4, h5, _⟩ := h3 a.block rfl
  exact hS _ h4 h5
theorem OB.step {b : Nat} {w w' : World} {v : Value} {xs : List Int} (h : OB b w v xs) (hm : ∀ k, v.ownBlock = some k → w'.heap[k]? = w.heap[k]?) : OB b w' v xs :=
  Kd.R_of_own (own_move (Kd.own_of_R h) hm) (fun _ _ => trivial)
theorem OB.at {b : Nat} {w w' : World} {g n c : Nat} {xs : List Int} (h : OB b w (.slice (some ⟨g, 0, none⟩) n c) xs) (hm : w'.heap[g]? = w.heap[g]?) : OB b w' (.slice (some ⟨g, 0, none⟩) n c) xs :=
  h.step (fun k hk => by simp [Value.ownBlock] at hk; subst hk; exact hm)
/-- Bytes that some blocks hold, read where they are cut. -/
theorem Sl.drop {S : Nat → Prop} {w : World} {A : Option Addr} {c : Nat} {xs : List Int} (h : Sl S w (.slice A xs.length c) xs) (k : Nat) (hk : k ≤ xs.length) (AD : Option Addr) (hA : ∀ b o, A = some ⟨b, o, none⟩ → k < xs.length → AD = some ⟨b, o + k, none⟩) (hB : ∀ a, AD = some a → ∃ a0, A = some a0 ∧ a0.block = a.block) : Sl S w (.slice AD (xs.length - k) (c - k)) (xs.drop k) := by
  obtain ⟨A', c', e, h1, h2, h3⟩ := h
  injection e with e1 e2 e3
  subst e1 e3
  refine ⟨AD, c - k, by rw [List.length_drop], by rw [List.length_drop]; omega, ?_, fun a ha => ?_⟩
  · rcases Nat.lt_or_ge k xs.length with hlt | hge
    · obtain ⟨b, o, e⟩ := C_addr (by decide) h2 (by omega)
      subst e
      have h4 := C_seg h2 k xs.length hk (Nat.le_refl _) AD (fun _ => hA b o rfl hlt)
      rw [List.take_length] at h4
      rw [List.length_drop]
      exact h4
    · have hz : xs.drop k = [] := List.drop_eq_nil_of_le hge
      rw [hz]
      exact ⟨rfl, by decide, fun h => absurd h (by decide)⟩
  · obtain ⟨a0, e0, e1⟩ := hB a ha
    rw [← e1]
    exact h3 a0 e0
end Go.Proofs.Yticilaoibjbgfaa.Lib
