/- Arguments of any plain type (whole numbers, bools, strings, structs and slices of these) opened by kinds. -/
import Derived.Test.YticilaoibjbgfaaProg
import Derived.WalkKit
import Derived.KernelRfl
import Derived.ChangeArms
import Derived.Deep.Slices
import Derived.DataElems
import Derived.Test.YticilaoibjbgfaaWMore
namespace Go.Proofs.Yticilaoibjbgfaa.Row
open Go.RowKit Go.Proofs.YticilaoibjbgfaaW.PrintWords Go.Proofs.YticilaoibjbgfaaW.PrintLast Go.Proofs.YticilaoibjbgfaaW.PrintMore

/-- What reads at type t is of the kind d, and ok. -/
structure Opens {α : Type} (d : Kd α) (t : TypeId) (ok : α → Prop) : Prop where
  pos : 0 < d.sz
  cells : Try.prog.cellsOf t = d.sz
  opens : ∀ {H : Type} {enc : TypeId × Value → H} {W : World} {base : Nat} {spare : Nat → Bool} {held : Bool} {fuel : Nat} {cs : List Value} {x : DataW H × List MemPlace}, DataW.trod enc Try.prog W base spare held fuel t cs = some x → ∃ a : α, d.K W a cs ∧ ok a
/-- The same of fields in line, from an offset on. -/
structure OpensF {α : Type} (d : Kd α) (l : List (Nat × TypeId)) (o : Nat) (ok : α → Prop) : Prop where
  pos : 0 < d.sz
  opens : ∀ {H : Type} {enc : TypeId × Value → H} {W : World} {base : Nat} {spare : Nat → Bool} {held : Bool} {fuel : Nat} {cs : List Value}, (∀ (j : Nat) q, l[j]? = some q → ∃ x : DataW H × List MemPlace, DataW.trod enc Try.prog W base spare held fuel q.2 ((cs.drop q.1).take (Try.prog.cellsOf q.2)) = some x) → ∃ a : α, d.K W a ((cs.drop o).take d.sz) ∧ ok a

theorem Opens.mono {α : Type} {d : Kd α} {t : TypeId} {ok ok' : α → Prop} (h : Opens d t ok) (hk : ∀ a, ok a → ok' a) : Opens d t ok' :=
  ⟨h.pos, h.cells, fun h2 => by obtain ⟨a, h3, h4⟩ := h.opens h2; exact ⟨a, h3, hk a h4⟩⟩
theorem opens_int {t : TypeId} {k : IntKind} (hu : Try.prog.underlying t = some (.int k)) (hc : Try.prog.cellsOf t = 1) : Opens (Kd.int k) t (fun n => (Lit.int k n).wf = true) :=
  ⟨Nat.one_pos, hc, fun h => by
    obtain ⟨n, rfl, _, hw⟩ := DataW.trod_int hu h
    exact ⟨n, rfl, hw⟩⟩
theorem opens_bool {t : TypeId} (hu : Try.prog.underlying t = some .bool) (hc : Try.prog.cellsOf t = 1) : Opens Kd.bool t (fun _ => True) :=
  ⟨Nat.one_pos, hc, fun h => by
    obtain ⟨b, rfl, _⟩ := DataW.trod_bool hu h
    exact ⟨b, rfl, trivial⟩⟩
theorem opens_string {t : TypeId} (hu : Try.prog.underlying t = some .string) (hc : Try.prog.cellsOf t = 1) : Opens Kd.string t (fun s => s.size ≤ maxLen) :=
  ⟨Nat.one_pos, hc, fun h => by
    obtain ⟨s, rfl, _, hs⟩ := DataW.trod_string hu h
    exact ⟨s, rfl, hs⟩⟩
theorem opens_slice {α : Type} {d : Kd α} {t e : TypeId} {ok : α → Prop} (hu : Try.prog.underlying t = some (.slice e)) (hc : Try.prog.cellsOf t = 1) (he : Opens d e ok) : Opens (Kd.slice e d) t (fun xs => ∀ x ∈ xs, ok x) :=
  ⟨by show 0 < 1; decide, hc, fun {H enc W base spare held fuel cs x} h => by
    rcases Go.Deep.open_slice hu h with ⟨rfl, _⟩ | ⟨a, len, cap, m, n, D, Pl, rfl, _, hl, hm, hmm, _, hx⟩
    · exact ⟨[], ⟨none, 0, rfl, Nat.le_refl _, ⟨rfl, Nat.zero_le _, fun h => absurd h (Nat.lt_irrefl 0)⟩⟩, fun x hx => by cases hx⟩
    · have hlm : len ≤ m := by rw [hmm]; split <;> omega
      rcases Nat.eq_zero_or_pos len with h0 | h0
      · subst h0
        exact ⟨[], ⟨some a, cap, rfl, Nat.zero_le _, ⟨rfl, Nat.zero_le _, fun h => absurd h (Nat.lt_irrefl 0)⟩⟩, fun x hx => by cases hx⟩
      · have hp : ∀ i, i < len → ∃ y : α, ok y ∧ ∃ cs', cs'.length = d.sz ∧ d.K W y cs' ∧ ∀ j u, cs'[j]? = some u → W.cell? (a.add (i * d.sz + j)) = some u := fun i hi => by
          obtain ⟨cs', h1, h2⟩ := hx i (by omega)
          obtain ⟨y, h3, h4⟩ := he.opens h2
          rw [he.cells] at h1
          obtain ⟨_, h5, h6⟩ := World.cells?_some h1
          refine ⟨y, h4, cs', h5, h3, fun j u hj => ?_⟩
          have hjl : j < d.sz := by have := (List.getElem?_eq_some_iff.1 hj).1; omega
          have h7 := h6 j hjl
          rw [Addr.add_add] at h7
          rw [h7, hj]
        obtain ⟨y0, _⟩ := hp 0 h0
        haveI : Inhabited α := ⟨y0⟩
        obtain ⟨f, hf⟩ := Go.Deep.choose_lt hp
        have hg : ∀ (j : Nat) y, ((List.range len).map f)[j]? = some y → j < len ∧ y = f j := fun j y hj => by
          rw [List.getElem?_map] at hj
          rcases Nat.lt_or_ge j len with hjl | hjl
          · rw [List.getElem?_range hjl] at hj
            simp only [Option.map_some, Option.some.injEq] at hj
            exact ⟨hjl, hj.symm⟩
          · rw [List.getElem?_eq_none (by simpa using hjl)] at hj
            cases hj
        have hlen : ((List.range len).map f).length = len := by simp
        refine ⟨(List.range len).map f, ⟨some a, cap, by rw [hlen], by rw [hlen]; exact hl, ⟨rfl, by rw [hlen]; simp only [maxLen] at hm; omega, fun _ => ⟨a, rfl, fun j y hj => ?_⟩⟩⟩, fun y hy => ?_⟩
        · obtain ⟨hjl, rfl⟩ := hg j y hj
          exact (hf j hjl).2
        · obtain ⟨j, hj⟩ := List.mem_iff_getElem?.1 hy
          obtain ⟨hjl, rfl⟩ := hg j y hj
          exact (hf j hjl).1⟩
theorem opensF_one {α : Type} {d : Kd α} {t : TypeId} {ok : α → Prop} (h : Opens d t ok) (o : Nat) : OpensF d [(o, t)] o ok :=
  ⟨h.pos, fun h2 => by
    obtain ⟨x, h3⟩ := h2 0 _ rfl
    rw [← h.cells]
    exact h.opens h3⟩
theorem opensF_cons {α β : Type} {d : Kd α} {d' : Kd β} {t : TypeId} {l : List (Nat × TypeId)} {o : Nat} {ok : α → Prop} {ok' : β → Prop} (h : Opens d t ok) (h' : OpensF d' l (o + d.sz) ok') : OpensF (Kd.pair d d') ((o, t) :: l) o (fun p => ok p.1 ∧ ok' p.2) :=
  ⟨Nat.add_pos_left h.pos _, fun {H enc W base spare held fuel cs} h2 => by
    obtain ⟨x, h3⟩ := h2 0 _ rfl
    have h3' : DataW.trod enc Try.prog W base spare held fuel t ((cs.drop o).take (Try.prog.cellsOf t)) = some x := h3
    rw [h.cells] at h3'
    obtain ⟨a, k1, o1⟩ := h.opens h3'
    obtain ⟨b, k2, o2⟩ := h'.opens (fun j q hj => h2 (j + 1) q hj)
    refine ⟨(a, b), ⟨_, _, ?_, k1, k2⟩, o1, o2⟩
    show (cs.drop o).take (d.sz + d'.sz) = _
    rw [List.take_add, List.drop_drop]⟩
theorem opens_struct {α : Type} {d : Kd α} {t : TypeId} {fs : Array Field} {l : List (Nat × TypeId)} {ok : α → Prop} (hu : Try.prog.underlying t = some (.struct fs)) (hl : fs.toList.map (fun f => (f.offset, f.type)) = l) (hc : Try.prog.cellsOf t = d.sz) (h : OpensF d l 0 ok) : Opens d t ok :=
  ⟨h.pos, hc, fun h2 => by
    obtain ⟨xs, n, _, _, h3, h4, h5⟩ := DataW.trod_struct hu h2
    obtain ⟨a, k, o⟩ := h.opens (fun j q hj => by
      subst hl
      rw [List.getElem?_map] at hj
      obtain ⟨f, hf, rfl⟩ := Option.map_eq_some_iff.1 hj
      have h6 := h5 j f (by simpa using hf)
      have hjx : j < xs.length := by
        rw [h4]
        have := (List.getElem?_eq_some_iff.1 hf).1
        simpa using this
      rw [List.getElem?_eq_getElem hjx] at h6
      exact ⟨_, h6⟩)
    rw [List.drop_zero, ← hc, ← h3, List.take_length] at k
    exact ⟨a, k, o⟩⟩
/-- An argument that is a slice. -/
theorem open_kslice {α : Type} {d : Kd α} {t e : TypeId} {ok : List α → Prop} (hO : Opens (Kd.slice e d) t ok) {H : Type} {enc : TypeId × Value → H} {W : World} {base : Nat} {spare : Nat → Bool} {held : Bool} {a : Option Addr} {len cap : Nat} {dd : DataW H} {ps : List MemPlace}
    (h : DataW.Trod enc Try.prog W base spare held t (.slice a len cap) dd ps) : ∃ xs : List α, len = xs.length ∧ Kd.C d W a xs.length xs ∧ xs.length ≤ cap ∧ ok xs := by
  obtain ⟨fuel, hf⟩ := h
  obtain ⟨xs, ⟨A, c, hcs, hl, hC⟩, ho⟩ := hO.opens hf
  simp [Value.cells] at hcs
  obtain ⟨rfl, rfl, rfl⟩ := hcs
  exact ⟨xs, rfl, hC, hl, ho⟩
end Go.Proofs.Yticilaoibjbgfaa.Row
