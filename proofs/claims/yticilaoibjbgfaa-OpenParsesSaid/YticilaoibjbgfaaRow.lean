/- Opening a law's arguments: a slice of integers that came in, as a list. -/
import Derived.Test.YticilaoibjbgfaaRows
import Derived.WalkKit
import Derived.ProofKit
import Derived.OpenShut
import Derived.ShutString
import Derived.ChangeOld
import Derived.Below
import Derived.SizedLaws
import Derived.Test.YticilaoibjbgfaaWSized
import Derived.Test.YticilaoibjbgfaaWMore
set_option linter.unusedVariables false
namespace Go.Proofs.Yticilaoibjbgfaa.Row
open Go.ChangeShapes Go.WideShapes Go.ChangeAt Go.RowKit Go.Proofs.YticilaoibjbgfaaW.PrintWords
open Go.ChangeMaps (open_string shut_string)

theorem own : ownKnob Try.prog.godebug = none := by kernel_rfl
theorem laidOut : laidOutB Try.prog = true := by kernel_rfl

theorem open_ints_list {k : IntKind} {H : Type} {enc : TypeId × Value → H} {W : World} {base : Nat} {spare : Nat → Bool} {held : Bool} {t e : TypeId} {a : Option Addr} {len cap : Nat} {d : DataW H} {ps : List MemPlace}
    (hu : Try.prog.underlying t = some (.slice e)) (he : Try.prog.underlying e = some (.int k)) (hc : Try.prog.cellsOf e = 1) (h : DataW.Trod enc Try.prog W base spare held t (.slice a len cap) d ps) :
    ∃ xs : List Int, len = xs.length ∧ Kd.C (Kd.int k) W a xs.length xs ∧ xs.length ≤ cap ∧ ∀ n ∈ xs, (Lit.int k n).wf = true := by
  have hrow : (a = none ∧ len = 0 ∧ cap = 0 ∧ ([] : List Int) = []) ∨ ∃ zs : List Int, ∃ x, a = some x ∧ len ≤ cap ∧ (spare base = true ∧ cap ≤ maxLen ∧ zs.length = cap ∨ True) ∧ len ≤ zs.length ∧ len ≤ maxLen ∧ (∀ i, i < zs.length → W.cell? (x.add i) = some (.int k (zs.getD i 0))) ∧ ∀ n ∈ zs, (Lit.int k n).wf = true := by
    obtain ⟨fuel, hf⟩ := h
    rcases open_ints hu he hc hf with ⟨hcs, _⟩ | ⟨x, l, c, zs, hcs, _, hl, hm, hz, _, hcell, hwz⟩
    · simp [Value.cells] at hcs
      obtain ⟨rfl, rfl, rfl⟩ := hcs
      exact .inl ⟨rfl, rfl, rfl, rfl⟩
    · simp [Value.cells] at hcs
      obtain ⟨rfl, rfl, rfl⟩ := hcs
      refine .inr ⟨zs, _, rfl, hl, .inr trivial, ?_, Nat.le_trans hl hm, hcell, hwz⟩
      rw [hz]
      split
      · exact hl
      · exact Nat.le_refl _
  rcases hrow with ⟨rfl, rfl, rfl, _⟩ | ⟨zs, x, rfl, hl, _, hlz, hm, hcell, hwz⟩
  · exact ⟨[], rfl, ⟨rfl, by decide, fun h => absurd h (by decide)⟩, Nat.le_refl _, fun n hn => by cases hn⟩
  · have hlen : (zs.take len).length = len := by rw [List.length_take]; omega
    refine ⟨zs.take len, hlen.symm, ?_, by omega, fun n hn => hwz n (List.mem_of_mem_take hn)⟩
    refine ⟨rfl, by simp only [maxLen] at hm; omega, fun _ => ⟨x, rfl, fun j p hj => ⟨[.int k p], rfl, rfl, fun i u hu => ?_⟩⟩⟩
    match i, hu with
    | 0, hu =>
      simp only [List.getElem?_cons_zero, Option.some.injEq] at hu
      subst hu
      rw [List.getElem?_take] at hj
      split at hj
      · rename_i hjl
        have hjz : j < zs.length := by omega
        have h2 := hcell j hjz
        rw [List.getD_eq_getElem?_getD, hj] at h2
        show W.cell? (x.add (j * 1 + 0)) = _
        rw [Nat.mul_one, Nat.add_zero]
        exact h2
      · cases hj
theorem wf_u8 {n : Int} (h : (Lit.int .u8 n).wf = true) : 0 ≤ n ∧ n ≤ 255 := by
  have h2 := h
  simp [Lit.wf, IntKind.min, IntKind.max, IntKind.bits, IntKind.signed] at h2
  omega
end Go.Proofs.Yticilaoibjbgfaa.Row
