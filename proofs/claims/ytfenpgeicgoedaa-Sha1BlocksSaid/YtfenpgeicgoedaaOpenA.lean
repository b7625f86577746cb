/- Arguments that are arrays or structs by value, opened by kinds; the kind of an array of whole numbers. -/
import Derived.Test.YtfenpgeicgoedaaOpen
import Derived.OpenShut
import Derived.WideShapes
set_option linter.unusedVariables false
namespace Go.Proofs.Ytfenpgeicgoedaa.Row
open Go.RowKit Go.Proofs.YtfenpgeicgoedaaW.PrintWords Go.Proofs.YtfenpgeicgoedaaW.PrintLast Go.Proofs.YtfenpgeicgoedaaW.PrintMore
/-- an array of n whole numbers, in line -/
def kdArr (k : IntKind) (n : Nat) : Kd (List Int) where
  sz := n
  E := []
  K _ xs cs := xs.length = n ∧ cs = xs.map (Value.int k)
  M _ _ _ xs cs := xs.length = n ∧ cs = xs.map (Value.int k)
  K_len := fun h => by obtain ⟨h1, rfl⟩ := h; rw [List.length_map]; exact h1
  K_one := fun h u hu => by
    obtain ⟨_, rfl⟩ := h
    obtain ⟨x, _, rfl⟩ := List.mem_map.1 hu
    rfl
  K_below := fun _ h => h
  K_of_M := fun h => h
  M_mono := fun _ h => h
  M_bound := fun h => h
  M_move := fun _ h => h
  M_lower := fun _ h => h
theorem opens_arr {t e : TypeId} {k : IntKind} {n : Nat} (hu : Try.prog.underlying t = some (.array n e)) (he : Try.prog.underlying e = some (.int k)) (hce : Try.prog.cellsOf e = 1) (hc : Try.prog.cellsOf t = n) (hn : 0 < n) : Opens (kdArr k n) t (fun xs => ∀ x ∈ xs, (Lit.int k x).wf = true) :=
  ⟨hn, hc, fun {H enc W base spare held fuel cs x} h => by
    obtain ⟨ys, m, _, _, hl, hyl, hy⟩ := DataW.trod_array hu h
    rw [hc] at hl
    have hp : ∀ i, i < n → ∃ z : Int, cs[i]? = some (.int k z) ∧ (Lit.int k z).wf = true := fun i hi => by
      have h1 := hy i hi
      rw [hce, Nat.mul_one, List.getElem?_eq_getElem (by omega)] at h1
      obtain ⟨z, h2, _, h3⟩ := DataW.trod_int he h1
      refine ⟨z, ?_, h3⟩
      have h4 : ((cs.drop i).take 1)[0]? = some (.int k z) := by rw [h2]; rfl
      rw [List.getElem?_take, if_pos (by decide), List.getElem?_drop, Nat.add_zero] at h4
      exact h4
    let un : Value → Int := fun v => match v with | .int _ z => z | _ => 0
    refine ⟨cs.map un, ⟨by rw [List.length_map, hl], ?_⟩, fun x hx => ?_⟩
    · apply List.ext_getElem?
      intro i
      rw [List.map_map, List.getElem?_map]
      rcases Nat.lt_or_ge i n with hi | hi
      · obtain ⟨z, h1, _⟩ := hp i hi
        rw [h1]
        rfl
      · rw [List.getElem?_eq_none (by omega)]
        rfl
    · obtain ⟨v, hv, rfl⟩ := List.mem_map.1 hx
      obtain ⟨i, hi⟩ := List.mem_iff_getElem?.1 hv
      have hin : i < n := by have := (List.getElem?_eq_some_iff.1 hi).1; omega
      obtain ⟨z, h1, h2⟩ := hp i hin
      rw [h1] at hi
      injection hi with hi
      subst hi
      exact h2⟩
theorem okWide_array {P : Program} {w : World} {r : Reach} {base : Nat} {t : TypeId} {v : Value} {n : Nat} {e : TypeId} (ht : P.underlying t = some (.array n e)) (h : Value.okWide P w r base t v) : ∃ cs, v = .agg cs ∧ cs.size = P.cellsOf t := by
  simp only [Value.okWide, ht] at h
  obtain ⟨cs, h1, h2, _⟩ := h
  exact ⟨cs, h1, h2⟩
/-- An argument that is an array or a struct. -/
theorem open_kagg {α : Type} {d : Kd α} {t : TypeId} {ok : α → Prop} (hO : Opens d t ok) {H : Type} {enc : TypeId × Value → H} {W : World} {base : Nat} {spare : Nat → Bool} {held : Bool} {cs : Array Value} {dd : DataW H} {ps : List MemPlace}
    (h : DataW.Trod enc Try.prog W base spare held t (.agg cs) dd ps) : ∃ x : α, d.K W x cs.toList ∧ ok x := by
  obtain ⟨fuel, hf⟩ := h
  exact hO.opens hf
end Go.Proofs.Ytfenpgeicgoedaa.Row
