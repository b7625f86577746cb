/- copy of bytes into an array of bytes in a block of its own. -/
import Derived.Test.YtfeohojpjncgaaaArr2
import Derived.Laws.CopyOwn
set_option linter.unusedSimpArgs false
set_option linter.unusedVariables false
namespace Go.Proofs.Ytfeohojpjncgaaa.Lib
open Go.RowKit Go.Proofs.YtfeohojpjncgaaaW.PrintWords Go.Proofs.YtfeohojpjncgaaaW.PrintLast Go.Proofs.YtfeohojpjncgaaaW.PrintMore Go.Proofs.Ytfeohojpjncgaaa.Lex
theorem size5 : (Try.prog.info? 5).map (·.size) = some 1 := by kernel_rfl
/-- The same as an equation of the run (for a walk's facts). -/
theorem run_copyA {W : World} {g t : Nat} {xs ys : List Int} (hA : Arr .u8 g t W xs) {sp : Option Addr} (hR : Kd.C KB W sp ys.length ys) {n m : Nat} (hn : n = xs.length) (hm : m = ys.length) (dCap c : Nat) :
    ∃ W', (∀ ty, (Builtin.copy_ #[22, 22] ty #[.slice (some ⟨g, 0, none⟩) n dCap, .slice sp m c]).run Try.prog W = .ok (.int .i64 (min ys.length xs.length : Nat)) W') ∧ Arr .u8 g t W' (ys.take xs.length ++ xs.drop ys.length) ∧ But W.heap.size (fun j => j = g) W W' := by
  subst hn hm
  rcases Nat.eq_zero_or_pos (min ys.length xs.length) with h0 | h0
  · refine ⟨W, fun ty => ?_, ?_, But.refl _ _ _⟩
    · have h := run_copy_none (P := Try.prog) W 22 22 ty 5 (some ⟨g, 0, none⟩) sp xs.length dCap ys.length c Try.underlying22 size5 h0
      rw [h0]
      exact h
    · have e : ys.take xs.length ++ xs.drop ys.length = xs := by
        rcases Nat.eq_zero_or_pos ys.length with hy | hy
        · have := List.length_eq_zero_iff.1 hy
          subst this
          simp
        · have hx : xs.length = 0 := by omega
          have := List.length_eq_zero_iff.1 hx
          subst this
          simp
      rw [e]
      exact hA
  · have hl : ((ys.take xs.length).map (Value.int .u8)).length = min ys.length xs.length := by rw [List.length_map, List.length_take]; omega
    obtain ⟨b, o', e, _⟩ := C_byte hR 0 (by omega)
    subst e
    have hsrc : ∀ j v, ((ys.take xs.length).map (Value.int .u8))[j]? = some v → W.cell? ((⟨b, o', none⟩ : Addr).add j) = some v := fun j v hj => by
      rw [List.getElem?_map, List.getElem?_take] at hj
      split at hj
      · obtain ⟨z, hz, rfl⟩ := Option.map_eq_some_iff.1 hj
        have hjl := (List.getElem?_eq_some_iff.1 hz).1
        obtain ⟨b2, o2, e2, hc⟩ := C_byte hR j hjl
        injection e2 with e2
        injection e2 with e3 e4
        subst e3 e4
        rw [List.getD_eq_getElem?_getD, hz] at hc
        rw [add_none]
        exact hc
      · cases hj
    have hrow := fun ty => run_copy_row (P := Try.prog) W 22 22 ty 5 g 0 xs.length dCap ⟨b, o', none⟩ ys.length c (xs.map (Value.int .u8)).toArray t ((ys.take xs.length).map (Value.int .u8)) Try.underlying22 size5 hA hl hsrc (by rw [hl]; simp; omega) (by intro v hv; obtain ⟨z, _, rfl⟩ := List.mem_map.1 hv; rfl)
    have e : ((xs.map (Value.int .u8)).toArray.toList.take 0 ++ (ys.take xs.length).map (Value.int .u8) ++ (xs.map (Value.int .u8)).toArray.toList.drop (0 + ((ys.take xs.length).map (Value.int .u8)).length)).toArray = ((ys.take xs.length ++ xs.drop ys.length).map (Value.int .u8)).toArray := by
      rw [hl]
      have e2 : (xs.map (Value.int .u8)).drop (min ys.length xs.length) = (xs.drop ys.length).map (Value.int .u8) := by
        rw [← List.map_drop]
        rcases Nat.le_total ys.length xs.length with h2 | h2
        · rw [Nat.min_eq_left h2]
        · rw [Nat.min_eq_right h2, List.drop_of_length_le (Nat.le_refl _), List.drop_of_length_le h2]
      simp only [List.take_zero, List.nil_append, Nat.zero_add, e2, List.map_append]
    refine ⟨W.setRow g ((ys.take xs.length ++ xs.drop ys.length).map (Value.int .u8)).toArray, fun ty => (by have h := hrow ty; rw [e, hl] at h; exact h), setRow_heap W g _ _ t _ hA, ⟨rfl, rfl, rfl, by simp [World.setRow], fun k hk hs => setRow_other W g k _ hs⟩⟩
section
variable {ops : Array Oper} {rest : List Oper} {o : Oper} {a : Act} {Q : Exit → Act → World → Prop}
theorem ap_copyA {W : World} {g t : Nat} {xs ys : List Int} (s x : Operand) (hgd : o.guard = none)
    (ho : o.op = .call { callee := .builtin .copy, args := #[s, x], argTypes := #[22, 22] })
    (hA : Arr .u8 g t W xs) {sp : Option Addr} (hR : Kd.C KB W sp ys.length ys) {n m dCap c : Nat} (hn : n = xs.length) (hm : m = ys.length)
    (hs : a.eval s = .slice (some ⟨g, 0, none⟩) n dCap) (hx : a.eval x = .slice sp m c) {B : Nat} {w0 : World} (hb : Below B w0 W) (hB : B ≤ g)
    (h : ∀ w1, Arr .u8 g t w1 (ys.take xs.length ++ xs.drop ys.length) → Below B w0 w1 → wpList Try.prog ops Q rest (a.put o.dst (.int .i64 (min ys.length xs.length : Nat))) w1) :
    wpList Try.prog ops Q (o :: rest) a W := by
  subst hn hm
  have hl : ((ys.take xs.length).map (Value.int .u8)).length = min ys.length xs.length := by rw [List.length_map, List.length_take]; omega
  refine wpList_copy_splice hgd s x 22 22 ho 5 Try.underlying22 size5 _ _ xs.length dCap ys.length c hs hx g 0 (xs.map (Value.int .u8)) t hA ((ys.take xs.length).map (Value.int .u8)) hl ?_ (by rw [hl, List.length_map]; omega) (by intro v hv; obtain ⟨z, _, rfl⟩ := List.mem_map.1 hv; rfl) B w0 hb hB ?_
  · intro hp
    rw [hl] at hp
    obtain ⟨b, o', e, _⟩ := C_byte hR 0 (by omega)
    refine ⟨rfl, _, e, fun j v hj => ?_⟩
    rw [List.getElem?_map, List.getElem?_take] at hj
    split at hj
    · obtain ⟨z, hz, rfl⟩ := Option.map_eq_some_iff.1 hj
      have hjl := (List.getElem?_eq_some_iff.1 hz).1
      obtain ⟨b2, o2, e2, hc⟩ := C_byte hR j hjl
      rw [e] at e2
      injection e2 with e2
      injection e2 with e3 e4
      subst e3 e4
      rw [List.getD_eq_getElem?_getD, hz] at hc
      rw [add_none]
      exact hc
    · cases hj
  · intro w1 hg hb1
    have h1 := hg.out
    have e : splice (xs.map (Value.int .u8)) 0 ((ys.take xs.length).map (Value.int .u8)) = (ys.take xs.length ++ xs.drop ys.length).map (Value.int .u8) := by
      unfold splice
      rw [hl, List.take_zero, List.nil_append, List.map_append, Nat.zero_add]
      congr 1
      rw [← List.map_drop]
      congr 1
      rcases Nat.le_total ys.length xs.length with h2 | h2
      · rw [Nat.min_eq_left h2]
      · rw [Nat.min_eq_right h2, List.drop_of_length_le (Nat.le_refl _), List.drop_of_length_le h2]
    rw [e] at h1
    have h2 := h w1 h1 hb1
    rw [hl]
    exact h2
end
end Go.Proofs.Ytfeohojpjncgaaa.Lib
