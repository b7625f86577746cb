/- copy of bytes into an array of bytes in a block of its own. -/
import Derived.Test.YtfenpgeicgoedaaArr2
import Derived.Laws.CopyOwn
set_option linter.unusedSimpArgs false
set_option linter.unusedVariables false
namespace Go.Proofs.Ytfenpgeicgoedaa.Lib
open Go.RowKit Go.Proofs.YtfenpgeicgoedaaW.PrintWords Go.Proofs.YtfenpgeicgoedaaW.PrintLast Go.Proofs.YtfenpgeicgoedaaW.PrintMore Go.Proofs.Ytfenpgeicgoedaa.Lex
theorem size5 : (Try.prog.info? 5).map (·.size) = some 1 := by kernel_rfl
section
variable {ops : Array Oper} {rest : List Oper} {o : Oper} {a : Act} {Q : Exit → Act → World → Prop}
theorem ap_copyA {W : World} {g t : Nat} {xs ys : List Int} (s x : Operand) (hgd : o.guard = none)
    (ho : o.op = .call { callee := .builtin .copy, args := #[s, x], argTypes := #[22, 22] })
    (hA : Arr .u8 g t W xs) {sp : Option Addr} (hR : Kd.C KB W sp ys.length ys) {n m dCap c : Nat} (hn : n = xs.length) (hm : m = ys.length)
    (hs : a.eval s = .slice (some ⟨g, 0, none⟩) n dCap) (hx : a.eval x = .slice sp m c) {B : Nat} {w0 : World} (hb : Below B w0 W) (hB : B ≤ g)
    (h : ∀ w1, Arr .u8 g t w1 (ys.take xs.length ++ xs.drop ys.length) → Below B w0 w1 → wpList Try.prog ops Q rest (a.put o.dst (.int .i64 (min ys.length xs.length : Nat))) w1) :
    wpList Try.prog ops Q (o :: rest) a W := by
  subst hn hm
  have hl : ((ys.take xs.length).map (Value.int .u8)).length = min ys.length xs.length := by rw [List.length_map, List.length_take]; omega
  refine wpList_copy_splice hgd s x 22 22 ho 5 Try.underlying22 size5 _ _ xs.length dCap ys.length c hs hx g 0 (xs.map (Value.int .u8)) t hA ((ys.take xs.length).map (Value.int .u8)) hl ?_ (by rw [hl, List.length_map]; omega) (by intro v hv; obtain ⟨z, _, rfl⟩ := List.mem_map.1 hv; rfl) B w0 hb hB ?_
  · intro hp
    rw [hl] at hp
    obtain ⟨b, o', e, _⟩ := C_byte hR 0 (by omega)
    refine ⟨rfl, _, e, fun j v hj => ?_⟩
    rw [List.getElem?_map, List.getElem?_take] at hj
    split at hj
    · obtain ⟨z, hz, rfl⟩ := Option.map_eq_some_iff.1 hj
      have hjl := (List.getElem?_eq_some_iff.1 hz).1
      obtain ⟨b2, o2, e2, hc⟩ := C_byte hR j hjl
      rw [e] at e2
      injection e2 with e2
      injection e2 with e3 e4
      subst e3 e4
      rw [List.getD_eq_getElem?_getD, hz] at hc
      rw [add_none]
      exact hc
    · cases hj
  · intro w1 hg hb1
    have h1 := hg.out
    have e : splice (xs.map (Value.int .u8)) 0 ((ys.take xs.length).map (Value.int .u8)) = (ys.take xs.length ++ xs.drop ys.length).map (Value.int .u8) := by
      unfold splice
      rw [hl, List.take_zero, List.nil_append, List.map_append, Nat.zero_add]
      congr 1
      rw [← List.map_drop]
      congr 1
      rcases Nat.le_total ys.length xs.length with h2 | h2
      · rw [Nat.min_eq_left h2]
      · rw [Nat.min_eq_right h2, List.drop_of_length_le (Nat.le_refl _), List.drop_of_length_le h2]
    rw [e] at h1
    have h2 := h w1 h1 hb1
    rw [hl]
    exact h2
end
end Go.Proofs.Ytfenpgeicgoedaa.Lib
