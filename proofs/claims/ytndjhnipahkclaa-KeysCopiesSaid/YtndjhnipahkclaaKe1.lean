/- Keys: cells of a master key; stores and loads of structs in blocks of their own; none, find. -/
import Derived.Test.YtndjhnipahkclaaObj
import Derived.Test.YtndjhnipahkclaaLex
import Derived.Test.YtndjhnipahkclaaPKeysPlayx0
import Derived.Deep.MidRow
import Derived.Laws.EntriesVeiled
import Derived.WalkSpells
set_option linter.unusedSimpArgs false
set_option linter.unusedVariables false
namespace Go.Proofs.Ytndjhnipahkclaa.Ke
open Go.RowKit Go.Proofs.YtndjhnipahkclaaW.PrintWords Go.Proofs.YtndjhnipahkclaaW.PrintLast Go.Proofs.YtndjhnipahkclaaW.PrintMore Go.Proofs.Ytndjhnipahkclaa.PKeysPlay Go.Proofs.Ytndjhnipahkclaa.Lex Go.Proofs.Ytndjhnipahkclaa.Lib
abbrev ptr (b : Nat) : Value := .pointer (some ⟨b, 0, none⟩)
/-- a master key's cells -/
def c36 (x : S36) : List Value := [.int .u32 x.f0, .int .u8 x.f1, .int .u8 x.f2, .int .i64 x.f3, .string x.f4]
theorem C_key {w : World} {A : Option Addr} {n : Nat} {l : List S36} (h : Kd.C k36 w A n l) (k : Nat) (hk : k < n) :
    ∃ b o, A = some ⟨b, o, none⟩ ∧ w.cell? ⟨b, o + k * 5, none⟩ = some (.int .u32 (l.getD k z36).f0) ∧ w.cell? ⟨b, o + k * 5 + 1, none⟩ = some (.int .u8 (l.getD k z36).f1) ∧ w.cell? ⟨b, o + k * 5 + 2, none⟩ = some (.int .u8 (l.getD k z36).f2) ∧ w.cell? ⟨b, o + k * 5 + 3, none⟩ = some (.int .i64 (l.getD k z36).f3) ∧ w.cell? ⟨b, o + k * 5 + 4, none⟩ = some (.string (l.getD k z36).f4) := by
  obtain ⟨ad, c, e, _, hK, hc0⟩ := Kd.C_get h z36 k (by omega) (by omega)
  have hK' := k36_open hK
  subst hK'
  have hq := hc0 0 _ rfl
  have hq1 := hc0 1 _ rfl
  have hq2 := hc0 2 _ rfl
  have hq3 := hc0 3 _ rfl
  have hq4 := hc0 4 _ rfl
  obtain ⟨b, o, e1⟩ := C_addr (by show 0 < 5; decide) h (by omega)
  rw [e] at e1
  injection e1 with e1
  subst e1
  rw [add_none] at hq hq1 hq2 hq3 hq4
  exact ⟨b, o, e, hq, hq1, hq2, hq3, hq4⟩
/-- cells laid over others, one by one -/
def putAll : List Value → Nat → List Value → List Value
  | cs, _, [] => cs
  | cs, o, v :: r => putAll (cs.set o v) (o + 1) r
theorem putAll_len : ∀ (vs cs : List Value) (o : Nat), (putAll cs o vs).length = cs.length
  | [], cs, o => rfl
  | v :: r, cs, o => by rw [putAll, putAll_len r]; simp
theorem ob_setCells {g : Nat} : ∀ (vs : List Value) (o : Nat) (w : World) (cs : List Value), Ob g w cs → o + vs.length ≤ cs.length → Ob g (w.setCells g o vs) (putAll cs o vs)
  | [], o, w, cs, h, _ => h
  | v :: r, o, w, cs, h, hl => by
    simp only [List.length_cons] at hl
    exact ob_setCells r (o + 1) _ _ (h.set o (by omega) v) (by simp; omega)
theorem but_setCells (g : Nat) : ∀ (vs : List Value) (o : Nat) (w : World), But w.heap.size (fun k => k = g) w (w.setCells g o vs)
  | [], _, w => But.refl _ _ w
  | v :: r, o, w => by
    have h := but_setCells g r (o + 1) (w.setCell ⟨g, o, none⟩ v)
    have h2 := But.setCell (But.refl w.heap.size (fun k => k = g) w) (p := ⟨g, o, none⟩) (.inr rfl) v
    exact h2.trans (h.mono h2.size (fun _ _ e => e))
theorem putAll5 (a b c d e : Value) (x : S36) : putAll [a, b, c, d, e] 0 (c36 x) = c36 x := rfl
theorem hi36 (x : S36) : (Try.prog.info? 36).map (·.size) = some (c36 x).length := by show _ = some 5; kernel_rfl
theorem one36 (x : S36) : (c36 x).toArray.all (·.oneCell') = true := by simp [c36, Value.oneCell']
/-- a master key stored whole over another one -/
theorem store36 {g : Nat} {w : World} {y x : S36} (h : Ob g w (c36 y)) : ∃ W', (storeVar 36 ⟨g, 0, none⟩ (.agg (c36 x).toArray)).run Try.prog w = .ok () W' ∧ Ob g W' (c36 x) ∧ But w.heap.size (fun k => k = g) w W' := by
  refine ⟨_, run_storeVar_mid w g 0 36 (c36 x).toArray (fun j hj => ?_) (by simpa using hi36 x) (one36 x), ob_setCells (c36 x) 0 w _ h (by simp [c36]), but_setCells g _ 0 w⟩
  have hj5 : j < (c36 y).length := by simpa [c36] using hj
  obtain ⟨h1, h2⟩ := h j _ (List.getElem?_eq_getElem hj5)
  rw [Nat.zero_add]
  exact ⟨by rw [h1]; rfl, h2⟩
theorem load36 {g : Nat} {w : World} {x : S36} (h : Ob g w (c36 x)) : (loadVar 36 ⟨g, 0, none⟩).run Try.prog w = .ok (.agg (c36 x).toArray) w :=
  run_loadVar_mid w g 0 36 (c36 x) _ (fun j v hj => by rw [Nat.zero_add]; exact (h j v hj).1) Try.underlying36 rfl (hi36 x)
section
variable {P : Program} {ops : Array Oper} {rest : List Oper} {a : Act} {Q : Exit → Act → World → Prop} {w : World}
theorem pl_load {o : Oper} (hg : o.guard = none) (T : TypeId) (x : Operand) (ho : o.op = .load T x) (ad : Addr) (v : Value) (hrun : (loadVar T ad).run P w = .ok v w) (hx : a.eval x = .pointer (some ad)) (h : wpList P ops Q rest (a.put o.dst v) w) : wpList P ops Q (o :: rest) a w :=
  wpList_plain hg fun K hK => by
    unfold Oper.wp execOp
    simp only [ho, hx, Instr.loadAt, Instr.sureAddr, Sem.run_bind, Sem.run_pure, Result.andThen_ok, hrun]
    exact hK _ _ h
theorem pl_store {o : Oper} (hg : o.guard = none) (T : TypeId) (x y : Operand) (ho : o.op = .store T x y) (ad : Addr) (v : Value) {w' : World} (hrun : (storeVar T ad v).run P w = .ok () w') (hx : a.eval x = .pointer (some ad)) (hy : a.eval y = v) (h : wpList P ops Q rest (a.put o.dst undef) w') : wpList P ops Q (o :: rest) a w :=
  wpList_plain hg fun K hK => by
    unfold Oper.wp execOp
    simp only [ho, hx, hy, Instr.storeAt, Instr.sureAddr, Sem.run_bind, Sem.run_pure, Result.andThen_ok, hrun]
    exact hK _ _ h
end
/-- a master key as a value -/
abbrev a36 (x : S36) : Value := .agg #[.int .u32 x.f0, .int .u8 x.f1, .int .u8 x.f2, .int .i64 x.f3, .string x.f4]
theorem map_nil : ∀ (w : World) (r : Option Nat), (binOp .eql 47 (.map r) (.map none)).run Try.prog w = .ok (.bool r.isNone) w := fun w r => run_eql_map_nil w _ _ _ r Try.underlying47
/-- Keys: the object at a block -/
theorem none_nil (w : World) : Calls Try.prog 29 #[.pointer none] w fun e w' => e = .returned (.bool true) ∧ w = w' := by
  go_enter Try.func29, Try.ntmps29
  go_wp2
  go_ret
  exact ⟨rfl, rfl⟩
theorem none_zero {p : Nat} {w : World} (c1 : w.cell? ⟨p, 1, none⟩ = some (.map none)) : Calls Try.prog 29 #[ptr p] w fun e w' => e = .returned (.bool true) ∧ w = w' := by
  have qm := map_nil
  go_enter Try.func29, Try.ntmps29
  go_wp2
  go_ret
  exact ⟨rfl, rfl⟩
theorem none_some {p m : Nat} {w : World} (c1 : w.cell? ⟨p, 1, none⟩ = some (.map (some m))) : Calls Try.prog 29 #[ptr p] w fun e w' => e = .returned (.bool false) ∧ w = w' := by
  have qm := map_nil
  go_enter Try.func29, Try.ntmps29
  go_wp2
  go_ret
  exact ⟨rfl, rfl⟩
end Go.Proofs.Ytndjhnipahkclaa.Ke
