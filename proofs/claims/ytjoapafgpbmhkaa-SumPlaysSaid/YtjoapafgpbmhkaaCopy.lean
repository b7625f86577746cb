/- copy of two bytes into a row of one's own. -/
import Derived.Test.YtjoapafgpbmhkaaObj
import Derived.Laws.IdiomCopy
set_option linter.unusedSimpArgs false
set_option linter.unusedVariables false
namespace Go.Proofs.Ytjoapafgpbmhkaa.Lib
open Go.RowKit Go.Proofs.YtjoapafgpbmhkaaW.PrintWords Go.Proofs.YtjoapafgpbmhkaaW.PrintLast Go.Proofs.YtjoapafgpbmhkaaW.PrintMore Go.Proofs.Ytjoapafgpbmhkaa.Lex

theorem run_copy2 {w : World} {b g n cap : Nat} {xs : List Int} (HO : OB b w (.slice (some ⟨g, 0, none⟩) n cap) xs) (hx : xs.length = n) (i : Nat) (hi : i + 2 ≤ n) (ad : Option Addr) (x y : Int) (hR : Kd.C KB w ad 2 [x, y]) (dCap c ty : Nat) :
    (Builtin.copy_ #[23, 23] ty #[.slice (some ⟨g, i, none⟩) (n - i) dCap, .slice ad 2 c]).run Try.prog w = .ok (goInt 2) ((w.setCell ⟨g, i, none⟩ (.int .u8 x)).setCell ⟨g, i + 1, none⟩ (.int .u8 y)) := by
  obtain ⟨a0, o0, rfl, h0⟩ := C_byte hR 0 (by omega)
  obtain ⟨a1, o1, e1, h1⟩ := C_byte hR 1 (by omega)
  simp only [Option.some.injEq, Addr.mk.injEq, and_true] at e1
  obtain ⟨rfl, rfl⟩ := e1
  have hc : ∀ j, j < 2 → (w.cell? ⟨g, i + j, none⟩).isSome = true ∧ w.frozen? ⟨g, i + j, none⟩ = false := fun j hj => by
    obtain ⟨q, f⟩ := HO.cell (i + j) (by omega)
    exact ⟨by rw [q]; rfl, f⟩
  have hinf : (Try.prog.info? 5).map (·.size) = some 1 := by kernel_rfl
  have h := run_copy_cells (P := Try.prog) w 23 23 ty 5 g i (n - i) dCap ⟨a0, o0, none⟩ 2 c [.int .u8 x, .int .u8 y] Try.underlying23 hinf (by show 2 = min 2 (n - i); omega)
    (fun j v hj => by
      match j, hj with
      | 0, hj => injection hj with hj; subst hj; rw [add_none]; exact h0
      | 1, hj => injection hj with hj; subst hj; rw [add_none]; exact h1
      | j + 2, hj => simp at hj) (fun j hj => (hc j hj).1) (fun j hj => (hc j hj).2) (fun v hv => by simp at hv; rcases hv with rfl | rfl <;> rfl)
  exact h
section
variable {ops : Array Oper} {rest : List Oper} {o : Oper} {a : Act} {Q : Exit → Act → World → Prop}
theorem ap_copy2 {W : World} {b g n cap : Nat} {xs : List Int} (s x : Operand) (hgd : o.guard = none)
    (ho : o.op = .call { callee := .builtin .copy, args := #[s, x], argTypes := #[23, 23] })
    (HO : OB b W (.slice (some ⟨g, 0, none⟩) n cap) xs) (hx : xs.length = n) (i : Nat) (hi : i + 2 ≤ n) (ad : Option Addr) (u v : Int) (hR : Kd.C KB W ad 2 [u, v]) (dCap c : Nat)
    (hs : a.eval s = .slice (some ⟨g, i, none⟩) (n - i) dCap) (hy : a.eval x = .slice ad 2 c)
    (h : ∀ w1, w1 = ((W.setCell ⟨g, i, none⟩ (.int .u8 u)).setCell ⟨g, i + 1, none⟩ (.int .u8 v)) → OB b w1 (.slice (some ⟨g, 0, none⟩) n cap) ((xs.set i u).set (i + 1) v) → wpList Try.prog ops Q rest (a.put o.dst (.int .i64 2)) w1) :
    wpList Try.prog ops Q (o :: rest) a W := by
  refine wpList_plain hgd fun K hK => ?_
  have hrun := run_copy2 HO hx i hi ad u v hR dCap c o.type
  unfold Oper.wp execOp
  simp only [ho, resolve, invoke, builtin, Sem.run_bind, Sem.run_pure, Result.andThen_ok, List.map_toArray, List.map_cons, List.map_nil, hs, hy, hrun]
  exact hK _ _ (h _ rfl ((HO.put i u).put (i + 1) v))
end
end Go.Proofs.Ytjoapafgpbmhkaa.Lib
