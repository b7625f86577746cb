/- A region that draws its order, in a round of a range over a function (at the wide fence): walked as anywhere (regionR); a call in a round. -/
import Derived.Test.YticilaoibjbgfaaRange
import Derived.Test.YticilaoibjbgfaaLex
import Derived.OrdersIn
set_option linter.unusedVariables false
namespace Go.Proofs.Yticilaoibjbgfaa.Lex
open Go.RowKit Go.Proofs.YticilaoibjbgfaaW.PrintLast
section
variable {P : Program} {ops : Array Oper} {Q : Exit → Act → World → Prop} {S : World → Prop} {md : Region.Mode} {a : Act} {w : World} {l n : Nat}
def isDefer : Op → Bool
  | .defer _ => true
  | _ => false
theorem rows_wide {row : String} {args : Array Value} {R : Value → World → Prop} (h : Rows P row args w R) : RowsIn (Fence.wide.inRound l) n P row args w R :=
  fun c cs _ => let ⟨v, w', r, s⟩ := h c cs; ⟨v, w', r, stepsIn_wide.2 s⟩
theorem calls_round {f : FuncId} {args : Array Value} {R : Ending → World → Prop} (h : Calls P f args w R) : CallsIn (Fence.wide.inRound l) n P f args w R := CallsIn.inRound l (callsIn_wide.2 h)
theorem wpIn_of_wp {o : Oper} {K : Act → World → Prop} (hd : isDefer o.op = false) (h : o.wp P a w K Q) : o.wpIn (Fence.wide.inRound l) n P a w K Q := by
  refine ⟨fun _ _ => trivial, ?_⟩
  rw [Fence.inRound_round, Oper.semAt_some l _ _ (by intro c e; rw [e] at hd; cases hd)]
  unfold Oper.wp at h
  generalize (execOp a.eval o).run P w = r at *
  cases r with
  | ok x w' =>
    cases x <;> simp only [Oper.upon, Oper.uponIn] at h ⊢ <;> first
      | exact h
      | exact ⟨fun e => (by cases e), calls_round h⟩
      | exact ⟨fun e => (by cases e), rows_wide h⟩
  | halt x w' => cases x <;> simp only [Oper.upon, Oper.uponIn] at h ⊢ <;> exact h
theorem only_out : ¬ LetsOut (only Q) := fun ⟨_, _, h⟩ => h
theorem wpOpIn_of {i : Nat} {K : Act → World → Prop} (hd : ops.all (fun o => !isDefer o.op) = true) (h : wpOp P ops (only Q) i K a w) : wpOpIn (Fence.wide.inRound l) n P ops (only Q) i K a w := by
  unfold wpOp at h
  unfold wpOpIn
  split
  · rename_i ho
    rw [ho] at h
    exact h
  · rename_i o ho
    rw [ho] at h
    dsimp only at h
    have hdo : isDefer o.op = false := by
      have := Array.all_eq_true_iff_forall_mem.1 hd o (Array.mem_of_getElem? ho)
      simpa using this
    split
    · rename_i hw
      rw [if_pos hw] at h
      rcases h with h | ⟨_, h⟩
      · exact wpIn_of_wp hdo h
      · exact absurd h only_out
    · rename_i hw
      rw [if_neg hw] at h
      exact ⟨fun _ _ => trivial, h⟩
theorem wpAnyIn_of (hd : ops.all (fun o => !isDefer o.op) = true) : ∀ (fuel : Nat) (listed : Array Bool) (a : Act) (w : World), wpAny P md ops (only Q) fuel listed a w → wpAnyIn (Fence.wide.inRound l) n P md ops (only Q) fuel listed a w
  | 0, _, _, _, h => h
  | fuel + 1, _, _, _, h => ⟨h.1, fun i hi => wpOpIn_mono (fun a' w' h' => wpAnyIn_of hd fuel _ a' w' h') (wpOpIn_of hd (h.2 i hi))⟩
/-- THE REGION, in the order that is chosen, in a round; nothing in it panics. -/
theorem regionR {id : Nat} (order : List (Nat × LK)) (S : World → Prop) (hm : P.follows .mixedOrders = true)
    (hc : (order.length == ops.size && (lexOK .any ops (exOf order) order (Array.replicate ops.size false) && ops.all (fun o => !isDefer o.op))) = true)
    (hS : S w.drew) (h : S w.drew → wpLex P ops (only Q) S order a w.drew) : (Code.region id ops true).wpIn (Fence.wide.inRound l) n P Q a w := by
  simp only [Bool.and_eq_true, beq_iff_eq] at hc
  refine wpIn_mono (Q := only Q) (wpIn_region_any hm (wpAnyIn_of hc.2.2 _ _ _ _ (wpAny_of_last (S := S) (ds := exOf order) _ _ _ _ ?_))) ?_
  · have := lex_any (Q := only Q) (fun _ _ _ _ _ h => h) order _ a w.drew hc.2.1 hS (h hS)
    rw [hc.1] at this
    exact this
  · intro e a w h
    cases e <;> first | exact h | exact h.elim
/-- a load of a whole array -/
theorem run_load_arr {oi : Oper} {T : TypeId} {x : Operand} {ad : Addr} {v : Value} {w' : World} (hop : oi.op = .load T x) (hx : a.eval x = .pointer (some ad)) (hld : (loadVar T ad).run P w' = .ok v w') : (execOp a.eval oi).run P w' = .ok (.value v) w' := by
  simp [execOp, hop, hx, Instr.loadAt, Instr.sureAddr, hld, Result.andThen]
end
end Go.Proofs.Yticilaoibjbgfaa.Lex
