/- Keys: rows of master keys that are one's own; slices.Clone, All. -/
import Derived.Test.YtndjhnipahkclaaKe6
import Derived.Lib.SliceRun
set_option linter.unusedSimpArgs false
set_option linter.unusedVariables false
namespace Go.Proofs.Ytndjhnipahkclaa.Ke
open Go.RowKit Go.Proofs.YtndjhnipahkclaaW.PrintWords Go.Proofs.YtndjhnipahkclaaW.PrintLast Go.Proofs.YtndjhnipahkclaaW.PrintMore Go.Proofs.Ytndjhnipahkclaa.PKeysPlay Go.Proofs.Ytndjhnipahkclaa.Lex Go.Proofs.Ytndjhnipahkclaa.Lib
/-- a row of master keys in a block of one's own -/
def OK (b : Nat) (w : World) (v : Value) (l : List S36) : Prop := Kd.R k36 36 w b (fun _ => True) v l
theorem info36 : (Try.prog.info? 36).map (fun i => (i.zero, i.size, i.bytes)) = some (some (a36 z36), 5, 32) := by kernel_rfl
theorem OK.nil (b : Nat) (w : World) : OK b w (.slice none 0 0) [] := Kd.R_nil _ _ _ _ _
theorem OK.lit0 (w : World) : OK w.heap.size (w.alloc (.cells #[] 36)) (.slice (some ⟨w.heap.size, 0, none⟩) 0 0) [] :=
  ⟨fun k hk => trivial, OwnRow.lit (ps := ([] : List S36)) (inner := []) w w.heap.size ⟨rfl, fun j x hj => by simp at hj⟩ (Nat.le_refl _) (by decide)⟩
theorem OK.reads {b : Nat} {w : World} {v : Value} {l : List S36} (h : OK b w v l) : ∃ A c, v = .slice A l.length c ∧ l.length ≤ c ∧ Kd.C k36 w A l.length l := Kd.R_reads h
section
variable {ops : Array Oper} {rest : List Oper} {o : Oper} {a : Act} {Q : Exit → Act → World → Prop}
theorem ap_keys {W : World} (b : Nat) (s x : Operand) (hgd : o.guard = none)
    (ho : o.op = .call { callee := .builtin .append, args := #[s, x], argTypes := #[27, 27] })
    {v : Value} {xs ys : List S36} {A : Option Addr} {m c : Nat} (HO : OK b W v xs) (HR : Kd.C k36 W A m ys)
    (hs : a.eval s = v) (hx : a.eval x = .slice A m c) (hb : b ≤ W.heap.size) (hl : xs.length + m ≤ 1000000)
    (h : ∀ v1 w1, OK b w1 v1 (xs ++ ys) → Below b W w1 → W.grownBy w1 v.ownBlock → wpList Try.prog ops Q rest (a.put o.dst v1) w1) :
    wpList Try.prog ops Q (o :: rest) a W :=
  Kd.R_append_rows (w0 := W) k36 (Rr := fun x cs => k36.K W x cs) b hgd s x 27 36 (a36 z36) 32 ho Try.underlying27 info36 rfl (by show 0 < 5; decide) (by decide) v xs ys A m c (fun _ => True) (fun _ => False) hs hx HO HR (fun x cs hK => by rw [k36_open hK]; exact k36_mkM _ _ _ _) (fun _ h => h.elim) (fun _ _ => trivial) (Below.refl _ _) hb (by omega) (fun v1 w1 h1 h2 h3 _ => h v1 w1 h1 h2 h3)
end
set_option maxHeartbeats 1000000 in
theorem cloneK (A : Option Addr) (c : Nat) (l : List S36) (w : World) (hx : Kd.C k36 w A l.length l) (hl : l.length ≤ 100000) :
    Calls Try.prog 30 #[.slice A l.length c] w fun e w' => ∃ v, e = .returned v ∧ OK w.heap.size w' v l ∧ Below w.heap.size w w' := by
  have hn := fun (w : World) => Lib.run_eql_slice_nil (P := Try.prog) w 27 36 A l.length c 0 0 Try.underlying27
  have HX := Aside0.mk hx
  clear hx
  go_enter Try.func30, Try.ntmps30
  cases A with
  | none =>
    have hN : (none : Option Addr).isNone = true := rfl
    go_wp2
    go_ret
    have hz : l = [] := by
      obtain ⟨h1, h2, h3⟩ := HX.out
      rcases Nat.eq_zero_or_pos l.length with h | h
      · exact List.length_eq_zero_iff.1 h
      · obtain ⟨ad, e, _⟩ := h3 h
        cases e
    subst hz
    exact ⟨_, rfl, OK.nil _ _, Below.refl _ _⟩
  | some ad =>
    have hN : (some ad).isNone = false := rfl
    go_wp2_with ((with_reducible refine gate_builtin (b := .append) (xs := #[.tmp 5, .tmp 6]) rfl ?_); refine ap_keys w.heap.size _ _ rfl rfl (OK.lit0 w) (Kd.C_below HX.out (below_alloc (Below.refl _ _) _)) rfl rfl (by simp) (by simp; omega) ?_; intro v1 w1 ho hb hg)
    go_ret
    exact ⟨_, rfl, ho, (below_alloc (Below.refl _ _) _).trans hb⟩
theorem allC {S : Nat → Prop} (p m n : Nat) (A : Option Addr) (c : Nat) (l : List S36) (f : Int → Option Int) (w : World) (hk : KS S p m n w A c l f) (hl : l.length ≤ 100000) :
    Calls Try.prog 15 #[ptr p] w fun e w' => ∃ v, e = .returned v ∧ OK w.heap.size w' v l ∧ Below w.heap.size w w' := by
  have h0 := hk.c0
  have h1 := hk.c1
  have HC := Aside0.mk (cloneK A c l w hk.row hl)
  clear hk
  go_enter Try.func15, Try.ntmps15
  go_wp2_with fail
  refine (none_some h1).mono ?_
  rintro e w' ⟨rfl, rfl⟩
  go_wp2_with fail
  refine HC.out.mono ?_
  rintro e w2 ⟨v, rfl, ho, hb⟩
  have HO := Aside0.mk ho
  have HB := Aside0.mk hb
  clear ho hb
  go_wp2_with fail
  go_ret
  exact ⟨v, rfl, HO.out, HB.out⟩
end Go.Proofs.Ytndjhnipahkclaa.Ke
