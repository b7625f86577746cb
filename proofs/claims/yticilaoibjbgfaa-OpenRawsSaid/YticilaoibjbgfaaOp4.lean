/- Openings: the walks of caps, Check. -/
import Derived.Test.YticilaoibjbgfaaOp3
set_option linter.unusedSimpArgs false
set_option linter.unusedVariables false
namespace Go.Proofs.Yticilaoibjbgfaa.Op
open Go.RowKit Go.Proofs.YticilaoibjbgfaaW.PrintWords Go.Proofs.YticilaoibjbgfaaW.PrintLast Go.Proofs.YticilaoibjbgfaaW.PrintMore Go.Proofs.Yticilaoibjbgfaa.POpenRaws Go.Proofs.Yticilaoibjbgfaa.Lib Go.Proofs.Yticilaoibjbgfaa.High Go.Proofs.Yticilaoibjbgfaa.Lex

abbrev NC (b : Nat) (w : World) (v : Value) (xs : List S54) : Prop := Kd.N k54 54 w b (fun _ => True) v xs
section
variable {ops : Array Oper} {rest : List Oper} {o : Oper} {a : Act} {Q : Exit → Act → World → Prop}
/-- append(v, u...) of capabilities to a row of the call's own. -/
theorem ap_caps {W : World} (b : Nat) (s x : Operand) (hgd : o.guard = none)
    (ho : o.op = .call { callee := .builtin .append, args := #[s, x], argTypes := #[24, 24] })
    {v : Value} {xs ys : List S54} {A : Option Addr} {m c : Nat} {okp : Nat → Prop} (HO : NC b W v xs) (HR : Kd.F k54 W okp A m ys) (hokp : ∀ k, okp k → some k ≠ v.ownBlock)
    (hs : a.eval s = v) (hx : a.eval x = .slice A m c) (hb : b ≤ W.heap.size) (hl : xs.length + m ≤ 1000000)
    (h : ∀ v1 w1, NC b w1 v1 (xs ++ ys) → Below b W w1 → W.grownBy w1 v.ownBlock → wpList Try.prog ops Q rest (a.put o.dst v1) w1) :
    wpList Try.prog ops Q (o :: rest) a W :=
  Kd.N_append_rows k54 (w0 := W) b hgd s x 24 54 (.agg #[.int .u8 0, .slice none 0 0]) 32 ho Try.underlying24 info54 rfl (by decide) (by decide) v xs ys A m c (fun _ => True) okp hs hx HO HR (fun k hk => ⟨trivial, hokp k hk⟩) (fun _ _ => trivial) (Below.refl _ _) hb (by omega) (fun v1 w1 h1 h2 h3 _ => h v1 w1 h1 h2 h3)
end
theorem high4_len (v : Nat) : (high4 v).length = 4 := rfl
theorem laidO_len (o : Opn) : (laidO o).length = 6 + (laidL o.l).length := by rw [laidO_eq]; simp [high4]; omega
set_option maxRecDepth 100000 in
set_option maxHeartbeats 4000000 in
theorem capsC (o : Opn) (ho : o.Wf) (A : Option Addr) (c : Nat) (w : World) (hx : Kd.C k54 w A o.l.length o.l) (hc : o.l.length ≤ c) (hL : (laidO o).length < 140737488355000) (hl : o.l.length < 500000) :
    Calls Try.prog 25 #[aO o A c] w fun e w' => ∃ v, e = .returned v ∧ OB w.heap.size w' v (laidO o) ∧ Below w.heap.size w w' := by
  obtain ⟨kk, hkk⟩ := laid_ex (⟨65, high4 o.a⟩ :: o.l) (by simp; omega) (by show (laidO o).length < _; omega)
  have HKK := Aside0.mk hkk
  have hb := below_alloc (Below.refl w.heap.size w) (.cells #[.int .u32 o.a, .int .u16 o.h, .int .u32 o.i, .slice A o.l.length c] 26)
  have hob := Ob.new w [.int .u32 o.a, .int .u16 o.h, .int .u32 o.i, .slice A o.l.length c] _ rfl 26
  obtain ⟨V, hV⟩ : ∃ V, w.alloc (.cells #[.int .u32 o.a, .int .u16 o.h, .int .u32 o.i, .slice A o.l.length c] 26) = V := ⟨_, rfl⟩
  have hsV : V.heap.size = w.heap.size + 1 := by rw [← hV]; simp
  rw [hV] at hb hob
  have HV := Aside0.mk hV
  have HBV := Aside0.mk hb
  have HXV := Aside0.mk (Kd.C_below hx hb)
  have HCE : Aside0 (∀ U : World, Below V.heap.size V U → U.cell? ⟨w.heap.size, 0, none⟩ = some (.int .u32 o.a) ∧ U.cell? ⟨w.heap.size, 3, none⟩ = some (.slice A o.l.length c)) := ⟨fun U hU => ⟨((hob.below hU (by omega)) 0 _ rfl).1, ((hob.below hU (by omega)) 3 _ rfl).1⟩⟩
  have ha := ho.1
  clear hx hb hob hsV hV hkk ho hL
  go_enter Try.func25, Try.ntmps25
  go_wp2_with fail
  rw [HV.out]
  refine region [(0, .p), (5, .p), (1, .t), (6, .t), (2, .o), (3, .p), (4, .o), (7, .o), (8, .q), (9, .p)] (fun U => U.cell? ⟨w.heap.size, 0, none⟩ = some (.int .u32 o.a) ∧ U.cell? ⟨w.heap.size, 3, none⟩ = some (.slice A o.l.length c)) (by kernel_rfl) (by kernel_rfl) (fun _ _ _ _ _ h => h) (HCE.out _ (below_drew (Below.refl _ _))) (fun hHeld => ?_)
  iterate 2 (refine lex_p rfl rfl rfl (by intro w'; go_simp; with_reducible rfl) (by simp only [Act.put, List.setIfInBounds_toArray, List.set_cons_zero, List.set_cons_succ, i64_w, i32_w]; rfl) ?_)
  iterate 2 (refine lex_t rfl rfl rfl (by rintro w' ⟨s0, s1⟩; go_simp; with_reducible rfl) (by simp only [Act.put, List.setIfInBounds_toArray, List.set_cons_zero, List.set_cons_succ, i64_w, i32_w]; rfl) ?_)
  refine lex_o rfl ?_
  go_wp2_with fail
  refine (high_uint32 o.a _ (by omega)).mono ?_
  rintro e w2 ⟨u, rfl, hob2, hb2⟩
  have hb2' := (below_drew (Below.refl V.heap.size V)).trans hb2
  have B2 := Aside0.mk hb2'
  obtain ⟨g2, cap2, rfl, hg2, _, _⟩ := hob2.form (by rw [high4_len]; decide)
  have HO2 := Aside0.mk (hob2.lower (show V.heap.size ≤ _ from Nat.le_refl _))
  rw [high4_len] at HO2 ⊢
  clear hb2 hob2 hb2' hg2
  go_wp2_with fail
  refine lex_end (by first | (simp only [Act.put, List.setIfInBounds_toArray, List.set_cons_zero, List.set_cons_succ, i64_w, i32_w]; rfl) | rfl) (HCE.out _ B2.out) (fun hHeld => ?_)
  (refine lex_p rfl rfl rfl (by intro w'; go_simp; with_reducible rfl) (by simp only [Act.put, List.setIfInBounds_toArray, List.set_cons_zero, List.set_cons_succ, i64_w, i32_w]; rfl) ?_)
  refine lex_o rfl ?_
  go_wp2_with fail
  have hn4 := one54 (⟨65, high4 o.a⟩ : S54) HO2.out B2.out.size
  have hb4 := below_alloc (Below.refl w2.heap.size w2) (.cells #[.int .u8 65, .slice (some ⟨g2, 0, none⟩) 4 cap2] 54)
  have B4 := Aside0.mk (B2.out.trans (hb4.mono B2.out.size))
  have HN4 := Aside0.mk hn4
  have HG4 := Aside0.mk (show V.heap.size ≤ w2.heap.size from B2.out.size)
  clear hn4 hb4
  refine lex_end (by first | (simp only [Act.put, List.setIfInBounds_toArray, List.set_cons_zero, List.set_cons_succ, i64_w, i32_w]; rfl) | rfl) (HCE.out _ B4.out) (fun hHeld => ?_)
  refine lex_o rfl ?_
  refine ap_caps V.heap.size _ _ rfl rfl HN4.out (F_came heap54 HXV.out B4.out) (fun k hk e => ?_) rfl rfl B4.out.size (by show [_].length + o.l.length ≤ 1000000; simp; omega) ?_
  · have e2 : k = w2.heap.size := Option.some.inj e
    have := HG4.out
    omega
  intro v7 w7 hn7 hb7 _
  have B7 := Aside0.mk (B4.out.trans hb7)
  have HN7 := Aside0.mk (Kd.N_reads hn7)
  clear hn7 hb7
  refine lex_end (by first | (simp only [Act.put, List.setIfInBounds_toArray, List.set_cons_zero, List.set_cons_succ, i64_w, i32_w]; rfl) | rfl) (HCE.out _ B7.out) (fun hHeld => ?_)
  refine lex_q rfl ?_
  obtain ⟨A7, c7, rfl, hc7, hC7⟩ := HN7.out
  go_wp2_with fail
  refine (open_laid.calls kk A7 c7 _ _ _ hC7 hc7 HKK.out).mono ?_
  rintro e w8 ⟨v8, rfl, hr8, hb8⟩
  have HR8 : Aside0 (OB w.heap.size w8 v8 (laidO o)) := ⟨OB.lower hr8 (Nat.le_trans HBV.out.size B7.out.size)⟩
  have B8 := Aside0.mk (B7.out.trans (hb8.mono B7.out.size))
  clear hr8 hb8 hC7
  go_wp2_with fail
  refine lex_endq (by first | (simp only [Act.put, List.setIfInBounds_toArray, List.set_cons_zero, List.set_cons_succ, i64_w, i32_w]; rfl) | rfl) ?_
  (refine lex_p rfl rfl rfl (by intro w'; go_simp; with_reducible rfl) (by simp only [Act.put, List.setIfInBounds_toArray, List.set_cons_zero, List.set_cons_succ, i64_w, i32_w]; rfl) ?_)
  refine lex_nil ?_
  go_wp2_with fail
  go_ret
  exact ⟨_, rfl, HR8.out, HBV.out.trans (B8.out.mono HBV.out.size)⟩
end Go.Proofs.Yticilaoibjbgfaa.Op
