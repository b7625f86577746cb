/- Openings: the walk of Meet. -/
import Derived.Test.YticilaoibjbgfaaOp9
set_option linter.unusedSimpArgs false
set_option linter.unusedVariables false
namespace Go.Proofs.Yticilaoibjbgfaa.Op
open Go.RowKit Go.Proofs.YticilaoibjbgfaaW.PrintWords Go.Proofs.YticilaoibjbgfaaW.PrintLast Go.Proofs.YticilaoibjbgfaaW.PrintMore Go.Proofs.Yticilaoibjbgfaa.POpenRaws Go.Proofs.Yticilaoibjbgfaa.Lib Go.Proofs.Yticilaoibjbgfaa.High Go.Proofs.Yticilaoibjbgfaa.Lex
def meetN (a b : Opn) : Int := if checkN a = 2 ∨ checkN b = 2 then 2 else if checkN a = 3 ∨ checkN b = 3 then 3 else 0
def hasB (l : List S54) (code : Int) : Bool := l.any (fun c => c.f0 == code)
def both (l m : List S54) : List Int := (l.filter (fun c => hasB m c.f0)).map (fun c => c.f0)
theorem both_snoc (l m : List S54) (c : S54) : both (l ++ [c]) m = both l m ++ (if hasB m c.f0 then [c.f0] else []) := by
  rw [both, both, List.filter_append, List.map_append]
  congr 1
  by_cases h : hasB m c.f0 = true
  · simp [h]
  · simp [h]
theorem has_yes {l : List S54} {code : Int} {k : Nat} (hk : k < l.length) (h : (l.getD k z54).f0 = code) : hasB l code = true := by
  rw [hasB, List.any_eq_true]
  exact ⟨_, getD_mem l k z54 hk, by rw [h]; simp⟩
theorem has_no {l : List S54} {code : Int} (h : ∀ j, j < l.length → (l.getD j z54).f0 ≠ code) : hasB l code = false := by
  rw [hasB, List.any_eq_false]
  intro x hx
  obtain ⟨j, hj, rfl⟩ := List.mem_iff_getElem.1 hx
  have := h j hj
  rw [List.getD_eq_getElem?_getD, List.getElem?_eq_getElem hj] at this
  simpa using this
theorem checkN_three (o : Opn) : checkN o = 0 ∨ checkN o = 2 ∨ checkN o = 3 := by
  rw [checkN]
  split
  · exact .inr (.inl rfl)
  · split
    · exact .inr (.inr rfl)
    · exact .inl rfl
theorem store16 {g i : Nat} {w : World} {u0 : Value} (x : Int) (h1 : w.cell? ⟨g, i, none⟩ = some u0) (h2 : w.frozen? ⟨g, i, none⟩ = false) : (storeVar 23 ⟨g, i, none⟩ (.int .u16 x)).run Try.prog w = .ok () (w.setCell ⟨g, i, none⟩ (.int .u16 x)) := by
  go_simp
theorem storeB {g i : Nat} {w : World} {u0 : Value} (x : Bool) (h1 : w.cell? ⟨g, i, none⟩ = some u0) (h2 : w.frozen? ⟨g, i, none⟩ = false) : (storeVar 4 ⟨g, i, none⟩ (.bool x)).run Try.prog w = .ok () (w.setCell ⟨g, i, none⟩ (.bool x)) := by
  go_simp
theorem both_len (l m : List S54) : (both l m).length ≤ l.length := by rw [both, List.length_map]; exact List.length_filter_le _ _
theorem outE {P : Program} {ops : Array Oper} {Q : Exit → Act → World → Prop} {a : Act} {w : World} (h : Q .normal a w) : wpList P ops (putQ Q (fun a' w' => Q .normal a' w')) [] a w := h
abbrev cS (h : Int) (i : Bool) (v : Value) : List Value := [.int .u16 h, .bool i, v]
theorem size45 (h : Int) (i : Bool) (v : Value) : (Try.prog.info? 45).map (·.size) = some (cS h i v).length := by show _ = some 3; kernel_rfl
/-- a session as a value -/
def SesV (b : Nat) (w : World) (v : Value) (h : Int) (i : Bool) (l : List Int) : Prop := ∃ u, v = .agg #[.int .u16 h, .bool i, u] ∧ OB b w u l
/-- what Meet answers -/
def meetH (a b : Opn) : Int := if meetN a b = 0 then ((min a.h b.h : Nat) : Int) else 0
def meetI (a b : Opn) : Bool := if meetN a b = 0 then decide (a.a = b.a) else false
def meetL (a b : Opn) : List Int := if meetN a b = 0 then both a.l b.l else []
theorem meetN_2 {a b : Opn} (h : checkN a = 2 ∨ checkN b = 2) : meetN a b = 2 := by rw [meetN, if_pos h]
theorem meetN_3 {a b : Opn} (h2 : ¬ (checkN a = 2 ∨ checkN b = 2)) (h : checkN a = 3 ∨ checkN b = 3) : meetN a b = 3 := by rw [meetN, if_neg h2, if_pos h]
theorem meetN_0 {a b : Opn} (h2 : ¬ (checkN a = 2 ∨ checkN b = 2)) (h : ¬ (checkN a = 3 ∨ checkN b = 3)) : meetN a b = 0 := by rw [meetN, if_neg h2, if_neg h]
theorem meet_no {a b : Opn} (h : meetN a b ≠ 0) : meetH a b = 0 ∧ meetI a b = false ∧ meetL a b = [] := ⟨if_neg h, if_neg h, if_neg h⟩
theorem meet_yes {a b : Opn} (h : meetN a b = 0) : meetH a b = ((min a.h b.h : Nat) : Int) ∧ meetI a b = decide (a.a = b.a) ∧ meetL a b = both a.l b.l := ⟨if_pos h, if_pos h, if_pos h⟩
set_option maxRecDepth 100000 in
set_option maxHeartbeats 8000000 in
theorem meetC (a b : Opn) (ha : a.Wf) (hb : b.Wf) (A : Option Addr) (c : Nat) (B : Option Addr) (d : Nat) (w : World) (hx : Kd.C k54 w A a.l.length a.l) (hc : a.l.length ≤ c) (hy : Kd.C k54 w B b.l.length b.l) (hd : b.l.length ≤ d)
    (hLa : (laidO a).length < 140737488355000) (hla : a.l.length < 500000) (hLb : (laidO b).length < 140737488355000) (hlb : b.l.length < 500000) (hbl : ∀ x ∈ b.l, x.f1.length ≤ 1000000) :
    Calls Try.prog 20 #[aO a A c, aO b B d] w fun e w' => ∃ v, e = .returned (.tuple #[v, .int .i64 (meetN a b)]) ∧ SesV w.heap.size w' v (meetH a b) (meetI a b) (meetL a b) ∧ Below w.heap.size w w' := by
  obtain ⟨p, hp⟩ : ∃ p, w.heap.size = p := ⟨_, rfl⟩
  have hob1 := Ob.new w (cO a A c) _ rfl 26
  have hb1 := below_alloc (Below.refl w.heap.size w) (.cells (cO a A c).toArray 26)
  obtain ⟨w1, hw1⟩ : ∃ W, w.alloc (.cells (cO a A c).toArray 26) = W := ⟨_, rfl⟩
  have hs1 : w1.heap.size = p + 1 := by rw [← hw1, ← hp]; simp
  rw [hw1] at hob1 hb1
  rw [hp] at hob1
  have hob2 := Ob.new w1 (cO b B d) _ rfl 26
  have hb2 := below_alloc (Below.refl w1.heap.size w1) (.cells (cO b B d).toArray 26)
  obtain ⟨w2, hw2⟩ : ∃ W, w1.alloc (.cells (cO b B d).toArray 26) = W := ⟨_, rfl⟩
  have hs2 : w2.heap.size = p + 1 + 1 := by rw [← hw2, World.size_alloc, hs1]
  rw [hw2, hs1] at hob2
  rw [hw2] at hb2
  have hob3 := Ob.new w2 (cS 0 false (.slice none 0 0)) _ rfl 45
  have hb3 := below_alloc (Below.refl w2.heap.size w2) (.cells (cS 0 false (.slice none 0 0)).toArray 45)
  obtain ⟨V, hV⟩ : ∃ W, w2.alloc (.cells (cS 0 false (.slice none 0 0)).toArray 45) = W := ⟨_, rfl⟩
  have hs3 : V.heap.size = p + 1 + 1 + 1 := by rw [← hV, World.size_alloc, hs2]
  rw [hV, hs2] at hob3
  rw [hV] at hb3
  have o1 := (hob1.below hb2 (by omega)).below hb3 (by omega)
  have o2 := hob2.below hb3 (by omega)
  have hbV := (hb1.trans (hb2.mono hb1.size)).trans (hb3.mono (by omega))
  have HW1 := Aside0.mk hw1
  have HW2 := Aside0.mk hw2
  have HV := Aside0.mk hV
  have HS := Aside0.mk hs3
  have HO1 := Aside0.mk o1
  have HO2 := Aside0.mk o2
  have HO3 := Aside0.mk hob3
  have HBV := Aside0.mk hbV
  have HXW := Aside0.mk hx
  have HYW := Aside0.mk hy
  have HXV := Aside0.mk (Kd.C_below hx hbV)
  have HYV := Aside0.mk (Kd.C_below hy hbV)
  have HWA := Aside0.mk ha
  have HWB := Aside0.mk hb
  have HLA := Aside0.mk hLa
  have HLB := Aside0.mk hLb
  have HBL := Aside0.mk hbl
  have HCF : Aside0 (∀ U : World, Below V.heap.size V U → U.cell? ⟨p, 0, none⟩ = some (.int .u32 a.a) ∧ U.cell? ⟨p, 1, none⟩ = some (.int .u16 a.h) ∧ U.cell? ⟨p, 2, none⟩ = some (.int .u32 a.i) ∧ U.cell? ⟨p, 3, none⟩ = some (.slice A a.l.length c) ∧ U.cell? ⟨p + 1, 0, none⟩ = some (.int .u32 b.a) ∧ U.cell? ⟨p + 1, 1, none⟩ = some (.int .u16 b.h) ∧ U.cell? ⟨p + 1, 2, none⟩ = some (.int .u32 b.i) ∧ U.cell? ⟨p + 1, 3, none⟩ = some (.slice B b.l.length d)) := ⟨fun U hU => by
    have u1 := o1.below hU (by omega)
    have u2 := o2.below hU (by omega)
    exact ⟨(u1 0 _ rfl).1, (u1 1 _ rfl).1, (u1 2 _ rfl).1, (u1 3 _ rfl).1, (u2 0 _ rfl).1, (u2 1 _ rfl).1, (u2 2 _ rfl).1, (u2 3 _ rfl).1⟩⟩
  clear hob1 hob2 hob3 hb1 hb2 hb3 o1 o2 hbV hx hy ha hb hLa hLb hbl hw1 hw2 hV hs1 hs2 hs3
  go_enter Try.func20, Try.ntmps20
  go_wp2_with (rw [HW1.out, HW2.out, HV.out])
  refine region [(0, .t), (2, .t), (1, .o), (3, .q), (4, .p), (5, .p)] (fun U => U.cell? ⟨p, 0, none⟩ = some (.int .u32 a.a) ∧ U.cell? ⟨p, 1, none⟩ = some (.int .u16 a.h) ∧ U.cell? ⟨p, 2, none⟩ = some (.int .u32 a.i) ∧ U.cell? ⟨p, 3, none⟩ = some (.slice A a.l.length c) ∧ U.cell? ⟨p + 1, 0, none⟩ = some (.int .u32 b.a) ∧ U.cell? ⟨p + 1, 1, none⟩ = some (.int .u16 b.h) ∧ U.cell? ⟨p + 1, 2, none⟩ = some (.int .u32 b.i) ∧ U.cell? ⟨p + 1, 3, none⟩ = some (.slice B b.l.length d)) (by kernel_rfl) (by kernel_rfl) (fun _ _ _ _ _ h => h) (HCF.out _ (below_drew (Below.refl _ _))) (fun hHeld => ?_)
  iterate 2 (refine lex_t rfl rfl rfl (by rintro w' ⟨s0, s1, s2, s3, t0, t1, t2, t3⟩; go_simp; with_reducible rfl) (by simp only [Act.put, List.setIfInBounds_toArray, List.set_cons_zero, List.set_cons_succ, i64_w, i32_w]; rfl) ?_)
  refine lex_o rfl ?_
  go_wp2_with fail
  refine (checkC a HWA.out A c _ (Kd.C_below HXV.out (below_drew (Below.refl _ _))) hc HLA.out hla).mono ?_
  rintro e y2 ⟨rfl, hb2⟩
  have B2 := Aside0.mk ((below_drew (Below.refl V.heap.size V)).trans hb2)
  clear hb2
  go_wp2_with fail
  refine lex_end (by first | (simp only [Act.put, List.setIfInBounds_toArray, List.set_cons_zero, List.set_cons_succ, i64_w, i32_w]; rfl) | rfl) (HCF.out _ B2.out) (fun hHeld => ?_)
  refine lex_q rfl ?_
  go_wp2_with fail
  refine (checkC b HWB.out B d _ (Kd.C_below HYV.out B2.out) hd HLB.out hlb).mono ?_
  rintro e y3 ⟨rfl, hb3⟩
  have B3 := Aside0.mk (B2.out.trans (hb3.mono B2.out.size))
  clear hb3
  go_wp2_with fail
  refine lex_endq (by first | (simp only [Act.put, List.setIfInBounds_toArray, List.set_cons_zero, List.set_cons_succ, i64_w, i32_w]; rfl) | rfl) ?_
  iterate 2 (refine lex_p rfl rfl rfl (by intro w'; go_simp; with_reducible rfl) (by simp only [Act.put, List.setIfInBounds_toArray, List.set_cons_zero, List.set_cons_succ, i64_w, i32_w]; rfl) ?_)
  refine lex_nil ?_
  go_wp2_with fail
  obtain ⟨N1, hN1⟩ : ∃ N, checkN a = N := ⟨_, rfl⟩
  obtain ⟨N2, hN2⟩ : ∃ N, checkN b = N := ⟨_, rfl⟩
  rw [hN1, hN2]
  have HN1 := Aside0.mk hN1
  have HN2 := Aside0.mk hN2
  have hob5 := Ob.new y3 [.int .i64 2, .int .i64 3] _ rfl 31
  have hb5 := below_alloc (Below.refl y3.heap.size y3) (.cells #[.int .i64 2, .int .i64 3] 31)
  obtain ⟨g, hg⟩ : ∃ g, y3.heap.size = g := ⟨_, rfl⟩
  obtain ⟨V5, hV5⟩ : ∃ W, y3.alloc (.cells #[.int .i64 2, .int .i64 3] 31) = W := ⟨_, rfl⟩
  have hs5 : V5.heap.size = g + 1 := by rw [← hV5, ← hg]; simp
  rw [hV5] at hob5 hb5
  rw [hg] at hob5
  have B5 := Aside0.mk (B3.out.trans (hb5.mono B3.out.size))
  have HO5 := Aside0.mk (HO3.out.below B5.out (by have := HS.out; omega))
  have HB5 := Aside0.mk (HBV.out.trans (B5.out.mono HBV.out.size))
  have r0 := (hob5 0 _ rfl).1
  have r1 := (hob5 1 _ rfl).1
  have HV5 := Aside0.mk hV5
  rw [HV5.out]
  clear hob5 hb5 hV5 hN1 hN2
  go_loopg [20] 2 (fun gk s20 W => ∃ k : Nat, k ≤ 2 ∧ 2 - k ≤ gk ∧ s20 = .int .i64 k ∧ Aside0 (0 < k → ¬ (N1 = 2 ∨ N2 = 2)) ∧ Aside0 (1 < k → ¬ (N1 = 3 ∨ N2 = 3)) ∧ W = V5)
  case atStart => exact ⟨0, by omega, by omega, rfl, ⟨fun h => absurd h (by omega)⟩, ⟨fun h => absurd h (by omega)⟩, rfl⟩
  case round =>
    obtain ⟨k, hk, hgk, rfl, HK0, HK1, rfl⟩ := hrel
    match k, hk, HK0, HK1, hgk with
    | 0, _, HK0, HK1, hgk =>
      cases h1 : (N1 == 2) with
      | true =>
        have HMN := Aside0.mk (meetN_2 (a := a) (b := b) (.inl (HN1.out.trans (eq_of_beq h1))))
        have hO := HO5.out
        obtain ⟨W', hst, hO', hbut⟩ := storeS (cS 0 false (.slice none 0 0)) 45 hO rfl (size45 _ _ _) (by simp [Value.oneCell'])
        have HLD := Aside0.mk (loadS 45 hO Try.underlying45 (size45 _ _ _))
        have HLE := Aside0.mk (loadS 45 hO' Try.underlying45 (size45 _ _ _))
        have HST := Aside0.mk hst
        have HBF := Aside0.mk (HB5.out.trans (hbut.below HB5.out.size (fun k hk e => by have : k = p + 1 + 1 := e; omega)))
        clear hst hO hO' hbut
        go_wp2_with (first | (refine pl_load rfl 45 _ rfl _ _ HLD.out rfl ?_) | (refine pl_store rfl 45 _ _ rfl _ _ HST.out rfl rfl ?_))
        refine bodyPost_ret (results_cell_tmp rfl _ _ (p + 1 + 1) _ rfl HLE.out) rfl ?_
        obtain ⟨m1, m2, m3⟩ := meet_no (a := a) (b := b) (by rw [HMN.out]; decide)
        refine ⟨_, by rw [HMN.out]; rfl, ⟨_, by rw [m1, m2], by rw [m3]; exact OB.nil _ _⟩, HBF.out⟩
      | false =>
        cases h2 : (N2 == 2) with
        | true =>
          have HMN := Aside0.mk (meetN_2 (a := a) (b := b) (.inr (HN2.out.trans (eq_of_beq h2))))
          have hO := HO5.out
          obtain ⟨W', hst, hO', hbut⟩ := storeS (cS 0 false (.slice none 0 0)) 45 hO rfl (size45 _ _ _) (by simp [Value.oneCell'])
          have HLD := Aside0.mk (loadS 45 hO Try.underlying45 (size45 _ _ _))
          have HLE := Aside0.mk (loadS 45 hO' Try.underlying45 (size45 _ _ _))
          have HST := Aside0.mk hst
          have HBF := Aside0.mk (HB5.out.trans (hbut.below HB5.out.size (fun k hk e => by have : k = p + 1 + 1 := e; omega)))
          clear hst hO hO' hbut
          go_wp2_with (first | (refine pl_load rfl 45 _ rfl _ _ HLD.out rfl ?_) | (refine pl_store rfl 45 _ _ rfl _ _ HST.out rfl rfl ?_))
          refine bodyPost_ret (results_cell_tmp rfl _ _ (p + 1 + 1) _ rfl HLE.out) rfl ?_
          obtain ⟨m1, m2, m3⟩ := meet_no (a := a) (b := b) (by rw [HMN.out]; decide)
          refine ⟨_, by rw [HMN.out]; rfl, ⟨_, by rw [m1, m2], by rw [m3]; exact OB.nil _ _⟩, HBF.out⟩
        | false =>
          have HR := Aside0.mk (show ¬ (N1 = 2 ∨ N2 = 2) from fun h => h.elim (ne_of_beq_false h1) (ne_of_beq_false h2))
          go_wp2_with fail
          go_roundg (gk - 1)
          case measure => omega
          case rel => exact ⟨1, by omega, by omega, rfl, ⟨fun _ => HR.out⟩, ⟨fun h => absurd h (by omega)⟩, rfl⟩
    | 1, _, HK0, HK1, hgk =>
      cases h1 : (N1 == 3) with
      | true =>
        have HMN := Aside0.mk (meetN_3 (a := a) (b := b) (by rw [HN1.out, HN2.out]; exact HK0.out (by omega)) (.inl (HN1.out.trans (eq_of_beq h1))))
        have hO := HO5.out
        obtain ⟨W', hst, hO', hbut⟩ := storeS (cS 0 false (.slice none 0 0)) 45 hO rfl (size45 _ _ _) (by simp [Value.oneCell'])
        have HLD := Aside0.mk (loadS 45 hO Try.underlying45 (size45 _ _ _))
        have HLE := Aside0.mk (loadS 45 hO' Try.underlying45 (size45 _ _ _))
        have HST := Aside0.mk hst
        have HBF := Aside0.mk (HB5.out.trans (hbut.below HB5.out.size (fun k hk e => by have : k = p + 1 + 1 := e; omega)))
        clear hst hO hO' hbut
        go_wp2_with (first | (refine pl_load rfl 45 _ rfl _ _ HLD.out rfl ?_) | (refine pl_store rfl 45 _ _ rfl _ _ HST.out rfl rfl ?_))
        refine bodyPost_ret (results_cell_tmp rfl _ _ (p + 1 + 1) _ rfl HLE.out) rfl ?_
        obtain ⟨m1, m2, m3⟩ := meet_no (a := a) (b := b) (by rw [HMN.out]; decide)
        refine ⟨_, by rw [HMN.out]; rfl, ⟨_, by rw [m1, m2], by rw [m3]; exact OB.nil _ _⟩, HBF.out⟩
      | false =>
        cases h2 : (N2 == 3) with
        | true =>
          have HMN := Aside0.mk (meetN_3 (a := a) (b := b) (by rw [HN1.out, HN2.out]; exact HK0.out (by omega)) (.inr (HN2.out.trans (eq_of_beq h2))))
          have hO := HO5.out
          obtain ⟨W', hst, hO', hbut⟩ := storeS (cS 0 false (.slice none 0 0)) 45 hO rfl (size45 _ _ _) (by simp [Value.oneCell'])
          have HLD := Aside0.mk (loadS 45 hO Try.underlying45 (size45 _ _ _))
          have HLE := Aside0.mk (loadS 45 hO' Try.underlying45 (size45 _ _ _))
          have HST := Aside0.mk hst
          have HBF := Aside0.mk (HB5.out.trans (hbut.below HB5.out.size (fun k hk e => by have : k = p + 1 + 1 := e; omega)))
          clear hst hO hO' hbut
          go_wp2_with (first | (refine pl_load rfl 45 _ rfl _ _ HLD.out rfl ?_) | (refine pl_store rfl 45 _ _ rfl _ _ HST.out rfl rfl ?_))
          refine bodyPost_ret (results_cell_tmp rfl _ _ (p + 1 + 1) _ rfl HLE.out) rfl ?_
          obtain ⟨m1, m2, m3⟩ := meet_no (a := a) (b := b) (by rw [HMN.out]; decide)
          refine ⟨_, by rw [HMN.out]; rfl, ⟨_, by rw [m1, m2], by rw [m3]; exact OB.nil _ _⟩, HBF.out⟩
        | false =>
          have HR := Aside0.mk (show ¬ (N1 = 3 ∨ N2 = 3) from fun h => h.elim (ne_of_beq_false h1) (ne_of_beq_false h2))
          go_wp2_with fail
          go_roundg (gk - 1)
          case measure => omega
          case rel => exact ⟨2, by omega, by omega, rfl, ⟨fun _ => HK0.out (by omega)⟩, ⟨fun _ => HR.out⟩, rfl⟩
    | 2, _, HK0, HK1, hgk =>
      have HMN := Aside0.mk (meetN_0 (a := a) (b := b) (by rw [HN1.out, HN2.out]; exact HK0.out (by omega)) (by rw [HN1.out, HN2.out]; exact HK1.out (by omega)))
      go_wp2_with fail
      have hO1 := HO1.out.below B5.out (by have := HS.out; omega)
      have hO2 := HO2.out.below B5.out (by have := HS.out; omega)
      have HF8 : Aside0 (∀ U : World, U.heap[p]? = wr.heap[p]? → U.heap[p + 1]? = wr.heap[p + 1]? → U.cell? ⟨p, 0, none⟩ = some (.int .u32 a.a) ∧ U.cell? ⟨p, 1, none⟩ = some (.int .u16 a.h) ∧ U.cell? ⟨p + 1, 0, none⟩ = some (.int .u32 b.a) ∧ U.cell? ⟨p + 1, 1, none⟩ = some (.int .u16 b.h)) := ⟨fun U e1 e2 => by
        have u1 := hO1.same e1
        have u2 := hO2.same e2
        exact ⟨(u1 0 _ rfl).1, (u1 1 _ rfl).1, (u2 0 _ rfl).1, (u2 1 _ rfl).1⟩⟩
      have HS0 : Aside0 (wr.drew.cell? ⟨p + 1 + 1, 0, none⟩ = some (.int .u16 0) ∧ wr.drew.frozen? ⟨p + 1 + 1, 0, none⟩ = false) := ⟨(HO5.out.same (w' := wr.drew) rfl) 0 _ rfl⟩
      have HSS : Aside0 (Ob (p + 1 + 1) wr.drew (cS 0 false (.slice none 0 0))) := ⟨HO5.out.same rfl⟩
      have HOP : Aside0 (Ob p wr.drew (cO a A c)) := ⟨hO1.same rfl⟩
      have HOQ : Aside0 (Ob (p + 1) wr.drew (cO b B d)) := ⟨hO2.same rfl⟩
      have HSZ : Aside0 (p + 1 + 1 + 1 ≤ wr.heap.size) := ⟨by have := HS.out; have := B5.out.size; omega⟩
      obtain ⟨HM, hHM⟩ : ∃ H, (if b.h < a.h then (b.h : Int) else (a.h : Int)) = H := ⟨_, rfl⟩
      obtain ⟨IN, hIN⟩ : ∃ I, ((a.a : Int) == (b.a : Int)) = I := ⟨_, rfl⟩
      have HMV := Aside0.mk (show HM = ((min a.h b.h : Nat) : Int) by rw [← hHM]; split <;> omega)
      have INV := Aside0.mk (show IN = decide (a.a = b.a) by rw [← hIN, beqN])
      clear hO1 hO2
      refine region [(0, .p), (2, .p), (5, .p), (7, .p), (1, .t), (3, .t), (4, .p), (10, .p), (6, .t), (8, .t), (9, .p), (11, .o), (12, .p), (13, .e)] (fun U => U.cell? ⟨p, 0, none⟩ = some (.int .u32 a.a) ∧ U.cell? ⟨p, 1, none⟩ = some (.int .u16 a.h) ∧ U.cell? ⟨p + 1, 0, none⟩ = some (.int .u32 b.a) ∧ U.cell? ⟨p + 1, 1, none⟩ = some (.int .u16 b.h)) (by kernel_rfl) (by kernel_rfl) (fun _ _ _ _ _ h => h) (HF8.out _ rfl rfl) (fun hHeld => ?_)
      iterate 4 (refine lex_p rfl rfl rfl (by intro w'; go_simp; with_reducible rfl) (by simp only [Act.put, List.setIfInBounds_toArray, List.set_cons_zero, List.set_cons_succ, i64_w, i32_w]; rfl) ?_)
      iterate 2 (refine lex_t rfl rfl rfl (by rintro w' ⟨s0, s1, s2, s3⟩; go_simp; with_reducible rfl) (by simp only [Act.put, List.setIfInBounds_toArray, List.set_cons_zero, List.set_cons_succ, i64_w, i32_w]; rfl) ?_)
      iterate 2 (refine lex_p rfl rfl rfl (by intro w'; go_simp; with_reducible rfl) (by simp only [Act.put, List.setIfInBounds_toArray, List.set_cons_zero, List.set_cons_succ, i64_w, i32_w]; rfl) ?_)
      iterate 2 (refine lex_t rfl rfl rfl (by rintro w' ⟨s0, s1, s2, s3⟩; go_simp; with_reducible rfl) (by simp only [Act.put, List.setIfInBounds_toArray, List.set_cons_zero, List.set_cons_succ, i64_w, i32_w]; rfl) ?_)
      (refine lex_p rfl rfl rfl (by intro w'; go_simp; with_reducible rfl) (by simp only [Act.put, List.setIfInBounds_toArray, List.set_cons_zero, List.set_cons_succ, i64_w, i32_w]; rfl) ?_)
      refine lex_o rfl ?_
      refine pl_store rfl 23 _ _ rfl _ _ (store16 _ HS0.out.1 HS0.out.2) rfl rfl ?_
      have HU1 : Aside0 ((wr.drew.setCell ⟨p + 1 + 1, 0, none⟩ (.int .u16 HM)).heap[p]? = wr.heap[p]? ∧ (wr.drew.setCell ⟨p + 1 + 1, 0, none⟩ (.int .u16 HM)).heap[p + 1]? = wr.heap[p + 1]?) := ⟨⟨Below.heap_setCell wr.drew ⟨p + 1 + 1, 0, none⟩ _ p (by show p ≠ p + 1 + 1; omega), Below.heap_setCell wr.drew ⟨p + 1 + 1, 0, none⟩ _ (p + 1) (by show p + 1 ≠ p + 1 + 1; omega)⟩⟩
      refine lex_end (by first | (simp only [Act.put, List.setIfInBounds_toArray, List.set_cons_zero, List.set_cons_succ, i64_w, i32_w]; rfl) | rfl) (HF8.out _ HU1.out.1 HU1.out.2) (fun hHeld => ?_)
      (refine lex_p rfl rfl rfl (by intro w'; go_simp; with_reducible rfl) (by simp only [Act.put, List.setIfInBounds_toArray, List.set_cons_zero, List.set_cons_succ, i64_w, i32_w]; rfl) ?_)
      refine lex_e rfl ?_
      have hS1 := HSS.out.set 0 (by simp) (.int .u16 HM)
      obtain ⟨c1, f1⟩ := hS1 1 _ rfl
      refine pl_store rfl 4 _ _ rfl _ _ (storeB IN c1 f1) rfl rfl ?_
      have hS2 := hS1.set 1 (by simp) (.bool IN)
      have hBs := (Below.setCell (below_drew HB5.out) (p := ⟨p + 1 + 1, 0, none⟩) (by show w.heap.size ≤ p + 1 + 1; omega) (.int .u16 HM)).setCell (p := ⟨p + 1 + 1, 1, none⟩) (by show w.heap.size ≤ p + 1 + 1; omega) (.bool IN)
      have hP := ((HOP.out.far (q := ⟨p + 1 + 1, 0, none⟩) (by show p ≠ p + 1 + 1; omega) (.int .u16 HM)).far (q := ⟨p + 1 + 1, 1, none⟩) (by show p ≠ p + 1 + 1; omega) (.bool IN))
      have hQ := ((HOQ.out.far (q := ⟨p + 1 + 1, 0, none⟩) (by show p + 1 ≠ p + 1 + 1; omega) (.int .u16 HM)).far (q := ⟨p + 1 + 1, 1, none⟩) (by show p + 1 ≠ p + 1 + 1; omega) (.bool IN))
      have hz : p + 1 + 1 + 1 ≤ ((wr.drew.setCell ⟨p + 1 + 1, 0, none⟩ (.int .u16 HM)).setCell ⟨p + 1 + 1, 1, none⟩ (.bool IN)).heap.size := by simp [World.setCell]; have := HSZ.out; exact this
      obtain ⟨W8, hW8⟩ : ∃ W, (wr.drew.setCell ⟨p + 1 + 1, 0, none⟩ (.int .u16 HM)).setCell ⟨p + 1 + 1, 1, none⟩ (.bool IN) = W := ⟨_, rfl⟩
      rw [hW8] at hS2 hBs hP hQ hz
      have HS2 := Aside0.mk hS2
      have HB8 := Aside0.mk hBs
      have HP8 := Aside0.mk hP
      have HQ8 := Aside0.mk hQ
      have HZ8 := Aside0.mk hz
      have HW8 := Aside0.mk hW8
      have p3 := (hP 3 _ rfl).1
      clear hS1 hS2 hBs hP hQ hW8 hz
      rw [HW8.out]
      refine outE ?_
      clear hHM hIN
      go_wp2_with fail
      have HS3 := HS2
      go_loopg [50] a.l.length (fun gk s50 W => ∃ k : Nat, k ≤ a.l.length ∧ a.l.length - k ≤ gk ∧ s50 = .int .i64 k ∧ ∃ v, Aside0 (Ob (p + 1 + 1) W (cS HM IN v)) ∧ Aside0 (OB (p + 1 + 1 + 1) W v (both (a.l.take k) b.l)) ∧ Aside0 (Ob p W (cO a A c)) ∧ Aside0 (Ob (p + 1) W (cO b B d)) ∧ Aside0 (Below w.heap.size w W) ∧ Aside0 (p + 1 + 1 + 1 ≤ W.heap.size))
      case atStart => exact ⟨0, by omega, by omega, rfl, _, HS3, ⟨OB.nil _ _⟩, HP8, HQ8, HB8, HZ8⟩
      case round =>
        clear HO1 HO2 HO3 HO5 HS2 HS3 HP8 HQ8 HB8 HZ8
        obtain ⟨k, hk, hgk, rfl, v, HSv, HOv, HPv, HQv, HBv, HZv⟩ := hrel
        by_cases hlt : k < a.l.length
        · obtain ⟨bb, oo, A1, c1, rfl, q0, q1, _, _⟩ := C_cap (Kd.C_below HXW.out HBv.out) k hlt
          obtain ⟨x, hxe⟩ : ∃ x, a.l.getD k z54 = x := ⟨_, rfl⟩
          rw [hxe] at q0 q1
          have HXE := Aside0.mk hxe
          have HTK := Aside0.mk (show both (a.l.take (k + 1)) b.l = both (a.l.take k) b.l ++ (if hasB b.l x.f0 then [x.f0] else []) by rw [take_snoc a.l k z54 hlt, hxe, both_snoc])
          have hbl2 : (both (a.l.take k) b.l).length ≤ 1000000 := by have := both_len (a.l.take k) b.l; rw [List.length_take] at this; omega
          obtain ⟨q, hq⟩ : ∃ q, wr.heap.size = q := ⟨_, rfl⟩
          have hob9 := Ob.new wr [.int .u8 x.f0, .slice A1 x.f1.length c1] _ rfl 54
          have hb9 := below_alloc (Below.refl wr.heap.size wr) (.cells #[.int .u8 x.f0, .slice A1 x.f1.length c1] 54)
          obtain ⟨W9, hW9⟩ : ∃ W, wr.alloc (.cells #[.int .u8 x.f0, .slice A1 x.f1.length c1] 54) = W := ⟨_, rfl⟩
          have hs9 : W9.heap.size = q + 1 := by rw [← hW9, ← hq]; simp
          rw [hW9] at hob9 hb9
          rw [hq] at hob9
          have hzq := HZv.out
          rw [hq] at hzq
          have h9S := HSv.out.below hb9 (by omega)
          have h9P := HPv.out.below hb9 (by omega)
          have h9Q := HQv.out.below hb9 (by omega)
          have g0 := (h9Q 0 _ rfl).1
          have g1 := (h9Q 1 _ rfl).1
          have g2 := (h9Q 2 _ rfl).1
          have g3 := (h9Q 3 _ rfl).1
          have x0 := (hob9 0 _ rfl).1
          have HB9 := Aside0.mk (HBv.out.trans (hb9.mono HBv.out.size))
          have HO9 := Aside0.mk (HOv.out.below hb9)
          have H9S := Aside0.mk h9S
          have H9P := Aside0.mk h9P
          have H9Q := Aside0.mk h9Q
          have H9X := Aside0.mk hob9
          have HS9 := Aside0.mk hs9
          have HZ9 := Aside0.mk hzq
          have HW9 := Aside0.mk hW9
          have hlI : (k : Int) < (a.l.length : Int) := by omega
          have HLT := Aside0.mk hlt
          clear hxe hob9 hb9 hW9 hs9 h9S h9P h9Q hlt HSv HOv HPv HQv HBv HZv hzq
          go_wp2_with (rw [HW9.out])
          refine (capC b B d x.f0 W9 (Kd.C_below HYW.out HB9.out) (by omega) HBL.out).mono ?_
          rintro e y5 ⟨vr, hor, hb5'⟩
          have h5S := H9S.out.below hb5' (by have := HS9.out; have := HZ9.out; omega)
          have h5P := H9P.out.below hb5' (by have := HS9.out; have := HZ9.out; omega)
          have h5Q := H9Q.out.below hb5' (by have := HS9.out; have := HZ9.out; omega)
          have h5X := H9X.out.below hb5' (by have := HS9.out; omega)
          have H5S := Aside0.mk h5S
          have H5P := Aside0.mk h5P
          have H5Q := Aside0.mk h5Q
          have H5B := Aside0.mk (HB9.out.trans (hb5'.mono HB9.out.size))
          have H5O := Aside0.mk (HO9.out.below hb5')
          have H5Z := Aside0.mk (show p + 1 + 1 + 1 ≤ y5.heap.size by have := hb5'.size; have := HS9.out; have := HZ9.out; omega)
          rcases hor with ⟨rfl, rfl, hno⟩ | ⟨kk, hkk, rfl, _, hcode, _⟩
          · have HT2 := Aside0.mk (HTK.out.trans (by rw [has_no hno]; simp : _ = both (a.l.take k) b.l))
            clear hno hb5' h5S h5P h5Q h5X g0 g1 g2 g3 x0 H9S H9P H9Q H9X
            go_wp2_with fail
            go_roundg (gk - 1)
            case measure => have := HLT.out; omega
            case rel => exact ⟨k + 1, by have := HLT.out; omega, by omega, by go_num, v, H5S, ⟨by rw [HT2.out]; exact H5O.out⟩, H5P, H5Q, H5B, H5Z⟩
          · have HT2 := Aside0.mk (HTK.out.trans (by rw [has_yes hkk hcode]; rfl : _ = both (a.l.take k) b.l ++ [x.f0]))
            have x0 := (h5X 0 _ rfl).1
            have v2 := (h5S 2 _ rfl).1
            have hlit := OB.lit (b := y5.heap.size) y5 [x.f0] _ rfl 1 rfl (Nat.le_refl _) (by simp)
            have hb6 := below_alloc (Below.refl y5.heap.size y5) (.cells #[.int .u8 x.f0] 5)
            have HLIT := Aside0.mk hlit.readsAt
            have HB6 := Aside0.mk hb6
            have HO6 := Aside0.mk (H5O.out.below hb6)
            have v3 := pw_cell_below hb6 v2
            have x3 := pw_cell_below hb6 x0
            clear hkk hcode hb5' h5S h5P h5Q h5X g0 g1 g2 g3 H9S H9P H9Q H9X hlit hb6
            go_wp2_with (first | ((with_reducible refine gate_builtin (b := .append) (xs := #[.tmp 63, .tmp 66]) rfl ?_); refine ap_row (p + 1 + 1 + 1) _ _ rfl rfl HO6.out HLIT.out rfl rfl (Nat.le_trans H5Z.out HB6.out.size) (by omega) ?_; intro v4 w4 ho4 hb4; have HO4 := Aside0.mk ho4; have HB4 := Aside0.mk hb4; have h4S := (H5S.out.below HB6.out (by have := H5Z.out; omega)).below hb4 (by omega); have H4S := Aside0.mk h4S; obtain ⟨c2, f2⟩ := h4S 2 _ rfl; obtain ⟨A4, c4, e4, _, _⟩ := ho4.reads; subst e4; clear ho4 hb4 h4S v2 v3 x0 x3))
            have k4P := ((H5P.out.below HB6.out (by have := H5Z.out; omega)).below HB4.out (by omega)).far (q := ⟨p + 1 + 1, 2, none⟩) (by show p ≠ p + 1 + 1; omega) (.slice A4 (both (a.l.take k) b.l ++ [x.f0]).length c4)
            have k4Q := ((H5Q.out.below HB6.out (by have := H5Z.out; omega)).below HB4.out (by omega)).far (q := ⟨p + 1 + 1, 2, none⟩) (by show p + 1 ≠ p + 1 + 1; omega) (.slice A4 (both (a.l.take k) b.l ++ [x.f0]).length c4)
            have k4S := H4S.out.set 2 (by simp) (.slice A4 (both (a.l.take k) b.l ++ [x.f0]).length c4)
            have k4O := HO4.out.far (p := ⟨p + 1 + 1, 2, none⟩) (by show p + 1 + 1 < p + 1 + 1 + 1; omega) (.slice A4 (both (a.l.take k) b.l ++ [x.f0]).length c4)
            have k4B := Below.setCell ((H5B.out.trans (HB6.out.mono H5B.out.size)).trans (HB4.out.mono (by omega))) (p := ⟨p + 1 + 1, 2, none⟩) (by show w.heap.size ≤ p + 1 + 1; omega) (.slice A4 (both (a.l.take k) b.l ++ [x.f0]).length c4)
            rw [List.length_append, List.length_singleton] at k4S k4P k4Q k4O k4B
            go_roundg (gk - 1)
            case measure => have := HLT.out; omega
            case rel => exact ⟨k + 1, by have := HLT.out; omega, by omega, by go_num, _, ⟨k4S⟩, ⟨by rw [HT2.out]; exact k4O⟩, ⟨k4P⟩, ⟨k4Q⟩, ⟨k4B⟩, ⟨by simp [World.setCell]; have := H5Z.out; have := HB6.out.size; have := HB4.out.size; omega⟩⟩
        · obtain rfl : k = a.l.length := by omega
          have hlI : ¬ ((a.l.length : Int) < (a.l.length : Int)) := by omega
          obtain ⟨W', hst, hO', hbut⟩ := storeS (cS HM IN v) 45 HSv.out rfl (size45 _ _ _) (by obtain ⟨A4, c4, e4, _, _⟩ := HOv.out.reads; subst e4; simp [Value.oneCell'])
          have HLD := Aside0.mk (loadS 45 HSv.out Try.underlying45 (size45 _ _ _))
          have HLE := Aside0.mk (loadS 45 hO' Try.underlying45 (size45 _ _ _))
          have HST := Aside0.mk hst
          have HBF := Aside0.mk (HBv.out.trans (hbut.below HBv.out.size (fun k hk e => by have : k = p + 1 + 1 := e; omega)))
          have hOf : OB (p + 1 + 1 + 1) W' v (both (a.l.take a.l.length) b.l) := OB.step HOv.out (fun k hk => hbut.block k ((Kd.R_bound HOv.out).1 k hk).2.2.1 (fun e => by have e2 : k = p + 1 + 1 := e; have := ((Kd.R_bound HOv.out).1 k hk).2.1; omega))
          rw [List.take_length] at hOf
          have HOF := Aside0.mk (hOf.lower (b' := w.heap.size) (by omega))
          clear hst hO' hbut hOf
          go_wp2_with (first | (refine pl_load rfl 45 _ rfl _ _ HLD.out rfl ?_) | (refine pl_store rfl 45 _ _ rfl _ _ HST.out rfl rfl ?_))
          refine bodyPost_ret (results_cell_tmp rfl _ _ (p + 1 + 1) _ rfl HLE.out) rfl ?_
          obtain ⟨m1, m2, m3⟩ := meet_yes (a := a) (b := b) HMN.out
          refine ⟨_, by rw [HMN.out]; rfl, ⟨v, by rw [m1, m2, ← HMV.out, ← INV.out], by rw [m3]; have ho := HOF.out; rw [hp] at ho; exact ho⟩, by have hbf := HBF.out; rw [hp] at hbf; exact hbf⟩
end Go.Proofs.Yticilaoibjbgfaa.Op
