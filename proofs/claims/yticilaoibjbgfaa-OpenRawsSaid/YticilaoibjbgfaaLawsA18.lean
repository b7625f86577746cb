/- The law OpenRaws: its walk. -/
import Derived.Test.YticilaoibjbgfaaOp11
import Derived.Test.YticilaoibjbgfaaRow
import Derived.Test.YticilaoibjbgfaaOpen
set_option linter.unusedSimpArgs false
set_option linter.unusedVariables false
namespace Go.Proofs.Yticilaoibjbgfaa.Op
open Go.RowKit Go.Proofs.YticilaoibjbgfaaW.PrintWords Go.Proofs.YticilaoibjbgfaaW.PrintLast Go.Proofs.YticilaoibjbgfaaW.PrintMore Go.Proofs.Yticilaoibjbgfaa.POpenRaws Go.Proofs.Yticilaoibjbgfaa.Lib Go.Proofs.Yticilaoibjbgfaa.High Go.Proofs.Yticilaoibjbgfaa.Lex
/-! ### the argument -/
theorem opens_iso {α β : Type} {d : Kd α} {f : β → α} {t : TypeId} {ok : α → Prop} {ok' : β → Prop} (g : α → β) (hg : ∀ a, f (g a) = a) (hk : ∀ a, ok a → ok' (g a)) (h : Row.Opens d t ok) : Row.Opens (Kd.iso d f) t ok' :=
  ⟨h.pos, h.cells, fun h2 => by
    obtain ⟨a, k, o⟩ := h.opens h2
    exact ⟨g a, by show d.K _ (f (g a)) _; rw [hg]; exact k, hk a o⟩⟩
theorem opens_cap : Row.Opens k54 54 WfC :=
  opens_iso (fun a => ⟨a.1, a.2⟩) (fun a => rfl) (fun a h => ⟨Row.wf_u8 h.1, fun n hn => Row.wf_u8 (h.2 n hn)⟩)
    (Row.opens_struct (l := [(0, 5), (1, 30)]) Try.underlying54 (by rfl) (by kernel_rfl)
      (Row.opensF_cons (Row.opens_int Try.underlying5 (by kernel_rfl)) (Row.opensF_one (Row.opens_slice Try.underlying30 (by kernel_rfl) (Row.opens_int Try.underlying5 (by kernel_rfl))) 1)))
abbrev X26 := Int × Int × Int × List S54
abbrev kd26 : Kd X26 := Kd.pair (Kd.int .u32) (Kd.pair (Kd.int .u16) (Kd.pair (Kd.int .u32) (Kd.slice 54 k54)))
def ok26 (x : X26) : Prop := (Lit.int .u32 x.1).wf = true ∧ (Lit.int .u16 x.2.1).wf = true ∧ (Lit.int .u32 x.2.2.1).wf = true ∧ WfL x.2.2.2
theorem opens_open : Row.Opens kd26 26 ok26 :=
  (Row.opens_struct (l := [(0, 22), (1, 23), (2, 22), (3, 24)]) Try.underlying26 (by rfl) (by kernel_rfl)
    (Row.opensF_cons (Row.opens_int Try.underlying22 (by kernel_rfl)) (Row.opensF_cons (Row.opens_int Try.underlying23 (by kernel_rfl)) (Row.opensF_cons (Row.opens_int Try.underlying22 (by kernel_rfl)) (Row.opensF_one (Row.opens_slice Try.underlying24 (by kernel_rfl) opens_cap) 3))))).mono
    (fun a h => ⟨h.1, h.2.1, h.2.2.1, h.2.2.2⟩)
theorem arg26 {cs : Array Value} {x : X26} {w : World} (h : kd26.K w x cs.toList) (ok : ok26 x) : ∃ (o : Opn) (A : Option Addr) (c : Nat), .agg cs = aO o A c ∧ o.Wf ∧ o.l.length ≤ c ∧ Kd.C k54 w A o.l.length o.l := by
  obtain ⟨c1, r1, e, h1, c2, r2, rfl, h2, c3, r3, rfl, h3, A, c, e4, hl, hC⟩ := h
  obtain ⟨a, b, d, l⟩ := x
  have e1 : c1 = [.int .u32 a] := h1
  have e2 : c2 = [.int .u16 b] := h2
  have e3 : c3 = [.int .u32 d] := h3
  have e4 : r3 = [.slice A l.length c] := e4
  subst e1 e2 e3 e4
  obtain ⟨o1, o2, o3, o4⟩ := ok
  simp [Lit.wf, IntKind.min, IntKind.max, IntKind.bits, IntKind.signed] at o1 o2 o3
  refine ⟨⟨a.toNat, b.toNat, d.toNat, l⟩, A, c, ?_, ⟨by show a.toNat < _; omega, by show b.toNat < _; omega, by show d.toNat < _; omega, o4⟩, hl, hC⟩
  obtain rfl : cs = #[.int .u32 a, .int .u16 b, .int .u32 d, .slice A l.length c] := by
    apply Array.ext'
    rw [e]
    rfl
  show Value.agg #[.int .u32 a, .int .u16 b, .int .u32 d, .slice A l.length c] = .agg #[.int .u32 ((a.toNat : Nat) : Int), .int .u16 ((b.toNat : Nat) : Int), .int .u32 ((d.toNat : Nat) : Int), .slice A l.length c]
  rw [Int.toNat_of_nonneg o1.1, Int.toNat_of_nonneg o2.1, Int.toNat_of_nonneg o3.1]
/-! ### few -/
theorem few_bounds {l : List S54} (h : fewB l = true) : l.length ≤ 30 ∧ ∀ x ∈ l, x.f1.length ≤ 200 := by
  rw [fewB, Bool.and_eq_true, List.all_eq_true] at h
  exact ⟨of_decide_eq_true h.2, fun x hx => of_decide_eq_true (h.1 x hx)⟩
theorem laidL_bound : ∀ (l : List S54), (∀ x ∈ l, x.f1.length ≤ 200) → (laidL l).length ≤ 202 * l.length
  | [], _ => by simp [laidL]
  | x :: l, h => by
    have h1 := laidL_bound l (fun y hy => h y (List.mem_cons_of_mem _ hy))
    have h2 := h x (List.mem_cons_self ..)
    have e : laidL (x :: l) = capB x ++ laidL l := by simp [laidL]
    rw [e, List.length_append, List.length_cons]
    simp only [capB, List.length_cons]
    omega
theorem laidO_bound {o : Opn} (h : fewB o.l = true) : (laidO o).length ≤ 10000 := by
  obtain ⟨h1, h2⟩ := few_bounds h
  have := laidL_bound o.l h2
  rw [laidO_len]
  omega
theorem rCheckC (o : Opn) (ho : o.Wf) (hf : fewB o.l = true) (A : Option Addr) (c : Nat) (w : World) (hx : Kd.C k54 w A o.l.length o.l) (hc : o.l.length ≤ c) :
    Calls Try.prog 13 #[aO o A c] w fun e w' => e = .returned (.int .i64 (checkN o)) ∧ Below w.heap.size w w' := by
  have h1 := laidO_bound hf
  have h2 := (few_bounds hf).1
  obtain ⟨k, hk⟩ := check_ex o ho (by omega) (by omega)
  exact pursuivantref18_Check.calls k _ _ _ A c o.l _ w hx hc hk
theorem rRawC (o : Opn) (ho : o.Wf) (hf : fewB o.l = true) (A : Option Addr) (c : Nat) (w : World) (hx : Kd.C k54 w A o.l.length o.l) (hc : o.l.length ≤ c) :
    Calls Try.prog 17 #[aO o A c] w fun e w' => ∃ v, e = .returned v ∧ OB w.heap.size w' v (rawB o) ∧ Below w.heap.size w w' := by
  have h1 := laidO_bound hf
  have h2 := (few_bounds hf).1
  obtain ⟨k, hk⟩ := rraw_ex o ho (by omega) (by omega)
  exact pursuivantref18_Raw.calls k _ _ _ A c o.l _ w hx hc hk
theorem fewC (o : Opn) (A : Option Addr) (c : Nat) (w : World) (hx : Kd.C k54 w A o.l.length o.l) (hc : o.l.length ≤ c) :
    Calls Try.prog 9 #[aO o A c] w fun e w' => e = .returned (.bool (fewB o.l)) ∧ Below w.heap.size w w' := by
  obtain ⟨k, hk⟩ := few_ex o.l o.a o.h o.i (by have := hx.2.1; omega)
  exact pursuivantlaw18_few.calls k _ _ _ A c o.l _ w hx hc hk
set_option maxRecDepth 100000 in
set_option maxHeartbeats 8000000 in
theorem rawsLaw (o : Opn) (ho : o.Wf) (A : Option Addr) (c : Nat) (w : World) (hx : Kd.C k54 w A o.l.length o.l) (hc : o.l.length ≤ c) :
    Calls Try.prog 3 #[aO o A c] w fun e w' => e = .returned (.bool true) ∧ Below w.heap.size w w' := by
  have hb1 := below_alloc (Below.refl w.heap.size w) (.cells (cO o A c).toArray 26)
  have hob1 := Ob.new w (cO o A c) _ rfl 26
  obtain ⟨V, hV⟩ : ∃ W, w.alloc (.cells (cO o A c).toArray 26) = W := ⟨_, rfl⟩
  have hs1 : V.heap.size = w.heap.size + 1 := by rw [← hV]; simp
  rw [hV] at hb1 hob1
  have HXV := Aside0.mk (Kd.C_below hx hb1)
  have HBV := Aside0.mk hb1
  have HOB := Aside0.mk hob1
  have HS := Aside0.mk hs1
  have HV := Aside0.mk hV
  have HO := Aside0.mk ho
  have HX := Aside0.mk hx
  have q0 := (hob1 0 _ rfl).1
  have q1 := (hob1 1 _ rfl).1
  have q2 := (hob1 2 _ rfl).1
  have q3 := (hob1 3 _ rfl).1
  clear hb1 hob1 hx ho hV hs1
  go_enter Try.func3, Try.ntmps3
  go_wp2_with fail
  rw [HV.out]
  go_wp2_with fail
  refine (fewC o A c _ HXV.out hc).mono ?_
  rintro e w1 ⟨rfl, hb1⟩
  have h1 := HOB.out.below hb1 (by rw [HS.out]; omega)
  have p0 := (h1 0 _ rfl).1
  have p1 := (h1 1 _ rfl).1
  have p2 := (h1 2 _ rfl).1
  have p3 := (h1 3 _ rfl).1
  have HO1 := Aside0.mk h1
  have HB1 := Aside0.mk (HBV.out.trans (hb1.mono HBV.out.size))
  have HX1 := Aside0.mk (Kd.C_below HXV.out hb1)
  clear hb1 h1 q0 q1 q2 q3
  cases hf : fewB o.l with
  | false =>
    go_wp2_with fail
    refine (worksC _).mono ?_
    rintro e w2 ⟨rfl, hb2⟩
    go_wp2_with fail
    go_ret
    exact ⟨rfl, HB1.out.trans (hb2.mono HB1.out.size)⟩
  | true =>
    have HF := Aside0.mk hf
    have hlb := laidO_bound hf
    obtain ⟨hln, hbl⟩ := few_bounds hf
    have HBL := Aside0.mk hbl
    clear hf hbl
    go_wp2_with fail
    refine (lentC o A c _ HX1.out (by omega) (fun x hx => by have := HBL.out x hx; omega)).mono ?_
    rintro e w2 ⟨A2, c2, rfl, hc2, hC2, hb2⟩
    have HB2 := Aside0.mk (HB1.out.trans (hb2.mono HB1.out.size))
    have h2 := HO1.out.below hb2 HO1.out.lt
    have hb3 := below_alloc (Below.refl w2.heap.size w2) (.cells (cO o A2 c2).toArray 26)
    have hob3 := Ob.new w2 (cO o A2 c2) _ rfl 26
    obtain ⟨w3, hw3⟩ : ∃ W, w2.alloc (.cells (cO o A2 c2).toArray 26) = W := ⟨_, rfl⟩
    have hs3 : w3.heap.size = w2.heap.size + 1 := by rw [← hw3]; simp
    rw [hw3] at hb3 hob3
    have HB3 := Aside0.mk (HB2.out.trans (hb3.mono HB2.out.size))
    have HC3 := Aside0.mk (Kd.C_below hC2 hb3)
    have HX3 := Aside0.mk (Kd.C_below HX.out HB3.out)
    have HO3 := Aside0.mk (h2.below hb3 h2.lt)
    have HP3 := Aside0.mk hob3
    have HW3 := Aside0.mk hw3
    obtain ⟨g, hg⟩ : ∃ g, w2.heap.size = g := ⟨_, rfl⟩
    rw [hg] at HP3
    have HCL : Aside0 (∀ U, Below w3.heap.size w3 U → (U.cell? ⟨w.heap.size, 0, none⟩ = some (.int .u32 o.a) ∧ U.cell? ⟨w.heap.size, 1, none⟩ = some (.int .u16 o.h) ∧ U.cell? ⟨w.heap.size, 2, none⟩ = some (.int .u32 o.i) ∧ U.cell? ⟨w.heap.size, 3, none⟩ = some (.slice A o.l.length c)) ∧ (U.cell? ⟨g, 0, none⟩ = some (.int .u32 o.a) ∧ U.cell? ⟨g, 1, none⟩ = some (.int .u16 o.h) ∧ U.cell? ⟨g, 2, none⟩ = some (.int .u32 o.i) ∧ U.cell? ⟨g, 3, none⟩ = some (.slice A2 o.l.length c2))) := ⟨fun U hU => by
      have u := HO3.out.below hU HO3.out.lt
      have v := HP3.out.below hU HP3.out.lt
      exact ⟨⟨(u 0 _ rfl).1, (u 1 _ rfl).1, (u 2 _ rfl).1, (u 3 _ rfl).1⟩, ⟨(v 0 _ rfl).1, (v 1 _ rfl).1, (v 2 _ rfl).1, (v 3 _ rfl).1⟩⟩⟩
    obtain ⟨-, ⟨v0, v1, v2, v3⟩⟩ := HCL.out w3 (Below.refl _ _)
    clear hb2 h2 hb3 hob3 hC2 hw3 hs3 p0 p1 p2 p3
    go_wp2_with fail
    rw [HW3.out]
    go_wp2_with fail
    refine (rawC o HO.out A2 c2 _ HC3.out hc2 (by omega) (by omega)).mono ?_
    rintro e w4 ⟨v4, rfl, ho4, hb4⟩
    have B4 := Aside0.mk hb4
    have HO4 := Aside0.mk (ho4.lower HB3.out.size)
    obtain ⟨A4, c4, rfl, _, hC4⟩ := ho4.reads
    have HC4 := Aside0.mk hC4
    obtain ⟨⟨u0, u1, u2, u3⟩, -⟩ := HCL.out w4 hb4
    clear ho4 hb4 hC4 v0 v1 v2 v3
    go_wp2_with fail
    refine (rCheckC o HO.out HF.out A c _ (Kd.C_below HX3.out B4.out) hc).mono ?_
    rintro e w5 ⟨rfl, hb5⟩
    have B5 := Aside0.mk (B4.out.trans (hb5.mono B4.out.size))
    obtain ⟨-, ⟨v0, v1, v2, v3⟩⟩ := HCL.out w5 B5.out
    have HC5 := Aside0.mk (Kd.C_below HC4.out hb5)
    clear hb5 u0 u1 u2 u3
    go_wp2_with fail
    refine (checkC o HO.out A2 c2 _ (Kd.C_below HC3.out B5.out) hc2 (by omega) (by omega)).mono ?_
    rintro e w6 ⟨rfl, hb6⟩
    have B6 := Aside0.mk (B5.out.trans (hb6.mono B5.out.size))
    have HC6 := Aside0.mk (Kd.C_below HC5.out hb6)
    obtain ⟨⟨u0, u1, u2, u3⟩, ⟨t0, t1, t2, t3⟩⟩ := HCL.out w6 B6.out
    clear hb6 v0 v1 v2 v3
    obtain ⟨N, hN⟩ : ∃ N, checkN o = N := ⟨_, rfl⟩
    have HN := Aside0.mk hN
    rw [hN]
    clear hN
    go_wp2_with fail
    refine (num _ _).mono ?_
    rintro e y1 ⟨rfl, rfl⟩
    have hnn : (N != N) = false := by simp
    go_wp2_with fail
    refine (rsameC o o HO.out HO.out A2 c2 A c w6 (Kd.C_below HC3.out B6.out) (Kd.C_below HX3.out B6.out) (by omega)).mono ?_
    rintro e w7 ⟨rfl, hb7⟩
    rw [sameB_refl]
    have B7 := Aside0.mk (B6.out.trans (hb7.mono B6.out.size))
    have HC7 := Aside0.mk (Kd.C_below HC6.out hb7)
    obtain ⟨⟨r0, r1, r2, r3⟩, -⟩ := HCL.out w7 B7.out
    clear hb7 u0 u1 u2 u3 t0 t1 t2 t3
    cases hq : (N == 0) with
    | false =>
      have hq2 : (N != 0) = true := by rw [bne, hq]; rfl
      have hrs : rawS o = [] := by rw [rawS, HN.out, if_neg (ne_of_beq_false hq)]
      rw [hrs]
      have hself : (N == N) = true := by simp
      go_wp2_with fail
      refine (num _ _).mono ?_
      rintro e y2 ⟨rfl, rfl⟩
      go_wp2_with fail
      refine (worksC _).mono ?_
      rintro e w8 ⟨rfl, hb8⟩
      have B8 := Aside0.mk (B7.out.trans (hb8.mono B7.out.size))
      clear hb8
      go_wp2_with fail
      go_ret
      exact ⟨rfl, HB3.out.trans (B8.out.mono HB3.out.size)⟩
    | true =>
      have hq2 : (N != 0) = false := by rw [bne, hq]; rfl
      have hrs : rawS o = rawB o := by rw [rawS, HN.out, if_pos (eq_of_beq hq)]
      rw [hrs] at HC7 ⊢
      have hN0 := eq_of_beq hq
      obtain ⟨T, hT⟩ : ∃ T, strOfNums (rawB o) = T := ⟨_, rfl⟩
      have HT := Aside0.mk hT
      have HCV : Aside0 (∀ U, Below w7.heap.size w7 U → U.cell? ⟨w.heap.size, 0, none⟩ = some (.int .u32 o.a) ∧ U.cell? ⟨w.heap.size, 1, none⟩ = some (.int .u16 o.h) ∧ U.cell? ⟨w.heap.size, 2, none⟩ = some (.int .u32 o.i) ∧ U.cell? ⟨w.heap.size, 3, none⟩ = some (.slice A o.l.length c) ∧ (convert 30 9 (.slice A4 (rawB o).length c4)).run Try.prog U = .ok (.string T) U) := ⟨fun U hU => by
        obtain ⟨⟨a0, a1, a2, a3⟩, -⟩ := HCL.out U (B7.out.trans (hU.mono B7.out.size))
        refine ⟨a0, a1, a2, a3, ?_⟩
        rw [← HT.out]
        exact conv U _ _ _ (Kd.C_below HC7.out hU)⟩
      clear hT r0 r1 r2 r3 hnn hrs
      go_wp2_with fail
      refine region [(0, .p), (1, .t), (2, .t), (3, .o), (4, .o), (5, .p), (6, .p), (7, .p), (8, .o), (9, .p), (10, .p), (11, .p), (12, .q), (13, .p), (14, .p)] (fun U => U.cell? ⟨w.heap.size, 0, none⟩ = some (.int .u32 o.a) ∧ U.cell? ⟨w.heap.size, 1, none⟩ = some (.int .u16 o.h) ∧ U.cell? ⟨w.heap.size, 2, none⟩ = some (.int .u32 o.i) ∧ U.cell? ⟨w.heap.size, 3, none⟩ = some (.slice A o.l.length c) ∧ (convert 30 9 (.slice A4 (rawB o).length c4)).run Try.prog U = .ok (.string T) U) (by kernel_rfl) (by kernel_rfl) (fun _ _ _ _ _ h => h) (HCV.out _ (below_drew (Below.refl _ _))) (fun hHeld => ?_)
      (refine lex_p rfl rfl rfl (by intro w'; go_simp; with_reducible rfl) (by simp only [Act.put, List.setIfInBounds_toArray, List.set_cons_zero, List.set_cons_succ, i64_w, i32_w]; rfl) ?_)
      iterate 2 (refine lex_t rfl rfl rfl (by rintro w' ⟨s0, s1, s2, s3, s4⟩; go_simp; with_reducible rfl) (by simp only [Act.put, List.setIfInBounds_toArray, List.set_cons_zero, List.set_cons_succ, i64_w, i32_w]; rfl) ?_)
      refine lex_o rfl ?_
      go_wp2_with fail
      refine (rRawC o HO.out HF.out A c _ (Kd.C_below HX3.out (B7.out.trans ((below_drew (Below.refl w7.heap.size w7)).mono B7.out.size))) hc).mono ?_
      rintro e y3 ⟨v8, rfl, ho8, hb8⟩
      have R3 := Aside0.mk ((below_drew (Below.refl w7.heap.size w7)).trans hb8)
      obtain ⟨A8, c8, rfl, _, hC8⟩ := ho8.reads
      have hcv := conv y3 A8 c8 _ hC8
      rw [HT.out] at hcv
      have HCV8 := Aside0.mk hcv
      clear ho8 hb8 hC8 hcv
      go_wp2_with fail
      refine lex_end (by first | (simp only [Act.put, List.setIfInBounds_toArray, List.set_cons_zero, List.set_cons_succ, i64_w, i32_w]; rfl) | rfl) (HCV.out _ R3.out) (fun hHeld => ?_)
      refine lex_o rfl ?_
      have hcv := HCV8.out
      go_wp2_with fail
      clear hcv
      refine lex_end (by first | (simp only [Act.put, List.setIfInBounds_toArray, List.set_cons_zero, List.set_cons_succ, i64_w, i32_w]; rfl) | rfl) (HCV.out _ R3.out) (fun hHeld => ?_)
      iterate 3 (refine lex_p rfl rfl rfl (by intro w'; go_simp; with_reducible rfl) (by simp only [Act.put, List.setIfInBounds_toArray, List.set_cons_zero, List.set_cons_succ, i64_w, i32_w]; rfl) ?_)
      refine lex_o rfl ?_
      go_wp2_with fail
      refine (num _ _).mono ?_
      rintro e y4 ⟨rfl, rfl⟩
      go_wp2_with fail
      refine lex_end (by first | (simp only [Act.put, List.setIfInBounds_toArray, List.set_cons_zero, List.set_cons_succ, i64_w, i32_w]; rfl) | rfl) (HCV.out _ R3.out) (fun hHeld => ?_)
      iterate 3 (refine lex_p rfl rfl rfl (by intro w'; go_simp; with_reducible rfl) (by simp only [Act.put, List.setIfInBounds_toArray, List.set_cons_zero, List.set_cons_succ, i64_w, i32_w]; rfl) ?_)
      refine lex_q rfl ?_
      go_wp2_with fail
      refine (worksC _).mono ?_
      rintro e y5 ⟨rfl, hb9⟩
      have R5 := Aside0.mk (R3.out.trans (hb9.mono R3.out.size))
      clear hb9
      go_wp2_with fail
      refine lex_endq (by first | (simp only [Act.put, List.setIfInBounds_toArray, List.set_cons_zero, List.set_cons_succ, i64_w, i32_w]; rfl) | rfl) ?_
      iterate 2 (refine lex_p rfl rfl rfl (by intro w'; go_simp; with_reducible rfl) (by simp only [Act.put, List.setIfInBounds_toArray, List.set_cons_zero, List.set_cons_succ, i64_w, i32_w]; rfl) ?_)
      refine lex_nil ?_
      go_wp2_with fail
      go_ret
      exact ⟨rfl, HB3.out.trans ((B7.out.trans (R5.out.mono B7.out.size)).mono HB3.out.size)⟩
theorem openRawsR (cs : Array Value) (x : X26) (w : World) (h : kd26.K w x cs.toList) (ok : ok26 x) :
    Calls Try.prog 3 #[.agg cs] w fun e w' => e = .returned (.bool true) ∧ Below w.heap.size w w' := by
  obtain ⟨o, A, c, e, ho, hc, hC⟩ := arg26 h ok
  rw [e]
  exact rawsLaw o ho A c w hC hc
end Go.Proofs.Yticilaoibjbgfaa.Op
namespace Go.Proofs.Yticilaoibjbgfaa.Row
open Go.RowKit Go.Proofs.YticilaoibjbgfaaW.PrintWords Go.Proofs.YticilaoibjbgfaaW.PrintLast Go.Proofs.YticilaoibjbgfaaW.PrintMore
theorem open_kagg {α : Type} {d : Kd α} {t : TypeId} {ok : α → Prop} (hO : Opens d t ok) {H : Type} {enc : TypeId × Value → H} {W : World} {base : Nat} {spare : Nat → Bool} {held : Bool} {cs : Array Value} {dd : DataW H} {ps : List MemPlace}
    (h : DataW.Trod enc Try.prog W base spare held t (.agg cs) dd ps) : ∃ x : α, d.K W x cs.toList ∧ ok x := by
  obtain ⟨fuel, hf⟩ := h
  exact hO.opens hf
end Go.Proofs.Yticilaoibjbgfaa.Row
