/- The law OpenCaps: its walk. -/
import Derived.Test.YticilaoibjbgfaaOpN18
set_option linter.unusedSimpArgs false
set_option linter.unusedVariables false
namespace Go.Proofs.Yticilaoibjbgfaa.Op
open Go.RowKit Go.Proofs.YticilaoibjbgfaaW.PrintWords Go.Proofs.YticilaoibjbgfaaW.PrintLast Go.Proofs.YticilaoibjbgfaaW.PrintMore Go.Proofs.Yticilaoibjbgfaa.POpenRaws Go.Proofs.Yticilaoibjbgfaa.Lib Go.Proofs.Yticilaoibjbgfaa.High Go.Proofs.Yticilaoibjbgfaa.Lex
set_option maxRecDepth 100000 in
set_option maxHeartbeats 16000000 in
theorem capsLaw (a b : Opn) (code : Int) (ha : a.Wf) (hb : b.Wf) (A : Option Addr) (c : Nat) (B : Option Addr) (d : Nat) (w : World) (hx : Kd.C k54 w A a.l.length a.l) (hc : a.l.length ≤ c) (hy : Kd.C k54 w B b.l.length b.l) (hd : b.l.length ≤ d) :
    Calls Try.prog 7 #[aO a A c, aO b B d, .int .u8 code] w fun e w' => e = .returned (.bool true) ∧ Below w.heap.size w w' := by
  obtain ⟨p, hp⟩ : ∃ p, w.heap.size = p := ⟨_, rfl⟩
  have hob1 := Ob.new w (cO a A c) _ rfl 26
  have hb1 := below_alloc (Below.refl w.heap.size w) (.cells (cO a A c).toArray 26)
  obtain ⟨w1, hw1⟩ : ∃ W, w.alloc (.cells (cO a A c).toArray 26) = W := ⟨_, rfl⟩
  have hs1 : w1.heap.size = p + 1 := by rw [← hw1, ← hp]; simp
  rw [hw1] at hob1 hb1
  rw [hp] at hob1
  have hob2 := Ob.new w1 (cO b B d) _ rfl 26
  have hb2 := below_alloc (Below.refl w1.heap.size w1) (.cells (cO b B d).toArray 26)
  obtain ⟨V, hV⟩ : ∃ W, w1.alloc (.cells (cO b B d).toArray 26) = W := ⟨_, rfl⟩
  have hs2 : V.heap.size = p + 1 + 1 := by rw [← hV, World.size_alloc, hs1]
  rw [hV, hs1] at hob2
  rw [hV] at hb2
  have o1 := hob1.below hb2 (by omega)
  have hbV := hb1.trans (hb2.mono hb1.size)
  have HBV := Aside0.mk hbV
  have HW1 := Aside0.mk hw1
  have HV := Aside0.mk hV
  have HXW := Aside0.mk hx
  have HYW := Aside0.mk hy
  have HWA := Aside0.mk ha
  have HWB := Aside0.mk hb
  have HCV : Aside0 (∀ U : World, Below V.heap.size V U → U.cell? ⟨p, 0, none⟩ = some (.int .u32 a.a) ∧ U.cell? ⟨p, 1, none⟩ = some (.int .u16 a.h) ∧ U.cell? ⟨p, 2, none⟩ = some (.int .u32 a.i) ∧ U.cell? ⟨p, 3, none⟩ = some (.slice A a.l.length c) ∧ U.cell? ⟨p + 1, 0, none⟩ = some (.int .u32 b.a) ∧ U.cell? ⟨p + 1, 1, none⟩ = some (.int .u16 b.h) ∧ U.cell? ⟨p + 1, 2, none⟩ = some (.int .u32 b.i) ∧ U.cell? ⟨p + 1, 3, none⟩ = some (.slice B b.l.length d)) := ⟨fun U hU => by
    have u1 := o1.below hU (by omega)
    have u2 := hob2.below hU (by omega)
    exact ⟨(u1 0 _ rfl).1, (u1 1 _ rfl).1, (u1 2 _ rfl).1, (u1 3 _ rfl).1, (u2 0 _ rfl).1, (u2 1 _ rfl).1, (u2 2 _ rfl).1, (u2 3 _ rfl).1⟩⟩
  obtain ⟨a0, a1, a2, a3, b0, b1, b2, b3⟩ := HCV.out V (Below.refl _ _)
  clear hob1 hob2 hb1 hb2 o1 hbV hx hy ha hb hw1 hV hs1 hs2
  go_enter Try.func7, Try.ntmps7
  go_wp2_with fail
  rw [HW1.out, HV.out]
  go_wp2_with fail
  refine (fewC a A c _ (Kd.C_below HXW.out HBV.out) hc).mono ?_
  rintro e w1' ⟨rfl, hb1⟩
  have HB1 := Aside0.mk (HBV.out.trans (hb1.mono HBV.out.size))
  have HB1V := Aside0.mk hb1
  clear a0 a1 a2 a3 b0 b1 b2 b3
  obtain ⟨a0, a1, a2, a3, b0, b1, b2, b3⟩ := HCV.out w1' hb1
  clear hb1
  cases hfa : fewB a.l with
  | false =>
    go_wp2_with fail
    refine (worksC _).mono ?_
    rintro e w2 ⟨rfl, hb2⟩
    go_wp2_with fail
    go_ret
    exact ⟨rfl, HB1.out.trans (hb2.mono HB1.out.size)⟩
  | true =>
    have HFA := Aside0.mk hfa
    clear hfa
    go_wp2_with fail
    refine (fewC b B d _ (Kd.C_below HYW.out HB1.out) hd).mono ?_
    rintro e w2 ⟨rfl, hb2⟩
    have HB2 := Aside0.mk (HB1.out.trans (hb2.mono HB1.out.size))
    have HB2V := HB1V.out.trans (hb2.mono HB1V.out.size)
    clear a0 a1 a2 a3 b0 b1 b2 b3
    have HCL : Aside0 (∀ U : World, Below w2.heap.size w2 U → _) := ⟨fun U hU => HCV.out U (HB2V.trans (hU.mono HB2V.size))⟩
    obtain ⟨a0, a1, a2, a3, b0, b1, b2, b3⟩ := HCL.out w2 (Below.refl _ _)
    clear hb2 HB2V
    cases hfb : fewB b.l with
    | false =>
      go_wp2_with fail
      refine (worksC _).mono ?_
      rintro e w3 ⟨rfl, hb3⟩
      go_wp2_with fail
      go_ret
      exact ⟨rfl, HB2.out.trans (hb3.mono HB2.out.size)⟩
    | true =>
      have hna := (few_bounds HFA.out).1
      have hnb := (few_bounds hfb).1
      have HBA : Aside0 (∀ s ∈ a.l, s.f1.length ≤ 1000000) := ⟨fun s hs => by have := (few_bounds HFA.out).2 s hs; omega⟩
      clear hfb
      go_wp2_with fail
      refine (lentC a A c _ (Kd.C_below HXW.out HB2.out) (by omega) HBA.out).mono ?_
      rintro e w3 ⟨A2, c2, rfl, hc2, hC2, hb3⟩
      have hb4 := below_alloc (Below.refl w3.heap.size w3) (.cells (cO a A2 c2).toArray 26)
      have hob4 := Ob.new w3 (cO a A2 c2) _ rfl 26
      obtain ⟨z0, z1, z2, z3⟩ : (w3.alloc (.cells (cO a A2 c2).toArray 26)).cell? ⟨w3.heap.size, 0, none⟩ = some (.int .u32 a.a) ∧ (w3.alloc (.cells (cO a A2 c2).toArray 26)).cell? ⟨w3.heap.size, 1, none⟩ = some (.int .u16 a.h) ∧ (w3.alloc (.cells (cO a A2 c2).toArray 26)).cell? ⟨w3.heap.size, 2, none⟩ = some (.int .u32 a.i) ∧ (w3.alloc (.cells (cO a A2 c2).toArray 26)).cell? ⟨w3.heap.size, 3, none⟩ = some (.slice A2 a.l.length c2) := ⟨(hob4 0 _ rfl).1, (hob4 1 _ rfl).1, (hob4 2 _ rfl).1, (hob4 3 _ rfl).1⟩
      have B4 := Aside0.mk ((HB2.out.trans (hb3.mono HB2.out.size)).trans (hb4.mono (HB2.out.trans (hb3.mono HB2.out.size)).size))
      have B24 := Aside0.mk (hb3.trans (hb4.mono hb3.size))
      clear a0 a1 a2 a3 b0 b1 b2 b3
      go_wp2_with fail
      obtain ⟨w4, hw4⟩ : ∃ W, w3.alloc (.cells (cO a A2 c2).toArray 26) = W := ⟨_, rfl⟩
      have HW4 := Aside0.mk hw4
      rw [HW4.out]
      rw [hw4] at hb4 hob4 B4 B24
      obtain ⟨g, hg⟩ : ∃ g, w3.heap.size = g := ⟨_, rfl⟩
      rw [hg] at hob4
      have HCL : Aside0 (∀ U : World, Below w4.heap.size w4 U → (U.cell? ⟨p, 0, none⟩ = some (.int .u32 a.a) ∧ U.cell? ⟨p, 1, none⟩ = some (.int .u16 a.h) ∧ U.cell? ⟨p, 2, none⟩ = some (.int .u32 a.i) ∧ U.cell? ⟨p, 3, none⟩ = some (.slice A a.l.length c) ∧ U.cell? ⟨p + 1, 0, none⟩ = some (.int .u32 b.a) ∧ U.cell? ⟨p + 1, 1, none⟩ = some (.int .u16 b.h) ∧ U.cell? ⟨p + 1, 2, none⟩ = some (.int .u32 b.i) ∧ U.cell? ⟨p + 1, 3, none⟩ = some (.slice B b.l.length d)) ∧ (U.cell? ⟨g, 0, none⟩ = some (.int .u32 a.a) ∧ U.cell? ⟨g, 1, none⟩ = some (.int .u16 a.h) ∧ U.cell? ⟨g, 2, none⟩ = some (.int .u32 a.i) ∧ U.cell? ⟨g, 3, none⟩ = some (.slice A2 a.l.length c2))) := ⟨fun U hU => by
        have u := hob4.below hU hob4.lt
        exact ⟨HCL.out U (B24.out.trans (hU.mono B24.out.size)), (u 0 _ rfl).1, (u 1 _ rfl).1, (u 2 _ rfl).1, (u 3 _ rfl).1⟩⟩
      have HX4 := Aside0.mk (Kd.C_below HXW.out B4.out)
      have HY4 := Aside0.mk (Kd.C_below HYW.out B4.out)
      have HC4 := Aside0.mk (Kd.C_below hC2 hb4)
      clear hb3 hb4 hob4 hC2 hw4 z0 z1 z2 z3
      refine (capC a A2 c2 code w4 HC4.out (by omega) HBA.out).mono ?_
      rintro e w5 ⟨v, hor, hb5⟩
      have B5 := Aside0.mk hb5
      obtain ⟨⟨-, -, -, a3, -⟩, -⟩ := HCL.out w5 hb5
      clear hb5
      rcases hor with ⟨rfl, rfl, hno⟩ | ⟨k0, hk0, rfl, ho5, hcode, hfirst⟩
      · have HNO := Aside0.mk hno
        clear hno
        go_wp2_with fail
        go_loopg [10, 11] a.l.length (fun gk s10 s11 W => ∃ k : Nat, k ≤ a.l.length ∧ a.l.length - k ≤ gk ∧ s11 = .int .i64 k ∧ s10 = .int .i64 (-1) ∧ W = w5)
        case atStart => exact ⟨0, by omega, by omega, rfl, rfl, rfl⟩
        case round =>
          obtain ⟨k, hk, hgk, rfl, rfl, rfl⟩ := hrel
          by_cases hlt : k < a.l.length
          · obtain ⟨bb, oo, A1, c1, rfl, q0, q1, _, _⟩ := C_cap (Kd.C_below HX4.out B5.out) k hlt
            have hcf : ((a.l.getD k z54).f0 == code) = false := beq_false_of_ne (HNO.out k hlt)
            obtain ⟨x, hxe⟩ : ∃ x, a.l.getD k z54 = x := ⟨_, rfl⟩
            rw [hxe] at q0 q1 hcf
            have hlI : (k : Int) < (a.l.length : Int) := by omega
            have HLT := Aside0.mk hlt
            clear hxe hlt
            go_wp2_with fail
            go_roundg (gk - 1)
            case measure => have := HLT.out; omega
            case rel => exact ⟨k + 1, by have := HLT.out; omega, by omega, by go_num, rfl, rfl⟩
          · obtain rfl : k = a.l.length := by omega
            have hlI : ¬ ((a.l.length : Int) < (a.l.length : Int)) := by omega
            go_wp2_with fail
            refine region [(0, .p), (1, .p), (2, .p), (3, .p), (4, .p), (5, .p), (6, .p), (7, .p), (8, .p), (9, .p), (10, .p), (11, .p), (12, .p), (13, .p), (14, .p), (15, .p), (16, .p), (17, .p), (18, .p), (19, .p), (20, .p), (21, .p), (22, .p), (23, .p), (24, .p), (25, .p), (26, .p), (27, .p), (28, .p)] (fun _ => True) (by kernel_rfl) (by kernel_rfl) (fun _ _ _ _ _ h => h) (trivial) (fun hHeld => ?_)
            iterate 8 (refine lex_p rfl rfl rfl (by intro w'; go_simp; with_reducible rfl) (by simp only [Act.put, List.setIfInBounds_toArray, List.set_cons_zero, List.set_cons_succ, i64_w, i32_w]; rfl) ?_)
            iterate 10 (refine lex_off rfl rfl rfl (by simp only [Act.put, List.setIfInBounds_toArray, List.set_cons_zero, List.set_cons_succ, i64_w, i32_w]; rfl) ?_)
            iterate 11 (refine lex_p rfl rfl rfl (by intro w'; go_simp; with_reducible rfl) (by simp only [Act.put, List.setIfInBounds_toArray, List.set_cons_zero, List.set_cons_succ, i64_w, i32_w]; rfl) ?_)
            refine lex_nil ?_
            go_wp2_with fail
            go_loopg [12] 1 (fun gk s12 W => s12 = .int .i64 0 ∧ Aside0 (Below w4.heap.size w4 W))
            case atStart => exact ⟨rfl, ⟨below_drew B5.out⟩⟩
            case round =>
              obtain ⟨rfl, RW⟩ := hrel
              go_wp2_with fail
              refine region [(0, .t), (1, .t), (2, .o), (3, .p), (4, .t), (5, .t), (7, .t), (8, .t), (6, .o), (9, .o), (10, .p), (11, .p), (12, .p), (13, .t), (14, .t), (15, .o), (16, .p), (17, .p), (18, .q), (19, .p), (20, .p)] (fun U => (U.cell? ⟨p, 0, none⟩ = some (.int .u32 a.a) ∧ U.cell? ⟨p, 1, none⟩ = some (.int .u16 a.h) ∧ U.cell? ⟨p, 2, none⟩ = some (.int .u32 a.i) ∧ U.cell? ⟨p, 3, none⟩ = some (.slice A a.l.length c) ∧ U.cell? ⟨p + 1, 0, none⟩ = some (.int .u32 b.a) ∧ U.cell? ⟨p + 1, 1, none⟩ = some (.int .u16 b.h) ∧ U.cell? ⟨p + 1, 2, none⟩ = some (.int .u32 b.i) ∧ U.cell? ⟨p + 1, 3, none⟩ = some (.slice B b.l.length d)) ∧ (U.cell? ⟨g, 0, none⟩ = some (.int .u32 a.a) ∧ U.cell? ⟨g, 1, none⟩ = some (.int .u16 a.h) ∧ U.cell? ⟨g, 2, none⟩ = some (.int .u32 a.i) ∧ U.cell? ⟨g, 3, none⟩ = some (.slice A2 a.l.length c2))) (by kernel_rfl) (by kernel_rfl) (fun _ _ _ _ _ h => h) (HCL.out _ (below_drew RW.out)) (fun hHeld => ?_)
              iterate 2 (refine lex_t rfl rfl rfl (by rintro w' ⟨⟨s0, s1, s2, s3, s4, s5, s6, s7⟩, s8, s9, s10, s11⟩; go_simp; with_reducible rfl) (by simp only [Act.put, List.setIfInBounds_toArray, List.set_cons_zero, List.set_cons_succ, i64_w, i32_w]; rfl) ?_)
              refine lex_o rfl ?_
              go_wp2_with fail
              refine (rsameC a a HWA.out HWA.out A2 c2 A c _ (Kd.C_below HC4.out (below_drew RW.out)) (Kd.C_below HX4.out (below_drew RW.out)) (by omega)).mono ?_
              rintro e y1 ⟨rfl, hr⟩
              rw [sameB_refl]
              have R1 := Aside0.mk ((below_drew RW.out).trans (hr.mono (below_drew RW.out).size))
              clear hr
              go_wp2_with fail
              refine lex_end (by first | (simp only [Act.put, List.setIfInBounds_toArray, List.set_cons_zero, List.set_cons_succ, i64_w, i32_w]; rfl) | rfl) (HCL.out _ R1.out) (fun hHeld => ?_)
              (refine lex_p rfl rfl rfl (by intro w'; go_simp; with_reducible rfl) (by simp only [Act.put, List.setIfInBounds_toArray, List.set_cons_zero, List.set_cons_succ, i64_w, i32_w]; rfl) ?_)
              iterate 4 (refine lex_t rfl rfl rfl (by rintro w' ⟨⟨s0, s1, s2, s3, s4, s5, s6, s7⟩, s8, s9, s10, s11⟩; go_simp; with_reducible rfl) (by simp only [Act.put, List.setIfInBounds_toArray, List.set_cons_zero, List.set_cons_succ, i64_w, i32_w]; rfl) ?_)
              refine lex_o rfl ?_
              go_wp2_with fail
              refine (sameC a b A c B d y1 (Kd.C_below HX4.out R1.out) (Kd.C_below HY4.out R1.out) (by omega) HBA.out).mono ?_
              rintro e y2 ⟨rfl, hr⟩
              have R2 := Aside0.mk (R1.out.trans (hr.mono R1.out.size))
              clear hr
              go_wp2_with fail
              refine lex_end (by first | (simp only [Act.put, List.setIfInBounds_toArray, List.set_cons_zero, List.set_cons_succ, i64_w, i32_w]; rfl) | rfl) (HCL.out _ R2.out) (fun hHeld => ?_)
              refine lex_o rfl ?_
              go_wp2_with fail
              refine (rsameC a b HWA.out HWB.out A c B d y2 (Kd.C_below HX4.out R2.out) (Kd.C_below HY4.out R2.out) (by omega)).mono ?_
              rintro e y3 ⟨rfl, hr⟩
              have R3 := Aside0.mk (R2.out.trans (hr.mono R2.out.size))
              obtain ⟨Q, hQ⟩ : ∃ Q, sameB a b = Q := ⟨_, rfl⟩
              rw [hQ]
              have hqq : (Q == Q) = true := by simp
              clear hr hQ
              go_wp2_with fail
              refine lex_end (by first | (simp only [Act.put, List.setIfInBounds_toArray, List.set_cons_zero, List.set_cons_succ, i64_w, i32_w]; rfl) | rfl) (HCL.out _ R3.out) (fun hHeld => ?_)
              iterate 3 (refine lex_p rfl rfl rfl (by intro w'; go_simp; with_reducible rfl) (by simp only [Act.put, List.setIfInBounds_toArray, List.set_cons_zero, List.set_cons_succ, i64_w, i32_w]; rfl) ?_)
              iterate 2 (refine lex_t rfl rfl rfl (by rintro w' ⟨⟨s0, s1, s2, s3, s4, s5, s6, s7⟩, s8, s9, s10, s11⟩; go_simp; with_reducible rfl) (by simp only [Act.put, List.setIfInBounds_toArray, List.set_cons_zero, List.set_cons_succ, i64_w, i32_w]; rfl) ?_)
              refine lex_o rfl ?_
              go_wp2_with fail
              refine (sameC a a A c A2 c2 y3 (Kd.C_below HX4.out R3.out) (Kd.C_below HC4.out R3.out) (by omega) HBA.out).mono ?_
              rintro e y4 ⟨rfl, hr⟩
              rw [sameB_refl]
              have R4 := Aside0.mk (R3.out.trans (hr.mono R3.out.size))
              clear hr
              go_wp2_with fail
              refine lex_end (by first | (simp only [Act.put, List.setIfInBounds_toArray, List.set_cons_zero, List.set_cons_succ, i64_w, i32_w]; rfl) | rfl) (HCL.out _ R4.out) (fun hHeld => ?_)
              iterate 2 (refine lex_p rfl rfl rfl (by intro w'; go_simp; with_reducible rfl) (by simp only [Act.put, List.setIfInBounds_toArray, List.set_cons_zero, List.set_cons_succ, i64_w, i32_w]; rfl) ?_)
              refine lex_q rfl ?_
              go_wp2_with fail
              refine (worksC _).mono ?_
              rintro e y5 ⟨rfl, hr⟩
              have R5 := Aside0.mk (R4.out.trans (hr.mono R4.out.size))
              clear hr
              go_wp2_with fail
              refine lex_endq (by first | (simp only [Act.put, List.setIfInBounds_toArray, List.set_cons_zero, List.set_cons_succ, i64_w, i32_w]; rfl) | rfl) ?_
              iterate 2 (refine lex_p rfl rfl rfl (by intro w'; go_simp; with_reducible rfl) (by simp only [Act.put, List.setIfInBounds_toArray, List.set_cons_zero, List.set_cons_succ, i64_w, i32_w]; rfl) ?_)
              refine lex_nil ?_
              go_wp2_with fail
              go_ret
              exact ⟨rfl, B4.out.trans (R5.out.mono B4.out.size)⟩
      · obtain ⟨bb, oo, A1, c1, rfl, q0, q1, _, hC1⟩ := C_cap (Kd.C_below HX4.out B5.out) k0 hk0
        obtain ⟨x, hxe⟩ : ∃ x, a.l.getD k0 z54 = x := ⟨_, rfl⟩
        rw [hxe] at q0 q1 hC1 ho5 hcode
        obtain ⟨Av, cv, rfl, _, hCv⟩ := ho5.reads
        obtain ⟨T, hT⟩ : ∃ T, strOfNums x.f1 = T := ⟨_, rfl⟩
        have HCN : Aside0 (∀ U : World, Below w5.heap.size w5 U → U.cell? ⟨p, 3, none⟩ = some (.slice (some ⟨bb, oo, none⟩) a.l.length c) ∧ U.cell? ⟨bb, oo + k0 * 2 + 1, none⟩ = some (.slice A1 x.f1.length c1) ∧ (convert 30 9 (.slice Av x.f1.length cv)).run Try.prog U = .ok (.string T) U ∧ (convert 30 9 (.slice A1 x.f1.length c1)).run Try.prog U = .ok (.string T) U) := ⟨fun U hU => by
          rw [← hT]
          exact ⟨pw_cell_below hU a3, pw_cell_below hU q1, conv U _ _ _ (Kd.C_below hCv hU), conv U _ _ _ (Kd.C_below hC1 hU)⟩⟩
        have hxl : x.f1.length ≤ 1000000 := by rw [← hxe]; exact HBA.out _ (getD_mem _ _ _ hk0)
        have HOV := Aside0.mk ho5
        have HXE := Aside0.mk hxe
        have HCD := Aside0.mk hcode
        have HFI := Aside0.mk hfirst
        have HK0 := Aside0.mk hk0
        have hk0p : (0 : Int) ≤ (k0 : Int) := by omega
        have hk0n : ¬ ((k0 : Int) < 0) := by omega
        have hk0l : (k0 : Int) < (a.l.length : Int) := by omega
        clear hC1 ho5 hcode hfirst hCv hT hxe q1 hk0
        go_wp2_with fail
        go_loopg [10, 11] a.l.length (fun gk s10 s11 W => ∃ k : Nat, k ≤ a.l.length ∧ a.l.length - k ≤ gk ∧ s11 = .int .i64 k ∧ ((k ≤ k0 ∧ s10 = .int .i64 (-1)) ∨ (k = k0 + 1 ∧ s10 = .int .i64 k0)) ∧ W = w5)
        case atStart => exact ⟨0, by omega, by omega, rfl, .inl ⟨by omega, rfl⟩, rfl⟩
        case round =>
          obtain ⟨k, hk, hgk, rfl, hor, rfl⟩ := hrel
          rcases hor with ⟨hle, rfl⟩ | ⟨rfl, rfl⟩
          · obtain ⟨b2, o2, A3, c3, eA, r0, r1, _, _⟩ := C_cap (Kd.C_below HX4.out B5.out) k (by have := HK0.out; omega)
            injection eA with eA
            injection eA with e1 e2
            subst e1 e2
            have hlI : (k : Int) < (a.l.length : Int) := by have := HK0.out; omega
            by_cases hke : k = k0
            · subst hke
              rw [HXE.out] at r0
              have hcf : (x.f0 == code) = true := by rw [HCD.out, beq_self_eq_true]
              go_wp2_with fail
              go_roundg (gk - 1)
              case measure => have := HK0.out; omega
              case rel => exact ⟨k + 1, by have := HK0.out; omega, by omega, by go_num, .inr ⟨rfl, rfl⟩, rfl⟩
            · have hcf : ((a.l.getD k z54).f0 == code) = false := beq_false_of_ne (HFI.out k (by omega))
              obtain ⟨y, hye⟩ : ∃ x, a.l.getD k z54 = x := ⟨_, rfl⟩
              rw [hye] at r0 hcf
              have HKE := Aside0.mk (show k < k0 by omega)
              clear hye r1
              go_wp2_with fail
              go_roundg (gk - 1)
              case measure => have := HK0.out; omega
              case rel => exact ⟨k + 1, by have := HK0.out; have := HKE.out; omega, by omega, by go_num, .inl ⟨by have := HKE.out; omega, rfl⟩, rfl⟩
          · by_cases hl2 : k0 + 1 < a.l.length
            · have hlI : (k0 : Int) + 1 < (a.l.length : Int) := by omega
              clear q0
              go_wp2_with fail
              refine region [(0, .p), (1, .p), (2, .p), (3, .p), (4, .p), (5, .p), (6, .p), (7, .p), (8, .p), (10, .p), (12, .p), (9, .t), (11, .t), (13, .p), (14, .p), (15, .t), (16, .t), (17, .p), (18, .p), (19, .p), (20, .p), (21, .p), (22, .p), (23, .p), (24, .p), (25, .p), (26, .p), (27, .p), (28, .p)] (fun U => U.cell? ⟨p, 3, none⟩ = some (.slice (some ⟨bb, oo, none⟩) a.l.length c) ∧ U.cell? ⟨bb, oo + k0 * 2 + 1, none⟩ = some (.slice A1 x.f1.length c1) ∧ (convert 30 9 (.slice Av x.f1.length cv)).run Try.prog U = .ok (.string T) U ∧ (convert 30 9 (.slice A1 x.f1.length c1)).run Try.prog U = .ok (.string T) U) (by kernel_rfl) (by kernel_rfl) (fun _ _ _ _ _ h => h) (HCN.out _ (below_drew (Below.refl _ _))) (fun hHeld => ?_)
              iterate 11 (refine lex_p rfl rfl rfl (by intro w'; go_simp; with_reducible rfl) (by simp only [Act.put, List.setIfInBounds_toArray, List.set_cons_zero, List.set_cons_succ, i64_w, i32_w]; rfl) ?_)
              iterate 2 (refine lex_t rfl rfl rfl (by rintro w' ⟨s0, s1, s2, s3⟩; go_simp; with_reducible rfl) (by simp only [Act.put, List.setIfInBounds_toArray, List.set_cons_zero, List.set_cons_succ, i64_w, i32_w]; rfl) ?_)
              iterate 2 (refine lex_p rfl rfl rfl (by intro w'; go_simp; with_reducible rfl) (by simp only [Act.put, List.setIfInBounds_toArray, List.set_cons_zero, List.set_cons_succ, i64_w, i32_w]; rfl) ?_)
              iterate 2 (refine lex_t rfl rfl rfl (by rintro w' ⟨s0, s1, s2, s3⟩; go_simp; with_reducible rfl) (by simp only [Act.put, List.setIfInBounds_toArray, List.set_cons_zero, List.set_cons_succ, i64_w, i32_w]; rfl) ?_)
              iterate 7 (refine lex_p rfl rfl rfl (by intro w'; go_simp; with_reducible rfl) (by simp only [Act.put, List.setIfInBounds_toArray, List.set_cons_zero, List.set_cons_succ, i64_w, i32_w]; rfl) ?_)
              iterate 3 (refine lex_off rfl rfl rfl (by simp only [Act.put, List.setIfInBounds_toArray, List.set_cons_zero, List.set_cons_succ, i64_w, i32_w]; rfl) ?_)
              iterate 2 (refine lex_p rfl rfl rfl (by intro w'; go_simp; with_reducible rfl) (by simp only [Act.put, List.setIfInBounds_toArray, List.set_cons_zero, List.set_cons_succ, i64_w, i32_w]; rfl) ?_)
              refine lex_nil ?_
              go_wp2_with fail
              go_loopg [12] x.f1.length (fun gk s12 W => ∃ k : Nat, k ≤ x.f1.length ∧ x.f1.length - k ≤ gk ∧ s12 = .int .i64 k ∧ ∃ zs : List Int, zs.length = x.f1.length ∧ Aside0 (OB w4.heap.size W (.slice Av x.f1.length cv) zs) ∧ Aside0 (Below w4.heap.size w4 W))
              case atStart => exact ⟨0, by omega, by omega, rfl, x.f1, rfl, ⟨HOV.out.below (below_drew (Below.refl _ _))⟩, ⟨below_drew B5.out⟩⟩
              case round =>
                obtain ⟨k, hk, hgk, rfl, zs, hzl, HOz, RW⟩ := hrel
                by_cases hlt : k < x.f1.length
                · obtain ⟨g1, cap1, e1, hg1, _, _⟩ := HOz.out.form (by omega)
                  injection e1 with e1 _ e3
                  subst e1 e3
                  obtain ⟨z0, f0⟩ := HOz.out.cell k (by omega)
                  have hlI : (k : Int) < (x.f1.length : Int) := by omega
                  have HZL := Aside0.mk hzl
                  have HLT := Aside0.mk hlt
                  have HG1 := Aside0.mk hg1
                  clear hzl hlt hg1
                  go_wp2_with fail
                  go_roundg (gk - 1)
                  case measure => have := HLT.out; omega
                  case rel => exact ⟨k + 1, by have := HLT.out; omega, by omega, by go_num, _, by rw [List.length_set]; exact HZL.out, ⟨OB.put HOz.out k _⟩, ⟨Below.setCell RW.out (p := ⟨g1, k, none⟩) HG1.out _⟩⟩
                · obtain rfl : k = x.f1.length := by omega
                  have hlI : ¬ ((x.f1.length : Int) < (x.f1.length : Int)) := by omega
                  clear hzl
                  go_wp2_with fail
                  refine region [(0, .t), (1, .t), (2, .o), (3, .p), (4, .t), (5, .t), (7, .t), (8, .t), (6, .o), (9, .o), (10, .p), (11, .p), (12, .p), (13, .t), (14, .t), (15, .o), (16, .p), (17, .p), (18, .q), (19, .p), (20, .p)] (fun U => (U.cell? ⟨p, 0, none⟩ = some (.int .u32 a.a) ∧ U.cell? ⟨p, 1, none⟩ = some (.int .u16 a.h) ∧ U.cell? ⟨p, 2, none⟩ = some (.int .u32 a.i) ∧ U.cell? ⟨p, 3, none⟩ = some (.slice (some ⟨bb, oo, none⟩) a.l.length c) ∧ U.cell? ⟨p + 1, 0, none⟩ = some (.int .u32 b.a) ∧ U.cell? ⟨p + 1, 1, none⟩ = some (.int .u16 b.h) ∧ U.cell? ⟨p + 1, 2, none⟩ = some (.int .u32 b.i) ∧ U.cell? ⟨p + 1, 3, none⟩ = some (.slice B b.l.length d)) ∧ (U.cell? ⟨g, 0, none⟩ = some (.int .u32 a.a) ∧ U.cell? ⟨g, 1, none⟩ = some (.int .u16 a.h) ∧ U.cell? ⟨g, 2, none⟩ = some (.int .u32 a.i) ∧ U.cell? ⟨g, 3, none⟩ = some (.slice A2 a.l.length c2))) (by kernel_rfl) (by kernel_rfl) (fun _ _ _ _ _ h => h) (HCL.out _ (below_drew RW.out)) (fun hHeld => ?_)
                  iterate 2 (refine lex_t rfl rfl rfl (by rintro w' ⟨⟨s0, s1, s2, s3, s4, s5, s6, s7⟩, s8, s9, s10, s11⟩; go_simp; with_reducible rfl) (by simp only [Act.put, List.setIfInBounds_toArray, List.set_cons_zero, List.set_cons_succ, i64_w, i32_w]; rfl) ?_)
                  refine lex_o rfl ?_
                  go_wp2_with fail
                  refine (rsameC a a HWA.out HWA.out A2 c2 (some ⟨bb, oo, none⟩) c _ (Kd.C_below HC4.out (below_drew RW.out)) (Kd.C_below HX4.out (below_drew RW.out)) (by omega)).mono ?_
                  rintro e y1 ⟨rfl, hr⟩
                  rw [sameB_refl]
                  have R1 := Aside0.mk ((below_drew RW.out).trans (hr.mono (below_drew RW.out).size))
                  clear hr
                  go_wp2_with fail
                  refine lex_end (by first | (simp only [Act.put, List.setIfInBounds_toArray, List.set_cons_zero, List.set_cons_succ, i64_w, i32_w]; rfl) | rfl) (HCL.out _ R1.out) (fun hHeld => ?_)
                  (refine lex_p rfl rfl rfl (by intro w'; go_simp; with_reducible rfl) (by simp only [Act.put, List.setIfInBounds_toArray, List.set_cons_zero, List.set_cons_succ, i64_w, i32_w]; rfl) ?_)
                  iterate 4 (refine lex_t rfl rfl rfl (by rintro w' ⟨⟨s0, s1, s2, s3, s4, s5, s6, s7⟩, s8, s9, s10, s11⟩; go_simp; with_reducible rfl) (by simp only [Act.put, List.setIfInBounds_toArray, List.set_cons_zero, List.set_cons_succ, i64_w, i32_w]; rfl) ?_)
                  refine lex_o rfl ?_
                  go_wp2_with fail
                  refine (sameC a b (some ⟨bb, oo, none⟩) c B d y1 (Kd.C_below HX4.out R1.out) (Kd.C_below HY4.out R1.out) (by omega) HBA.out).mono ?_
                  rintro e y2 ⟨rfl, hr⟩
                  have R2 := Aside0.mk (R1.out.trans (hr.mono R1.out.size))
                  clear hr
                  go_wp2_with fail
                  refine lex_end (by first | (simp only [Act.put, List.setIfInBounds_toArray, List.set_cons_zero, List.set_cons_succ, i64_w, i32_w]; rfl) | rfl) (HCL.out _ R2.out) (fun hHeld => ?_)
                  refine lex_o rfl ?_
                  go_wp2_with fail
                  refine (rsameC a b HWA.out HWB.out (some ⟨bb, oo, none⟩) c B d y2 (Kd.C_below HX4.out R2.out) (Kd.C_below HY4.out R2.out) (by omega)).mono ?_
                  rintro e y3 ⟨rfl, hr⟩
                  have R3 := Aside0.mk (R2.out.trans (hr.mono R2.out.size))
                  obtain ⟨Q, hQ⟩ : ∃ Q, sameB a b = Q := ⟨_, rfl⟩
                  rw [hQ]
                  have hqq : (Q == Q) = true := by simp
                  clear hr hQ
                  go_wp2_with fail
                  refine lex_end (by first | (simp only [Act.put, List.setIfInBounds_toArray, List.set_cons_zero, List.set_cons_succ, i64_w, i32_w]; rfl) | rfl) (HCL.out _ R3.out) (fun hHeld => ?_)
                  iterate 3 (refine lex_p rfl rfl rfl (by intro w'; go_simp; with_reducible rfl) (by simp only [Act.put, List.setIfInBounds_toArray, List.set_cons_zero, List.set_cons_succ, i64_w, i32_w]; rfl) ?_)
                  iterate 2 (refine lex_t rfl rfl rfl (by rintro w' ⟨⟨s0, s1, s2, s3, s4, s5, s6, s7⟩, s8, s9, s10, s11⟩; go_simp; with_reducible rfl) (by simp only [Act.put, List.setIfInBounds_toArray, List.set_cons_zero, List.set_cons_succ, i64_w, i32_w]; rfl) ?_)
                  refine lex_o rfl ?_
                  go_wp2_with fail
                  refine (sameC a a (some ⟨bb, oo, none⟩) c A2 c2 y3 (Kd.C_below HX4.out R3.out) (Kd.C_below HC4.out R3.out) (by omega) HBA.out).mono ?_
                  rintro e y4 ⟨rfl, hr⟩
                  rw [sameB_refl]
                  have R4 := Aside0.mk (R3.out.trans (hr.mono R3.out.size))
                  clear hr
                  go_wp2_with fail
                  refine lex_end (by first | (simp only [Act.put, List.setIfInBounds_toArray, List.set_cons_zero, List.set_cons_succ, i64_w, i32_w]; rfl) | rfl) (HCL.out _ R4.out) (fun hHeld => ?_)
                  iterate 2 (refine lex_p rfl rfl rfl (by intro w'; go_simp; with_reducible rfl) (by simp only [Act.put, List.setIfInBounds_toArray, List.set_cons_zero, List.set_cons_succ, i64_w, i32_w]; rfl) ?_)
                  refine lex_q rfl ?_
                  go_wp2_with fail
                  refine (worksC _).mono ?_
                  rintro e y5 ⟨rfl, hr⟩
                  have R5 := Aside0.mk (R4.out.trans (hr.mono R4.out.size))
                  clear hr
                  go_wp2_with fail
                  refine lex_endq (by first | (simp only [Act.put, List.setIfInBounds_toArray, List.set_cons_zero, List.set_cons_succ, i64_w, i32_w]; rfl) | rfl) ?_
                  iterate 2 (refine lex_p rfl rfl rfl (by intro w'; go_simp; with_reducible rfl) (by simp only [Act.put, List.setIfInBounds_toArray, List.set_cons_zero, List.set_cons_succ, i64_w, i32_w]; rfl) ?_)
                  refine lex_nil ?_
                  go_wp2_with fail
                  go_ret
                  exact ⟨rfl, B4.out.trans (R5.out.mono B4.out.size)⟩
            · have hlI : ¬ ((k0 : Int) + 1 < (a.l.length : Int)) := by omega
              clear q0
              go_wp2_with fail
              refine region [(0, .p), (1, .p), (2, .p), (3, .p), (4, .p), (5, .p), (6, .p), (7, .p), (8, .p), (10, .p), (12, .p), (9, .t), (11, .t), (13, .p), (14, .p), (15, .t), (16, .t), (17, .p), (18, .p), (19, .p), (20, .p), (21, .p), (22, .p), (23, .p), (24, .p), (25, .p), (26, .p), (27, .p), (28, .p)] (fun U => U.cell? ⟨p, 3, none⟩ = some (.slice (some ⟨bb, oo, none⟩) a.l.length c) ∧ U.cell? ⟨bb, oo + k0 * 2 + 1, none⟩ = some (.slice A1 x.f1.length c1) ∧ (convert 30 9 (.slice Av x.f1.length cv)).run Try.prog U = .ok (.string T) U ∧ (convert 30 9 (.slice A1 x.f1.length c1)).run Try.prog U = .ok (.string T) U) (by kernel_rfl) (by kernel_rfl) (fun _ _ _ _ _ h => h) (HCN.out _ (below_drew (Below.refl _ _))) (fun hHeld => ?_)
              iterate 11 (refine lex_p rfl rfl rfl (by intro w'; go_simp; with_reducible rfl) (by simp only [Act.put, List.setIfInBounds_toArray, List.set_cons_zero, List.set_cons_succ, i64_w, i32_w]; rfl) ?_)
              iterate 2 (refine lex_t rfl rfl rfl (by rintro w' ⟨s0, s1, s2, s3⟩; go_simp; with_reducible rfl) (by simp only [Act.put, List.setIfInBounds_toArray, List.set_cons_zero, List.set_cons_succ, i64_w, i32_w]; rfl) ?_)
              iterate 2 (refine lex_p rfl rfl rfl (by intro w'; go_simp; with_reducible rfl) (by simp only [Act.put, List.setIfInBounds_toArray, List.set_cons_zero, List.set_cons_succ, i64_w, i32_w]; rfl) ?_)
              iterate 2 (refine lex_t rfl rfl rfl (by rintro w' ⟨s0, s1, s2, s3⟩; go_simp; with_reducible rfl) (by simp only [Act.put, List.setIfInBounds_toArray, List.set_cons_zero, List.set_cons_succ, i64_w, i32_w]; rfl) ?_)
              iterate 7 (refine lex_p rfl rfl rfl (by intro w'; go_simp; with_reducible rfl) (by simp only [Act.put, List.setIfInBounds_toArray, List.set_cons_zero, List.set_cons_succ, i64_w, i32_w]; rfl) ?_)
              iterate 3 (refine lex_off rfl rfl rfl (by simp only [Act.put, List.setIfInBounds_toArray, List.set_cons_zero, List.set_cons_succ, i64_w, i32_w]; rfl) ?_)
              iterate 2 (refine lex_p rfl rfl rfl (by intro w'; go_simp; with_reducible rfl) (by simp only [Act.put, List.setIfInBounds_toArray, List.set_cons_zero, List.set_cons_succ, i64_w, i32_w]; rfl) ?_)
              refine lex_nil ?_
              go_wp2_with fail
              go_loopg [12] x.f1.length (fun gk s12 W => ∃ k : Nat, k ≤ x.f1.length ∧ x.f1.length - k ≤ gk ∧ s12 = .int .i64 k ∧ ∃ zs : List Int, zs.length = x.f1.length ∧ Aside0 (OB w4.heap.size W (.slice Av x.f1.length cv) zs) ∧ Aside0 (Below w4.heap.size w4 W))
              case atStart => exact ⟨0, by omega, by omega, rfl, x.f1, rfl, ⟨HOV.out.below (below_drew (Below.refl _ _))⟩, ⟨below_drew B5.out⟩⟩
              case round =>
                obtain ⟨k, hk, hgk, rfl, zs, hzl, HOz, RW⟩ := hrel
                by_cases hlt : k < x.f1.length
                · obtain ⟨g1, cap1, e1, hg1, _, _⟩ := HOz.out.form (by omega)
                  injection e1 with e1 _ e3
                  subst e1 e3
                  obtain ⟨z0, f0⟩ := HOz.out.cell k (by omega)
                  have hlI : (k : Int) < (x.f1.length : Int) := by omega
                  have HZL := Aside0.mk hzl
                  have HLT := Aside0.mk hlt
                  have HG1 := Aside0.mk hg1
                  clear hzl hlt hg1
                  go_wp2_with fail
                  go_roundg (gk - 1)
                  case measure => have := HLT.out; omega
                  case rel => exact ⟨k + 1, by have := HLT.out; omega, by omega, by go_num, _, by rw [List.length_set]; exact HZL.out, ⟨OB.put HOz.out k _⟩, ⟨Below.setCell RW.out (p := ⟨g1, k, none⟩) HG1.out _⟩⟩
                · obtain rfl : k = x.f1.length := by omega
                  have hlI : ¬ ((x.f1.length : Int) < (x.f1.length : Int)) := by omega
                  clear hzl
                  go_wp2_with fail
                  refine region [(0, .t), (1, .t), (2, .o), (3, .p), (4, .t), (5, .t), (7, .t), (8, .t), (6, .o), (9, .o), (10, .p), (11, .p), (12, .p), (13, .t), (14, .t), (15, .o), (16, .p), (17, .p), (18, .q), (19, .p), (20, .p)] (fun U => (U.cell? ⟨p, 0, none⟩ = some (.int .u32 a.a) ∧ U.cell? ⟨p, 1, none⟩ = some (.int .u16 a.h) ∧ U.cell? ⟨p, 2, none⟩ = some (.int .u32 a.i) ∧ U.cell? ⟨p, 3, none⟩ = some (.slice (some ⟨bb, oo, none⟩) a.l.length c) ∧ U.cell? ⟨p + 1, 0, none⟩ = some (.int .u32 b.a) ∧ U.cell? ⟨p + 1, 1, none⟩ = some (.int .u16 b.h) ∧ U.cell? ⟨p + 1, 2, none⟩ = some (.int .u32 b.i) ∧ U.cell? ⟨p + 1, 3, none⟩ = some (.slice B b.l.length d)) ∧ (U.cell? ⟨g, 0, none⟩ = some (.int .u32 a.a) ∧ U.cell? ⟨g, 1, none⟩ = some (.int .u16 a.h) ∧ U.cell? ⟨g, 2, none⟩ = some (.int .u32 a.i) ∧ U.cell? ⟨g, 3, none⟩ = some (.slice A2 a.l.length c2))) (by kernel_rfl) (by kernel_rfl) (fun _ _ _ _ _ h => h) (HCL.out _ (below_drew RW.out)) (fun hHeld => ?_)
                  iterate 2 (refine lex_t rfl rfl rfl (by rintro w' ⟨⟨s0, s1, s2, s3, s4, s5, s6, s7⟩, s8, s9, s10, s11⟩; go_simp; with_reducible rfl) (by simp only [Act.put, List.setIfInBounds_toArray, List.set_cons_zero, List.set_cons_succ, i64_w, i32_w]; rfl) ?_)
                  refine lex_o rfl ?_
                  go_wp2_with fail
                  refine (rsameC a a HWA.out HWA.out A2 c2 (some ⟨bb, oo, none⟩) c _ (Kd.C_below HC4.out (below_drew RW.out)) (Kd.C_below HX4.out (below_drew RW.out)) (by omega)).mono ?_
                  rintro e y1 ⟨rfl, hr⟩
                  rw [sameB_refl]
                  have R1 := Aside0.mk ((below_drew RW.out).trans (hr.mono (below_drew RW.out).size))
                  clear hr
                  go_wp2_with fail
                  refine lex_end (by first | (simp only [Act.put, List.setIfInBounds_toArray, List.set_cons_zero, List.set_cons_succ, i64_w, i32_w]; rfl) | rfl) (HCL.out _ R1.out) (fun hHeld => ?_)
                  (refine lex_p rfl rfl rfl (by intro w'; go_simp; with_reducible rfl) (by simp only [Act.put, List.setIfInBounds_toArray, List.set_cons_zero, List.set_cons_succ, i64_w, i32_w]; rfl) ?_)
                  iterate 4 (refine lex_t rfl rfl rfl (by rintro w' ⟨⟨s0, s1, s2, s3, s4, s5, s6, s7⟩, s8, s9, s10, s11⟩; go_simp; with_reducible rfl) (by simp only [Act.put, List.setIfInBounds_toArray, List.set_cons_zero, List.set_cons_succ, i64_w, i32_w]; rfl) ?_)
                  refine lex_o rfl ?_
                  go_wp2_with fail
                  refine (sameC a b (some ⟨bb, oo, none⟩) c B d y1 (Kd.C_below HX4.out R1.out) (Kd.C_below HY4.out R1.out) (by omega) HBA.out).mono ?_
                  rintro e y2 ⟨rfl, hr⟩
                  have R2 := Aside0.mk (R1.out.trans (hr.mono R1.out.size))
                  clear hr
                  go_wp2_with fail
                  refine lex_end (by first | (simp only [Act.put, List.setIfInBounds_toArray, List.set_cons_zero, List.set_cons_succ, i64_w, i32_w]; rfl) | rfl) (HCL.out _ R2.out) (fun hHeld => ?_)
                  refine lex_o rfl ?_
                  go_wp2_with fail
                  refine (rsameC a b HWA.out HWB.out (some ⟨bb, oo, none⟩) c B d y2 (Kd.C_below HX4.out R2.out) (Kd.C_below HY4.out R2.out) (by omega)).mono ?_
                  rintro e y3 ⟨rfl, hr⟩
                  have R3 := Aside0.mk (R2.out.trans (hr.mono R2.out.size))
                  obtain ⟨Q, hQ⟩ : ∃ Q, sameB a b = Q := ⟨_, rfl⟩
                  rw [hQ]
                  have hqq : (Q == Q) = true := by simp
                  clear hr hQ
                  go_wp2_with fail
                  refine lex_end (by first | (simp only [Act.put, List.setIfInBounds_toArray, List.set_cons_zero, List.set_cons_succ, i64_w, i32_w]; rfl) | rfl) (HCL.out _ R3.out) (fun hHeld => ?_)
                  iterate 3 (refine lex_p rfl rfl rfl (by intro w'; go_simp; with_reducible rfl) (by simp only [Act.put, List.setIfInBounds_toArray, List.set_cons_zero, List.set_cons_succ, i64_w, i32_w]; rfl) ?_)
                  iterate 2 (refine lex_t rfl rfl rfl (by rintro w' ⟨⟨s0, s1, s2, s3, s4, s5, s6, s7⟩, s8, s9, s10, s11⟩; go_simp; with_reducible rfl) (by simp only [Act.put, List.setIfInBounds_toArray, List.set_cons_zero, List.set_cons_succ, i64_w, i32_w]; rfl) ?_)
                  refine lex_o rfl ?_
                  go_wp2_with fail
                  refine (sameC a a (some ⟨bb, oo, none⟩) c A2 c2 y3 (Kd.C_below HX4.out R3.out) (Kd.C_below HC4.out R3.out) (by omega) HBA.out).mono ?_
                  rintro e y4 ⟨rfl, hr⟩
                  rw [sameB_refl]
                  have R4 := Aside0.mk (R3.out.trans (hr.mono R3.out.size))
                  clear hr
                  go_wp2_with fail
                  refine lex_end (by first | (simp only [Act.put, List.setIfInBounds_toArray, List.set_cons_zero, List.set_cons_succ, i64_w, i32_w]; rfl) | rfl) (HCL.out _ R4.out) (fun hHeld => ?_)
                  iterate 2 (refine lex_p rfl rfl rfl (by intro w'; go_simp; with_reducible rfl) (by simp only [Act.put, List.setIfInBounds_toArray, List.set_cons_zero, List.set_cons_succ, i64_w, i32_w]; rfl) ?_)
                  refine lex_q rfl ?_
                  go_wp2_with fail
                  refine (worksC _).mono ?_
                  rintro e y5 ⟨rfl, hr⟩
                  have R5 := Aside0.mk (R4.out.trans (hr.mono R4.out.size))
                  clear hr
                  go_wp2_with fail
                  refine lex_endq (by first | (simp only [Act.put, List.setIfInBounds_toArray, List.set_cons_zero, List.set_cons_succ, i64_w, i32_w]; rfl) | rfl) ?_
                  iterate 2 (refine lex_p rfl rfl rfl (by intro w'; go_simp; with_reducible rfl) (by simp only [Act.put, List.setIfInBounds_toArray, List.set_cons_zero, List.set_cons_succ, i64_w, i32_w]; rfl) ?_)
                  refine lex_nil ?_
                  go_wp2_with fail
                  go_ret
                  exact ⟨rfl, B4.out.trans (R5.out.mono B4.out.size)⟩
theorem openCapsR (cs : Array Value) (x : X26) (ds : Array Value) (y : X26) (code : Int) (w : World) (h : kd26.K w x cs.toList) (ok : ok26 x) (h2 : kd26.K w y ds.toList) (ok2 : ok26 y) {P : Prop} (_ : P) :
    Calls Try.prog 7 #[.agg cs, .agg ds, .int .u8 code] w fun e w' => e = .returned (.bool true) ∧ Below w.heap.size w w' := by
  obtain ⟨o, A, c, e, ho, hc, hC⟩ := arg26 h ok
  obtain ⟨o2, B, d, e2, ho2, hd, hD⟩ := arg26 h2 ok2
  rw [e, e2]
  exact capsLaw o o2 code ho ho2 A c B d w hC hc hD hd
end Go.Proofs.Yticilaoibjbgfaa.Op
