/- Openings: the walks of rise, caps, Check. -/
import Derived.Test.YticilaoibjbgfaaOp2
import Derived.Test.YticilaoibjbgfaaLexI
import Derived.Test.YticilaoibjbgfaaLexT
set_option linter.unusedSimpArgs false
set_option linter.unusedVariables false
namespace Go.Proofs.Yticilaoibjbgfaa.Op
open Go.RowKit Go.Proofs.YticilaoibjbgfaaW.PrintWords Go.Proofs.YticilaoibjbgfaaW.PrintLast Go.Proofs.YticilaoibjbgfaaW.PrintMore Go.Proofs.Yticilaoibjbgfaa.POpenRaws Go.Proofs.Yticilaoibjbgfaa.Lib Go.Proofs.Yticilaoibjbgfaa.High Go.Proofs.Yticilaoibjbgfaa.Lex

theorem C_cap {w : World} {A : Option Addr} {n : Nat} {l : List S54} (h : Kd.C k54 w A n l) (k : Nat) (hk : k < n) :
    ∃ b o A1 c1, A = some ⟨b, o, none⟩ ∧ w.cell? ⟨b, o + k * 2, none⟩ = some (.int .u8 (l.getD k z54).f0) ∧ w.cell? ⟨b, o + k * 2 + 1, none⟩ = some (.slice A1 (l.getD k z54).f1.length c1) ∧ (l.getD k z54).f1.length ≤ c1 ∧ Kd.C KB w A1 (l.getD k z54).f1.length (l.getD k z54).f1 := by
  obtain ⟨ad, c, e, _, hK, hc0⟩ := Kd.C_get h z54 k (by omega) (by omega)
  obtain ⟨A1, c1, hK', hl, hC⟩ := k54_open hK
  subst hK'
  have hq := hc0 0 _ rfl
  have hq1 := hc0 1 _ rfl
  obtain ⟨b, o, e1⟩ := C_addr (by show 0 < 2; decide) h (by omega)
  rw [e] at e1
  injection e1 with e1
  subst e1
  rw [add_none] at hq hq1
  exact ⟨b, o, A1, c1, e, hq, hq1, hl, hC⟩
theorem heap54 : Kd.Heap k54 := Kd.heap_iso _ (Kd.heap_pair (Kd.heap_int _) (Kd.heap_slice _ (Kd.heap_int _)))
/-- what is read stays so while its world's blocks stay -/
theorem F_came {α : Type} {d : Kd α} (hd : Kd.Heap d) {w W : World} {A : Option Addr} {n : Nat} {xs : List α} (h : Kd.C d w A n xs) (hb : Below w.heap.size w W) : Kd.F d W (fun k => k < w.heap.size) A n xs :=
  fun W' h' => Kd.Heap.C hd (fun k hk => (h' k hk (Nat.lt_of_lt_of_le hk hb.size)).trans (hb.block k hk)) h
/-- a row of one capability -/
theorem one54 {b : Nat} {w : World} {u : Value} (x : S54) (hu : OB b w u x.f1) (hb : b ≤ w.heap.size) : Kd.N k54 54 (w.alloc (.cells #[.int .u8 x.f0, u] 54)) b (fun _ => True) (.slice (some ⟨w.heap.size, 0, none⟩) 1 1) [x] :=
  Kd.R_N (show Kd.R k54 54 (w.alloc (.cells #[.int .u8 x.f0, u] 54)) b (fun _ => True) (.slice (some ⟨w.heap.size, 0, none⟩) 1 1) [x] from
    ⟨fun _ _ => trivial, OwnRow.lit (ps := [x]) (inner := [.int .u8 x.f0, u]) w b ⟨rfl, fun j p hj => by
      cases j with
      | zero =>
        have : p = x := by simpa using hj.symm
        subst this
        exact k54_mkM _ _ _ _ (Kd.R_below (Kd.R_mono (Kd.R_bound hu) (fun k hk => ⟨trivial, fun e => by
          have h1 := hk.2.2.1
          have e2 : k = w.heap.size := Option.some.inj e
          omega⟩)) (below_alloc (Below.refl _ _) _))
      | succ j => simp at hj⟩ hb (by simp)⟩)
theorem wr_nat (j : Nat) (h : j < 1000000) : IntKind.i64.wrap (j : Int) = (j : Int) := by rw [IntKind.wrap_i64]; omega
theorem dec100 (n : Nat) : decide (100 < n) = decide ((100 : Int) < (n : Int)) := by rw [decide_eq_decide]; omega
theorem dec8 (n : Nat) : decide (n ≤ 8) = decide ((n : Int) ≤ 8) := by rw [decide_eq_decide]; omega
abbrev aO (o : Opn) (A : Option Addr) (c : Nat) : Value := .agg #[.int .u32 o.a, .int .u16 o.h, .int .u32 o.i, .slice A o.l.length c]
set_option maxRecDepth 100000 in
set_option maxHeartbeats 4000000 in
theorem badC (c : S54) (A : Option Addr) (cc : Nat) (w : World) :
    Calls Try.prog 51 #[.agg #[.int .u8 c.f0, .slice A c.f1.length cc]] w fun e w' => e = .returned (.bool (badB c)) ∧ Below w.heap.size w w' := by
  have hb := Aside0.mk (below_alloc (Below.refl w.heap.size w) (.cells #[.int .u8 c.f0, .slice A c.f1.length cc] 54))
  have hob := Ob.new w [.int .u8 c.f0, .slice A c.f1.length cc] _ rfl 54
  have q0 := (hob 0 _ rfl).1
  have q1 := (hob 1 _ rfl).1
  obtain ⟨r, hr⟩ : ∃ r, badB c = r := ⟨_, rfl⟩
  rw [hr]
  have HR := Aside0.mk hr
  clear hob hr
  cases h0 : (c.f0 == 0) <;> cases h1 : (c.f0 == 65) <;> cases h2 : decide ((100 : Int) < (c.f1.length : Int)) <;>
  · have HE : Aside0 (badB c = _) := ⟨by rw [badB, h0, h1, dec100, h2]⟩
    go_enter Try.func51, Try.ntmps51
    go_wp2_with fail
    go_ret
    exact ⟨by rw [← HR.out, HE.out]; rfl, hb.out⟩

set_option maxRecDepth 100000 in
set_option maxHeartbeats 8000000 in
theorem riseC (A : Option Addr) (c : Nat) (l : List S54) (w : World) (hx : Kd.C k54 w A l.length l) (hll : l.length < 1000000) :
    Calls Try.prog 31 #[.slice A l.length c] w fun e w' => e = .returned (.bool (riseB l)) ∧ Below w.heap.size w w' := by
  have HX := Aside0.mk hx
  clear hx
  go_enter Try.func31, Try.ntmps31
  go_wp2_with fail
  go_loopg [8] l.length (fun gk s8 W => ∃ k : Nat, k ≤ l.length ∧ l.length - k ≤ gk ∧ s8 = .int .i64 k ∧ Aside0 (∀ j, j < k → riseA l j = true) ∧ Aside0 (Below w.heap.size w W))
  case atStart => exact ⟨0, by omega, by omega, rfl, ⟨fun j hj => by omega⟩, ⟨Below.refl _ _⟩⟩
  case round =>
    obtain ⟨k, hk, hgk, rfl, HN, HB⟩ := hrel
    by_cases hlt : k < l.length
    · obtain ⟨b, o, A1, c1, rfl, q0, q1, _, _⟩ := C_cap (Kd.C_below HX.out HB.out) k hlt
      obtain ⟨x, hxe⟩ : ∃ x, l.getD k z54 = x := ⟨_, rfl⟩
      rw [hxe] at q0 q1
      have HXE := Aside0.mk hxe
      obtain ⟨g, hg⟩ : ∃ g, wr.heap.size = g := ⟨_, rfl⟩
      obtain ⟨V, hV⟩ : ∃ V, wr.alloc (.cells #[.int .u8 x.f0, .slice A1 x.f1.length c1] 54) = V := ⟨_, rfl⟩
      have hob := Ob.new wr [.int .u8 x.f0, .slice A1 x.f1.length c1] _ rfl 54
      have hbV := below_alloc (Below.refl wr.heap.size wr) (.cells #[.int .u8 x.f0, .slice A1 x.f1.length c1] 54)
      have hsV : V.heap.size = wr.heap.size + 1 := by rw [← hV]; simp
      rw [hV, hg] at hob
      rw [hV] at hbV
      have HBV := Aside0.mk (HB.out.trans (hbV.mono HB.out.size))
      rw [hg] at hsV
      have HCE : Aside0 (∀ U : World, Below V.heap.size V U → U.cell? ⟨g, 0, none⟩ = some (.int .u8 x.f0) ∧ U.cell? ⟨g, 1, none⟩ = some (.slice A1 x.f1.length c1) ∧ Below w.heap.size w U) := ⟨fun U hU => ⟨((hob.below hU (by omega)) 0 _ rfl).1, ((hob.below hU (by omega)) 1 _ rfl).1, HBV.out.trans (hU.mono HBV.out.size)⟩⟩
      have hlI : (k : Int) < (l.length : Int) := by omega
      have HLT := Aside0.mk hlt
      have HV := Aside0.mk hV
      clear hxe hob hbV hsV hlt hV
      cases hb : badB x with
      | true =>
        have HNO := Aside0.mk (rise_no HLT.out (rise_bad (by rw [HXE.out]; exact hb)))
        have HBC := fun W => badC x A1 c1 W
        rw [hb] at HBC
        have HBC := Aside0.mk HBC
        clear hb
        go_wp2_with fail
        rw [HV.out]
        refine region [(0, .p), (1, .t), (2, .o), (3, .p), (4, .p), (5, .p), (6, .p), (7, .p), (8, .p), (9, .p), (10, .p), (11, .p), (12, .p), (13, .p), (14, .p), (15, .p), (16, .p), (17, .p)] (fun U => U.cell? ⟨g, 0, none⟩ = some (.int .u8 x.f0) ∧ U.cell? ⟨g, 1, none⟩ = some (.slice A1 x.f1.length c1) ∧ Below w.heap.size w U) (by kernel_rfl) (by kernel_rfl) (fun _ _ _ _ _ h => h) (HCE.out _ (below_drew (Below.refl _ _))) (fun hHeld => ?_)
        (refine lex_p rfl rfl rfl (by intro w'; go_simp; with_reducible rfl) (by simp only [Act.put, List.setIfInBounds_toArray, List.set_cons_zero, List.set_cons_succ, i64_w, i32_w]; rfl) ?_)
        (refine lex_t rfl rfl rfl (by rintro w' ⟨s0, s1, s2⟩; go_simp; with_reducible rfl) (by simp only [Act.put, List.setIfInBounds_toArray, List.set_cons_zero, List.set_cons_succ, i64_w, i32_w]; rfl) ?_)
        refine lex_o rfl ?_
        go_wp2_with fail
        refine (HBC.out _).mono ?_
        rintro e w2 ⟨rfl, hb2⟩
        have B2 := Aside0.mk ((below_drew (Below.refl V.heap.size V)).trans hb2)
        clear hb2
        go_wp2_with fail
        refine lex_end (by first | (simp only [Act.put, List.setIfInBounds_toArray, List.set_cons_zero, List.set_cons_succ, i64_w, i32_w]; rfl) | rfl) (HCE.out _ B2.out) (fun hHeld => ?_)
        (refine lex_p rfl rfl rfl (by intro w'; go_simp; with_reducible rfl) (by simp only [Act.put, List.setIfInBounds_toArray, List.set_cons_zero, List.set_cons_succ, i64_w, i32_w]; rfl) ?_)
        iterate 13 (refine lex_off rfl rfl rfl (by simp only [Act.put, List.setIfInBounds_toArray, List.set_cons_zero, List.set_cons_succ, i64_w, i32_w]; rfl) ?_)
        (refine lex_p rfl rfl rfl (by intro w'; go_simp; with_reducible rfl) (by simp only [Act.put, List.setIfInBounds_toArray, List.set_cons_zero, List.set_cons_succ, i64_w, i32_w]; rfl) ?_)
        refine lex_nil ?_
        go_wp2_with fail
        go_ret
        exact ⟨by rw [HNO.out]; rfl, HBV.out.trans (B2.out.mono HBV.out.size)⟩
      | false =>
        have HBF := Aside0.mk (show badB (l.getD k z54) = false by rw [HXE.out]; exact hb)
        have HBC := fun W => badC x A1 c1 W
        rw [hb] at HBC
        have HBC := Aside0.mk HBC
        clear hb
        cases k with
        | zero =>
          have HOK := Aside0.mk (rise_first HBF.out)
          simp only [Nat.zero_mul, Nat.add_zero] at q0 q1
          have hl0 := HLT.out
          go_wp2_with fail
          rw [HV.out]
          refine region [(0, .p), (1, .t), (2, .o), (3, .p), (4, .p), (5, .p), (6, .p), (7, .p), (8, .p), (9, .p), (10, .p), (11, .p), (12, .p), (13, .p), (14, .p), (15, .p), (16, .p), (17, .p)] (fun U => U.cell? ⟨g, 0, none⟩ = some (.int .u8 x.f0) ∧ U.cell? ⟨g, 1, none⟩ = some (.slice A1 x.f1.length c1) ∧ Below w.heap.size w U) (by kernel_rfl) (by kernel_rfl) (fun _ _ _ _ _ h => h) (HCE.out _ (below_drew (Below.refl _ _))) (fun hHeld => ?_)
          (refine lex_p rfl rfl rfl (by intro w'; go_simp; with_reducible rfl) (by simp only [Act.put, List.setIfInBounds_toArray, List.set_cons_zero, List.set_cons_succ, i64_w, i32_w]; rfl) ?_)
          (refine lex_t rfl rfl rfl (by rintro w' ⟨s0, s1, s2⟩; go_simp; with_reducible rfl) (by simp only [Act.put, List.setIfInBounds_toArray, List.set_cons_zero, List.set_cons_succ, i64_w, i32_w]; rfl) ?_)
          refine lex_o rfl ?_
          go_wp2_with fail
          refine (HBC.out _).mono ?_
          rintro e w2 ⟨rfl, hb2⟩
          have B2 := Aside0.mk ((below_drew (Below.refl V.heap.size V)).trans hb2)
          clear hb2
          go_wp2_with fail
          refine lex_end (by first | (simp only [Act.put, List.setIfInBounds_toArray, List.set_cons_zero, List.set_cons_succ, i64_w, i32_w]; rfl) | rfl) (HCE.out _ B2.out) (fun hHeld => ?_)
          iterate 4 (refine lex_p rfl rfl rfl (by intro w'; go_simp; with_reducible rfl) (by simp only [Act.put, List.setIfInBounds_toArray, List.set_cons_zero, List.set_cons_succ, i64_w, i32_w]; rfl) ?_)
          iterate 9 (refine lex_off rfl rfl rfl (by simp only [Act.put, List.setIfInBounds_toArray, List.set_cons_zero, List.set_cons_succ, i64_w, i32_w]; rfl) ?_)
          iterate 2 (refine lex_p rfl rfl rfl (by intro w'; go_simp; with_reducible rfl) (by simp only [Act.put, List.setIfInBounds_toArray, List.set_cons_zero, List.set_cons_succ, i64_w, i32_w]; rfl) ?_)
          refine lex_nil ?_
          go_wp2_with fail
          go_roundg (gk - 1)
          case measure => have := HLT.out; omega
          case rel => exact ⟨1, by have := HLT.out; omega, by omega, by go_num, ⟨fun j hj => by
            have : j = 0 := by omega
            subst this
            exact HOK.out⟩, ⟨HBV.out.trans (B2.out.mono HBV.out.size)⟩⟩
        | succ j =>
          obtain ⟨b', o', A2, c2, e', p0, p1, _, _⟩ := C_cap (Kd.C_below HX.out HBV.out) j (by have := HLT.out; omega)
          injection e' with e'
          injection e' with e1 e2
          subst e1 e2
          obtain ⟨y, hye⟩ : ∃ y, l.getD j z54 = y := ⟨_, rfl⟩
          rw [hye] at p0
          have HYE := Aside0.mk hye
          have hjI : (j : Int) < (l.length : Int) := by omega
          have HCP : Aside0 (∀ U : World, Below V.heap.size V U → U.cell? ⟨b, o + j * 2, none⟩ = some (.int .u8 y.f0)) := ⟨fun U hU => by
            have hl := World.block_lt_of_cell? V _ p0
            exact pw_cell_below hU p0⟩
          have HWR := Aside0.mk (wr_nat j (Nat.lt_of_le_of_lt (Nat.le_of_succ_le hk) hll))
          have hpos : decide ((0 : Int) < (j : Int) + 1) = true := decide_eq_true (by omega)
          clear p0 p1 hye
          cases hq : decide (x.f0 ≤ y.f0) with
          | true =>
            have HNO := Aside0.mk (rise_no HLT.out (rise_ge (by omega) (by rw [Nat.add_sub_cancel, HXE.out, HYE.out]; have := of_decide_eq_true hq; omega)))
            go_wp2_with fail
            rw [HV.out]
            refine region [(0, .p), (1, .t), (2, .o), (3, .p), (4, .p), (5, .p), (6, .p), (7, .p), (8, .p), (9, .p), (10, .p), (11, .p), (13, .p), (12, .t), (14, .t), (15, .p), (16, .p), (17, .p)] (fun U => U.cell? ⟨g, 0, none⟩ = some (.int .u8 x.f0) ∧ U.cell? ⟨g, 1, none⟩ = some (.slice A1 x.f1.length c1) ∧ Below w.heap.size w U ∧ U.cell? ⟨b, o + j * 2, none⟩ = some (.int .u8 y.f0)) (by kernel_rfl) (by kernel_rfl) (fun _ _ _ _ _ h => h) (⟨(HCE.out _ (below_drew (Below.refl _ _))).1, (HCE.out _ (below_drew (Below.refl _ _))).2.1, (HCE.out _ (below_drew (Below.refl _ _))).2.2, HCP.out _ (below_drew (Below.refl _ _))⟩) (fun hHeld => ?_)
            (refine lex_p rfl rfl rfl (by intro w'; go_simp; with_reducible rfl) (by simp only [Act.put, List.setIfInBounds_toArray, List.set_cons_zero, List.set_cons_succ, i64_w, i32_w]; rfl) ?_)
            (refine lex_t rfl rfl rfl (by rintro w' ⟨s0, s1, s2, s3⟩; go_simp; with_reducible rfl) (by simp only [Act.put, List.setIfInBounds_toArray, List.set_cons_zero, List.set_cons_succ, i64_w, i32_w]; rfl) ?_)
            refine lex_o rfl ?_
            go_wp2_with fail
            refine (HBC.out _).mono ?_
            rintro e w2 ⟨rfl, hb2⟩
            have B2 := Aside0.mk ((below_drew (Below.refl V.heap.size V)).trans hb2)
            clear hb2
            go_wp2_with fail
            refine lex_end (by first | (simp only [Act.put, List.setIfInBounds_toArray, List.set_cons_zero, List.set_cons_succ, i64_w, i32_w]; rfl) | rfl) (⟨(HCE.out _ B2.out).1, (HCE.out _ B2.out).2.1, (HCE.out _ B2.out).2.2, HCP.out _ B2.out⟩) (fun hHeld => ?_)
            iterate 6 (refine lex_p rfl rfl rfl (by intro w'; go_simp; with_reducible rfl) (by simp only [Act.put, List.setIfInBounds_toArray, List.set_cons_zero, List.set_cons_succ, i64_w, i32_w]; rfl) ?_)
            (refine lex_p rfl rfl rfl (by intro w'; go_simp; rw [HWR.out]) (by simp only [Act.put, List.setIfInBounds_toArray, List.set_cons_zero, List.set_cons_succ, i64_w, i32_w]; rfl) ?_)
            iterate 3 (refine lex_p rfl rfl rfl (by intro w'; go_simp; with_reducible rfl) (by simp only [Act.put, List.setIfInBounds_toArray, List.set_cons_zero, List.set_cons_succ, i64_w, i32_w]; rfl) ?_)
            iterate 2 (refine lex_t rfl rfl rfl (by rintro w' ⟨s0, s1, s2, s3⟩; go_simp; with_reducible rfl) (by simp only [Act.put, List.setIfInBounds_toArray, List.set_cons_zero, List.set_cons_succ, i64_w, i32_w]; rfl) ?_)
            iterate 3 (refine lex_p rfl rfl rfl (by intro w'; go_simp; with_reducible rfl) (by simp only [Act.put, List.setIfInBounds_toArray, List.set_cons_zero, List.set_cons_succ, i64_w, i32_w]; rfl) ?_)
            refine lex_nil ?_
            go_wp2_with fail
            go_ret
            exact ⟨by rw [HNO.out]; rfl, HBV.out.trans (B2.out.mono HBV.out.size)⟩
          | false =>
            have HOK := Aside0.mk (rise_next (k := j + 1) HBF.out (by rw [Nat.add_sub_cancel, HXE.out, HYE.out]; have := of_decide_eq_false hq; omega))
            go_wp2_with fail
            rw [HV.out]
            refine region [(0, .p), (1, .t), (2, .o), (3, .p), (4, .p), (5, .p), (6, .p), (7, .p), (8, .p), (9, .p), (10, .p), (11, .p), (13, .p), (12, .t), (14, .t), (15, .p), (16, .p), (17, .p)] (fun U => U.cell? ⟨g, 0, none⟩ = some (.int .u8 x.f0) ∧ U.cell? ⟨g, 1, none⟩ = some (.slice A1 x.f1.length c1) ∧ Below w.heap.size w U ∧ U.cell? ⟨b, o + j * 2, none⟩ = some (.int .u8 y.f0)) (by kernel_rfl) (by kernel_rfl) (fun _ _ _ _ _ h => h) (⟨(HCE.out _ (below_drew (Below.refl _ _))).1, (HCE.out _ (below_drew (Below.refl _ _))).2.1, (HCE.out _ (below_drew (Below.refl _ _))).2.2, HCP.out _ (below_drew (Below.refl _ _))⟩) (fun hHeld => ?_)
            (refine lex_p rfl rfl rfl (by intro w'; go_simp; with_reducible rfl) (by simp only [Act.put, List.setIfInBounds_toArray, List.set_cons_zero, List.set_cons_succ, i64_w, i32_w]; rfl) ?_)
            (refine lex_t rfl rfl rfl (by rintro w' ⟨s0, s1, s2, s3⟩; go_simp; with_reducible rfl) (by simp only [Act.put, List.setIfInBounds_toArray, List.set_cons_zero, List.set_cons_succ, i64_w, i32_w]; rfl) ?_)
            refine lex_o rfl ?_
            go_wp2_with fail
            refine (HBC.out _).mono ?_
            rintro e w2 ⟨rfl, hb2⟩
            have B2 := Aside0.mk ((below_drew (Below.refl V.heap.size V)).trans hb2)
            clear hb2
            go_wp2_with fail
            refine lex_end (by first | (simp only [Act.put, List.setIfInBounds_toArray, List.set_cons_zero, List.set_cons_succ, i64_w, i32_w]; rfl) | rfl) (⟨(HCE.out _ B2.out).1, (HCE.out _ B2.out).2.1, (HCE.out _ B2.out).2.2, HCP.out _ B2.out⟩) (fun hHeld => ?_)
            iterate 6 (refine lex_p rfl rfl rfl (by intro w'; go_simp; with_reducible rfl) (by simp only [Act.put, List.setIfInBounds_toArray, List.set_cons_zero, List.set_cons_succ, i64_w, i32_w]; rfl) ?_)
            (refine lex_p rfl rfl rfl (by intro w'; go_simp; rw [HWR.out]) (by simp only [Act.put, List.setIfInBounds_toArray, List.set_cons_zero, List.set_cons_succ, i64_w, i32_w]; rfl) ?_)
            iterate 3 (refine lex_p rfl rfl rfl (by intro w'; go_simp; with_reducible rfl) (by simp only [Act.put, List.setIfInBounds_toArray, List.set_cons_zero, List.set_cons_succ, i64_w, i32_w]; rfl) ?_)
            iterate 2 (refine lex_t rfl rfl rfl (by rintro w' ⟨s0, s1, s2, s3⟩; go_simp; with_reducible rfl) (by simp only [Act.put, List.setIfInBounds_toArray, List.set_cons_zero, List.set_cons_succ, i64_w, i32_w]; rfl) ?_)
            iterate 3 (refine lex_p rfl rfl rfl (by intro w'; go_simp; with_reducible rfl) (by simp only [Act.put, List.setIfInBounds_toArray, List.set_cons_zero, List.set_cons_succ, i64_w, i32_w]; rfl) ?_)
            refine lex_nil ?_
            go_wp2_with fail
            go_roundg (gk - 1)
            case measure => have := HLT.out; omega
            case rel => exact ⟨j + 1 + 1, by have := HLT.out; omega, by omega, by go_num, ⟨fun i hi => by
              by_cases e : i = j + 1
              · rw [e]
                exact HOK.out
              · exact HN.out i (by omega)⟩, ⟨HBV.out.trans (B2.out.mono HBV.out.size)⟩⟩
    · obtain rfl : k = l.length := by omega
      have HYS := Aside0.mk (rise_yes HN.out)
      have hlI : ¬ ((l.length : Int) < (l.length : Int)) := by omega
      cases hq : decide ((l.length : Int) ≤ 8) <;>
      · go_wp2_with fail
        go_ret
        exact ⟨by rw [HYS.out, dec8, hq]; rfl, HB.out⟩
end Go.Proofs.Yticilaoibjbgfaa.Op
