/- Keys: KeysCopies' walk. -/
import Derived.Test.YtndjhnipahkclaaKeD
set_option linter.unusedSimpArgs false
set_option linter.unusedVariables false
namespace Go.Proofs.Ytndjhnipahkclaa.Ke
open Go.RowKit Go.Proofs.YtndjhnipahkclaaW.PrintWords Go.Proofs.YtndjhnipahkclaaW.PrintLast Go.Proofs.YtndjhnipahkclaaW.PrintMore Go.Proofs.Ytndjhnipahkclaa.PKeysPlay Go.Proofs.Ytndjhnipahkclaa.Lex Go.Proofs.Ytndjhnipahkclaa.Lib
/-- a pair under way since a world -/
structure Way (w W0 W : World) (g p n0 i : Nat) (s0 : List S36 × List S72) (L : List S38) (S0 T0 : Nat → Prop) (S T : Nat → Prop) (A : Option Addr) (c : Nat) (B : Option Addr) (d : Nat) : Prop where
  pr : Pair w W g p (n0 + i) (runG s0 (L.take i)).1 (runG s0 (L.take i)).2 S T A c B d
  bt : But W0.heap.size (fun k => S0 k ∨ k = g) W0 W
  sS : ∀ k, S k → S0 k ∨ W0.heap.size ≤ k
  sT : ∀ k, T k → T0 k ∨ W0.heap.size ≤ k
  bw : Below w.heap.size w W
theorem Way.step {w W0 W W5 : World} {g p n0 i : Nat} {s0 : List S36 × List S72} {L : List S38} {S0 T0 S T S' T' : Nat → Prop} {A A' : Option Addr} {c c' : Nat} {B B' : Option Addr} {d d' : Nat} (h : Way w W0 W g p n0 i s0 L S0 T0 S T A c B d) (hi : i < L.length)
    (hp : Pair w W5 g p (n0 + i + 1) (stG (runG s0 (L.take i)).1 (runG s0 (L.take i)).2 (L.getD i z38)).1 (stG (runG s0 (L.take i)).1 (runG s0 (L.take i)).2 (L.getD i z38)).2.1 S' T' A' c' B' d') (hb : But W.heap.size (fun k => S k ∨ k = g) W W5) (hS : ∀ k, S' k → S k ∨ W.heap.size ≤ k) (hT : ∀ k, T' k → T k ∨ W.heap.size ≤ k) : Way w W0 W5 g p n0 (i + 1) s0 L S0 T0 S' T' A' c' B' d' := by
  have hs := h.bt.size
  have hw := h.bw.size
  refine ⟨?_, h.bt.trans (hb.mono hs (fun k hk e => ?_)), fun k hk => ?_, fun k hk => ?_, h.bw.trans (hb.below hw (fun k hk e => ?_))⟩
  · rw [runG_step s0 L i hi]
    exact hp
  · rcases e with e | e
    · rcases h.sS k e with h1 | h1
      · exact .inl h1
      · omega
    · exact .inr e
  · rcases hS k hk with h1 | h1
    · exact h.sS k h1
    · exact .inr (by omega)
  · rcases hT k hk with h1 | h1
    · exact h.sT k h1
    · exact .inr (by omega)
  · rcases e with e | e
    · have := (h.pr.hS k e).1
      omega
    · have := h.pr.hg
      omega
set_option maxHeartbeats 32000000 in
set_option maxRecDepth 100000 in
theorem copiesC (A : Option Addr) (c : Nat) (L : List S38) (A' : Option Addr) (c' : Nat) (M : List S38) (w : World) (hC : Kd.C k38 w A L.length L) (hc : L.length ≤ c) (ho : ∀ x ∈ L, okA x) (hC' : Kd.C k38 w A' M.length M) (hc' : M.length ≤ c') (ho' : ∀ x ∈ M, okA x) : Calls Try.prog 6 #[.slice A L.length c, .slice A' M.length c'] w fun e w' => e = .returned (.bool true) ∧ Below w.heap.size w w' := by
  obtain ⟨bf, hbf, hfew⟩ := fewC A c L w hC hc
  have HF := Aside0.mk hfew
  have HB40 := Aside0.mk hbf
  have HFM : Aside0 (∀ U, Below w.heap.size w U → ∃ b, (b = true → M.length ≤ 40) ∧ Calls Try.prog 8 #[.slice A' M.length c'] U fun e w' => e = .returned (.bool b) ∧ Drawn0 U w') := ⟨fun U hU => fewC A' c' M U (Kd.C_below hC' hU) hc'⟩
  have HC := Aside0.mk hC
  have HOK := Aside0.mk ho
  have HCM := Aside0.mk hC'
  have HOM := Aside0.mk ho'
  have KN := Aside0.mk knownC
  clear hC hc ho hfew hbf hC' hc' ho'
  go_enter Try.func6, Try.ntmps6
  go_wp2_with fail
  refine HF.out.mono ?_
  rintro e w1 ⟨rfl, hd1⟩
  have HB1 := Aside0.mk hd1.below
  clear hd1
  cases bf with
  | false =>
    go_wp2_with fail
    refine (KN.out w1).mono ?_
    rintro e w2 ⟨rfl, hb2⟩
    have HB2 := Aside0.mk (HB1.out.trans (hb2.mono HB1.out.size))
    clear hb2
    go_wp2_with fail
    go_ret
    exact ⟨rfl, HB2.out⟩
  | true =>
    obtain ⟨bm, hbm, hfm⟩ := HFM.out w1 HB1.out
    have HBM := Aside0.mk hbm
    clear hbm
    go_wp2_with fail
    refine hfm.mono ?_
    rintro e w1b ⟨rfl, hd1⟩
    have HB1b := Aside0.mk (HB1.out.trans (hd1.below.mono HB1.out.size))
    clear hd1 hfm
    cases bm with
    | false =>
      go_wp2_with fail
      refine (KN.out w1b).mono ?_
      rintro e w2 ⟨rfl, hb2⟩
      have HB2 := Aside0.mk (HB1b.out.trans (hb2.mono HB1b.out.size))
      clear hb2
      go_wp2_with fail
      go_ret
      exact ⟨rfl, HB2.out⟩
    | true =>
      have hL40 := HB40.out (by first | rfl | trivial)
      have hM40 := HBM.out (by first | rfl | trivial)
      have hw40 : wrap64 ((L.length : Int) + (M.length : Int)) = (L.length : Int) + (M.length : Int) := by unfold wrap64; omega
      by_cases hsum : (40 : Int) < (L.length : Int) + (M.length : Int)
      · have hsd : decide ((40 : Int) < (L.length : Int) + (M.length : Int)) = true := decide_eq_true hsum
        go_wp2_with fail
        refine (KN.out w1b).mono ?_
        rintro e w2 ⟨rfl, hb2⟩
        have HB2 := Aside0.mk (HB1b.out.trans (hb2.mono HB1b.out.size))
        clear hb2
        go_wp2_with fail
        go_ret
        exact ⟨rfl, HB2.out⟩
      · have hsd : decide ((40 : Int) < (L.length : Int) + (M.length : Int)) = false := decide_eq_false hsum
        have HN := Aside0.mk (newC w1b)
        go_wp2_with fail
        refine HN.out.mono ?_
        rintro e w2 ⟨p, m, rfl, hk, hpw, hmw, hb2⟩
        have hs1 := HB1b.out.size
        have hs2 := hb2.size
        have hob := Ob.new w2 [.slice none 0 0, .slice none 0 0] _ rfl 30
        have hb3 := below_alloc (Below.refl w2.heap.size w2) (.cells #[.slice none 0 0, .slice none 0 0] 30)
        have hz3 : (w2.alloc (.cells #[.slice none 0 0, .slice none 0 0] 30)).heap.size = w2.heap.size + 1 := by simp
        obtain ⟨V, hV⟩ : ∃ V, w2.alloc (.cells #[.slice none 0 0, .slice none 0 0] 30) = V := ⟨_, rfl⟩
        rw [hV] at hob hb3 hz3
        have hPA : Pair w V w2.heap.size p 0 [] [] (fun k => w1b.heap.size ≤ k ∧ k < w2.heap.size) (fun _ => False) none 0 none 0 := ⟨hob, GR.nil _ _, KX.below ⟨m, 0, none, 0, hk, Nat.le_refl _⟩ hb3, Inv.nil, (fun x hx => by cases hx), Nat.le_refl _, fun k hk => ⟨by omega, by omega, by omega⟩, fun k hk => hk.elim, fun k _ h => h, by omega⟩
        obtain ⟨g6, HG6⟩ : ∃ g, Aside0 (w2.heap.size = g) := ⟨_, ⟨rfl⟩⟩
        rw [HG6.out] at hPA
        have hPA0 : Pair w V g6 p (0 + 0) (runG ([], []) (L.take 0)).1 (runG ([], []) (L.take 0)).2 (fun k => w1b.heap.size ≤ k ∧ k < g6) (fun _ => False) none 0 none 0 := by
          rw [List.take_zero]
          exact hPA
        have HW0 : Aside0 (Way w V V g6 p 0 0 ([], []) L (fun k => w1b.heap.size ≤ k ∧ k < g6) (fun _ => False) (fun k => w1b.heap.size ≤ k ∧ k < g6) (fun _ => False) none 0 none 0)   := ⟨⟨hPA0, But.refl _ _ _, fun k hk => .inl hk, fun k hk => .inl hk, (HB1b.out.trans (hb2.mono hs1)).trans (hb3.mono (by omega))⟩⟩
        have HV := Aside0.mk hV
        clear hk hpw hmw hb2 hob hb3 hz3 hs1 hs2 hPA hPA0 hV
        go_wp2_with fail
        rw [HG6.out]
        try rw [HV.out]
        go_loopg [7] L.length (fun gk sx W => ∃ (i : Nat) (S_1 T_1 : Nat → Prop) (A1_1 : Option Addr) (c1_1 : Nat) (B1_1 : Option Addr) (d1_1 : Nat), i ≤ L.length ∧ L.length - i ≤ gk ∧ sx = .int .i64 i ∧ Aside0 (Way w V W g6 p 0 i ([], []) L (fun k => w1b.heap.size ≤ k ∧ k < g6) (fun _ => False) S_1 T_1 A1_1 c1_1 B1_1 d1_1))
        case atStart => exact ⟨0, _, _, _, _, _, _, by omega, by omega, rfl, HW0⟩
        case round =>
          obtain ⟨i, S_1, T_1, A1_1, c1_1, B1_1, d1_1, hi, hgk, rfl, HWY1⟩ := hrel
          by_cases hlt : i < L.length
          · obtain ⟨b, o, rfl, q0, q1, q2, q3, q4, q5⟩ := C_act HC.out i hlt
            have HPD := Aside0.mk (pairDo HWY1.out.pr (L.getD i z38) (by rw [List.getD_eq_getElem?_getD, List.getElem?_eq_getElem hlt]; exact HOK.out _ (List.getElem_mem _)) (by omega))
            obtain ⟨ll, hll⟩ : ∃ z, (runG ([], []) (L.take i)).1 = z := ⟨_, rfl⟩
            obtain ⟨ww, hww⟩ : ∃ z, (runG ([], []) (L.take i)).2 = z := ⟨_, rfl⟩
            have hST := fun (A' : Option Addr) (c' : Nat) (B' : Option Addr) (d' : Nat) (S' T' : Nat → Prop) (W5 : World) => Way.step (W5 := W5) (S' := S') (T' := T') (A' := A') (c' := c') (B' := B') (d' := d') HWY1.out hlt
            have hpob := HWY1.out.pr.ob
            have hpS := HWY1.out.pr.hS
            have hbw := HWY1.out.bw
            rw [hll, hww] at HPD hST hpob
            obtain ⟨a, ha⟩ : ∃ a, L.getD i z38 = a := ⟨_, rfl⟩
            rw [ha] at q0 q1 q2 q3 q4 q5 HPD hST
            obtain ⟨l2, hl2⟩ : ∃ z, (stG ll ww a).1 = z := ⟨_, rfl⟩
            obtain ⟨w2g, hw2g⟩ : ∃ z, (stG ll ww a).2.1 = z := ⟨_, rfl⟩
            rw [hl2, hw2g] at HPD hST
            have HST := Aside0.mk hST
            have HSF : Aside0 (∀ U, But wr.heap.size S_1 wr U → (U.cell? ⟨g6, 0, none⟩ = some (.slice A1_1 ll.length c1_1) ∧ U.cell? ⟨g6, 1, none⟩ = some (.slice B1_1 ww.length d1_1)) ∧ (U).cell? ⟨b, o + i * 6, none⟩ = some (.int .i64 a.f0) ∧ (U).cell? ⟨b, o + i * 6 + 1, none⟩ = some (.int .u32 a.f1.f0) ∧ (U).cell? ⟨b, o + i * 6 + 2, none⟩ = some (.int .u8 a.f1.f1) ∧ (U).cell? ⟨b, o + i * 6 + 3, none⟩ = some (.int .u8 a.f1.f2) ∧ (U).cell? ⟨b, o + i * 6 + 4, none⟩ = some (.int .i64 a.f1.f3) ∧ (U).cell? ⟨b, o + i * 6 + 5, none⟩ = some (.string a.f1.f4)) := ⟨fun U hU => by
              have h1 := hpob.but hU hpob.lt (fun h => (hpS _ h).2.2 rfl)
              have h2 : Below w.heap.size w U := hbw.trans (hU.below hbw.size (fun k hk h => by have := (hpS _ h).1; omega))
              exact ⟨⟨(h1 0 _ rfl).1, (h1 1 _ rfl).1⟩, pw_cell_below h2 q0, pw_cell_below h2 q1, pw_cell_below h2 q2, pw_cell_below h2 q3, pw_cell_below h2 q4, pw_cell_below h2 q5⟩⟩
            clear q0 q1 q2 q3 q4 q5 ha hll hww hl2 hw2g hST hpob hpS hbw
            go_wp2_with fail
            refine region [(0, .p), (2, .p), (3, .p), (4, .p), (1, .t), (5, .t), (6, .o), (7, .p), (8, .p), (9, .p), (10, .e)] (fun U => (U.cell? ⟨g6, 0, none⟩ = some (.slice A1_1 ll.length c1_1) ∧ U.cell? ⟨g6, 1, none⟩ = some (.slice B1_1 ww.length d1_1)) ∧ (U).cell? ⟨b, o + i * 6, none⟩ = some (.int .i64 a.f0) ∧ (U).cell? ⟨b, o + i * 6 + 1, none⟩ = some (.int .u32 a.f1.f0) ∧ (U).cell? ⟨b, o + i * 6 + 2, none⟩ = some (.int .u8 a.f1.f1) ∧ (U).cell? ⟨b, o + i * 6 + 3, none⟩ = some (.int .u8 a.f1.f2) ∧ (U).cell? ⟨b, o + i * 6 + 4, none⟩ = some (.int .i64 a.f1.f3) ∧ (U).cell? ⟨b, o + i * 6 + 5, none⟩ = some (.string a.f1.f4)) (by kernel_rfl) (by kernel_rfl) (fun _ _ _ _ _ h => h) (HSF.out _ (But.of (below_drew (Below.refl _ _)) (Nat.le_refl _))) (fun hHeld => ?_)
            iterate 4 (refine lex_p rfl rfl rfl (by intro w'; go_simp; with_reducible rfl) (by simp only [Act.put, List.setIfInBounds_toArray, List.set_cons_zero, List.set_cons_succ, i64_w, i32_w]; rfl) ?_)
            iterate 2 (refine lex_t rfl rfl rfl (by rintro w' ⟨⟨s0, s1⟩, r0, r1, r2, r3, r4, r5⟩; go_simp; with_reducible rfl) (by simp only [Act.put, List.setIfInBounds_toArray, List.set_cons_zero, List.set_cons_succ, i64_w, i32_w]; rfl) ?_)
            refine lex_o rfl ?_
            go_wp2_with fail
            refine HPD.out.mono ?_
            rintro e w4 ⟨bq, A2, c2, B2, d2, S2, T2, W5, rfl, hb4, hst5, hp5, hb5, hS5, hT5⟩
            have HB4 := Aside0.mk hb4
            have HS5 := Aside0.mk hst5
            have HWN := Aside0.mk (HST.out A2 c2 B2 d2 S2 T2 W5 hp5 hb5 hS5 hT5)
            clear hb4 hst5 hp5 hb5 hS5 hT5
            go_wp2_with fail
            refine lex_end (by first | (simp only [Act.put, List.setIfInBounds_toArray, List.set_cons_zero, List.set_cons_succ, i64_w, i32_w]; rfl) | rfl) (HSF.out _ HB4.out) (fun hHeld => ?_)
            iterate 3 (refine lex_p rfl rfl rfl (by intro w'; go_simp; with_reducible rfl) (by simp only [Act.put, List.setIfInBounds_toArray, List.set_cons_zero, List.set_cons_succ, i64_w, i32_w]; rfl) ?_)
            refine lex_e rfl ?_
            refine pl_store rfl 30 _ _ rfl _ _ HS5.out rfl rfl ?_
            refine putQ_normal ?_
            go_wp2_with fail
            go_roundg (gk - 1)
            case measure => omega
            case rel => exact ⟨i + 1, S2, T2, A2, c2, B2, d2, by omega, by omega, by go_num, HWN⟩
          · obtain rfl : i = L.length := by omega
            have hlI : ¬ ((L.length : Int) < (L.length : Int)) := by omega
            rename World => y1
            obtain ⟨s1, hs1⟩ : ∃ s, runG ([], []) L = s := ⟨_, rfl⟩
            have hpr := HWY1.out.pr
            rw [List.take_length, hs1] at hpr
            have HP1 := Aside0.mk hpr
            have HBW1 := Aside0.mk HWY1.out.bw
            have HCP := Aside0.mk (copyC hpr.kx (by have := hpr.inv.few; omega))
            clear hpr hs1
            go_wp2_with fail
            refine HCP.out.mono ?_
            rintro e u2 ⟨pc, rfl, hkc, hb2⟩
            have HP2 := Aside0.mk (HP1.out.below hb2)
            have HKC := Aside0.mk hkc
            have HB2 := Aside0.mk hb2
            have HCP2 := Aside0.mk (copyC HP2.out.kx (by have := HP2.out.inv.few; omega))
            clear hkc hb2 HCP
            go_wp2_with fail
            refine HCP2.out.mono ?_
            rintro e u3 ⟨pd, rfl, hkd, hb3⟩
            have HP3 := Aside0.mk (HP2.out.below hb3)
            have hzz := below_alloc (Below.refl u3.heap.size u3) (.cells #[.slice A1_1 s1.1.length c1_1, .slice B1_1 s1.2.length d1_1] 30)
            have hnz : (u3.alloc (.cells #[.slice A1_1 s1.1.length c1_1, .slice B1_1 s1.2.length d1_1] 30)).heap.size = u3.heap.size + 1 := by simp
            have hnew := Ob.new u3 [.slice A1_1 s1.1.length c1_1, .slice B1_1 s1.2.length d1_1] _ rfl 30
            have m0 := (HP3.out.ob 0 _ rfl).1
            have m1 := (HP3.out.ob 1 _ rfl).1
            obtain ⟨V2, hV2⟩ : ∃ V2, u3.alloc (.cells #[.slice A1_1 s1.1.length c1_1, .slice B1_1 s1.2.length d1_1] 30) = V2 := ⟨_, rfl⟩
            rw [hV2] at hzz hnz hnew
            have HV2 := Aside0.mk hV2
            have z2 := HB2.out.size
            have z3 := hb3.size
            have z1 := HBW1.out.size
            have HKD := Aside0.mk (hkd.below hzz)
            have HPV := Aside0.mk (HP3.out.below hzz)
            obtain ⟨g10, HG10⟩ : ∃ g, Aside0 (u3.heap.size = g) := ⟨_, ⟨rfl⟩⟩
            have HPC : Aside0 (Pair w V2 u3.heap.size pc (0 + L.length) s1.1 s1.2 (fun k => y1.heap.size ≤ k ∧ k < u2.heap.size) T_1 A1_1 c1_1 B1_1 d1_1) := ⟨⟨hnew, HPV.out.gr, (HKC.out.below hb3).below hzz, HP1.out.inv, HP1.out.wf, HP1.out.len, fun k hk => ⟨by omega, by omega, by omega⟩, fun k hk => by have := HP1.out.hT k hk; exact ⟨this.1, by omega, by omega⟩, fun k hk ht => by have := (HP1.out.hT k ht).2.1; omega, by omega⟩⟩
            have HBWV := Aside0.mk (((HBW1.out.trans (HB2.out.mono z1)).trans (hb3.mono (by omega))).trans (hzz.mono (by omega)))
            have HZ : Aside0 (y1.heap.size ≤ u2.heap.size ∧ u2.heap.size ≤ u3.heap.size ∧ V2.heap.size = u3.heap.size + 1 ∧ w.heap.size ≤ y1.heap.size) := ⟨⟨z2, z3, hnz, z1⟩⟩
            have HGV : Aside0 (g10 = u3.heap.size) := ⟨HG10.out.symm⟩
            rw [HG10.out] at HPC
            have HW2 : Aside0 (Way w V2 V2 g10 pc (0 + L.length) 0 s1 M (fun k => y1.heap.size ≤ k ∧ k < u2.heap.size) T_1 (fun k => y1.heap.size ≤ k ∧ k < u2.heap.size) T_1 A1_1 c1_1 B1_1 d1_1) := ⟨⟨HPC.out, But.refl _ _ _, fun k hk => .inl hk, fun k hk => .inl hk, HBWV.out⟩⟩
            clear hkd hb3 hzz hnz hnew hV2 z1 z2 z3 HCP2
            go_wp2_with fail
            clear m0 m1
            rw [HG10.out]
            try rw [HV2.out]
            go_loopg [11] M.length (fun gk sx W => ∃ (i : Nat) (S_2 T_2 : Nat → Prop) (A1_2 : Option Addr) (c1_2 : Nat) (B1_2 : Option Addr) (d1_2 : Nat), i ≤ M.length ∧ M.length - i ≤ gk ∧ sx = .int .i64 i ∧ Aside0 (Way w V2 W g10 pc (0 + L.length) i s1 M (fun k => y1.heap.size ≤ k ∧ k < u2.heap.size) T_1 S_2 T_2 A1_2 c1_2 B1_2 d1_2))
            case atStart => exact ⟨0, _, _, _, _, _, _, by omega, by omega, rfl, HW2⟩
            case round =>
              obtain ⟨i, S_2, T_2, A1_2, c1_2, B1_2, d1_2, hi, hgk, rfl, HWY2⟩ := hrel
              by_cases hlt : i < M.length
              · obtain ⟨b, o, rfl, q0, q1, q2, q3, q4, q5⟩ := C_act HCM.out i hlt
                have HPD := Aside0.mk (pairDo HWY2.out.pr (M.getD i z38) (by rw [List.getD_eq_getElem?_getD, List.getElem?_eq_getElem hlt]; exact HOM.out _ (List.getElem_mem _)) (by omega))
                obtain ⟨ll, hll⟩ : ∃ z, (runG s1 (M.take i)).1 = z := ⟨_, rfl⟩
                obtain ⟨ww, hww⟩ : ∃ z, (runG s1 (M.take i)).2 = z := ⟨_, rfl⟩
                have hST := fun (A' : Option Addr) (c' : Nat) (B' : Option Addr) (d' : Nat) (S' T' : Nat → Prop) (W5 : World) => Way.step (W5 := W5) (S' := S') (T' := T') (A' := A') (c' := c') (B' := B') (d' := d') HWY2.out hlt
                have hpob := HWY2.out.pr.ob
                have hpS := HWY2.out.pr.hS
                have hbw := HWY2.out.bw
                rw [hll, hww] at HPD hST hpob
                obtain ⟨a, ha⟩ : ∃ a, M.getD i z38 = a := ⟨_, rfl⟩
                rw [ha] at q0 q1 q2 q3 q4 q5 HPD hST
                obtain ⟨l2, hl2⟩ : ∃ z, (stG ll ww a).1 = z := ⟨_, rfl⟩
                obtain ⟨w2g, hw2g⟩ : ∃ z, (stG ll ww a).2.1 = z := ⟨_, rfl⟩
                rw [hl2, hw2g] at HPD hST
                have HST := Aside0.mk hST
                have HSF : Aside0 (∀ U, But wr.heap.size S_2 wr U → (U.cell? ⟨g10, 0, none⟩ = some (.slice A1_2 ll.length c1_2) ∧ U.cell? ⟨g10, 1, none⟩ = some (.slice B1_2 ww.length d1_2)) ∧ (U).cell? ⟨b, o + i * 6, none⟩ = some (.int .i64 a.f0) ∧ (U).cell? ⟨b, o + i * 6 + 1, none⟩ = some (.int .u32 a.f1.f0) ∧ (U).cell? ⟨b, o + i * 6 + 2, none⟩ = some (.int .u8 a.f1.f1) ∧ (U).cell? ⟨b, o + i * 6 + 3, none⟩ = some (.int .u8 a.f1.f2) ∧ (U).cell? ⟨b, o + i * 6 + 4, none⟩ = some (.int .i64 a.f1.f3) ∧ (U).cell? ⟨b, o + i * 6 + 5, none⟩ = some (.string a.f1.f4)) := ⟨fun U hU => by
                  have h1 := hpob.but hU hpob.lt (fun h => (hpS _ h).2.2 rfl)
                  have h2 : Below w.heap.size w U := hbw.trans (hU.below hbw.size (fun k hk h => by have := (hpS _ h).1; omega))
                  exact ⟨⟨(h1 0 _ rfl).1, (h1 1 _ rfl).1⟩, pw_cell_below h2 q0, pw_cell_below h2 q1, pw_cell_below h2 q2, pw_cell_below h2 q3, pw_cell_below h2 q4, pw_cell_below h2 q5⟩⟩
                clear q0 q1 q2 q3 q4 q5 ha hll hww hl2 hw2g hST hpob hpS hbw
                go_wp2_with fail
                refine region [(0, .p), (2, .p), (3, .p), (4, .p), (1, .t), (5, .t), (6, .o), (7, .p), (8, .p), (9, .p), (10, .e)] (fun U => (U.cell? ⟨g10, 0, none⟩ = some (.slice A1_2 ll.length c1_2) ∧ U.cell? ⟨g10, 1, none⟩ = some (.slice B1_2 ww.length d1_2)) ∧ (U).cell? ⟨b, o + i * 6, none⟩ = some (.int .i64 a.f0) ∧ (U).cell? ⟨b, o + i * 6 + 1, none⟩ = some (.int .u32 a.f1.f0) ∧ (U).cell? ⟨b, o + i * 6 + 2, none⟩ = some (.int .u8 a.f1.f1) ∧ (U).cell? ⟨b, o + i * 6 + 3, none⟩ = some (.int .u8 a.f1.f2) ∧ (U).cell? ⟨b, o + i * 6 + 4, none⟩ = some (.int .i64 a.f1.f3) ∧ (U).cell? ⟨b, o + i * 6 + 5, none⟩ = some (.string a.f1.f4)) (by kernel_rfl) (by kernel_rfl) (fun _ _ _ _ _ h => h) (HSF.out _ (But.of (below_drew (Below.refl _ _)) (Nat.le_refl _))) (fun hHeld => ?_)
                iterate 4 (refine lex_p rfl rfl rfl (by intro w'; go_simp; with_reducible rfl) (by simp only [Act.put, List.setIfInBounds_toArray, List.set_cons_zero, List.set_cons_succ, i64_w, i32_w]; rfl) ?_)
                iterate 2 (refine lex_t rfl rfl rfl (by rintro w' ⟨⟨s0, s1⟩, r0, r1, r2, r3, r4, r5⟩; go_simp; with_reducible rfl) (by simp only [Act.put, List.setIfInBounds_toArray, List.set_cons_zero, List.set_cons_succ, i64_w, i32_w]; rfl) ?_)
                refine lex_o rfl ?_
                go_wp2_with fail
                refine HPD.out.mono ?_
                rintro e w4 ⟨bq, A2, c2, B2, d2, S2, T2, W5, rfl, hb4, hst5, hp5, hb5, hS5, hT5⟩
                have HB4 := Aside0.mk hb4
                have HS5 := Aside0.mk hst5
                have HWN := Aside0.mk (HST.out A2 c2 B2 d2 S2 T2 W5 hp5 hb5 hS5 hT5)
                clear hb4 hst5 hp5 hb5 hS5 hT5
                go_wp2_with fail
                refine lex_end (by first | (simp only [Act.put, List.setIfInBounds_toArray, List.set_cons_zero, List.set_cons_succ, i64_w, i32_w]; rfl) | rfl) (HSF.out _ HB4.out) (fun hHeld => ?_)
                iterate 3 (refine lex_p rfl rfl rfl (by intro w'; go_simp; with_reducible rfl) (by simp only [Act.put, List.setIfInBounds_toArray, List.set_cons_zero, List.set_cons_succ, i64_w, i32_w]; rfl) ?_)
                refine lex_e rfl ?_
                refine pl_store rfl 30 _ _ rfl _ _ HS5.out rfl rfl ?_
                refine putQ_normal ?_
                go_wp2_with fail
                go_roundg (gk - 1)
                case measure => omega
                case rel => exact ⟨i + 1, S2, T2, A2, c2, B2, d2, by omega, by omega, by go_num, HWN⟩
              · obtain rfl : i = M.length := by omega
                have hlI : ¬ ((M.length : Int) < (M.length : Int)) := by omega
                rename World => y2
                obtain ⟨s2, hs2⟩ : ∃ s, runG s1 M = s := ⟨_, rfl⟩
                have hpr := HWY2.out.pr
                rw [List.take_length, hs2] at hpr
                have HPC2 := Aside0.mk hpr
                have hbt := HWY2.out.bt
                have hz := HZ.out
                have hgv := HGV.out
                have HPK := Aside0.mk (HPV.out.keep hbt.size (fun k hk => hbt.block k (by
                    rcases hk with h | h | h
                    · exact (HPV.out.hS k h).2.1
                    · exact (HPV.out.hT k h).2.1
                    · have := HPV.out.ob.lt; omega) (fun h => by
                    have h1 : k < y1.heap.size := by
                      rcases hk with h | h | h
                      · exact (HP1.out.hS k h).2.1
                      · exact (HP1.out.hT k h).2.1
                      · have := HP1.out.ob.lt; omega
                    rcases h with h | h
                    · omega
                    · omega)))
                have HKD2 := Aside0.mk (HKD.out.same (w' := y2) (fun k hk => hbt.block k (by have := hk.2; omega) (fun h => by
                    have h1 := hk.1
                    have h2 := hk.2
                    rcases h with h | h
                    · omega
                    · omega)))
                have HSX := Aside0.mk (sameX HPK.out.kx HKD2.out HPK.out.wf (by have := HPK.out.inv.few; omega))
                have HFC : Aside0 (∀ U, Below y2.heap.size y2 U → (U.cell? ⟨g6, 0, none⟩ = some (.slice A1_1 s1.1.length c1_1) ∧ U.cell? ⟨g6, 1, none⟩ = some (.slice B1_1 s1.2.length d1_1)) ∧ U.cell? ⟨g10, 0, none⟩ = some (.slice A1_2 s2.1.length c1_2) ∧ U.cell? ⟨g10, 1, none⟩ = some (.slice B1_2 s2.2.length d1_2)) := ⟨fun U hU => by
                  have h1 := HPK.out.ob.below hU HPK.out.ob.lt
                  have h2 := hpr.ob.below hU hpr.ob.lt
                  exact ⟨⟨(h1 0 _ rfl).1, (h1 1 _ rfl).1⟩, (h2 0 _ rfl).1, (h2 1 _ rfl).1⟩⟩
                have HS2 := Aside0.mk HWY2.out.sS
                have HT2 := Aside0.mk HWY2.out.sT
                have HBW2 := Aside0.mk HWY2.out.bw
                have HZ2 : Aside0 (V2.heap.size ≤ y2.heap.size) := ⟨hbt.size⟩
                clear hpr hbt hz hgv
                go_wp2_with fail
                refine HSX.out.mono ?_
                rintro e u5 ⟨rfl, hb5⟩
                have HB5 := Aside0.mk hb5
                have HPK5 := Aside0.mk (HPK.out.below hb5)
                have HS1C := Aside0.mk (sameC HPK5.out.kx HPK5.out.gr rfl (by have := HPK5.out.inv.few; omega) (by have := HPK5.out.len; omega))
                obtain ⟨⟨m0, m1⟩, m2, m3⟩ := HFC.out u5 hb5
                clear hb5 HSX
                go_wp2_with fail
                refine HS1C.out.mono ?_
                rintro e u6 ⟨rfl, hb6⟩
                have HB6 := Aside0.mk (HB5.out.trans (hb6.mono HB5.out.size))
                have HPC6 := Aside0.mk (HPC2.out.below HB6.out)
                have HS2C := Aside0.mk (sameC HPC6.out.kx HPC6.out.gr rfl (by have := HPC6.out.inv.few; omega) (by have := HPC6.out.len; omega))
                clear m0 m1 m2 m3 hb6 HS1C
                obtain ⟨⟨m0, m1⟩, m2, m3⟩ := HFC.out u6 HB6.out
                go_wp2_with fail
                refine HS2C.out.mono ?_
                rintro e u7 ⟨rfl, hb7⟩
                have HB7 := Aside0.mk (HB6.out.trans (hb7.mono HB6.out.size))
                have HPK7 := Aside0.mk (HPK.out.below HB7.out)
                have HPC7 := Aside0.mk (HPC2.out.below HB7.out)
                have HW3 : Aside0 (Way w u7 u7 g6 p (0 + L.length) 0 s1 M S_1 T_1 S_1 T_1 A1_1 c1_1 B1_1 d1_1) := ⟨⟨HPK7.out, But.refl _ _ _, fun k hk => .inl hk, fun k hk => .inl hk, HBW2.out.trans (HB7.out.mono HBW2.out.size)⟩⟩
                clear m0 m1 m2 m3 hb7 HS2C
                go_wp2_with fail
                go_loopg [12] M.length (fun gk sx W => ∃ (i : Nat) (S_3 T_3 : Nat → Prop) (A1_3 : Option Addr) (c1_3 : Nat) (B1_3 : Option Addr) (d1_3 : Nat), i ≤ M.length ∧ M.length - i ≤ gk ∧ sx = .int .i64 i ∧ Aside0 (Way w u7 W g6 p (0 + L.length) i s1 M S_1 T_1 S_3 T_3 A1_3 c1_3 B1_3 d1_3))
                case atStart => exact ⟨0, _, _, _, _, _, _, by omega, by omega, rfl, HW3⟩
                case round =>
                  obtain ⟨i, S_3, T_3, A1_3, c1_3, B1_3, d1_3, hi, hgk, rfl, HWY3⟩ := hrel
                  by_cases hlt : i < M.length
                  · obtain ⟨b, o, rfl, q0, q1, q2, q3, q4, q5⟩ := C_act HCM.out i hlt
                    have HPD := Aside0.mk (pairDo HWY3.out.pr (M.getD i z38) (by rw [List.getD_eq_getElem?_getD, List.getElem?_eq_getElem hlt]; exact HOM.out _ (List.getElem_mem _)) (by omega))
                    obtain ⟨ll, hll⟩ : ∃ z, (runG s1 (M.take i)).1 = z := ⟨_, rfl⟩
                    obtain ⟨ww, hww⟩ : ∃ z, (runG s1 (M.take i)).2 = z := ⟨_, rfl⟩
                    have hST := fun (A' : Option Addr) (c' : Nat) (B' : Option Addr) (d' : Nat) (S' T' : Nat → Prop) (W5 : World) => Way.step (W5 := W5) (S' := S') (T' := T') (A' := A') (c' := c') (B' := B') (d' := d') HWY3.out hlt
                    have hpob := HWY3.out.pr.ob
                    have hpS := HWY3.out.pr.hS
                    have hbw := HWY3.out.bw
                    rw [hll, hww] at HPD hST hpob
                    obtain ⟨a, ha⟩ : ∃ a, M.getD i z38 = a := ⟨_, rfl⟩
                    rw [ha] at q0 q1 q2 q3 q4 q5 HPD hST
                    obtain ⟨l2, hl2⟩ : ∃ z, (stG ll ww a).1 = z := ⟨_, rfl⟩
                    obtain ⟨w2g, hw2g⟩ : ∃ z, (stG ll ww a).2.1 = z := ⟨_, rfl⟩
                    rw [hl2, hw2g] at HPD hST
                    have HST := Aside0.mk hST
                    have HSF : Aside0 (∀ U, But wr.heap.size S_3 wr U → (U.cell? ⟨g6, 0, none⟩ = some (.slice A1_3 ll.length c1_3) ∧ U.cell? ⟨g6, 1, none⟩ = some (.slice B1_3 ww.length d1_3)) ∧ (U).cell? ⟨b, o + i * 6, none⟩ = some (.int .i64 a.f0) ∧ (U).cell? ⟨b, o + i * 6 + 1, none⟩ = some (.int .u32 a.f1.f0) ∧ (U).cell? ⟨b, o + i * 6 + 2, none⟩ = some (.int .u8 a.f1.f1) ∧ (U).cell? ⟨b, o + i * 6 + 3, none⟩ = some (.int .u8 a.f1.f2) ∧ (U).cell? ⟨b, o + i * 6 + 4, none⟩ = some (.int .i64 a.f1.f3) ∧ (U).cell? ⟨b, o + i * 6 + 5, none⟩ = some (.string a.f1.f4)) := ⟨fun U hU => by
                      have h1 := hpob.but hU hpob.lt (fun h => (hpS _ h).2.2 rfl)
                      have h2 : Below w.heap.size w U := hbw.trans (hU.below hbw.size (fun k hk h => by have := (hpS _ h).1; omega))
                      exact ⟨⟨(h1 0 _ rfl).1, (h1 1 _ rfl).1⟩, pw_cell_below h2 q0, pw_cell_below h2 q1, pw_cell_below h2 q2, pw_cell_below h2 q3, pw_cell_below h2 q4, pw_cell_below h2 q5⟩⟩
                    clear q0 q1 q2 q3 q4 q5 ha hll hww hl2 hw2g hST hpob hpS hbw
                    go_wp2_with fail
                    refine region [(0, .p), (2, .p), (3, .p), (4, .p), (1, .t), (5, .t), (6, .o), (7, .p), (8, .p), (9, .p), (10, .e)] (fun U => (U.cell? ⟨g6, 0, none⟩ = some (.slice A1_3 ll.length c1_3) ∧ U.cell? ⟨g6, 1, none⟩ = some (.slice B1_3 ww.length d1_3)) ∧ (U).cell? ⟨b, o + i * 6, none⟩ = some (.int .i64 a.f0) ∧ (U).cell? ⟨b, o + i * 6 + 1, none⟩ = some (.int .u32 a.f1.f0) ∧ (U).cell? ⟨b, o + i * 6 + 2, none⟩ = some (.int .u8 a.f1.f1) ∧ (U).cell? ⟨b, o + i * 6 + 3, none⟩ = some (.int .u8 a.f1.f2) ∧ (U).cell? ⟨b, o + i * 6 + 4, none⟩ = some (.int .i64 a.f1.f3) ∧ (U).cell? ⟨b, o + i * 6 + 5, none⟩ = some (.string a.f1.f4)) (by kernel_rfl) (by kernel_rfl) (fun _ _ _ _ _ h => h) (HSF.out _ (But.of (below_drew (Below.refl _ _)) (Nat.le_refl _))) (fun hHeld => ?_)
                    iterate 4 (refine lex_p rfl rfl rfl (by intro w'; go_simp; with_reducible rfl) (by simp only [Act.put, List.setIfInBounds_toArray, List.set_cons_zero, List.set_cons_succ, i64_w, i32_w]; rfl) ?_)
                    iterate 2 (refine lex_t rfl rfl rfl (by rintro w' ⟨⟨s0, s1⟩, r0, r1, r2, r3, r4, r5⟩; go_simp; with_reducible rfl) (by simp only [Act.put, List.setIfInBounds_toArray, List.set_cons_zero, List.set_cons_succ, i64_w, i32_w]; rfl) ?_)
                    refine lex_o rfl ?_
                    go_wp2_with fail
                    refine HPD.out.mono ?_
                    rintro e w4 ⟨bq, A2, c2, B2, d2, S2, T2, W5, rfl, hb4, hst5, hp5, hb5, hS5, hT5⟩
                    have HB4 := Aside0.mk hb4
                    have HS5 := Aside0.mk hst5
                    have HWN := Aside0.mk (HST.out A2 c2 B2 d2 S2 T2 W5 hp5 hb5 hS5 hT5)
                    clear hb4 hst5 hp5 hb5 hS5 hT5
                    go_wp2_with fail
                    refine lex_end (by first | (simp only [Act.put, List.setIfInBounds_toArray, List.set_cons_zero, List.set_cons_succ, i64_w, i32_w]; rfl) | rfl) (HSF.out _ HB4.out) (fun hHeld => ?_)
                    iterate 3 (refine lex_p rfl rfl rfl (by intro w'; go_simp; with_reducible rfl) (by simp only [Act.put, List.setIfInBounds_toArray, List.set_cons_zero, List.set_cons_succ, i64_w, i32_w]; rfl) ?_)
                    refine lex_e rfl ?_
                    refine pl_store rfl 30 _ _ rfl _ _ HS5.out rfl rfl ?_
                    refine putQ_normal ?_
                    go_wp2_with fail
                    go_roundg (gk - 1)
                    case measure => omega
                    case rel => exact ⟨i + 1, S2, T2, A2, c2, B2, d2, by omega, by omega, by go_num, HWN⟩
                  · obtain rfl : i = M.length := by omega
                    have hlI : ¬ ((M.length : Int) < (M.length : Int)) := by omega
                    rename World => y3
                    have hpr := HWY3.out.pr
                    rw [List.take_length] at hpr
                    have hbt := HWY3.out.bt
                    have hz := HZ.out
                    have hz2 := HZ2.out
                    have hgv := HGV.out
                    have hpc := HPC7.out.keep hbt.size (fun k hk => hbt.block k (by
                        rcases hk with h | h | h
                        · exact (HPC7.out.hS k h).2.1
                        · exact (HPC7.out.hT k h).2.1
                        · have := HPC7.out.ob.lt; omega) (fun h => by
                        have h6 := HP1.out.ob.lt
                        rcases h with h | h
                        · have h1 := (HP1.out.hS k h).2.1
                          rcases hk with hk | hk | hk
                          · rcases HS2.out k hk with h2 | h2 <;> omega
                          · rcases HT2.out k hk with h2 | h2
                            · exact HP1.out.hST k h h2
                            · omega
                          · omega
                        · have h : k = g6 := h
                          rcases hk with hk | hk | hk
                          · rcases HS2.out k hk with h2 | h2 <;> omega
                          · rcases HT2.out k hk with h2 | h2
                            · exact (HP1.out.hT k h2).2.2 h
                            · omega
                          · omega))
                    obtain ⟨s3, hs3⟩ : ∃ s, runG s1 M = s := ⟨_, rfl⟩
                    rw [hs3] at hpr
                    have he : s3 = s2 := by rw [← hs3, ← hs2]
                    rw [← he] at hpc
                    have HSX := Aside0.mk (sameX hpr.kx hpc.kx hpr.wf (by have := hpr.inv.few; omega))
                    have HBW3 := Aside0.mk HWY3.out.bw
                    clear hpr hbt hz hz2 hgv hpc he hs3 hs2
                    go_wp2_with fail
                    refine HSX.out.mono ?_
                    rintro e u8 ⟨rfl, hb8⟩
                    have HB8 := Aside0.mk (HBW3.out.trans (hb8.mono HBW3.out.size))
                    clear hb8
                    go_wp2_with fail
                    refine (KN.out u8).mono ?_
                    rintro e u9 ⟨rfl, hb9⟩
                    have HB9 := Aside0.mk (HB8.out.trans (hb9.mono HB8.out.size))
                    clear hb9
                    go_wp2_with fail
                    go_ret
                    exact ⟨rfl, HB9.out⟩
end Go.Proofs.Ytndjhnipahkclaa.Ke
