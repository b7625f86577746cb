/- The walk of FrameBent. -/
import Derived.Test.YteakiaedlfhceaaNext17
set_option linter.unusedSimpArgs false
set_option linter.unusedVariables false
namespace Go.Proofs.Yteakiaedlfhceaa.Frame
open Go.RowKit Go.Proofs.YteakiaedlfhceaaW.PrintWords Go.Proofs.YteakiaedlfhceaaW.PrintLast Go.Proofs.YteakiaedlfhceaaW.PrintMore Go.Proofs.Yteakiaedlfhceaa.Lex Go.Proofs.Yteakiaedlfhceaa.Lib

abbrev FR : Kd (Int × List Int) := Kd.pair (Kd.int .i64) (Kd.slice 5 KB)
/-- one frame of a row of frames -/
theorem C_frame {w : World} {A : Option Addr} {n : Nat} {xs : List (Int × List Int)} (h : Kd.C FR w A n xs) (k : Nat) (hk : k < n) :
    ∃ b o A0 c0, A = some ⟨b, o, none⟩ ∧ w.cell? ⟨b, o + k * 2, none⟩ = some (.int .i64 (xs.getD k (0, [])).1) ∧ w.cell? ⟨b, o + k * 2 + 1, none⟩ = some (.slice A0 (xs.getD k (0, [])).2.length c0) ∧ (xs.getD k (0, [])).2.length ≤ c0 ∧ Kd.C KB w A0 (xs.getD k (0, [])).2.length (xs.getD k (0, [])).2 := by
  obtain ⟨ad, c, e, _, hK, hc0⟩ := Kd.C_get h ((0, []) : Int × List Int) k (by omega) (by omega)
  obtain ⟨x0, x1, rfl, h0, A0, c0, rfl, l0, g0⟩ := hK
  have h0' : x0 = [.int .i64 (xs.getD k (0, [])).1] := h0
  subst h0'
  have hq := hc0 0 _ rfl
  have hq1 := hc0 1 _ rfl
  obtain ⟨b, o, e1⟩ := C_addr (by show 0 < 2; decide) h (by omega)
  rw [e] at e1
  injection e1 with e1
  subst e1
  rw [add_none] at hq hq1
  exact ⟨b, o, A0, c0, e, hq, hq1, l0, g0⟩
theorem rawOf_byt (k : Int) (xs : List Int) (hk : 1 ≤ k ∧ k ≤ 4) (hl : xs.length ≤ 493) (hb : Byt xs) : Byt (rawOf k xs) := by
  intro x hx
  unfold rawOf at hx
  rcases List.mem_append.1 hx with hx | hx
  · have := List.eq_of_mem_replicate hx
    omega
  · rcases List.mem_append.1 hx with hx | hx
    · simp only [List.mem_cons, List.not_mem_nil, or_false] at hx
      omega
    · exact hb x hx
theorem Byt.app {xs ys : List Int} (h : Byt xs) (h' : Byt ys) : Byt (xs ++ ys) := fun x hx => (List.mem_append.1 hx).elim (h x) (h' x)
theorem Byt.set {xs : List Int} (h : Byt xs) (i : Nat) (y : Int) (hy : 0 ≤ y ∧ y ≤ 255) : Byt (xs.set i y) := fun x hx => (List.mem_or_eq_of_mem_set hx).elim (h x) (fun e => e ▸ hy)

set_option maxHeartbeats 8000000 in
theorem frameBent (A : Option Addr) (c : Nat) (fs : List (Int × List Int)) (at_ tw : Int) (w : World) (hx : Kd.C FR w A fs.length fs) (hc : fs.length ≤ c) (ho : ∀ x ∈ fs, (Lit.int .i64 x.1).wf = true ∧ ∀ n ∈ x.2, (Lit.int .u8 n).wf = true) (ha : (Lit.int .i64 at_).wf = true) (hto : (Lit.int .u8 tw).wf = true) :
    Calls Try.prog 6 #[.slice A fs.length c, .int .i64 at_, .int .u8 tw] w fun e w' => e = .returned (.bool true) ∧ Below w.heap.size w w' := by
  by_cases hl : 6 < fs.length
  · clear hx
    go_enter Try.func6, Try.ntmps6
    go_wp2_with fail
    refine (works _).mono ?_
    rintro e w' ⟨rfl, hb⟩
    go_wp2_with fail
    go_ret
    exact ⟨rfl, hb⟩
  · have HX := Aside0.mk hx
    have HO := Aside0.mk ho
    have HTO := Aside0.mk (Row.wf_u8 hto)
    clear hx ho hto
    go_enter Try.func6, Try.ntmps6
    go_wp2_with fail
    go_loopg [7, 8] fs.length (fun gk s7 s8 w' => ∃ (k : Nat) (B : List Int), k ≤ fs.length ∧ fs.length - k ≤ gk ∧ s8 = .int .i64 k ∧ B.length ≤ 119 * k ∧ Aside0 (OB w.heap.size w' s7 B) ∧ Aside0 (Byt B) ∧ Aside0 (Below w.heap.size w w'))
    case atStart => exact ⟨0, [], by omega, by omega, rfl, by simp, ⟨OB.nil _ _⟩, ⟨fun x hx => by cases hx⟩, ⟨Below.refl _ _⟩⟩
    case round =>
      obtain ⟨k, B, hk, hgk, rfl, hBl, HB, HBY, HW⟩ := hrel
      by_cases hlt : k < fs.length
      · obtain ⟨b, o, A0, cc, rfl, c0, c1, hcc, hC0⟩ := C_frame (Kd.C_below HX.out HW.out) k hlt
        have hok := HO.out (fs.getD k (0, [])) (by rw [List.getD_eq_getElem?_getD, List.getElem?_eq_getElem hlt]; exact List.getElem_mem hlt)
        obtain ⟨⟨kd, bd⟩, hq⟩ : ∃ q, fs.getD k (0, []) = q := ⟨_, rfl⟩
        simp only [hq] at c0 c1 hcc hC0 hok
        clear hq
        have HRR := fun W (hW : Below wr.heap.size wr W) => refRaw kd A0 cc bd W (Kd.C_below hC0 hW) hok.1
        have HBD : Aside0 (Byt bd) := ⟨byt hok.2⟩
        obtain ⟨E, hE⟩ : ∃ E : Int, (if 1 ≤ kd ∧ kd ≤ 4 then if 493 < bd.length then 3 else 0 else 2) = E := ⟨_, rfl⟩
        obtain ⟨L, hL⟩ : ∃ L : List Int, (if 1 ≤ kd ∧ kd ≤ 4 then if 493 < bd.length then [] else rawOf kd bd else []) = L := ⟨_, rfl⟩
        simp only [hE, hL] at HRR
        have hLB : Aside0 (Byt L) := ⟨by
          rw [← hL]
          split
          · split
            · intro x hx; cases hx
            · rename_i h1 h2
              exact rawOf_byt kd bd h1 (by omega) HBD.out
          · intro x hx; cases hx⟩
        have HRR := Aside0.mk HRR
        clear hE hL hC0 hok
        go_wp2_with fail
        refine region [(0, .p), (1, .p), (2, .p), (3, .p), (4, .t), (5, .p), (6, .p), (7, .p), (8, .p), (9, .t), (10, .o), (11, .p), (12, .p), (13, .p), (14, .p), (15, .p)] (fun W => W.cell? ⟨b, o + k * 2, none⟩ = some (.int .i64 kd) ∧ W.cell? ⟨b, o + k * 2 + 1, none⟩ = some (.slice A0 bd.length cc)) (by kernel_rfl) (by kernel_rfl) (fun _ _ _ _ _ h => h) (⟨c0, c1⟩) (fun hHeld => ?_)
        iterate 4 (refine lex_p rfl rfl rfl (by intro w'; go_simp; with_reducible rfl) (by simp only [Act.put, List.setIfInBounds_toArray, List.set_cons_zero, List.set_cons_succ, i64_w, i32_w]; rfl) ?_)
        (refine lex_t rfl rfl rfl (by rintro w' ⟨s1, s2⟩; go_simp; with_reducible rfl) (by simp only [Act.put, List.setIfInBounds_toArray, List.set_cons_zero, List.set_cons_succ, i64_w, i32_w]; rfl) ?_)
        iterate 4 (refine lex_p rfl rfl rfl (by intro w'; go_simp; with_reducible rfl) (by simp only [Act.put, List.setIfInBounds_toArray, List.set_cons_zero, List.set_cons_succ, i64_w, i32_w]; rfl) ?_)
        (refine lex_t rfl rfl rfl (by rintro w' ⟨s1, s2⟩; go_simp; with_reducible rfl) (by simp only [Act.put, List.setIfInBounds_toArray, List.set_cons_zero, List.set_cons_succ, i64_w, i32_w]; rfl) ?_)
        refine lex_o rfl ?_
        go_wp2_with fail
        refine (HRR.out _ (Below.refl _ _).drew).mono ?_
        rintro e w1 ⟨v1, rfl, ho, hb⟩
        have hb' : Below wr.heap.size wr w1 := (Below.refl _ _).drew.trans hb
        have HL := Aside0.mk ho
        have HB1 := Aside0.mk (HB.out.below hb')
        have HW1 := Aside0.mk (HW.out.trans (hb'.mono HW.out.size))
        have HS : w1.cell? ⟨b, o + k * 2, none⟩ = some (.int .i64 kd) ∧ w1.cell? ⟨b, o + k * 2 + 1, none⟩ = some (.slice A0 bd.length cc) := ⟨pw_cell_below hb' c0, pw_cell_below hb' c1⟩
        have hws : w.heap.size ≤ w1.heap.size := HW1.out.size
        obtain ⟨A1, cc1, rfl, _, hC1⟩ := ho.reads
        have HC1 := Aside0.mk hC1
        clear ho hb hb' HRR hC1 hHeld c0 c1
        go_wp2_with fail
        refine lex_end rfl HS (fun hHeld => ?_)
        iterate 5 (refine lex_p rfl rfl rfl (by intro w'; go_simp; with_reducible rfl) (by simp only [Act.put, List.setIfInBounds_toArray, List.set_cons_zero, List.set_cons_succ, i64_w, i32_w]; rfl) ?_)
        refine lex_nil ?_
        clear hHeld HS
        by_cases g1 : E = 0
        · subst g1
          by_cases g2 : 119 < L.length
          · go_wp2_with fail
            refine (works _).mono ?_
            rintro e w' ⟨rfl, hb⟩
            go_wp2_with fail
            go_ret
            exact ⟨rfl, HW1.out.trans (hb.mono HW1.out.size)⟩
          · go_wp2_with ((with_reducible refine gate_builtin (b := .append) (xs := #[.tmp 50, .tmp 51]) rfl ?_); refine ap_row w.heap.size _ _ rfl rfl HB1.out HC1.out rfl rfl hws (by omega) ?_; intro v2 w2 ho hb; have HB2 := Aside0.mk ho; have HW2 := Aside0.mk (HW1.out.trans hb); clear ho hb)
            go_roundg (gk - 1)
            case measure => omega
            case rel => exact ⟨k + 1, B ++ L, by omega, by omega, by go_num, by rw [List.length_append]; omega, HB2, ⟨HBY.out.app hLB.out⟩, HW2⟩
        · have d1 : (E != 0) = true := by simpa using g1
          have d2 : (!decide (E = 0)) = true := by simpa using g1
          go_wp2_with fail
          refine (works _).mono ?_
          rintro e w' ⟨rfl, hb⟩
          go_wp2_with fail
          go_ret
          exact ⟨rfl, HW1.out.trans (hb.mono HW1.out.size)⟩
      · obtain rfl : k = fs.length := by omega
        have hBl2 : B.length ≤ 714 := by omega
        obtain ⟨A1, cc1, rfl, hcc1, hC1⟩ := HB.out.reads
        have HG : Aside0 (0 < B.length → ∃ g, A1 = some ⟨g, 0, none⟩ ∧ w.heap.size ≤ g ∧ g < wr.heap.size) := ⟨fun hp => by
          obtain ⟨g, c', e, h1, h2, _⟩ := HB.out.form hp
          injection e with e
          exact ⟨g, e, h1, h2⟩⟩
        clear hC1 hBl
        by_cases g1 : 0 ≤ at_ ∧ at_ < B.length
        · obtain ⟨m, rfl⟩ : ∃ m : Nat, at_ = m := ⟨at_.toNat, by omega⟩
          obtain ⟨g, rfl, hg1, hg2⟩ := HG.out (by omega)
          obtain ⟨hcell, hfr⟩ := HB.out.cell m (by omega)
          obtain ⟨y, hy⟩ : ∃ y, B.getD m 0 = y := ⟨_, rfl⟩
          rw [hy] at hcell
          have hm1 : (m : Int) < (B.length : Int) := by omega
          have HB2 := Aside0.mk (HB.out.put m tw)
          have HBY2 : Aside0 (Byt (B.set m tw)) := ⟨HBY.out.set m tw HTO.out⟩
          have HW2 := Aside0.mk (HW.out.setCell (p := ⟨g, m, none⟩) hg1 (.int .u8 tw))
          have hlen2 : (B.set m tw).length = B.length := List.length_set
          clear hy HB HBY HW
          go_wp2_with fail
          obtain ⟨B2, hB2⟩ : ∃ X, B.set m tw = X := ⟨_, rfl⟩
          rw [hB2] at HB2 HBY2 hlen2
          rw [← hlen2] at HB2 hBl2 hcc1 ⊢
          obtain ⟨wr2, hwr⟩ : ∃ W, wr.setCell ⟨g, m, none⟩ (.int .u8 tw) = W := ⟨_, rfl⟩
          rw [hwr] at HB2 HW2 ⊢
          clear hB2 hwr hlen2
          refine (new _).mono ?_
          rintro e w3 ⟨rfl, hf, hb⟩
          obtain ⟨p, hp⟩ : ∃ p, wr2.heap.size = p := ⟨_, rfl⟩
          rw [hp] at hf ⊢
          have hp0 : w.heap.size ≤ p := by rw [← hp]; exact HW2.out.size
          have HF3 := Aside0.mk hf
          have HB3 := Aside0.mk (HB2.out.below hb)
          have HW3 := Aside0.mk (HW2.out.trans (hb.mono HW2.out.size))
          have hp3 := hf.lt
          clear hf hb hp HB2 HW2
          go_wp2_with fail
          have hRW := refWrite (w := w3) (A := none) (c := 0) (xs := []) (B := (some ⟨g, 0, none⟩)) (d := cc1) (ys := B2) (C_none _) HB3.out.readsAt (by simp; omega)
          rw [List.nil_append] at hRW
          refine hRW.mono ?_
          rintro e w4 ⟨vL, rfl, ho, hb⟩
          have HL4 := Aside0.mk ho
          have hs4 : w3.heap.size ≤ w4.heap.size := hb.size
          have HF4 := Aside0.mk (HF3.out.below hb (fun k hk => hk.elim) hp3)
          have HB4 := Aside0.mk (HB3.out.below hb)
          have HW4 := Aside0.mk (HW3.out.trans (hb.mono HW3.out.size))
          obtain ⟨AL, cL, rfl, hcL, _⟩ := ho.reads
          clear ho hb HF3 HB3 HW3 hRW
          go_wp2_with fail
          obtain ⟨q, hq⟩ : ∃ q, w4.heap.size = q := ⟨_, rfl⟩
          have hq5 := Ob.new w4 [.slice AL B2.length cL, .int .i64 0] _ rfl 46
          have hb5 : Below w4.heap.size w4 (w4.alloc (.cells #[.slice AL B2.length cL, .int .i64 0] 46)) := below_alloc (Below.refl _ _) _
          have hsz5 : (w4.alloc (.cells #[.slice AL B2.length cL, .int .i64 0] 46)).heap.size = q + 1 := by rw [← hq]; simp
          refine (write (HF4.out.below hb5 (fun k hk => hk.elim) (by omega)) ((HB4.out.below hb5).readsAt) hcc1 (by simp; omega)).mono ?_
          rintro e w6 ⟨rfl, hf, hb⟩
          rw [hsz5, List.nil_append] at hf
          rw [hsz5] at hb
          rw [hq] at hq5 ⊢
          obtain ⟨N, hN⟩ : ∃ N, w6.heap.size = N := ⟨_, rfl⟩
          have hqN : q + 1 ≤ N := by rw [← hN, ← hsz5]; exact hb.size
          have hpq : p < q := by omega
          have hw3q : w3.heap.size ≤ q := by omega
          have HF6 : Aside0 (Fr (fun k => q + 1 ≤ k ∧ k < N) p w6 B2 0) := ⟨by rw [← hN]; exact hf⟩
          have HQ6 : Aside0 (Ob q w6 [.slice AL B2.length cL, .int .i64 0]) := ⟨hq5.but hb (by omega) (by show ¬ q = p; omega)⟩
          have HS6 : Aside0 (Sl (fun k => p < k ∧ k < q) w6 (.slice AL B2.length cL) B2) := ⟨((HL4.out.sl (S := fun k => p < k ∧ k < q) (fun k h1 h2 => ⟨by omega, by omega⟩)).same (fun k hk => hb5.block k (by omega))).same (fun k hk => hb.block k (by omega) (by show ¬ k = p; omega))⟩
          have HW6 : Aside0 (Below w.heap.size w w6) := ⟨(HW4.out.trans (hb5.mono HW4.out.size)).trans (hb.below (by omega) (fun k hk e => by have : k = p := e; omega))⟩
          clear hf hb hq5 hb5 hsz5 HF4 HB4 HW4 HL4 hq hs4 hp3
          go_wp2_with fail
          go_loopg [15] 40 (fun gk s15 w' => ∃ (k : Nat) (xs : List Int) (fl : Int) (v : Value), k ≤ 40 ∧ 40 - k ≤ gk ∧ s15 = .int .i64 k ∧ Aside0 (Fr (fun k => q + 1 ≤ k ∧ k < N) p w' xs fl) ∧ Aside0 (Ob q w' [v, .int .i64 fl]) ∧ Aside0 (Sl (fun k => p < k ∧ k < q) w' v xs) ∧ Aside0 (Byt xs) ∧ xs.length ≤ 714 ∧ Aside0 (Below w.heap.size w w') ∧ N ≤ w'.heap.size)
          case atStart => exact ⟨0, B2, 0, _, by omega, by omega, rfl, HF6, HQ6, HS6, HBY2, by omega, HW6, by omega⟩
          case round =>
            clear HF6 HQ6 HS6 HBY2 HW6 hN
            obtain ⟨k, xs, fl, v, hk2, hgk2, rfl, HF, HQ, HS, HY, hxl, HW, hNw⟩ := hrel
            obtain ⟨Ax, cx, rfl, _, _, _⟩ := HS.out
            obtain ⟨c0, f0⟩ := HQ.out 0 _ rfl
            obtain ⟨c1, f1⟩ := HQ.out 1 _ rfl
            by_cases hlt2 : k < 40
            · go_wp2_with fail
              refine (lawNext HF.out (fun j hj => ⟨by omega, by omega⟩) HS.out (fun j hj => ⟨by omega, by omega⟩) HY.out).mono ?_
              rintro e w7 ⟨v7, rfl, hf, hs, hb⟩
              have HF7 := Aside0.mk hf
              have HS7 := Aside0.mk hs
              have HQ7 := Aside0.mk (HQ.out.but hb (by omega) (by show ¬ q = p; omega))
              have HW7 := Aside0.mk (HW.out.trans (hb.below HW.out.size (fun k hk e => by have : k = p := e; omega)))
              have hN7 : N ≤ w7.heap.size := Nat.le_trans hNw hb.size
              obtain ⟨A7, c7, rfl, _, _, _⟩ := hs
              obtain ⟨X, hX⟩ : ∃ X, stX xs fl = X := ⟨_, rfl⟩
              obtain ⟨fx, hfx⟩ : ∃ X, stF xs fl = X := ⟨_, rfl⟩
              have hXY : Aside0 (Byt X) := ⟨by rw [← hX]; exact HY.out.drop _⟩
              have hXl : X.length ≤ 714 := by rw [← hX]; unfold stX; rw [List.length_drop]; omega
              rw [hX, hfx] at HF7
              rw [hX] at HS7 ⊢
              rw [hfx]
              clear c0 f0 c1 f1 hf hb hX hfx HF HS HQ HW HY hxl
              obtain ⟨c0, f0⟩ := HQ7.out 0 _ rfl
              obtain ⟨c1, f1⟩ := HQ7.out 1 _ rfl
              have hq7 : q < w7.heap.size := by omega
              go_wp2_with fail
              go_roundg (gk - 1)
              case measure => omega
              case rel =>
                have hbA : ∀ o, Below w7.heap.size ((w7.setCell ⟨q, 0, none⟩ (.slice A7 X.length c7)).setCell ⟨q, 1, none⟩ (.int .i64 fx)) (((w7.setCell ⟨q, 0, none⟩ (.slice A7 X.length c7)).setCell ⟨q, 1, none⟩ (.int .i64 fx)).alloc o) := fun o => (Below.refl _ _).alloc (by simp [World.setCell]) o
                have hne : ∀ (j : Nat) (u v : Value) (W : World), j ≠ q → ((W.setCell ⟨q, 0, none⟩ u).setCell ⟨q, 1, none⟩ v).heap[j]? = W.heap[j]? := fun j u v W h => by
                  rw [Below.heap_setCell _ _ _ _ (by exact h), Below.heap_setCell _ _ _ _ (by exact h)]
                refine ⟨k + 1, X, fx, .slice A7 X.length c7, by omega, by omega, by go_num, ⟨?_⟩, ⟨?_⟩, ⟨?_⟩, hXY, hXl, ⟨?_⟩, ?_⟩
                · have h7 := HF7.out.lt
                  exact HF7.out.same (by rw [(hbA _).block p (by omega), hne p _ _ _ (by omega)]) (fun j hj => by rw [(hbA _).block j (by omega), hne j _ _ _ (by omega)])
                · exact ((HQ7.out.set 0 (by simp) (.slice A7 X.length c7)).set 1 (by simp) (.int .i64 fx)).below (hbA _) (by omega)
                · exact HS7.out.same (fun j hj => by rw [(hbA _).block j (by omega), hne j _ _ _ (by omega)])
                · exact ((HW7.out.setCell (p := ⟨q, 0, none⟩) (by show w.heap.size ≤ q; omega) _).setCell (p := ⟨q, 1, none⟩) (by show w.heap.size ≤ q; omega) _).trans ((hbA _).mono HW7.out.size)
                · simp [World.setCell]; omega
            · obtain rfl : k = 40 := by omega
              have HI := Aside0.mk (lawIs HF.out (fun j hj => ⟨by omega, by omega⟩) HS.out (fun j hj => by omega) (by omega))
              go_wp2_with (first | (go_at_call 12; refine (num _ _).mono ?_; rintro e w' ⟨rfl, rfl⟩) | (go_at_call 21; refine HI.out.mono ?_; rintro e w8 ⟨rfl, hb8⟩) | (go_at_call 9; refine (works _).mono ?_; rintro e w' ⟨rfl, hbw⟩))
              go_ret
              exact ⟨rfl, (HW.out.trans (hb8.mono HW.out.size)).trans (hbw.mono (by have := HW.out.size; have := hb8.size; omega))⟩
        · clear ha
          have HB2 := HB
          have HBY2 := HBY
          have HW2 := HW
          have g2 : (decide (0 ≤ at_) && decide (at_ < (B.length : Int))) = false := by simpa using g1
          clear HB HBY HW
          rcases Int.lt_or_le at_ 0 with g3 | g3
          · have d1 : decide (0 ≤ at_) = false := by simp; omega
            go_wp2_with fail
            refine (new _).mono ?_
            rintro e w3 ⟨rfl, hf, hb⟩
            obtain ⟨p, hp⟩ : ∃ p, wr.heap.size = p := ⟨_, rfl⟩
            rw [hp] at hf ⊢
            have hp0 : w.heap.size ≤ p := by rw [← hp]; exact HW2.out.size
            have HF3 := Aside0.mk hf
            have HB3 := Aside0.mk (HB2.out.below hb)
            have HW3 := Aside0.mk (HW2.out.trans (hb.mono HW2.out.size))
            have hp3 := hf.lt
            clear hf hb hp HB2 HW2
            go_wp2_with fail
            have hRW := refWrite (w := w3) (A := none) (c := 0) (xs := []) (B := A1) (d := cc1) (ys := B) (C_none _) HB3.out.readsAt (by simp; omega)
            rw [List.nil_append] at hRW
            refine hRW.mono ?_
            rintro e w4 ⟨vL, rfl, ho, hb⟩
            have HL4 := Aside0.mk ho
            have hs4 : w3.heap.size ≤ w4.heap.size := hb.size
            have HF4 := Aside0.mk (HF3.out.below hb (fun k hk => hk.elim) hp3)
            have HB4 := Aside0.mk (HB3.out.below hb)
            have HW4 := Aside0.mk (HW3.out.trans (hb.mono HW3.out.size))
            obtain ⟨AL, cL, rfl, hcL, _⟩ := ho.reads
            clear ho hb HF3 HB3 HW3 hRW
            go_wp2_with fail
            obtain ⟨q, hq⟩ : ∃ q, w4.heap.size = q := ⟨_, rfl⟩
            have hq5 := Ob.new w4 [.slice AL B.length cL, .int .i64 0] _ rfl 46
            have hb5 : Below w4.heap.size w4 (w4.alloc (.cells #[.slice AL B.length cL, .int .i64 0] 46)) := below_alloc (Below.refl _ _) _
            have hsz5 : (w4.alloc (.cells #[.slice AL B.length cL, .int .i64 0] 46)).heap.size = q + 1 := by rw [← hq]; simp
            refine (write (HF4.out.below hb5 (fun k hk => hk.elim) (by omega)) ((HB4.out.below hb5).readsAt) hcc1 (by simp; omega)).mono ?_
            rintro e w6 ⟨rfl, hf, hb⟩
            rw [hsz5, List.nil_append] at hf
            rw [hsz5] at hb
            rw [hq] at hq5 ⊢
            obtain ⟨N, hN⟩ : ∃ N, w6.heap.size = N := ⟨_, rfl⟩
            have hqN : q + 1 ≤ N := by rw [← hN, ← hsz5]; exact hb.size
            have hpq : p < q := by omega
            have hw3q : w3.heap.size ≤ q := by omega
            have HF6 : Aside0 (Fr (fun k => q + 1 ≤ k ∧ k < N) p w6 B 0) := ⟨by rw [← hN]; exact hf⟩
            have HQ6 : Aside0 (Ob q w6 [.slice AL B.length cL, .int .i64 0]) := ⟨hq5.but hb (by omega) (by show ¬ q = p; omega)⟩
            have HS6 : Aside0 (Sl (fun k => p < k ∧ k < q) w6 (.slice AL B.length cL) B) := ⟨((HL4.out.sl (S := fun k => p < k ∧ k < q) (fun k h1 h2 => ⟨by omega, by omega⟩)).same (fun k hk => hb5.block k (by omega))).same (fun k hk => hb.block k (by omega) (by show ¬ k = p; omega))⟩
            have HW6 : Aside0 (Below w.heap.size w w6) := ⟨(HW4.out.trans (hb5.mono HW4.out.size)).trans (hb.below (by omega) (fun k hk e => by have : k = p := e; omega))⟩
            clear hf hb hq5 hb5 hsz5 HF4 HB4 HW4 HL4 hq hs4 hp3
            go_wp2_with fail
            go_loopg [15] 40 (fun gk s15 w' => ∃ (k : Nat) (xs : List Int) (fl : Int) (v : Value), k ≤ 40 ∧ 40 - k ≤ gk ∧ s15 = .int .i64 k ∧ Aside0 (Fr (fun k => q + 1 ≤ k ∧ k < N) p w' xs fl) ∧ Aside0 (Ob q w' [v, .int .i64 fl]) ∧ Aside0 (Sl (fun k => p < k ∧ k < q) w' v xs) ∧ Aside0 (Byt xs) ∧ xs.length ≤ 714 ∧ Aside0 (Below w.heap.size w w') ∧ N ≤ w'.heap.size)
            case atStart => exact ⟨0, B, 0, _, by omega, by omega, rfl, HF6, HQ6, HS6, HBY2, by omega, HW6, by omega⟩
            case round =>
              clear HF6 HQ6 HS6 HBY2 HW6 hN
              obtain ⟨k, xs, fl, v, hk2, hgk2, rfl, HF, HQ, HS, HY, hxl, HW, hNw⟩ := hrel
              obtain ⟨Ax, cx, rfl, _, _, _⟩ := HS.out
              obtain ⟨c0, f0⟩ := HQ.out 0 _ rfl
              obtain ⟨c1, f1⟩ := HQ.out 1 _ rfl
              by_cases hlt2 : k < 40
              · go_wp2_with fail
                refine (lawNext HF.out (fun j hj => ⟨by omega, by omega⟩) HS.out (fun j hj => ⟨by omega, by omega⟩) HY.out).mono ?_
                rintro e w7 ⟨v7, rfl, hf, hs, hb⟩
                have HF7 := Aside0.mk hf
                have HS7 := Aside0.mk hs
                have HQ7 := Aside0.mk (HQ.out.but hb (by omega) (by show ¬ q = p; omega))
                have HW7 := Aside0.mk (HW.out.trans (hb.below HW.out.size (fun k hk e => by have : k = p := e; omega)))
                have hN7 : N ≤ w7.heap.size := Nat.le_trans hNw hb.size
                obtain ⟨A7, c7, rfl, _, _, _⟩ := hs
                obtain ⟨X, hX⟩ : ∃ X, stX xs fl = X := ⟨_, rfl⟩
                obtain ⟨fx, hfx⟩ : ∃ X, stF xs fl = X := ⟨_, rfl⟩
                have hXY : Aside0 (Byt X) := ⟨by rw [← hX]; exact HY.out.drop _⟩
                have hXl : X.length ≤ 714 := by rw [← hX]; unfold stX; rw [List.length_drop]; omega
                rw [hX, hfx] at HF7
                rw [hX] at HS7 ⊢
                rw [hfx]
                clear c0 f0 c1 f1 hf hb hX hfx HF HS HQ HW HY hxl
                obtain ⟨c0, f0⟩ := HQ7.out 0 _ rfl
                obtain ⟨c1, f1⟩ := HQ7.out 1 _ rfl
                have hq7 : q < w7.heap.size := by omega
                go_wp2_with fail
                go_roundg (gk - 1)
                case measure => omega
                case rel =>
                  have hbA : ∀ o, Below w7.heap.size ((w7.setCell ⟨q, 0, none⟩ (.slice A7 X.length c7)).setCell ⟨q, 1, none⟩ (.int .i64 fx)) (((w7.setCell ⟨q, 0, none⟩ (.slice A7 X.length c7)).setCell ⟨q, 1, none⟩ (.int .i64 fx)).alloc o) := fun o => (Below.refl _ _).alloc (by simp [World.setCell]) o
                  have hne : ∀ (j : Nat) (u v : Value) (W : World), j ≠ q → ((W.setCell ⟨q, 0, none⟩ u).setCell ⟨q, 1, none⟩ v).heap[j]? = W.heap[j]? := fun j u v W h => by
                    rw [Below.heap_setCell _ _ _ _ (by exact h), Below.heap_setCell _ _ _ _ (by exact h)]
                  refine ⟨k + 1, X, fx, .slice A7 X.length c7, by omega, by omega, by go_num, ⟨?_⟩, ⟨?_⟩, ⟨?_⟩, hXY, hXl, ⟨?_⟩, ?_⟩
                  · have h7 := HF7.out.lt
                    exact HF7.out.same (by rw [(hbA _).block p (by omega), hne p _ _ _ (by omega)]) (fun j hj => by rw [(hbA _).block j (by omega), hne j _ _ _ (by omega)])
                  · exact ((HQ7.out.set 0 (by simp) (.slice A7 X.length c7)).set 1 (by simp) (.int .i64 fx)).below (hbA _) (by omega)
                  · exact HS7.out.same (fun j hj => by rw [(hbA _).block j (by omega), hne j _ _ _ (by omega)])
                  · exact ((HW7.out.setCell (p := ⟨q, 0, none⟩) (by show w.heap.size ≤ q; omega) _).setCell (p := ⟨q, 1, none⟩) (by show w.heap.size ≤ q; omega) _).trans ((hbA _).mono HW7.out.size)
                  · simp [World.setCell]; omega
              · obtain rfl : k = 40 := by omega
                have HI := Aside0.mk (lawIs HF.out (fun j hj => ⟨by omega, by omega⟩) HS.out (fun j hj => by omega) (by omega))
                go_wp2_with (first | (go_at_call 12; refine (num _ _).mono ?_; rintro e w' ⟨rfl, rfl⟩) | (go_at_call 21; refine HI.out.mono ?_; rintro e w8 ⟨rfl, hb8⟩) | (go_at_call 9; refine (works _).mono ?_; rintro e w' ⟨rfl, hbw⟩))
                go_ret
                exact ⟨rfl, (HW.out.trans (hb8.mono HW.out.size)).trans (hbw.mono (by have := HW.out.size; have := hb8.size; omega))⟩
          · have d1 : decide (0 ≤ at_) = true := by simpa using g3
            have d2 : decide (at_ < (B.length : Int)) = false := by simp; omega
            go_wp2_with fail
            refine (new _).mono ?_
            rintro e w3 ⟨rfl, hf, hb⟩
            obtain ⟨p, hp⟩ : ∃ p, wr.heap.size = p := ⟨_, rfl⟩
            rw [hp] at hf ⊢
            have hp0 : w.heap.size ≤ p := by rw [← hp]; exact HW2.out.size
            have HF3 := Aside0.mk hf
            have HB3 := Aside0.mk (HB2.out.below hb)
            have HW3 := Aside0.mk (HW2.out.trans (hb.mono HW2.out.size))
            have hp3 := hf.lt
            clear hf hb hp HB2 HW2
            go_wp2_with fail
            have hRW := refWrite (w := w3) (A := none) (c := 0) (xs := []) (B := A1) (d := cc1) (ys := B) (C_none _) HB3.out.readsAt (by simp; omega)
            rw [List.nil_append] at hRW
            refine hRW.mono ?_
            rintro e w4 ⟨vL, rfl, ho, hb⟩
            have HL4 := Aside0.mk ho
            have hs4 : w3.heap.size ≤ w4.heap.size := hb.size
            have HF4 := Aside0.mk (HF3.out.below hb (fun k hk => hk.elim) hp3)
            have HB4 := Aside0.mk (HB3.out.below hb)
            have HW4 := Aside0.mk (HW3.out.trans (hb.mono HW3.out.size))
            obtain ⟨AL, cL, rfl, hcL, _⟩ := ho.reads
            clear ho hb HF3 HB3 HW3 hRW
            go_wp2_with fail
            obtain ⟨q, hq⟩ : ∃ q, w4.heap.size = q := ⟨_, rfl⟩
            have hq5 := Ob.new w4 [.slice AL B.length cL, .int .i64 0] _ rfl 46
            have hb5 : Below w4.heap.size w4 (w4.alloc (.cells #[.slice AL B.length cL, .int .i64 0] 46)) := below_alloc (Below.refl _ _) _
            have hsz5 : (w4.alloc (.cells #[.slice AL B.length cL, .int .i64 0] 46)).heap.size = q + 1 := by rw [← hq]; simp
            refine (write (HF4.out.below hb5 (fun k hk => hk.elim) (by omega)) ((HB4.out.below hb5).readsAt) hcc1 (by simp; omega)).mono ?_
            rintro e w6 ⟨rfl, hf, hb⟩
            rw [hsz5, List.nil_append] at hf
            rw [hsz5] at hb
            rw [hq] at hq5 ⊢
            obtain ⟨N, hN⟩ : ∃ N, w6.heap.size = N := ⟨_, rfl⟩
            have hqN : q + 1 ≤ N := by rw [← hN, ← hsz5]; exact hb.size
            have hpq : p < q := by omega
            have hw3q : w3.heap.size ≤ q := by omega
            have HF6 : Aside0 (Fr (fun k => q + 1 ≤ k ∧ k < N) p w6 B 0) := ⟨by rw [← hN]; exact hf⟩
            have HQ6 : Aside0 (Ob q w6 [.slice AL B.length cL, .int .i64 0]) := ⟨hq5.but hb (by omega) (by show ¬ q = p; omega)⟩
            have HS6 : Aside0 (Sl (fun k => p < k ∧ k < q) w6 (.slice AL B.length cL) B) := ⟨((HL4.out.sl (S := fun k => p < k ∧ k < q) (fun k h1 h2 => ⟨by omega, by omega⟩)).same (fun k hk => hb5.block k (by omega))).same (fun k hk => hb.block k (by omega) (by show ¬ k = p; omega))⟩
            have HW6 : Aside0 (Below w.heap.size w w6) := ⟨(HW4.out.trans (hb5.mono HW4.out.size)).trans (hb.below (by omega) (fun k hk e => by have : k = p := e; omega))⟩
            clear hf hb hq5 hb5 hsz5 HF4 HB4 HW4 HL4 hq hs4 hp3
            go_wp2_with fail
            go_loopg [15] 40 (fun gk s15 w' => ∃ (k : Nat) (xs : List Int) (fl : Int) (v : Value), k ≤ 40 ∧ 40 - k ≤ gk ∧ s15 = .int .i64 k ∧ Aside0 (Fr (fun k => q + 1 ≤ k ∧ k < N) p w' xs fl) ∧ Aside0 (Ob q w' [v, .int .i64 fl]) ∧ Aside0 (Sl (fun k => p < k ∧ k < q) w' v xs) ∧ Aside0 (Byt xs) ∧ xs.length ≤ 714 ∧ Aside0 (Below w.heap.size w w') ∧ N ≤ w'.heap.size)
            case atStart => exact ⟨0, B, 0, _, by omega, by omega, rfl, HF6, HQ6, HS6, HBY2, by omega, HW6, by omega⟩
            case round =>
              clear HF6 HQ6 HS6 HBY2 HW6 hN
              obtain ⟨k, xs, fl, v, hk2, hgk2, rfl, HF, HQ, HS, HY, hxl, HW, hNw⟩ := hrel
              obtain ⟨Ax, cx, rfl, _, _, _⟩ := HS.out
              obtain ⟨c0, f0⟩ := HQ.out 0 _ rfl
              obtain ⟨c1, f1⟩ := HQ.out 1 _ rfl
              by_cases hlt2 : k < 40
              · go_wp2_with fail
                refine (lawNext HF.out (fun j hj => ⟨by omega, by omega⟩) HS.out (fun j hj => ⟨by omega, by omega⟩) HY.out).mono ?_
                rintro e w7 ⟨v7, rfl, hf, hs, hb⟩
                have HF7 := Aside0.mk hf
                have HS7 := Aside0.mk hs
                have HQ7 := Aside0.mk (HQ.out.but hb (by omega) (by show ¬ q = p; omega))
                have HW7 := Aside0.mk (HW.out.trans (hb.below HW.out.size (fun k hk e => by have : k = p := e; omega)))
                have hN7 : N ≤ w7.heap.size := Nat.le_trans hNw hb.size
                obtain ⟨A7, c7, rfl, _, _, _⟩ := hs
                obtain ⟨X, hX⟩ : ∃ X, stX xs fl = X := ⟨_, rfl⟩
                obtain ⟨fx, hfx⟩ : ∃ X, stF xs fl = X := ⟨_, rfl⟩
                have hXY : Aside0 (Byt X) := ⟨by rw [← hX]; exact HY.out.drop _⟩
                have hXl : X.length ≤ 714 := by rw [← hX]; unfold stX; rw [List.length_drop]; omega
                rw [hX, hfx] at HF7
                rw [hX] at HS7 ⊢
                rw [hfx]
                clear c0 f0 c1 f1 hf hb hX hfx HF HS HQ HW HY hxl
                obtain ⟨c0, f0⟩ := HQ7.out 0 _ rfl
                obtain ⟨c1, f1⟩ := HQ7.out 1 _ rfl
                have hq7 : q < w7.heap.size := by omega
                go_wp2_with fail
                go_roundg (gk - 1)
                case measure => omega
                case rel =>
                  have hbA : ∀ o, Below w7.heap.size ((w7.setCell ⟨q, 0, none⟩ (.slice A7 X.length c7)).setCell ⟨q, 1, none⟩ (.int .i64 fx)) (((w7.setCell ⟨q, 0, none⟩ (.slice A7 X.length c7)).setCell ⟨q, 1, none⟩ (.int .i64 fx)).alloc o) := fun o => (Below.refl _ _).alloc (by simp [World.setCell]) o
                  have hne : ∀ (j : Nat) (u v : Value) (W : World), j ≠ q → ((W.setCell ⟨q, 0, none⟩ u).setCell ⟨q, 1, none⟩ v).heap[j]? = W.heap[j]? := fun j u v W h => by
                    rw [Below.heap_setCell _ _ _ _ (by exact h), Below.heap_setCell _ _ _ _ (by exact h)]
                  refine ⟨k + 1, X, fx, .slice A7 X.length c7, by omega, by omega, by go_num, ⟨?_⟩, ⟨?_⟩, ⟨?_⟩, hXY, hXl, ⟨?_⟩, ?_⟩
                  · have h7 := HF7.out.lt
                    exact HF7.out.same (by rw [(hbA _).block p (by omega), hne p _ _ _ (by omega)]) (fun j hj => by rw [(hbA _).block j (by omega), hne j _ _ _ (by omega)])
                  · exact ((HQ7.out.set 0 (by simp) (.slice A7 X.length c7)).set 1 (by simp) (.int .i64 fx)).below (hbA _) (by omega)
                  · exact HS7.out.same (fun j hj => by rw [(hbA _).block j (by omega), hne j _ _ _ (by omega)])
                  · exact ((HW7.out.setCell (p := ⟨q, 0, none⟩) (by show w.heap.size ≤ q; omega) _).setCell (p := ⟨q, 1, none⟩) (by show w.heap.size ≤ q; omega) _).trans ((hbA _).mono HW7.out.size)
                  · simp [World.setCell]; omega
              · obtain rfl : k = 40 := by omega
                have HI := Aside0.mk (lawIs HF.out (fun j hj => ⟨by omega, by omega⟩) HS.out (fun j hj => by omega) (by omega))
                go_wp2_with (first | (go_at_call 12; refine (num _ _).mono ?_; rintro e w' ⟨rfl, rfl⟩) | (go_at_call 21; refine HI.out.mono ?_; rintro e w8 ⟨rfl, hb8⟩) | (go_at_call 9; refine (works _).mono ?_; rintro e w' ⟨rfl, hbw⟩))
                go_ret
                exact ⟨rfl, (HW.out.trans (hb8.mono HW.out.size)).trans (hbw.mono (by have := HW.out.size; have := hb8.size; omega))⟩
end Go.Proofs.Yteakiaedlfhceaa.Frame
