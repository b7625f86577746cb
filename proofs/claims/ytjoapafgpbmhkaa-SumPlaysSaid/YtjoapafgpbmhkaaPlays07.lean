/- The walk of SumPlays. -/
import Derived.Test.YtjoapafgpbmhkaaPlay07
set_option linter.unusedSimpArgs false
set_option linter.unusedVariables false
namespace Go.Proofs.Ytjoapafgpbmhkaa.Sum
open Go.RowKit Go.Proofs.YtjoapafgpbmhkaaW.PrintWords Go.Proofs.YtjoapafgpbmhkaaW.PrintLast Go.Proofs.YtjoapafgpbmhkaaW.PrintMore Go.Proofs.Ytjoapafgpbmhkaa.Lex Go.Proofs.Ytjoapafgpbmhkaa.Lib Go.Proofs.Ytjoapafgpbmhkaa.High
set_option maxHeartbeats 16000000 in
set_option maxRecDepth 100000 in
theorem sumPlays_main (A : Option Addr) (c : Nat) (xs : List (Int × Bool × List Int)) (w : World) (hx : Kd.C AC w A xs.length xs) (ho : ∀ x ∈ xs, (Lit.int .i64 x.1).wf = true ∧ True ∧ ∀ n ∈ x.2.2, (Lit.int .u8 n).wf = true) (hl : xs.length ≤ 30) :
    Calls Try.prog 9 #[.slice A xs.length c] w fun e w' => e = .returned (.bool true) ∧ Below w.heap.size w w' := by
  have HX := Aside0.mk hx
  have HO := Aside0.mk ho
  have hl2 : ¬ (30 : Int) < (xs.length : Int) := by omega
  clear hx ho
  go_enter Try.func9, Try.ntmps9
  go_wp2_with fail
  refine (new _).mono ?_
  rintro e w1 ⟨rfl, ha0, hb1⟩
  have HA0 := Aside0.mk ha0
  have HB1 := Aside0.mk hb1
  clear ha0 hb1
  go_wp2_with fail
  refine (new _).mono ?_
  rintro e w2 ⟨rfl, ha1, hb2⟩
  have hst := fun t t' => St.start HA0.out HB1.out ha1 hb2 t t'
  have HST := Aside0.mk hst
  clear ha1 hb2 hst HA0
  go_wp2_with fail
  obtain ⟨HS1, HS2⟩ := HST.out 48 55
  have HS1 := Aside0.mk HS1
  have HS2 := Aside0.mk HS2
  obtain ⟨bl, hbl⟩ : ∃ b, w2.heap.size = b := ⟨_, rfl⟩
  obtain ⟨ba, hba⟩ : ∃ b, w2.heap.size + 1 = b := ⟨_, rfl⟩
  obtain ⟨V0, hV0⟩ : ∃ V, (w2.alloc (.cells #[ptr w.heap.size, ptr w1.heap.size] 48)).alloc (.cells #[.slice none 0 0, .slice none 0 0] 55) = V := ⟨_, rfl⟩
  rw [hV0] at HS1 HS2 ⊢
  rw [hba, hbl] at HS1
  rw [hba, hbl]
  clear HST HB1 hbl hba hV0
  go_loopg [5] xs.length (fun gk s5 w' => ∃ (k p0 p1 : Nat) (y0 y1 : List Int), k ≤ xs.length ∧ xs.length - k ≤ gk ∧ s5 = .int .i64 k ∧ Aside0 (y0.length ≤ 100 * k) ∧ Aside0 (y1.length ≤ 100 * k) ∧ Aside0 (St w.heap.size bl ba p0 p1 y0 y1 w') ∧ Aside0 (Below w.heap.size w w'))
  case atStart => exact ⟨0, _, _, [], [], by omega, by omega, rfl, ⟨by simp⟩, ⟨by simp⟩, HS1, HS2⟩
  case round =>
    clear HS1 HS2
    obtain ⟨k, p0, p1, y0, y1, hk, hgk, rfl, HL0, HL1, HST, HB⟩ := hrel
    by_cases hlt : k < xs.length
    · obtain ⟨b, o, A0, c0, rfl, q0w, q1w, q2w, hc0, hC0⟩ := C_act HX.out k hlt
      have ho := HO.out (xs.getD k Act0) (by rw [List.getD_eq_getElem?_getD, List.getElem?_eq_getElem hlt]; exact List.getElem_mem _)
      have q0w := pw_cell_below HB.out q0w
      have q1w := pw_cell_below HB.out q1w
      have q2w := pw_cell_below HB.out q2w
      obtain ⟨⟨what, two, zs⟩, hq⟩ : ∃ q, xs.getD k Act0 = q := ⟨_, rfl⟩
      simp only [hq] at q0w q1w q2w hc0 hC0 ho
      have HBZ := Aside0.mk (byt ho.2.2)
      have HC0 := Aside0.mk hC0
      obtain ⟨v0, v1, hOb, hS0, hS1⟩ := HST.out.all
      clear hq hC0 ho
      cases two
      · have HLEN := HL0
        have HLENO := HL1
        have HQ : ∀ k, Qk p0 p1 bl ba wr k → ¬ at1 p0 k := fun k hk e => hk.2.1 e
        by_cases hz : 100 < zs.length
        · have hz2 : (100 : Int) < (zs.length : Int) := by omega
          clear hS0 hS1 hOb HC0
          go_wp2_with fail
          refine (works _).mono ?_
          rintro e w' ⟨rfl, hbw⟩
          go_wp2_with fail
          go_ret
          exact ⟨rfl, HB.out.trans ((below_alloc (Below.refl _ _) _).trans (hbw.mono (by simp)) |>.mono HB.out.size)⟩
        · have hz2 : ¬ (100 : Int) < (zs.length : Int) := by omega
          obtain ⟨W0, rfl⟩ : ∃ W, W = wr := ⟨_, rfl⟩
          obtain ⟨G, rfl⟩ : ∃ G, G = gk := ⟨_, rfl⟩
          by_cases h0 : what = 0
          · subst h0
            have HOBX := Aside0.mk (Ob.new W0 [.int .i64 0, .bool false, .slice A0 zs.length c0] _ rfl 57)
            go_wp2_with ((with_reducible refine gate_builtin (b := .append) (xs := #[.tmp 54, .tmp 56]) rfl ?_); refine ap_row (W0.heap.size + 1) _ _ rfl rfl (OB.litAt (W0.alloc (.cells #[.int .i64 0, .bool false, .slice A0 zs.length c0] 57)) (W0.heap.size + 1) (by simp) [] [] rfl 0 rfl (Nat.le_refl _) (by simp)) (Kd.C_below HC0.out (below_alloc (below_alloc HB.out _) _)) rfl rfl (by simp) (by simp; omega) ?_; intro vm w1 ho hb; have HM1 : Aside0 (OB (W0.heap.size + 1) w1 vm zs) := ⟨ho⟩; have HBX1 := Aside0.mk (HOBX.out.below (((Below.refl (W0.heap.size + 1) (W0.alloc (.cells #[.int .i64 0, .bool false, .slice A0 zs.length c0] 57))).alloc (by simp) _).trans hb) (by simp)); have HW1 : Aside0 (Below W0.heap.size W0 w1) := ⟨(below_alloc (below_alloc (Below.refl _ _) _) _).trans (hb.mono (by omega))⟩; clear ho hb; obtain ⟨Am, cm, rfl, hcm, hCm⟩ := HM1.out.reads; obtain ⟨ql0, _⟩ := (HST.out.l.below HW1.out HST.out.l.lt) 0 _ rfl)
            have hA : 0 < zs.length → ∀ a, Am = some a → a.block ≠ p0 := fun h0 a ha => by
              obtain ⟨g, cap, e, h1, _⟩ := HM1.out.form h0
              injection e with e
              rw [ha] at e
              injection e with e
              subst e
              have := HST.out.a0.lt
              show g ≠ p0
              omega
            have HWr := aWrite' p0 y0 Am cm zs w1 (HST.out.a0.below HW1.out HST.out.a0.lt) hCm HBZ.out hA (by have := HLEN.out; omega) (by omega)
            have HWr := Aside0.mk HWr
            have HGm : Aside0 (0 < zs.length → ∃ g, Am = some ⟨g, 0, none⟩ ∧ W0.heap.size + 1 ≤ g ∧ g < w1.heap.size) := ⟨fun hp => by
              obtain ⟨g, c', e, h1, h2, _⟩ := HM1.out.form hp
              injection e with e
              exact ⟨g, e, h1, h2⟩⟩
            clear hCm hA q0w q1w q2w
            refine HWr.out.mono ?_
            rintro e w2 ⟨rfl, hak, hbt⟩
            have HAK := Aside0.mk hak
            have HBT := Aside0.mk hbt
            have hPlt := HST.out.a0.lt
            have HM2 := Aside0.mk (ob_but HM1.out hbt (fun k hk e => by have : k = p0 := e; omega))
            have HBX2 := Aside0.mk (HBX1.out.but hbt (by have := HW1.out.size; have := HBX1.out.lt; omega) (fun e => by have : W0.heap.size = p0 := e; omega))
            have HBW2 : Aside0 (Below w.heap.size w w2) := ⟨(HB.out.trans (HW1.out.mono HB.out.size)).trans (hbt.below (HB.out.trans (HW1.out.mono HB.out.size)).size (fun j hj e => by have : j = p0 := e; have := HST.out.base; omega))⟩
            have hcm1 := conv w2 Am cm zs HM2.out.readsAt
            have hcz1 := conv w2 A0 c0 zs (Kd.C_below HC0.out HBW2.out)
            obtain ⟨qb2, _⟩ := HBX2.out 2 _ rfl
            clear hak hbt HWr HM1 HBX1 hcm
            go_wp2_with fail
            refine (num _ _).mono ?_
            rintro e w' ⟨rfl, rfl⟩
            go_wp2_with fail
            clear hcm1 hcz1 qb2
            go_loopg [9] zs.length (fun gk s9 w' => ∃ (j : Nat) (ms : List Int), j ≤ zs.length ∧ zs.length - j ≤ gk ∧ s9 = .int .i64 j ∧ Aside0 (ms.length = zs.length) ∧ Aside0 (OB (W0.heap.size + 1) w' (.slice Am zs.length cm) ms) ∧ Aside0 (Below (W0.heap.size + 1) w2 w'))
            case atStart => exact ⟨0, zs, by omega, by omega, rfl, ⟨rfl⟩, HM2, ⟨Below.refl _ _⟩⟩
            case round =>
              clear HM2
              obtain ⟨j, ms, hj, hgj, rfl, HMS, HOM, HB3⟩ := hrel
              by_cases hjlt : j < zs.length
              · obtain ⟨g, rfl, hg1, hg2⟩ := HGm.out (by omega)
                obtain ⟨hcell, hfr⟩ := HOM.out.cell j (by omega)
                obtain ⟨y, hy⟩ : ∃ y, ms.getD j 0 = y := ⟨_, rfl⟩
                rw [hy] at hcell
                clear hy
                go_wp2
                go_roundg (gk - 1)
                case measure => omega
                case rel => exact ⟨j + 1, _, by omega, by omega, by go_num, ⟨by rw [List.length_set]; exact HMS.out⟩, ⟨HOM.out.put j _⟩, ⟨HB3.out.setCell (by exact hg1) _⟩⟩
              · obtain rfl : j = zs.length := by omega
                have hBut3 : But W0.heap.size (at1 p0) W0 wr := ((But.of HW1.out (Nat.le_refl _)).trans (HBT.out.mono HW1.out.size (fun _ _ e => e))).then HB3.out (by omega)
                have hObK := hOb.but hBut3 hOb.lt (fun e => by have : ba = p0 := e; have := HST.out.apart; omega)
                have hSK3 := (Sl.same hS0 (fun k hk => hBut3.block k hk.1 (HQ k hk)))
                obtain ⟨Av, cv, rfl, hcv, hCv, _⟩ := hSK3
                obtain ⟨c3a, f3a⟩ := hObK 0 _ rfl
                have hBX3 := HBX2.out.below HB3.out (by omega)
                obtain ⟨c3b, _⟩ := hBX3 2 _ rfl
                have hC03 := Kd.C_below HC0.out (HBW2.out.trans (HB3.out.mono (by have := HB.out.size; omega)))
                have hAK3 := HAK.out.below HB3.out (by omega)
                have HBut3 := Aside0.mk hBut3
                have HObK := Aside0.mk hObK
                have HCv := Aside0.mk hCv
                have HC03 := Aside0.mk hC03
                have HAK3 := Aside0.mk hAK3
                have HAp := Aside0.mk HST.out.apart
                obtain ⟨Z, hZ⟩ : ∃ Z, y0 ++ zs = Z := ⟨_, rfl⟩
                have hbz : Byt Z := fun x hx => by rw [← hZ] at hx; exact (List.mem_append.1 hx).elim (fun h => HST.out.byt.1 x h) (fun h => HBZ.out x h)
                have hzlen : Z.length ≤ 100 * (k + 1) := by have := HLEN.out; rw [← hZ, List.length_append]; omega
                have HZ := Aside0.mk hZ
                have HZB := Aside0.mk hbz
                have HZL := Aside0.mk hzlen
                clear hZ hbz hzlen
                have hbal := hOb.lt
                have hylen := HLEN.out
                clear hOb hBut3 hObK hCv hC03 hAK3 hBX3 HBX2 HOM HMS HAK HBT hjlt hgj hj HGm
                go_wp2_with fail
                refine region [(0, .p), (2, .p), (3, .p), (6, .p), (4, .t), (7, .t), (1, .o), (5, .o), (8, .o), (9, .p), (10, .e)] (fun V => V.cell? ⟨ba, 0, none⟩ = some (.slice Av y0.length cv) ∧ V.cell? ⟨W0.heap.size, 2, none⟩ = some (.slice A0 zs.length c0)) (by kernel_rfl) (by kernel_rfl) (fun _ _ _ _ _ h => h) (⟨c3a, c3b⟩) (fun hHeld => ?_)
                iterate 4 (refine lex_p rfl rfl rfl (by intro w'; go_simp; with_reducible rfl) (by simp only [Act.put, List.setIfInBounds_toArray, List.set_cons_zero, List.set_cons_succ, i64_w, i32_w]; rfl) ?_)
                iterate 2 (refine lex_t rfl rfl rfl (by rintro w' ⟨s1, s2⟩; go_simp; with_reducible rfl) (by simp only [Act.put, List.setIfInBounds_toArray, List.set_cons_zero, List.set_cons_succ, i64_w, i32_w]; rfl) ?_)
                refine lex_o rfl ?_
                go_wp2_with fail
                refine lex_end (by first | (simp only [Act.put, List.setIfInBounds_toArray, List.set_cons_zero, List.set_cons_succ, i64_w, i32_w]; rfl) | rfl) (⟨pw_cell_below (below_alloc (Below.refl _ _) _) hHeld.1, pw_cell_below (below_alloc (Below.refl _ _) _) hHeld.2⟩) (fun hHeld => ?_)
                refine lex_o rfl ?_
                refine ap_row wr.heap.size _ _ rfl rfl (OB.lit wr.drew [] [] rfl 0 rfl (Nat.le_refl _) (by simp)) (Kd.C_below HCv.out (below_alloc (below_drew (Below.refl _ _)) _)) rfl rfl (by simp) (by simp; omega) ?_
                intro v4 w4 ho hb4
                have HO4 : Aside0 (OB wr.heap.size w4 v4 y0) := ⟨ho⟩
                have HB34 := Aside0.mk ((below_alloc (below_drew (Below.refl wr.heap.size wr)) _).trans hb4)
                clear ho hb4
                refine lex_end (by first | (simp only [Act.put, List.setIfInBounds_toArray, List.set_cons_zero, List.set_cons_succ, i64_w, i32_w]; rfl) | rfl) (⟨pw_cell_below HB34.out c3a, pw_cell_below HB34.out c3b⟩) (fun hHeld => ?_)
                refine lex_o rfl ?_
                refine ap_row wr.heap.size _ _ rfl rfl HO4.out (Kd.C_below HC03.out HB34.out) rfl rfl HB34.out.size (by omega) ?_
                intro v5 w5 ho hb5
                have HO5 : Aside0 (OB wr.heap.size w5 v5 Z) := ⟨by rw [← HZ.out]; exact ho⟩
                have HB35 := Aside0.mk (HB34.out.trans hb5)
                clear ho hb5
                refine lex_end (by first | (simp only [Act.put, List.setIfInBounds_toArray, List.set_cons_zero, List.set_cons_succ, i64_w, i32_w]; rfl) | rfl) (⟨pw_cell_below HB35.out c3a, pw_cell_below HB35.out c3b⟩) (fun hHeld => ?_)
                (refine lex_p rfl rfl rfl (by intro w'; go_simp; with_reducible rfl) (by simp only [Act.put, List.setIfInBounds_toArray, List.set_cons_zero, List.set_cons_succ, i64_w, i32_w]; rfl) ?_)
                refine lex_e rfl ?_
                have hO5b := HObK.out.below HB35.out HObK.out.lt
                obtain ⟨c5a, f5a⟩ := hO5b 0 _ rfl
                obtain ⟨A5, c5, rfl, _, _⟩ := HO5.out.reads
                go_wp2_with fail
                refine putQ_normal ?_
                go_wp2_with fail
                go_roundg (G - 1)
                case measure => omega
                case rel =>
                  have hs3 := HBut3.out.size
                  have hbut : But W0.heap.size (fun k => k = p0 ∨ k = ba) W0 (w5.setCell ⟨ba, 0, none⟩ (.slice A5 Z.length c5)) := ((HBut3.out.mono (Nat.le_refl _) (fun _ _ e => .inl e)).then HB35.out hs3).setCell (p := ⟨ba, 0, none⟩) (.inr (.inr rfl)) _
                  have hap := HAp.out
                  have hak : Ad p0 (w5.setCell ⟨ba, 0, none⟩ (.slice A5 Z.length c5)) (rawS Z) Z.length := by rw [← HZ.out]; exact (HAK3.out.below HB35.out HAK3.out.lt).far (by show p0 ≠ ba; omega) _
                  have hob : Ob ba (w5.setCell ⟨ba, 0, none⟩ (.slice A5 Z.length c5)) [.slice A5 Z.length c5, v1] := by simpa using hO5b.set 0 (by simp) (.slice A5 Z.length c5)
                  have hsl : Sl (Qk p0 p1 bl ba (w5.setCell ⟨ba, 0, none⟩ (.slice A5 Z.length c5))) (w5.setCell ⟨ba, 0, none⟩ (.slice A5 Z.length c5)) (.slice A5 Z.length c5) Z := by
                    have l0 := HST.out.a0.lt
                    have l1 := HST.out.a1.lt
                    have l2 := HST.out.l.lt
                    refine (Sl.same (HO5.out.sl (S := fun k => wr.heap.size ≤ k ∧ k < w5.heap.size) (fun k h3 h4 => ⟨h3, h4⟩)) (fun k hk => Below.heap_setCell _ _ _ _ (by show k ≠ ba; omega))).mono (fun k hk => ⟨by simp [World.setCell]; exact hk.2, by omega, by omega, by omega, by omega⟩)
                  exact ⟨k + 1, p0, p1, Z, y1, by omega, by omega, by go_num, ⟨by have := HZL.out; have := HLENO.out; omega⟩, ⟨by have := HZL.out; have := HLENO.out; omega⟩, ⟨HST.out.upd0 hS1 hbut hak _ hob hsl HZB.out⟩, ⟨HBW2.out.trans ((HB3.out.mono (by have := HB.out.size; omega)).trans ((HB35.out.mono (by have := HB.out.size; omega)).setCell (p := ⟨ba, 0, none⟩) HST.out.base.2.2.2 _))⟩⟩
          · have hw0 : (what == 0) = false := by simpa using h0
            by_cases h1 : what = 1
            · subst h1
              obtain ⟨Av, cv, rfl, hcv, hCv, _⟩ := hS0
              obtain ⟨qa, _⟩ := hOb 0 _ rfl
              obtain ⟨ql, _⟩ := HST.out.l 0 _ rfl
              have hBX := below_drew (below_alloc (Below.refl W0.heap.size W0) (.cells #[.int .i64 1, .bool false, .slice A0 zs.length c0] 57))
              have HCv := Aside0.mk hCv
              clear hCv hOb
              go_wp2_with fail
              obtain ⟨W1, hW1⟩ : ∃ W1, W0.alloc (.cells #[.int .i64 1, .bool false, .slice A0 zs.length c0] 57) = W1 := ⟨_, rfl⟩
              rw [hW1] at hBX ⊢
              have ql1 := pw_cell_below hBX ql
              have qa1 := pw_cell_below hBX qa
              have HST1 := Aside0.mk (HST.out.below hBX)
              have HBX := Aside0.mk hBX
              clear hW1 hBX ql qa q0w q1w q2w
              refine region [(0, .p), (1, .p), (2, .p), (5, .p), (6, .p), (3, .t), (7, .t), (4, .o), (8, .o), (9, .p), (10, .p), (11, .p), (12, .p), (13, .p), (16, .p), (17, .p), (14, .t), (18, .t), (19, .p), (15, .o), (20, .p), (21, .p)] (fun V => V.cell? ⟨bl, 0, none⟩ = some (ptr p0) ∧ V.cell? ⟨ba, 0, none⟩ = some (.slice Av y0.length cv)) (by kernel_rfl) (by kernel_rfl) (fun _ _ _ _ _ h => h) (⟨ql1, qa1⟩) (fun hHeld => ?_)
              iterate 5 (refine lex_p rfl rfl rfl (by intro w'; go_simp; with_reducible rfl) (by simp only [Act.put, List.setIfInBounds_toArray, List.set_cons_zero, List.set_cons_succ, i64_w, i32_w]; rfl) ?_)
              iterate 2 (refine lex_t rfl rfl rfl (by rintro w' ⟨s1, s2⟩; go_simp; with_reducible rfl) (by simp only [Act.put, List.setIfInBounds_toArray, List.set_cons_zero, List.set_cons_succ, i64_w, i32_w]; rfl) ?_)
              refine lex_o rfl ?_
              go_wp2_with fail
              refine (aRaw p0 _ _ _ HST1.out.a0 (rawS_le _)).mono ?_
              rintro e w2 ⟨rfl, hb2⟩
              have HST2 := Aside0.mk (HST1.out.below hb2)
              have HB2 := Aside0.mk hb2
              have HBX2 : Aside0 (Below W0.heap.size W0 w2) := ⟨HBX.out.trans (hb2.mono HBX.out.size)⟩
              clear hb2
              go_wp2_with fail
              refine lex_end (by first | (simp only [Act.put, List.setIfInBounds_toArray, List.set_cons_zero, List.set_cons_succ, i64_w, i32_w]; rfl) | rfl) (⟨pw_cell_below HB2.out ql1, pw_cell_below HB2.out qa1⟩) (fun hHeld => ?_)
              refine lex_o rfl ?_
              go_wp2_with fail
              refine (rRaw Av cv y0 w2 (Kd.C_below HCv.out HBX2.out) HST.out.byt.1 (by have := HLEN.out; omega)).mono ?_
              rintro e w' ⟨rfl, rfl⟩
              go_wp2_with fail
              refine lex_end (by first | (simp only [Act.put, List.setIfInBounds_toArray, List.set_cons_zero, List.set_cons_succ, i64_w, i32_w]; rfl) | rfl) (⟨pw_cell_below HB2.out ql1, pw_cell_below HB2.out qa1⟩) (fun hHeld => ?_)
              iterate 7 (refine lex_p rfl rfl rfl (by intro w'; go_simp; with_reducible rfl) (by simp only [Act.put, List.setIfInBounds_toArray, List.set_cons_zero, List.set_cons_succ, i64_w, i32_w]; rfl) ?_)
              iterate 2 (refine lex_t rfl rfl rfl (by rintro w' ⟨s1, s2⟩; go_simp; with_reducible rfl) (by simp only [Act.put, List.setIfInBounds_toArray, List.set_cons_zero, List.set_cons_succ, i64_w, i32_w]; rfl) ?_)
              (refine lex_p rfl rfl rfl (by intro w'; go_simp; with_reducible rfl) (by simp only [Act.put, List.setIfInBounds_toArray, List.set_cons_zero, List.set_cons_succ, i64_w, i32_w]; rfl) ?_)
              refine lex_o rfl ?_
              go_wp2_with fail
              refine (aLen p0 _ _ w2 HST2.out.a0).mono ?_
              rintro e w' ⟨rfl, rfl⟩
              go_wp2_with fail
              refine lex_end (by first | (simp only [Act.put, List.setIfInBounds_toArray, List.set_cons_zero, List.set_cons_succ, i64_w, i32_w]; rfl) | rfl) (⟨pw_cell_below HB2.out ql1, pw_cell_below HB2.out qa1⟩) (fun hHeld => ?_)
              iterate 2 (refine lex_p rfl rfl rfl (by intro w'; go_simp; with_reducible rfl) (by simp only [Act.put, List.setIfInBounds_toArray, List.set_cons_zero, List.set_cons_succ, i64_w, i32_w]; rfl) ?_)
              refine lex_nil ?_
              go_wp2_with fail
              go_roundg (G - 1)
              case measure => omega
              case rel => exact ⟨k + 1, p0, p1, y0, y1, by omega, by omega, by go_num, ⟨by have := HLEN.out; have := HLENO.out; omega⟩, ⟨by have := HLEN.out; have := HLENO.out; omega⟩, HST2, ⟨HB.out.trans (HBX2.out.mono HB.out.size)⟩⟩
            · have hw1 : (what == 1) = false := by simpa using h1
              obtain ⟨Av, cv, rfl, hcv, hCv, hqv⟩ := id hS1
              obtain ⟨qa, _⟩ := hOb 1 _ rfl
              obtain ⟨ql, _⟩ := HST.out.l 1 _ rfl
              have hBX := below_drew (below_alloc (Below.refl W0.heap.size W0) (.cells #[.int .i64 what, .bool false, .slice A0 zs.length c0] 57))
              have HSO := Aside0.mk hS1
              have HOb := Aside0.mk hOb
              clear hCv hOb hS1 hqv
              go_wp2_with fail
              obtain ⟨W1, hW1⟩ : ∃ W1, W0.alloc (.cells #[.int .i64 what, .bool false, .slice A0 zs.length c0] 57) = W1 := ⟨_, rfl⟩
              rw [hW1] at hBX ⊢
              have ql1 := pw_cell_below hBX ql
              have qa1 := pw_cell_below hBX qa
              have HST1 := Aside0.mk (HST.out.below hBX)
              have HOb1 := Aside0.mk (HOb.out.below hBX HOb.out.lt)
              have HBX := Aside0.mk hBX
              have HAp := Aside0.mk HST.out.apart
              clear hW1 hBX ql qa q0w q1w q2w
              have wr1 : wrap64 1 = 1 := by unfold wrap64; omega
              have wr0 : wrap64 0 = 0 := by unfold wrap64; omega
              refine region [(0, .p), (1, .p), (2, .p), (3, .p), (4, .p), (5, .p), (6, .p), (9, .p), (10, .p), (11, .p), (7, .t), (12, .t), (8, .o), (13, .p), (14, .o), (15, .p), (16, .e)] (fun V => V.cell? ⟨bl, 1, none⟩ = some (ptr p1) ∧ V.cell? ⟨ba, 1, none⟩ = some (.slice Av y1.length cv)) (by kernel_rfl) (by kernel_rfl) (fun _ _ _ _ _ h => h) (⟨ql1, qa1⟩) (fun hHeld => ?_)
              iterate 10 (refine lex_p rfl rfl rfl (by intro w'; go_simp; with_reducible rfl) (by simp only [Act.put, List.setIfInBounds_toArray, List.set_cons_zero, List.set_cons_succ, i64_w, i32_w]; rfl) ?_)
              iterate 2 (refine lex_t rfl rfl rfl (by rintro w' ⟨s1, s2⟩; go_simp; with_reducible rfl) (by simp only [Act.put, List.setIfInBounds_toArray, List.set_cons_zero, List.set_cons_succ, i64_w, i32_w]; rfl) ?_)
              refine lex_o rfl ?_
              go_wp2_with fail
              refine (aCopy p1 _ _ _ HST1.out.a1).mono ?_
              rintro e w2 ⟨rfl, hq2, hb2⟩
              have HQ2 := Aside0.mk hq2
              have HL2 := Aside0.mk (HST1.out.l.below hb2 HST1.out.l.lt)
              have HOb2 := Aside0.mk (HOb1.out.below hb2 HOb1.out.lt)
              have HBX2 : Aside0 (Below W0.heap.size W0 w2) := ⟨HBX.out.trans (hb2.mono HBX.out.size)⟩
              have hWs : W0.heap.size ≤ W1.drew.heap.size := HBX.out.size
              obtain ⟨Q, hQ⟩ : ∃ Q, W1.drew.heap.size = Q := ⟨_, rfl⟩
              have ql2 := pw_cell_below hb2 ql1
              have qa2 := pw_cell_below hb2 qa1
              rw [hQ] at HQ2 hWs
              have HWs := Aside0.mk hWs
              clear hq2 hb2 hWs ql1 qa1
              go_wp2_with fail
              clear hQ
              refine lex_end (by first | (simp only [Act.put, List.setIfInBounds_toArray, List.set_cons_zero, List.set_cons_succ, i64_w, i32_w]; rfl) | rfl) (⟨ql2, qa2⟩) (fun hHeld => ?_)
              (refine lex_p rfl rfl rfl (by intro w'; go_simp; with_reducible rfl) (by simp only [Act.put, List.setIfInBounds_toArray, List.set_cons_zero, List.set_cons_succ, i64_w, i32_w]; rfl) ?_)
              refine lex_o rfl ?_
              obtain ⟨cl, fl⟩ := HL2.out 0 _ rfl
              have HL3 := Aside0.mk (HL2.out.set 0 (by simp) (ptr Q))
              have HOb3 := Aside0.mk (HOb2.out.far (q := ⟨bl, 0, none⟩) (by have := HAp.out; show ba ≠ bl; omega) (ptr Q))
              go_wp2_with fail
              refine lex_end (by first | (simp only [Act.put, List.setIfInBounds_toArray, List.set_cons_zero, List.set_cons_succ, i64_w, i32_w]; rfl) | rfl) (⟨(HL3.out 1 _ rfl).1, (HOb3.out 1 _ rfl).1⟩) (fun hHeld => ?_)
              (refine lex_p rfl rfl rfl (by intro w'; go_simp; with_reducible rfl) (by simp only [Act.put, List.setIfInBounds_toArray, List.set_cons_zero, List.set_cons_succ, i64_w, i32_w]; rfl) ?_)
              refine lex_e rfl ?_
              obtain ⟨ca, fa⟩ := HOb3.out 0 _ rfl
              go_wp2_with fail
              refine putQ_normal ?_
              go_wp2_with fail
              go_roundg (G - 1)
              case measure => omega
              case rel =>
                have hap := HAp.out
                have hbase := HST.out.base
                have hbls := HST.out.l.lt
                have hbas := HOb.out.lt
                have hbut : But W0.heap.size (fun k => k = bl ∨ k = ba) W0 ((w2.setCell ⟨bl, 0, none⟩ (ptr Q)).setCell ⟨ba, 0, none⟩ (.slice Av y1.length cv)) := ((But.of HBX2.out (Nat.le_refl _)).setCell (p := ⟨bl, 0, none⟩) (.inr (.inl rfl)) _).setCell (p := ⟨ba, 0, none⟩) (.inr (.inr rfl)) _
                have hak := (HQ2.out.far (q := ⟨bl, 0, none⟩) (by have := HWs.out; show Q ≠ bl; omega) (ptr Q)).far (q := ⟨ba, 0, none⟩) (by have := HWs.out; show Q ≠ ba; omega) (.slice Av y1.length cv)
                have hl4 := HL3.out.far (q := ⟨ba, 0, none⟩) (by show bl ≠ ba; omega) (.slice Av y1.length cv)
                have hob4 := HOb3.out.set 0 (by simp) (.slice Av y1.length cv)
                exact ⟨k + 1, Q, p1, y1, y1, by omega, by omega, by go_num, ⟨by have := HLEN.out; have := HLENO.out; omega⟩, ⟨by have := HLEN.out; have := HLENO.out; omega⟩, ⟨HST.out.copy0 HOb.out HSO.out Q HWs.out hbut hak hl4 hob4⟩, ⟨(HB.out.trans (HBX2.out.mono HB.out.size)).setCell (p := ⟨bl, 0, none⟩) hbase.2.2.1 _ |>.setCell (p := ⟨ba, 0, none⟩) hbase.2.2.2 _⟩⟩
      · have HLEN := HL1
        have HLENO := HL0
        have HQ : ∀ k, Qk p0 p1 bl ba wr k → ¬ at1 p1 k := fun k hk e => hk.2.2.1 e
        by_cases hz : 100 < zs.length
        · have hz2 : (100 : Int) < (zs.length : Int) := by omega
          clear hS0 hS1 hOb HC0
          go_wp2_with fail
          refine (works _).mono ?_
          rintro e w' ⟨rfl, hbw⟩
          go_wp2_with fail
          go_ret
          exact ⟨rfl, HB.out.trans ((below_alloc (Below.refl _ _) _).trans (hbw.mono (by simp)) |>.mono HB.out.size)⟩
        · have hz2 : ¬ (100 : Int) < (zs.length : Int) := by omega
          obtain ⟨W0, rfl⟩ : ∃ W, W = wr := ⟨_, rfl⟩
          obtain ⟨G, rfl⟩ : ∃ G, G = gk := ⟨_, rfl⟩
          by_cases h0 : what = 0
          · subst h0
            have HOBX := Aside0.mk (Ob.new W0 [.int .i64 0, .bool true, .slice A0 zs.length c0] _ rfl 57)
            go_wp2_with ((with_reducible refine gate_builtin (b := .append) (xs := #[.tmp 54, .tmp 56]) rfl ?_); refine ap_row (W0.heap.size + 1) _ _ rfl rfl (OB.litAt (W0.alloc (.cells #[.int .i64 0, .bool true, .slice A0 zs.length c0] 57)) (W0.heap.size + 1) (by simp) [] [] rfl 0 rfl (Nat.le_refl _) (by simp)) (Kd.C_below HC0.out (below_alloc (below_alloc HB.out _) _)) rfl rfl (by simp) (by simp; omega) ?_; intro vm w1 ho hb; have HM1 : Aside0 (OB (W0.heap.size + 1) w1 vm zs) := ⟨ho⟩; have HBX1 := Aside0.mk (HOBX.out.below (((Below.refl (W0.heap.size + 1) (W0.alloc (.cells #[.int .i64 0, .bool true, .slice A0 zs.length c0] 57))).alloc (by simp) _).trans hb) (by simp)); have HW1 : Aside0 (Below W0.heap.size W0 w1) := ⟨(below_alloc (below_alloc (Below.refl _ _) _) _).trans (hb.mono (by omega))⟩; clear ho hb; obtain ⟨Am, cm, rfl, hcm, hCm⟩ := HM1.out.reads; obtain ⟨ql0, _⟩ := (HST.out.l.below HW1.out HST.out.l.lt) 1 _ rfl)
            have hA : 0 < zs.length → ∀ a, Am = some a → a.block ≠ p1 := fun h0 a ha => by
              obtain ⟨g, cap, e, h1, _⟩ := HM1.out.form h0
              injection e with e
              rw [ha] at e
              injection e with e
              subst e
              have := HST.out.a1.lt
              show g ≠ p1
              omega
            have HWr := aWrite' p1 y1 Am cm zs w1 (HST.out.a1.below HW1.out HST.out.a1.lt) hCm HBZ.out hA (by have := HLEN.out; omega) (by omega)
            have HWr := Aside0.mk HWr
            have HGm : Aside0 (0 < zs.length → ∃ g, Am = some ⟨g, 0, none⟩ ∧ W0.heap.size + 1 ≤ g ∧ g < w1.heap.size) := ⟨fun hp => by
              obtain ⟨g, c', e, h1, h2, _⟩ := HM1.out.form hp
              injection e with e
              exact ⟨g, e, h1, h2⟩⟩
            clear hCm hA q0w q1w q2w
            refine HWr.out.mono ?_
            rintro e w2 ⟨rfl, hak, hbt⟩
            have HAK := Aside0.mk hak
            have HBT := Aside0.mk hbt
            have hPlt := HST.out.a1.lt
            have HM2 := Aside0.mk (ob_but HM1.out hbt (fun k hk e => by have : k = p1 := e; omega))
            have HBX2 := Aside0.mk (HBX1.out.but hbt (by have := HW1.out.size; have := HBX1.out.lt; omega) (fun e => by have : W0.heap.size = p1 := e; omega))
            have HBW2 : Aside0 (Below w.heap.size w w2) := ⟨(HB.out.trans (HW1.out.mono HB.out.size)).trans (hbt.below (HB.out.trans (HW1.out.mono HB.out.size)).size (fun j hj e => by have : j = p1 := e; have := HST.out.base; omega))⟩
            have hcm1 := conv w2 Am cm zs HM2.out.readsAt
            have hcz1 := conv w2 A0 c0 zs (Kd.C_below HC0.out HBW2.out)
            obtain ⟨qb2, _⟩ := HBX2.out 2 _ rfl
            clear hak hbt HWr HM1 HBX1 hcm
            go_wp2_with fail
            refine (num _ _).mono ?_
            rintro e w' ⟨rfl, rfl⟩
            go_wp2_with fail
            clear hcm1 hcz1 qb2
            go_loopg [9] zs.length (fun gk s9 w' => ∃ (j : Nat) (ms : List Int), j ≤ zs.length ∧ zs.length - j ≤ gk ∧ s9 = .int .i64 j ∧ Aside0 (ms.length = zs.length) ∧ Aside0 (OB (W0.heap.size + 1) w' (.slice Am zs.length cm) ms) ∧ Aside0 (Below (W0.heap.size + 1) w2 w'))
            case atStart => exact ⟨0, zs, by omega, by omega, rfl, ⟨rfl⟩, HM2, ⟨Below.refl _ _⟩⟩
            case round =>
              clear HM2
              obtain ⟨j, ms, hj, hgj, rfl, HMS, HOM, HB3⟩ := hrel
              by_cases hjlt : j < zs.length
              · obtain ⟨g, rfl, hg1, hg2⟩ := HGm.out (by omega)
                obtain ⟨hcell, hfr⟩ := HOM.out.cell j (by omega)
                obtain ⟨y, hy⟩ : ∃ y, ms.getD j 0 = y := ⟨_, rfl⟩
                rw [hy] at hcell
                clear hy
                go_wp2
                go_roundg (gk - 1)
                case measure => omega
                case rel => exact ⟨j + 1, _, by omega, by omega, by go_num, ⟨by rw [List.length_set]; exact HMS.out⟩, ⟨HOM.out.put j _⟩, ⟨HB3.out.setCell (by exact hg1) _⟩⟩
              · obtain rfl : j = zs.length := by omega
                have hBut3 : But W0.heap.size (at1 p1) W0 wr := ((But.of HW1.out (Nat.le_refl _)).trans (HBT.out.mono HW1.out.size (fun _ _ e => e))).then HB3.out (by omega)
                have hObK := hOb.but hBut3 hOb.lt (fun e => by have : ba = p1 := e; have := HST.out.apart; omega)
                have hSK3 := (Sl.same hS1 (fun k hk => hBut3.block k hk.1 (HQ k hk)))
                obtain ⟨Av, cv, rfl, hcv, hCv, _⟩ := hSK3
                obtain ⟨c3a, f3a⟩ := hObK 1 _ rfl
                have hBX3 := HBX2.out.below HB3.out (by omega)
                obtain ⟨c3b, _⟩ := hBX3 2 _ rfl
                have hC03 := Kd.C_below HC0.out (HBW2.out.trans (HB3.out.mono (by have := HB.out.size; omega)))
                have hAK3 := HAK.out.below HB3.out (by omega)
                have HBut3 := Aside0.mk hBut3
                have HObK := Aside0.mk hObK
                have HCv := Aside0.mk hCv
                have HC03 := Aside0.mk hC03
                have HAK3 := Aside0.mk hAK3
                have HAp := Aside0.mk HST.out.apart
                obtain ⟨Z, hZ⟩ : ∃ Z, y1 ++ zs = Z := ⟨_, rfl⟩
                have hbz : Byt Z := fun x hx => by rw [← hZ] at hx; exact (List.mem_append.1 hx).elim (fun h => HST.out.byt.2 x h) (fun h => HBZ.out x h)
                have hzlen : Z.length ≤ 100 * (k + 1) := by have := HLEN.out; rw [← hZ, List.length_append]; omega
                have HZ := Aside0.mk hZ
                have HZB := Aside0.mk hbz
                have HZL := Aside0.mk hzlen
                clear hZ hbz hzlen
                have hbal := hOb.lt
                have hylen := HLEN.out
                clear hOb hBut3 hObK hCv hC03 hAK3 hBX3 HBX2 HOM HMS HAK HBT hjlt hgj hj HGm
                go_wp2_with fail
                refine region [(0, .p), (2, .p), (3, .p), (6, .p), (4, .t), (7, .t), (1, .o), (5, .o), (8, .o), (9, .p), (10, .e)] (fun V => V.cell? ⟨ba, 1, none⟩ = some (.slice Av y1.length cv) ∧ V.cell? ⟨W0.heap.size, 2, none⟩ = some (.slice A0 zs.length c0)) (by kernel_rfl) (by kernel_rfl) (fun _ _ _ _ _ h => h) (⟨c3a, c3b⟩) (fun hHeld => ?_)
                iterate 4 (refine lex_p rfl rfl rfl (by intro w'; go_simp; with_reducible rfl) (by simp only [Act.put, List.setIfInBounds_toArray, List.set_cons_zero, List.set_cons_succ, i64_w, i32_w]; rfl) ?_)
                iterate 2 (refine lex_t rfl rfl rfl (by rintro w' ⟨s1, s2⟩; go_simp; with_reducible rfl) (by simp only [Act.put, List.setIfInBounds_toArray, List.set_cons_zero, List.set_cons_succ, i64_w, i32_w]; rfl) ?_)
                refine lex_o rfl ?_
                go_wp2_with fail
                refine lex_end (by first | (simp only [Act.put, List.setIfInBounds_toArray, List.set_cons_zero, List.set_cons_succ, i64_w, i32_w]; rfl) | rfl) (⟨pw_cell_below (below_alloc (Below.refl _ _) _) hHeld.1, pw_cell_below (below_alloc (Below.refl _ _) _) hHeld.2⟩) (fun hHeld => ?_)
                refine lex_o rfl ?_
                refine ap_row wr.heap.size _ _ rfl rfl (OB.lit wr.drew [] [] rfl 0 rfl (Nat.le_refl _) (by simp)) (Kd.C_below HCv.out (below_alloc (below_drew (Below.refl _ _)) _)) rfl rfl (by simp) (by simp; omega) ?_
                intro v4 w4 ho hb4
                have HO4 : Aside0 (OB wr.heap.size w4 v4 y1) := ⟨ho⟩
                have HB34 := Aside0.mk ((below_alloc (below_drew (Below.refl wr.heap.size wr)) _).trans hb4)
                clear ho hb4
                refine lex_end (by first | (simp only [Act.put, List.setIfInBounds_toArray, List.set_cons_zero, List.set_cons_succ, i64_w, i32_w]; rfl) | rfl) (⟨pw_cell_below HB34.out c3a, pw_cell_below HB34.out c3b⟩) (fun hHeld => ?_)
                refine lex_o rfl ?_
                refine ap_row wr.heap.size _ _ rfl rfl HO4.out (Kd.C_below HC03.out HB34.out) rfl rfl HB34.out.size (by omega) ?_
                intro v5 w5 ho hb5
                have HO5 : Aside0 (OB wr.heap.size w5 v5 Z) := ⟨by rw [← HZ.out]; exact ho⟩
                have HB35 := Aside0.mk (HB34.out.trans hb5)
                clear ho hb5
                refine lex_end (by first | (simp only [Act.put, List.setIfInBounds_toArray, List.set_cons_zero, List.set_cons_succ, i64_w, i32_w]; rfl) | rfl) (⟨pw_cell_below HB35.out c3a, pw_cell_below HB35.out c3b⟩) (fun hHeld => ?_)
                (refine lex_p rfl rfl rfl (by intro w'; go_simp; with_reducible rfl) (by simp only [Act.put, List.setIfInBounds_toArray, List.set_cons_zero, List.set_cons_succ, i64_w, i32_w]; rfl) ?_)
                refine lex_e rfl ?_
                have hO5b := HObK.out.below HB35.out HObK.out.lt
                obtain ⟨c5a, f5a⟩ := hO5b 1 _ rfl
                obtain ⟨A5, c5, rfl, _, _⟩ := HO5.out.reads
                go_wp2_with fail
                refine putQ_normal ?_
                go_wp2_with fail
                go_roundg (G - 1)
                case measure => omega
                case rel =>
                  have hs3 := HBut3.out.size
                  have hbut : But W0.heap.size (fun k => k = p1 ∨ k = ba) W0 (w5.setCell ⟨ba, 1, none⟩ (.slice A5 Z.length c5)) := ((HBut3.out.mono (Nat.le_refl _) (fun _ _ e => .inl e)).then HB35.out hs3).setCell (p := ⟨ba, 1, none⟩) (.inr (.inr rfl)) _
                  have hap := HAp.out
                  have hak : Ad p1 (w5.setCell ⟨ba, 1, none⟩ (.slice A5 Z.length c5)) (rawS Z) Z.length := by rw [← HZ.out]; exact (HAK3.out.below HB35.out HAK3.out.lt).far (by show p1 ≠ ba; omega) _
                  have hob : Ob ba (w5.setCell ⟨ba, 1, none⟩ (.slice A5 Z.length c5)) [v0, .slice A5 Z.length c5] := by simpa using hO5b.set 1 (by simp) (.slice A5 Z.length c5)
                  have hsl : Sl (Qk p0 p1 bl ba (w5.setCell ⟨ba, 1, none⟩ (.slice A5 Z.length c5))) (w5.setCell ⟨ba, 1, none⟩ (.slice A5 Z.length c5)) (.slice A5 Z.length c5) Z := by
                    have l0 := HST.out.a0.lt
                    have l1 := HST.out.a1.lt
                    have l2 := HST.out.l.lt
                    refine (Sl.same (HO5.out.sl (S := fun k => wr.heap.size ≤ k ∧ k < w5.heap.size) (fun k h3 h4 => ⟨h3, h4⟩)) (fun k hk => Below.heap_setCell _ _ _ _ (by show k ≠ ba; omega))).mono (fun k hk => ⟨by simp [World.setCell]; exact hk.2, by omega, by omega, by omega, by omega⟩)
                  exact ⟨k + 1, p0, p1, y0, Z, by omega, by omega, by go_num, ⟨by have := HZL.out; have := HLENO.out; omega⟩, ⟨by have := HZL.out; have := HLENO.out; omega⟩, ⟨HST.out.upd1 hS0 hbut hak _ hob hsl HZB.out⟩, ⟨HBW2.out.trans ((HB3.out.mono (by have := HB.out.size; omega)).trans ((HB35.out.mono (by have := HB.out.size; omega)).setCell (p := ⟨ba, 1, none⟩) HST.out.base.2.2.2 _))⟩⟩
          · have hw0 : (what == 0) = false := by simpa using h0
            by_cases h1 : what = 1
            · subst h1
              obtain ⟨Av, cv, rfl, hcv, hCv, _⟩ := hS1
              obtain ⟨qa, _⟩ := hOb 1 _ rfl
              obtain ⟨ql, _⟩ := HST.out.l 1 _ rfl
              have hBX := below_drew (below_alloc (Below.refl W0.heap.size W0) (.cells #[.int .i64 1, .bool true, .slice A0 zs.length c0] 57))
              have HCv := Aside0.mk hCv
              clear hCv hOb
              go_wp2_with fail
              obtain ⟨W1, hW1⟩ : ∃ W1, W0.alloc (.cells #[.int .i64 1, .bool true, .slice A0 zs.length c0] 57) = W1 := ⟨_, rfl⟩
              rw [hW1] at hBX ⊢
              have ql1 := pw_cell_below hBX ql
              have qa1 := pw_cell_below hBX qa
              have HST1 := Aside0.mk (HST.out.below hBX)
              have HBX := Aside0.mk hBX
              clear hW1 hBX ql qa q0w q1w q2w
              refine region [(0, .p), (1, .p), (2, .p), (5, .p), (6, .p), (3, .t), (7, .t), (4, .o), (8, .o), (9, .p), (10, .p), (11, .p), (12, .p), (13, .p), (16, .p), (17, .p), (14, .t), (18, .t), (19, .p), (15, .o), (20, .p), (21, .p)] (fun V => V.cell? ⟨bl, 1, none⟩ = some (ptr p1) ∧ V.cell? ⟨ba, 1, none⟩ = some (.slice Av y1.length cv)) (by kernel_rfl) (by kernel_rfl) (fun _ _ _ _ _ h => h) (⟨ql1, qa1⟩) (fun hHeld => ?_)
              iterate 5 (refine lex_p rfl rfl rfl (by intro w'; go_simp; with_reducible rfl) (by simp only [Act.put, List.setIfInBounds_toArray, List.set_cons_zero, List.set_cons_succ, i64_w, i32_w]; rfl) ?_)
              iterate 2 (refine lex_t rfl rfl rfl (by rintro w' ⟨s1, s2⟩; go_simp; with_reducible rfl) (by simp only [Act.put, List.setIfInBounds_toArray, List.set_cons_zero, List.set_cons_succ, i64_w, i32_w]; rfl) ?_)
              refine lex_o rfl ?_
              go_wp2_with fail
              refine (aRaw p1 _ _ _ HST1.out.a1 (rawS_le _)).mono ?_
              rintro e w2 ⟨rfl, hb2⟩
              have HST2 := Aside0.mk (HST1.out.below hb2)
              have HB2 := Aside0.mk hb2
              have HBX2 : Aside0 (Below W0.heap.size W0 w2) := ⟨HBX.out.trans (hb2.mono HBX.out.size)⟩
              clear hb2
              go_wp2_with fail
              refine lex_end (by first | (simp only [Act.put, List.setIfInBounds_toArray, List.set_cons_zero, List.set_cons_succ, i64_w, i32_w]; rfl) | rfl) (⟨pw_cell_below HB2.out ql1, pw_cell_below HB2.out qa1⟩) (fun hHeld => ?_)
              refine lex_o rfl ?_
              go_wp2_with fail
              refine (rRaw Av cv y1 w2 (Kd.C_below HCv.out HBX2.out) HST.out.byt.2 (by have := HLEN.out; omega)).mono ?_
              rintro e w' ⟨rfl, rfl⟩
              go_wp2_with fail
              refine lex_end (by first | (simp only [Act.put, List.setIfInBounds_toArray, List.set_cons_zero, List.set_cons_succ, i64_w, i32_w]; rfl) | rfl) (⟨pw_cell_below HB2.out ql1, pw_cell_below HB2.out qa1⟩) (fun hHeld => ?_)
              iterate 7 (refine lex_p rfl rfl rfl (by intro w'; go_simp; with_reducible rfl) (by simp only [Act.put, List.setIfInBounds_toArray, List.set_cons_zero, List.set_cons_succ, i64_w, i32_w]; rfl) ?_)
              iterate 2 (refine lex_t rfl rfl rfl (by rintro w' ⟨s1, s2⟩; go_simp; with_reducible rfl) (by simp only [Act.put, List.setIfInBounds_toArray, List.set_cons_zero, List.set_cons_succ, i64_w, i32_w]; rfl) ?_)
              (refine lex_p rfl rfl rfl (by intro w'; go_simp; with_reducible rfl) (by simp only [Act.put, List.setIfInBounds_toArray, List.set_cons_zero, List.set_cons_succ, i64_w, i32_w]; rfl) ?_)
              refine lex_o rfl ?_
              go_wp2_with fail
              refine (aLen p1 _ _ w2 HST2.out.a1).mono ?_
              rintro e w' ⟨rfl, rfl⟩
              go_wp2_with fail
              refine lex_end (by first | (simp only [Act.put, List.setIfInBounds_toArray, List.set_cons_zero, List.set_cons_succ, i64_w, i32_w]; rfl) | rfl) (⟨pw_cell_below HB2.out ql1, pw_cell_below HB2.out qa1⟩) (fun hHeld => ?_)
              iterate 2 (refine lex_p rfl rfl rfl (by intro w'; go_simp; with_reducible rfl) (by simp only [Act.put, List.setIfInBounds_toArray, List.set_cons_zero, List.set_cons_succ, i64_w, i32_w]; rfl) ?_)
              refine lex_nil ?_
              go_wp2_with fail
              go_roundg (G - 1)
              case measure => omega
              case rel => exact ⟨k + 1, p0, p1, y0, y1, by omega, by omega, by go_num, ⟨by have := HLEN.out; have := HLENO.out; omega⟩, ⟨by have := HLEN.out; have := HLENO.out; omega⟩, HST2, ⟨HB.out.trans (HBX2.out.mono HB.out.size)⟩⟩
            · have hw1 : (what == 1) = false := by simpa using h1
              obtain ⟨Av, cv, rfl, hcv, hCv, hqv⟩ := id hS0
              obtain ⟨qa, _⟩ := hOb 0 _ rfl
              obtain ⟨ql, _⟩ := HST.out.l 0 _ rfl
              have hBX := below_drew (below_alloc (Below.refl W0.heap.size W0) (.cells #[.int .i64 what, .bool true, .slice A0 zs.length c0] 57))
              have HSO := Aside0.mk hS0
              have HOb := Aside0.mk hOb
              clear hCv hOb hS0 hqv
              go_wp2_with fail
              obtain ⟨W1, hW1⟩ : ∃ W1, W0.alloc (.cells #[.int .i64 what, .bool true, .slice A0 zs.length c0] 57) = W1 := ⟨_, rfl⟩
              rw [hW1] at hBX ⊢
              have ql1 := pw_cell_below hBX ql
              have qa1 := pw_cell_below hBX qa
              have HST1 := Aside0.mk (HST.out.below hBX)
              have HOb1 := Aside0.mk (HOb.out.below hBX HOb.out.lt)
              have HBX := Aside0.mk hBX
              have HAp := Aside0.mk HST.out.apart
              clear hW1 hBX ql qa q0w q1w q2w
              have wr1 : wrap64 1 = 1 := by unfold wrap64; omega
              have wr0 : wrap64 0 = 0 := by unfold wrap64; omega
              refine region [(0, .p), (1, .p), (2, .p), (3, .p), (4, .p), (5, .p), (6, .p), (9, .p), (10, .p), (11, .p), (7, .t), (12, .t), (8, .o), (13, .p), (14, .o), (15, .p), (16, .e)] (fun V => V.cell? ⟨bl, 0, none⟩ = some (ptr p0) ∧ V.cell? ⟨ba, 0, none⟩ = some (.slice Av y0.length cv)) (by kernel_rfl) (by kernel_rfl) (fun _ _ _ _ _ h => h) (⟨ql1, qa1⟩) (fun hHeld => ?_)
              iterate 10 (refine lex_p rfl rfl rfl (by intro w'; go_simp; with_reducible rfl) (by simp only [Act.put, List.setIfInBounds_toArray, List.set_cons_zero, List.set_cons_succ, i64_w, i32_w]; rfl) ?_)
              iterate 2 (refine lex_t rfl rfl rfl (by rintro w' ⟨s1, s2⟩; go_simp; with_reducible rfl) (by simp only [Act.put, List.setIfInBounds_toArray, List.set_cons_zero, List.set_cons_succ, i64_w, i32_w]; rfl) ?_)
              refine lex_o rfl ?_
              go_wp2_with fail
              refine (aCopy p0 _ _ _ HST1.out.a0).mono ?_
              rintro e w2 ⟨rfl, hq2, hb2⟩
              have HQ2 := Aside0.mk hq2
              have HL2 := Aside0.mk (HST1.out.l.below hb2 HST1.out.l.lt)
              have HOb2 := Aside0.mk (HOb1.out.below hb2 HOb1.out.lt)
              have HBX2 : Aside0 (Below W0.heap.size W0 w2) := ⟨HBX.out.trans (hb2.mono HBX.out.size)⟩
              have hWs : W0.heap.size ≤ W1.drew.heap.size := HBX.out.size
              obtain ⟨Q, hQ⟩ : ∃ Q, W1.drew.heap.size = Q := ⟨_, rfl⟩
              have ql2 := pw_cell_below hb2 ql1
              have qa2 := pw_cell_below hb2 qa1
              rw [hQ] at HQ2 hWs
              have HWs := Aside0.mk hWs
              clear hq2 hb2 hWs ql1 qa1
              go_wp2_with fail
              clear hQ
              refine lex_end (by first | (simp only [Act.put, List.setIfInBounds_toArray, List.set_cons_zero, List.set_cons_succ, i64_w, i32_w]; rfl) | rfl) (⟨ql2, qa2⟩) (fun hHeld => ?_)
              (refine lex_p rfl rfl rfl (by intro w'; go_simp; with_reducible rfl) (by simp only [Act.put, List.setIfInBounds_toArray, List.set_cons_zero, List.set_cons_succ, i64_w, i32_w]; rfl) ?_)
              refine lex_o rfl ?_
              obtain ⟨cl, fl⟩ := HL2.out 1 _ rfl
              have HL3 := Aside0.mk (HL2.out.set 1 (by simp) (ptr Q))
              have HOb3 := Aside0.mk (HOb2.out.far (q := ⟨bl, 1, none⟩) (by have := HAp.out; show ba ≠ bl; omega) (ptr Q))
              go_wp2_with fail
              refine lex_end (by first | (simp only [Act.put, List.setIfInBounds_toArray, List.set_cons_zero, List.set_cons_succ, i64_w, i32_w]; rfl) | rfl) (⟨(HL3.out 0 _ rfl).1, (HOb3.out 0 _ rfl).1⟩) (fun hHeld => ?_)
              (refine lex_p rfl rfl rfl (by intro w'; go_simp; with_reducible rfl) (by simp only [Act.put, List.setIfInBounds_toArray, List.set_cons_zero, List.set_cons_succ, i64_w, i32_w]; rfl) ?_)
              refine lex_e rfl ?_
              obtain ⟨ca, fa⟩ := HOb3.out 1 _ rfl
              go_wp2_with fail
              refine putQ_normal ?_
              go_wp2_with fail
              go_roundg (G - 1)
              case measure => omega
              case rel =>
                have hap := HAp.out
                have hbase := HST.out.base
                have hbls := HST.out.l.lt
                have hbas := HOb.out.lt
                have hbut : But W0.heap.size (fun k => k = bl ∨ k = ba) W0 ((w2.setCell ⟨bl, 1, none⟩ (ptr Q)).setCell ⟨ba, 1, none⟩ (.slice Av y0.length cv)) := ((But.of HBX2.out (Nat.le_refl _)).setCell (p := ⟨bl, 1, none⟩) (.inr (.inl rfl)) _).setCell (p := ⟨ba, 1, none⟩) (.inr (.inr rfl)) _
                have hak := (HQ2.out.far (q := ⟨bl, 1, none⟩) (by have := HWs.out; show Q ≠ bl; omega) (ptr Q)).far (q := ⟨ba, 1, none⟩) (by have := HWs.out; show Q ≠ ba; omega) (.slice Av y0.length cv)
                have hl4 := HL3.out.far (q := ⟨ba, 1, none⟩) (by show bl ≠ ba; omega) (.slice Av y0.length cv)
                have hob4 := HOb3.out.set 1 (by simp) (.slice Av y0.length cv)
                exact ⟨k + 1, p0, Q, y0, y0, by omega, by omega, by go_num, ⟨by have := HLEN.out; have := HLENO.out; omega⟩, ⟨by have := HLEN.out; have := HLENO.out; omega⟩, ⟨HST.out.copy1 HOb.out HSO.out Q HWs.out hbut hak hl4 hob4⟩, ⟨(HB.out.trans (HBX2.out.mono HB.out.size)).setCell (p := ⟨bl, 1, none⟩) hbase.2.2.1 _ |>.setCell (p := ⟨ba, 1, none⟩) hbase.2.2.2 _⟩⟩
    · obtain rfl : k = xs.length := by omega
      obtain ⟨v0, v1, hOb, hS0, hS1⟩ := HST.out.all
      obtain ⟨A0, c0, rfl, _, hC0, _⟩ := hS0
      obtain ⟨A1, c1, rfl, _, hC1, _⟩ := hS1
      have HSV : Aside0 (∀ V, Below wr.heap.size wr V → (V.cell? ⟨bl, 0, none⟩ = some (ptr p0) ∧ V.cell? ⟨ba, 0, none⟩ = some (.slice A0 y0.length c0)) ∧ (V.cell? ⟨bl, 1, none⟩ = some (ptr p1) ∧ V.cell? ⟨ba, 1, none⟩ = some (.slice A1 y1.length c1))) := ⟨fun V h => ⟨⟨pw_cell_below h (HST.out.l 0 _ rfl).1, pw_cell_below h (hOb 0 _ rfl).1⟩, ⟨pw_cell_below h (HST.out.l 1 _ rfl).1, pw_cell_below h (hOb 1 _ rfl).1⟩⟩⟩
      have HC0 := Aside0.mk hC0
      have HC1 := Aside0.mk hC1
      have HB0 : Aside0 (Below wr.heap.size wr wr.drew) := ⟨below_drew (Below.refl _ _)⟩
      clear hOb hC0 hC1
      go_wp2_with fail
      refine region [(0, .p), (1, .p), (4, .p), (2, .t), (5, .t), (3, .o), (6, .o), (7, .p), (8, .p), (9, .p), (10, .p), (13, .p), (11, .t), (14, .t), (12, .o), (15, .o), (16, .p), (17, .p), (18, .p), (19, .p), (20, .o), (21, .o), (22, .p), (23, .p), (24, .p), (25, .p), (26, .o), (27, .p), (28, .p), (29, .p), (30, .p), (31, .o), (32, .p), (33, .p), (34, .p), (35, .p), (36, .o), (37, .p), (38, .p), (39, .p), (40, .o), (41, .p), (42, .p)] (fun V => (V.cell? ⟨bl, 0, none⟩ = some (ptr p0) ∧ V.cell? ⟨ba, 0, none⟩ = some (.slice A0 y0.length c0)) ∧ (V.cell? ⟨bl, 1, none⟩ = some (ptr p1) ∧ V.cell? ⟨ba, 1, none⟩ = some (.slice A1 y1.length c1))) (by kernel_rfl) (by kernel_rfl) (fun _ _ _ _ _ h => h) (HSV.out _ HB0.out) (fun hHeld => ?_)
      iterate 3 (refine lex_p rfl rfl rfl (by intro w'; go_simp; with_reducible rfl) (by simp only [Act.put, List.setIfInBounds_toArray, List.set_cons_zero, List.set_cons_succ, i64_w, i32_w]; rfl) ?_)
      iterate 2 (refine lex_t rfl rfl rfl (by rintro w' ⟨⟨s1, s2⟩, ⟨s3, s4⟩⟩; go_simp; with_reducible rfl) (by simp only [Act.put, List.setIfInBounds_toArray, List.set_cons_zero, List.set_cons_succ, i64_w, i32_w]; rfl) ?_)
      refine lex_o rfl ?_
      go_wp2_with fail
      refine (aRaw p0 _ _ _ (HST.out.below HB0.out).a0 (rawS_le _)).mono ?_
      rintro e x1 ⟨rfl, hb⟩
      have HB1 := Aside0.mk (HB0.out.trans (hb.mono HB0.out.size))
      clear hb
      go_wp2_with fail
      refine lex_end (by first | (simp only [Act.put, List.setIfInBounds_toArray, List.set_cons_zero, List.set_cons_succ, i64_w, i32_w]; rfl) | rfl) (HSV.out _ HB1.out) (fun hHeld => ?_)
      refine lex_o rfl ?_
      go_wp2_with fail
      refine (rRaw A0 c0 y0 _ (Kd.C_below HC0.out HB1.out) HST.out.byt.1 (by have := HL0.out; omega)).mono ?_
      rintro e w' ⟨rfl, rfl⟩
      go_wp2_with fail
      refine lex_end (by first | (simp only [Act.put, List.setIfInBounds_toArray, List.set_cons_zero, List.set_cons_succ, i64_w, i32_w]; rfl) | rfl) (HSV.out _ HB1.out) (fun hHeld => ?_)
      iterate 5 (refine lex_p rfl rfl rfl (by intro w'; go_simp; with_reducible rfl) (by simp only [Act.put, List.setIfInBounds_toArray, List.set_cons_zero, List.set_cons_succ, i64_w, i32_w]; rfl) ?_)
      iterate 2 (refine lex_t rfl rfl rfl (by rintro w' ⟨⟨s1, s2⟩, ⟨s3, s4⟩⟩; go_simp; with_reducible rfl) (by simp only [Act.put, List.setIfInBounds_toArray, List.set_cons_zero, List.set_cons_succ, i64_w, i32_w]; rfl) ?_)
      refine lex_o rfl ?_
      go_wp2_with fail
      refine (aRaw p1 _ _ _ (HST.out.below HB1.out).a1 (rawS_le _)).mono ?_
      rintro e x2 ⟨rfl, hb⟩
      have HB2 := Aside0.mk (HB1.out.trans (hb.mono HB1.out.size))
      clear hb
      go_wp2_with fail
      refine lex_end (by first | (simp only [Act.put, List.setIfInBounds_toArray, List.set_cons_zero, List.set_cons_succ, i64_w, i32_w]; rfl) | rfl) (HSV.out _ HB2.out) (fun hHeld => ?_)
      refine lex_o rfl ?_
      go_wp2_with fail
      refine (rRaw A1 c1 y1 _ (Kd.C_below HC1.out HB2.out) HST.out.byt.2 (by have := HL1.out; omega)).mono ?_
      rintro e w' ⟨rfl, rfl⟩
      go_wp2_with fail
      refine lex_end (by first | (simp only [Act.put, List.setIfInBounds_toArray, List.set_cons_zero, List.set_cons_succ, i64_w, i32_w]; rfl) | rfl) (HSV.out _ HB2.out) (fun hHeld => ?_)
      iterate 4 (refine lex_p rfl rfl rfl (by intro w'; go_simp; with_reducible rfl) (by simp only [Act.put, List.setIfInBounds_toArray, List.set_cons_zero, List.set_cons_succ, i64_w, i32_w]; rfl) ?_)
      refine lex_o rfl ?_
      go_wp2_with fail
      refine (write_nil _ _ _ _).mono ?_
      rintro e x3 ⟨rfl, hb⟩
      have HB3 := Aside0.mk (HB2.out.trans (hb.mono HB2.out.size))
      clear hb
      go_wp2_with fail
      refine lex_end (by first | (simp only [Act.put, List.setIfInBounds_toArray, List.set_cons_zero, List.set_cons_succ, i64_w, i32_w]; rfl) | rfl) (HSV.out _ HB3.out) (fun hHeld => ?_)
      refine lex_o rfl ?_
      go_wp2_with fail
      refine (num _ _).mono ?_
      rintro e w' ⟨rfl, rfl⟩
      go_wp2_with fail
      refine lex_end (by first | (simp only [Act.put, List.setIfInBounds_toArray, List.set_cons_zero, List.set_cons_succ, i64_w, i32_w]; rfl) | rfl) (HSV.out _ HB3.out) (fun hHeld => ?_)
      iterate 4 (refine lex_p rfl rfl rfl (by intro w'; go_simp; with_reducible rfl) (by simp only [Act.put, List.setIfInBounds_toArray, List.set_cons_zero, List.set_cons_succ, i64_w, i32_w]; rfl) ?_)
      refine lex_o rfl ?_
      go_wp2_with fail
      refine (aRaw_nil _).mono ?_
      rintro e w' ⟨rfl, rfl⟩
      go_wp2_with fail
      refine lex_end (by first | (simp only [Act.put, List.setIfInBounds_toArray, List.set_cons_zero, List.set_cons_succ, i64_w, i32_w]; rfl) | rfl) (HSV.out _ HB3.out) (fun hHeld => ?_)
      iterate 4 (refine lex_p rfl rfl rfl (by intro w'; go_simp; with_reducible rfl) (by simp only [Act.put, List.setIfInBounds_toArray, List.set_cons_zero, List.set_cons_succ, i64_w, i32_w]; rfl) ?_)
      refine lex_o rfl ?_
      go_wp2_with fail
      refine (aLen_nil _).mono ?_
      rintro e w' ⟨rfl, rfl⟩
      go_wp2_with fail
      refine lex_end (by first | (simp only [Act.put, List.setIfInBounds_toArray, List.set_cons_zero, List.set_cons_succ, i64_w, i32_w]; rfl) | rfl) (HSV.out _ HB3.out) (fun hHeld => ?_)
      iterate 4 (refine lex_p rfl rfl rfl (by intro w'; go_simp; with_reducible rfl) (by simp only [Act.put, List.setIfInBounds_toArray, List.set_cons_zero, List.set_cons_succ, i64_w, i32_w]; rfl) ?_)
      refine lex_o rfl ?_
      go_wp2_with fail
      refine (aCopy_nil _).mono ?_
      rintro e w' ⟨rfl, rfl⟩
      go_wp2_with fail
      refine lex_end (by first | (simp only [Act.put, List.setIfInBounds_toArray, List.set_cons_zero, List.set_cons_succ, i64_w, i32_w]; rfl) | rfl) (HSV.out _ HB3.out) (fun hHeld => ?_)
      iterate 3 (refine lex_p rfl rfl rfl (by intro w'; go_simp; with_reducible rfl) (by simp only [Act.put, List.setIfInBounds_toArray, List.set_cons_zero, List.set_cons_succ, i64_w, i32_w]; rfl) ?_)
      refine lex_o rfl ?_
      go_wp2_with fail
      refine (works _).mono ?_
      rintro e x4 ⟨rfl, hb⟩
      have HB4 := Aside0.mk (HB3.out.trans (hb.mono HB3.out.size))
      clear hb
      go_wp2_with fail
      refine lex_end (by first | (simp only [Act.put, List.setIfInBounds_toArray, List.set_cons_zero, List.set_cons_succ, i64_w, i32_w]; rfl) | rfl) (HSV.out _ HB4.out) (fun hHeld => ?_)
      iterate 2 (refine lex_p rfl rfl rfl (by intro w'; go_simp; with_reducible rfl) (by simp only [Act.put, List.setIfInBounds_toArray, List.set_cons_zero, List.set_cons_succ, i64_w, i32_w]; rfl) ?_)
      refine lex_nil ?_
      go_wp2_with fail
      go_ret
      exact ⟨rfl, HB.out.trans (HB4.out.mono HB.out.size)⟩
set_option maxRecDepth 100000 in
theorem sumPlays (A : Option Addr) (c : Nat) (xs : List (Int × Bool × List Int)) (w : World) (hx : Kd.C AC w A xs.length xs) (hc : xs.length ≤ c) (ho : ∀ x ∈ xs, (Lit.int .i64 x.1).wf = true ∧ True ∧ ∀ n ∈ x.2.2, (Lit.int .u8 n).wf = true) :
    Calls Try.prog 9 #[.slice A xs.length c] w fun e w' => e = .returned (.bool true) ∧ Below w.heap.size w w' := by
  by_cases hl : 30 < xs.length
  · have hl2 : (30 : Int) < (xs.length : Int) := by omega
    have hm := hx.2.1
    clear hx ho
    go_enter Try.func9, Try.ntmps9
    go_wp2_with fail
    refine (works _).mono ?_
    rintro e w1 ⟨rfl, hb⟩
    go_wp2_with fail
    go_ret
    exact ⟨rfl, hb⟩
  · exact sumPlays_main A c xs w hx ho (by omega)
end Go.Proofs.Ytjoapafgpbmhkaa.Sum
