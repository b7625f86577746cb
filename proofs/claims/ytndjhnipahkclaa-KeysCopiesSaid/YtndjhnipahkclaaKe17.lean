/- Keys: the reference's Add, of a key that may be. -/
import Derived.Test.YtndjhnipahkclaaKe16
set_option linter.unusedSimpArgs false
set_option linter.unusedVariables false
namespace Go.Proofs.Ytndjhnipahkclaa.Ke
open Go.RowKit Go.Proofs.YtndjhnipahkclaaW.PrintWords Go.Proofs.YtndjhnipahkclaaW.PrintLast Go.Proofs.YtndjhnipahkclaaW.PrintMore Go.Proofs.Ytndjhnipahkclaa.PKeysPlay Go.Proofs.Ytndjhnipahkclaa.Lex Go.Proofs.Ytndjhnipahkclaa.Lib
/-- a literal of one key -/
theorem lit1 (w : World) (x : S36) : Kd.C k36 (w.alloc (.cells #[.int .u32 x.f0, .int .u8 x.f1, .int .u8 x.f2, .int .i64 x.f3, .string x.f4] 36)) (some ⟨w.heap.size, 0, none⟩) 1 [x] := by
  have h : OK w.heap.size (w.alloc (.cells (c36 x).toArray 36)) (.slice (some ⟨w.heap.size, 0, none⟩) [x].length [x].length) [x] :=
    ⟨fun k hk => trivial, OwnRow.lit (ps := [x]) (inner := c36 x) w w.heap.size ⟨rfl, fun j p hj => by
      cases j with
      | zero =>
        have : p = x := by simpa using hj.symm
        subst this
        exact k36_mkM _ _ _ _
      | succ j => simp at hj⟩ (Nat.le_refl _) (by simp)⟩
  obtain ⟨A, c, e, _, hC⟩ := h.reads
  injection e with e1 e2 e3
  rw [e1]
  exact hC
theorem not16 {l : List S36} {x : S36} (h : ¬ 16 ≤ l.length) (hb : badP x = false) (ht : l.any (twiceP x) = false) : addS l x = (l ++ [x], 0) := by
  unfold addS
  rw [if_neg (by rw [hb]; decide), if_neg (by rw [ht]; decide), if_neg h]
section
variable {T : Nat → Prop} {w : World} {g : Value} {l : List S36} {W : List S72}
set_option maxHeartbeats 8000000 in
theorem addGoodA (h : GR T w g l W) (hl : l.length < 1000000) (x : S36) (hb : badP x = false) (e1 : (x.f3 != 1) = false) (e3 : decide ((x.f4.size : Int) < 1) = false) (e4 : decide (80 < (x.f4.size : Int)) = false) : Calls Try.prog 22 #[g, a36 x] w fun e w' => ∃ v r, e = .returned (.tuple #[v, .int .i64 r]) ∧ (GR (Gr T w w') w' v (addS l x).1 W ∧ r = (addS l x).2) ∧ Below w.heap.size w w' := by
  have HGR := Aside0.mk h
  obtain ⟨A, c, B, d, rfl, h1, h2, h3, h4, h5, h6⟩ := h
  have HTA := Aside0.mk h5
  have HTB := Aside0.mk h6
  obtain ⟨V, hV, o2, o3, o4, hbV, hsz⟩ := addV w A B l W c d x
  have HV := Aside0.mk hV
  have HO2 := Aside0.mk o2
  have HO3 := Aside0.mk o3
  have HO4 := Aside0.mk o4
  have HBV := Aside0.mk hbV
  have HSZ := Aside0.mk hsz
  have HGV := Aside0.mk (HGR.out.below hbV)
  have HC2 := Aside0.mk h2
  have HC4 := Aside0.mk h4
  have HLC := Aside0.mk h1
  have HLD := Aside0.mk h3
  have HSI := Aside0.mk (idx_any (sendP x.f0 x.f1) l)
  have HRI := Aside0.mk (idx_any (recvP x.f0 x.f2) l)
  have HSR := fun (U : World) (hU : GR T U (.agg #[.slice A l.length c, .slice B W.length d]) l W) => sendR hU hl x.f0 x.f1
  have HRR := fun (U : World) (hU : GR T U (.agg #[.slice A l.length c, .slice B W.length d]) l W) => recvR hU hl x.f0 x.f2
  have HTW := Aside0.mk (any_twice x l)
  obtain ⟨qs, hqs⟩ : ∃ q, idx (sendP x.f0 x.f1) l = q := ⟨_, rfl⟩
  obtain ⟨qr, hqr⟩ : ∃ q, idx (recvP x.f0 x.f2) l = q := ⟨_, rfl⟩
  rw [hqs] at HSI HSR
  rw [hqr] at HRI HRR
  have HSR := Aside0.mk HSR
  have HRR := Aside0.mk HRR
  clear h1 h2 h3 h4 h5 h6 hV o2 o3 o4 hbV hsz hqs hqr
  go_enter Try.func22, Try.ntmps22
  go_wp2_with (refine pl_load rfl 30 (.tmp 2) rfl _ _ (load30 (by rw [HV.out]; exact HO2.out)) rfl ?_)
  rw [HV.out]
  refine (HSR.out V HGV.out).mono ?_
  rintro e w2 ⟨rfl, hb2⟩
  have HP2 := Aside0.mk (HO2.out.below hb2 HO2.out.lt)
  have HP3 := Aside0.mk (HO3.out.below hb2 HO3.out.lt)
  have HP4 := Aside0.mk (HO4.out.below hb2 HO4.out.lt)
  have HB2 := Aside0.mk (HBV.out.trans (hb2.mono HBV.out.size))
  have HG2 := Aside0.mk (HGV.out.below hb2)
  have z2 : w.heap.size + 1 + 1 + 1 ≤ w2.heap.size := by have := HSZ.out; have := hb2.size; omega
  have m0 := (HP3.out 0 _ rfl).1
  have m2 := (HP3.out 2 _ rfl).1
  have p0 := (HP2.out 0 _ rfl).1
  have p1 := (HP2.out 1 _ rfl).1
  clear hb2
  cases hs : l.any (sendP x.f0 x.f1) with
  | true =>
    have hsd : decide ((0 : Int) ≤ qs) = true := HSI.out.trans hs
    have hs0 : (0 : Int) ≤ qs := of_decide_eq_true hsd
    have HT : Aside0 (l.any (twiceP x) = true) := ⟨by rw [HTW.out, hs]; rfl⟩
    obtain ⟨W3, f1, f2, f3, f4⟩ := fin30 HP2.out HP4.out rfl rfl
    have F1 := Aside0.mk f1
    have F2 := Aside0.mk f2
    have F3 := Aside0.mk f3
    have HB3 := Aside0.mk (HB2.out.trans (f4.below HB2.out.size (fun k hk e => by have : k = w.heap.size + 1 + 1 := e; omega)))
    clear f1 f2 f3 f4 hs
    go_wp2_with (first | (refine pl_load rfl 30 _ rfl _ _ F1.out rfl ?_) | (refine pl_store rfl 30 _ _ rfl _ _ F2.out rfl rfl ?_))
    refine bodyPost_ret (results_row_tmp rfl _ _ (w.heap.size + 1 + 1) _ rfl F3.out) rfl ?_
    refine ⟨_, _, rfl, ?_, HB3.out⟩
    unfold addS
    rw [if_neg (by rw [hb]; decide), if_pos HT.out]
    exact ⟨HGR.out.old HB3.out, rfl⟩
  | false =>
    have hsd : decide ((0 : Int) ≤ qs) = false := HSI.out.trans hs
    have hs0 : ¬ (0 : Int) ≤ qs := of_decide_eq_false hsd
    have HSF := Aside0.mk hs
    clear hs
    go_wp2_with fail
    refine (HRR.out w2 HG2.out).mono ?_
    rintro e w3 ⟨rfl, hb3⟩
    have HQ2 := Aside0.mk (HP2.out.below hb3 HP2.out.lt)
    have HQ3 := Aside0.mk (HP3.out.below hb3 HP3.out.lt)
    have HQ4 := Aside0.mk (HP4.out.below hb3 HP4.out.lt)
    have HB3 := Aside0.mk (HB2.out.trans (hb3.mono HB2.out.size))
    have HG3 := Aside0.mk (HG2.out.below hb3)
    have z3 : w.heap.size + 1 + 1 + 1 ≤ w3.heap.size := by have := hb3.size; omega
    have hq0 := (HQ2.out 0 _ rfl).1
    clear hb3 m0 m2 p0 p1
    cases hr : l.any (recvP x.f0 x.f2) with
    | true =>
      have hrd : decide ((0 : Int) ≤ qr) = true := HRI.out.trans hr
      have hr0 : (0 : Int) ≤ qr := of_decide_eq_true hrd
      have HT : Aside0 (l.any (twiceP x) = true) := ⟨by rw [HTW.out, HSF.out, hr]; rfl⟩
      obtain ⟨W4, f1, f2, f3, f4⟩ := fin30 HQ2.out HQ4.out rfl rfl
      have F1 := Aside0.mk f1
      have F2 := Aside0.mk f2
      have F3 := Aside0.mk f3
      have HB4 := Aside0.mk (HB3.out.trans (f4.below HB3.out.size (fun k hk e => by have : k = w.heap.size + 1 + 1 := e; omega)))
      clear f1 f2 f3 f4 hr
      go_wp2_with (first | (refine pl_load rfl 30 _ rfl _ _ F1.out rfl ?_) | (refine pl_store rfl 30 _ _ rfl _ _ F2.out rfl rfl ?_))
      refine bodyPost_ret (results_row_tmp rfl _ _ (w.heap.size + 1 + 1) _ rfl F3.out) rfl ?_
      refine ⟨_, _, rfl, ?_, HB4.out⟩
      unfold addS
      rw [if_neg (by rw [hb]; decide), if_pos HT.out]
      exact ⟨HGR.out.old HB4.out, rfl⟩
    | false =>
      have hrd : decide ((0 : Int) ≤ qr) = false := HRI.out.trans hr
      have hr0 : ¬ (0 : Int) ≤ qr := of_decide_eq_false hrd
      have HT : Aside0 (l.any (twiceP x) = false) := ⟨by rw [HTW.out, HSF.out, hr]; rfl⟩
      clear hr
      by_cases h16 : 16 ≤ l.length
      · have h16d : decide ((16 : Int) ≤ (l.length : Int)) = true := decide_eq_true (by omega)
        have h16i : (16 : Int) ≤ (l.length : Int) := by omega
        obtain ⟨W4, f1, f2, f3, f4⟩ := fin30 HQ2.out HQ4.out rfl rfl
        have F1 := Aside0.mk f1
        have F2 := Aside0.mk f2
        have F3 := Aside0.mk f3
        have HB4 := Aside0.mk (HB3.out.trans (f4.below HB3.out.size (fun k hk e => by have : k = w.heap.size + 1 + 1 := e; omega)))
        clear f1 f2 f3 f4
        go_wp2_with (first | (refine pl_load rfl 30 _ rfl _ _ F1.out rfl ?_) | (refine pl_store rfl 30 _ _ rfl _ _ F2.out rfl rfl ?_))
        refine bodyPost_ret (results_row_tmp rfl _ _ (w.heap.size + 1 + 1) _ rfl F3.out) rfl ?_
        refine ⟨_, _, rfl, ?_, HB4.out⟩
        unfold addS
        rw [if_neg (by rw [hb]; decide), if_neg (by rw [HT.out]; decide), if_pos h16]
        exact ⟨HGR.out.old HB4.out, rfl⟩
      · have h16d : decide ((16 : Int) ≤ (l.length : Int)) = false := decide_eq_false (by omega)
        have h16i : ¬ (16 : Int) ≤ (l.length : Int) := by omega
        have HC3 := Aside0.mk (Kd.C_below HC2.out HB3.out)
        have HD3 := Aside0.mk (Kd.C_below HC4.out HB3.out)
        have HOq : Aside0 (∀ U, Below w3.heap.size w3 U → Ob w.heap.size U [.slice A l.length c, .slice B W.length d] ∧ Ob (w.heap.size + 1) U (c36 x)) := ⟨fun U hU => ⟨HQ2.out.below hU HQ2.out.lt, HQ3.out.below hU HQ3.out.lt⟩⟩
        have HF : Aside0 (∀ U, Below w3.heap.size w3 U → U.cell? ⟨w.heap.size, 0, none⟩ = some (.slice A l.length c) ∧ U.cell? ⟨w.heap.size + 1, 0, none⟩ = some (.int .u32 x.f0) ∧ U.cell? ⟨w.heap.size + 1, 1, none⟩ = some (.int .u8 x.f1) ∧ U.cell? ⟨w.heap.size + 1, 2, none⟩ = some (.int .u8 x.f2) ∧ U.cell? ⟨w.heap.size + 1, 3, none⟩ = some (.int .i64 x.f3) ∧ U.cell? ⟨w.heap.size + 1, 4, none⟩ = some (.string x.f4)) := ⟨fun U hU => ⟨((HOq.out U hU).1 0 _ rfl).1, ((HOq.out U hU).2 0 _ rfl).1, ((HOq.out U hU).2 1 _ rfl).1, ((HOq.out U hU).2 2 _ rfl).1, ((HOq.out U hU).2 3 _ rfl).1, ((HOq.out U hU).2 4 _ rfl).1⟩⟩
        go_wp2_with fail
        refine regionT (.one 0 .p (.one 1 .t (.one 3 .t (.two 2 (.one 4 .o (.one 5 .o (.one 6 .p (.last 7)))) 4 (.one 2 .o (.one 5 .o (.one 6 .p (.last 7)))))))) (fun U => U.cell? ⟨w.heap.size, 0, none⟩ = some (.slice A l.length c) ∧ U.cell? ⟨w.heap.size + 1, 0, none⟩ = some (.int .u32 x.f0) ∧ U.cell? ⟨w.heap.size + 1, 1, none⟩ = some (.int .u8 x.f1) ∧ U.cell? ⟨w.heap.size + 1, 2, none⟩ = some (.int .u8 x.f2) ∧ U.cell? ⟨w.heap.size + 1, 3, none⟩ = some (.int .i64 x.f3) ∧ U.cell? ⟨w.heap.size + 1, 4, none⟩ = some (.string x.f4)) (by kernel_rfl) (by kernel_rfl) (fun _ _ _ _ _ h => h) (HF.out _ (below_drew (Below.refl _ _))) (fun hHeld => ?_)
        (refine lt_p rfl rfl rfl (by intro w'; go_simp; with_reducible rfl) (by simp only [Act.put, List.setIfInBounds_toArray, List.set_cons_zero, List.set_cons_succ, i64_w, i32_w]; rfl) ?_)
        iterate 2 (refine lt_t rfl rfl rfl (by rintro w' ⟨s0, s1, s2, s3, s4, s5⟩; go_simp; with_reducible rfl) (by simp only [Act.put, List.setIfInBounds_toArray, List.set_cons_zero, List.set_cons_succ, i64_w, i32_w]; rfl) ?_)
        refine lt_two rfl rfl ?_ ?_
        · refine ap_keys w3.heap.size _ _ rfl rfl (OK.nil _ _) (Kd.C_below HC3.out (below_drew (Below.refl _ _))) rfl rfl (Nat.le_refl _) (by show 0 + l.length ≤ 1000000; omega) ?_
          intro v1 w4 ho1 hbw _
          have HO1 := Aside0.mk ho1
          have B1 := Aside0.mk ((below_drew (Below.refl w3.heap.size w3)).trans hbw)
          clear ho1 hbw
          refine lt_end (by first | (simp only [Act.put, List.setIfInBounds_toArray, List.set_cons_zero, List.set_cons_succ, i64_w, i32_w]; rfl) | rfl) (HF.out _ B1.out) (fun hHeld => ?_)
          refine lt_o rfl ?_
          go_wp2_with fail
          have B2 := Aside0.mk (below_alloc B1.out (.cells #[.int .u32 x.f0, .int .u8 x.f1, .int .u8 x.f2, .int .i64 x.f3, .string x.f4] 36))
          have HX2 := Aside0.mk (lit1 w4 x)
          have HO2b := Aside0.mk (Kd.R_below HO1.out (below_alloc (Below.refl w4.heap.size w4) (.cells #[.int .u32 x.f0, .int .u8 x.f1, .int .u8 x.f2, .int .i64 x.f3, .string x.f4] 36)))
          refine lt_end (by first | (simp only [Act.put, List.setIfInBounds_toArray, List.set_cons_zero, List.set_cons_succ, i64_w, i32_w]; rfl) | rfl) (HF.out _ B2.out) (fun hHeld => ?_)
          refine lt_o rfl ?_
          refine ap_keys w3.heap.size _ _ rfl rfl HO2b.out HX2.out rfl rfl B2.out.size (by show ([] ++ l).length + 1 ≤ 1000000; simp; omega) ?_
          intro v2 w5 ho2 hbw _
          have HO5 := Aside0.mk ho2
          have B3 := Aside0.mk (B2.out.trans (hbw.mono (Nat.le_refl _)))
          clear ho2 hbw
          obtain ⟨A5, c5, rfl, _, _⟩ := HO5.out.reads
          refine lt_end (by first | (simp only [Act.put, List.setIfInBounds_toArray, List.set_cons_zero, List.set_cons_succ, i64_w, i32_w]; rfl) | rfl) (HF.out _ B3.out) (fun hHeld => ?_)
          (refine lt_p rfl rfl rfl (by intro w'; go_simp; with_reducible rfl) (by simp only [Act.put, List.setIfInBounds_toArray, List.set_cons_zero, List.set_cons_succ, i64_w, i32_w]; rfl) ?_)
          refine lt_e rfl ?_
          obtain ⟨hc7, hf7⟩ := (HOq.out w5 B3.out).1 0 _ rfl
          have HOB6 : Aside0 (Ob w.heap.size (w5.setCell ⟨w.heap.size, 0, none⟩ (.slice A5 ([] ++ l ++ [x]).length c5)) [.slice A5 ([] ++ l ++ [x]).length c5, .slice B W.length d]) := ⟨(HOq.out w5 B3.out).1.set 0 (by simp) _⟩
          go_wp2_with fail
          refine putQ_normal ?_
          have hq4 := (HQ4.out.below B3.out HQ4.out.lt).far (q := ⟨w.heap.size, 0, none⟩) (by show w.heap.size + 1 + 1 ≠ w.heap.size; omega) (.slice A5 ([] ++ l ++ [x]).length c5)
          obtain ⟨W6, f1, f2, f3, f4⟩ := fin30 HOB6.out hq4 rfl rfl
          have B5 := HB3.out.trans (B3.out.mono HB3.out.size)
          have hs5 : (w5.setCell ⟨w.heap.size, 0, none⟩ (.slice A5 ([] ++ l ++ [x]).length c5)).heap.size = w5.heap.size := by simp [World.setCell]
          have b56 : Below w.heap.size w5 (w5.setCell ⟨w.heap.size, 0, none⟩ (.slice A5 ([] ++ l ++ [x]).length c5)) := (But.setCell (But.refl w.heap.size (fun k => False) w5) (p := ⟨w.heap.size, 0, none⟩) (.inl (Nat.le_refl _)) _).below (Nat.le_refl _) (fun k hk h => h)
          have B6 := B5.trans b56
          have HB7 := Aside0.mk (B6.trans (f4.below B6.size (fun k hk e => by have : k = w.heap.size + 1 + 1 := e; omega)))
          have HK6 : Aside0 (OK w3.heap.size W6 (.slice A5 ([] ++ l ++ [x]).length c5) ([] ++ l ++ [x])) := ⟨by
            refine Kd.R_mono (Kd.R_step (Kd.R_bound HO5.out) (fun k hk hlt => ?_)) (fun k hk => hk.1)
            have hk3 : w3.heap.size ≤ k := hk.2.1
            refine (f4.block k (by rw [hs5]; exact hlt) (by show ¬ k = w.heap.size + 1 + 1; omega)).trans (Below.heap_setCell _ _ _ _ (by show k ≠ w.heap.size; omega))⟩
          have hln : (([] ++ l ++ [x]).length) = l.length + 1 := by simp
          rw [hln] at f1 f2 f3
          have F1 := Aside0.mk f1
          have F2 := Aside0.mk f2
          have F3 := Aside0.mk f3
          have HN5 := Aside0.mk (not16 h16 hb HT.out)
          clear f1 f2 f3 f4 hq4 B5 b56 B6 hs5 hln
          go_wp2_with (first | (refine pl_load rfl 30 _ rfl _ _ F1.out rfl ?_) | (refine pl_store rfl 30 _ _ rfl _ _ F2.out rfl rfl ?_))
          refine bodyPost_ret (results_row_tmp rfl _ _ (w.heap.size + 1 + 1) _ rfl F3.out) rfl ?_
          refine ⟨_, _, rfl, ?_, HB7.out⟩
          obtain ⟨A', c', e', hlc', hC'⟩ := HK6.out.reads
          injection e' with e1' e2' e3'
          rw [HN5.out]
          have hcx : Kd.C k36 W6 A5 (l ++ [x]).length (l ++ [x]) := by rw [e1']; exact hC'
          exact ⟨⟨A5, c5, B, d, by simp, by rw [e3']; exact hlc', hcx, HLD.out, Kd.C_below HC4.out HB7.out, fun a ha => .inr ⟨by have := (HK6.out.blk a ha).1; omega, (HK6.out.blk a ha).2⟩, fun a ha => .inl (HTB.out a ha)⟩, rfl⟩
        · go_wp2_with fail
          have B1 := Aside0.mk (below_alloc (below_drew (Below.refl w3.heap.size w3)) (.cells #[.int .u32 x.f0, .int .u8 x.f1, .int .u8 x.f2, .int .i64 x.f3, .string x.f4] 36))
          have HX1 : Aside0 (Kd.C k36 (w3.alloc (.cells #[.int .u32 x.f0, .int .u8 x.f1, .int .u8 x.f2, .int .i64 x.f3, .string x.f4] 36)).drew (some ⟨w3.heap.size, 0, none⟩) 1 [x]) := ⟨lit1 w3.drew x⟩
          refine lt_end (by first | (simp only [Act.put, List.setIfInBounds_toArray, List.set_cons_zero, List.set_cons_succ, i64_w, i32_w]; rfl) | rfl) (HF.out _ B1.out) (fun hHeld => ?_)
          refine lt_o rfl ?_
          refine ap_keys w3.heap.size _ _ rfl rfl (OK.nil _ _) (Kd.C_below HC3.out B1.out) rfl rfl B1.out.size (by show 0 + l.length ≤ 1000000; omega) ?_
          intro v1 w4 ho1 hbw hgw
          have HO1 := Aside0.mk ho1
          have B2 := Aside0.mk (B1.out.trans hbw)
          have HX2 := Aside0.mk (Kd.C_below HX1.out ⟨hgw.os, hgw.tape, hgw.output, hgw.size, fun k hk => hgw.block k hk (by simp [Value.ownBlock])⟩)
          clear ho1 hbw hgw
          refine lt_end (by first | (simp only [Act.put, List.setIfInBounds_toArray, List.set_cons_zero, List.set_cons_succ, i64_w, i32_w]; rfl) | rfl) (HF.out _ B2.out) (fun hHeld => ?_)
          refine lt_o rfl ?_
          refine ap_keys w3.heap.size _ _ rfl rfl HO1.out HX2.out rfl rfl B2.out.size (by show ([] ++ l).length + 1 ≤ 1000000; simp; omega) ?_
          intro v2 w5 ho2 hbw _
          have HO5 := Aside0.mk ho2
          have B3 := Aside0.mk (B2.out.trans (hbw.mono (Nat.le_refl _)))
          clear ho2 hbw
          obtain ⟨A5, c5, rfl, _, _⟩ := HO5.out.reads
          refine lt_end (by first | (simp only [Act.put, List.setIfInBounds_toArray, List.set_cons_zero, List.set_cons_succ, i64_w, i32_w]; rfl) | rfl) (HF.out _ B3.out) (fun hHeld => ?_)
          (refine lt_p rfl rfl rfl (by intro w'; go_simp; with_reducible rfl) (by simp only [Act.put, List.setIfInBounds_toArray, List.set_cons_zero, List.set_cons_succ, i64_w, i32_w]; rfl) ?_)
          refine lt_e rfl ?_
          obtain ⟨hc7, hf7⟩ := (HOq.out w5 B3.out).1 0 _ rfl
          have HOB6 : Aside0 (Ob w.heap.size (w5.setCell ⟨w.heap.size, 0, none⟩ (.slice A5 ([] ++ l ++ [x]).length c5)) [.slice A5 ([] ++ l ++ [x]).length c5, .slice B W.length d]) := ⟨(HOq.out w5 B3.out).1.set 0 (by simp) _⟩
          go_wp2_with fail
          refine putQ_normal ?_
          have hq4 := (HQ4.out.below B3.out HQ4.out.lt).far (q := ⟨w.heap.size, 0, none⟩) (by show w.heap.size + 1 + 1 ≠ w.heap.size; omega) (.slice A5 ([] ++ l ++ [x]).length c5)
          obtain ⟨W6, f1, f2, f3, f4⟩ := fin30 HOB6.out hq4 rfl rfl
          have B5 := HB3.out.trans (B3.out.mono HB3.out.size)
          have hs5 : (w5.setCell ⟨w.heap.size, 0, none⟩ (.slice A5 ([] ++ l ++ [x]).length c5)).heap.size = w5.heap.size := by simp [World.setCell]
          have b56 : Below w.heap.size w5 (w5.setCell ⟨w.heap.size, 0, none⟩ (.slice A5 ([] ++ l ++ [x]).length c5)) := (But.setCell (But.refl w.heap.size (fun k => False) w5) (p := ⟨w.heap.size, 0, none⟩) (.inl (Nat.le_refl _)) _).below (Nat.le_refl _) (fun k hk h => h)
          have B6 := B5.trans b56
          have HB7 := Aside0.mk (B6.trans (f4.below B6.size (fun k hk e => by have : k = w.heap.size + 1 + 1 := e; omega)))
          have HK6 : Aside0 (OK w3.heap.size W6 (.slice A5 ([] ++ l ++ [x]).length c5) ([] ++ l ++ [x])) := ⟨by
            refine Kd.R_mono (Kd.R_step (Kd.R_bound HO5.out) (fun k hk hlt => ?_)) (fun k hk => hk.1)
            have hk3 : w3.heap.size ≤ k := hk.2.1
            refine (f4.block k (by rw [hs5]; exact hlt) (by show ¬ k = w.heap.size + 1 + 1; omega)).trans (Below.heap_setCell _ _ _ _ (by show k ≠ w.heap.size; omega))⟩
          have hln : (([] ++ l ++ [x]).length) = l.length + 1 := by simp
          rw [hln] at f1 f2 f3
          have F1 := Aside0.mk f1
          have F2 := Aside0.mk f2
          have F3 := Aside0.mk f3
          have HN5 := Aside0.mk (not16 h16 hb HT.out)
          clear f1 f2 f3 f4 hq4 B5 b56 B6 hs5 hln
          go_wp2_with (first | (refine pl_load rfl 30 _ rfl _ _ F1.out rfl ?_) | (refine pl_store rfl 30 _ _ rfl _ _ F2.out rfl rfl ?_))
          refine bodyPost_ret (results_row_tmp rfl _ _ (w.heap.size + 1 + 1) _ rfl F3.out) rfl ?_
          refine ⟨_, _, rfl, ?_, HB7.out⟩
          obtain ⟨A', c', e', hlc', hC'⟩ := HK6.out.reads
          injection e' with e1' e2' e3'
          rw [HN5.out]
          have hcx : Kd.C k36 W6 A5 (l ++ [x]).length (l ++ [x]) := by rw [e1']; exact hC'
          exact ⟨⟨A5, c5, B, d, by simp, by rw [e3']; exact hlc', hcx, HLD.out, Kd.C_below HC4.out HB7.out, fun a ha => .inr ⟨by have := (HK6.out.blk a ha).1; omega, (HK6.out.blk a ha).2⟩, fun a ha => .inl (HTB.out a ha)⟩, rfl⟩
end
end Go.Proofs.Ytndjhnipahkclaa.Ke
