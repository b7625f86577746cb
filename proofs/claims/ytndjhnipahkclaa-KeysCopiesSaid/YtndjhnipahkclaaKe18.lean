/- Keys: the reference's Remove, Prefer. -/
import Derived.Test.YtndjhnipahkclaaKe17
set_option linter.unusedSimpArgs false
set_option linter.unusedVariables false
namespace Go.Proofs.Ytndjhnipahkclaa.Ke
open Go.RowKit Go.Proofs.YtndjhnipahkclaaW.PrintWords Go.Proofs.YtndjhnipahkclaaW.PrintLast Go.Proofs.YtndjhnipahkclaaW.PrintMore Go.Proofs.Ytndjhnipahkclaa.PKeysPlay Go.Proofs.Ytndjhnipahkclaa.Lex Go.Proofs.Ytndjhnipahkclaa.Lib
theorem twoV (w : World) (A B : Option Addr) (l : List S36) (W : List S72) (c d : Nat) : ∃ V, ((w.alloc (.cells #[.slice A l.length c, .slice B W.length d] 30)).alloc (.cells #[.slice none 0 0, .slice none 0 0] 30)) = V ∧ Ob w.heap.size V [.slice A l.length c, .slice B W.length d] ∧ Ob (w.heap.size + 1) V [.slice none 0 0, .slice none 0 0] ∧ Below w.heap.size w V ∧ V.heap.size = w.heap.size + 1 + 1 := by
  have s1 : (w.alloc (.cells #[.slice A l.length c, .slice B W.length d] 30)).heap.size = w.heap.size + 1 := by simp
  refine ⟨_, rfl, ?_, ?_, below_alloc (below_alloc (Below.refl _ _) _) _, by simp⟩
  · have o1 : Ob w.heap.size (w.alloc (.cells #[.slice A l.length c, .slice B W.length d] 30)) [.slice A l.length c, .slice B W.length d] := Ob.new w _ _ rfl _
    exact o1.below (below_alloc (Below.refl _ _) _) (by rw [s1]; omega)
  · have o3 := Ob.new (w.alloc (.cells #[.slice A l.length c, .slice B W.length d] 30)) [.slice none 0 0, .slice none 0 0] _ rfl 30
    rw [s1] at o3
    exact o3
/-- what Remove answers, and leaves -/
def remS (l : List S36) (f : Int → Option Int) (peer send : Int) : List S36 × Int :=
  if idx (sendP peer send) l < 0 then (l, 5) else if idx (prefP f peer) l = idx (sendP peer send) l then (l, 201) else (l.take (idx (sendP peer send) l).toNat ++ l.drop ((idx (sendP peer send) l).toNat + 1), 0)
/-- what Prefer answers, and leaves -/
def prfS (l : List S36) (W : List S72) (peer send : Int) : List S72 × Int :=
  if idx (sendP peer send) l < 0 then (W, 5) else (W ++ [⟨peer, send⟩], 0)
theorem idx_lt (P : S36 → Bool) (l : List S36) : idx P l < l.length := by
  unfold idx idxFrom
  rw [List.drop_zero]
  cases h : l.findIdx? P with
  | none => show (-1 : Int) < _; omega
  | some j =>
    obtain ⟨hj, _, _⟩ := List.findIdx?_eq_some_iff_getElem.1 h
    show ((0 + j : Nat) : Int) < _
    omega
section
variable {T : Nat → Prop} {w : World} {g : Value} {l : List S36} {W : List S72}
set_option maxHeartbeats 8000000 in
theorem removeR (h : GR T w g l W) (hl : l.length < 100000) (hW : W.length < 1000000) (peer send : Int) : Calls Try.prog 23 #[g, .int .u32 peer, .int .u8 send] w fun e w' => ∃ v r, e = .returned (.tuple #[v, .int .i64 r]) ∧ (GR (Gr T w w') w' v (remS l (fW W) peer send).1 W ∧ r = (remS l (fW W) peer send).2) ∧ Below w.heap.size w w' := by
  have HGR := Aside0.mk h
  obtain ⟨A, c, B, d, rfl, h1, h2, h3, h4, h5, h6⟩ := h
  have HTA := Aside0.mk h5
  have HTB := Aside0.mk h6
  obtain ⟨V, hV, o2, o4, hbV, hsz⟩ := twoV w A B l W c d
  have HV := Aside0.mk hV
  have HO2 := Aside0.mk o2
  have HO4 := Aside0.mk o4
  have HBV := Aside0.mk hbV
  have HSZ := Aside0.mk hsz
  have HGV := Aside0.mk (HGR.out.below hbV)
  have HC2 := Aside0.mk h2
  have HC4 := Aside0.mk h4
  have HLC := Aside0.mk h1
  have HLD := Aside0.mk h3
  have HSR := fun (U : World) (hU : GR T U (.agg #[.slice A l.length c, .slice B W.length d]) l W) => sendR hU (by omega) peer send
  have HPR := fun (U : World) (hU : GR T U (.agg #[.slice A l.length c, .slice B W.length d]) l W) => prefR hU (by omega) hW peer
  have hlt := idx_lt (sendP peer send) l
  have HR0 : Aside0 (remS l (fW W) peer send = if idx (sendP peer send) l < 0 then (l, 5) else if idx (prefP (fW W) peer) l = idx (sendP peer send) l then (l, 201) else (l.take (idx (sendP peer send) l).toNat ++ l.drop ((idx (sendP peer send) l).toNat + 1), 0)) := ⟨rfl⟩
  obtain ⟨R, hR⟩ : ∃ R, remS l (fW W) peer send = R := ⟨_, rfl⟩
  rw [hR] at HR0 ⊢
  obtain ⟨qs, hqs⟩ : ∃ q, idx (sendP peer send) l = q := ⟨_, rfl⟩
  obtain ⟨qp, hqp⟩ : ∃ q, idx (prefP (fW W) peer) l = q := ⟨_, rfl⟩
  rw [hqs] at HSR HR0 hlt
  rw [hqp] at HPR HR0
  have HSR := Aside0.mk HSR
  have HPR := Aside0.mk HPR
  have HLT := Aside0.mk hlt
  clear h1 h2 h3 h4 h5 h6 hV o2 o4 hbV hsz hqs hqp hR hlt
  go_enter Try.func23, Try.ntmps23
  go_wp2_with (refine pl_load rfl 30 (.tmp 3) rfl _ _ (load30 (by rw [HV.out]; exact HO2.out)) rfl ?_)
  rw [HV.out]
  refine (HSR.out V HGV.out).mono ?_
  rintro e w2 ⟨rfl, hb2⟩
  have HP2 := Aside0.mk (HO2.out.below hb2 HO2.out.lt)
  have HP4 := Aside0.mk (HO4.out.below hb2 HO4.out.lt)
  have HB2 := Aside0.mk (HBV.out.trans (hb2.mono HBV.out.size))
  have HG2 := Aside0.mk (HGV.out.below hb2)
  have z2 : w.heap.size + 1 + 1 ≤ w2.heap.size := by have := HSZ.out; have := hb2.size; omega
  clear hb2
  by_cases hneg : qs < 0
  · have hnd : decide (qs < 0) = true := decide_eq_true hneg
    obtain ⟨W3, f1, f2, f3, f4⟩ := fin30 HP2.out HP4.out rfl rfl
    have F1 := Aside0.mk f1
    have F2 := Aside0.mk f2
    have F3 := Aside0.mk f3
    have HB3 := Aside0.mk (HB2.out.trans (f4.below HB2.out.size (fun k hk e => by have : k = w.heap.size + 1 := e; omega)))
    clear f1 f2 f3 f4
    go_wp2_with (first | (refine pl_load rfl 30 _ rfl _ _ F1.out rfl ?_) | (refine pl_store rfl 30 _ _ rfl _ _ F2.out rfl rfl ?_))
    refine bodyPost_ret (results_row_tmp rfl _ _ (w.heap.size + 1) _ rfl F3.out) rfl ?_
    refine ⟨_, _, rfl, ?_, HB3.out⟩
    rw [HR0.out, if_pos hneg]
    exact ⟨HGR.out.old HB3.out, rfl⟩
  · have hnd : decide (qs < 0) = false := decide_eq_false hneg
    have F0 := Aside0.mk (load30 HP2.out)
    go_wp2_with (refine pl_load rfl 30 _ rfl _ _ F0.out rfl ?_)
    refine (HPR.out w2 HG2.out).mono ?_
    rintro e w3 ⟨rfl, hb3⟩
    have HQ2 := Aside0.mk (HP2.out.below hb3 HP2.out.lt)
    have HQ4 := Aside0.mk (HP4.out.below hb3 HP4.out.lt)
    have HB3 := Aside0.mk (HB2.out.trans (hb3.mono HB2.out.size))
    have HG3 := Aside0.mk (HG2.out.below hb3)
    have z3 : w.heap.size + 1 + 1 ≤ w3.heap.size := by have := hb3.size; omega
    clear hb3 F0
    by_cases heq : qp = qs
    · have hqe : (qp == qs) = true := beq_iff_eq.2 heq
      obtain ⟨W4, f1, f2, f3, f4⟩ := fin30 HQ2.out HQ4.out rfl rfl
      have F1 := Aside0.mk f1
      have F2 := Aside0.mk f2
      have F3 := Aside0.mk f3
      have HB4 := Aside0.mk (HB3.out.trans (f4.below HB3.out.size (fun k hk e => by have : k = w.heap.size + 1 := e; omega)))
      have HEQ := Aside0.mk heq
      clear f1 f2 f3 f4 heq
      go_wp2_with (first | (refine pl_load rfl 30 _ rfl _ _ F1.out rfl ?_) | (refine pl_store rfl 30 _ _ rfl _ _ F2.out rfl rfl ?_))
      refine bodyPost_ret (results_row_tmp rfl _ _ (w.heap.size + 1) _ rfl F3.out) rfl ?_
      refine ⟨_, _, rfl, ?_, HB4.out⟩
      rw [HR0.out, if_neg (by omega), if_pos HEQ.out]
      exact ⟨HGR.out.old HB4.out, rfl⟩
    · have hqe : (qp == qs) = false := beq_eq_false_iff_ne.2 heq
      have HNE := Aside0.mk heq
      obtain ⟨i, hi⟩ : ∃ i : Nat, qs = i := ⟨qs.toNat, by omega⟩
      subst hi
      have hil : i < l.length := by have := HLT.out; omega
      have hc3 := HLC.out
      have HC3 := Aside0.mk (Kd.C_below HC2.out HB3.out)
      have hw1 : wrap64 ((i : Int) + 1) = (i : Int) + 1 := by unfold wrap64; omega
      have hF : ∀ U, Below w3.heap.size w3 U → U.cell? ⟨w.heap.size, 0, none⟩ = some (.slice A l.length c) := fun U hU => ((HQ2.out.below hU HQ2.out.lt) 0 _ rfl).1
      have HF := Aside0.mk hF
      have hic : i ≤ c := by omega
      have hI1 : (0 : Int) ≤ (i : Int) + 1 := by omega
      have hI2 : (i : Int) + 1 ≤ (l.length : Int) := by omega
      have HT3 : Aside0 (Kd.C k36 w3 A i (l.take i)) := ⟨by
        have h := Kd.C_take HC3.out (m := i) (by omega)
        rwa [List.length_take, Nat.min_eq_left (by omega)] at h⟩
      have HD3 : Aside0 (Kd.C k36 w3 (if c = i + 1 then A else A.map (·.add ((i + 1) * 5))) (l.length - (i + 1)) (l.drop (i + 1))) := ⟨by
        have h := Kd.C_drop (c := c) HC3.out (m := i + 1) (by omega) hc3
        rwa [List.length_drop] at h⟩
      have HOq : Aside0 (∀ U, Below w3.heap.size w3 U → Ob w.heap.size U [.slice A l.length c, .slice B W.length d]) := ⟨fun U hU => HQ2.out.below hU HQ2.out.lt⟩
      clear hF heq
      go_wp2_with fail
      refine region [(0, .p), (2, .p), (5, .p), (7, .p), (8, .p), (1, .t), (3, .p), (6, .t), (9, .p), (4, .o), (10, .o), (11, .p), (12, .e)] (fun U => U.cell? ⟨w.heap.size, 0, none⟩ = some (.slice A l.length c)) (by kernel_rfl) (by kernel_rfl) (fun _ _ _ _ _ h => h) (HF.out _ (below_drew (Below.refl _ _))) (fun hHeld => ?_)
      iterate 5 (refine lex_p rfl rfl rfl (by intro w'; go_simp; with_reducible rfl) (by simp only [Act.put, List.setIfInBounds_toArray, List.set_cons_zero, List.set_cons_succ, i64_w, i32_w]; rfl) ?_)
      (refine lex_t rfl rfl rfl (by rintro w' s0; go_simp; with_reducible rfl) (by simp only [Act.put, List.setIfInBounds_toArray, List.set_cons_zero, List.set_cons_succ, i64_w, i32_w]; rfl) ?_)
      (refine lex_p rfl rfl rfl (by intro w'; go_simp; with_reducible rfl) (by simp only [Act.put, List.setIfInBounds_toArray, List.set_cons_zero, List.set_cons_succ, i64_w, i32_w]; rfl) ?_)
      (refine lex_t rfl rfl rfl (by rintro w' s0; go_simp; with_reducible rfl) (by simp only [Act.put, List.setIfInBounds_toArray, List.set_cons_zero, List.set_cons_succ, i64_w, i32_w]; rfl) ?_)
      (refine lex_p rfl rfl rfl (by intro w'; go_simp; with_reducible rfl) (by simp only [Act.put, List.setIfInBounds_toArray, List.set_cons_zero, List.set_cons_succ, i64_w, i32_w]; rfl) ?_)
      refine lex_o rfl ?_
      refine ap_keys w3.heap.size _ _ rfl rfl (OK.nil _ _) (Kd.C_below HT3.out (below_drew (Below.refl _ _))) rfl rfl (Nat.le_refl _) (by show 0 + i ≤ 1000000; omega) ?_
      intro v1 w4 ho1 hbw _
      have HO1 := Aside0.mk ho1
      have B1 := Aside0.mk ((below_drew (Below.refl w3.heap.size w3)).trans hbw)
      clear ho1 hbw
      refine lex_end (by first | (simp only [Act.put, List.setIfInBounds_toArray, List.set_cons_zero, List.set_cons_succ, i64_w, i32_w]; rfl) | rfl) (HF.out _ B1.out) (fun hHeld => ?_)
      refine lex_o rfl ?_
      obtain ⟨AD, hAD⟩ : ∃ AD, (if c = i + 1 then A else Option.map (fun x => x.add ((i + 1) * 5)) A) = AD := ⟨_, rfl⟩
      rw [hAD] at HD3 ⊢
      have HADD := Aside0.mk hAD
      clear hAD
      refine ap_keys w3.heap.size _ _ rfl rfl HO1.out (Kd.C_below HD3.out B1.out) rfl rfl B1.out.size (by show ([] ++ l.take i).length + (l.length - (i + 1)) ≤ 1000000; simp; omega) ?_
      intro v2 w5 ho2 hbw _
      have HO5 : Aside0 (OK w3.heap.size w5 v2 (l.take i ++ l.drop (i + 1))) := ⟨ho2⟩
      have B2 := Aside0.mk (B1.out.trans (hbw.mono (Nat.le_refl _)))
      clear ho2 hbw
      obtain ⟨l5, hl5⟩ : ∃ q, l.take i ++ l.drop (i + 1) = q := ⟨_, rfl⟩
      rw [hl5] at HO5
      have HL5 := Aside0.mk hl5
      obtain ⟨A5, c5, rfl, _, _⟩ := HO5.out.reads
      clear hl5
      refine lex_end (by first | (simp only [Act.put, List.setIfInBounds_toArray, List.set_cons_zero, List.set_cons_succ, i64_w, i32_w]; rfl) | rfl) (HF.out _ B2.out) (fun hHeld => ?_)
      (refine lex_p rfl rfl rfl (by intro w'; go_simp; with_reducible rfl) (by simp only [Act.put, List.setIfInBounds_toArray, List.set_cons_zero, List.set_cons_succ, i64_w, i32_w]; rfl) ?_)
      refine lex_e rfl ?_
      obtain ⟨hc7, hf7⟩ := (HOq.out w5 B2.out) 0 _ rfl
      have HOB6 : Aside0 (Ob w.heap.size (w5.setCell ⟨w.heap.size, 0, none⟩ (.slice A5 l5.length c5)) [.slice A5 l5.length c5, .slice B W.length d]) := ⟨(HOq.out w5 B2.out).set 0 (by simp) _⟩
      go_wp2_with fail
      refine putQ_normal ?_
      have hq4 := (HQ4.out.below B2.out HQ4.out.lt).far (q := ⟨w.heap.size, 0, none⟩) (by show w.heap.size + 1 ≠ w.heap.size; omega) (.slice A5 l5.length c5)
      obtain ⟨W6, f1, f2, f3, f4⟩ := fin30 HOB6.out hq4 rfl rfl
      have B5 := HB3.out.trans (B2.out.mono HB3.out.size)
      have hs5 : (w5.setCell ⟨w.heap.size, 0, none⟩ (.slice A5 l5.length c5)).heap.size = w5.heap.size := by simp [World.setCell]
      have b56 : Below w.heap.size w5 (w5.setCell ⟨w.heap.size, 0, none⟩ (.slice A5 l5.length c5)) := (But.setCell (But.refl w.heap.size (fun k => False) w5) (p := ⟨w.heap.size, 0, none⟩) (.inl (Nat.le_refl _)) _).below (Nat.le_refl _) (fun k hk h => h)
      have B6 := B5.trans b56
      have HB7 := Aside0.mk (B6.trans (f4.below B6.size (fun k hk e => by have : k = w.heap.size + 1 := e; omega)))
      have HK6 : Aside0 (OK w3.heap.size W6 (.slice A5 l5.length c5) l5) := ⟨by
        refine Kd.R_mono (Kd.R_step (Kd.R_bound HO5.out) (fun k hk hlt => ?_)) (fun k hk => hk.1)
        have hk3 : w3.heap.size ≤ k := hk.2.1
        refine (f4.block k (by rw [hs5]; exact hlt) (by show ¬ k = w.heap.size + 1; omega)).trans (Below.heap_setCell _ _ _ _ (by show k ≠ w.heap.size; omega))⟩
      have F1 := Aside0.mk f1
      have F2 := Aside0.mk f2
      have F3 := Aside0.mk f3
      clear f1 f2 f3 f4 hq4 B5 b56 B6 hs5
      go_wp2_with (first | (refine pl_load rfl 30 _ rfl _ _ F1.out rfl ?_) | (refine pl_store rfl 30 _ _ rfl _ _ F2.out rfl rfl ?_))
      refine bodyPost_ret (results_row_tmp rfl _ _ (w.heap.size + 1) _ rfl F3.out) rfl ?_
      refine ⟨_, _, rfl, ?_, HB7.out⟩
      obtain ⟨A', c', e', hlc', hC'⟩ := HK6.out.reads
      injection e' with e1' e2' e3'
      rw [HR0.out, if_neg (by omega), if_neg HNE.out, Int.toNat_natCast, HL5.out]
      have hcx : Kd.C k36 W6 A5 l5.length l5 := by rw [e1']; exact hC'
      exact ⟨⟨A5, c5, B, d, rfl, by rw [e3']; exact hlc', hcx, HLD.out, Kd.C_below HC4.out HB7.out, fun a ha => .inr ⟨by have := (HK6.out.blk a ha).1; omega, (HK6.out.blk a ha).2⟩, fun a ha => .inl (HTB.out a ha)⟩, rfl⟩
end
end Go.Proofs.Ytndjhnipahkclaa.Ke
