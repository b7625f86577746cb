/- Keys: Copy; what keys that are not there answer. · Keys: what is done for one peer changes nothing of another (plain). · Keys: Same of two that are there. · Keys: KeysCopies' walk: a pair of keys, the program's and the document's; a call's step. -/
import Derived.Test.YtndjhnipahkclaaKeP
import Derived.Shelf.SlMaps.Clone
set_option linter.unusedSimpArgs false
set_option linter.unusedVariables false
namespace Go.Proofs.Ytndjhnipahkclaa.Ke
open Go.RowKit Go.Proofs.YtndjhnipahkclaaW.PrintWords Go.Proofs.YtndjhnipahkclaaW.PrintLast Go.Proofs.YtndjhnipahkclaaW.PrintMore Go.Proofs.Ytndjhnipahkclaa.PKeysPlay Go.Proofs.Ytndjhnipahkclaa.Lex Go.Proofs.Ytndjhnipahkclaa.Lib
set_option maxHeartbeats 2000000 in
theorem mapCloneC (m n : Nat) (f : Int → Option Int) (w : World) (h : MapIs w m n f) : Calls Try.prog 31 #[.map (some m)] w fun e w' => e = .returned (.map (some w.heap.size)) ∧ MapIs w' w.heap.size n f ∧ Below w.heap.size w w' ∧ w'.heap.size = w.heap.size + 1 := by
  obtain ⟨D, ⟨es, clock, hb, h2, h3, h4⟩, hf⟩ := h
  have HM : Aside0 (MapIs (w.alloc (.map es clock)) w.heap.size n f) := ⟨⟨D, ⟨es, clock, heap_alloc_new w _, h2, h3, h4⟩, hf⟩⟩
  have HB := Aside0.mk (below_alloc (Below.refl w.heap.size w) (.map es clock))
  have HS : Aside0 ((w.alloc (.map es clock)).heap.size = w.heap.size + 1) := ⟨by simp⟩
  have hq := fun w => map_nil w (some m)
  clear hf h2 h3 h4
  go_enter Try.func31, Try.ntmps31
  go_wp2
  rw [run_callFunc_extern Try.func45 (by kernel_rfl) (by kernel_rfl) (by kernel_rfl) (e := Extern.MapsClone.clone) (by kernel_rfl), run_maps_clone_sl w 47 hb]
  simp only [Result.andThen]
  rw [Oper.upon_value]
  go_wp2
  rw [run_typeAssert_map_sl _ 47 20 _ _ _ Try.underlying47]
  simp only [Result.andThen]
  rw [Oper.upon_value]
  go_wp2
  go_ret
  exact ⟨rfl, HM.out, HB.out, HS.out⟩
set_option maxHeartbeats 4000000 in
theorem copyC {S : Nat → Prop} {p N : Nat} {w : World} {l : List S36} {f : Int → Option Int} (h : KX S p w l f N) (hl : l.length ≤ 100000) : Calls Try.prog 13 #[ptr p] w fun e w' => ∃ p', e = .returned (ptr p') ∧ KX (fun k => w.heap.size ≤ k ∧ k < w'.heap.size) p' w' l f N ∧ Below w.heap.size w w' := by
  obtain ⟨m, n, A, c, hk, hn⟩ := h
  have h1 := hk.c1
  have HK := Aside0.mk hk
  have HL := Aside0.mk hl
  have HN := Aside0.mk hn
  have HF : Aside0 (∀ U, Below w.heap.size w U → U.cell? ⟨p, 0, none⟩ = some (.slice A l.length c) ∧ U.cell? ⟨p, 1, none⟩ = some (.map (some m))) := ⟨fun U hU => ⟨(hk.below hU).c0, (hk.below hU).c1⟩⟩
  clear hk hl hn
  go_enter Try.func13, Try.ntmps13
  go_wp2_with fail
  refine (none_some h1).mono ?_
  rintro e w' ⟨rfl, rfl⟩
  clear h1
  go_wp2_with fail
  refine regionT (.one 0 .p (.one 1 .p (.one 2 .p (.one 5 .p (.one 6 .p (.one 7 .p (.one 3 .t (.one 8 .t (.one 4 .o (.one 9 .o (.one 10 .p (.one 11 .o (.one 12 .p .nil))))))))))))) (fun U => U.cell? ⟨p, 0, none⟩ = some (.slice A l.length c) ∧ U.cell? ⟨p, 1, none⟩ = some (.map (some m))) (by kernel_rfl) (by kernel_rfl) (fun _ _ _ _ _ h => h) (HF.out _ (below_drew (Below.refl _ _))) (fun hHeld => ?_)
  iterate 6 (refine lt_p rfl rfl rfl (by intro w'; go_simp; with_reducible rfl) (by simp only [Act.put, List.setIfInBounds_toArray, List.set_cons_zero, List.set_cons_succ, i64_w, i32_w]; rfl) ?_)
  iterate 2 (refine lt_t rfl rfl rfl (by rintro w' ⟨s0, s1⟩; go_simp; with_reducible rfl) (by simp only [Act.put, List.setIfInBounds_toArray, List.set_cons_zero, List.set_cons_succ, i64_w, i32_w]; rfl) ?_)
  refine lt_o rfl ?_
  go_wp2_with fail
  refine (cloneK A c l w.drew (HK.out.below (below_drew (Below.refl _ _))).row HL.out).mono ?_
  rintro e w2 ⟨v, rfl, ho, hb⟩
  have B1 := Aside0.mk ((below_drew (Below.refl w.heap.size w)).trans hb)
  have HO := Aside0.mk ho
  obtain ⟨A5, c5, rfl, _, _⟩ := HO.out.reads
  clear ho hb
  go_wp2_with fail
  refine lt_end (by first | (simp only [Act.put, List.setIfInBounds_toArray, List.set_cons_zero, List.set_cons_succ, i64_w, i32_w]; rfl) | rfl) (HF.out _ B1.out) (fun hHeld => ?_)
  refine lt_o rfl ?_
  go_wp2_with fail
  refine (mapCloneC m n f w2 (HK.out.below B1.out).map).mono ?_
  rintro e w3 ⟨rfl, hm, hb, hz⟩
  have B2 := Aside0.mk (B1.out.trans (hb.mono B1.out.size))
  have HM3 := Aside0.mk hm
  have HO3 : Aside0 (OK w.heap.size w3 (.slice A5 l.length c5) l) := ⟨Kd.R_below HO.out hb⟩
  obtain ⟨m', HM'⟩ : ∃ m', Aside0 (w2.heap.size = m') := ⟨_, ⟨rfl⟩⟩
  have HMW : Aside0 (w.heap.size ≤ m' ∧ m' < w3.heap.size) := ⟨by have h1 := B1.out.size; have h2 := HM'.out; exact ⟨by omega, by omega⟩⟩
  have HOM : Aside0 (∀ k, (Value.slice A5 l.length c5).ownBlock = some k → k ≠ m') := ⟨fun k hk e => by
    have h1 := Kd.R_lt HO.out k hk
    have h2 := HM'.out
    omega⟩
  rw [HM'.out] at HM3 ⊢
  clear hm hb hz
  go_wp2_with fail
  refine lt_end (by first | (simp only [Act.put, List.setIfInBounds_toArray, List.set_cons_zero, List.set_cons_succ, i64_w, i32_w]; rfl) | rfl) (HF.out _ B2.out) (fun hHeld => ?_)
  (refine lt_p rfl rfl rfl (by intro w'; go_simp; with_reducible rfl) (by simp only [Act.put, List.setIfInBounds_toArray, List.set_cons_zero, List.set_cons_succ, i64_w, i32_w]; rfl) ?_)
  refine lt_o rfl ?_
  go_wp2_with fail
  have B3 := Aside0.mk (below_alloc B2.out (.cells #[.slice A5 l.length c5, .map (some m')] 49))
  refine lt_end (by first | (simp only [Act.put, List.setIfInBounds_toArray, List.set_cons_zero, List.set_cons_succ, i64_w, i32_w]; rfl) | rfl) (HF.out _ B3.out) (fun hHeld => ?_)
  (refine lt_p rfl rfl rfl (by intro w'; go_simp; with_reducible rfl) (by simp only [Act.put, List.setIfInBounds_toArray, List.set_cons_zero, List.set_cons_succ, i64_w, i32_w]; rfl) ?_)
  refine lt_nil ?_
  go_wp2_with fail
  go_ret
  have hs2 := B2.out.size
  have hs3 := (below_alloc (Below.refl w3.heap.size w3) (.cells #[.slice A5 l.length c5, .map (some m')] 49))
  have hmw := HMW.out
  have hsz : (w3.alloc (.cells #[.slice A5 l.length c5, .map (some m')] 49)).heap.size = w3.heap.size + 1 := by simp
  refine ⟨w3.heap.size, rfl, ⟨m', n, A5, c5, ⟨Ob.new w3 [.slice A5 l.length c5, .map (some m')] _ rfl 49, ?_, HM3.out.same (hs3.block m' hmw.2), by omega, ⟨⟨by omega, by omega⟩, ⟨by omega, by omega⟩⟩⟩, HN.out⟩, B3.out⟩
  refine ⟨fun k hk => ?_, (Kd.R_lower (Kd.R_below HO3.out hs3) (Nat.zero_le _)).2.imp_ (fun _ _ hp => ?_)⟩
  · obtain ⟨_, h1, h2, _⟩ := (Kd.R_bound HO3.out).1 k hk
    exact ⟨⟨by omega, by omega⟩, by omega, HOM.out k hk⟩
  · have e := k36_openM hp
    rw [e]
    exact k36_mkM _ _ _ _
theorem copyNil (w : World) : Calls Try.prog 13 #[.pointer none] w fun e w' => e = .returned (.pointer none) ∧ Below w.heap.size w w' := by
  go_enter Try.func13, Try.ntmps13
  go_wp2_with fail
  refine (none_nil w).mono ?_
  rintro e _ ⟨rfl, rfl⟩
  go_wp2_with fail
  go_ret
  exact ⟨rfl, Below.refl _ _⟩
theorem allZero {p : Nat} (w : World) (c1 : w.cell? ⟨p, 1, none⟩ = some (.map none)) : Calls Try.prog 15 #[ptr p] w fun e w' => e = .returned (.slice none 0 0) ∧ Below w.heap.size w w' := by
  go_enter Try.func15, Try.ntmps15
  go_wp2_with fail
  refine (none_zero c1).mono ?_
  rintro e _ ⟨rfl, rfl⟩
  go_wp2_with fail
  go_ret
  exact ⟨rfl, Below.refl _ _⟩
end Go.Proofs.Ytndjhnipahkclaa.Ke

set_option linter.unusedSimpArgs false
set_option linter.unusedVariables false
namespace Go.Proofs.Ytndjhnipahkclaa.Ke
open Go.RowKit Go.Proofs.YtndjhnipahkclaaW.PrintWords Go.Proofs.YtndjhnipahkclaaW.PrintLast Go.Proofs.YtndjhnipahkclaaW.PrintMore Go.Proofs.Ytndjhnipahkclaa.PKeysPlay Go.Proofs.Ytndjhnipahkclaa.Lex Go.Proofs.Ytndjhnipahkclaa.Lib
theorem find_filter {P Q : S36 → Bool} (h : ∀ x, P x = true → Q x = true) : ∀ l : List S36, (l.filter Q).find? P = l.find? P ∧ (l.filter Q).any P = l.any P
  | [] => ⟨rfl, rfl⟩
  | x :: l => by
    obtain ⟨h1, h2⟩ := find_filter h l
    cases hq : Q x with
    | true =>
      rw [List.filter_cons_of_pos hq]
      refine ⟨?_, by simp only [List.any_cons, h2]⟩
      cases hp : P x with
      | true => rw [List.find?_cons_of_pos hp, List.find?_cons_of_pos hp]
      | false => rw [List.find?_cons_of_neg (by rw [hp]; decide), List.find?_cons_of_neg (by rw [hp]; decide), h1]
    | false =>
      have hp : P x = false := by
        cases hp : P x with
        | false => rfl
        | true => rw [h x hp] at hq; cases hq
      rw [List.filter_cons_of_neg (by rw [hq]; decide)]
      exact ⟨by rw [h1, List.find?_cons_of_neg (by rw [hp]; decide)], by rw [h2, List.any_cons, hp, Bool.false_or]⟩
theorem far {l : List S36} {f : Int → Option Int} (a : S38) (q : Int) (hq : q ≠ a.f1.f0) : (stK l f a).1.find? (prefP (stK l f a).2.1 q) = l.find? (prefP f q) ∧ (stK l f a).1.any (prefP (stK l f a).2.1 q) = l.any (prefP f q) := by
  have hx : prefP f q a.f1 = false := by
    have : (a.f1.f0 == q) = false := by simpa using fun e => hq e.symm
    simp only [prefP, this, Bool.false_and]
  unfold stK
  by_cases h1 : a.f0 = 1
  · rw [if_pos h1]
    show (addS l a.f1).1.find? (prefP f q) = _ ∧ (addS l a.f1).1.any (prefP f q) = _
    unfold addS
    by_cases g1 : badP a.f1 = true
    · rw [if_pos g1]; exact ⟨rfl, rfl⟩
    rw [if_neg g1]
    by_cases g2 : l.any (twiceP a.f1) = true
    · rw [if_pos g2]; exact ⟨rfl, rfl⟩
    rw [if_neg g2]
    by_cases g3 : 16 ≤ l.length
    · rw [if_pos g3]; exact ⟨rfl, rfl⟩
    rw [if_neg g3]
    refine ⟨?_, ?_⟩
    · show (l ++ [a.f1]).find? _ = _
      rw [List.find?_append, List.find?_cons_of_neg (by rw [hx]; decide)]
      cases l.find? (prefP f q) <;> rfl
    · show (l ++ [a.f1]).any _ = _
      rw [List.any_append]
      simp [hx]
  rw [if_neg h1]
  by_cases h2 : a.f0 = 2
  · rw [if_pos h2]
    show (remK l f a.f1.f0 a.f1.f1).1.find? (prefP f q) = _ ∧ (remK l f a.f1.f0 a.f1.f1).1.any (prefP f q) = _
    unfold remK
    cases ha : l.any (sendP a.f1.f0 a.f1.f1) with
    | false => rw [if_pos rfl]; exact ⟨rfl, rfl⟩
    | true =>
      rw [if_neg (by decide)]
      obtain ⟨i, g1, g2, g3, g4⟩ := idx_found ha
      by_cases he : eqB ((l.find? (prefP f a.f1.f0)).getD z36) ((l.find? (sendP a.f1.f0 a.f1.f1)).getD z36) = true
      · rw [if_pos he]; exact ⟨rfl, rfl⟩
      rw [if_neg he]
      refine find_filter (fun x hp => ?_) l
      rw [g4]
      cases hxe : eqB x (l.getD i z36) with
      | false => rfl
      | true =>
        exfalso
        simp only [eqB, Bool.and_eq_true, beq_iff_eq] at hxe
        simp only [sendP, Bool.and_eq_true, beq_iff_eq] at g3
        simp only [prefP, Bool.and_eq_true, beq_iff_eq] at hp
        exact hq (by rw [← hp.1, hxe.1, g3.1])
  rw [if_neg h2]
  by_cases h3 : a.f0 = 3
  · rw [if_pos h3]
    have hf : prefP (prfK l f a.f1.f0 a.f1.f1).1 q = prefP f q := by
      unfold prfK
      cases ha : l.any (sendP a.f1.f0 a.f1.f1) with
      | false => rw [if_pos rfl]
      | true =>
        rw [if_neg (by decide)]
        funext x
        simp only [prefP, if_neg hq]
    show l.find? (prefP (prfK l f a.f1.f0 a.f1.f1).1 q) = _ ∧ l.any (prefP (prfK l f a.f1.f0 a.f1.f1).1 q) = _
    rw [hf]
    exact ⟨rfl, rfl⟩
  rw [if_neg h3]
  exact ⟨rfl, rfl⟩
theorem st_wf {l : List S36} {f : Int → Option Int} (a : S38) (ha : okA a) (h : ∀ x ∈ l, (kl x.f0).wf = true) : ∀ x ∈ (stK l f a).1, (kl x.f0).wf = true := by
  unfold stK
  by_cases h1 : a.f0 = 1
  · rw [if_pos h1]
    show ∀ x ∈ (addS l a.f1).1, _
    unfold addS
    by_cases g1 : badP a.f1 = true
    · rw [if_pos g1]; exact h
    rw [if_neg g1]
    by_cases g2 : l.any (twiceP a.f1) = true
    · rw [if_pos g2]; exact h
    rw [if_neg g2]
    by_cases g3 : 16 ≤ l.length
    · rw [if_pos g3]; exact h
    rw [if_neg g3]
    intro x hx
    rcases List.mem_append.1 hx with hx | hx
    · exact h x hx
    · obtain rfl := List.mem_singleton.1 hx
      exact ha.1
  rw [if_neg h1]
  by_cases h2 : a.f0 = 2
  · rw [if_pos h2]
    show ∀ x ∈ (remK l f a.f1.f0 a.f1.f1).1, _
    unfold remK
    cases l.any (sendP a.f1.f0 a.f1.f1) with
    | false => rw [if_pos rfl]; exact h
    | true =>
      rw [if_neg (by decide)]
      by_cases he : eqB ((l.find? (prefP f a.f1.f0)).getD z36) ((l.find? (sendP a.f1.f0 a.f1.f1)).getD z36) = true
      · rw [if_pos he]; exact h
      rw [if_neg he]
      exact fun x hx => h x (List.mem_filter.1 hx).1
  rw [if_neg h2]
  by_cases h3 : a.f0 = 3
  · rw [if_pos h3]; exact h
  rw [if_neg h3]
  exact h
theorem own_pref {l : List S36} {f : Int → Option Int} (h : Inv l f) (k : Nat) (hk : k < l.length) : l.any (prefP f (l.getD k z36).f0) = true := by
  refine pref_any h _ (l.getD k z36).f1 (List.any_eq_true.2 ⟨l.getD k z36, ?_, by simp [sendP]⟩)
  rw [List.getD_eq_getElem?_getD, List.getElem?_eq_getElem hk]
  exact List.getElem_mem _
theorem own_apart {l : List S36} {f : Int → Option Int} (h : Inv l f) (k j : Nat) (hj : j < k) (hk : k < l.length) : ((l.getD k z36).f0 == (l.getD j z36).f0) = false ∨ (((l.getD k z36).f0 == (l.getD j z36).f0) = true ∧ ((l.getD k z36).f1 == (l.getD j z36).f1) = false ∧ ((l.getD k z36).f2 == (l.getD j z36).f2) = false) := by
  have h2 := List.pairwise_iff_getElem.1 h.apart j k (by omega) hk hj
  have e1 : l.getD k z36 = l[k] := by rw [List.getD_eq_getElem?_getD, List.getElem?_eq_getElem hk]; rfl
  have e2 : l.getD j z36 = l[j]'(by omega) := by rw [List.getD_eq_getElem?_getD, List.getElem?_eq_getElem (by omega)]; rfl
  rw [e1, e2]
  simp only [twiceP, Bool.and_eq_false_iff, Bool.or_eq_false_iff, beq_eq_false_iff_ne, ne_eq] at h2
  by_cases e0 : l[k].f0 = (l[j]'(by omega)).f0
  · refine .inr ⟨by simpa using e0, ?_, ?_⟩
    · rcases h2 with h2 | h2
      · exact absurd e0.symm h2
      · simpa using fun e => h2.1 e.symm
    · rcases h2 with h2 | h2
      · exact absurd e0.symm h2
      · simpa using fun e => h2.2 e.symm
  · exact .inl (by simpa using e0)
end Go.Proofs.Ytndjhnipahkclaa.Ke

set_option linter.unusedSimpArgs false
set_option linter.unusedVariables false
namespace Go.Proofs.Ytndjhnipahkclaa.Ke
open Go.RowKit Go.Proofs.YtndjhnipahkclaaW.PrintWords Go.Proofs.YtndjhnipahkclaaW.PrintLast Go.Proofs.YtndjhnipahkclaaW.PrintMore Go.Proofs.Ytndjhnipahkclaa.PKeysPlay Go.Proofs.Ytndjhnipahkclaa.Lex Go.Proofs.Ytndjhnipahkclaa.Lib
attribute [local go_sem high] eqA36n
set_option maxHeartbeats 4000000 in
/-- slices.Equal of two rows of the same keys -/
theorem equalC (A B : Option Addr) (c d : Nat) (l : List S36) (w : World) (hA : Kd.C k36 w A l.length l) (hB : Kd.C k36 w B l.length l) (hl : l.length ≤ 100000) : Calls Try.prog 34 #[.slice A l.length c, .slice B l.length d] w fun e w' => e = .returned (.bool true) ∧ Below w.heap.size w w' := by
  have HA := Aside0.mk hA
  have HB := Aside0.mk hB
  clear hA hB
  go_enter Try.func34, Try.ntmps34
  go_wp2_with fail
  go_loopg [13] l.length (fun gk s13 W => ∃ k : Nat, k ≤ l.length ∧ l.length - k ≤ gk ∧ s13 = .int .i64 k ∧ Aside0 (Below w.heap.size w W))
  case atStart => exact ⟨0, by omega, by omega, rfl, ⟨Below.refl _ _⟩⟩
  case round =>
    obtain ⟨k, hk, hgk, rfl, HBk⟩ := hrel
    by_cases hlt : k < l.length
    · obtain ⟨b1, o1, rfl, q0, q1, q2, q3, q4⟩ := C_key (Kd.C_below HA.out HBk.out) k hlt
      obtain ⟨b2, o2, rfl, r0, r1, r2, r3, r4⟩ := C_key (Kd.C_below HB.out HBk.out) k hlt
      obtain ⟨x, hx⟩ : ∃ x, l.getD k z36 = x := ⟨_, rfl⟩
      rw [hx] at q0 q1 q2 q3 q4 r0 r1 r2 r3 r4
      have hE : eqN x.f0 x.f1 x.f2 x.f3 x.f4 x.f0 x.f1 x.f2 x.f3 x.f4 = true := eqB_refl x
      have HBn := Aside0.mk (HBk.out.trans ((below_drew (Below.refl wr.heap.size wr)).mono HBk.out.size))
      clear hx
      go_wp2_with fail
      refine region [(0, .p), (1, .p), (2, .p), (4, .p), (5, .p), (6, .p), (3, .t), (7, .t), (8, .p)] (fun U => U = wr.drew) (by kernel_rfl) (by kernel_rfl) (fun _ _ _ _ _ h => h) (rfl) (fun hHeld => ?_)
      iterate 6 (refine lex_p rfl rfl rfl (by intro w'; go_simp; with_reducible rfl) (by simp only [Act.put, List.setIfInBounds_toArray, List.set_cons_zero, List.set_cons_succ, i64_w, i32_w]; rfl) ?_)
      iterate 2 (refine lex_t rfl rfl rfl (by rintro w' rfl; go_simp; with_reducible rfl) (by simp only [Act.put, List.setIfInBounds_toArray, List.set_cons_zero, List.set_cons_succ, i64_w, i32_w]; rfl) ?_)
      (refine lex_p rfl rfl rfl (by intro w'; go_simp; with_reducible rfl) (by simp only [Act.put, List.setIfInBounds_toArray, List.set_cons_zero, List.set_cons_succ, i64_w, i32_w]; rfl) ?_)
      refine lex_nil ?_
      go_wp2_with fail
      go_roundg (gk - 1)
      case measure => omega
      case rel => exact ⟨k + 1, by omega, by omega, by go_num, HBn⟩
    · obtain rfl : k = l.length := by omega
      have hlI : ¬ ((l.length : Int) < (l.length : Int)) := by omega
      go_wp2_with fail
      go_ret
      exact ⟨rfl, HBk.out⟩
set_option maxHeartbeats 4000000 in
/-- the test that Same asks: of keys that prefer the same -/
theorem same1C {S S' : Nat → Prop} {p q N N' ga gb : Nat} {w : World} {l : List S36} {f : Int → Option Int} (hk : KX S p w l f N) (hk' : KX S' q w l f N') (ha : w.cell? ⟨ga, 0, none⟩ = some (ptr p)) (hb : w.cell? ⟨gb, 0, none⟩ = some (ptr q)) (x : S36) (hx : (kl x.f0).wf = true) : Calls Try.prog 36 (#[a36 x] ++ #[ptr ga, ptr gb]) w fun e w' => e = .returned (.bool false) ∧ Below w.heap.size w w' := by
  have hb0 := below_alloc (Below.refl w.heap.size w) (.cells #[.int .u32 x.f0, .int .u8 x.f1, .int .u8 x.f2, .int .i64 x.f3, .string x.f4] 36)
  have HP1 := Aside0.mk (prefX (hk.below hb0) x.f0 hx)
  have HF : Aside0 (∀ U, Below w.heap.size w U → U.cell? ⟨ga, 0, none⟩ = some (ptr p) ∧ U.cell? ⟨gb, 0, none⟩ = some (ptr q)) := ⟨fun U hU => ⟨pw_cell_below hU ha, pw_cell_below hU hb⟩⟩
  have HK := Aside0.mk hk'
  have HX := Aside0.mk hx
  have ox : Ob w.heap.size (w.alloc (.cells #[.int .u32 x.f0, .int .u8 x.f1, .int .u8 x.f2, .int .i64 x.f3, .string x.f4] 36)) (c36 x) := Ob.new w (c36 x) _ rfl _
  have HOX := Aside0.mk ox
  have HB0 := Aside0.mk hb0
  obtain ⟨c0, c1⟩ := HF.out _ hb0
  clear hk hk' ha hb hx hb0 ox
  go_enter Try.func36, Try.ntmps36
  go_wp2_with fail
  refine HP1.out.mono ?_
  rintro e w2 ⟨rfl, hb2⟩
  obtain ⟨y, hy⟩ : ∃ y, (l.find? (prefP f x.f0)).getD z36 = y := ⟨_, rfl⟩
  obtain ⟨is, his⟩ : ∃ y, l.any (prefP f x.f0) = y := ⟨_, rfl⟩
  rw [hy, his]
  have hb3 := (HB0.out.trans (hb2.mono HB0.out.size)).trans ((below_alloc (Below.refl w2.heap.size w2) (.cells #[.int .u32 y.f0, .int .u8 y.f1, .int .u8 y.f2, .int .i64 y.f3, .string y.f4] 36)).mono (HB0.out.trans (hb2.mono HB0.out.size)).size)
  have HB3 := Aside0.mk hb3
  have hp2 := prefX (HK.out.below hb3) x.f0 HX.out
  rw [hy, his] at hp2
  have HP2 := Aside0.mk hp2
  have hox2 := HOX.out.below hb2 HOX.out.lt
  have hox3 := hox2.below (below_alloc (Below.refl w2.heap.size w2) (.cells #[.int .u32 y.f0, .int .u8 y.f1, .int .u8 y.f2, .int .i64 y.f3, .string y.f4] 36)) hox2.lt
  have HOY := Aside0.mk (Ob.new w2 (c36 y) #[.int .u32 y.f0, .int .u8 y.f1, .int .u8 y.f2, .int .i64 y.f3, .string y.f4] rfl 36)
  obtain ⟨d0, d1⟩ := HF.out _ hb3
  have d2 := (hox3 0 _ rfl).1
  clear c0 c1 hb2 hb3 hy his hp2 hox2 hox3 HP1
  go_wp2_with fail
  refine HP2.out.mono ?_
  rintro e w4 ⟨rfl, hb4⟩
  have hoy4 := HOY.out.below hb4 HOY.out.lt
  have hoy5 := hoy4.below (below_alloc (Below.refl w4.heap.size w4) (.cells #[.int .u32 y.f0, .int .u8 y.f1, .int .u8 y.f2, .int .i64 y.f3, .string y.f4] 36)) hoy4.lt
  have HB5 := Aside0.mk ((HB3.out.trans (hb4.mono HB3.out.size)).trans ((below_alloc (Below.refl w4.heap.size w4) (.cells #[.int .u32 y.f0, .int .u8 y.f1, .int .u8 y.f2, .int .i64 y.f3, .string y.f4] 36)).mono (HB3.out.trans (hb4.mono HB3.out.size)).size))
  have m0 := (hoy5 0 _ rfl).1
  have m1 := (hoy5 1 _ rfl).1
  have m2 := (hoy5 2 _ rfl).1
  have m3 := (hoy5 3 _ rfl).1
  have m4 := (hoy5 4 _ rfl).1
  have hE : eqN y.f0 y.f1 y.f2 y.f3 y.f4 y.f0 y.f1 y.f2 y.f3 y.f4 = true := eqB_refl y
  clear hb4 hoy4 hoy5 d0 d1 d2 HP2
  go_wp2_with fail
  go_ret
  exact ⟨rfl, HB5.out⟩
theorem noneFC (g : Nat) (lb : Array Value) (eg : ∀ args w, (callFunc g args).run Try.prog w = .ok (.enter g args) w) (A : Option Addr) (c : Nat) (l : List S36) (w : World) (hp : PredK g lb l (fun _ => false) w) (hx : Kd.C k36 w A l.length l) :
    Calls Try.prog 35 #[.slice A l.length c, .func (.func g) #[] lb] w fun e w' => e = .returned (.bool false) ∧ Below w.heap.size w w' := by
  have HI := Aside0.mk (indexK g lb eg (fun _ => false) A c l w hp hx)
  clear hp hx
  go_enter Try.func35, Try.ntmps35
  go_wp2_with fail
  refine HI.out.mono ?_
  rintro e w1 ⟨r, rfl, hb1, hr⟩
  have hr1 : r = -1 := by
    rcases hr with ⟨h, _⟩ | ⟨k, _, _, h, _⟩
    · exact h
    · cases h
  subst hr1
  have HB := Aside0.mk hb1
  clear hb1 hr
  go_wp2_with fail
  go_ret
  exact ⟨rfl, HB.out⟩
set_option maxHeartbeats 8000000 in
/-- Same of two that hold the same keys and wishes -/
theorem sameX {S S' : Nat → Prop} {p q N N' : Nat} {w : World} {l : List S36} {f : Int → Option Int} (hk : KX S p w l f N) (hk' : KX S' q w l f N') (hwf : ∀ x ∈ l, (kl x.f0).wf = true) (hl : l.length ≤ 100000) : Calls Try.prog 16 #[ptr p, ptr q] w fun e w' => e = .returned (.bool true) ∧ Below w.heap.size w w' := by
  have hb0 := below_alloc (below_alloc (Below.refl w.heap.size w) (.cells #[ptr p] 25)) (.cells #[ptr q] 25)
  have s1 : (w.alloc (.cells #[ptr p] 25)).heap.size = w.heap.size + 1 := by simp
  have o1 : Ob w.heap.size (w.alloc (.cells #[ptr p] 25)) [ptr p] := Ob.new w _ _ rfl _
  have o1 := o1.below (below_alloc (Below.refl _ _) (.cells #[ptr q] 25)) (by rw [s1]; omega)
  have o2 := Ob.new (w.alloc (.cells #[ptr p] 25)) [ptr q] _ rfl 25
  rw [s1] at o2
  obtain ⟨V, hV⟩ : ∃ V, (w.alloc (.cells #[ptr p] 25)).alloc (.cells #[ptr q] 25) = V := ⟨_, rfl⟩
  rw [hV] at hb0 o1 o2
  have HV := Aside0.mk hV
  have hKV := hk.below hb0
  have hKV' := hk'.below hb0
  obtain ⟨m, n, A, c, hks, _⟩ := id hKV
  obtain ⟨m', n', B, d, hks', _⟩ := id hKV'
  have HC1 := Aside0.mk hks.row
  have HC2 := Aside0.mk hks'.row
  have HN1 : Aside0 (∀ U, Below V.heap.size V U → Calls Try.prog 29 #[ptr p] U fun e w' => e = .returned (.bool false) ∧ U = w') := ⟨fun U hU => none_some (hks.below hU).c1⟩
  have HN2 : Aside0 (∀ U, Below V.heap.size V U → Calls Try.prog 29 #[ptr q] U fun e w' => e = .returned (.bool false) ∧ U = w') := ⟨fun U hU => none_some (hks'.below hU).c1⟩
  have HF : Aside0 (∀ U, Below V.heap.size V U → U.cell? ⟨w.heap.size, 0, none⟩ = some (ptr p) ∧ U.cell? ⟨w.heap.size + 1, 0, none⟩ = some (ptr q) ∧ U.cell? ⟨p, 0, none⟩ = some (.slice A l.length c) ∧ U.cell? ⟨q, 0, none⟩ = some (.slice B l.length d)) := ⟨fun U hU => ⟨((o1.below hU o1.lt) 0 _ rfl).1, ((o2.below hU o2.lt) 0 _ rfl).1, (hks.below hU).c0, (hks'.below hU).c0⟩⟩
  have HPR : Aside0 (∀ U, Below V.heap.size V U → PredK 36 #[ptr w.heap.size, ptr (w.heap.size + 1)] l (fun _ => false) U) := ⟨fun U hU W x hW hx => same1C (hKV.below (hU.trans (hW.mono hU.size))) (hKV'.below (hU.trans (hW.mono hU.size))) (pw_cell_below (hU.trans (hW.mono hU.size)) (o1 0 _ rfl).1) (pw_cell_below (hU.trans (hW.mono hU.size)) (o2 0 _ rfl).1) x (hwf x hx)⟩
  have HB0 := Aside0.mk hb0
  have HL := Aside0.mk hl
  clear hk hk' hwf hl hb0 s1 o1 o2 hV hKV hKV' hks hks'
  go_enter Try.func16, Try.ntmps16
  go_wp2_with fail
  rw [HV.out]
  refine (HN1.out V (Below.refl _ _)).mono ?_
  rintro e w' ⟨rfl, rfl⟩
  obtain ⟨c0, c1, c2, c3⟩ := HF.out V (Below.refl _ _)
  go_wp2_with fail
  refine (HN2.out V (Below.refl _ _)).mono ?_
  rintro e w' ⟨rfl, rfl⟩
  clear c0 c1 c2 c3
  go_wp2_with fail
  refine region [(0, .t), (1, .p), (2, .p), (3, .t), (4, .t), (5, .p), (6, .p), (7, .t), (8, .o), (9, .p), (14, .p), (10, .t), (11, .p), (12, .p), (13, .t), (15, .o), (16, .p), (17, .p), (18, .p)] (fun U => U.cell? ⟨w.heap.size, 0, none⟩ = some (ptr p) ∧ U.cell? ⟨w.heap.size + 1, 0, none⟩ = some (ptr q) ∧ U.cell? ⟨p, 0, none⟩ = some (.slice A l.length c) ∧ U.cell? ⟨q, 0, none⟩ = some (.slice B l.length d)) (by kernel_rfl) (by kernel_rfl) (fun _ _ _ _ _ h => h) (HF.out _ (below_drew (Below.refl _ _))) (fun hHeld => ?_)
  (refine lex_t rfl rfl rfl (by rintro w' ⟨s0, s1, s2, s3⟩; go_simp; with_reducible rfl) (by simp only [Act.put, List.setIfInBounds_toArray, List.set_cons_zero, List.set_cons_succ, i64_w, i32_w]; rfl) ?_)
  iterate 2 (refine lex_p rfl rfl rfl (by intro w'; go_simp; with_reducible rfl) (by simp only [Act.put, List.setIfInBounds_toArray, List.set_cons_zero, List.set_cons_succ, i64_w, i32_w]; rfl) ?_)
  iterate 2 (refine lex_t rfl rfl rfl (by rintro w' ⟨s0, s1, s2, s3⟩; go_simp; with_reducible rfl) (by simp only [Act.put, List.setIfInBounds_toArray, List.set_cons_zero, List.set_cons_succ, i64_w, i32_w]; rfl) ?_)
  iterate 2 (refine lex_p rfl rfl rfl (by intro w'; go_simp; with_reducible rfl) (by simp only [Act.put, List.setIfInBounds_toArray, List.set_cons_zero, List.set_cons_succ, i64_w, i32_w]; rfl) ?_)
  (refine lex_t rfl rfl rfl (by rintro w' ⟨s0, s1, s2, s3⟩; go_simp; with_reducible rfl) (by simp only [Act.put, List.setIfInBounds_toArray, List.set_cons_zero, List.set_cons_succ, i64_w, i32_w]; rfl) ?_)
  refine lex_o rfl ?_
  go_wp2_with fail
  refine (equalC A B c d l V.drew (Kd.C_below HC1.out (below_drew (Below.refl _ _))) (Kd.C_below HC2.out (below_drew (Below.refl _ _))) HL.out).mono ?_
  rintro e w2 ⟨rfl, hb⟩
  have B1 := Aside0.mk ((below_drew (Below.refl V.heap.size V)).trans hb)
  clear hb
  go_wp2_with fail
  refine lex_end (by first | (simp only [Act.put, List.setIfInBounds_toArray, List.set_cons_zero, List.set_cons_succ, i64_w, i32_w]; rfl) | rfl) (HF.out _ B1.out) (fun hHeld => ?_)
  iterate 2 (refine lex_p rfl rfl rfl (by intro w'; go_simp; with_reducible rfl) (by simp only [Act.put, List.setIfInBounds_toArray, List.set_cons_zero, List.set_cons_succ, i64_w, i32_w]; rfl) ?_)
  (refine lex_t rfl rfl rfl (by rintro w' ⟨s0, s1, s2, s3⟩; go_simp; with_reducible rfl) (by simp only [Act.put, List.setIfInBounds_toArray, List.set_cons_zero, List.set_cons_succ, i64_w, i32_w]; rfl) ?_)
  iterate 2 (refine lex_p rfl rfl rfl (by intro w'; go_simp; with_reducible rfl) (by simp only [Act.put, List.setIfInBounds_toArray, List.set_cons_zero, List.set_cons_succ, i64_w, i32_w]; rfl) ?_)
  (refine lex_t rfl rfl rfl (by rintro w' ⟨s0, s1, s2, s3⟩; go_simp; with_reducible rfl) (by simp only [Act.put, List.setIfInBounds_toArray, List.set_cons_zero, List.set_cons_succ, i64_w, i32_w]; rfl) ?_)
  refine lex_o rfl ?_
  go_wp2_with fail
  refine (noneFC 36 #[ptr w.heap.size, ptr (w.heap.size + 1)] (eg 36 Try.func36 (by kernel_rfl) rfl) A c l w2 (HPR.out w2 B1.out) (Kd.C_below HC1.out B1.out)).mono ?_
  rintro e w3 ⟨rfl, hb⟩
  have B2 := Aside0.mk (B1.out.trans (hb.mono B1.out.size))
  clear hb
  go_wp2_with fail
  refine lex_end (by first | (simp only [Act.put, List.setIfInBounds_toArray, List.set_cons_zero, List.set_cons_succ, i64_w, i32_w]; rfl) | rfl) (HF.out _ B2.out) (fun hHeld => ?_)
  iterate 3 (refine lex_p rfl rfl rfl (by intro w'; go_simp; with_reducible rfl) (by simp only [Act.put, List.setIfInBounds_toArray, List.set_cons_zero, List.set_cons_succ, i64_w, i32_w]; rfl) ?_)
  refine lex_nil ?_
  go_wp2_with fail
  go_ret
  exact ⟨rfl, HB0.out.trans (B2.out.mono HB0.out.size)⟩
end Go.Proofs.Ytndjhnipahkclaa.Ke

set_option linter.unusedSimpArgs false
set_option linter.unusedVariables false
namespace Go.Proofs.Ytndjhnipahkclaa.Ke
open Go.RowKit Go.Proofs.YtndjhnipahkclaaW.PrintWords Go.Proofs.YtndjhnipahkclaaW.PrintLast Go.Proofs.YtndjhnipahkclaaW.PrintMore Go.Proofs.Ytndjhnipahkclaa.PKeysPlay Go.Proofs.Ytndjhnipahkclaa.Lex Go.Proofs.Ytndjhnipahkclaa.Lib
/-- keys of the program's (at p) and of the document's (in block g) that hold the same -/
structure Pair (w0 W : World) (g p i : Nat) (l : List S36) (W2 : List S72) (S T : Nat → Prop) (A : Option Addr) (c : Nat) (B : Option Addr) (d : Nat) : Prop where
  ob : Ob g W [.slice A l.length c, .slice B W2.length d]
  gr : GR T W (.agg #[.slice A l.length c, .slice B W2.length d]) l W2
  kx : KX S p W l (fW W2) i
  inv : Inv l (fW W2)
  wf : ∀ x ∈ l, (kl x.f0).wf = true
  len : W2.length ≤ i
  hS : ∀ k, S k → w0.heap.size ≤ k ∧ k < W.heap.size ∧ k ≠ g
  hT : ∀ k, T k → w0.heap.size ≤ k ∧ k < W.heap.size ∧ k ≠ g
  hST : ∀ k, S k → ¬ T k
  hg : w0.heap.size ≤ g
section
variable {w0 W W' : World} {g p i : Nat} {l : List S36} {W2 : List S72} {S T : Nat → Prop} {A : Option Addr} {c : Nat} {B : Option Addr} {d : Nat}
theorem Pair.keep (h : Pair w0 W g p i l W2 S T A c B d) (hs : W.heap.size ≤ W'.heap.size) (hb : ∀ k, S k ∨ T k ∨ k = g → W'.heap[k]? = W.heap[k]?) : Pair w0 W' g p i l W2 S T A c B d :=
  ⟨h.ob.same (hb g (.inr (.inr rfl))), h.gr.same (fun k hk => hb k (.inr (.inl hk))), h.kx.same (fun k hk => hb k (.inl hk)), h.inv, h.wf, h.len, fun k hk => ⟨(h.hS k hk).1, by have := (h.hS k hk).2.1; omega, (h.hS k hk).2.2⟩, fun k hk => ⟨(h.hT k hk).1, by have := (h.hT k hk).2.1; omega, (h.hT k hk).2.2⟩, h.hST, h.hg⟩
theorem Pair.below (h : Pair w0 W g p i l W2 S T A c B d) (hb : Below W.heap.size W W') : Pair w0 W' g p i l W2 S T A c B d :=
  h.keep hb.size (fun k hk => hb.block k (by
    have := h.ob.lt
    rcases hk with hk | hk | hk
    · exact (h.hS k hk).2.1
    · exact (h.hT k hk).2.1
    · omega))
theorem pairDo (h : Pair w0 W g p i l W2 S T A c B d) (a : S38) (ha : okA a) (hi : i < 1000) : Calls Try.prog 11 #[ptr p, .agg #[.slice A l.length c, .slice B W2.length d], a38 a] W.drew fun e w' => ∃ (b : Bool) (A' : Option Addr) (c' : Nat) (B' : Option Addr) (d' : Nat) (S' T' : Nat → Prop) (W5 : World), e = .returned (.tuple #[.agg #[.slice A' (stG l W2 a).1.length c', .slice B' (stG l W2 a).2.1.length d'], .bool b]) ∧ But W.heap.size S W w' ∧ (storeVar 30 ⟨g, 0, none⟩ (.agg #[.slice A' (stG l W2 a).1.length c', .slice B' (stG l W2 a).2.1.length d'])).run Try.prog w' = .ok () W5 ∧ Pair w0 W5 g p (i + 1) (stG l W2 a).1 (stG l W2 a).2.1 S' T' A' c' B' d' ∧ But W.heap.size (fun k => S k ∨ k = g) W W5 ∧ (∀ k, S' k → S k ∨ W.heap.size ≤ k) ∧ (∀ k, T' k → T k ∨ W.heap.size ≤ k) := by
  have hd := below_drew (Below.refl W.heap.size W)
  have hgl := h.ob.lt
  have hfew := h.inv.few
  have hlen := h.len
  refine (doesC (h.gr.below hd) (h.kx.below hd) (fun k hk => (h.hS k hk).2.1) (fun k hk => (h.hT k hk).2.1) h.hST a ha (by omega) (by omega) (by omega) (by omega)).mono ?_
  rintro e w' ⟨v, b, S', T', rfl, ⟨hg', _⟩, hk', hbt, hS', hT', hST'⟩
  obtain ⟨e1, e2, e3⟩ := st_eq h.inv a
  have hinv := st_inv h.inv a
  have hwf := st_wf (f := fW W2) a ha h.wf
  rw [e1, e2] at hk' hinv
  rw [e1] at hwf
  obtain ⟨A', c', B', d', rfl, _⟩ := id hg'
  have hB : But W.heap.size S W w' := (But.of hd (Nat.le_refl _)).trans hbt
  have hsz := hB.size
  have hS2 : ∀ k, S' k → (w0.heap.size ≤ k ∧ k < w'.heap.size ∧ k ≠ g) ∧ (S k ∨ W.heap.size ≤ k) := fun k hk => by
    rcases hS' k hk with h1 | ⟨h1, h2⟩
    · have := h.hS k h1
      exact ⟨⟨this.1, by omega, this.2.2⟩, .inl h1⟩
    · have h1 : W.heap.size ≤ k := h1
      have := h.hg
      exact ⟨⟨by omega, h2, by omega⟩, .inr h1⟩
  have hT2 : ∀ k, T' k → (w0.heap.size ≤ k ∧ k < w'.heap.size ∧ k ≠ g) ∧ (T k ∨ W.heap.size ≤ k) := fun k hk => by
    rcases hT' k hk with h1 | ⟨h1, h2⟩
    · have := h.hT k h1
      exact ⟨⟨this.1, by omega, this.2.2⟩, .inl h1⟩
    · have h1 : W.heap.size ≤ k := h1
      have := h.hg
      exact ⟨⟨by omega, h2, by omega⟩, .inr h1⟩
  obtain ⟨W5, h5, h6, h7⟩ := store30 (c := .slice A' (stG l W2 a).1.length c') (d := .slice B' (stG l W2 a).2.1.length d') (h.ob.but hB hgl (fun hs => (h.hS _ hs).2.2 rfl)) rfl rfl
  have h7s := h7.size
  refine ⟨b, A', c', B', d', S', T', W5, rfl, hB, h5, ⟨h6, hg'.same (fun k hk => h7.block k (hT2 k hk).1.2.1 (hT2 k hk).1.2.2), hk'.same (fun k hk => h7.block k (hS2 k hk).1.2.1 (hS2 k hk).1.2.2), hinv, hwf, by have := st_few l W2 a; omega, fun k hk => ⟨(hS2 k hk).1.1, by have := (hS2 k hk).1.2.1; omega, (hS2 k hk).1.2.2⟩, fun k hk => ⟨(hT2 k hk).1.1, by have := (hT2 k hk).1.2.1; omega, (hT2 k hk).1.2.2⟩, hST', h.hg⟩, ?_, fun k hk => (hS2 k hk).2, fun k hk => (hT2 k hk).2⟩
  exact (hB.mono (Nat.le_refl _) (fun k _ hk => .inl hk)).trans (h7.mono (by omega) (fun k _ hk => .inr hk))
end
/-- the document's keys behind calls -/
def runG (s : List S36 × List S72) (L : List S38) : List S36 × List S72 := L.foldl (fun s a => ((stG s.1 s.2 a).1, (stG s.1 s.2 a).2.1)) s
theorem runG_step (s : List S36 × List S72) (L : List S38) (i : Nat) (hi : i < L.length) : runG s (L.take (i + 1)) = ((stG (runG s (L.take i)).1 (runG s (L.take i)).2 (L.getD i z38)).1, (stG (runG s (L.take i)).1 (runG s (L.take i)).2 (L.getD i z38)).2.1) := by
  have e : L.take (i + 1) = L.take i ++ [L.getD i z38] := by
    rw [List.take_succ_eq_append_getElem hi, List.getD_eq_getElem?_getD, List.getElem?_eq_getElem hi]
    rfl
  unfold runG
  rw [e, List.foldl_append]
  rfl
end Go.Proofs.Ytndjhnipahkclaa.Ke
