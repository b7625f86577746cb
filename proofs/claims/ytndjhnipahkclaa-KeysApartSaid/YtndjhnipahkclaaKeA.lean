/- Keys: Copy; what keys that are not there answer. · Keys: what is done for one peer changes nothing of another (plain). · Keys: KeysApart's walk. -/
import Derived.Test.YtndjhnipahkclaaKeP
import Derived.Shelf.SlMaps.Clone
set_option linter.unusedSimpArgs false
set_option linter.unusedVariables false
namespace Go.Proofs.Ytndjhnipahkclaa.Ke
open Go.RowKit Go.Proofs.YtndjhnipahkclaaW.PrintWords Go.Proofs.YtndjhnipahkclaaW.PrintLast Go.Proofs.YtndjhnipahkclaaW.PrintMore Go.Proofs.Ytndjhnipahkclaa.PKeysPlay Go.Proofs.Ytndjhnipahkclaa.Lex Go.Proofs.Ytndjhnipahkclaa.Lib
set_option maxHeartbeats 2000000 in
theorem mapCloneC (m n : Nat) (f : Int → Option Int) (w : World) (h : MapIs w m n f) : Calls Try.prog 31 #[.map (some m)] w fun e w' => e = .returned (.map (some w.heap.size)) ∧ MapIs w' w.heap.size n f ∧ Below w.heap.size w w' ∧ w'.heap.size = w.heap.size + 1 := by
  obtain ⟨D, ⟨es, clock, hb, h2, h3, h4⟩, hf⟩ := h
  have HM : Aside0 (MapIs (w.alloc (.map es clock)) w.heap.size n f) := ⟨⟨D, ⟨es, clock, heap_alloc_new w _, h2, h3, h4⟩, hf⟩⟩
  have HB := Aside0.mk (below_alloc (Below.refl w.heap.size w) (.map es clock))
  have HS : Aside0 ((w.alloc (.map es clock)).heap.size = w.heap.size + 1) := ⟨by simp⟩
  have hq := fun w => map_nil w (some m)
  clear hf h2 h3 h4
  go_enter Try.func31, Try.ntmps31
  go_wp2
  rw [run_callFunc_extern Try.func45 (by kernel_rfl) (by kernel_rfl) (by kernel_rfl) (e := Extern.MapsClone.clone) (by kernel_rfl), run_maps_clone_sl w 47 hb]
  simp only [Result.andThen]
  rw [Oper.upon_value]
  go_wp2
  rw [run_typeAssert_map_sl _ 47 20 _ _ _ Try.underlying47]
  simp only [Result.andThen]
  rw [Oper.upon_value]
  go_wp2
  go_ret
  exact ⟨rfl, HM.out, HB.out, HS.out⟩
set_option maxHeartbeats 4000000 in
theorem copyC {S : Nat → Prop} {p N : Nat} {w : World} {l : List S36} {f : Int → Option Int} (h : KX S p w l f N) (hl : l.length ≤ 100000) : Calls Try.prog 13 #[ptr p] w fun e w' => ∃ p', e = .returned (ptr p') ∧ KX (fun k => w.heap.size ≤ k ∧ k < w'.heap.size) p' w' l f N ∧ Below w.heap.size w w' := by
  obtain ⟨m, n, A, c, hk, hn⟩ := h
  have h1 := hk.c1
  have HK := Aside0.mk hk
  have HL := Aside0.mk hl
  have HN := Aside0.mk hn
  have HF : Aside0 (∀ U, Below w.heap.size w U → U.cell? ⟨p, 0, none⟩ = some (.slice A l.length c) ∧ U.cell? ⟨p, 1, none⟩ = some (.map (some m))) := ⟨fun U hU => ⟨(hk.below hU).c0, (hk.below hU).c1⟩⟩
  clear hk hl hn
  go_enter Try.func13, Try.ntmps13
  go_wp2_with fail
  refine (none_some h1).mono ?_
  rintro e w' ⟨rfl, rfl⟩
  clear h1
  go_wp2_with fail
  refine regionT (.one 0 .p (.one 1 .p (.one 2 .p (.one 5 .p (.one 6 .p (.one 7 .p (.one 3 .t (.one 8 .t (.one 4 .o (.one 9 .o (.one 10 .p (.one 11 .o (.one 12 .p .nil))))))))))))) (fun U => U.cell? ⟨p, 0, none⟩ = some (.slice A l.length c) ∧ U.cell? ⟨p, 1, none⟩ = some (.map (some m))) (by kernel_rfl) (by kernel_rfl) (fun _ _ _ _ _ h => h) (HF.out _ (below_drew (Below.refl _ _))) (fun hHeld => ?_)
  iterate 6 (refine lt_p rfl rfl rfl (by intro w'; go_simp; with_reducible rfl) (by simp only [Act.put, List.setIfInBounds_toArray, List.set_cons_zero, List.set_cons_succ, i64_w, i32_w]; rfl) ?_)
  iterate 2 (refine lt_t rfl rfl rfl (by rintro w' ⟨s0, s1⟩; go_simp; with_reducible rfl) (by simp only [Act.put, List.setIfInBounds_toArray, List.set_cons_zero, List.set_cons_succ, i64_w, i32_w]; rfl) ?_)
  refine lt_o rfl ?_
  go_wp2_with fail
  refine (cloneK A c l w.drew (HK.out.below (below_drew (Below.refl _ _))).row HL.out).mono ?_
  rintro e w2 ⟨v, rfl, ho, hb⟩
  have B1 := Aside0.mk ((below_drew (Below.refl w.heap.size w)).trans hb)
  have HO := Aside0.mk ho
  obtain ⟨A5, c5, rfl, _, _⟩ := HO.out.reads
  clear ho hb
  go_wp2_with fail
  refine lt_end (by first | (simp only [Act.put, List.setIfInBounds_toArray, List.set_cons_zero, List.set_cons_succ, i64_w, i32_w]; rfl) | rfl) (HF.out _ B1.out) (fun hHeld => ?_)
  refine lt_o rfl ?_
  go_wp2_with fail
  refine (mapCloneC m n f w2 (HK.out.below B1.out).map).mono ?_
  rintro e w3 ⟨rfl, hm, hb, hz⟩
  have B2 := Aside0.mk (B1.out.trans (hb.mono B1.out.size))
  have HM3 := Aside0.mk hm
  have HO3 : Aside0 (OK w.heap.size w3 (.slice A5 l.length c5) l) := ⟨Kd.R_below HO.out hb⟩
  obtain ⟨m', HM'⟩ : ∃ m', Aside0 (w2.heap.size = m') := ⟨_, ⟨rfl⟩⟩
  have HMW : Aside0 (w.heap.size ≤ m' ∧ m' < w3.heap.size) := ⟨by have h1 := B1.out.size; have h2 := HM'.out; exact ⟨by omega, by omega⟩⟩
  have HOM : Aside0 (∀ k, (Value.slice A5 l.length c5).ownBlock = some k → k ≠ m') := ⟨fun k hk e => by
    have h1 := Kd.R_lt HO.out k hk
    have h2 := HM'.out
    omega⟩
  rw [HM'.out] at HM3 ⊢
  clear hm hb hz
  go_wp2_with fail
  refine lt_end (by first | (simp only [Act.put, List.setIfInBounds_toArray, List.set_cons_zero, List.set_cons_succ, i64_w, i32_w]; rfl) | rfl) (HF.out _ B2.out) (fun hHeld => ?_)
  (refine lt_p rfl rfl rfl (by intro w'; go_simp; with_reducible rfl) (by simp only [Act.put, List.setIfInBounds_toArray, List.set_cons_zero, List.set_cons_succ, i64_w, i32_w]; rfl) ?_)
  refine lt_o rfl ?_
  go_wp2_with fail
  have B3 := Aside0.mk (below_alloc B2.out (.cells #[.slice A5 l.length c5, .map (some m')] 49))
  refine lt_end (by first | (simp only [Act.put, List.setIfInBounds_toArray, List.set_cons_zero, List.set_cons_succ, i64_w, i32_w]; rfl) | rfl) (HF.out _ B3.out) (fun hHeld => ?_)
  (refine lt_p rfl rfl rfl (by intro w'; go_simp; with_reducible rfl) (by simp only [Act.put, List.setIfInBounds_toArray, List.set_cons_zero, List.set_cons_succ, i64_w, i32_w]; rfl) ?_)
  refine lt_nil ?_
  go_wp2_with fail
  go_ret
  have hs2 := B2.out.size
  have hs3 := (below_alloc (Below.refl w3.heap.size w3) (.cells #[.slice A5 l.length c5, .map (some m')] 49))
  have hmw := HMW.out
  have hsz : (w3.alloc (.cells #[.slice A5 l.length c5, .map (some m')] 49)).heap.size = w3.heap.size + 1 := by simp
  refine ⟨w3.heap.size, rfl, ⟨m', n, A5, c5, ⟨Ob.new w3 [.slice A5 l.length c5, .map (some m')] _ rfl 49, ?_, HM3.out.same (hs3.block m' hmw.2), by omega, ⟨⟨by omega, by omega⟩, ⟨by omega, by omega⟩⟩⟩, HN.out⟩, B3.out⟩
  refine ⟨fun k hk => ?_, (Kd.R_lower (Kd.R_below HO3.out hs3) (Nat.zero_le _)).2.imp_ (fun _ _ hp => ?_)⟩
  · obtain ⟨_, h1, h2, _⟩ := (Kd.R_bound HO3.out).1 k hk
    exact ⟨⟨by omega, by omega⟩, by omega, HOM.out k hk⟩
  · have e := k36_openM hp
    rw [e]
    exact k36_mkM _ _ _ _
theorem copyNil (w : World) : Calls Try.prog 13 #[.pointer none] w fun e w' => e = .returned (.pointer none) ∧ Below w.heap.size w w' := by
  go_enter Try.func13, Try.ntmps13
  go_wp2_with fail
  refine (none_nil w).mono ?_
  rintro e _ ⟨rfl, rfl⟩
  go_wp2_with fail
  go_ret
  exact ⟨rfl, Below.refl _ _⟩
theorem allZero {p : Nat} (w : World) (c1 : w.cell? ⟨p, 1, none⟩ = some (.map none)) : Calls Try.prog 15 #[ptr p] w fun e w' => e = .returned (.slice none 0 0) ∧ Below w.heap.size w w' := by
  go_enter Try.func15, Try.ntmps15
  go_wp2_with fail
  refine (none_zero c1).mono ?_
  rintro e _ ⟨rfl, rfl⟩
  go_wp2_with fail
  go_ret
  exact ⟨rfl, Below.refl _ _⟩
end Go.Proofs.Ytndjhnipahkclaa.Ke

set_option linter.unusedSimpArgs false
set_option linter.unusedVariables false
namespace Go.Proofs.Ytndjhnipahkclaa.Ke
open Go.RowKit Go.Proofs.YtndjhnipahkclaaW.PrintWords Go.Proofs.YtndjhnipahkclaaW.PrintLast Go.Proofs.YtndjhnipahkclaaW.PrintMore Go.Proofs.Ytndjhnipahkclaa.PKeysPlay Go.Proofs.Ytndjhnipahkclaa.Lex Go.Proofs.Ytndjhnipahkclaa.Lib
theorem find_filter {P Q : S36 → Bool} (h : ∀ x, P x = true → Q x = true) : ∀ l : List S36, (l.filter Q).find? P = l.find? P ∧ (l.filter Q).any P = l.any P
  | [] => ⟨rfl, rfl⟩
  | x :: l => by
    obtain ⟨h1, h2⟩ := find_filter h l
    cases hq : Q x with
    | true =>
      rw [List.filter_cons_of_pos hq]
      refine ⟨?_, by simp only [List.any_cons, h2]⟩
      cases hp : P x with
      | true => rw [List.find?_cons_of_pos hp, List.find?_cons_of_pos hp]
      | false => rw [List.find?_cons_of_neg (by rw [hp]; decide), List.find?_cons_of_neg (by rw [hp]; decide), h1]
    | false =>
      have hp : P x = false := by
        cases hp : P x with
        | false => rfl
        | true => rw [h x hp] at hq; cases hq
      rw [List.filter_cons_of_neg (by rw [hq]; decide)]
      exact ⟨by rw [h1, List.find?_cons_of_neg (by rw [hp]; decide)], by rw [h2, List.any_cons, hp, Bool.false_or]⟩
theorem far {l : List S36} {f : Int → Option Int} (a : S38) (q : Int) (hq : q ≠ a.f1.f0) : (stK l f a).1.find? (prefP (stK l f a).2.1 q) = l.find? (prefP f q) ∧ (stK l f a).1.any (prefP (stK l f a).2.1 q) = l.any (prefP f q) := by
  have hx : prefP f q a.f1 = false := by
    have : (a.f1.f0 == q) = false := by simpa using fun e => hq e.symm
    simp only [prefP, this, Bool.false_and]
  unfold stK
  by_cases h1 : a.f0 = 1
  · rw [if_pos h1]
    show (addS l a.f1).1.find? (prefP f q) = _ ∧ (addS l a.f1).1.any (prefP f q) = _
    unfold addS
    by_cases g1 : badP a.f1 = true
    · rw [if_pos g1]; exact ⟨rfl, rfl⟩
    rw [if_neg g1]
    by_cases g2 : l.any (twiceP a.f1) = true
    · rw [if_pos g2]; exact ⟨rfl, rfl⟩
    rw [if_neg g2]
    by_cases g3 : 16 ≤ l.length
    · rw [if_pos g3]; exact ⟨rfl, rfl⟩
    rw [if_neg g3]
    refine ⟨?_, ?_⟩
    · show (l ++ [a.f1]).find? _ = _
      rw [List.find?_append, List.find?_cons_of_neg (by rw [hx]; decide)]
      cases l.find? (prefP f q) <;> rfl
    · show (l ++ [a.f1]).any _ = _
      rw [List.any_append]
      simp [hx]
  rw [if_neg h1]
  by_cases h2 : a.f0 = 2
  · rw [if_pos h2]
    show (remK l f a.f1.f0 a.f1.f1).1.find? (prefP f q) = _ ∧ (remK l f a.f1.f0 a.f1.f1).1.any (prefP f q) = _
    unfold remK
    cases ha : l.any (sendP a.f1.f0 a.f1.f1) with
    | false => rw [if_pos rfl]; exact ⟨rfl, rfl⟩
    | true =>
      rw [if_neg (by decide)]
      obtain ⟨i, g1, g2, g3, g4⟩ := idx_found ha
      by_cases he : eqB ((l.find? (prefP f a.f1.f0)).getD z36) ((l.find? (sendP a.f1.f0 a.f1.f1)).getD z36) = true
      · rw [if_pos he]; exact ⟨rfl, rfl⟩
      rw [if_neg he]
      refine find_filter (fun x hp => ?_) l
      rw [g4]
      cases hxe : eqB x (l.getD i z36) with
      | false => rfl
      | true =>
        exfalso
        simp only [eqB, Bool.and_eq_true, beq_iff_eq] at hxe
        simp only [sendP, Bool.and_eq_true, beq_iff_eq] at g3
        simp only [prefP, Bool.and_eq_true, beq_iff_eq] at hp
        exact hq (by rw [← hp.1, hxe.1, g3.1])
  rw [if_neg h2]
  by_cases h3 : a.f0 = 3
  · rw [if_pos h3]
    have hf : prefP (prfK l f a.f1.f0 a.f1.f1).1 q = prefP f q := by
      unfold prfK
      cases ha : l.any (sendP a.f1.f0 a.f1.f1) with
      | false => rw [if_pos rfl]
      | true =>
        rw [if_neg (by decide)]
        funext x
        simp only [prefP, if_neg hq]
    show l.find? (prefP (prfK l f a.f1.f0 a.f1.f1).1 q) = _ ∧ l.any (prefP (prfK l f a.f1.f0 a.f1.f1).1 q) = _
    rw [hf]
    exact ⟨rfl, rfl⟩
  rw [if_neg h3]
  exact ⟨rfl, rfl⟩
theorem st_wf {l : List S36} {f : Int → Option Int} (a : S38) (ha : okA a) (h : ∀ x ∈ l, (kl x.f0).wf = true) : ∀ x ∈ (stK l f a).1, (kl x.f0).wf = true := by
  unfold stK
  by_cases h1 : a.f0 = 1
  · rw [if_pos h1]
    show ∀ x ∈ (addS l a.f1).1, _
    unfold addS
    by_cases g1 : badP a.f1 = true
    · rw [if_pos g1]; exact h
    rw [if_neg g1]
    by_cases g2 : l.any (twiceP a.f1) = true
    · rw [if_pos g2]; exact h
    rw [if_neg g2]
    by_cases g3 : 16 ≤ l.length
    · rw [if_pos g3]; exact h
    rw [if_neg g3]
    intro x hx
    rcases List.mem_append.1 hx with hx | hx
    · exact h x hx
    · obtain rfl := List.mem_singleton.1 hx
      exact ha.1
  rw [if_neg h1]
  by_cases h2 : a.f0 = 2
  · rw [if_pos h2]
    show ∀ x ∈ (remK l f a.f1.f0 a.f1.f1).1, _
    unfold remK
    cases l.any (sendP a.f1.f0 a.f1.f1) with
    | false => rw [if_pos rfl]; exact h
    | true =>
      rw [if_neg (by decide)]
      by_cases he : eqB ((l.find? (prefP f a.f1.f0)).getD z36) ((l.find? (sendP a.f1.f0 a.f1.f1)).getD z36) = true
      · rw [if_pos he]; exact h
      rw [if_neg he]
      exact fun x hx => h x (List.mem_filter.1 hx).1
  rw [if_neg h2]
  by_cases h3 : a.f0 = 3
  · rw [if_pos h3]; exact h
  rw [if_neg h3]
  exact h
theorem own_pref {l : List S36} {f : Int → Option Int} (h : Inv l f) (k : Nat) (hk : k < l.length) : l.any (prefP f (l.getD k z36).f0) = true := by
  refine pref_any h _ (l.getD k z36).f1 (List.any_eq_true.2 ⟨l.getD k z36, ?_, by simp [sendP]⟩)
  rw [List.getD_eq_getElem?_getD, List.getElem?_eq_getElem hk]
  exact List.getElem_mem _
theorem own_apart {l : List S36} {f : Int → Option Int} (h : Inv l f) (k j : Nat) (hj : j < k) (hk : k < l.length) : ((l.getD k z36).f0 == (l.getD j z36).f0) = false ∨ (((l.getD k z36).f0 == (l.getD j z36).f0) = true ∧ ((l.getD k z36).f1 == (l.getD j z36).f1) = false ∧ ((l.getD k z36).f2 == (l.getD j z36).f2) = false) := by
  have h2 := List.pairwise_iff_getElem.1 h.apart j k (by omega) hk hj
  have e1 : l.getD k z36 = l[k] := by rw [List.getD_eq_getElem?_getD, List.getElem?_eq_getElem hk]; rfl
  have e2 : l.getD j z36 = l[j]'(by omega) := by rw [List.getD_eq_getElem?_getD, List.getElem?_eq_getElem (by omega)]; rfl
  rw [e1, e2]
  simp only [twiceP, Bool.and_eq_false_iff, Bool.or_eq_false_iff, beq_eq_false_iff_ne, ne_eq] at h2
  by_cases e0 : l[k].f0 = (l[j]'(by omega)).f0
  · refine .inr ⟨by simpa using e0, ?_, ?_⟩
    · rcases h2 with h2 | h2
      · exact absurd e0.symm h2
      · simpa using fun e => h2.1 e.symm
    · rcases h2 with h2 | h2
      · exact absurd e0.symm h2
      · simpa using fun e => h2.2 e.symm
  · exact .inl (by simpa using e0)
end Go.Proofs.Ytndjhnipahkclaa.Ke

set_option linter.unusedSimpArgs false
set_option linter.unusedVariables false
namespace Go.Proofs.Ytndjhnipahkclaa.Ke
open Go.RowKit Go.Proofs.YtndjhnipahkclaaW.PrintWords Go.Proofs.YtndjhnipahkclaaW.PrintLast Go.Proofs.YtndjhnipahkclaaW.PrintMore Go.Proofs.Ytndjhnipahkclaa.PKeysPlay Go.Proofs.Ytndjhnipahkclaa.Lex Go.Proofs.Ytndjhnipahkclaa.Lib
attribute [local go_sem high] eqA36n
/-- keys under way -/
def PlayA (w0 W : World) (p i : Nat) : Prop := ∃ (l : List S36) (f : Int → Option Int) (S : Nat → Prop), KX S p W l f i ∧ Inv l f ∧ (∀ x ∈ l, (kl x.f0).wf = true) ∧ (∀ k, S k → w0.heap.size ≤ k ∧ k < W.heap.size) ∧ Below w0.heap.size w0 W
set_option maxHeartbeats 32000000 in
set_option maxRecDepth 100000 in
theorem apartC (A : Option Addr) (c : Nat) (L : List S38) (w : World) (hC : Kd.C k38 w A L.length L) (hc : L.length ≤ c) (ho : ∀ x ∈ L, okA x) : Calls Try.prog 5 #[.slice A L.length c] w fun e w' => e = .returned (.bool true) ∧ Below w.heap.size w w' := by
  obtain ⟨bf, hbf, hfew⟩ := fewC A c L w hC hc
  have HF := Aside0.mk hfew
  have HC := Aside0.mk hC
  have HOK := Aside0.mk ho
  have HB40 := Aside0.mk hbf
  have KN := Aside0.mk knownC
  clear hC hc ho hfew hbf
  go_enter Try.func5, Try.ntmps5
  go_wp2_with fail
  refine HF.out.mono ?_
  rintro e w1 ⟨rfl, hd1⟩
  have HB1 := Aside0.mk hd1.below
  clear hd1
  cases bf with
  | false =>
    go_wp2_with fail
    refine (KN.out w1).mono ?_
    rintro e w2 ⟨rfl, hb2⟩
    have HB2 := Aside0.mk (HB1.out.trans (hb2.mono HB1.out.size))
    clear hb2
    go_wp2_with fail
    go_ret
    exact ⟨rfl, HB2.out⟩
  | true =>
    have h40 := HB40.out rfl
    have HN := Aside0.mk (newC w1)
    go_wp2_with fail
    refine HN.out.mono ?_
    rintro e w2 ⟨p, m, rfl, hk, hpw, hmw, hb2⟩
    have HP0 : Aside0 (PlayA w w2 p 0) := ⟨⟨[], fW [], _, ⟨m, 0, none, 0, hk, Nat.le_refl _⟩, Inv.nil, (fun x hx => by cases hx), (fun k hk => ⟨by have := HB1.out.size; omega, hk.2⟩), HB1.out.trans (hb2.mono HB1.out.size)⟩⟩
    clear hk hpw hmw hb2
    go_wp2_with fail
    go_loopg [4] L.length (fun gk s4 W => ∃ i : Nat, i ≤ L.length ∧ L.length - i ≤ gk ∧ s4 = .int .i64 i ∧ Aside0 (PlayA w W p i))
    case atStart => exact ⟨0, by omega, by omega, rfl, HP0⟩
    case round =>
      clear HP0
      obtain ⟨i, hi, hgk, rfl, HPS⟩ := hrel
      obtain ⟨gki, HGI⟩ : ∃ g : Nat, Aside0 (g = gk) := ⟨_, ⟨rfl⟩⟩
      obtain ⟨l, f, S, hkx, hinv, hwf, hS, hbw⟩ := HPS.out
      have HBW := Aside0.mk hbw
      have HIN := Aside0.mk hinv
      have HKX := Aside0.mk hkx
      by_cases hlt : i < L.length
      · obtain ⟨b, o, rfl, q0, q1, q2, q3, q4, q5⟩ := C_act HC.out i hlt
        obtain ⟨a, ha⟩ : ∃ a, L.getD i z38 = a := ⟨_, rfl⟩
        rw [ha] at q0 q1 q2 q3 q4 q5
        have hok : okA a := by rw [← ha, List.getD_eq_getElem?_getD, List.getElem?_eq_getElem hlt]; exact HOK.out _ (List.getElem_mem _)
        have HQ : Aside0 (∀ U, Below w.heap.size w U → (U).cell? ⟨b, o + i * 6, none⟩ = some (.int .i64 a.f0) ∧ (U).cell? ⟨b, o + i * 6 + 1, none⟩ = some (.int .u32 a.f1.f0) ∧ (U).cell? ⟨b, o + i * 6 + 2, none⟩ = some (.int .u8 a.f1.f1) ∧ (U).cell? ⟨b, o + i * 6 + 3, none⟩ = some (.int .u8 a.f1.f2) ∧ (U).cell? ⟨b, o + i * 6 + 4, none⟩ = some (.int .i64 a.f1.f3) ∧ (U).cell? ⟨b, o + i * 6 + 5, none⟩ = some (.string a.f1.f4)) := ⟨fun U hU => ⟨pw_cell_below hU q0, pw_cell_below hU q1, pw_cell_below hU q2, pw_cell_below hU q3, pw_cell_below hU q4, pw_cell_below hU q5⟩⟩
        have HOA := Aside0.mk hok
        have HS := Aside0.mk hS
        have HI2 := Aside0.mk (st_inv hinv a)
        have HW2 := Aside0.mk (st_wf (f := f) a hok hwf)
        have HFA := Aside0.mk (fun q hq => far (l := l) (f := f) a q hq)
        have HCP := Aside0.mk (copyC hkx (by have := hinv.few; omega))
        clear q0 q1 q2 q3 q4 q5 ha hok hS hkx hinv hwf hbw
        go_wp2_with fail
        refine HCP.out.mono ?_
        rintro e u2 ⟨p', rfl, hkc, hb2⟩
        have HU2 := Aside0.mk (HBW.out.trans (hb2.mono HBW.out.size))
        have hu2s := hb2.size
        obtain ⟨c0, c1, c2, c3, c4, c5⟩ := HQ.out u2 HU2.out
        have hdo := doesC (S := S) (T := fun _ => False) (p := p) (N := i) (l := l) (f := f) (GR.nil (fun _ => False) u2) (HKX.out.below hb2) (fun k hk => by have := (HS.out k hk).2; omega) (fun k hk => hk.elim) (fun k _ h => h) a HOA.out (by have := HIN.out.few; omega) (by decide) (by decide) (by omega)
        have HDO := Aside0.mk hdo
        have HKC := Aside0.mk hkc
        have HZ2 := Aside0.mk hu2s
        clear hb2 hkc hdo hu2s HCP
        go_wp2_with fail
        refine HDO.out.mono ?_
        rintro e u3 ⟨v, bq, S', T', rfl, _, hk3, hbt, hS', _, _⟩
        obtain ⟨l', hl'⟩ : ∃ l', (stK l f a).1 = l' := ⟨_, rfl⟩
        obtain ⟨f', hf'⟩ : ∃ f', (stK l f a).2.1 = f' := ⟨_, rfl⟩
        rw [hl', hf'] at hk3 HI2
        rw [hl'] at HW2
        simp only [hl', hf'] at HFA
        have HK3 := Aside0.mk hk3
        have hb3 := hbt.below (n' := w.heap.size) (by have := HU2.out.size; omega) (fun k hk h => by have := (HS.out k h).1; omega)
        have HB3 := Aside0.mk (HU2.out.trans hb3)
        have HKC3 := Aside0.mk (HKC.out.same (w' := u3) (fun k hk => hbt.block k hk.2 (fun h => by have := (HS.out k h).2; have := hk.1; omega)))
        have HS3 : Aside0 (∀ k, S' k → w.heap.size ≤ k ∧ k < u3.heap.size) := ⟨fun k hk => by
          have h3 := hbt.size
          have h4 := HU2.out.size
          rcases hS' k hk with h | ⟨h1, h2⟩
          · have h5 := HS.out k h
            have h6 := HZ2.out
            exact ⟨h5.1, by omega⟩
          · exact ⟨by omega, h2⟩⟩
        clear hk3 hbt hS' hb3 hl' hf' c0 c1 c2 c3 c4 c5 HDO HKC
        go_wp2_with fail
        go_loopg [6] 5 (fun gk s6 U => ∃ q : Nat, q ≤ 5 ∧ 5 - q ≤ gk ∧ s6 = .int .u32 q ∧ Aside0 (Below u3.heap.size u3 U))
        case atStart => exact ⟨0, by omega, by omega, rfl, ⟨Below.refl _ _⟩⟩
        case round =>
          obtain ⟨q, hq5, hgk2, rfl, HB⟩ := hrel
          by_cases hq : q < 5
          · have hqI : ((q : Int) < 5) := by omega
            have hwfq : (kl (q : Int)).wf = true := by
              rcases (by omega : q = 0 ∨ q = 1 ∨ q = 2 ∨ q = 3 ∨ q = 4) with rfl | rfl | rfl | rfl | rfl <;> rfl
            have HP := Aside0.mk (prefX (HKC3.out.below HB.out) (q : Int) hwfq)
            have HWQ := Aside0.mk hwfq
            clear hwfq
            go_wp2_with fail
            refine HP.out.mono ?_
            rintro e u4 ⟨rfl, hb4⟩
            obtain ⟨y, hy⟩ : ∃ y, (l.find? (prefP f (q : Int))).getD z36 = y := ⟨_, rfl⟩
            obtain ⟨is, his⟩ : ∃ y, l.any (prefP f (q : Int)) = y := ⟨_, rfl⟩
            rw [hy, his]
            have hb5 := (HB.out.trans (hb4.mono HB.out.size)).trans ((below_alloc (Below.refl u4.heap.size u4) (.cells #[.int .u32 y.f0, .int .u8 y.f1, .int .u8 y.f2, .int .i64 y.f3, .string y.f4] 36)).mono (HB.out.trans (hb4.mono HB.out.size)).size)
            have HP2 := Aside0.mk (prefX (HK3.out.below hb5) (q : Int) HWQ.out)
            have HB5 := Aside0.mk hb5
            have HOY := Aside0.mk (Ob.new u4 (c36 y) #[.int .u32 y.f0, .int .u8 y.f1, .int .u8 y.f2, .int .i64 y.f3, .string y.f4] rfl 36)
            have HY := Aside0.mk hy
            have HIS := Aside0.mk his
            clear hb4 hb5 hy his HP
            go_wp2_with fail
            refine HP2.out.mono ?_
            rintro e u6 ⟨rfl, hb6⟩
            obtain ⟨y2, hy2⟩ : ∃ y, (l'.find? (prefP f' (q : Int))).getD z36 = y := ⟨_, rfl⟩
            obtain ⟨is2, his2⟩ : ∃ y, l'.any (prefP f' (q : Int)) = y := ⟨_, rfl⟩
            rw [hy2, his2]
            have hoy6 := HOY.out.below hb6 HOY.out.lt
            have hoy7 := hoy6.below (below_alloc (Below.refl u6.heap.size u6) (.cells #[.int .u32 y2.f0, .int .u8 y2.f1, .int .u8 y2.f2, .int .i64 y2.f3, .string y2.f4] 36)) hoy6.lt
            have hb7 := (HB5.out.trans (hb6.mono HB5.out.size)).trans ((below_alloc (Below.refl u6.heap.size u6) (.cells #[.int .u32 y2.f0, .int .u8 y2.f1, .int .u8 y2.f2, .int .i64 y2.f3, .string y2.f4] 36)).mono (HB5.out.trans (hb6.mono HB5.out.size)).size)
            have HB7 := Aside0.mk hb7
            obtain ⟨_, c1, _, _, _, _⟩ := HQ.out _ (HB3.out.trans (hb7.mono HB3.out.size))
            have m0 := (hoy7 0 _ rfl).1
            have m1 := (hoy7 1 _ rfl).1
            have m2 := (hoy7 2 _ rfl).1
            have m3 := (hoy7 3 _ rfl).1
            have m4 := (hoy7 4 _ rfl).1
            have HY2 := Aside0.mk hy2
            have HIS2 := Aside0.mk his2
            have hqw : IntKind.u32.wrap ((q : Int) + 1) = ((q + 1 : Nat) : Int) := by rw [IntKind.wrap_u32]; omega
            obtain ⟨qz, HQZ⟩ : ∃ z : Int, Aside0 ((q : Int) = z) := ⟨_, ⟨rfl⟩⟩
            clear hb6 hoy6 hoy7 hb7 hy2 his2 HP2
            cases e0 : ((q : Int) != a.f1.f0) with
            | false =>
              go_wp2_with fail
              go_roundg (gk - 1)
              case measure => omega
              case rel => exact ⟨q + 1, by omega, by omega, by first | rfl | go_num | (rw [hqw]), HB7⟩
            | true =>
              have hfr := HFA.out (q : Int) (by simpa using e0)
              have ey : y2 = y := by rw [← HY2.out, ← HY.out, hfr.1]
              have eis : is2 = is := by rw [← HIS2.out, ← HIS.out, hfr.2]
              subst ey eis
              have hE : eqN y2.f0 y2.f1 y2.f2 y2.f3 y2.f4 y2.f0 y2.f1 y2.f2 y2.f3 y2.f4 = true := eqB_refl y2
              have hne : (is2 != is2) = false := by cases is2 <;> rfl
              clear hfr
              go_wp2_with fail
              go_roundg (gk - 1)
              case measure => omega
              case rel => exact ⟨q + 1, by omega, by omega, by first | rfl | go_num | (rw [hqw]), HB7⟩
          · obtain rfl : q = 5 := by omega
            have HAL := Aside0.mk (allX (HK3.out.below HB.out) (by have := HI2.out.few; omega))
            go_wp2_with fail
            refine HAL.out.mono ?_
            rintro e u8 ⟨v8, rfl, ho8, hb8⟩
            have HB8 := Aside0.mk (HB.out.trans (hb8.mono HB.out.size))
            obtain ⟨A8, c8, rfl, _, hC8⟩ := ho8.reads
            have HC8 := Aside0.mk hC8
            clear ho8 hb8 hC8 HAL
            go_wp2_with fail
            go_loopg [12] l'.length (fun gk s12 U => ∃ k : Nat, k ≤ l'.length ∧ l'.length - k ≤ gk ∧ s12 = .int .i64 k ∧ Aside0 (Below u8.heap.size u8 U))
            case atStart => exact ⟨0, by omega, by omega, rfl, ⟨Below.refl _ _⟩⟩
            case round =>
              obtain ⟨k, hk, hgk3, rfl, HBk⟩ := hrel
              have hl16 : l'.length ≤ 16 := HI2.out.few
              obtain ⟨gkk, HGK⟩ : ∃ g : Nat, Aside0 (g = gk) := ⟨_, ⟨rfl⟩⟩
              have HBK := Aside0.mk (HB8.out.trans (HBk.out.mono HB8.out.size))
              by_cases hkl : k < l'.length
              · obtain ⟨b8, o8, rfl, r0, r1, r2, r3, r4⟩ := C_key (Kd.C_below HC8.out HBk.out) k hkl
                have hmem : l'.getD k z36 ∈ l' := by rw [List.getD_eq_getElem?_getD, List.getElem?_eq_getElem hkl]; exact List.getElem_mem _
                have hpz := prefX (HK3.out.below HBK.out) (l'.getD k z36).f0 (HW2.out _ hmem)
                rw [own_pref HI2.out k hkl] at hpz
                obtain ⟨z, hz⟩ : ∃ z, l'.getD k z36 = z := ⟨_, rfl⟩
                rw [hz] at r0 r1 r2 r3 r4 hpz
                have HPZ := Aside0.mk hpz
                clear hmem hpz hz r1 r2 r3 r4
                go_wp2_with fail
                refine HPZ.out.mono ?_
                rintro e u9 ⟨rfl, hb9⟩
                obtain ⟨y3, hy3⟩ : ∃ y, (l'.find? (prefP f' z.f0)).getD z36 = y := ⟨_, rfl⟩
                rw [hy3]
                have HB9 := Aside0.mk ((HBk.out.trans (hb9.mono HBk.out.size)).trans ((below_alloc (Below.refl u9.heap.size u9) (.cells #[.int .u32 y3.f0, .int .u8 y3.f1, .int .u8 y3.f2, .int .i64 y3.f3, .string y3.f4] 36)).mono (HBk.out.trans (hb9.mono HBk.out.size)).size))
                clear hb9 hy3 r0 HPZ
                go_wp2_with fail
                go_loopg [15] k (fun gk s15 U => ∃ j : Nat, j ≤ k ∧ k - j ≤ gk ∧ s15 = .int .i64 j ∧ Aside0 (Below u8.heap.size u8 U))
                case atStart => exact ⟨0, by omega, by omega, rfl, HB9⟩
                case round =>
                  obtain ⟨j, hj, hgk4, rfl, HBj⟩ := hrel
                  by_cases hjk : j < k
                  · have hjI : ((j : Int) < (k : Int)) := by omega
                    have hjl : j < l'.length := by omega
                    obtain ⟨b9, o9, e9, r0, r1, r2, _, _⟩ := C_key (Kd.C_below HC8.out HBj.out) k hkl
                    obtain ⟨b7, o7, e7, t0, t1, t2, _, _⟩ := C_key (Kd.C_below HC8.out HBj.out) j hjl
                    injection e9 with e9
                    injection e9 with x1 x2
                    subst x1 x2
                    injection e7 with e7
                    injection e7 with x1 x2
                    subst x1 x2
                    have hap := own_apart HI2.out k j hjk hkl
                    obtain ⟨z1, hz1⟩ : ∃ z, l'.getD k z36 = z := ⟨_, rfl⟩
                    obtain ⟨z2, hz2⟩ : ∃ z, l'.getD j z36 = z := ⟨_, rfl⟩
                    rw [hz1] at r0 r1 r2 hap
                    rw [hz2] at t0 t1 t2 hap
                    have HBJ2 := Aside0.mk (HBj.out.trans ((below_drew (Below.refl wr.heap.size wr)).mono HBj.out.size))
                    clear hz1 hz2
                    rcases hap with e0 | ⟨e0, e1, e2⟩
                    · go_wp2_with fail
                      refine region [(0, .p), (1, .p), (2, .p), (3, .p), (5, .p), (6, .p), (7, .p), (8, .p), (4, .t), (9, .t), (10, .p), (11, .p), (12, .p), (13, .p), (14, .p), (15, .p), (16, .p), (17, .p), (18, .p), (19, .p), (20, .p), (21, .p), (22, .p), (23, .p), (24, .p), (25, .p), (26, .p), (27, .p), (28, .p), (29, .p), (30, .p), (31, .p), (32, .p), (33, .p), (34, .p), (35, .p), (36, .p)] (fun U => U = wr.drew) (by kernel_rfl) (by kernel_rfl) (fun _ _ _ _ _ h => h) (rfl) (fun hHeld => ?_)
                      iterate 8 (refine lex_p rfl rfl rfl (by intro w'; go_simp; with_reducible rfl) (by simp only [Act.put, List.setIfInBounds_toArray, List.set_cons_zero, List.set_cons_succ, i64_w, i32_w]; rfl) ?_)
                      iterate 2 (refine lex_t rfl rfl rfl (by rintro w' rfl; go_simp; with_reducible rfl) (by simp only [Act.put, List.setIfInBounds_toArray, List.set_cons_zero, List.set_cons_succ, i64_w, i32_w]; rfl) ?_)
                      iterate 2 (refine lex_p rfl rfl rfl (by intro w'; go_simp; with_reducible rfl) (by simp only [Act.put, List.setIfInBounds_toArray, List.set_cons_zero, List.set_cons_succ, i64_w, i32_w]; rfl) ?_)
                      iterate 24 (refine lex_off rfl rfl rfl (by simp only [Act.put, List.setIfInBounds_toArray, List.set_cons_zero, List.set_cons_succ, i64_w, i32_w]; rfl) ?_)
                      (refine lex_p rfl rfl rfl (by intro w'; go_simp; with_reducible rfl) (by simp only [Act.put, List.setIfInBounds_toArray, List.set_cons_zero, List.set_cons_succ, i64_w, i32_w]; rfl) ?_)
                      refine lex_nil ?_
                      go_wp2_with fail
                      go_roundg (gk - 1)
                      case measure => omega
                      case rel => exact ⟨j + 1, by omega, by omega, by go_num, HBJ2⟩
                    · go_wp2_with fail
                      refine region [(0, .p), (1, .p), (2, .p), (3, .p), (5, .p), (6, .p), (7, .p), (8, .p), (4, .t), (9, .t), (10, .p), (11, .p), (12, .p), (13, .p), (14, .p), (15, .p), (17, .p), (18, .p), (19, .p), (20, .p), (16, .t), (21, .t), (22, .p), (23, .p), (24, .p), (25, .p), (26, .p), (27, .p), (29, .p), (30, .p), (31, .p), (32, .p), (28, .t), (33, .t), (34, .p), (35, .p), (36, .p)] (fun U => U = wr.drew) (by kernel_rfl) (by kernel_rfl) (fun _ _ _ _ _ h => h) (rfl) (fun hHeld => ?_)
                      iterate 8 (refine lex_p rfl rfl rfl (by intro w'; go_simp; with_reducible rfl) (by simp only [Act.put, List.setIfInBounds_toArray, List.set_cons_zero, List.set_cons_succ, i64_w, i32_w]; rfl) ?_)
                      iterate 2 (refine lex_t rfl rfl rfl (by rintro w' rfl; go_simp; with_reducible rfl) (by simp only [Act.put, List.setIfInBounds_toArray, List.set_cons_zero, List.set_cons_succ, i64_w, i32_w]; rfl) ?_)
                      iterate 10 (refine lex_p rfl rfl rfl (by intro w'; go_simp; with_reducible rfl) (by simp only [Act.put, List.setIfInBounds_toArray, List.set_cons_zero, List.set_cons_succ, i64_w, i32_w]; rfl) ?_)
                      iterate 2 (refine lex_t rfl rfl rfl (by rintro w' rfl; go_simp; with_reducible rfl) (by simp only [Act.put, List.setIfInBounds_toArray, List.set_cons_zero, List.set_cons_succ, i64_w, i32_w]; rfl) ?_)
                      iterate 10 (refine lex_p rfl rfl rfl (by intro w'; go_simp; with_reducible rfl) (by simp only [Act.put, List.setIfInBounds_toArray, List.set_cons_zero, List.set_cons_succ, i64_w, i32_w]; rfl) ?_)
                      iterate 2 (refine lex_t rfl rfl rfl (by rintro w' rfl; go_simp; with_reducible rfl) (by simp only [Act.put, List.setIfInBounds_toArray, List.set_cons_zero, List.set_cons_succ, i64_w, i32_w]; rfl) ?_)
                      iterate 3 (refine lex_p rfl rfl rfl (by intro w'; go_simp; with_reducible rfl) (by simp only [Act.put, List.setIfInBounds_toArray, List.set_cons_zero, List.set_cons_succ, i64_w, i32_w]; rfl) ?_)
                      refine lex_nil ?_
                      go_wp2_with fail
                      go_roundg (gk - 1)
                      case measure => omega
                      case rel => exact ⟨j + 1, by omega, by omega, by go_num, HBJ2⟩
                  · obtain rfl : j = k := by omega
                    go_wp2_with fail
                    go_roundg (gkk - 1)
                    case measure => have := HGK.out; omega
                    case rel => have := HGK.out; exact ⟨j + 1, by omega, by omega, by go_num, HBj⟩
              · obtain rfl : k = l'.length := by omega
                have hlI2 : ¬ ((l'.length : Int) < (l'.length : Int)) := by omega
                have HPN : Aside0 (PlayA w wr p (i + 1)) := ⟨⟨l', f', S', HK3.out.below HBK.out, HI2.out, HW2.out, fun k hk => ⟨(HS3.out k hk).1, by have := (HS3.out k hk).2; have := HBK.out.size; omega⟩, HB3.out.trans (HBK.out.mono HB3.out.size)⟩⟩
                go_wp2_with fail
                go_roundg (gki - 1)
                case measure => have := HGI.out; omega
                case rel => have := HGI.out; exact ⟨i + 1, by omega, by omega, by go_num, HPN⟩
      · obtain rfl : i = L.length := by omega
        have hlI : ¬ ((L.length : Int) < (L.length : Int)) := by omega
        have h16 : decide ((l.length : Int) ≤ 16) = true := decide_eq_true (by have := hinv.few; omega)
        have HAL := Aside0.mk (allX hkx (by have := hinv.few; omega))
        clear hkx hinv hwf hS hbw
        go_wp2_with fail
        refine HAL.out.mono ?_
        rintro e u8 ⟨v8, rfl, ho8, hb8⟩
        have HB8 := Aside0.mk (HBW.out.trans (hb8.mono HBW.out.size))
        obtain ⟨A8, c8, rfl, _, hC8⟩ := ho8.reads
        clear ho8 hb8 hC8 HAL
        go_wp2_with fail
        refine (KN.out u8).mono ?_
        rintro e u9 ⟨rfl, hb9⟩
        have HB9 := Aside0.mk (HB8.out.trans (hb9.mono HB8.out.size))
        clear hb9
        go_wp2_with fail
        go_ret
        exact ⟨rfl, HB9.out⟩
end Go.Proofs.Ytndjhnipahkclaa.Ke
