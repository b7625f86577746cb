/- Keys: a call of the law's (does). · Keys: the plain law: the program's steps are the document's. · Keys: same: the keys stand as the document's. · Keys: few; a call of the law's, of any kind. · Keys: known: two keys, one preferred. · Keys: openers; KeysPlay's walk. -/
import Derived.Test.YtndjhnipahkclaaKe19
import Derived.Test.YtndjhnipahkclaaKe17B
import Derived.Test.YtndjhnipahkclaaOpen
set_option linter.unusedSimpArgs false
set_option linter.unusedVariables false
namespace Go.Proofs.Ytndjhnipahkclaa.Ke
open Go.RowKit Go.Proofs.YtndjhnipahkclaaW.PrintWords Go.Proofs.YtndjhnipahkclaaW.PrintLast Go.Proofs.YtndjhnipahkclaaW.PrintMore Go.Proofs.Ytndjhnipahkclaa.PKeysPlay Go.Proofs.Ytndjhnipahkclaa.Lex Go.Proofs.Ytndjhnipahkclaa.Lib
/-- Keys that are there, by what they hold -/
def KX (S : Nat → Prop) (p : Nat) (w : World) (l : List S36) (f : Int → Option Int) (N : Nat) : Prop := ∃ m n A c, KS S p m n w A c l f ∧ n ≤ N
theorem KS.mono {S S' : Nat → Prop} {p m n : Nat} {w : World} {A : Option Addr} {c : Nat} {l : List S36} {f : Int → Option Int} (h : KS S p m n w A c l f) (hs : ∀ k, S k → S' k) : KS S' p m n w A c l f :=
  ⟨h.ob, Kd.R_mono h.own (fun k hk => ⟨hs k hk.1, hk.2⟩), h.map, h.ne, ⟨hs _ h.inS.1, hs _ h.inS.2⟩⟩
section
variable {S S' : Nat → Prop} {p N : Nat} {w w' : World} {l : List S36} {f : Int → Option Int}
theorem KX.mono (h : KX S p w l f N) (hs : ∀ k, S k → S' k) : KX S' p w l f N := by
  obtain ⟨m, n, A, c, hk, hn⟩ := h
  exact ⟨m, n, A, c, hk.mono hs, hn⟩
theorem KX.below (h : KX S p w l f N) (hb : Below w.heap.size w w') : KX S p w' l f N := by
  obtain ⟨m, n, A, c, hk, hn⟩ := h
  exact ⟨m, n, A, c, hk.below hb, hn⟩
theorem KX.same (h : KX S p w l f N) (hb : ∀ k, S k → w'.heap[k]? = w.heap[k]?) : KX S p w' l f N := by
  obtain ⟨m, n, A, c, hk, hn⟩ := h
  exact ⟨m, n, A, c, hk.same hb, hn⟩
theorem KX.more (h : KX S p w l f N) : KX S p w l f (N + 1) := by
  obtain ⟨m, n, A, c, hk, hn⟩ := h
  exact ⟨m, n, A, c, hk, by omega⟩
theorem KX.lt (h : KX S p w l f N) : p < w.heap.size := by
  obtain ⟨m, n, A, c, hk, hn⟩ := h
  exact hk.ob.lt
theorem Gr.mono {S : Nat → Prop} {w0 w w' w1 : World} (h1 : w0.heap.size ≤ w.heap.size) (h2 : w'.heap.size ≤ w1.heap.size) : ∀ k, Gr S w w' k → Gr S w0 w1 k := fun k hk => hk.imp id (fun h => ⟨by omega, by omega⟩)
/-- what Remove of the program's answers, and leaves -/
def remK (l : List S36) (f : Int → Option Int) (peer send : Int) : List S36 × Int :=
  if l.any (sendP peer send) = false then (l, 5) else if eqB ((l.find? (prefP f peer)).getD z36) ((l.find? (sendP peer send)).getD z36) = true then (l, 201) else (l.filter (fun x => !eqB x ((l.find? (sendP peer send)).getD z36)), 0)
/-- what Prefer of the program's answers, and leaves -/
def prfK (l : List S36) (f : Int → Option Int) (peer send : Int) : (Int → Option Int) × Int :=
  if l.any (sendP peer send) = false then (f, 5) else ((fun j => if j = peer then some send else f j), 0)
theorem addK (h : KX S p w l f N) (hS : ∀ k, S k → k < w.heap.size) (x : S36) : Calls Try.prog 19 #[ptr p, a36 x] w fun e w' => e = .returned (.int .i64 (addS l x).2) ∧ KX (Gr S w w') p w' (addS l x).1 f N ∧ But w.heap.size S w w' := by
  obtain ⟨m, n, A, c, hk, hn⟩ := h
  unfold addS
  by_cases h1 : badP x = true
  · rw [if_pos h1]
    refine (addBad p m n A c l f x w hk h1).mono ?_
    rintro e w' ⟨rfl, hb⟩
    exact ⟨rfl, ⟨m, n, A, c, (hk.below hb).mono (fun _ => .inl), hn⟩, But.of hb (Nat.le_refl _)⟩
  rw [if_neg h1]
  have h1' : badP x = false := by simpa using h1
  by_cases h2 : l.any (twiceP x) = true
  · rw [if_pos h2]
    refine (addTwice p m n A c l f x w hk h1' h2).mono ?_
    rintro e w' ⟨rfl, hb⟩
    exact ⟨rfl, ⟨m, n, A, c, (hk.below hb).mono (fun _ => .inl), hn⟩, But.of hb (Nat.le_refl _)⟩
  rw [if_neg h2]
  have h2' : l.any (twiceP x) = false := by simpa using h2
  by_cases h3 : 16 ≤ l.length
  · rw [if_pos h3]
    refine (addFull p m n A c l f x w hk h1' h2' h3).mono ?_
    rintro e w' ⟨rfl, hb⟩
    exact ⟨rfl, ⟨m, n, A, c, (hk.below hb).mono (fun _ => .inl), hn⟩, But.of hb (Nat.le_refl _)⟩
  rw [if_neg h3]
  refine (addOK p m n A c l f x w hk h1' h2' (by omega) hS).mono ?_
  rintro e w' ⟨rfl, ⟨A', c', hk'⟩, hb⟩
  exact ⟨rfl, ⟨m, n, A', c', hk', hn⟩, hb⟩
theorem removeK (h : KX S p w l f N) (peer send : Int) (hp : (kl peer).wf = true) (hl : l.length ≤ 100000) : Calls Try.prog 20 #[ptr p, .int .u32 peer, .int .u8 send] w fun e w' => e = .returned (.int .i64 (remK l f peer send).2) ∧ KX (Gr S w w') p w' (remK l f peer send).1 f N ∧ But w.heap.size S w w' := by
  obtain ⟨m, n, A, c, hk, hn⟩ := h
  unfold remK
  by_cases h1 : l.any (sendP peer send) = false
  · rw [if_pos h1]
    refine (removeNo p m n A c l f peer send w hk h1).mono ?_
    rintro e w' ⟨rfl, hb⟩
    exact ⟨rfl, ⟨m, n, A, c, (hk.below hb).mono (fun _ => .inl), hn⟩, But.of hb (Nat.le_refl _)⟩
  rw [if_neg h1]
  have h1' : l.any (sendP peer send) = true := by simpa using h1
  by_cases h2 : eqB ((l.find? (prefP f peer)).getD z36) ((l.find? (sendP peer send)).getD z36) = true
  · rw [if_pos h2]
    refine (removeWanted p m n A c l f peer send w hk h1' hp _ _ rfl rfl h2).mono ?_
    rintro e w' ⟨rfl, hb⟩
    exact ⟨rfl, ⟨m, n, A, c, (hk.below hb).mono (fun _ => .inl), hn⟩, But.of hb (Nat.le_refl _)⟩
  rw [if_neg h2]
  have hm : (l.find? (sendP peer send)).getD z36 ∈ l := by
    obtain ⟨x, hx, hpx⟩ := List.any_eq_true.1 h1'
    cases hf : l.find? (sendP peer send) with
    | none => exact absurd hpx (by simpa using List.find?_eq_none.1 hf x hx)
    | some y => exact List.mem_of_find?_eq_some hf
  refine (removeOK p m n A c l f peer send w hk h1' hp _ _ rfl rfl hm (by simpa using h2) hl).mono ?_
  rintro e w' ⟨rfl, ⟨A', c', hk'⟩, hb⟩
  exact ⟨rfl, ⟨m, n, A', c', hk', hn⟩, hb⟩
theorem preferK (h : KX S p w l f N) (peer send : Int) (hp : (kl peer).wf = true) (hs : (Lit.int .u8 send).wf = true) (hN : N < 1000000) : Calls Try.prog 21 #[ptr p, .int .u32 peer, .int .u8 send] w fun e w' => e = .returned (.int .i64 (prfK l f peer send).2) ∧ KX (Gr S w w') p w' l (prfK l f peer send).1 (N + 1) ∧ But w.heap.size S w w' := by
  obtain ⟨m, n, A, c, hk, hn⟩ := h
  unfold prfK
  by_cases h1 : l.any (sendP peer send) = false
  · rw [if_pos h1]
    refine (preferNo p m n A c l f peer send w hk h1).mono ?_
    rintro e w' ⟨rfl, hb⟩
    exact ⟨rfl, ⟨m, n, A, c, (hk.below hb).mono (fun _ => .inl), by omega⟩, But.of hb (Nat.le_refl _)⟩
  rw [if_neg h1]
  refine (preferYes p m n A c l f peer send w hk (by simpa using h1) hp hs (by omega)).mono ?_
  rintro e w' ⟨rfl, hk', hb⟩
  have hm := hk.inS.2
  exact ⟨rfl, ⟨m, n + 1, A, c, hk'.mono (fun _ => .inl), by omega⟩, hb.mono (Nat.le_refl _) (fun k _ e => by subst e; exact hm)⟩
end
theorem doV (w : World) (A B : Option Addr) (l2 : List S36) (W2 : List S72) (c d : Nat) (z : Int) (x : S36) : ∃ V, (((w.alloc (.cells #[.slice A l2.length c, .slice B W2.length d] 30)).alloc (.cells #[.int .i64 z, .int .u32 x.f0, .int .u8 x.f1, .int .u8 x.f2, .int .i64 x.f3, .string x.f4] 38)).alloc (.cells #[.slice none 0 0, .slice none 0 0] 30)) = V ∧ Ob w.heap.size V [.slice A l2.length c, .slice B W2.length d] ∧ Ob (w.heap.size + 1) V [.int .i64 z, .int .u32 x.f0, .int .u8 x.f1, .int .u8 x.f2, .int .i64 x.f3, .string x.f4] ∧ Ob (w.heap.size + 1 + 1) V [.slice none 0 0, .slice none 0 0] ∧ Below w.heap.size w V ∧ V.heap.size = w.heap.size + 1 + 1 + 1 := by
  have s1 : (w.alloc (.cells #[.slice A l2.length c, .slice B W2.length d] 30)).heap.size = w.heap.size + 1 := by simp
  have s2 : ((w.alloc (.cells #[.slice A l2.length c, .slice B W2.length d] 30)).alloc (.cells #[.int .i64 z, .int .u32 x.f0, .int .u8 x.f1, .int .u8 x.f2, .int .i64 x.f3, .string x.f4] 38)).heap.size = w.heap.size + 1 + 1 := by simp
  refine ⟨_, rfl, ?_, ?_, ?_, below_alloc (below_alloc (below_alloc (Below.refl _ _) _) _) _, by simp⟩
  · have o1 : Ob w.heap.size (w.alloc (.cells #[.slice A l2.length c, .slice B W2.length d] 30)) [.slice A l2.length c, .slice B W2.length d] := Ob.new w _ _ rfl _
    exact (o1.below (below_alloc (Below.refl _ _) _) (by rw [s1]; omega)).below (below_alloc (Below.refl _ _) _) (by rw [s2]; omega)
  · have o2 := Ob.new (w.alloc (.cells #[.slice A l2.length c, .slice B W2.length d] 30)) [.int .i64 z, .int .u32 x.f0, .int .u8 x.f1, .int .u8 x.f2, .int .i64 x.f3, .string x.f4] #[.int .i64 z, .int .u32 x.f0, .int .u8 x.f1, .int .u8 x.f2, .int .i64 x.f3, .string x.f4] rfl 38
    rw [s1] at o2
    exact o2.below (below_alloc (Below.refl _ _) _) (by rw [s2]; omega)
  · have o3 := Ob.new ((w.alloc (.cells #[.slice A l2.length c, .slice B W2.length d] 30)).alloc (.cells #[.int .i64 z, .int .u32 x.f0, .int .u8 x.f1, .int .u8 x.f2, .int .i64 x.f3, .string x.f4] 38)) [.slice none 0 0, .slice none 0 0] _ rfl 30
    rw [s2] at o3
    exact o3
section
variable {S T : Nat → Prop} {p N : Nat} {w : World} {g : Value} {l l2 : List S36} {f : Int → Option Int} {W2 : List S72}
set_option maxHeartbeats 8000000 in
theorem does1 (hg : GR T w g l2 W2) (hk : KX S p w l f N) (hS : ∀ k, S k → k < w.heap.size) (hT : ∀ k, T k → k < w.heap.size) (hST : ∀ k, S k → ¬ T k) (x : S36) (hp0 : (kl x.f0).wf = true) (hp1 : (Lit.int .u8 x.f1).wf = true) (hl : l.length < 100000) (hl2 : l2.length < 100000) (hW : W2.length < 100000) (hN : N < 100000) : Calls Try.prog 11 #[ptr p, g, .agg #[.int .i64 1, .int .u32 x.f0, .int .u8 x.f1, .int .u8 x.f2, .int .i64 x.f3, .string x.f4]] w fun e w' => ∃ v b S' T', e = .returned (.tuple #[v, .bool b]) ∧ (GR T' w' v (addS l2 x).1 W2 ∧ b = ((addS l x).2 == (addS l2 x).2)) ∧ KX S' p w' (addS l x).1 f N ∧ But w.heap.size S w w' ∧ (∀ k, S' k → Gr S w w' k) ∧ (∀ k, T' k → Gr T w w' k) ∧ (∀ k, S' k → ¬ T' k) := by
  have HGR := Aside0.mk hg
  obtain ⟨A, c, B, d, rfl, h1, h2, h3, h4, h5, h6⟩ := hg
  obtain ⟨V, hV, o2, o3, o4, hbV, hsz⟩ := doV w A B l2 W2 c d 1 x
  have HV := Aside0.mk hV
  have HO2 := Aside0.mk o2
  have HO3 := Aside0.mk o3
  have HO4 := Aside0.mk o4
  have HBV := Aside0.mk hbV
  have HSZ := Aside0.mk hsz
  have HR := Aside0.mk (addR (HGR.out.below hbV) (by omega) x)
  have HKV := Aside0.mk (hk.below hbV)
  have HS := Aside0.mk hS
  have HTT := Aside0.mk hT
  have HST0 := Aside0.mk hST
  have HC := fun (U : World) (hkU : KX S p U l f N) (hsU : ∀ k, S k → k < U.heap.size) => addK hkU hsU x
  obtain ⟨gc, hgc⟩ : ∃ q, (addS l2 x).2 = q := ⟨_, rfl⟩
  obtain ⟨kc, hkc⟩ : ∃ q, (addS l x).2 = q := ⟨_, rfl⟩
  rw [hkc] at HC
  rw [hgc, hkc]
  have HC := Aside0.mk HC
  have HGC := Aside0.mk hgc
  clear h1 h2 h3 h4 h5 h6 hV o2 o3 o4 hbV hsz hk hS hT hST hkc hgc hp0 hp1
  go_enter Try.func11, Try.ntmps11
  go_wp2_with (refine pl_load rfl 30 (.tmp 4) rfl _ _ (load30 (by rw [HV.out]; exact HO2.out)) rfl ?_)
  rw [HV.out]
  refine HR.out.mono ?_
  rintro e w2 ⟨v, r, rfl, ⟨hg2, hr⟩, hb2⟩
  rw [HGC.out] at hr
  subst hr
  have HG2 := Aside0.mk hg2
  obtain ⟨A', c', B', d', rfl, _⟩ := hg2
  have HU0 : Aside0 (∃ V2, w2.alloc (.cells #[.slice A' (addS l2 x).1.length c', .slice B' W2.length d'] 30) = V2) := ⟨⟨_, rfl⟩⟩
  have hb2v := hb2.trans ((below_alloc (Below.refl w2.heap.size w2) (.cells #[.slice A' (addS l2 x).1.length c', .slice B' W2.length d'] 30)).mono hb2.size)
  have HP3 := Aside0.mk (HO3.out.below hb2v HO3.out.lt)
  have HP4 := Aside0.mk (HO4.out.below hb2v HO4.out.lt)
  have HP8 := Aside0.mk (Ob.new w2 [.slice A' (addS l2 x).1.length c', .slice B' W2.length d'] #[.slice A' (addS l2 x).1.length c', .slice B' W2.length d'] rfl 30)
  have HB2 := Aside0.mk (HBV.out.trans (hb2v.mono HBV.out.size))
  have HK2 := Aside0.mk (HKV.out.below hb2v)
  have hsz2 : (w2.alloc (.cells #[.slice A' (addS l2 x).1.length c', .slice B' W2.length d'] 30)).heap.size = w2.heap.size + 1 := by simp
  have hz2 : w.heap.size + 1 + 1 + 1 ≤ w2.heap.size := by have := HSZ.out; have := hb2.size; omega
  have HG3 := Aside0.mk (HG2.out.below (below_alloc (Below.refl w2.heap.size w2) (.cells #[.slice A' (addS l2 x).1.length c', .slice B' W2.length d'] 30)))
  clear hb2 hb2v
  obtain ⟨V2, hV2⟩ := HU0.out
  rw [hV2] at HP3 HP4 HP8 HB2 HK2 hsz2 HG3
  have HV2 := Aside0.mk hV2
  clear hV2 HU0
  have HCA := HC.out V2.drew (HK2.out.below (below_drew (Below.refl _ _))) (fun k hk => by have := HS.out k hk; show k < V2.heap.size; omega)
  have HCA := Aside0.mk HCA
  have HF : Aside0 (∀ U, But V2.heap.size S V2 U → Ob w2.heap.size U [.slice A' (addS l2 x).1.length c', .slice B' W2.length d'] ∧ Ob (w.heap.size + 1) U [.int .i64 1, .int .u32 x.f0, .int .u8 x.f1, .int .u8 x.f2, .int .i64 x.f3, .string x.f4] ∧ Ob (w.heap.size + 1 + 1) U [.slice none 0 0, .slice none 0 0]) := ⟨fun U hU => ⟨HP8.out.but hU (by omega) (fun e => by have := HS.out _ e; omega), HP3.out.but hU (by omega) (fun e => by have := HS.out _ e; omega), HP4.out.but hU (by omega) (fun e => by have := HS.out _ e; omega)⟩⟩
  go_wp2_with fail
  rw [HV2.out]
  refine region [(1, .p), (2, .p), (5, .p), (0, .t), (3, .t), (4, .o), (6, .p), (7, .q), (8, .p)] (fun U => But V2.heap.size S V2 U ∧ U.cell? ⟨w2.heap.size, 0, none⟩ = some (.slice A' (addS l2 x).1.length c') ∧ U.cell? ⟨w2.heap.size, 1, none⟩ = some (.slice B' W2.length d') ∧ U.cell? ⟨w.heap.size + 1, 1, none⟩ = some (.int .u32 x.f0) ∧ U.cell? ⟨w.heap.size + 1, 2, none⟩ = some (.int .u8 x.f1) ∧ U.cell? ⟨w.heap.size + 1, 3, none⟩ = some (.int .u8 x.f2) ∧ U.cell? ⟨w.heap.size + 1, 4, none⟩ = some (.int .i64 x.f3) ∧ U.cell? ⟨w.heap.size + 1, 5, none⟩ = some (.string x.f4)) (by kernel_rfl) (by kernel_rfl) (fun _ _ _ _ _ h => h) (⟨But.of (below_drew (Below.refl _ _)) (Nat.le_refl _), ((HF.out _ (But.of (below_drew (Below.refl _ _)) (Nat.le_refl _))).1 0 _ rfl).1, ((HF.out _ (But.of (below_drew (Below.refl _ _)) (Nat.le_refl _))).1 1 _ rfl).1, ((HF.out _ (But.of (below_drew (Below.refl _ _)) (Nat.le_refl _))).2.1 1 _ rfl).1, ((HF.out _ (But.of (below_drew (Below.refl _ _)) (Nat.le_refl _))).2.1 2 _ rfl).1, ((HF.out _ (But.of (below_drew (Below.refl _ _)) (Nat.le_refl _))).2.1 3 _ rfl).1, ((HF.out _ (But.of (below_drew (Below.refl _ _)) (Nat.le_refl _))).2.1 4 _ rfl).1, ((HF.out _ (But.of (below_drew (Below.refl _ _)) (Nat.le_refl _))).2.1 5 _ rfl).1⟩) (fun hHeld => ?_)
  iterate 3 (refine lex_p rfl rfl rfl (by intro w'; go_simp; with_reducible rfl) (by simp only [Act.put, List.setIfInBounds_toArray, List.set_cons_zero, List.set_cons_succ, i64_w, i32_w]; rfl) ?_)
  iterate 2 (refine lex_t rfl rfl rfl (by rintro w' ⟨sb, s0, s1, s2, s3, s4, s5, s6⟩; go_simp; with_reducible rfl) (by simp only [Act.put, List.setIfInBounds_toArray, List.set_cons_zero, List.set_cons_succ, i64_w, i32_w]; rfl) ?_)
  refine lex_o rfl ?_
  go_wp2_with fail
  refine HCA.out.mono ?_
  rintro e w4 ⟨rfl, hk4, hbt4⟩
  have HK4 := Aside0.mk hk4
  have HB4 : Aside0 (But V2.heap.size S V2 w4) := ⟨(But.of (below_drew (Below.refl V2.heap.size V2)) (Nat.le_refl _)).trans hbt4⟩
  have HB5 := Aside0.mk (HF.out w4 HB4.out)
  clear hk4 hbt4
  obtain ⟨W5, hst5, ho5, hb5⟩ := store30 (c := .slice A' (addS l2 x).1.length c') (d := .slice B' W2.length d') HB5.out.2.2 rfl rfl
  have HST := Aside0.mk hst5
  have HO5 := Aside0.mk ho5
  have HW5 := Aside0.mk hb5
  have hS8 : But V2.heap.size S V2 w4 ∧ w4.cell? ⟨w2.heap.size, 0, none⟩ = some (.slice A' (addS l2 x).1.length c') ∧ w4.cell? ⟨w2.heap.size, 1, none⟩ = some (.slice B' W2.length d') ∧ w4.cell? ⟨w.heap.size + 1, 1, none⟩ = some (.int .u32 x.f0) ∧ w4.cell? ⟨w.heap.size + 1, 2, none⟩ = some (.int .u8 x.f1) ∧ w4.cell? ⟨w.heap.size + 1, 3, none⟩ = some (.int .u8 x.f2) ∧ w4.cell? ⟨w.heap.size + 1, 4, none⟩ = some (.int .i64 x.f3) ∧ w4.cell? ⟨w.heap.size + 1, 5, none⟩ = some (.string x.f4) := ⟨HB4.out, (HB5.out.1 0 _ rfl).1, (HB5.out.1 1 _ rfl).1, (HB5.out.2.1 1 _ rfl).1, (HB5.out.2.1 2 _ rfl).1, (HB5.out.2.1 3 _ rfl).1, (HB5.out.2.1 4 _ rfl).1, (HB5.out.2.1 5 _ rfl).1⟩
  clear hst5 ho5 hb5
  go_wp2_with fail
  refine lex_end (by first | (simp only [Act.put, List.setIfInBounds_toArray, List.set_cons_zero, List.set_cons_succ, i64_w, i32_w]; rfl) | rfl) (by exact hS8) (fun hHeld => ?_)
  (refine lex_p rfl rfl rfl (by intro w'; go_simp; with_reducible rfl) (by simp only [Act.put, List.setIfInBounds_toArray, List.set_cons_zero, List.set_cons_succ, i64_w, i32_w]; rfl) ?_)
  refine lex_q rfl ?_
  go_wp2_with (refine pl_store rfl 30 _ _ rfl _ _ HST.out rfl rfl ?_)
  refine lex_endq (by first | (simp only [Act.put, List.setIfInBounds_toArray, List.set_cons_zero, List.set_cons_succ, i64_w, i32_w]; rfl) | rfl) ?_
  (refine lex_p rfl rfl rfl (by intro w'; go_simp; with_reducible rfl) (by simp only [Act.put, List.setIfInBounds_toArray, List.set_cons_zero, List.set_cons_succ, i64_w, i32_w]; rfl) ?_)
  refine lex_nil ?_
  go_wp2_with fail
  have hw5s := HW5.out.size
  have hb4s := HB4.out.size
  have hb2s := HB2.out.size
  refine bodyPost_ret (results_row_tmp rfl _ _ (w.heap.size + 1 + 1) _ rfl (load30 HO5.out)) rfl ?_
  have hVz := HSZ.out
  have hdr : V2.drew.heap.size = V2.heap.size := rfl
  refine ⟨_, _, Gr S V2.drew w4, Gr T V w2, rfl, ⟨?_, by first | rfl | simp⟩, ?_, ?_, ?_, ?_, ?_⟩
  · refine HG3.out.same (fun k hk => ?_)
    have hk1 : k < V2.heap.size ∧ ¬ S k ∧ k ≠ w.heap.size + 1 + 1 := by
      rcases hk with hk | hk
      · have h1 := HTT.out k hk
        exact ⟨by omega, fun h => HST0.out k h hk, by omega⟩
      · exact ⟨by omega, fun h => by have := HS.out k h; omega, by omega⟩
    exact (HW5.out.block k (by omega) hk1.2.2).trans (HB4.out.block k hk1.1 hk1.2.1)
  · refine HK4.out.same (fun k hk => ?_)
    have hk1 : k < w4.heap.size ∧ k ≠ w.heap.size + 1 + 1 := by
      rcases hk with hk | hk
      · have h1 := HS.out k hk
        exact ⟨by omega, by omega⟩
      · exact ⟨hk.2, by have := hk.1; omega⟩
    exact HW5.out.block k hk1.1 hk1.2
  · exact ((But.of HB2.out (Nat.le_refl _) : But w.heap.size S w V2).trans (HB4.out.mono (by omega) (fun k _ h => h))).trans (HW5.out.mono (by omega) (fun k hk e => by have : k = w.heap.size + 1 + 1 := e; omega))
  · exact fun k hk => hk.imp id (fun h => ⟨by have := h.1; omega, by have := h.2; omega⟩)
  · exact fun k hk => hk.imp id (fun h => ⟨by have := h.1; omega, by have := h.2; omega⟩)
  · intro k hk hk2
    rcases hk with hk | hk
    · have h1 := HS.out k hk
      rcases hk2 with h2 | h2
      · exact HST0.out k hk h2
      · omega
    · rcases hk2 with h2 | h2
      · have := HTT.out k h2
        omega
      · omega
set_option maxHeartbeats 8000000 in
theorem does2 (hg : GR T w g l2 W2) (hk : KX S p w l f N) (hS : ∀ k, S k → k < w.heap.size) (hT : ∀ k, T k → k < w.heap.size) (hST : ∀ k, S k → ¬ T k) (x : S36) (hp0 : (kl x.f0).wf = true) (hp1 : (Lit.int .u8 x.f1).wf = true) (hl : l.length < 100000) (hl2 : l2.length < 100000) (hW : W2.length < 100000) (hN : N < 100000) : Calls Try.prog 11 #[ptr p, g, .agg #[.int .i64 2, .int .u32 x.f0, .int .u8 x.f1, .int .u8 x.f2, .int .i64 x.f3, .string x.f4]] w fun e w' => ∃ v b S' T', e = .returned (.tuple #[v, .bool b]) ∧ (GR T' w' v (remS l2 (fW W2) x.f0 x.f1).1 W2 ∧ b = ((remK l f x.f0 x.f1).2 == (remS l2 (fW W2) x.f0 x.f1).2)) ∧ KX S' p w' (remK l f x.f0 x.f1).1 f N ∧ But w.heap.size S w w' ∧ (∀ k, S' k → Gr S w w' k) ∧ (∀ k, T' k → Gr T w w' k) ∧ (∀ k, S' k → ¬ T' k) := by
  have HGR := Aside0.mk hg
  obtain ⟨A, c, B, d, rfl, h1, h2, h3, h4, h5, h6⟩ := hg
  obtain ⟨V, hV, o2, o3, o4, hbV, hsz⟩ := doV w A B l2 W2 c d 2 x
  have HV := Aside0.mk hV
  have HO2 := Aside0.mk o2
  have HO3 := Aside0.mk o3
  have HO4 := Aside0.mk o4
  have HBV := Aside0.mk hbV
  have HSZ := Aside0.mk hsz
  have HR := Aside0.mk (removeR (HGR.out.below hbV) (by omega) (by omega) x.f0 x.f1)
  have HKV := Aside0.mk (hk.below hbV)
  have HS := Aside0.mk hS
  have HTT := Aside0.mk hT
  have HST0 := Aside0.mk hST
  have HC := fun (U : World) (hkU : KX S p U l f N) (hsU : ∀ k, S k → k < U.heap.size) => removeK hkU x.f0 x.f1 hp0 (by omega)
  obtain ⟨gc, hgc⟩ : ∃ q, (remS l2 (fW W2) x.f0 x.f1).2 = q := ⟨_, rfl⟩
  obtain ⟨kc, hkc⟩ : ∃ q, (remK l f x.f0 x.f1).2 = q := ⟨_, rfl⟩
  rw [hkc] at HC
  rw [hgc, hkc]
  have HC := Aside0.mk HC
  have HGC := Aside0.mk hgc
  clear h1 h2 h3 h4 h5 h6 hV o2 o3 o4 hbV hsz hk hS hT hST hkc hgc hp0 hp1
  go_enter Try.func11, Try.ntmps11
  go_wp2_with (refine pl_load rfl 30 (.tmp 4) rfl _ _ (load30 (by rw [HV.out]; exact HO2.out)) rfl ?_)
  rw [HV.out]
  refine HR.out.mono ?_
  rintro e w2 ⟨v, r, rfl, ⟨hg2, hr⟩, hb2⟩
  rw [HGC.out] at hr
  subst hr
  have HG2 := Aside0.mk hg2
  obtain ⟨A', c', B', d', rfl, _⟩ := hg2
  have HU0 : Aside0 (∃ V2, w2.alloc (.cells #[.slice A' (remS l2 (fW W2) x.f0 x.f1).1.length c', .slice B' W2.length d'] 30) = V2) := ⟨⟨_, rfl⟩⟩
  have hb2v := hb2.trans ((below_alloc (Below.refl w2.heap.size w2) (.cells #[.slice A' (remS l2 (fW W2) x.f0 x.f1).1.length c', .slice B' W2.length d'] 30)).mono hb2.size)
  have HP3 := Aside0.mk (HO3.out.below hb2v HO3.out.lt)
  have HP4 := Aside0.mk (HO4.out.below hb2v HO4.out.lt)
  have HP8 := Aside0.mk (Ob.new w2 [.slice A' (remS l2 (fW W2) x.f0 x.f1).1.length c', .slice B' W2.length d'] #[.slice A' (remS l2 (fW W2) x.f0 x.f1).1.length c', .slice B' W2.length d'] rfl 30)
  have HB2 := Aside0.mk (HBV.out.trans (hb2v.mono HBV.out.size))
  have HK2 := Aside0.mk (HKV.out.below hb2v)
  have hsz2 : (w2.alloc (.cells #[.slice A' (remS l2 (fW W2) x.f0 x.f1).1.length c', .slice B' W2.length d'] 30)).heap.size = w2.heap.size + 1 := by simp
  have hz2 : w.heap.size + 1 + 1 + 1 ≤ w2.heap.size := by have := HSZ.out; have := hb2.size; omega
  have HG3 := Aside0.mk (HG2.out.below (below_alloc (Below.refl w2.heap.size w2) (.cells #[.slice A' (remS l2 (fW W2) x.f0 x.f1).1.length c', .slice B' W2.length d'] 30)))
  clear hb2 hb2v
  obtain ⟨V2, hV2⟩ := HU0.out
  rw [hV2] at HP3 HP4 HP8 HB2 HK2 hsz2 HG3
  have HV2 := Aside0.mk hV2
  clear hV2 HU0
  have HCA := HC.out V2.drew (HK2.out.below (below_drew (Below.refl _ _))) (fun k hk => by have := HS.out k hk; show k < V2.heap.size; omega)
  have HCA := Aside0.mk HCA
  have HF : Aside0 (∀ U, But V2.heap.size S V2 U → Ob w2.heap.size U [.slice A' (remS l2 (fW W2) x.f0 x.f1).1.length c', .slice B' W2.length d'] ∧ Ob (w.heap.size + 1) U [.int .i64 2, .int .u32 x.f0, .int .u8 x.f1, .int .u8 x.f2, .int .i64 x.f3, .string x.f4] ∧ Ob (w.heap.size + 1 + 1) U [.slice none 0 0, .slice none 0 0]) := ⟨fun U hU => ⟨HP8.out.but hU (by omega) (fun e => by have := HS.out _ e; omega), HP3.out.but hU (by omega) (fun e => by have := HS.out _ e; omega), HP4.out.but hU (by omega) (fun e => by have := HS.out _ e; omega)⟩⟩
  go_wp2_with fail
  rw [HV2.out]
  refine region [(1, .p), (2, .p), (3, .p), (5, .p), (6, .p), (9, .p), (0, .t), (4, .t), (7, .t), (8, .o), (10, .p), (11, .q), (12, .p)] (fun U => But V2.heap.size S V2 U ∧ U.cell? ⟨w2.heap.size, 0, none⟩ = some (.slice A' (remS l2 (fW W2) x.f0 x.f1).1.length c') ∧ U.cell? ⟨w2.heap.size, 1, none⟩ = some (.slice B' W2.length d') ∧ U.cell? ⟨w.heap.size + 1, 1, none⟩ = some (.int .u32 x.f0) ∧ U.cell? ⟨w.heap.size + 1, 2, none⟩ = some (.int .u8 x.f1) ∧ U.cell? ⟨w.heap.size + 1, 3, none⟩ = some (.int .u8 x.f2) ∧ U.cell? ⟨w.heap.size + 1, 4, none⟩ = some (.int .i64 x.f3) ∧ U.cell? ⟨w.heap.size + 1, 5, none⟩ = some (.string x.f4)) (by kernel_rfl) (by kernel_rfl) (fun _ _ _ _ _ h => h) (⟨But.of (below_drew (Below.refl _ _)) (Nat.le_refl _), ((HF.out _ (But.of (below_drew (Below.refl _ _)) (Nat.le_refl _))).1 0 _ rfl).1, ((HF.out _ (But.of (below_drew (Below.refl _ _)) (Nat.le_refl _))).1 1 _ rfl).1, ((HF.out _ (But.of (below_drew (Below.refl _ _)) (Nat.le_refl _))).2.1 1 _ rfl).1, ((HF.out _ (But.of (below_drew (Below.refl _ _)) (Nat.le_refl _))).2.1 2 _ rfl).1, ((HF.out _ (But.of (below_drew (Below.refl _ _)) (Nat.le_refl _))).2.1 3 _ rfl).1, ((HF.out _ (But.of (below_drew (Below.refl _ _)) (Nat.le_refl _))).2.1 4 _ rfl).1, ((HF.out _ (But.of (below_drew (Below.refl _ _)) (Nat.le_refl _))).2.1 5 _ rfl).1⟩) (fun hHeld => ?_)
  iterate 6 (refine lex_p rfl rfl rfl (by intro w'; go_simp; with_reducible rfl) (by simp only [Act.put, List.setIfInBounds_toArray, List.set_cons_zero, List.set_cons_succ, i64_w, i32_w]; rfl) ?_)
  iterate 3 (refine lex_t rfl rfl rfl (by rintro w' ⟨sb, s0, s1, s2, s3, s4, s5, s6⟩; go_simp; with_reducible rfl) (by simp only [Act.put, List.setIfInBounds_toArray, List.set_cons_zero, List.set_cons_succ, i64_w, i32_w]; rfl) ?_)
  refine lex_o rfl ?_
  go_wp2_with fail
  refine HCA.out.mono ?_
  rintro e w4 ⟨rfl, hk4, hbt4⟩
  have HK4 := Aside0.mk hk4
  have HB4 : Aside0 (But V2.heap.size S V2 w4) := ⟨(But.of (below_drew (Below.refl V2.heap.size V2)) (Nat.le_refl _)).trans hbt4⟩
  have HB5 := Aside0.mk (HF.out w4 HB4.out)
  clear hk4 hbt4
  obtain ⟨W5, hst5, ho5, hb5⟩ := store30 (c := .slice A' (remS l2 (fW W2) x.f0 x.f1).1.length c') (d := .slice B' W2.length d') HB5.out.2.2 rfl rfl
  have HST := Aside0.mk hst5
  have HO5 := Aside0.mk ho5
  have HW5 := Aside0.mk hb5
  have hS8 : But V2.heap.size S V2 w4 ∧ w4.cell? ⟨w2.heap.size, 0, none⟩ = some (.slice A' (remS l2 (fW W2) x.f0 x.f1).1.length c') ∧ w4.cell? ⟨w2.heap.size, 1, none⟩ = some (.slice B' W2.length d') ∧ w4.cell? ⟨w.heap.size + 1, 1, none⟩ = some (.int .u32 x.f0) ∧ w4.cell? ⟨w.heap.size + 1, 2, none⟩ = some (.int .u8 x.f1) ∧ w4.cell? ⟨w.heap.size + 1, 3, none⟩ = some (.int .u8 x.f2) ∧ w4.cell? ⟨w.heap.size + 1, 4, none⟩ = some (.int .i64 x.f3) ∧ w4.cell? ⟨w.heap.size + 1, 5, none⟩ = some (.string x.f4) := ⟨HB4.out, (HB5.out.1 0 _ rfl).1, (HB5.out.1 1 _ rfl).1, (HB5.out.2.1 1 _ rfl).1, (HB5.out.2.1 2 _ rfl).1, (HB5.out.2.1 3 _ rfl).1, (HB5.out.2.1 4 _ rfl).1, (HB5.out.2.1 5 _ rfl).1⟩
  clear hst5 ho5 hb5
  go_wp2_with fail
  refine lex_end (by first | (simp only [Act.put, List.setIfInBounds_toArray, List.set_cons_zero, List.set_cons_succ, i64_w, i32_w]; rfl) | rfl) (by exact hS8) (fun hHeld => ?_)
  (refine lex_p rfl rfl rfl (by intro w'; go_simp; with_reducible rfl) (by simp only [Act.put, List.setIfInBounds_toArray, List.set_cons_zero, List.set_cons_succ, i64_w, i32_w]; rfl) ?_)
  refine lex_q rfl ?_
  go_wp2_with (refine pl_store rfl 30 _ _ rfl _ _ HST.out rfl rfl ?_)
  refine lex_endq (by first | (simp only [Act.put, List.setIfInBounds_toArray, List.set_cons_zero, List.set_cons_succ, i64_w, i32_w]; rfl) | rfl) ?_
  (refine lex_p rfl rfl rfl (by intro w'; go_simp; with_reducible rfl) (by simp only [Act.put, List.setIfInBounds_toArray, List.set_cons_zero, List.set_cons_succ, i64_w, i32_w]; rfl) ?_)
  refine lex_nil ?_
  go_wp2_with fail
  have hw5s := HW5.out.size
  have hb4s := HB4.out.size
  have hb2s := HB2.out.size
  refine bodyPost_ret (results_row_tmp rfl _ _ (w.heap.size + 1 + 1) _ rfl (load30 HO5.out)) rfl ?_
  have hVz := HSZ.out
  have hdr : V2.drew.heap.size = V2.heap.size := rfl
  refine ⟨_, _, Gr S V2.drew w4, Gr T V w2, rfl, ⟨?_, by first | rfl | simp⟩, ?_, ?_, ?_, ?_, ?_⟩
  · refine HG3.out.same (fun k hk => ?_)
    have hk1 : k < V2.heap.size ∧ ¬ S k ∧ k ≠ w.heap.size + 1 + 1 := by
      rcases hk with hk | hk
      · have h1 := HTT.out k hk
        exact ⟨by omega, fun h => HST0.out k h hk, by omega⟩
      · exact ⟨by omega, fun h => by have := HS.out k h; omega, by omega⟩
    exact (HW5.out.block k (by omega) hk1.2.2).trans (HB4.out.block k hk1.1 hk1.2.1)
  · refine HK4.out.same (fun k hk => ?_)
    have hk1 : k < w4.heap.size ∧ k ≠ w.heap.size + 1 + 1 := by
      rcases hk with hk | hk
      · have h1 := HS.out k hk
        exact ⟨by omega, by omega⟩
      · exact ⟨hk.2, by have := hk.1; omega⟩
    exact HW5.out.block k hk1.1 hk1.2
  · exact ((But.of HB2.out (Nat.le_refl _) : But w.heap.size S w V2).trans (HB4.out.mono (by omega) (fun k _ h => h))).trans (HW5.out.mono (by omega) (fun k hk e => by have : k = w.heap.size + 1 + 1 := e; omega))
  · exact fun k hk => hk.imp id (fun h => ⟨by have := h.1; omega, by have := h.2; omega⟩)
  · exact fun k hk => hk.imp id (fun h => ⟨by have := h.1; omega, by have := h.2; omega⟩)
  · intro k hk hk2
    rcases hk with hk | hk
    · have h1 := HS.out k hk
      rcases hk2 with h2 | h2
      · exact HST0.out k hk h2
      · omega
    · rcases hk2 with h2 | h2
      · have := HTT.out k h2
        omega
      · omega
set_option maxHeartbeats 8000000 in
theorem does3 (hg : GR T w g l2 W2) (hk : KX S p w l f N) (hS : ∀ k, S k → k < w.heap.size) (hT : ∀ k, T k → k < w.heap.size) (hST : ∀ k, S k → ¬ T k) (x : S36) (hp0 : (kl x.f0).wf = true) (hp1 : (Lit.int .u8 x.f1).wf = true) (hl : l.length < 100000) (hl2 : l2.length < 100000) (hW : W2.length < 100000) (hN : N < 100000) : Calls Try.prog 11 #[ptr p, g, .agg #[.int .i64 3, .int .u32 x.f0, .int .u8 x.f1, .int .u8 x.f2, .int .i64 x.f3, .string x.f4]] w fun e w' => ∃ v b S' T', e = .returned (.tuple #[v, .bool b]) ∧ (GR T' w' v l2 (prfS l2 W2 x.f0 x.f1).1 ∧ b = ((prfK l f x.f0 x.f1).2 == (prfS l2 W2 x.f0 x.f1).2)) ∧ KX S' p w' l (prfK l f x.f0 x.f1).1 (N + 1) ∧ But w.heap.size S w w' ∧ (∀ k, S' k → Gr S w w' k) ∧ (∀ k, T' k → Gr T w w' k) ∧ (∀ k, S' k → ¬ T' k) := by
  have HGR := Aside0.mk hg
  obtain ⟨A, c, B, d, rfl, h1, h2, h3, h4, h5, h6⟩ := hg
  obtain ⟨V, hV, o2, o3, o4, hbV, hsz⟩ := doV w A B l2 W2 c d 3 x
  have HV := Aside0.mk hV
  have HO2 := Aside0.mk o2
  have HO3 := Aside0.mk o3
  have HO4 := Aside0.mk o4
  have HBV := Aside0.mk hbV
  have HSZ := Aside0.mk hsz
  have HR := Aside0.mk (preferR (HGR.out.below hbV) (by omega) (by omega) x.f0 x.f1)
  have HKV := Aside0.mk (hk.below hbV)
  have HS := Aside0.mk hS
  have HTT := Aside0.mk hT
  have HST0 := Aside0.mk hST
  have HC := fun (U : World) (hkU : KX S p U l f N) (hsU : ∀ k, S k → k < U.heap.size) => preferK hkU x.f0 x.f1 hp0 hp1 (by omega)
  obtain ⟨gc, hgc⟩ : ∃ q, (prfS l2 W2 x.f0 x.f1).2 = q := ⟨_, rfl⟩
  obtain ⟨kc, hkc⟩ : ∃ q, (prfK l f x.f0 x.f1).2 = q := ⟨_, rfl⟩
  rw [hkc] at HC
  rw [hgc, hkc]
  have HC := Aside0.mk HC
  have HGC := Aside0.mk hgc
  clear h1 h2 h3 h4 h5 h6 hV o2 o3 o4 hbV hsz hk hS hT hST hkc hgc hp0 hp1
  go_enter Try.func11, Try.ntmps11
  go_wp2_with (refine pl_load rfl 30 (.tmp 4) rfl _ _ (load30 (by rw [HV.out]; exact HO2.out)) rfl ?_)
  rw [HV.out]
  refine HR.out.mono ?_
  rintro e w2 ⟨v, r, rfl, ⟨hg2, hr⟩, hb2⟩
  rw [HGC.out] at hr
  subst hr
  have HG2 := Aside0.mk hg2
  obtain ⟨A', c', B', d', rfl, _⟩ := hg2
  have HU0 : Aside0 (∃ V2, w2.alloc (.cells #[.slice A' l2.length c', .slice B' (prfS l2 W2 x.f0 x.f1).1.length d'] 30) = V2) := ⟨⟨_, rfl⟩⟩
  have hb2v := hb2.trans ((below_alloc (Below.refl w2.heap.size w2) (.cells #[.slice A' l2.length c', .slice B' (prfS l2 W2 x.f0 x.f1).1.length d'] 30)).mono hb2.size)
  have HP3 := Aside0.mk (HO3.out.below hb2v HO3.out.lt)
  have HP4 := Aside0.mk (HO4.out.below hb2v HO4.out.lt)
  have HP8 := Aside0.mk (Ob.new w2 [.slice A' l2.length c', .slice B' (prfS l2 W2 x.f0 x.f1).1.length d'] #[.slice A' l2.length c', .slice B' (prfS l2 W2 x.f0 x.f1).1.length d'] rfl 30)
  have HB2 := Aside0.mk (HBV.out.trans (hb2v.mono HBV.out.size))
  have HK2 := Aside0.mk (HKV.out.below hb2v)
  have hsz2 : (w2.alloc (.cells #[.slice A' l2.length c', .slice B' (prfS l2 W2 x.f0 x.f1).1.length d'] 30)).heap.size = w2.heap.size + 1 := by simp
  have hz2 : w.heap.size + 1 + 1 + 1 ≤ w2.heap.size := by have := HSZ.out; have := hb2.size; omega
  have HG3 := Aside0.mk (HG2.out.below (below_alloc (Below.refl w2.heap.size w2) (.cells #[.slice A' l2.length c', .slice B' (prfS l2 W2 x.f0 x.f1).1.length d'] 30)))
  clear hb2 hb2v
  obtain ⟨V2, hV2⟩ := HU0.out
  rw [hV2] at HP3 HP4 HP8 HB2 HK2 hsz2 HG3
  have HV2 := Aside0.mk hV2
  clear hV2 HU0
  have HCA := HC.out V2.drew (HK2.out.below (below_drew (Below.refl _ _))) (fun k hk => by have := HS.out k hk; show k < V2.heap.size; omega)
  have HCA := Aside0.mk HCA
  have HF : Aside0 (∀ U, But V2.heap.size S V2 U → Ob w2.heap.size U [.slice A' l2.length c', .slice B' (prfS l2 W2 x.f0 x.f1).1.length d'] ∧ Ob (w.heap.size + 1) U [.int .i64 3, .int .u32 x.f0, .int .u8 x.f1, .int .u8 x.f2, .int .i64 x.f3, .string x.f4] ∧ Ob (w.heap.size + 1 + 1) U [.slice none 0 0, .slice none 0 0]) := ⟨fun U hU => ⟨HP8.out.but hU (by omega) (fun e => by have := HS.out _ e; omega), HP3.out.but hU (by omega) (fun e => by have := HS.out _ e; omega), HP4.out.but hU (by omega) (fun e => by have := HS.out _ e; omega)⟩⟩
  go_wp2_with fail
  rw [HV2.out]
  refine region [(1, .p), (2, .p), (3, .p), (5, .p), (6, .p), (9, .p), (0, .t), (4, .t), (7, .t), (8, .o), (10, .p), (11, .q), (12, .p)] (fun U => But V2.heap.size S V2 U ∧ U.cell? ⟨w2.heap.size, 0, none⟩ = some (.slice A' l2.length c') ∧ U.cell? ⟨w2.heap.size, 1, none⟩ = some (.slice B' (prfS l2 W2 x.f0 x.f1).1.length d') ∧ U.cell? ⟨w.heap.size + 1, 1, none⟩ = some (.int .u32 x.f0) ∧ U.cell? ⟨w.heap.size + 1, 2, none⟩ = some (.int .u8 x.f1) ∧ U.cell? ⟨w.heap.size + 1, 3, none⟩ = some (.int .u8 x.f2) ∧ U.cell? ⟨w.heap.size + 1, 4, none⟩ = some (.int .i64 x.f3) ∧ U.cell? ⟨w.heap.size + 1, 5, none⟩ = some (.string x.f4)) (by kernel_rfl) (by kernel_rfl) (fun _ _ _ _ _ h => h) (⟨But.of (below_drew (Below.refl _ _)) (Nat.le_refl _), ((HF.out _ (But.of (below_drew (Below.refl _ _)) (Nat.le_refl _))).1 0 _ rfl).1, ((HF.out _ (But.of (below_drew (Below.refl _ _)) (Nat.le_refl _))).1 1 _ rfl).1, ((HF.out _ (But.of (below_drew (Below.refl _ _)) (Nat.le_refl _))).2.1 1 _ rfl).1, ((HF.out _ (But.of (below_drew (Below.refl _ _)) (Nat.le_refl _))).2.1 2 _ rfl).1, ((HF.out _ (But.of (below_drew (Below.refl _ _)) (Nat.le_refl _))).2.1 3 _ rfl).1, ((HF.out _ (But.of (below_drew (Below.refl _ _)) (Nat.le_refl _))).2.1 4 _ rfl).1, ((HF.out _ (But.of (below_drew (Below.refl _ _)) (Nat.le_refl _))).2.1 5 _ rfl).1⟩) (fun hHeld => ?_)
  iterate 6 (refine lex_p rfl rfl rfl (by intro w'; go_simp; with_reducible rfl) (by simp only [Act.put, List.setIfInBounds_toArray, List.set_cons_zero, List.set_cons_succ, i64_w, i32_w]; rfl) ?_)
  iterate 3 (refine lex_t rfl rfl rfl (by rintro w' ⟨sb, s0, s1, s2, s3, s4, s5, s6⟩; go_simp; with_reducible rfl) (by simp only [Act.put, List.setIfInBounds_toArray, List.set_cons_zero, List.set_cons_succ, i64_w, i32_w]; rfl) ?_)
  refine lex_o rfl ?_
  go_wp2_with fail
  refine HCA.out.mono ?_
  rintro e w4 ⟨rfl, hk4, hbt4⟩
  have HK4 := Aside0.mk hk4
  have HB4 : Aside0 (But V2.heap.size S V2 w4) := ⟨(But.of (below_drew (Below.refl V2.heap.size V2)) (Nat.le_refl _)).trans hbt4⟩
  have HB5 := Aside0.mk (HF.out w4 HB4.out)
  clear hk4 hbt4
  obtain ⟨W5, hst5, ho5, hb5⟩ := store30 (c := .slice A' l2.length c') (d := .slice B' (prfS l2 W2 x.f0 x.f1).1.length d') HB5.out.2.2 rfl rfl
  have HST := Aside0.mk hst5
  have HO5 := Aside0.mk ho5
  have HW5 := Aside0.mk hb5
  have hS8 : But V2.heap.size S V2 w4 ∧ w4.cell? ⟨w2.heap.size, 0, none⟩ = some (.slice A' l2.length c') ∧ w4.cell? ⟨w2.heap.size, 1, none⟩ = some (.slice B' (prfS l2 W2 x.f0 x.f1).1.length d') ∧ w4.cell? ⟨w.heap.size + 1, 1, none⟩ = some (.int .u32 x.f0) ∧ w4.cell? ⟨w.heap.size + 1, 2, none⟩ = some (.int .u8 x.f1) ∧ w4.cell? ⟨w.heap.size + 1, 3, none⟩ = some (.int .u8 x.f2) ∧ w4.cell? ⟨w.heap.size + 1, 4, none⟩ = some (.int .i64 x.f3) ∧ w4.cell? ⟨w.heap.size + 1, 5, none⟩ = some (.string x.f4) := ⟨HB4.out, (HB5.out.1 0 _ rfl).1, (HB5.out.1 1 _ rfl).1, (HB5.out.2.1 1 _ rfl).1, (HB5.out.2.1 2 _ rfl).1, (HB5.out.2.1 3 _ rfl).1, (HB5.out.2.1 4 _ rfl).1, (HB5.out.2.1 5 _ rfl).1⟩
  clear hst5 ho5 hb5
  go_wp2_with fail
  refine lex_end (by first | (simp only [Act.put, List.setIfInBounds_toArray, List.set_cons_zero, List.set_cons_succ, i64_w, i32_w]; rfl) | rfl) (by exact hS8) (fun hHeld => ?_)
  (refine lex_p rfl rfl rfl (by intro w'; go_simp; with_reducible rfl) (by simp only [Act.put, List.setIfInBounds_toArray, List.set_cons_zero, List.set_cons_succ, i64_w, i32_w]; rfl) ?_)
  refine lex_q rfl ?_
  go_wp2_with (refine pl_store rfl 30 _ _ rfl _ _ HST.out rfl rfl ?_)
  refine lex_endq (by first | (simp only [Act.put, List.setIfInBounds_toArray, List.set_cons_zero, List.set_cons_succ, i64_w, i32_w]; rfl) | rfl) ?_
  (refine lex_p rfl rfl rfl (by intro w'; go_simp; with_reducible rfl) (by simp only [Act.put, List.setIfInBounds_toArray, List.set_cons_zero, List.set_cons_succ, i64_w, i32_w]; rfl) ?_)
  refine lex_nil ?_
  go_wp2_with fail
  have hw5s := HW5.out.size
  have hb4s := HB4.out.size
  have hb2s := HB2.out.size
  refine bodyPost_ret (results_row_tmp rfl _ _ (w.heap.size + 1 + 1) _ rfl (load30 HO5.out)) rfl ?_
  have hVz := HSZ.out
  have hdr : V2.drew.heap.size = V2.heap.size := rfl
  refine ⟨_, _, Gr S V2.drew w4, Gr T V w2, rfl, ⟨?_, by first | rfl | simp⟩, ?_, ?_, ?_, ?_, ?_⟩
  · refine HG3.out.same (fun k hk => ?_)
    have hk1 : k < V2.heap.size ∧ ¬ S k ∧ k ≠ w.heap.size + 1 + 1 := by
      rcases hk with hk | hk
      · have h1 := HTT.out k hk
        exact ⟨by omega, fun h => HST0.out k h hk, by omega⟩
      · exact ⟨by omega, fun h => by have := HS.out k h; omega, by omega⟩
    exact (HW5.out.block k (by omega) hk1.2.2).trans (HB4.out.block k hk1.1 hk1.2.1)
  · refine HK4.out.same (fun k hk => ?_)
    have hk1 : k < w4.heap.size ∧ k ≠ w.heap.size + 1 + 1 := by
      rcases hk with hk | hk
      · have h1 := HS.out k hk
        exact ⟨by omega, by omega⟩
      · exact ⟨hk.2, by have := hk.1; omega⟩
    exact HW5.out.block k hk1.1 hk1.2
  · exact ((But.of HB2.out (Nat.le_refl _) : But w.heap.size S w V2).trans (HB4.out.mono (by omega) (fun k _ h => h))).trans (HW5.out.mono (by omega) (fun k hk e => by have : k = w.heap.size + 1 + 1 := e; omega))
  · exact fun k hk => hk.imp id (fun h => ⟨by have := h.1; omega, by have := h.2; omega⟩)
  · exact fun k hk => hk.imp id (fun h => ⟨by have := h.1; omega, by have := h.2; omega⟩)
  · intro k hk hk2
    rcases hk with hk | hk
    · have h1 := HS.out k hk
      rcases hk2 with h2 | h2
      · exact HST0.out k hk h2
      · omega
    · rcases hk2 with h2 | h2
      · have := HTT.out k h2
        omega
      · omega
theorem does0 (hg : GR T w g l2 W2) (hk : KX S p w l f N) (z : Int) (hz1 : (z == 1) = false) (hz2 : (z == 2) = false) (hz3 : (z == 3) = false) (x : S36) : Calls Try.prog 11 #[ptr p, g, .agg #[.int .i64 z, .int .u32 x.f0, .int .u8 x.f1, .int .u8 x.f2, .int .i64 x.f3, .string x.f4]] w fun e w' => e = .returned (.tuple #[g, .bool true]) ∧ Below w.heap.size w w' := by
  obtain ⟨A, c, B, d, rfl, h1, h2, h3, h4, h5, h6⟩ := hg
  obtain ⟨V, hV, o2, o3, o4, hbV, hsz⟩ := doV w A B l2 W2 c d z x
  obtain ⟨W3, f1, f2, f3, f4⟩ := fin30 o2 o4 rfl rfl
  rw [← hV] at f1 f2
  have F1 := Aside0.mk f1
  have F2 := Aside0.mk f2
  have F3 := Aside0.mk f3
  have HB3 := Aside0.mk (hbV.trans (f4.below hbV.size (fun k hk e => by have : k = w.heap.size + 1 + 1 := e; omega)))
  clear h1 h2 h3 h4 h5 h6 hV o2 o3 o4 hbV hsz f1 f2 f3 f4 hk
  go_enter Try.func11, Try.ntmps11
  go_wp2_with (first | (refine pl_load rfl 30 _ rfl _ _ F1.out rfl ?_) | (refine pl_store rfl 30 _ _ rfl _ _ F2.out rfl rfl ?_))
  refine bodyPost_ret (results_row_tmp rfl _ _ (w.heap.size + 1 + 1) _ rfl F3.out) rfl ?_
  exact ⟨rfl, HB3.out⟩
end
end Go.Proofs.Ytndjhnipahkclaa.Ke

set_option linter.unusedSimpArgs false
set_option linter.unusedVariables false
namespace Go.Proofs.Ytndjhnipahkclaa.Ke
open Go.RowKit Go.Proofs.YtndjhnipahkclaaW.PrintWords Go.Proofs.YtndjhnipahkclaaW.PrintLast Go.Proofs.YtndjhnipahkclaaW.PrintMore Go.Proofs.Ytndjhnipahkclaa.PKeysPlay Go.Proofs.Ytndjhnipahkclaa.Lex Go.Proofs.Ytndjhnipahkclaa.Lib
/-- no two keys of a peer share a number; a wish is for a key that is there -/
structure Inv (l : List S36) (f : Int → Option Int) : Prop where
  apart : l.Pairwise (fun x y => twiceP y x = false)
  wished : ∀ p s, f p = some s → l.any (sendP p s) = true
  few : l.length ≤ 16
theorem Inv.nil : Inv [] (fW []) := ⟨List.Pairwise.nil, fun p s h => by simp [fW] at h, by decide⟩
section
variable {l : List S36} {f : Int → Option Int}
theorem Inv.add (h : Inv l f) (x : S36) : Inv (addS l x).1 f := by
  unfold addS
  by_cases h1 : badP x = true
  · rw [if_pos h1]; exact h
  rw [if_neg h1]
  by_cases h2 : l.any (twiceP x) = true
  · rw [if_pos h2]; exact h
  rw [if_neg h2]
  by_cases h3 : 16 ≤ l.length
  · rw [if_pos h3]; exact h
  rw [if_neg h3]
  refine ⟨?_, fun p s hp => ?_, by simp; omega⟩
  · refine List.pairwise_append.2 ⟨h.apart, List.pairwise_singleton _ _, fun a ha b hb => ?_⟩
    obtain rfl := List.mem_singleton.1 hb
    have h4 : l.any (twiceP b) = false := by simpa using h2
    simpa using List.any_eq_false.1 h4 a ha
  · rw [List.any_append, h.wished p s hp]
    rfl
/-- where a key is found, and what stands there -/
theorem idx_found {P : S36 → Bool} (h : l.any P = true) : ∃ i : Nat, idx P l = i ∧ i < l.length ∧ P (l.getD i z36) = true ∧ (l.find? P).getD z36 = l.getD i z36 := by
  obtain ⟨x, hx, hpx⟩ := List.any_eq_true.1 h
  unfold idx idxFrom
  rw [List.drop_zero]
  cases hf : l.findIdx? P with
  | none => exact absurd hpx (by simp [List.findIdx?_eq_none_iff.1 hf x hx])
  | some j =>
    obtain ⟨hj, hp, hlt⟩ := List.findIdx?_eq_some_iff_getElem.1 hf
    have hg : l.getD j z36 = l[j] := by rw [List.getD_eq_getElem?_getD, List.getElem?_eq_getElem hj]; rfl
    refine ⟨j, by show ((0 + j : Nat) : Int) = (j : Int); omega, hj, by rw [hg]; exact hp, ?_⟩
    obtain ⟨h5, _⟩ := find_at (p := P) (l := l) (k := j) (fun i hi => by
      have h7 := hlt i hi
      rw [List.getD_eq_getElem?_getD, List.getElem?_eq_getElem (by omega)]
      simpa using h7) hj (by rw [hg]; exact hp)
    rw [h5]
    rfl
theorem eqB_twice {x y : S36} (h : eqB x y = true) : twiceP y x = true := by
  simp only [eqB, Bool.and_eq_true, beq_iff_eq] at h
  simp [twiceP, h.1, h.2.1]
theorem eqB_symm {x y : S36} (h : eqB x y = true) : eqB y x = true := by
  simp only [eqB, Bool.and_eq_true, beq_iff_eq] at h ⊢
  exact ⟨h.1.symm, h.2.1.symm, h.2.2.1.symm, h.2.2.2.1.symm, h.2.2.2.2.symm⟩
theorem Inv.at (h : Inv l f) {i j : Nat} (hi : i < l.length) (hj : j < l.length) (he : eqB (l.getD i z36) (l.getD j z36) = true) : i = j := by
  rw [List.getD_eq_getElem?_getD, List.getElem?_eq_getElem hi, List.getD_eq_getElem?_getD, List.getElem?_eq_getElem hj] at he
  have he : eqB l[i] l[j] = true := he
  rcases Nat.lt_trichotomy i j with h1 | h1 | h1
  · have h2 := List.pairwise_iff_getElem.1 h.apart i j hi hj h1
    rw [eqB_twice he] at h2
    cases h2
  · exact h1
  · have h2 := List.pairwise_iff_getElem.1 h.apart j i hj hi h1
    rw [eqB_twice (eqB_symm he)] at h2
    cases h2
theorem pref_any (h : Inv l f) (peer send : Int) (ha : l.any (sendP peer send) = true) : l.any (prefP f peer) = true := by
  cases hf : f peer with
  | none =>
    obtain ⟨x, hx, hp⟩ := List.any_eq_true.1 ha
    refine List.any_eq_true.2 ⟨x, hx, ?_⟩
    simp only [sendP, Bool.and_eq_true] at hp
    simpa [prefP, hf] using hp.1
  | some s =>
    obtain ⟨x, hx, hp⟩ := List.any_eq_true.1 (h.wished peer s hf)
    refine List.any_eq_true.2 ⟨x, hx, ?_⟩
    simp only [sendP, Bool.and_eq_true] at hp
    simp only [prefP, hf, hp.1, Option.isSome_some, Option.getD_some, hp.2]
    rfl
theorem filter_erase (h : Inv l f) {i : Nat} (hi : i < l.length) : l.filter (fun x => !eqB x (l.getD i z36)) = l.take i ++ l.drop (i + 1) := by
  have hg : ∀ j (hj : j < l.length), l.getD j z36 = l[j] := fun j hj => by rw [List.getD_eq_getElem?_getD, List.getElem?_eq_getElem hj]; rfl
  conv => lhs; rw [← List.take_append_drop i l, drop_getD hi]
  rw [List.filter_append]
  have hgi : (l.take i ++ l.getD i z36 :: l.drop (i + 1)).getD i z36 = l.getD i z36 := by rw [← drop_getD hi, List.take_append_drop]
  rw [hgi, List.filter_cons_of_neg (by rw [eqB_refl]; decide)]
  congr 1
  · refine List.filter_eq_self.2 (fun x hx => ?_)
    obtain ⟨j, hj, rfl⟩ := List.mem_iff_getElem.1 hx
    have hj2 : j < i := by rw [List.length_take] at hj; omega
    have hj3 : j < l.length := by omega
    rw [List.getElem_take]
    cases he : eqB l[j] (l.getD i z36) with
    | false => rfl
    | true =>
      rw [← hg j hj3] at he
      have := h.at hj3 hi he
      omega
  · refine List.filter_eq_self.2 (fun x hx => ?_)
    obtain ⟨j, hj, rfl⟩ := List.mem_iff_getElem.1 hx
    have hj3 : i + 1 + j < l.length := by rw [List.length_drop] at hj; omega
    rw [List.getElem_drop]
    cases he : eqB l[i + 1 + j] (l.getD i z36) with
    | false => rfl
    | true =>
      rw [← hg _ hj3] at he
      have := h.at hj3 hi he
      omega
theorem rem_eq (h : Inv l f) (peer send : Int) : remK l f peer send = remS l f peer send := by
  have hd := idx_any (sendP peer send) l
  unfold remK remS
  cases ha : l.any (sendP peer send) with
  | false =>
    rw [ha] at hd
    rw [if_pos rfl, if_pos (by have := of_decide_eq_false hd; omega)]
  | true =>
    obtain ⟨i, h1, h2, h3, h4⟩ := idx_found ha
    obtain ⟨j, g1, g2, g3, g4⟩ := idx_found (pref_any h peer send ha)
    rw [if_neg (by decide), h4, g4, h1, g1]
    by_cases he : eqB (l.getD j z36) (l.getD i z36) = true
    · have hij := h.at g2 h2 he
      rw [if_pos he, if_neg (show ¬ ((i : Int) < 0) by omega), if_pos (by omega)]
    · rw [if_neg he, if_neg (show ¬ ((i : Int) < 0) by omega), if_neg (fun e => he (by
        have : j = i := by omega
        rw [this]
        exact eqB_refl _)), filter_erase h h2, Int.toNat_natCast]
theorem Inv.rem (h : Inv l f) (peer send : Int) : Inv (remK l f peer send).1 f := by
  unfold remK
  cases ha : l.any (sendP peer send) with
  | false => rw [if_pos rfl]; exact h
  | true =>
    rw [if_neg (by decide)]
    by_cases he : eqB ((l.find? (prefP f peer)).getD z36) ((l.find? (sendP peer send)).getD z36) = true
    · rw [if_pos he]; exact h
    rw [if_neg he]
    obtain ⟨i, h1, h2, h3, h4⟩ := idx_found ha
    obtain ⟨j, g1, g2, g3, g4⟩ := idx_found (pref_any h peer send ha)
    rw [h4] at he ⊢
    rw [g4] at he
    have hij : j ≠ i := fun e => he (by rw [e]; exact eqB_refl _)
    refine ⟨List.Pairwise.filter _ h.apart, fun q s hq => ?_, Nat.le_trans (List.length_filter_le _ _) h.few⟩
    obtain ⟨x, hx, hp⟩ := List.any_eq_true.1 (h.wished q s hq)
    refine List.any_eq_true.2 ⟨x, List.mem_filter.2 ⟨hx, ?_⟩, hp⟩
    cases hxe : eqB x (l.getD i z36) with
    | false => rfl
    | true =>
      exfalso
      simp only [eqB, Bool.and_eq_true, beq_iff_eq] at hxe
      simp only [sendP, Bool.and_eq_true, beq_iff_eq] at hp h3
      have e1 : q = peer := by rw [← hp.1, hxe.1, h3.1]
      have e2 : s = send := by rw [← hp.2, hxe.2.1, h3.2]
      subst e1 e2
      have hPP : prefP f q = sendP q s := by funext y; simp [prefP, sendP, hq]
      rw [hPP, h1] at g1
      omega
theorem Inv.prefer (h : Inv l f) (peer send : Int) : Inv l (prfK l f peer send).1 := by
  unfold prfK
  cases ha : l.any (sendP peer send) with
  | false => rw [if_pos rfl]; exact h
  | true =>
    rw [if_neg (by decide)]
    refine ⟨h.apart, fun q s hq => ?_, h.few⟩
    have hq : (if q = peer then some send else f q) = some s := hq
    by_cases e : q = peer
    · rw [if_pos e] at hq
      injection hq with hq
      rw [e, ← hq]
      exact ha
    · rw [if_neg e] at hq
      exact h.wished q s hq
end
theorem prf_eq (l : List S36) (W : List S72) (peer send : Int) : (prfK l (fW W) peer send).1 = fW (prfS l W peer send).1 ∧ (prfK l (fW W) peer send).2 = (prfS l W peer send).2 := by
  have hd := idx_any (sendP peer send) l
  unfold prfK prfS
  cases ha : l.any (sendP peer send) with
  | false =>
    rw [ha] at hd
    rw [if_pos rfl, if_pos (by have := of_decide_eq_false hd; omega)]
    exact ⟨rfl, rfl⟩
  | true =>
    rw [ha] at hd
    rw [if_neg (by decide), if_neg (by have := of_decide_eq_true hd; omega)]
    refine ⟨?_, rfl⟩
    funext q
    rw [fW_add]
/-- a step of the program's keys -/
def stK (l : List S36) (f : Int → Option Int) (a : S38) : List S36 × (Int → Option Int) × Int :=
  if a.f0 = 1 then ((addS l a.f1).1, f, (addS l a.f1).2) else if a.f0 = 2 then ((remK l f a.f1.f0 a.f1.f1).1, f, (remK l f a.f1.f0 a.f1.f1).2) else if a.f0 = 3 then (l, (prfK l f a.f1.f0 a.f1.f1).1, (prfK l f a.f1.f0 a.f1.f1).2) else (l, f, 0)
/-- a step of the document's -/
def stG (l : List S36) (W : List S72) (a : S38) : List S36 × List S72 × Int :=
  if a.f0 = 1 then ((addS l a.f1).1, W, (addS l a.f1).2) else if a.f0 = 2 then ((remS l (fW W) a.f1.f0 a.f1.f1).1, W, (remS l (fW W) a.f1.f0 a.f1.f1).2) else if a.f0 = 3 then (l, (prfS l W a.f1.f0 a.f1.f1).1, (prfS l W a.f1.f0 a.f1.f1).2) else (l, W, 0)
theorem st_eq {l : List S36} {W : List S72} (h : Inv l (fW W)) (a : S38) : (stK l (fW W) a).1 = (stG l W a).1 ∧ (stK l (fW W) a).2.1 = fW (stG l W a).2.1 ∧ (stK l (fW W) a).2.2 = (stG l W a).2.2 := by
  unfold stK stG
  by_cases h1 : a.f0 = 1
  · rw [if_pos h1, if_pos h1]; exact ⟨rfl, rfl, rfl⟩
  rw [if_neg h1, if_neg h1]
  by_cases h2 : a.f0 = 2
  · rw [if_pos h2, if_pos h2, rem_eq h]; exact ⟨rfl, rfl, rfl⟩
  rw [if_neg h2, if_neg h2]
  by_cases h3 : a.f0 = 3
  · rw [if_pos h3, if_pos h3]; exact ⟨rfl, (prf_eq l W _ _).1, (prf_eq l W _ _).2⟩
  rw [if_neg h3, if_neg h3]
  exact ⟨rfl, rfl, rfl⟩
theorem st_inv {l : List S36} {f : Int → Option Int} (h : Inv l f) (a : S38) : Inv (stK l f a).1 (stK l f a).2.1 := by
  unfold stK
  by_cases h1 : a.f0 = 1
  · rw [if_pos h1]; exact h.add _
  rw [if_neg h1]
  by_cases h2 : a.f0 = 2
  · rw [if_pos h2]; exact h.rem _ _
  rw [if_neg h2]
  by_cases h3 : a.f0 = 3
  · rw [if_pos h3]; exact h.prefer _ _
  rw [if_neg h3]
  exact h
theorem st_few (l : List S36) (W : List S72) (a : S38) : (stG l W a).2.1.length ≤ W.length + 1 := by
  unfold stG
  by_cases h1 : a.f0 = 1
  · rw [if_pos h1]; show W.length ≤ _; omega
  rw [if_neg h1]
  by_cases h2 : a.f0 = 2
  · rw [if_pos h2]; show W.length ≤ _; omega
  rw [if_neg h2]
  by_cases h3 : a.f0 = 3
  · rw [if_pos h3]
    show (prfS l W a.f1.f0 a.f1.f1).1.length ≤ _
    unfold prfS
    by_cases h4 : idx (sendP a.f1.f0 a.f1.f1) l < 0
    · rw [if_pos h4]; show W.length ≤ _; omega
    · rw [if_neg h4]; simp
  rw [if_neg h3]
  show W.length ≤ _
  omega
end Go.Proofs.Ytndjhnipahkclaa.Ke

set_option linter.unusedSimpArgs false
set_option linter.unusedVariables false
namespace Go.Proofs.Ytndjhnipahkclaa.Ke
open Go.RowKit Go.Proofs.YtndjhnipahkclaaW.PrintWords Go.Proofs.YtndjhnipahkclaaW.PrintLast Go.Proofs.YtndjhnipahkclaaW.PrintMore Go.Proofs.Ytndjhnipahkclaa.PKeysPlay Go.Proofs.Ytndjhnipahkclaa.Lex Go.Proofs.Ytndjhnipahkclaa.Lib
attribute [local go_sem high] eqA36n
section
variable {S T : Nat → Prop} {p N : Nat} {w : World} {g : Value} {l : List S36} {f : Int → Option Int} {W : List S72}
theorem allX (h : KX S p w l f N) (hl : l.length ≤ 100000) : Calls Try.prog 15 #[ptr p] w fun e w' => ∃ v, e = .returned v ∧ OK w.heap.size w' v l ∧ Below w.heap.size w w' := by
  obtain ⟨m, n, A, c, hk, hn⟩ := h
  exact allC p m n A c l f w hk hl
theorem bySendX (h : KX S p w l f N) (peer n : Int) : Calls Try.prog 17 #[ptr p, .int .u32 peer, .int .u8 n] w fun e w' => e = .returned (.tuple #[a36 ((l.find? (sendP peer n)).getD z36), .bool (l.any (sendP peer n))]) ∧ Below w.heap.size w w' := by
  obtain ⟨m, n', A, c, hk, hn⟩ := h
  exact bySendC p m A c l peer n w hk.c0 hk.c1 hk.row
theorem byRecvX (h : KX S p w l f N) (peer n : Int) : Calls Try.prog 18 #[ptr p, .int .u32 peer, .int .u8 n] w fun e w' => e = .returned (.tuple #[a36 ((l.find? (recvP peer n)).getD z36), .bool (l.any (recvP peer n))]) ∧ Below w.heap.size w w' := by
  obtain ⟨m, n', A, c, hk, hn⟩ := h
  exact byRecvC p m A c l peer n w hk.c0 hk.c1 hk.row
theorem prefX (h : KX S p w l f N) (peer : Int) (hp : (kl peer).wf = true) : Calls Try.prog 14 #[ptr p, .int .u32 peer] w fun e w' => e = .returned (.tuple #[a36 ((l.find? (prefP f peer)).getD z36), .bool (l.any (prefP f peer))]) ∧ Below w.heap.size w w' := by
  obtain ⟨m, n', A, c, hk, hn⟩ := h
  exact preferredC p m n' A c l f peer w hk hp
theorem told_ok (P : S36 → Bool) (l : List S36) : toldB ((l.find? P).getD z36) (l.any P) l (idx P l) = true := by
  have h1 := idx_any P l
  unfold idx idxFrom at *
  rw [List.drop_zero] at *
  cases h : l.findIdx? P with
  | none =>
    have h2 := List.findIdx?_eq_none_iff.1 h
    have h3 : l.any P = false := List.any_eq_false.2 (fun x hx => by simp [h2 x hx])
    have h4 : l.find? P = none := List.find?_eq_none.2 (fun x hx => by simp [h2 x hx])
    rw [h3, h4]
    unfold toldB
    rw [if_pos (by show (-1 : Int) < 0; omega)]
    show (eqB z36 z36 && !false) = true
    rw [eqB_refl]
    rfl
  | some j =>
    obtain ⟨hj, hp, hlt⟩ := List.findIdx?_eq_some_iff_getElem.1 h
    have hg : l.getD j z36 = l[j] := by rw [List.getD_eq_getElem?_getD, List.getElem?_eq_getElem hj]; rfl
    obtain ⟨h5, h6⟩ := find_at (p := P) (l := l) (k := j) (fun i hi => by
      have h7 := hlt i hi
      rw [List.getD_eq_getElem?_getD, List.getElem?_eq_getElem (by omega)]
      simpa using h7) hj (by rw [hg]; exact hp)
    rw [h5, h6]
    unfold toldB
    rw [if_neg (by show ¬ (((0 + j : Nat) : Int) < 0); omega)]
    show (eqB (l.getD j z36) (l.getD (((0 + j : Nat) : Int).toNat) z36) && true) = true
    rw [Int.toNat_natCast, Nat.zero_add, eqB_refl]
    rfl
theorem told_all (h : GR T w g l W) (P : S36 → Bool) : Calls Try.prog 25 #[a36 ((l.find? P).getD z36), .bool (l.any P), g, .int .i64 (idx P l)] w fun e w' => e = .returned (.bool true) ∧ Below w.heap.size w w' := by
  have h2 := toldC h ((l.find? P).getD z36) (l.any P) (idx P l) (idx_lt P l)
  rw [told_ok] at h2
  exact h2
set_option maxHeartbeats 16000000 in
set_option maxRecDepth 100000 in
theorem sameC (hk : KX S p w l f N) (hg : GR T w g l W) (hf : f = fW W) (hl : l.length < 100000) (hW : W.length < 100000) : Calls Try.prog 12 #[ptr p, g] w fun e w' => e = .returned (.bool true) ∧ Below w.heap.size w w' := by
  subst hf
  obtain ⟨A, c, B, d, rfl, h1, h2, h3, h4, h5, h6⟩ := id hg
  have HGR := Aside0.mk hg
  have hb0 := below_alloc (Below.refl w.heap.size w) (.cells #[.slice A l.length c, .slice B W.length d] 30)
  have ob0 : Ob w.heap.size (w.alloc (.cells #[.slice A l.length c, .slice B W.length d] 30)) [.slice A l.length c, .slice B W.length d] := Ob.new w _ _ rfl _
  have HA := Aside0.mk (allX (hk.below hb0) (by omega))
  have HB0 := Aside0.mk hb0
  have HOB := Aside0.mk ob0
  have HK := Aside0.mk hk
  have HL := Aside0.mk hl
  have HWL := Aside0.mk hW
  clear h1 h2 h3 h4 h5 h6 hg hb0 ob0 hk hl hW
  go_enter Try.func12, Try.ntmps12
  go_wp2_with fail
  refine HA.out.mono ?_
  rintro e w1 ⟨v, rfl, ho, hb1⟩
  have HO := Aside0.mk ho
  have HB1 := Aside0.mk (HB0.out.trans (hb1.mono HB0.out.size))
  have HO1 := Aside0.mk (HOB.out.below hb1 HOB.out.lt)
  obtain ⟨Av, cv, rfl, hcv, hC⟩ := ho.reads
  have HC := Aside0.mk hC
  have HF : Aside0 (∀ U, Below w1.heap.size w1 U → (U).cell? ⟨w.heap.size, 0, none⟩ = some (.slice A l.length c) ∧ (U).cell? ⟨w.heap.size, 1, none⟩ = some (.slice B W.length d)) := ⟨fun U hU => ⟨((HO1.out.below hU HO1.out.lt) 0 _ rfl).1, ((HO1.out.below hU HO1.out.lt) 1 _ rfl).1⟩⟩
  have HKU : Aside0 (∀ U, Below w1.heap.size w1 U → KX S p U l (fW W) N) := ⟨fun U hU => HK.out.below (HB1.out.trans (hU.mono HB1.out.size))⟩
  have HGU : Aside0 (∀ U, Below w1.heap.size w1 U → GR T U (.agg #[.slice A l.length c, .slice B W.length d]) l W) := ⟨fun U hU => HGR.out.below (HB1.out.trans (hU.mono HB1.out.size))⟩
  obtain ⟨c0, c1⟩ := HF.out w1 (Below.refl _ _)
  clear ho hb1 hC hcv HA
  go_wp2_with fail
  clear c0 c1
  go_loopg [6] l.length (fun gk s6 U => ∃ i : Nat, i ≤ l.length ∧ l.length - i ≤ gk ∧ s6 = .int .i64 i ∧ Aside0 (Below w1.heap.size w1 U))
  case atStart => exact ⟨0, by omega, by omega, rfl, ⟨Below.refl _ _⟩⟩
  case round =>
    obtain ⟨i, hi, hgk, rfl, HB⟩ := hrel
    have hl1 := HL.out
    by_cases hlt : i < l.length
    · obtain ⟨A2, c2, B2, d2, e2, _, hC1, _, _, _, _⟩ := HGU.out wr HB.out
      injection e2 with e2
      have e3 : Value.slice A l.length c = Value.slice A2 l.length c2 := by
        have := congrArg (fun q => q[0]!) e2
        simpa using this
      injection e3 with e4 _ e5
      rw [← e4] at hC1
      obtain ⟨bg, og, rfl, q0, q1, q2, q3, q4⟩ := C_key hC1 i hlt
      obtain ⟨bv, ov, rfl, r0, r1, r2, r3, r4⟩ := C_key (Kd.C_below HC.out HB.out) i hlt
      obtain ⟨y, hy⟩ : ∃ y, l.getD i z36 = y := ⟨_, rfl⟩
      rw [hy] at q0 q1 q2 q3 q4 r0 r1 r2 r3 r4
      have hE : eqN y.f0 y.f1 y.f2 y.f3 y.f4 y.f0 y.f1 y.f2 y.f3 y.f4 = true := eqB_refl y
      obtain ⟨c0, c1⟩ := HF.out wr HB.out
      clear e2 e4 e5 hC1 hy
      go_wp2_with fail
      refine region [(0, .p), (1, .p), (2, .p), (4, .p), (6, .p), (3, .t), (5, .t), (7, .p), (8, .t), (9, .p)] (fun U => U = wr.drew) (by kernel_rfl) (by kernel_rfl) (fun _ _ _ _ _ h => h) (rfl) (fun hHeld => ?_)
      iterate 5 (refine lex_p rfl rfl rfl (by intro w'; go_simp; with_reducible rfl) (by simp only [Act.put, List.setIfInBounds_toArray, List.set_cons_zero, List.set_cons_succ, i64_w, i32_w]; rfl) ?_)
      iterate 2 (refine lex_t rfl rfl rfl (by rintro w' rfl; go_simp; with_reducible rfl) (by simp only [Act.put, List.setIfInBounds_toArray, List.set_cons_zero, List.set_cons_succ, i64_w, i32_w]; rfl) ?_)
      (refine lex_p rfl rfl rfl (by intro w'; go_simp; with_reducible rfl) (by simp only [Act.put, List.setIfInBounds_toArray, List.set_cons_zero, List.set_cons_succ, i64_w, i32_w]; rfl) ?_)
      (refine lex_t rfl rfl rfl (by rintro w' rfl; go_simp; with_reducible rfl) (by simp only [Act.put, List.setIfInBounds_toArray, List.set_cons_zero, List.set_cons_succ, i64_w, i32_w]; rfl) ?_)
      (refine lex_p rfl rfl rfl (by intro w'; go_simp; with_reducible rfl) (by simp only [Act.put, List.setIfInBounds_toArray, List.set_cons_zero, List.set_cons_succ, i64_w, i32_w]; rfl) ?_)
      refine lex_nil ?_
      have HBD := Aside0.mk (HB.out.trans ((below_drew (Below.refl wr.heap.size wr)).mono HB.out.size))
      go_wp2_with fail
      go_roundg (gk - 1)
      case measure => omega
      case rel => exact ⟨i + 1, by omega, by omega, by go_num, HBD⟩
    · obtain rfl : i = l.length := by omega
      have hlI : ¬ ((l.length : Int) < (l.length : Int)) := by omega
      go_wp2_with fail
      go_loopg [7] 5 (fun gk s7 U => ∃ q : Nat, q ≤ 5 ∧ 5 - q ≤ gk ∧ s7 = .int .u32 q ∧ Aside0 (Below w1.heap.size w1 U))
      case atStart => exact ⟨0, by omega, by omega, rfl, HB⟩
      case round =>
        clear HB
        obtain ⟨q, hq5, hgk2, rfl, HB⟩ := hrel
        obtain ⟨gkq, HGQ⟩ : ∃ g : Nat, Aside0 (g = gk) := ⟨_, ⟨rfl⟩⟩
        by_cases hq : q < 5
        · have hqI : ((q : Int) < 5) := by omega
          have hwf : (kl (q : Int)).wf = true := by
            rcases (by omega : q = 0 ∨ q = 1 ∨ q = 2 ∨ q = 3 ∨ q = 4) with rfl | rfl | rfl | rfl | rfl <;> rfl
          have HP := Aside0.mk (prefX (HKU.out wr HB.out) (q : Int) hwf)
          clear hwf
          go_wp2_with fail
          refine HP.out.mono ?_
          rintro e w2 ⟨rfl, hb2⟩
          obtain ⟨y, hy⟩ : ∃ y, (l.find? (prefP (fW W) (q : Int))).getD z36 = y := ⟨_, rfl⟩
          obtain ⟨is, his⟩ : ∃ y, l.any (prefP (fW W) (q : Int)) = y := ⟨_, rfl⟩
          rw [hy, his]
          have HB2 := Aside0.mk (HB.out.trans (hb2.mono HB.out.size))
          have HB3 := Aside0.mk (HB2.out.trans ((below_alloc (Below.refl w2.heap.size w2) (.cells #[.int .u32 y.f0, .int .u8 y.f1, .int .u8 y.f2, .int .i64 y.f3, .string y.f4] 36)).mono HB2.out.size))
          have HOY := Aside0.mk (Ob.new w2 (c36 y) #[.int .u32 y.f0, .int .u8 y.f1, .int .u8 y.f2, .int .i64 y.f3, .string y.f4] rfl 36)
          have HPR : Aside0 (∀ U, Below w1.heap.size w1 U → Calls Try.prog 26 #[.agg #[.slice A l.length c, .slice B W.length d], .int .u32 (q : Int)] U fun e w' => e = .returned (.int .i64 (idx (prefP (fW W) (q : Int)) l)) ∧ Below U.heap.size U w') := ⟨fun U hU => prefR (HGU.out U hU) (by have := HL.out; omega) (by have := HWL.out; omega) (q : Int)⟩
          have HTO : Aside0 (∀ U, Below w1.heap.size w1 U → Calls Try.prog 25 #[a36 y, .bool is, .agg #[.slice A l.length c, .slice B W.length d], .int .i64 (idx (prefP (fW W) (q : Int)) l)] U fun e w' => e = .returned (.bool true) ∧ Below U.heap.size U w') := ⟨fun U hU => by
            have h := told_all (HGU.out U hU) (prefP (fW W) (q : Int))
            rw [hy, his] at h
            exact h⟩
          obtain ⟨ix, hix⟩ : ∃ ix, idx (prefP (fW W) (q : Int)) l = ix := ⟨_, rfl⟩
          rw [hix] at HPR HTO
          obtain ⟨V, hV⟩ : ∃ V, w2.alloc (.cells #[.int .u32 y.f0, .int .u8 y.f1, .int .u8 y.f2, .int .i64 y.f3, .string y.f4] 36) = V := ⟨_, rfl⟩
          rw [hV] at HB3 HOY
          have HV := Aside0.mk hV
          have HG : Aside0 (∀ U, Below V.heap.size V U → ((U).cell? ⟨w2.heap.size, 0, none⟩ = some (.int .u32 y.f0) ∧ (U).cell? ⟨w2.heap.size, 1, none⟩ = some (.int .u8 y.f1) ∧ (U).cell? ⟨w2.heap.size, 2, none⟩ = some (.int .u8 y.f2) ∧ (U).cell? ⟨w2.heap.size, 3, none⟩ = some (.int .i64 y.f3) ∧ (U).cell? ⟨w2.heap.size, 4, none⟩ = some (.string y.f4)) ∧ (U).cell? ⟨w.heap.size, 0, none⟩ = some (.slice A l.length c) ∧ (U).cell? ⟨w.heap.size, 1, none⟩ = some (.slice B W.length d)) := ⟨fun U hU => by
            have hy2 := HOY.out.below hU HOY.out.lt
            obtain ⟨a0, a1⟩ := HF.out U (HB3.out.trans (hU.mono HB3.out.size))
            exact ⟨⟨(hy2 0 _ rfl).1, (hy2 1 _ rfl).1, (hy2 2 _ rfl).1, (hy2 3 _ rfl).1, (hy2 4 _ rfl).1⟩, a0, a1⟩⟩
          clear hb2 hy his hix hV HP
          go_wp2_with fail
          rw [HV.out]
          refine region [(1, .p), (4, .p), (0, .t), (2, .t), (3, .t), (5, .o), (6, .o), (7, .p)] (fun U => ((U).cell? ⟨w2.heap.size, 0, none⟩ = some (.int .u32 y.f0) ∧ (U).cell? ⟨w2.heap.size, 1, none⟩ = some (.int .u8 y.f1) ∧ (U).cell? ⟨w2.heap.size, 2, none⟩ = some (.int .u8 y.f2) ∧ (U).cell? ⟨w2.heap.size, 3, none⟩ = some (.int .i64 y.f3) ∧ (U).cell? ⟨w2.heap.size, 4, none⟩ = some (.string y.f4)) ∧ (U).cell? ⟨w.heap.size, 0, none⟩ = some (.slice A l.length c) ∧ (U).cell? ⟨w.heap.size, 1, none⟩ = some (.slice B W.length d)) (by kernel_rfl) (by kernel_rfl) (fun _ _ _ _ _ h => h) (HG.out _ (below_drew (Below.refl _ _))) (fun hHeld => ?_)
          iterate 2 (refine lex_p rfl rfl rfl (by intro w'; go_simp; with_reducible rfl) (by simp only [Act.put, List.setIfInBounds_toArray, List.set_cons_zero, List.set_cons_succ, i64_w, i32_w]; rfl) ?_)
          iterate 3 (refine lex_t rfl rfl rfl (by rintro w' ⟨⟨s0, s1, s2, s3, s4⟩, s5, s6⟩; go_simp; with_reducible rfl) (by simp only [Act.put, List.setIfInBounds_toArray, List.set_cons_zero, List.set_cons_succ, i64_w, i32_w]; rfl) ?_)
          refine lex_o rfl ?_
          go_wp2_with fail
          refine (HPR.out _ (HB3.out.trans ((below_drew (Below.refl V.heap.size V)).mono HB3.out.size))).mono ?_
          rintro e w4 ⟨rfl, hb4⟩
          have B4 := Aside0.mk ((below_drew (Below.refl V.heap.size V)).trans hb4)
          clear hb4
          go_wp2_with fail
          refine lex_end (by first | (simp only [Act.put, List.setIfInBounds_toArray, List.set_cons_zero, List.set_cons_succ, i64_w, i32_w]; rfl) | rfl) (HG.out _ B4.out) (fun hHeld => ?_)
          refine lex_o rfl ?_
          go_wp2_with fail
          refine (HTO.out _ (HB3.out.trans (B4.out.mono HB3.out.size))).mono ?_
          rintro e w5 ⟨rfl, hb5⟩
          have B5 := Aside0.mk (B4.out.trans (hb5.mono B4.out.size))
          clear hb5
          go_wp2_with fail
          refine lex_end (by first | (simp only [Act.put, List.setIfInBounds_toArray, List.set_cons_zero, List.set_cons_succ, i64_w, i32_w]; rfl) | rfl) (HG.out _ B5.out) (fun hHeld => ?_)
          (refine lex_p rfl rfl rfl (by intro w'; go_simp; with_reducible rfl) (by simp only [Act.put, List.setIfInBounds_toArray, List.set_cons_zero, List.set_cons_succ, i64_w, i32_w]; rfl) ?_)
          refine lex_nil ?_
          have HB5 := Aside0.mk (HB3.out.trans (B5.out.mono HB3.out.size))
          go_wp2_with fail
          clear HPR HTO HG HOY
          go_loopg [10] 12 (fun gk s10 U => ∃ n : Nat, n ≤ 12 ∧ 12 - n ≤ gk ∧ s10 = .int .i64 n ∧ Aside0 (Below w1.heap.size w1 U))
          case atStart => exact ⟨0, by omega, by omega, rfl, HB5⟩
          case round =>
            obtain ⟨n, hn12, hgk3, rfl, HBn⟩ := hrel
            by_cases hn : n < 12
            · have hnI : ((n : Int) < 12) := by omega
              have hwu : IntKind.u8.wrap (n : Int) = (n : Int) := by
                rw [IntKind.wrap_u8]
                omega
              have HPS := Aside0.mk (bySendX (HKU.out wr HBn.out) (q : Int) (n : Int))
              go_wp2_with fail
              refine HPS.out.mono ?_
              rintro e w6 ⟨rfl, hb6⟩
              obtain ⟨ys, hys⟩ : ∃ y, (l.find? (sendP (q : Int) (n : Int))).getD z36 = y := ⟨_, rfl⟩
              obtain ⟨iss, hiss⟩ : ∃ y, l.any (sendP (q : Int) (n : Int)) = y := ⟨_, rfl⟩
              rw [hys, hiss]
              have b6 := HBn.out.trans (hb6.mono HBn.out.size)
              have b7 := b6.trans ((below_alloc (Below.refl w6.heap.size w6) (.cells #[.int .u32 ys.f0, .int .u8 ys.f1, .int .u8 ys.f2, .int .i64 ys.f3, .string ys.f4] 36)).mono b6.size)
              have HOS := Aside0.mk (Ob.new w6 (c36 ys) #[.int .u32 ys.f0, .int .u8 ys.f1, .int .u8 ys.f2, .int .i64 ys.f3, .string ys.f4] rfl 36)
              have HPR := Aside0.mk (byRecvX (HKU.out _ b7) (q : Int) (n : Int))
              have HB7 := Aside0.mk b7
              have HYS := Aside0.mk hys
              have HISS := Aside0.mk hiss
              clear hb6 b6 b7 hys hiss HPS
              go_wp2_with fail
              refine HPR.out.mono ?_
              rintro e w8 ⟨rfl, hb8⟩
              obtain ⟨yr, hyr⟩ : ∃ y, (l.find? (recvP (q : Int) (n : Int))).getD z36 = y := ⟨_, rfl⟩
              obtain ⟨isr, hisr⟩ : ∃ y, l.any (recvP (q : Int) (n : Int)) = y := ⟨_, rfl⟩
              rw [hyr, hisr]
              have b8 := HB7.out.trans (hb8.mono HB7.out.size)
              have HB9 := Aside0.mk (b8.trans ((below_alloc (Below.refl w8.heap.size w8) (.cells #[.int .u32 yr.f0, .int .u8 yr.f1, .int .u8 yr.f2, .int .i64 yr.f3, .string yr.f4] 36)).mono b8.size))
              have HOR := Aside0.mk (Ob.new w8 (c36 yr) #[.int .u32 yr.f0, .int .u8 yr.f1, .int .u8 yr.f2, .int .i64 yr.f3, .string yr.f4] rfl 36)
              have hos8 := HOS.out.below hb8 HOS.out.lt
              have HOS9 := Aside0.mk (hos8.below (below_alloc (Below.refl w8.heap.size w8) (.cells #[.int .u32 yr.f0, .int .u8 yr.f1, .int .u8 yr.f2, .int .i64 yr.f3, .string yr.f4] 36)) hos8.lt)
              have HSR : Aside0 (∀ U, Below w1.heap.size w1 U → Calls Try.prog 27 #[.agg #[.slice A l.length c, .slice B W.length d], .int .u32 (q : Int), .int .u8 (n : Int)] U fun e w' => e = .returned (.int .i64 (idx (sendP (q : Int) (n : Int)) l)) ∧ Below U.heap.size U w') := ⟨fun U hU => sendR (HGU.out U hU) (by have := HL.out; omega) (q : Int) (n : Int)⟩
              have HRR : Aside0 (∀ U, Below w1.heap.size w1 U → Calls Try.prog 28 #[.agg #[.slice A l.length c, .slice B W.length d], .int .u32 (q : Int), .int .u8 (n : Int)] U fun e w' => e = .returned (.int .i64 (idx (recvP (q : Int) (n : Int)) l)) ∧ Below U.heap.size U w') := ⟨fun U hU => recvR (HGU.out U hU) (by have := HL.out; omega) (q : Int) (n : Int)⟩
              have HTS : Aside0 (∀ U, Below w1.heap.size w1 U → Calls Try.prog 25 #[a36 ys, .bool iss, .agg #[.slice A l.length c, .slice B W.length d], .int .i64 (idx (sendP (q : Int) (n : Int)) l)] U fun e w' => e = .returned (.bool true) ∧ Below U.heap.size U w') := ⟨fun U hU => by
                have h := told_all (HGU.out U hU) (sendP (q : Int) (n : Int))
                rw [HYS.out, HISS.out] at h
                exact h⟩
              have HTR : Aside0 (∀ U, Below w1.heap.size w1 U → Calls Try.prog 25 #[a36 yr, .bool isr, .agg #[.slice A l.length c, .slice B W.length d], .int .i64 (idx (recvP (q : Int) (n : Int)) l)] U fun e w' => e = .returned (.bool true) ∧ Below U.heap.size U w') := ⟨fun U hU => by
                have h := told_all (HGU.out U hU) (recvP (q : Int) (n : Int))
                rw [hyr, hisr] at h
                exact h⟩
              obtain ⟨ixs, hixs⟩ : ∃ ix, idx (sendP (q : Int) (n : Int)) l = ix := ⟨_, rfl⟩
              obtain ⟨ixr, hixr⟩ : ∃ ix, idx (recvP (q : Int) (n : Int)) l = ix := ⟨_, rfl⟩
              rw [hixs] at HSR HTS
              rw [hixr] at HRR HTR
              obtain ⟨V, hV⟩ : ∃ V, w8.alloc (.cells #[.int .u32 yr.f0, .int .u8 yr.f1, .int .u8 yr.f2, .int .i64 yr.f3, .string yr.f4] 36) = V := ⟨_, rfl⟩
              rw [hV] at HB9 HOR HOS9
              have HV := Aside0.mk hV
              have HG : Aside0 (∀ U, Below V.heap.size V U → ((U).cell? ⟨w6.heap.size, 0, none⟩ = some (.int .u32 ys.f0) ∧ (U).cell? ⟨w6.heap.size, 1, none⟩ = some (.int .u8 ys.f1) ∧ (U).cell? ⟨w6.heap.size, 2, none⟩ = some (.int .u8 ys.f2) ∧ (U).cell? ⟨w6.heap.size, 3, none⟩ = some (.int .i64 ys.f3) ∧ (U).cell? ⟨w6.heap.size, 4, none⟩ = some (.string ys.f4)) ∧ ((U).cell? ⟨w8.heap.size, 0, none⟩ = some (.int .u32 yr.f0) ∧ (U).cell? ⟨w8.heap.size, 1, none⟩ = some (.int .u8 yr.f1) ∧ (U).cell? ⟨w8.heap.size, 2, none⟩ = some (.int .u8 yr.f2) ∧ (U).cell? ⟨w8.heap.size, 3, none⟩ = some (.int .i64 yr.f3) ∧ (U).cell? ⟨w8.heap.size, 4, none⟩ = some (.string yr.f4)) ∧ (U).cell? ⟨w.heap.size, 0, none⟩ = some (.slice A l.length c) ∧ (U).cell? ⟨w.heap.size, 1, none⟩ = some (.slice B W.length d)) := ⟨fun U hU => by
                have hy1 := HOS9.out.below hU HOS9.out.lt
                have hy2 := HOR.out.below hU HOR.out.lt
                obtain ⟨a0, a1⟩ := HF.out U (HB9.out.trans (hU.mono HB9.out.size))
                exact ⟨⟨(hy1 0 _ rfl).1, (hy1 1 _ rfl).1, (hy1 2 _ rfl).1, (hy1 3 _ rfl).1, (hy1 4 _ rfl).1⟩, ⟨(hy2 0 _ rfl).1, (hy2 1 _ rfl).1, (hy2 2 _ rfl).1, (hy2 3 _ rfl).1, (hy2 4 _ rfl).1⟩, a0, a1⟩⟩
              clear hb8 b8 hyr hisr hixs hixr hV HPR hos8
              go_wp2_with fail
              rw [HV.out]
              refine region [(1, .p), (4, .p), (5, .p), (6, .p), (0, .t), (2, .t), (3, .t), (7, .o), (8, .o), (9, .p), (10, .p), (12, .p), (15, .p), (16, .p), (17, .p), (11, .t), (13, .t), (14, .t), (18, .o), (19, .o), (20, .p), (21, .p)] (fun U => ((U).cell? ⟨w6.heap.size, 0, none⟩ = some (.int .u32 ys.f0) ∧ (U).cell? ⟨w6.heap.size, 1, none⟩ = some (.int .u8 ys.f1) ∧ (U).cell? ⟨w6.heap.size, 2, none⟩ = some (.int .u8 ys.f2) ∧ (U).cell? ⟨w6.heap.size, 3, none⟩ = some (.int .i64 ys.f3) ∧ (U).cell? ⟨w6.heap.size, 4, none⟩ = some (.string ys.f4)) ∧ ((U).cell? ⟨w8.heap.size, 0, none⟩ = some (.int .u32 yr.f0) ∧ (U).cell? ⟨w8.heap.size, 1, none⟩ = some (.int .u8 yr.f1) ∧ (U).cell? ⟨w8.heap.size, 2, none⟩ = some (.int .u8 yr.f2) ∧ (U).cell? ⟨w8.heap.size, 3, none⟩ = some (.int .i64 yr.f3) ∧ (U).cell? ⟨w8.heap.size, 4, none⟩ = some (.string yr.f4)) ∧ (U).cell? ⟨w.heap.size, 0, none⟩ = some (.slice A l.length c) ∧ (U).cell? ⟨w.heap.size, 1, none⟩ = some (.slice B W.length d)) (by kernel_rfl) (by kernel_rfl) (fun _ _ _ _ _ h => h) (HG.out _ (below_drew (Below.refl _ _))) (fun hHeld => ?_)
              iterate 4 (refine lex_p rfl rfl rfl (by intro w'; go_simp; with_reducible rfl) (by simp only [Act.put, List.setIfInBounds_toArray, List.set_cons_zero, List.set_cons_succ, i64_w, i32_w]; rfl) ?_)
              iterate 3 (refine lex_t rfl rfl rfl (by rintro w' ⟨⟨s0, s1, s2, s3, s4⟩, ⟨r0, r1, r2, r3, r4⟩, s5, s6⟩; go_simp; with_reducible rfl) (by simp only [Act.put, List.setIfInBounds_toArray, List.set_cons_zero, List.set_cons_succ, i64_w, i32_w]; rfl) ?_)
              refine lex_o rfl ?_
              go_wp2_with fail
              refine (HSR.out _ (HB9.out.trans ((below_drew (Below.refl V.heap.size V)).mono HB9.out.size))).mono ?_
              rintro e v4 ⟨rfl, hb4⟩
              have B4 := Aside0.mk ((below_drew (Below.refl V.heap.size V)).trans hb4)
              clear hb4
              go_wp2_with fail
              refine lex_end (by first | (simp only [Act.put, List.setIfInBounds_toArray, List.set_cons_zero, List.set_cons_succ, i64_w, i32_w]; rfl) | rfl) (HG.out _ B4.out) (fun hHeld => ?_)
              refine lex_o rfl ?_
              go_wp2_with fail
              refine (HTS.out _ (HB9.out.trans (B4.out.mono HB9.out.size))).mono ?_
              rintro e v5 ⟨rfl, hb5⟩
              have B5 := Aside0.mk (B4.out.trans (hb5.mono B4.out.size))
              clear hb5
              go_wp2_with fail
              refine lex_end (by first | (simp only [Act.put, List.setIfInBounds_toArray, List.set_cons_zero, List.set_cons_succ, i64_w, i32_w]; rfl) | rfl) (HG.out _ B5.out) (fun hHeld => ?_)
              iterate 6 (refine lex_p rfl rfl rfl (by intro w'; go_simp; with_reducible rfl) (by simp only [Act.put, List.setIfInBounds_toArray, List.set_cons_zero, List.set_cons_succ, i64_w, i32_w]; rfl) ?_)
              iterate 3 (refine lex_t rfl rfl rfl (by rintro w' ⟨⟨s0, s1, s2, s3, s4⟩, ⟨r0, r1, r2, r3, r4⟩, s5, s6⟩; go_simp; with_reducible rfl) (by simp only [Act.put, List.setIfInBounds_toArray, List.set_cons_zero, List.set_cons_succ, i64_w, i32_w]; rfl) ?_)
              refine lex_o rfl ?_
              go_wp2_with fail
              refine (HRR.out _ (HB9.out.trans (B5.out.mono HB9.out.size))).mono ?_
              rintro e v6 ⟨rfl, hb6⟩
              have B6 := Aside0.mk (B5.out.trans (hb6.mono B5.out.size))
              clear hb6
              go_wp2_with fail
              refine lex_end (by first | (simp only [Act.put, List.setIfInBounds_toArray, List.set_cons_zero, List.set_cons_succ, i64_w, i32_w]; rfl) | rfl) (HG.out _ B6.out) (fun hHeld => ?_)
              refine lex_o rfl ?_
              go_wp2_with fail
              refine (HTR.out _ (HB9.out.trans (B6.out.mono HB9.out.size))).mono ?_
              rintro e v7 ⟨rfl, hb7⟩
              have B7 := Aside0.mk (B6.out.trans (hb7.mono B6.out.size))
              clear hb7
              go_wp2_with fail
              refine lex_end (by first | (simp only [Act.put, List.setIfInBounds_toArray, List.set_cons_zero, List.set_cons_succ, i64_w, i32_w]; rfl) | rfl) (HG.out _ B7.out) (fun hHeld => ?_)
              iterate 2 (refine lex_p rfl rfl rfl (by intro w'; go_simp; with_reducible rfl) (by simp only [Act.put, List.setIfInBounds_toArray, List.set_cons_zero, List.set_cons_succ, i64_w, i32_w]; rfl) ?_)
              refine lex_nil ?_
              have HBe := Aside0.mk (HB9.out.trans (B7.out.mono HB9.out.size))
              go_wp2_with fail
              go_roundg (gk - 1)
              case measure => omega
              case rel => exact ⟨n + 1, by omega, by omega, by go_num, HBe⟩
            · obtain rfl : n = 12 := by omega
              have hqw : IntKind.u32.wrap ((q : Int) + 1) = ((q + 1 : Nat) : Int) := by rw [IntKind.wrap_u32]; omega
              go_wp2_with fail
              go_roundg (gkq - 1)
              case measure => have := HGQ.out; omega
              case rel => have := HGQ.out; exact ⟨q + 1, by omega, by omega, by first | rfl | go_num | (rw [hqw]), HBn⟩
        · obtain rfl : q = 5 := by omega
          go_wp2_with fail
          go_ret
          exact ⟨rfl, HB1.out.trans (HB.out.mono HB1.out.size)⟩
end
end Go.Proofs.Ytndjhnipahkclaa.Ke

set_option linter.unusedSimpArgs false
set_option linter.unusedVariables false
namespace Go.Proofs.Ytndjhnipahkclaa.Ke
open Go.RowKit Go.Proofs.YtndjhnipahkclaaW.PrintWords Go.Proofs.YtndjhnipahkclaaW.PrintLast Go.Proofs.YtndjhnipahkclaaW.PrintMore Go.Proofs.Ytndjhnipahkclaa.PKeysPlay Go.Proofs.Ytndjhnipahkclaa.Lex Go.Proofs.Ytndjhnipahkclaa.Lib
theorem few_l (l : List S38) (hl : l.length ≤ 40) : ∀ (k i : Nat), i ≤ l.length → l.length - i < k → ∃ b, pursuivantlaw10_few.l0 k l (i : Int) = some b
  | 0, i, _, h => absurd h (by omega)
  | k + 1, i, hi, h => by
    rw [pursuivantlaw10_few.l0]
    by_cases hlt : i < l.length
    · rw [if_pos (by omega), if_pos (by omega)]
      by_cases hs : (((rd_T38 l (i : Int)).f1.f4).size : Int) > 200
      · rw [if_pos hs]; exact ⟨_, rfl⟩
      · rw [if_neg hs, wrap_up i (by omega)]
        exact few_l l hl k (i + 1) (by omega) (by omega)
    · rw [if_neg (by omega)]; exact ⟨_, rfl⟩
theorem few_b (l : List S38) : ∃ b, pursuivantlaw10_few.f (l.length + 1) l = some b ∧ (b = true → l.length ≤ 40) := by
  unfold pursuivantlaw10_few.f
  by_cases h : (l.length : Int) > 40
  · rw [if_pos h]; exact ⟨false, rfl, fun h => by cases h⟩
  · rw [if_neg h]
    obtain ⟨b, hb⟩ := few_l l (by omega) (l.length + 1) 0 (by omega) (by omega)
    exact ⟨b, hb, fun _ => by omega⟩
theorem fewC (A : Option Addr) (c : Nat) (l : List S38) (w : World) (hC : Kd.C k38 w A l.length l) (hc : l.length ≤ c) : ∃ b, (b = true → l.length ≤ 40) ∧ Calls Try.prog 8 #[.slice A l.length c] w fun e w' => e = .returned (.bool b) ∧ Drawn0 w w' := by
  obtain ⟨b, h1, h2⟩ := few_b l
  exact ⟨b, h2, pursuivantlaw10_few.calls (l.length + 1) A c l b w hC hc h1⟩
/-- an act as a value -/
abbrev a38 (x : S38) : Value := .agg #[.int .i64 x.f0, .int .u32 x.f1.f0, .int .u8 x.f1.f1, .int .u8 x.f1.f2, .int .i64 x.f1.f3, .string x.f1.f4]
/-- the numbers of an act are such -/
def okA (a : S38) : Prop := (kl a.f1.f0).wf = true ∧ (Lit.int .u8 a.f1.f1).wf = true
section
variable {S T : Nat → Prop} {p N : Nat} {w : World} {g : Value} {l l2 : List S36} {f : Int → Option Int} {W2 : List S72}
theorem doesC (hg : GR T w g l2 W2) (hk : KX S p w l f N) (hS : ∀ k, S k → k < w.heap.size) (hT : ∀ k, T k → k < w.heap.size) (hST : ∀ k, S k → ¬ T k) (a : S38) (ha : okA a) (hl : l.length < 100000) (hl2 : l2.length < 100000) (hW : W2.length < 100000) (hN : N < 100000) : Calls Try.prog 11 #[ptr p, g, a38 a] w fun e w' => ∃ v b S' T', e = .returned (.tuple #[v, .bool b]) ∧ (GR T' w' v (stG l2 W2 a).1 (stG l2 W2 a).2.1 ∧ b = ((stK l f a).2.2 == (stG l2 W2 a).2.2)) ∧ KX S' p w' (stK l f a).1 (stK l f a).2.1 (N + 1) ∧ But w.heap.size S w w' ∧ (∀ k, S' k → Gr S w w' k) ∧ (∀ k, T' k → Gr T w w' k) ∧ (∀ k, S' k → ¬ T' k) := by
  obtain ⟨z, x⟩ := a
  obtain ⟨h0, h1⟩ := ha
  unfold stK stG
  by_cases e1 : z = 1
  · subst e1
    rw [if_pos rfl, if_pos rfl]
    refine (does1 hg hk hS hT hST x h0 h1 hl hl2 hW hN).mono ?_
    rintro e w' ⟨v, b, S', T', he, hgg, hkk, hr⟩
    exact ⟨v, b, S', T', he, hgg, hkk.more, hr⟩
  rw [if_neg e1, if_neg e1]
  by_cases e2 : z = 2
  · subst e2
    rw [if_pos rfl, if_pos rfl]
    refine (does2 hg hk hS hT hST x h0 h1 hl hl2 hW hN).mono ?_
    rintro e w' ⟨v, b, S', T', he, hgg, hkk, hr⟩
    exact ⟨v, b, S', T', he, hgg, hkk.more, hr⟩
  rw [if_neg e2, if_neg e2]
  by_cases e3 : z = 3
  · subst e3
    rw [if_pos rfl, if_pos rfl]
    exact does3 hg hk hS hT hST x h0 h1 hl hl2 hW hN
  rw [if_neg e3, if_neg e3]
  refine (does0 hg hk z (by simpa using e1) (by simpa using e2) (by simpa using e3) x).mono ?_
  rintro e w' ⟨rfl, hb⟩
  exact ⟨g, true, S, T, rfl, ⟨hg.below hb, by simp⟩, (hk.below hb).more, But.of hb (Nat.le_refl _), fun k hk => .inl hk, fun k hk => .inl hk, hST⟩
end
end Go.Proofs.Ytndjhnipahkclaa.Ke

set_option linter.unusedSimpArgs false
set_option linter.unusedVariables false
namespace Go.Proofs.Ytndjhnipahkclaa.Ke
open Go.RowKit Go.Proofs.YtndjhnipahkclaaW.PrintWords Go.Proofs.YtndjhnipahkclaaW.PrintLast Go.Proofs.YtndjhnipahkclaaW.PrintMore Go.Proofs.Ytndjhnipahkclaa.PKeysPlay Go.Proofs.Ytndjhnipahkclaa.Lex Go.Proofs.Ytndjhnipahkclaa.Lib
def x5 : S36 := ⟨1, 5, 6, 1, ⟨#[97]⟩⟩
def x7 : S36 := ⟨1, 7, 8, 2, ⟨#[98]⟩⟩
def f0 : Int → Option Int := fun _ => none
def f7 : Int → Option Int := fun j => if j = 1 then some 7 else none
theorem kn1 : addS [] x5 = ([x5], 0) := by
  unfold addS
  rw [if_neg (by decide), if_neg (by decide), if_neg (by decide)]
  rfl
theorem kn2 : addS [x5] x7 = ([x5, x7], 0) := by
  unfold addS
  rw [if_neg (by decide), if_neg (by decide), if_neg (by decide)]
  rfl
theorem kn3 : ([x5, x7].find? (prefP f0 1)).getD z36 = x5 := rfl
theorem kn4 : [x5, x7].any (prefP f0 1) = true := rfl
theorem knS : ([x5, x7].find? (sendP 1 5)).getD z36 = x5 := rfl
theorem knP : ([x5, x7].find? (prefP f7 1)).getD z36 = x7 := rfl
theorem knE : eqB x5 x5 = true := eqB_refl _
theorem kn5 : remK [x5, x7] f0 1 5 = ([x5, x7], 201) := by
  unfold remK
  rw [if_neg (by decide), kn3, knS, if_pos knE]
theorem kn6 : prfK [x5, x7] f0 1 7 = (f7, 0) := by
  unfold prfK
  rw [if_neg (by decide)]
  rfl
theorem knN : eqB x7 x5 = false := by
  unfold eqB x5 x7
  simp
theorem kn7 : remK [x5, x7] f7 1 5 = ([x7], 0) := by
  unfold remK
  rw [if_neg (by decide), knP, knS, if_neg (by rw [knN]; decide)]
  rw [List.filter_cons_of_neg (by rw [eqB_refl]; decide), List.filter_cons_of_pos (by rw [knN]; rfl)]
  rfl
/-- blocks from one on, below another, but for one -/
def Ra (a b t : Nat) : Nat → Prop := fun k => a ≤ k ∧ k < b ∧ k ≠ t
theorem Ra.gr {w0 w w' : World} {a t b : Nat} (hb : b ≤ w.heap.size) (ht : t < w.heap.size ∨ w'.heap.size ≤ t) (ha : a ≤ w.heap.size) (hs : w.heap.size ≤ w'.heap.size) : ∀ k, Gr (Ra a b t) w w' k → Ra a w'.heap.size t k := fun k hk => by
  rcases hk with ⟨h1, h2, h3⟩ | ⟨h1, h2⟩
  · exact ⟨h1, by omega, h3⟩
  · exact ⟨by omega, h2, by omega⟩
theorem Ra.but {a b t : Nat} {w w' : World} (h : But w.heap.size (Ra a b t) w w') (ha : a ≤ w.heap.size) : Below a w w' := h.below ha (fun k hk hs => by have := hs.1; omega)
set_option maxHeartbeats 8000000 in
theorem knownC (w : World) : Calls Try.prog 9 #[] w fun e w' => e = .returned (.bool true) ∧ Below w.heap.size w w' := by
  have HN := Aside0.mk (newC w)
  go_enter Try.func9, Try.ntmps9
  go_wp2_with fail
  refine HN.out.mono ?_
  rintro e w1 ⟨p, m, rfl, hk, hpw, hmw, hb1⟩
  have HK1 : Aside0 (KX (Ra w.heap.size w1.heap.size w1.heap.size) p w1 [] f0 0) := ⟨⟨m, 0, none, 0, hk.mono (fun k h => ⟨h.1, h.2, by omega⟩), Nat.le_refl _⟩⟩
  have HB1 := Aside0.mk hb1
  have HA := addK HK1.out (fun k h => h.2.1) x5
  rw [kn1] at HA
  have HA := Aside0.mk HA
  clear hk hb1 hpw hmw
  go_wp2_with fail
  refine HA.out.mono ?_
  rintro e w2 ⟨rfl, hk2, hb2⟩
  have s2 := hb2.size
  have s1 := HB1.out.size
  have HK2 : Aside0 (KX (Ra w.heap.size w2.heap.size w2.heap.size) p w2 [x5] f0 0) := ⟨hk2.mono (fun k h => by
    rcases h with ⟨h1, h2, _⟩ | ⟨h1, h2⟩
    · exact ⟨h1, by omega, by omega⟩
    · exact ⟨by omega, h2, by omega⟩)⟩
  have HB2 := Aside0.mk (HB1.out.trans (Ra.but hb2 s1))
  have HA2 := addK HK2.out (fun k h => h.2.1) x7
  rw [kn2] at HA2
  have HA2 := Aside0.mk HA2
  clear hk2 hb2 HA HK1
  go_wp2_with fail
  refine HA2.out.mono ?_
  rintro e w3 ⟨rfl, hk3, hb3⟩
  have s3 := hb3.size
  have HK3 : Aside0 (KX (Ra w.heap.size w3.heap.size w3.heap.size) p w3 [x5, x7] f0 0) := ⟨hk3.mono (fun k h => by
    rcases h with ⟨h1, h2, _⟩ | ⟨h1, h2⟩
    · exact ⟨h1, by omega, by omega⟩
    · exact ⟨by omega, h2, by omega⟩)⟩
  have HB3 := Aside0.mk (HB2.out.trans (Ra.but hb3 (by omega)))
  have HP := prefX HK3.out 1 rfl
  rw [kn3, kn4] at HP
  have HP := Aside0.mk HP
  clear hk3 hb3 HA2 HK2
  go_wp2_with fail
  refine HP.out.mono ?_
  rintro e w4 ⟨rfl, hb4⟩
  have s4 := hb4.size
  have hba := hb4.trans ((below_alloc (Below.refl w4.heap.size w4) (.cells #[.int .u32 x5.f0, .int .u8 x5.f1, .int .u8 x5.f2, .int .i64 x5.f3, .string x5.f4] 36)).mono hb4.size)
  obtain ⟨V, hV⟩ : ∃ V, w4.alloc (.cells #[.int .u32 x5.f0, .int .u8 x5.f1, .int .u8 x5.f2, .int .i64 x5.f3, .string x5.f4] 36) = V := ⟨_, rfl⟩
  have hob := Ob.new w4 (c36 x5) #[.int .u32 x5.f0, .int .u8 x5.f1, .int .u8 x5.f2, .int .i64 x5.f3, .string x5.f4] rfl 36
  have hsz : (w4.alloc (.cells #[.int .u32 x5.f0, .int .u8 x5.f1, .int .u8 x5.f2, .int .i64 x5.f3, .string x5.f4] 36)).heap.size = w4.heap.size + 1 := by simp
  rw [hV] at hba hob hsz
  have HKV : Aside0 (KX (Ra w.heap.size V.heap.size w4.heap.size) p V [x5, x7] f0 0) := ⟨(HK3.out.below hba).mono (fun k h => ⟨h.1, by have := h.2.1; omega, by have := h.2.1; omega⟩)⟩
  have HBV := Aside0.mk (HB3.out.trans (hba.mono HB3.out.size))
  have HOB := Aside0.mk hob
  have HV := Aside0.mk hV
  have HR := removeK HKV.out 1 5 rfl (by decide)
  rw [kn5] at HR
  have HR := Aside0.mk HR
  clear hb4 hba hob hV HP HK3
  go_wp2_with fail
  rw [HV.out]
  refine HR.out.mono ?_
  rintro e w5 ⟨rfl, hk5, hb5⟩
  have s5 := hb5.size
  have HK5 : Aside0 (KX (Ra w.heap.size w5.heap.size w4.heap.size) p w5 [x5, x7] f0 0) := ⟨hk5.mono (fun k h => by
    rcases h with ⟨h1, h2, h3⟩ | ⟨h1, h2⟩
    · exact ⟨h1, by omega, h3⟩
    · exact ⟨by omega, h2, by omega⟩)⟩
  have HB5 := Aside0.mk (HBV.out.trans (Ra.but hb5 (by omega)))
  have HO5 := Aside0.mk (HOB.out.but hb5 (by omega) (fun h => h.2.2 rfl))
  have HP6 := preferK HK5.out 1 7 rfl rfl (by decide)
  rw [kn6] at HP6
  have HP6 := Aside0.mk HP6
  clear hk5 hb5 HR HKV
  go_wp2_with fail
  refine HP6.out.mono ?_
  rintro e w6 ⟨rfl, hk6, hb6⟩
  have s6 := hb6.size
  have HK6 : Aside0 (KX (Ra w.heap.size w6.heap.size w4.heap.size) p w6 [x5, x7] f7 1) := ⟨hk6.mono (fun k h => by
    rcases h with ⟨h1, h2, h3⟩ | ⟨h1, h2⟩
    · exact ⟨h1, by omega, h3⟩
    · exact ⟨by omega, h2, by omega⟩)⟩
  have HB6 := Aside0.mk (HB5.out.trans (Ra.but hb6 (by omega)))
  have HO6 := Aside0.mk (HO5.out.but hb6 (by omega) (fun h => h.2.2 rfl))
  have HR7 := removeK HK6.out 1 5 rfl (by decide)
  rw [kn7] at HR7
  have HR7 := Aside0.mk HR7
  clear hk6 hb6 HP6 HK5
  go_wp2_with fail
  refine HR7.out.mono ?_
  rintro e w7 ⟨rfl, hk7, hb7⟩
  have HB7 := Aside0.mk (HB6.out.trans (Ra.but hb7 (by omega)))
  have ho7 := HO6.out.but hb7 (by omega) (fun h => h.2.2 rfl)
  have m1 : w7.cell? ⟨w4.heap.size, 1, none⟩ = some (.int .u8 5) := (ho7 1 _ rfl).1
  have HAL := Aside0.mk (allX hk7 (by decide))
  clear hk7 hb7 ho7 HR7 HK6
  go_wp2_with fail
  refine HAL.out.mono ?_
  rintro e w8 ⟨v, rfl, ho, hb8⟩
  obtain ⟨A8, c8, rfl, _, _⟩ := ho.reads
  have HB8 := Aside0.mk (HB7.out.trans (hb8.mono HB7.out.size))
  clear ho hb8
  go_wp2_with fail
  go_ret
  exact ⟨rfl, HB8.out⟩
end Go.Proofs.Ytndjhnipahkclaa.Ke

set_option linter.unusedSimpArgs false
set_option linter.unusedVariables false
namespace Go.Proofs.Ytndjhnipahkclaa.Ke
open Go.RowKit Go.Proofs.YtndjhnipahkclaaW.PrintWords Go.Proofs.YtndjhnipahkclaaW.PrintLast Go.Proofs.YtndjhnipahkclaaW.PrintMore Go.Proofs.Ytndjhnipahkclaa.PKeysPlay Go.Proofs.Ytndjhnipahkclaa.Lex Go.Proofs.Ytndjhnipahkclaa.Lib
theorem opens_iso {α β : Type} {d : Kd α} {f : β → α} {t : TypeId} {ok : α → Prop} {ok' : β → Prop} (g : α → β) (hg : ∀ a, f (g a) = a) (hk : ∀ a, ok a → ok' (g a)) (h : Row.Opens d t ok) : Row.Opens (Kd.iso d f) t ok' :=
  ⟨h.pos, h.cells, fun h2 => by
    obtain ⟨a, k, o⟩ := h.opens h2
    exact ⟨g a, by show d.K _ (f (g a)) _; rw [hg]; exact k, hk a o⟩⟩
def okM (x : S36) : Prop := (kl x.f0).wf = true ∧ (Lit.int .u8 x.f1).wf = true ∧ (Lit.int .u8 x.f2).wf = true
theorem opens_mkt : Row.Opens k36 36 okM :=
  opens_iso (fun a => ⟨a.1, a.2.1, a.2.2.1, a.2.2.2.1, a.2.2.2.2⟩) (fun a => rfl) (fun a h => ⟨h.1, h.2.1, h.2.2.1⟩)
    (Row.opens_struct (l := [(0, 33), (1, 5), (2, 5), (3, 34), (4, 9)]) Try.underlying36 (by rfl) (by kernel_rfl)
      (Row.opensF_cons (Row.opens_int Try.underlying33 (by kernel_rfl)) (Row.opensF_cons (Row.opens_int Try.underlying5 (by kernel_rfl)) (Row.opensF_cons (Row.opens_int Try.underlying5 (by kernel_rfl)) (Row.opensF_cons (Row.opens_int Try.underlying34 (by kernel_rfl)) (Row.opensF_one (Row.opens_string Try.underlying9 (by kernel_rfl)) 4))))))
theorem opens_act : Row.Opens k38 38 okA :=
  opens_iso (fun a => ⟨a.1, a.2⟩) (fun a => rfl) (fun a h => ⟨h.2.1, h.2.2.1⟩)
    (Row.opens_struct (l := [(0, 3), (1, 36)]) Try.underlying38 (by rfl) (by kernel_rfl)
      (Row.opensF_cons (Row.opens_int Try.underlying3 (by kernel_rfl)) (Row.opensF_one opens_mkt 1)))
theorem opens_acts : Row.Opens (Kd.slice 38 k38) 22 (fun xs => ∀ x ∈ xs, okA x) :=
  Row.opens_slice Try.underlying22 (by kernel_rfl) opens_act
theorem C_act {w : World} {A : Option Addr} {n : Nat} {l : List S38} (h : Kd.C k38 w A n l) (k : Nat) (hk : k < n) :
    ∃ b o, A = some ⟨b, o, none⟩ ∧ w.cell? ⟨b, o + k * 6, none⟩ = some (.int .i64 (l.getD k z38).f0) ∧ w.cell? ⟨b, o + k * 6 + 1, none⟩ = some (.int .u32 (l.getD k z38).f1.f0) ∧ w.cell? ⟨b, o + k * 6 + 2, none⟩ = some (.int .u8 (l.getD k z38).f1.f1) ∧ w.cell? ⟨b, o + k * 6 + 3, none⟩ = some (.int .u8 (l.getD k z38).f1.f2) ∧ w.cell? ⟨b, o + k * 6 + 4, none⟩ = some (.int .i64 (l.getD k z38).f1.f3) ∧ w.cell? ⟨b, o + k * 6 + 5, none⟩ = some (.string (l.getD k z38).f1.f4) := by
  obtain ⟨ad, c, e, _, hK, hc0⟩ := Kd.C_get h z38 k (by omega) (by omega)
  have hK' := k38_open hK
  subst hK'
  have hq := hc0 0 _ rfl
  have hq1 := hc0 1 _ rfl
  have hq2 := hc0 2 _ rfl
  have hq3 := hc0 3 _ rfl
  have hq4 := hc0 4 _ rfl
  have hq5 := hc0 5 _ rfl
  obtain ⟨b, o, e1⟩ := C_addr (by show 0 < 6; decide) h (by omega)
  rw [e] at e1
  injection e1 with e1
  subst e1
  rw [add_none] at hq hq1 hq2 hq3 hq4 hq5
  exact ⟨b, o, e, hq, hq1, hq2, hq3, hq4, hq5⟩
/-- the keys and the document's, side by side -/
def PlayS (w0 W : World) (g4 p i : Nat) : Prop := ∃ (l : List S36) (W2 : List S72) (S T : Nat → Prop) (A : Option Addr) (c : Nat) (B : Option Addr) (d : Nat), Ob g4 W [.slice A l.length c, .slice B W2.length d] ∧ GR T W (.agg #[.slice A l.length c, .slice B W2.length d]) l W2 ∧ KX S p W l (fW W2) i ∧ Inv l (fW W2) ∧ W2.length ≤ i ∧ (∀ k, S k → w0.heap.size ≤ k ∧ k < W.heap.size ∧ k ≠ g4) ∧ (∀ k, T k → w0.heap.size ≤ k ∧ k < W.heap.size ∧ k ≠ g4) ∧ (∀ k, S k → ¬ T k) ∧ w0.heap.size ≤ g4 ∧ Below w0.heap.size w0 W
theorem joinS {S' T' : Nat → Prop} {p N g6 : Nat} {Z : World} {l' : List S36} {f : Int → Option Int} {W' : List S72} {x y v0 v1 : Value} (hk : KX S' p Z l' f N) (hg : GR T' Z (.agg #[v0, v1]) l' W') (ho : Ob g6 Z [x, y]) (hS : ∀ k, S' k → k ≠ g6 ∧ k < Z.heap.size) (hT : ∀ k, T' k → k ≠ g6 ∧ k < Z.heap.size) :
    ∃ W3, (storeVar 30 ⟨g6, 0, none⟩ (.agg #[v0, v1])).run Try.prog Z = .ok () W3 ∧ Ob g6 W3 [v0, v1] ∧ KX S' p W3 l' f N ∧ GR T' W3 (.agg #[v0, v1]) l' W' ∧ But Z.heap.size (fun k => k = g6) Z W3 := by
  obtain ⟨A, c, B, d, e, _⟩ := id hg
  have h0 : v0 = .slice A l'.length c ∧ v1 = .slice B W'.length d := by
    injection e with e
    have e1 := congrArg (fun q => q[0]!) e
    have e2 := congrArg (fun q => q[1]!) e
    exact ⟨by simpa using e1, by simpa using e2⟩
  obtain ⟨W3, h5, h6, h7⟩ := store30 (c := v0) (d := v1) ho (by rw [h0.1]; rfl) (by rw [h0.2]; rfl)
  exact ⟨W3, h5, h6, hk.same (fun k hk => h7.block k (hS k hk).2 (hS k hk).1), hg.same (fun k hk => h7.block k (hT k hk).2 (hT k hk).1), h7⟩
set_option maxHeartbeats 16000000 in
set_option maxRecDepth 100000 in
theorem playC (A : Option Addr) (c : Nat) (L : List S38) (w : World) (hC : Kd.C k38 w A L.length L) (hc : L.length ≤ c) (ho : ∀ x ∈ L, okA x) : Calls Try.prog 3 #[.slice A L.length c] w fun e w' => e = .returned (.bool true) ∧ Below w.heap.size w w' := by
  obtain ⟨bf, hbf, hfew⟩ := fewC A c L w hC hc
  have HF := Aside0.mk hfew
  have HC := Aside0.mk hC
  have HOK := Aside0.mk ho
  have HB40 := Aside0.mk hbf
  have KN := Aside0.mk knownC
  clear hC hc ho hfew hbf
  go_enter Try.func3, Try.ntmps3
  go_wp2_with fail
  refine HF.out.mono ?_
  rintro e w1 ⟨rfl, hd1⟩
  have HB1 := Aside0.mk hd1.below
  clear hd1
  cases bf with
  | false =>
    go_wp2_with fail
    refine (KN.out w1).mono ?_
    rintro e w2 ⟨rfl, hb2⟩
    have HB2 := Aside0.mk (HB1.out.trans (hb2.mono HB1.out.size))
    clear hb2
    go_wp2_with fail
    go_ret
    exact ⟨rfl, HB2.out⟩
  | true =>
    have h40 := HB40.out rfl
    have HN := Aside0.mk (newC w1)
    go_wp2_with fail
    refine HN.out.mono ?_
    rintro e w2 ⟨p, m, rfl, hk, hpw, hmw, hb2⟩
    have hs1 := HB1.out.size
    have hs2 := hb2.size
    have hob := Ob.new w2 [.slice none 0 0, .slice none 0 0] _ rfl 30
    have hb3 := below_alloc (Below.refl w2.heap.size w2) (.cells #[.slice none 0 0, .slice none 0 0] 30)
    have hz3 : (w2.alloc (.cells #[.slice none 0 0, .slice none 0 0] 30)).heap.size = w2.heap.size + 1 := by simp
    have HP0 : Aside0 (PlayS w (w2.alloc (.cells #[.slice none 0 0, .slice none 0 0] 30)) w2.heap.size p 0) :=
      ⟨⟨[], [], fun k => w1.heap.size ≤ k ∧ k < w2.heap.size, fun _ => False, none, 0, none, 0, hob, GR.nil _ _, KX.below ⟨m, 0, none, 0, hk, Nat.le_refl _⟩ hb3, Inv.nil, Nat.le_refl _, fun k hk => ⟨by omega, by omega, by omega⟩, fun k hk => hk.elim, fun k _ h => h, by omega, (HB1.out.trans (hb2.mono hs1)).trans (hb3.mono (by omega))⟩⟩
    obtain ⟨g4, HG4⟩ : ∃ g, Aside0 (w2.heap.size = g) := ⟨_, ⟨rfl⟩⟩
    rw [HG4.out] at HP0
    clear hk hpw hmw hb2 hob hb3 hz3 hs1 hs2
    go_wp2_with fail
    rw [HG4.out]
    go_loopg [5] L.length (fun gk s5 W => ∃ i : Nat, i ≤ L.length ∧ L.length - i ≤ gk ∧ s5 = .int .i64 i ∧ Aside0 (PlayS w W g4 p i))
    case atStart => exact ⟨0, by omega, by omega, rfl, HP0⟩
    case round =>
      clear HP0
      obtain ⟨i, hi, hgk, rfl, HPS⟩ := hrel
      by_cases hlt : i < L.length
      · obtain ⟨l, W2, S, T, A1, c1, B1, d1, hob, hgr, hkx, hinv, hwl, hS, hT, hST, hg4, hbw⟩ := HPS.out
        obtain ⟨b, o, rfl, q0, q1, q2, q3, q4, q5⟩ := C_act HC.out i hlt
        obtain ⟨a, ha⟩ : ∃ a, L.getD i z38 = a := ⟨_, rfl⟩
        rw [ha] at q0 q1 q2 q3 q4 q5
        have hok : okA a := by rw [← ha, List.getD_eq_getElem?_getD, List.getElem?_eq_getElem hlt]; exact HOK.out _ (List.getElem_mem _)
        have hblt : b < w.heap.size := World.block_lt_of_cell? w _ q0
        have hg4w := hob.lt
        have hwrs := hbw.size
        have hfew := hinv.few
        have HSF : Aside0 (∀ U, But wr.heap.size S wr U → ((U).cell? ⟨g4, 0, none⟩ = some (.slice A1 l.length c1) ∧ (U).cell? ⟨g4, 1, none⟩ = some (.slice B1 W2.length d1)) ∧ (U).cell? ⟨b, o + i * 6, none⟩ = some (.int .i64 a.f0) ∧ (U).cell? ⟨b, o + i * 6 + 1, none⟩ = some (.int .u32 a.f1.f0) ∧ (U).cell? ⟨b, o + i * 6 + 2, none⟩ = some (.int .u8 a.f1.f1) ∧ (U).cell? ⟨b, o + i * 6 + 3, none⟩ = some (.int .u8 a.f1.f2) ∧ (U).cell? ⟨b, o + i * 6 + 4, none⟩ = some (.int .i64 a.f1.f3) ∧ (U).cell? ⟨b, o + i * 6 + 5, none⟩ = some (.string a.f1.f4)) := ⟨fun U hU => by
          have h1 := hob.but hU hg4w (fun h => (hS _ h).2.2 rfl)
          have hbb : U.heap[b]? = w.heap[b]? := (hU.block b (by omega) (fun h => by have := (hS _ h).1; omega)).trans (hbw.block b hblt)
          refine ⟨⟨(h1 0 _ rfl).1, (h1 1 _ rfl).1⟩, (World.cell?_of_block (w := w) ?_).trans q0, (World.cell?_of_block (w := w) ?_).trans q1, (World.cell?_of_block (w := w) ?_).trans q2, (World.cell?_of_block (w := w) ?_).trans q3, (World.cell?_of_block (w := w) ?_).trans q4, (World.cell?_of_block (w := w) ?_).trans q5⟩ <;> exact hbb⟩
        have HDO : Aside0 (∀ U, Below wr.heap.size wr U → Calls Try.prog 11 #[ptr p, .agg #[.slice A1 l.length c1, .slice B1 W2.length d1], a38 a] U fun e w' => ∃ v b S' T', e = .returned (.tuple #[v, .bool b]) ∧ (GR T' w' v (stG l W2 a).1 (stG l W2 a).2.1 ∧ b = ((stK l (fW W2) a).2.2 == (stG l W2 a).2.2)) ∧ KX S' p w' (stK l (fW W2) a).1 (stK l (fW W2) a).2.1 (i + 1) ∧ But U.heap.size S U w' ∧ (∀ k, S' k → Gr S U w' k) ∧ (∀ k, T' k → Gr T U w' k) ∧ (∀ k, S' k → ¬ T' k)) :=
          ⟨fun U hU => doesC (hgr.below hU) (hkx.below hU) (fun k hk => by have := (hS k hk).2.1; have := hU.size; omega) (fun k hk => by have := (hT k hk).2.1; have := hU.size; omega) hST a hok (by omega) (by omega) (by omega) (by omega)⟩
        obtain ⟨e1, e2, e3⟩ := st_eq hinv a
        have hinv2 := st_inv hinv a
        have hfw := st_few l W2 a
        rw [e1, e2] at hinv2
        simp only [e1, e2, e3] at HDO
        have hbq : ∀ z : Int, (z == z) = true := fun z => by simp
        obtain ⟨l', hl'⟩ : ∃ l', (stG l W2 a).1 = l' := ⟨_, rfl⟩
        obtain ⟨W', hW'⟩ : ∃ W', (stG l W2 a).2.1 = W' := ⟨_, rfl⟩
        rw [hl', hW'] at hinv2
        rw [hW'] at hfw
        simp only [hl', hW', beq_self_eq_true] at HDO
        have HIN := Aside0.mk hinv2
        have HFW := Aside0.mk (show W'.length ≤ i + 1 by omega)
        have HSS := Aside0.mk hS
        have HTT := Aside0.mk hT
        have HG4w := Aside0.mk hg4
        have HBW := Aside0.mk hbw
        have HOB := Aside0.mk hob
        have HG4b := Aside0.mk hg4w
        clear hob hgr hkx hinv hwl hS hT hST hg4 hbw q0 q1 q2 q3 q4 q5 ha hok hblt hg4w hwrs hfew e1 e2 e3 hinv2 hfw hbq hl' hW'
        go_wp2_with fail
        refine regionT (.one 0 .p (.one 2 .p (.one 3 .p (.one 4 .p (.one 1 .t (.one 5 .t (.two 6 (.one 7 .p (.one 8 .p (.one 9 .p (.one 10 .o (.one 11 .o (.one 12 .p .nil)))))) 10 (.one 6 .o (.one 7 .p (.one 8 .p (.one 9 .p (.one 11 .o (.one 12 .p .nil))))))))))))) (fun U => ((U).cell? ⟨g4, 0, none⟩ = some (.slice A1 l.length c1) ∧ (U).cell? ⟨g4, 1, none⟩ = some (.slice B1 W2.length d1)) ∧ (U).cell? ⟨b, o + i * 6, none⟩ = some (.int .i64 a.f0) ∧ (U).cell? ⟨b, o + i * 6 + 1, none⟩ = some (.int .u32 a.f1.f0) ∧ (U).cell? ⟨b, o + i * 6 + 2, none⟩ = some (.int .u8 a.f1.f1) ∧ (U).cell? ⟨b, o + i * 6 + 3, none⟩ = some (.int .u8 a.f1.f2) ∧ (U).cell? ⟨b, o + i * 6 + 4, none⟩ = some (.int .i64 a.f1.f3) ∧ (U).cell? ⟨b, o + i * 6 + 5, none⟩ = some (.string a.f1.f4)) (by kernel_rfl) (by kernel_rfl) (fun _ _ _ _ _ h => h) (HSF.out _ (But.of (below_drew (Below.refl _ _)) (Nat.le_refl _))) (fun hHeld => ?_)
        iterate 4 (refine lt_p rfl rfl rfl (by intro w'; go_simp; with_reducible rfl) (by simp only [Act.put, List.setIfInBounds_toArray, List.set_cons_zero, List.set_cons_succ, i64_w, i32_w]; rfl) ?_)
        iterate 2 (refine lt_t rfl rfl rfl (by rintro w' ⟨⟨s0, s1⟩, r0, r1, r2, r3, r4, r5⟩; go_simp; with_reducible rfl) (by simp only [Act.put, List.setIfInBounds_toArray, List.set_cons_zero, List.set_cons_succ, i64_w, i32_w]; rfl) ?_)
        refine lt_two rfl rfl ?_ ?_
        · go_wp2_with fail
          refine (HDO.out wr.drew (below_drew (Below.refl _ _))).mono ?_
          rintro e w2 ⟨v, bq, S', T', rfl, ⟨hg', rfl⟩, hk', hbt, hS', hT', hST'⟩
          have BT1 : Aside0 (But wr.heap.size S wr w2) := ⟨(But.of (below_drew (Below.refl wr.heap.size wr)) (Nat.le_refl _)).trans hbt⟩
          obtain ⟨A', c', B', d', rfl, _⟩ := id hg'
          have HGD := Aside0.mk hg'
          have HKD := Aside0.mk hk'
          have HSD := Aside0.mk hS'
          have HTD := Aside0.mk hT'
          have HST3 := Aside0.mk hST'
          clear hg' hk' hbt hS' hT' hST'
          go_wp2_with fail
          refine lt_end (by first | (simp only [Act.put, List.setIfInBounds_toArray, List.set_cons_zero, List.set_cons_succ, i64_w, i32_w]; rfl) | rfl) (HSF.out _ BT1.out) (fun hHeld => ?_)
          iterate 3 (refine lt_p rfl rfl rfl (by intro w'; go_simp; with_reducible rfl) (by simp only [Act.put, List.setIfInBounds_toArray, List.set_cons_zero, List.set_cons_succ, i64_w, i32_w]; rfl) ?_)
          refine lt_o rfl ?_
          go_wp2_with fail
          have hz := below_alloc (Below.refl w2.heap.size w2) (.cells #[.slice none 0 0, .slice none 0 0] 30)
          have BT2 : Aside0 (But wr.heap.size S wr (w2.alloc (.cells #[.slice none 0 0, .slice none 0 0] 30))) := ⟨BT1.out.trans (But.of hz BT1.out.size)⟩
          have hsz2 : (w2.alloc (.cells #[.slice none 0 0, .slice none 0 0] 30)).heap.size = w2.heap.size + 1 := by simp
          have hwr2 := BT1.out.size
          have hw0 := HBW.out.size
          have hg4b := HG4b.out
          have HS3 : Aside0 (∀ k, S' k → w.heap.size ≤ k ∧ k < w2.heap.size ∧ k ≠ g4) := ⟨fun k hk => by
            rcases HSD.out k hk with h | ⟨h1, h2⟩
            · have h3 := HSS.out k h
              exact ⟨h3.1, by omega, h3.2.2⟩
            · have h1 : wr.heap.size ≤ k := h1
              exact ⟨by omega, h2, by omega⟩⟩
          have HT3 : Aside0 (∀ k, T' k → w.heap.size ≤ k ∧ k < w2.heap.size ∧ k ≠ g4) := ⟨fun k hk => by
            rcases HTD.out k hk with h | ⟨h1, h2⟩
            · have h3 := HTT.out k h
              exact ⟨h3.1, by omega, h3.2.2⟩
            · have h1 : wr.heap.size ≤ k := h1
              exact ⟨by omega, h2, by omega⟩⟩
          obtain ⟨W3, hst, ho3, hk3, hg3, hb3⟩ := joinS (HKD.out.below hz) (HGD.out.below hz) (Ob.new w2 [.slice none 0 0, .slice none 0 0] _ rfl 30) (fun k hk => by have := (HS3.out k hk).2.1; exact ⟨by omega, by omega⟩) (fun k hk => by have := (HT3.out k hk).2.1; exact ⟨by omega, by omega⟩)
          have HST := Aside0.mk hst
          have HO6 := Aside0.mk ho3
          have HK3 := Aside0.mk hk3
          have HG3 := Aside0.mk hg3
          have hb3s := hb3.size
          have BT3 : Aside0 (But wr.heap.size S wr W3) := ⟨BT2.out.trans (hb3.mono (by omega) (fun k hk e => by have : k = w2.heap.size := e; omega))⟩
          have HZ3 : Aside0 (w2.heap.size ≤ W3.heap.size) := ⟨by omega⟩
          have HNE : Aside0 (w2.heap.size ≠ g4) := ⟨by omega⟩
          clear hst ho3 hk3 hg3 hb3 hz hsz2 hwr2 hw0 hg4b hb3s
          refine lt_end (by first | (simp only [Act.put, List.setIfInBounds_toArray, List.set_cons_zero, List.set_cons_succ, i64_w, i32_w]; rfl) | rfl) (HSF.out _ BT2.out) (fun hHeld => ?_)
          refine lt_o rfl ?_
          refine pl_store rfl 30 _ _ rfl _ _ HST.out rfl rfl ?_
          obtain ⟨g6, HG6⟩ : ∃ g, Aside0 (w2.heap.size = g) := ⟨_, ⟨rfl⟩⟩
          rw [HG6.out] at HO6 HNE
          refine lt_end (by first | (simp only [Act.put, List.setIfInBounds_toArray, List.set_cons_zero, List.set_cons_succ, i64_w, i32_w]; rfl) | rfl) (HSF.out _ BT3.out) (fun hHeld => ?_)
          (refine lt_p rfl rfl rfl (by intro w'; go_simp; with_reducible rfl) (by simp only [Act.put, List.setIfInBounds_toArray, List.set_cons_zero, List.set_cons_succ, i64_w, i32_w]; rfl) ?_)
          refine lt_nil ?_
          rw [HG6.out]
          have hbw3 := BT3.out.below HBW.out.size (fun k hk h => by have := (HSS.out k h).1; omega)
          have HB3 := Aside0.mk (HBW.out.trans hbw3)
          have HO43 := Aside0.mk (HOB.out.but BT3.out HG4b.out (fun h => (HSS.out _ h).2.2 rfl))
          have m0 := (HO6.out 0 _ rfl).1
          have m1 := (HO6.out 1 _ rfl).1
          have HSA := Aside0.mk (sameC HK3.out HG3.out rfl (by have := HIN.out.few; omega) (by have := HFW.out; omega))
          clear hbw3
          go_wp2_with fail
          refine HSA.out.mono ?_
          rintro e w4 ⟨rfl, hb4⟩
          have HO64 := Aside0.mk (HO6.out.below hb4 HO6.out.lt)
          obtain ⟨W5, hst5, ho5, hb5⟩ := store30 (c := .slice A' l'.length c') (d := .slice B' W'.length d') (HO43.out.below hb4 HO43.out.lt) rfl rfl
          have F1 := Aside0.mk (load30 HO64.out)
          have F2 := Aside0.mk hst5
          have hb4s := hb4.size
          have hb5s := hb5.size
          have hz3 := HZ3.out
          have HPN : Aside0 (PlayS w W5 g4 p (i + 1)) := ⟨⟨l', W', S', T', A', c', B', d', ho5, (HG3.out.below hb4).same (fun k hk => hb5.block k (by have := (HT3.out k hk).2.1; omega) (HT3.out k hk).2.2), (HK3.out.below hb4).same (fun k hk => hb5.block k (by have := (HS3.out k hk).2.1; omega) (HS3.out k hk).2.2), HIN.out, HFW.out, fun k hk => ⟨(HS3.out k hk).1, by have := (HS3.out k hk).2.1; omega, (HS3.out k hk).2.2⟩, fun k hk => ⟨(HT3.out k hk).1, by have := (HT3.out k hk).2.1; omega, (HT3.out k hk).2.2⟩, HST3.out, HG4w.out, (HB3.out.trans (hb4.mono HB3.out.size)).trans (hb5.below (by have := HB3.out.size; omega) (fun k hk e => by have : k = g4 := e; have := HG4w.out; omega))⟩⟩
          clear m0 m1 hb4 hst5 ho5 hb5 hb4s hb5s hz3
          go_wp2_with (first | (refine pl_load rfl 30 _ rfl _ _ F1.out rfl ?_) | (refine pl_store rfl 30 _ _ rfl _ _ F2.out rfl rfl ?_))
          go_roundg (gk - 1)
          case measure => omega
          case rel => exact ⟨i + 1, by omega, by omega, by go_num, HPN⟩
        · go_wp2_with fail
          have BT0 : Aside0 (But wr.heap.size S wr (wr.alloc (.cells #[.slice none 0 0, .slice none 0 0] 30)).drew) := ⟨But.of (below_drew (below_alloc (Below.refl _ _) _)) (Nat.le_refl _)⟩
          refine lt_end (by first | (simp only [Act.put, List.setIfInBounds_toArray, List.set_cons_zero, List.set_cons_succ, i64_w, i32_w]; rfl) | rfl) (HSF.out _ BT0.out) (fun hHeld => ?_)
          refine lt_o rfl ?_
          go_wp2_with fail
          refine (HDO.out (wr.alloc (.cells #[.slice none 0 0, .slice none 0 0] 30)).drew (below_drew (below_alloc (Below.refl _ _) _))).mono ?_
          rintro e w2 ⟨v, bq, S', T', rfl, ⟨hg', rfl⟩, hk', hbt, hS', hT', hST'⟩
          have hszu : (wr.alloc (.cells #[.slice none 0 0, .slice none 0 0] 30)).drew.heap.size = wr.heap.size + 1 := by show (wr.alloc _).heap.size = _; simp
          have BT1 : Aside0 (But wr.heap.size S wr w2) := ⟨BT0.out.trans (hbt.mono (by omega) (fun k _ h => h))⟩
          obtain ⟨A', c', B', d', rfl, _⟩ := id hg'
          have hwr2 := hbt.size
          have hw0 := HBW.out.size
          have hg4b := HG4b.out
          have HS3 : Aside0 (∀ k, S' k → w.heap.size ≤ k ∧ k < w2.heap.size ∧ k ≠ g4 ∧ k ≠ wr.heap.size) := ⟨fun k hk => by
            rcases hS' k hk with h | ⟨h1, h2⟩
            · have h3 := HSS.out k h
              exact ⟨h3.1, by omega, h3.2.2, by omega⟩
            · exact ⟨by omega, h2, by omega, by omega⟩⟩
          have HT3 : Aside0 (∀ k, T' k → w.heap.size ≤ k ∧ k < w2.heap.size ∧ k ≠ g4 ∧ k ≠ wr.heap.size) := ⟨fun k hk => by
            rcases hT' k hk with h | ⟨h1, h2⟩
            · have h3 := HTT.out k h
              exact ⟨h3.1, by omega, h3.2.2, by omega⟩
            · exact ⟨by omega, h2, by omega, by omega⟩⟩
          have hoz : Ob wr.heap.size (wr.alloc (.cells #[.slice none 0 0, .slice none 0 0] 30)).drew [.slice none 0 0, .slice none 0 0] := Ob.new wr [.slice none 0 0, .slice none 0 0] _ rfl 30
          obtain ⟨W3, hst, ho3, hk3, hg3, hb3⟩ := joinS hk' hg' (hoz.but hbt (by omega) (fun h => by have := (HSS.out _ h).2.1; omega)) (fun k hk => by have := HS3.out k hk; exact ⟨this.2.2.2, this.2.1⟩) (fun k hk => by have := HT3.out k hk; exact ⟨this.2.2.2, this.2.1⟩)
          have HST := Aside0.mk hst
          have HO6 := Aside0.mk ho3
          have HK3 := Aside0.mk hk3
          have HG3 := Aside0.mk hg3
          have hb3s := hb3.size
          have BT3 : Aside0 (But wr.heap.size S wr W3) := ⟨BT1.out.trans (hb3.mono (by omega) (fun k hk e => by have : k = wr.heap.size := e; omega))⟩
          have HZ3 : Aside0 (w2.heap.size ≤ W3.heap.size) := ⟨by omega⟩
          have HNE : Aside0 (wr.heap.size ≠ g4) := ⟨by omega⟩
          have HST3 := Aside0.mk hST'
          have HS3 : Aside0 (∀ k, S' k → w.heap.size ≤ k ∧ k < w2.heap.size ∧ k ≠ g4) := ⟨fun k hk => ⟨(HS3.out k hk).1, (HS3.out k hk).2.1, (HS3.out k hk).2.2.1⟩⟩
          have HT3 : Aside0 (∀ k, T' k → w.heap.size ≤ k ∧ k < w2.heap.size ∧ k ≠ g4) := ⟨fun k hk => ⟨(HT3.out k hk).1, (HT3.out k hk).2.1, (HT3.out k hk).2.2.1⟩⟩
          clear hst ho3 hk3 hg3 hb3 hwr2 hw0 hg4b hb3s hg' hk' hbt hS' hT' hST' hoz hszu
          go_wp2_with fail
          refine lt_end (by first | (simp only [Act.put, List.setIfInBounds_toArray, List.set_cons_zero, List.set_cons_succ, i64_w, i32_w]; rfl) | rfl) (HSF.out _ BT1.out) (fun hHeld => ?_)
          iterate 3 (refine lt_p rfl rfl rfl (by intro w'; go_simp; with_reducible rfl) (by simp only [Act.put, List.setIfInBounds_toArray, List.set_cons_zero, List.set_cons_succ, i64_w, i32_w]; rfl) ?_)
          refine lt_o rfl ?_
          refine pl_store rfl 30 _ _ rfl _ _ HST.out rfl rfl ?_
          obtain ⟨g6, HG6⟩ : ∃ g, Aside0 (wr.heap.size = g) := ⟨_, ⟨rfl⟩⟩
          rw [HG6.out] at HO6 HNE
          refine lt_end (by first | (simp only [Act.put, List.setIfInBounds_toArray, List.set_cons_zero, List.set_cons_succ, i64_w, i32_w]; rfl) | rfl) (HSF.out _ BT3.out) (fun hHeld => ?_)
          (refine lt_p rfl rfl rfl (by intro w'; go_simp; with_reducible rfl) (by simp only [Act.put, List.setIfInBounds_toArray, List.set_cons_zero, List.set_cons_succ, i64_w, i32_w]; rfl) ?_)
          refine lt_nil ?_
          rw [HG6.out]
          have hbw3 := BT3.out.below HBW.out.size (fun k hk h => by have := (HSS.out k h).1; omega)
          have HB3 := Aside0.mk (HBW.out.trans hbw3)
          have HO43 := Aside0.mk (HOB.out.but BT3.out HG4b.out (fun h => (HSS.out _ h).2.2 rfl))
          have m0 := (HO6.out 0 _ rfl).1
          have m1 := (HO6.out 1 _ rfl).1
          have HSA := Aside0.mk (sameC HK3.out HG3.out rfl (by have := HIN.out.few; omega) (by have := HFW.out; omega))
          clear hbw3
          go_wp2_with fail
          refine HSA.out.mono ?_
          rintro e w4 ⟨rfl, hb4⟩
          have HO64 := Aside0.mk (HO6.out.below hb4 HO6.out.lt)
          obtain ⟨W5, hst5, ho5, hb5⟩ := store30 (c := .slice A' l'.length c') (d := .slice B' W'.length d') (HO43.out.below hb4 HO43.out.lt) rfl rfl
          have F1 := Aside0.mk (load30 HO64.out)
          have F2 := Aside0.mk hst5
          have hb4s := hb4.size
          have hb5s := hb5.size
          have hz3 := HZ3.out
          have HPN : Aside0 (PlayS w W5 g4 p (i + 1)) := ⟨⟨l', W', S', T', A', c', B', d', ho5, (HG3.out.below hb4).same (fun k hk => hb5.block k (by have := (HT3.out k hk).2.1; omega) (HT3.out k hk).2.2), (HK3.out.below hb4).same (fun k hk => hb5.block k (by have := (HS3.out k hk).2.1; omega) (HS3.out k hk).2.2), HIN.out, HFW.out, fun k hk => ⟨(HS3.out k hk).1, by have := (HS3.out k hk).2.1; omega, (HS3.out k hk).2.2⟩, fun k hk => ⟨(HT3.out k hk).1, by have := (HT3.out k hk).2.1; omega, (HT3.out k hk).2.2⟩, HST3.out, HG4w.out, (HB3.out.trans (hb4.mono HB3.out.size)).trans (hb5.below (by have := HB3.out.size; omega) (fun k hk e => by have : k = g4 := e; have := HG4w.out; omega))⟩⟩
          clear m0 m1 hb4 hst5 ho5 hb5 hb4s hb5s hz3
          go_wp2_with (first | (refine pl_load rfl 30 _ rfl _ _ F1.out rfl ?_) | (refine pl_store rfl 30 _ _ rfl _ _ F2.out rfl rfl ?_))
          go_roundg (gk - 1)
          case measure => omega
          case rel => exact ⟨i + 1, by omega, by omega, by go_num, HPN⟩
      · obtain rfl : i = L.length := by omega
        have hlI : ¬ ((L.length : Int) < (L.length : Int)) := by omega
        have HBW : Aside0 (Below w.heap.size w wr) := ⟨by
          obtain ⟨l, W2, S, T, A1, c1, B1, d1, _, _, _, _, _, _, _, _, _, hbw⟩ := HPS.out
          exact hbw⟩
        go_wp2_with fail
        refine (KN.out wr).mono ?_
        rintro e w2 ⟨rfl, hb2⟩
        have HB2 := Aside0.mk (HBW.out.trans (hb2.mono HBW.out.size))
        clear hb2
        go_wp2_with fail
        go_ret
        exact ⟨rfl, HB2.out⟩
end Go.Proofs.Ytndjhnipahkclaa.Ke
