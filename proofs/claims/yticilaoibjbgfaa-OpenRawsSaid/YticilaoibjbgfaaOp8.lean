/- Openings: the law's lent. -/
import Derived.Test.YticilaoibjbgfaaOp7
set_option linter.unusedSimpArgs false
set_option linter.unusedVariables false
namespace Go.Proofs.Yticilaoibjbgfaa.Op
open Go.RowKit Go.Proofs.YticilaoibjbgfaaW.PrintWords Go.Proofs.YticilaoibjbgfaaW.PrintLast Go.Proofs.YticilaoibjbgfaaW.PrintMore Go.Proofs.Yticilaoibjbgfaa.POpenRaws Go.Proofs.Yticilaoibjbgfaa.Lib Go.Proofs.Yticilaoibjbgfaa.High Go.Proofs.Yticilaoibjbgfaa.Lex
/-- cells of an opening -/
abbrev cO (o : Opn) (A : Option Addr) (c : Nat) : List Value := [.int .u32 o.a, .int .u16 o.h, .int .u32 o.i, .slice A o.l.length c]
theorem set_getD {α : Type} (l : List α) (k : Nat) (z : α) : l.set k (l.getD k z) = l := by
  apply List.ext_getElem?
  intro j
  by_cases h : k = j
  · subst h
    by_cases hk : k < l.length
    · rw [List.getElem?_set_self hk, List.getD_eq_getElem?_getD, List.getElem?_eq_getElem hk]
      rfl
    · rw [List.getElem?_eq_none (by simpa using hk), List.getElem?_eq_none (by simpa using hk)]
  · rw [List.getElem?_set_ne h]
theorem stopHere {p : Prop} (h : Aside0 p) : p := h.out
theorem zero54 {b : Nat} {w : World} (ok : Nat → Prop) (hf : ok w.heap.size) (hb : b ≤ w.heap.size) : Kd.N k54 54 (w.alloc (.cells #[] 54)) b ok (.slice (some ⟨w.heap.size, 0, none⟩) 0 0) [] :=
  Kd.R_N (show Kd.R k54 54 (w.alloc (.cells #[] 54)) b ok (.slice (some ⟨w.heap.size, 0, none⟩) 0 0) [] from
    ⟨fun k hk => by have e : w.heap.size = k := Option.some.inj hk; rw [← e]; exact hf, OwnRow.lit (ps := []) (inner := []) w b ⟨rfl, fun j p hj => by simp at hj⟩ hb (by simp)⟩)
theorem size26 (o : Opn) (A : Option Addr) (c : Nat) : (Try.prog.info? 26).map (·.size) = some (cO o A c).length := by show _ = some 4; kernel_rfl
theorem FK_body {x : S54} {W : World} {u : Value} {b : Nat} {ok : Nat → Prop} (hu : OB b W u x.f1) (hok : ∀ k, u.ownBlock = some k → ok k) : Kd.FK k54 W ok x [.int .u8 x.f0, u] := by
  obtain ⟨A, c, e, h1, h2⟩ := hu.reads
  subst e
  refine fun W' hW => k54_mk W' x h1 ?_
  have h3 : Kd.R KB 5 W b (fun k => some k = (Value.slice A x.f1.length c).ownBlock) (.slice A x.f1.length c) x.f1 := Kd.R_tight rfl hu
  have h4 := Kd.R_step (w1 := W') h3 (fun k hk hlt => hW k (hok k hk.symm) hlt)
  obtain ⟨A', c', e', _, h5⟩ := Kd.R_reads h4
  injection e' with e1 e2 e3
  rw [e1]
  exact h5
set_option maxRecDepth 100000 in
set_option maxHeartbeats 8000000 in
theorem lentC (o : Opn) (A : Option Addr) (c : Nat) (w : World) (hx : Kd.C k54 w A o.l.length o.l) (hl : o.l.length < 500000) (hbl : ∀ x ∈ o.l, x.f1.length ≤ 1000000) :
    Calls Try.prog 11 #[aO o A c] w fun e w' => ∃ A' c', e = .returned (aO o A' c') ∧ o.l.length ≤ c' ∧ Kd.C k54 w' A' o.l.length o.l ∧ Below w.heap.size w w' := by
  obtain ⟨p, hp⟩ : ∃ p, w.heap.size = p := ⟨_, rfl⟩
  have hob1 := Ob.new w (cO o A c) _ rfl 26
  have hb1 := below_alloc (Below.refl w.heap.size w) (.cells (cO o A c).toArray 26)
  obtain ⟨w1, hw1⟩ : ∃ W, w.alloc (.cells (cO o A c).toArray 26) = W := ⟨_, rfl⟩
  have hs1 : w1.heap.size = p + 1 := by rw [← hw1, ← hp]; simp
  rw [hw1] at hob1 hb1
  have hob2 := Ob.new w1 [.int .u32 0, .int .u16 0, .int .u32 0, .slice none 0 0] _ rfl 26
  have hb2 := below_alloc (Below.refl w1.heap.size w1) (.cells #[.int .u32 0, .int .u16 0, .int .u32 0, .slice none 0 0] 26)
  obtain ⟨w2, hw2⟩ : ∃ W, w1.alloc (.cells #[.int .u32 0, .int .u16 0, .int .u32 0, .slice none 0 0] 26) = W := ⟨_, rfl⟩
  have hs2 : w2.heap.size = p + 1 + 1 := by rw [← hw2, World.size_alloc, hs1]
  rw [hw2, hs1] at hob2
  rw [hw2] at hb2
  have hb3 := below_alloc (Below.refl w2.heap.size w2) (.cells #[] 54)
  have hn3 := zero54 (b := p + 1 + 1) (w := w2) (fun k => k ≠ p ∧ k ≠ p + 1) (by omega) (by omega)
  obtain ⟨V, hV⟩ : ∃ W, w2.alloc (.cells #[] 54) = W := ⟨_, rfl⟩
  have hs3 : V.heap.size = p + 1 + 1 + 1 := by rw [← hV, World.size_alloc, hs2]
  rw [hV] at hb3
  rw [hV, hs2] at hn3
  rw [hp] at hob1
  have o1 := (hob1.below hb2 (by omega)).below hb3 (by omega)
  have o2 := hob2.below hb3 (by omega)
  have hbV := (hb1.trans (hb2.mono hb1.size)).trans (hb3.mono (by omega))
  have HP := Aside0.mk hp
  have HW1 := Aside0.mk hw1
  have HW2 := Aside0.mk hw2
  have HV := Aside0.mk hV
  have HS3 := Aside0.mk hs3
  have HS2 := Aside0.mk hs2
  have HN3 := Aside0.mk hn3
  have HO1 := Aside0.mk o1
  have HO2 := Aside0.mk o2
  have HBV := Aside0.mk hbV
  have HF := Aside0.mk (F_came heap54 hx hbV)
  have q3 := (o1 3 _ rfl).1
  have HBL := Aside0.mk hbl
  have HOK : Aside0 (∀ k, k < w.heap.size → (k ≠ p ∧ k ≠ p + 1) ∧ some k ≠ (Value.slice (some ⟨p + 1 + 1, 0, none⟩) 0 0).ownBlock) := ⟨fun k hk => ⟨⟨by omega, by omega⟩, fun e => by have e2 : k = p + 1 + 1 := Option.some.inj e; omega⟩⟩
  have HFR : Aside0 (∀ k, V.heap.size ≤ k → k ≠ p ∧ k ≠ p + 1) := ⟨fun k hk => ⟨by omega, by omega⟩⟩
  clear hob1 hob2 hb1 hb2 hb3 hn3 o1 o2 hbV hx hw1 hw2 hV hs1 hs2 hs3 hbl
  go_enter Try.func11, Try.ntmps11
  go_wp2_with ((with_reducible refine gate_builtin (b := .append) (xs := #[.tmp 5, .tmp 7]) rfl ?_); refine stopHere ?_)
  refine ⟨?_⟩
  rw [HW1.out, HW2.out, HV.out]; refine Kd.N_append_rows k54 (w0 := V) (p + 1 + 1) rfl (.tmp 5) (.tmp 7) 24 54 (.agg #[.int .u8 0, .slice none 0 0]) 32 rfl Try.underlying24 info54 rfl (by decide) (by decide) (.slice (some ⟨p + 1 + 1, 0, none⟩) 0 0) [] o.l A o.l.length c (fun k => k ≠ p ∧ k ≠ p + 1) _ rfl rfl HN3.out HF.out (fun k hk => HOK.out k hk) HFR.out (Below.refl _ _) (by have := HS3.out; omega) (by simp; omega) ?_; intro v1 w3 hn hb _ _; have HN := Aside0.mk hn; have HB3 := Aside0.mk hb; clear hn hb; rw [List.nil_append] at HN; obtain ⟨Av, cv, ev, hcv, _⟩ := Kd.N_reads HN.out; subst ev
  go_wp2_with fail
  have o1 := HO1.out.below HB3.out (by omega)
  have o2 := HO2.out.below HB3.out (by omega)
  go_loopg [4] o.l.length (fun gk s4 W => ∃ k : Nat, k ≤ o.l.length ∧ o.l.length - k ≤ gk ∧ s4 = .int .i64 k ∧ Aside0 (Kd.N k54 54 W (p + 1 + 1) (fun k => k ≠ p ∧ k ≠ p + 1) (.slice Av o.l.length cv) o.l) ∧ Aside0 (Ob p W (cO o A c)) ∧ Aside0 (Ob (p + 1) W [.int .u32 0, .int .u16 0, .int .u32 0, .slice none 0 0]) ∧ Aside0 (Below w.heap.size w W))
  case atStart => exact ⟨0, by omega, by omega, rfl, HN, ⟨o1⟩, ⟨o2⟩, ⟨HBV.out.trans (HB3.out.mono (by omega))⟩⟩
  case round =>
    clear o1 o2 HO1 HO2 HN HB3
    obtain ⟨k, hk, hgk, rfl, HN, HO1, HO2, HB⟩ := hrel
    by_cases hlt : k < o.l.length
    · obtain ⟨g, cap, eg, hg0, hg1, _⟩ := Kd.N_form HN.out (by omega)
      injection eg with e1 _ e3
      subst e1 e3
      obtain ⟨cs, _, hFK, hcc, _⟩ := Kd.N_elem HN.out z54 k (by omega) (by omega)
      obtain ⟨A1, c1, ecs, hl1, hF1⟩ := k54_openF hFK
      subst ecs
      have e0 := hcc 0 _ rfl
      have e1 := hcc 1 _ rfl
      rw [Int.toNat_natCast] at e0 e1 hF1 hl1 hcc
      obtain ⟨x, hxe⟩ : ∃ x, o.l.getD k z54 = x := ⟨_, rfl⟩
      rw [hxe] at e0 e1 hF1 hl1 hcc
      have e0 : wr.cell? ⟨g, k * 2, none⟩ = some (.int .u8 x.f0) := e0
      have e1 : wr.cell? ⟨g, k * 2 + 1, none⟩ = some (.slice A1 x.f1.length c1) := e1
      have hbx : x.f1.length ≤ 1000000 := by rw [← hxe]; exact HBL.out _ (getD_mem _ _ _ hlt)
      have HXE := Aside0.mk hxe
      have HC1 := Aside0.mk (Kd.F_now hF1)
      have hob0 := OB.lit (b := wr.heap.size) wr [] [] rfl 0 rfl (Nat.le_refl _) (by simp)
      have hb0 := below_alloc (Below.refl wr.heap.size wr) (.cells #[] 5)
      have HO0 := Aside0.mk hob0
      have e2 := pw_cell_below hb0 e1
      have HB0 := Aside0.mk hb0
      have HCC : Aside0 (∀ W, Below wr.heap.size wr W → ∀ j u, [Value.int .u8 x.f0, Value.slice A1 x.f1.length c1][j]? = some u → W.cell? ⟨g, (k : Int).toNat * 2 + j, none⟩ = some u) := ⟨fun W hW j u hj => pw_cell_below hW (hcc j u hj)⟩
      have hlI : (k : Int) < (o.l.length : Int) := by omega
      have HSW := Aside0.mk (show p + 1 + 1 ≤ wr.heap.size by omega)
      have HG := Aside0.mk (show p + 1 + 1 ≤ g ∧ g < wr.heap.size from ⟨hg0, hg1⟩)
      have HLT := Aside0.mk hlt
      have HQ : Aside0 (∀ q, wr.heap.size ≤ q → (q ≠ p ∧ q ≠ p + 1) ∧ q ≠ g) := ⟨fun q hq => ⟨⟨by omega, by omega⟩, by omega⟩⟩
      clear hFK hcc hF1 hxe hob0 hb0 hlt hg0 hg1
      go_wp2_with (first | ((with_reducible refine gate_builtin (b := .append) (xs := #[.tmp 17, .tmp 22]) rfl ?_); refine ap_row wr.heap.size _ _ rfl rfl HO0.out (Kd.C_below HC1.out HB0.out) rfl rfl HB0.out.size (by simp; omega) ?_; intro v w4 ho4 hb4; rw [List.nil_append] at ho4; have HO4 := Aside0.mk ho4; have HB4 := Aside0.mk (HB0.out.trans hb4); clear ho4 hb4; obtain ⟨Ar, cr, er, _, _⟩ := HO4.out.reads; subst er) | ((with_reducible refine gate_store (t := 30) (p := 25) rfl ?_); refine stopHere ?_))
      refine ⟨?_⟩
      refine Kd.N_store k54 (w0 := w4) (p + 1 + 1) rfl rfl 30 (.tmp 25) (.tmp 23) rfl 54 (k : Int) 1 o.l x (.slice Ar x.f1.length cr) [.slice Ar x.f1.length cr] [.int .u8 x.f0, .slice A1 x.f1.length c1] (fun k => k ≠ p ∧ k ≠ p + 1) (fun q => (Value.slice Ar x.f1.length cr).ownBlock = some q) rfl rfl rfl rfl (by kernel_rfl) (by simp [Value.oneCell']) (Kd.N_below HN.out HB4.out) (Int.natCast_nonneg k) hlI rfl (HCC.out _ HB4.out) (show 1 + 1 ≤ 2 by decide) (FK_body HO4.out (fun _ h => h)) (fun q hq => HQ.out q (Kd.R_base HO4.out q hq)) (Below.refl _ _) ?_
      intro w5 hn5 hb5 hg5
      have HN5 := Aside0.mk hn5
      have HB5 := Aside0.mk hb5
      have HG5 := Aside0.mk hg5
      clear hn5 hb5 hg5
      go_wp2_with fail
      have hn := HN5.out
      rw [Int.toNat_natCast, ← HXE.out, set_getD] at hn
      have sw4 := HB4.out.size
      have u1 := (HO1.out.below HB4.out (by have := HSW.out; omega)).same (HG5.out.block p (by have := HSW.out; omega) (fun e => by have := HG.out; have e2 := Option.some.inj e; omega))
      have u2 := (HO2.out.below HB4.out (by have := HSW.out; omega)).same (HG5.out.block (p + 1) (by have := HSW.out; omega) (fun e => by have := HG.out; have e2 := Option.some.inj e; omega))
      have ub := (HB.out.trans (HB4.out.mono HB.out.size)).trans (HB5.out.mono (show w.heap.size ≤ p + 1 + 1 by omega))
      go_roundg (gk - 1)
      case measure => have := HLT.out; omega
      case rel => exact ⟨k + 1, by have := HLT.out; omega, by omega, by go_num, ⟨hn⟩, ⟨u1⟩, ⟨u2⟩, ⟨ub⟩⟩
    · obtain rfl : k = o.l.length := by omega
      have hlI : ¬ ((o.l.length : Int) < (o.l.length : Int)) := by omega
      obtain ⟨q3, f3⟩ := HO1.out 3 _ rfl
      have hO1 : Ob p (wr.setCell ⟨p, 3, none⟩ (.slice Av o.l.length cv)) (cO o Av cv) := HO1.out.set 3 (by simp) _
      have hO2 := HO2.out.far (q := ⟨p, 3, none⟩) (by simp) (.slice Av o.l.length cv)
      have hN := Kd.N_far HN.out (p := ⟨p, 3, none⟩) (fun k hk => hk.1) (.slice Av o.l.length cv)
      have hBs := Below.setCell (HB.out) (p := ⟨p, 3, none⟩) (by show w.heap.size ≤ p; omega) (.slice Av o.l.length cv)
      obtain ⟨W1, hW1⟩ : ∃ W, wr.setCell ⟨p, 3, none⟩ (.slice Av o.l.length cv) = W := ⟨_, rfl⟩
      rw [hW1] at hO1 hO2 hN hBs
      obtain ⟨W2, hst, hO3, hbut⟩ := storeS (cO o Av cv) 26 hO2 rfl (size26 o Av cv) (by simp [Value.oneCell'])
      have HLD := Aside0.mk (loadS 26 hO1 Try.underlying26 (size26 o Av cv))
      have HLE := Aside0.mk (loadS 26 hO3 Try.underlying26 (size26 o Av cv))
      have HST := Aside0.mk hst
      have hN2 := Kd.N_step (w1 := W2) hN (fun k hk hlt => hbut.block k hlt hk.2)
      have HC := Aside0.mk (Kd.N_reads hN2)
      have HBF := Aside0.mk (hBs.trans (hbut.below hBs.size (fun k hk e => by have : k = p + 1 := e; omega)))
      have HW := Aside0.mk hW1
      have HCV := Aside0.mk hcv
      clear hst hO1 hO2 hO3 hN hN2 hBs hbut hW1 hcv
      go_wp2_with (first | (rw [HW.out]; refine pl_load rfl 26 _ rfl _ _ HLD.out rfl ?_) | (refine pl_store rfl 26 _ _ rfl _ _ HST.out rfl rfl ?_))
      obtain ⟨A', c', e', h1, h2⟩ := HC.out
      refine bodyPost_ret (results_cell rfl _ _ (p + 1) _ rfl HLE.out) rfl ⟨Av, cv, rfl, HCV.out, ?_, by have hbf := HBF.out; rw [hp] at hbf; exact hbf⟩
      injection e' with e1 e2 e3
      rw [e1]
      exact h2
end Go.Proofs.Yticilaoibjbgfaa.Op
