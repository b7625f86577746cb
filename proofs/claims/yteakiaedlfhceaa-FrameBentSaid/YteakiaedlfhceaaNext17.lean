/- The law's own functions next and is. -/
import Derived.Test.YteakiaedlfhceaaRefs17
import Derived.Test.YteakiaedlfhceaaLaws17
set_option linter.unusedSimpArgs false
set_option linter.unusedVariables false
namespace Go.Proofs.Yteakiaedlfhceaa.Frame
open Go.RowKit Go.Proofs.YteakiaedlfhceaaW.PrintWords Go.Proofs.YteakiaedlfhceaaW.PrintLast Go.Proofs.YteakiaedlfhceaaW.PrintMore Go.Proofs.Yteakiaedlfhceaa.Lex Go.Proofs.Yteakiaedlfhceaa.Lib

/-- the bytes and the flaw behind a Next -/
def stX (xs : List Int) (fl : Int) : List Int := xs.drop (nxt xs fl).2.2.1.toNat
def stF (xs : List Int) (fl : Int) : Int := (nxt xs fl).2.2.2

set_option maxHeartbeats 4000000 in
theorem lawNext {F : Nat → Prop} {p : Nat} {S : Nat → Prop} {w : World} {A : Option Addr} {c : Nat} {xs : List Int} {fl : Int} (hf : Fr F p w xs fl) (hn : ∀ k, F k → k < w.heap.size ∧ k ≠ p) (hx : Sl S w (.slice A xs.length c) xs) (hS : ∀ k, S k → k < w.heap.size ∧ k ≠ p) (hb : Byt xs) :
    Calls Try.prog 20 #[ptr p, .agg #[.slice A xs.length c, .int .i64 fl]] w fun e w' => ∃ v, e = .returned (.tuple #[.agg #[v, .int .i64 (stF xs fl)], .bool true]) ∧
      Fr F p w' (stX xs fl) (stF xs fl) ∧ Sl S w' v (stX xs fl) ∧ But w.heap.size (at1 p) w w' := by
  have hp := hf.lt
  have hR := fun W (hW : Below w.heap.size w W) => refNextU (fl := fl) (S := S) (hx.same (fun k hk => hW.block k (hS k hk).1)) (fun k hk => Nat.lt_of_lt_of_le (hS k hk).1 hW.size) hb
  have hN := fun W (hW : Below w.heap.size w W) => nextU (hf.below hW (fun k hk => (hn k hk).1) hp) hb (fun k hk => ⟨Nat.lt_of_lt_of_le (hn k hk).1 hW.size, (hn k hk).2⟩)
  unfold stX stF
  obtain ⟨⟨k1, bd, m, e1⟩, hq⟩ : ∃ q, nxt xs fl = q := ⟨_, rfl⟩
  simp only [hq] at hR hN ⊢
  obtain ⟨X, hX⟩ : ∃ X, xs.drop m.toNat = X := ⟨_, rfl⟩
  simp only [hX] at hR hN ⊢
  have HR := Aside0.mk hR
  have HN := Aside0.mk hN
  have HSS := Aside0.mk hS
  have HFF := Aside0.mk hn
  clear hR hN hx hf hq hS hX hn
  go_enter Try.func20, Try.ntmps20
  go_wp2_with fail
  refine (HR.out _ ((below_alloc (below_alloc (Below.refl _ _) _) _))).mono ?_
  rintro e w1 ⟨v, vb, rfl, hv, hvb, hb1⟩
  have hB1 : Below w.heap.size w w1 := (below_alloc (below_alloc (Below.refl _ _) _) _).trans (hb1.mono (by simp; omega))
  have hs2 : w.heap.size + 2 ≤ w1.heap.size := by have := hb1.size; simpa using this
  have h1 : Ob (w.heap.size + 1) w1 [.slice none 0 0, .int .i64 0] := by
    have h := Ob.new (w.alloc (.cells #[.slice A xs.length c, .int .i64 fl] 46)) [.slice none 0 0, .int .i64 0] _ rfl 46
    rw [show (w.alloc (.cells #[.slice A xs.length c, .int .i64 fl] 46)).heap.size = w.heap.size + 1 by simp] at h
    exact h.below hb1 (by simp)
  have HB1 := Aside0.mk hB1
  have H1 := Aside0.mk h1
  have HV := Aside0.mk hv
  have HVB := Aside0.mk hvb
  obtain ⟨Av, cv, rfl, _, _, _⟩ := hv
  obtain ⟨Ab, cb, rfl, _, _, _⟩ := hvb
  clear hb1 hB1 h1 HR
  go_wp2_with fail
  obtain ⟨W1, hW1, hbW, o6, o7, hsW⟩ := two_new w1 (.slice Av X.length cv) (.int .i64 e1) (.int .i64 k1) (.slice Ab bd.length cb) 46 44
  rw [← hW1]
  refine (HN.out W1 (HB1.out.trans (hbW.mono (by omega)))).mono ?_
  rintro e w2 ⟨v2, rfl, ho, hF2, hbt⟩
  obtain ⟨N, hN⟩ : ∃ N, W1.heap.size = N := ⟨_, rfl⟩
  rw [hN] at ho hbt hsW
  have hpn : ¬ at1 p (w.heap.size + 1) := by show ¬ (w.heap.size + 1 = p); omega
  have O6 := Aside0.mk (o6.but hbt (by omega) (by show ¬ (w1.heap.size = p); omega))
  have O7 := Aside0.mk (o7.but hbt (by omega) (by show ¬ (w1.heap.size + 1 = p); omega))
  have O1 := Aside0.mk ((H1.out.below hbW (by omega)).but hbt (by omega) hpn)
  have HF2 := Aside0.mk hF2
  have HO := Aside0.mk ho
  have HS2 : Aside0 (∀ z zs, Sl S w1 z zs → Sl S w2 z zs) := ⟨fun z zs h => h.same (fun k hk => by
    have := HSS.out k hk
    rw [hbt.block k (by omega) (by show ¬ (k = p); omega)]
    exact hbW.block k (by omega))⟩
  have HBut : Aside0 (But w.heap.size (at1 p) w w2) := ⟨(But.of (HB1.out.trans (hbW.mono (by omega))) (Nat.le_refl _)).trans (hbt.mono (by omega) (fun _ _ h => h))⟩
  obtain ⟨A2, c2, rfl, hc2, hC2⟩ := ho.reads
  have hbm : bd.length ≤ 9223372036854775807 := hC2.2.1
  have hcv2 := conv w2 A2 c2 bd hC2
  have hcvb : (convert 22 9 (.slice Ab bd.length cb)).run Try.prog w2 = .ok (.string (strOfNums bd)) w2 := by
    obtain ⟨A', c', e, _, h, _⟩ := HS2.out _ _ HVB.out
    injection e with e1 e2 e3
    subst e1 e3
    exact conv w2 _ _ bd h
  have HG : Aside0 (0 < bd.length → ∃ g, A2 = some ⟨g, 0, none⟩ ∧ N ≤ g ∧ g < w2.heap.size) := ⟨fun hp => by
    obtain ⟨g, c', e, h1, h2, _⟩ := ho.form hp
    injection e with e
    exact ⟨g, e, h1, h2⟩⟩
  obtain ⟨q70, f70⟩ := O7.out 0 _ rfl
  obtain ⟨q71, f71⟩ := O7.out 1 _ rfl
  clear hW1 hbW o6 o7 ho hF2 hbt hC2 HN H1 HB1 hN hpn
  go_wp2_with ((go_at_call 12; refine (num _ _).mono ?_; rintro e w' ⟨rfl, rfl⟩))
  clear hcv2 hcvb q70 f70 q71 f71
  go_loopg [15] bd.length (fun gk s15 w' => ∃ (k : Nat) (ys : List Int), k ≤ bd.length ∧ bd.length - k ≤ gk ∧ s15 = .int .i64 k ∧ Aside0 (ys.length = bd.length) ∧ Aside0 (OB N w' (.slice A2 bd.length c2) ys) ∧ Aside0 (Below N w2 w'))
  case atStart => exact ⟨0, bd, by omega, by omega, rfl, ⟨rfl⟩, HO, ⟨Below.refl _ _⟩⟩
  case round =>
    clear HO
    obtain ⟨k, ys, hk, hgk, rfl, HY, HO, HB⟩ := hrel
    by_cases hlt : k < bd.length
    · obtain ⟨g, rfl, hg1, hg2⟩ := HG.out (by omega)
      obtain ⟨hcell, hfr⟩ := HO.out.cell k (by omega)
      obtain ⟨y, hy⟩ : ∃ y, ys.getD k 0 = y := ⟨_, rfl⟩
      rw [hy] at hcell
      clear hy
      go_wp2
      go_roundg (gk - 1)
      case measure => omega
      case rel => exact ⟨k + 1, _, by omega, by omega, by go_num, ⟨by rw [List.length_set]; exact HY.out⟩, ⟨HO.out.put k _⟩, ⟨HB.out.setCell (by exact hg1) _⟩⟩
    · obtain rfl : k = bd.length := by omega
      have h6 := O6.out.below HB.out (by omega)
      have h1 := O1.out.below HB.out (by omega)
      obtain ⟨q60, f60⟩ := h6 0 _ rfl
      obtain ⟨q61, f61⟩ := h6 1 _ rfl
      obtain ⟨q10, f10⟩ := h1 0 _ rfl
      obtain ⟨q11, f11⟩ := h1 1 _ rfl
      have H1 := Aside0.mk h1
      clear h6 h1
      go_wp2_with fail
      have hO := (H1.out.set 0 (by simp) (.slice Av X.length cv)).set 1 (by simp) (.int .i64 e1)
      obtain ⟨c0, _⟩ := hO 0 _ rfl
      obtain ⟨c1, _⟩ := hO 1 _ rfl
      have hne : ∀ j : Nat, p ≠ (⟨w.heap.size + 1, j, none⟩ : Addr).block := fun j => by show p ≠ w.heap.size + 1; omega
      refine bodyPost_ret (v := .tuple #[.agg #[.slice Av X.length cv, .int .i64 e1], .bool true]) (by simp [results, Try.results20, go_sem, c0, c1]) rfl ⟨_, rfl, ?_, ?_, ?_⟩
      · obtain ⟨z, z1, z2⟩ := HF2.out.below HB.out (fun k hk => by have := (HFF.out k hk).1; omega) (by omega)
        exact ⟨z, (z1.far (hne 0) _).far (hne 1) _, z2.same (fun k hk => by have := (HFF.out k hk).1; rw [Below.heap_setCell _ _ _ _ (by show k ≠ w.heap.size + 1; omega), Below.heap_setCell _ _ _ _ (by show k ≠ w.heap.size + 1; omega)])⟩
      · refine (HS2.out _ _ HV.out).same (fun k hk => ?_)
        have := HSS.out k hk
        rw [Below.heap_setCell _ _ _ _ (by show k ≠ w.heap.size + 1; omega), Below.heap_setCell _ _ _ _ (by show k ≠ w.heap.size + 1; omega)]
        exact HB.out.block k (by omega)
      · exact ((HBut.out.then HB.out (by omega)).setCell (p := ⟨w.heap.size + 1, 0, none⟩) (.inl (by show w.heap.size ≤ w.heap.size + 1; omega)) _).setCell (p := ⟨w.heap.size + 1, 1, none⟩) (.inl (by show w.heap.size ≤ w.heap.size + 1; omega)) _

set_option maxHeartbeats 2000000 in
theorem lawIs {F : Nat → Prop} {p : Nat} {S : Nat → Prop} {w : World} {A : Option Addr} {c : Nat} {xs : List Int} {fl : Int} (hf : Fr F p w xs fl) (hn : ∀ k, F k → k < w.heap.size ∧ k ≠ p) (hx : Sl S w (.slice A xs.length c) xs) (hS : ∀ k, S k → k < w.heap.size) (hl : xs.length ≤ 140737488355328) :
    Calls Try.prog 21 #[ptr p, .agg #[.slice A xs.length c, .int .i64 fl]] w fun e w' => e = .returned (.bool true) ∧ Below w.heap.size w w' := by
  have hp := hf.lt
  have HL := Aside0.mk (fun W (hW : Below w.heap.size w W) => left (hf.below hW (fun k hk => (hn k hk).1) hp) hl)
  have HFl := Aside0.mk (fun W (hW : Below w.heap.size w W) => flaw (hf.below hW (fun k hk => (hn k hk).1) hp))
  have HX : Aside0 (∀ W, Below w.heap.size w W → (convert 22 9 (.slice A xs.length c)).run Try.prog W = .ok (.string (strOfNums xs)) W) := ⟨fun W hW => by
    obtain ⟨A', c', e, _, h, _⟩ := hx.same (fun k hk => hW.block k (hS k hk))
    injection e with e1 e2 e3
    subst e1 e3
    exact conv W _ _ xs h⟩
  have HOb : Aside0 (∀ W, Below (w.heap.size + 1) (w.alloc (.cells #[.slice A xs.length c, .int .i64 fl] 46)) W → Ob w.heap.size W [.slice A xs.length c, .int .i64 fl]) := ⟨fun W hW => (Ob.new w _ _ rfl _).below hW (by omega)⟩
  clear hf hx hS hn
  go_enter Try.func21, Try.ntmps21
  go_wp2_with fail
  have hq := HOb.out _ (Below.refl _ _)
  have q0 := (hq 0 _ rfl).1
  have q1 := (hq 1 _ rfl).1
  have hcx := HX.out _ ((below_alloc (Below.refl _ _) (.cells #[.slice A xs.length c, .int .i64 fl] 46)).drew)
  clear hq
  refine region [(0, .p), (3, .p), (4, .t), (5, .t), (1, .o), (2, .o), (6, .p), (7, .p), (8, .p), (11, .p), (12, .t), (9, .o), (10, .o), (13, .p), (14, .p), (15, .p)] (fun W => (W.cell? ⟨w.heap.size, 0, none⟩ = some (.slice A xs.length c) ∧ W.cell? ⟨w.heap.size, 1, none⟩ = some (.int .i64 fl)) ∧ (convert 22 9 (.slice A xs.length c)).run Try.prog W = .ok (.string (strOfNums xs)) W) (by kernel_rfl) (by kernel_rfl) (fun _ _ _ _ _ h => h) (⟨⟨q0, q1⟩, hcx⟩) (fun hHeld => ?_)
  iterate 2 (refine lex_p rfl rfl rfl (by intro w'; go_simp; with_reducible rfl) (by simp only [Act.put, List.setIfInBounds_toArray, List.set_cons_zero, List.set_cons_succ, i64_w, i32_w]; rfl) ?_)
  iterate 2 (refine lex_t rfl rfl rfl (by rintro w' ⟨⟨s1, s2⟩, s3⟩; go_simp; with_reducible rfl) (by simp only [Act.put, List.setIfInBounds_toArray, List.set_cons_zero, List.set_cons_succ, i64_w, i32_w]; rfl) ?_)
  clear hcx
  refine lex_o rfl ?_
  go_wp2_with fail
  refine (HL.out _ ((below_alloc (Below.refl _ _) _).drew)).mono ?_
  rintro e w1 ⟨v, rfl, ho, hb⟩
  have hB1 : Below w.heap.size w w1 := (below_alloc (Below.refl _ _) _).drew.trans (hb.mono (by simp))
  have h1 := HOb.out w1 ((Below.refl _ _).drew.trans (hb.mono (by simp)))
  have r0 := (h1 0 _ rfl).1
  have r1 := (h1 1 _ rfl).1
  have hcx := HX.out w1 hB1
  have HB1 := Aside0.mk hB1
  obtain ⟨A1, c1, rfl, _, hC1⟩ := ho.reads
  have hcv := conv w1 A1 c1 xs hC1
  clear q0 q1 hb ho h1 hHeld hB1 hC1
  go_wp2_with fail
  refine lex_end rfl ⟨⟨r0, r1⟩, hcx⟩ (fun hHeld => ?_)
  refine lex_o rfl ?_
  go_wp2_with fail
  refine And.intro ⟨⟨r0, r1⟩, hcx⟩ (fun hHeld => ?_)
  iterate 4 (refine lex_p rfl rfl rfl (by intro w'; go_simp; with_reducible rfl) (by simp only [Act.put, List.setIfInBounds_toArray, List.set_cons_zero, List.set_cons_succ, i64_w, i32_w]; rfl) ?_)
  (refine lex_t rfl rfl rfl (by rintro w' ⟨⟨s1, s2⟩, s3⟩; go_simp; with_reducible rfl) (by simp only [Act.put, List.setIfInBounds_toArray, List.set_cons_zero, List.set_cons_succ, i64_w, i32_w]; rfl) ?_)
  refine lex_o rfl ?_
  go_wp2_with fail
  refine (HFl.out _ HB1.out).mono ?_
  rintro e w' ⟨rfl, rfl⟩
  go_wp2_with fail
  refine lex_end rfl ⟨⟨r0, r1⟩, hcx⟩ (fun hHeld => ?_)
  refine lex_o rfl ?_
  go_wp2_with fail
  refine (num _ _).mono ?_
  rintro e w' ⟨rfl, rfl⟩
  go_wp2_with fail
  refine lex_end rfl ⟨⟨r0, r1⟩, hcx⟩ (fun hHeld => ?_)
  iterate 3 (refine lex_p rfl rfl rfl (by intro w'; go_simp; with_reducible rfl) (by simp only [Act.put, List.setIfInBounds_toArray, List.set_cons_zero, List.set_cons_succ, i64_w, i32_w]; rfl) ?_)
  refine lex_nil ?_
  go_wp2_with fail
  go_ret
  exact ⟨rfl, HB1.out⟩
end Go.Proofs.Yteakiaedlfhceaa.Frame
