/- Contracts of the reference's frames under way: Write, Next. -/
import Derived.Test.YteakiaedlfhceaaObj
import Derived.Test.YteakiaedlfhceaaRef17
import Derived.Test.YteakiaedlfhceaaFrames
set_option linter.unusedSimpArgs false
set_option linter.unusedVariables false
namespace Go.Proofs.Yteakiaedlfhceaa.Frame
open Go.RowKit Go.Proofs.YteakiaedlfhceaaW.PrintWords Go.Proofs.YteakiaedlfhceaaW.PrintLast Go.Proofs.YteakiaedlfhceaaW.PrintMore Go.Proofs.Yteakiaedlfhceaa.Lex Go.Proofs.Yteakiaedlfhceaa.Lib

set_option maxHeartbeats 1000000 in
theorem refWrite {w : World} {A B : Option Addr} {c d : Nat} {xs ys : List Int} (hx : Kd.C KB w A xs.length xs) (hy : Kd.C KB w B ys.length ys) (hl : xs.length + ys.length ≤ 140737488355328) :
    Calls Try.prog 19 #[.agg #[.slice A xs.length c, .int .i64 0], .slice B ys.length d] w fun e w' => ∃ v, e = .returned (.tuple #[.agg #[v, .int .i64 0], .int .i64 0]) ∧ OB w.heap.size w' v (xs ++ ys) ∧ Below w.heap.size w w' := by
  have HX := Aside0.mk hx
  have HY := Aside0.mk hy
  have HL : Aside0 (OB (w.heap.size + 2) (((w.alloc (.cells #[.slice A xs.length c, .int .i64 0] 46)).alloc (.cells #[.slice none 0 0, .int .i64 0] 46)).alloc (.cells #[] 5)) (.slice (some ⟨w.heap.size + 1 + 1, 0, none⟩) 0 0) []) := ⟨by
    have h := OB.lit (b := w.heap.size + 2) ((w.alloc (.cells #[.slice A xs.length c, .int .i64 0] 46)).alloc (.cells #[.slice none 0 0, .int .i64 0] 46)) [] [] rfl 0 rfl (by simp) (by simp)
    simpa using h⟩
  have HC : Aside0 (∀ w2, Below (w.heap.size + 2) (((w.alloc (.cells #[.slice A xs.length c, .int .i64 0] 46)).alloc (.cells #[.slice none 0 0, .int .i64 0] 46)).alloc (.cells #[] 5)) w2 → Ob w.heap.size w2 [.slice A xs.length c, .int .i64 0]) := ⟨fun w2 hb => (((Ob.new w _ _ rfl _).below (below_alloc (Below.refl _ _) _) (by simp)).below (below_alloc (Below.refl _ _) _) (by simp; omega)).below hb (by omega)⟩
  have HZ : Aside0 (∀ w2, Below (w.heap.size + 2) (((w.alloc (.cells #[.slice A xs.length c, .int .i64 0] 46)).alloc (.cells #[.slice none 0 0, .int .i64 0] 46)).alloc (.cells #[] 5)) w2 → Ob (w.heap.size + 1) w2 [.slice none 0 0, .int .i64 0]) := ⟨fun w2 hb => by
    have h := Ob.new (w.alloc (.cells #[.slice A xs.length c, .int .i64 0] 46)) [.slice none 0 0, .int .i64 0] _ rfl 46
    have h2 := h.below (below_alloc (Below.refl _ _) (.cells #[] 5)) (by simp)
    rw [show (w.alloc (.cells #[.slice A xs.length c, .int .i64 0] 46)).heap.size = w.heap.size + 1 by simp] at h2
    exact h2.below hb (by omega)⟩
  clear hx hy
  go_enter Try.func19, Try.ntmps19
  go_wp2_with (first | ((with_reducible refine gate_builtin (b := .append) (xs := #[.tmp 12, .tmp 14]) rfl ?_); refine ap_row (w.heap.size + 2) _ _ rfl rfl HL.out (Kd.C_below HX.out (below_alloc (below_alloc (below_alloc (Below.refl _ _) _) _) _)) rfl rfl (by simp) (by simp; omega) ?_; intro v1 w1 ho hb; rw [List.nil_append] at ho; have HO1 := Aside0.mk ho; have HB1 := Aside0.mk hb; clear ho hb) | ((with_reducible refine gate_builtin (b := .append) (xs := #[.tmp 15, .tmp 16]) rfl ?_); refine ap_row (w.heap.size + 2) _ _ rfl rfl HO1.out (Kd.C_below HY.out ((below_alloc (below_alloc (below_alloc (Below.refl _ _) _) _) _).trans (HB1.out.mono (by simp)))) rfl rfl (by have := HB1.out.size; simp at this; omega) (by omega) ?_; intro v2 w2 ho hb; have HO2 := Aside0.mk ho; have HB2 := Aside0.mk (HB1.out.trans hb); clear ho hb HO1 HB1; obtain ⟨Av, cv, rfl, _, _⟩ := HO2.out.reads; obtain ⟨q0, q1⟩ := (HC.out w2 HB2.out) 0 _ rfl; obtain ⟨q2, q3⟩ := (HC.out w2 HB2.out) 1 _ rfl; obtain ⟨q4, q5⟩ := (HZ.out w2 HB2.out) 0 _ rfl; obtain ⟨q6, q7⟩ := (HZ.out w2 HB2.out) 1 _ rfl))
  have hlen : (xs ++ ys).length = xs.length + ys.length := List.length_append
  have hO := (((HZ.out w2 HB2.out).far (q := ⟨w.heap.size, 0, none⟩) (by simp) (.slice Av (xs.length + ys.length) cv)).set 0 (by simp) (.slice Av (xs.length + ys.length) cv)).set 1 (by simp) (.int .i64 0)
  obtain ⟨c0, _⟩ := hO 0 _ rfl
  obtain ⟨c1, _⟩ := hO 1 _ rfl
  refine bodyPost_ret (v := .tuple #[.agg #[.slice Av (xs.length + ys.length) cv, .int .i64 0], .int .i64 0]) (by simp [results, Try.results19, go_sem, c0, c1]) rfl ⟨_, rfl, ?_, ?_⟩
  · have h := HO2.out
    rw [hlen] at h
    exact (((h.far (by show w.heap.size < w.heap.size + 2; omega) _).far (by show w.heap.size + 1 < w.heap.size + 2; omega) _).far (by show w.heap.size + 1 < w.heap.size + 2; omega) _).lower (by omega)
  · have h : Below w.heap.size w w2 := (below_alloc (below_alloc (below_alloc (Below.refl _ _) _) _) _).trans (HB2.out.mono (by omega))
    exact ((h.setCell (p := ⟨w.heap.size, 0, none⟩) (Nat.le_refl _) _).setCell (p := ⟨w.heap.size + 1, 0, none⟩) (by simp) _).setCell (p := ⟨w.heap.size + 1, 1, none⟩) (by simp) _

theorem cutOf_facts (xs : List Int) : ((cutOf xs).2.2.1 = 0 → (cutOf xs).1 = 0 ∧ (cutOf xs).2.1 = []) ∧ ((cutOf xs).2.2.2 ≠ 0 → (cutOf xs).2.2.1 = 0) := by
  unfold cutOf
  split
  · simp
  · split
    · rename_i h
      refine ⟨fun h0 => ?_, fun h0 => absurd rfl h0⟩
      have h1 : two xs 16 = 0 := h0
      have h2 : tests xs 1 = true := by unfold tests; simp only; rw [h1]; decide
      exact absurd h.1 (by
        unfold flawOf
        rcases hq : tests xs 0 with _ | _ <;> simp [h2, codes])
    · simp
/-- Behind three new blocks of the call's own. -/
theorem blocks3 {w w1 : World} (cs0 cs1 cs2 : List Value) (t0 t1 t2 : Nat) (hb : Below (w.heap.size + 3) (((w.alloc (.cells cs0.toArray t0)).alloc (.cells cs1.toArray t1)).alloc (.cells cs2.toArray t2)) w1) :
    Ob w.heap.size w1 cs0 ∧ Ob (w.heap.size + 1) w1 cs1 ∧ Ob (w.heap.size + 2) w1 cs2 := by
  have h0 := Ob.new w cs0 _ rfl t0
  have h1 := Ob.new (w.alloc (.cells cs0.toArray t0)) cs1 _ rfl t1
  have h2 := Ob.new ((w.alloc (.cells cs0.toArray t0)).alloc (.cells cs1.toArray t1)) cs2 _ rfl t2
  have e1 : (w.alloc (.cells cs0.toArray t0)).heap.size = w.heap.size + 1 := by simp
  have e2 : ((w.alloc (.cells cs0.toArray t0)).alloc (.cells cs1.toArray t1)).heap.size = w.heap.size + 2 := by simp
  rw [e1] at h1
  rw [e2] at h2
  have b1 : Below (w.heap.size + 1) (w.alloc (.cells cs0.toArray t0)) ((w.alloc (.cells cs0.toArray t0)).alloc (.cells cs1.toArray t1)) := (Below.refl _ _).alloc (by omega) _
  have b2 : Below (w.heap.size + 2) ((w.alloc (.cells cs0.toArray t0)).alloc (.cells cs1.toArray t1)) (((w.alloc (.cells cs0.toArray t0)).alloc (.cells cs1.toArray t1)).alloc (.cells cs2.toArray t2)) := (Below.refl _ _).alloc (by omega) _
  exact ⟨((h0.below b1 (by omega)).below b2 (by omega)).below hb (by omega), (h1.below b2 (by omega)).below hb (by omega), h2.below hb (by omega)⟩

theorem stores {n : Nat} {S : Nat → Prop} {w w1 : World} {a0 a1 b0 b1 : Value} (h1 : Ob (n + 1) w1 [a0, a1]) (h2 : Ob (n + 2) w1 [b0, b1]) (hb : Below n w w1) (hS : ∀ k, S k → k < n) (u v x y : Value) :
    ∃ W, W = ((((w1.setCell ⟨n + 1, 0, none⟩ u).setCell ⟨n + 1, 1, none⟩ v).setCell ⟨n + 1 + 1, 0, none⟩ x).setCell ⟨n + 1 + 1, 1, none⟩ y) ∧
      W.cell? ⟨n + 1, 0, none⟩ = some u ∧ W.cell? ⟨n + 1, 1, none⟩ = some v ∧ W.cell? ⟨n + 1 + 1, 0, none⟩ = some x ∧ W.cell? ⟨n + 1 + 1, 1, none⟩ = some y ∧ Below n w W ∧ ∀ z zs, Sl S w1 z zs → Sl S W z zs := by
  refine ⟨_, rfl, ?_⟩
  have k1 := (((h1.set 0 (by simp) u).set 1 (by simp) v).far (q := ⟨n + 1 + 1, 0, none⟩) (by simp) x).far (q := ⟨n + 1 + 1, 1, none⟩) (by simp) y
  have k2 := (((h2.far (q := ⟨n + 1, 0, none⟩) (by simp) u).far (q := ⟨n + 1, 1, none⟩) (by simp) v).set 0 (by simp) x).set 1 (by simp) y
  refine ⟨(k1 0 _ rfl).1, (k1 1 _ rfl).1, (k2 0 _ rfl).1, (k2 1 _ rfl).1, ?_, fun z zs h => h.same (fun k hk => ?_)⟩
  · exact (((hb.setCell (p := ⟨n + 1, 0, none⟩) (by simp) _).setCell (p := ⟨n + 1, 1, none⟩) (by simp) _).setCell (p := ⟨n + 1 + 1, 0, none⟩) (by simp; omega) _).setCell (p := ⟨n + 1 + 1, 1, none⟩) (by simp; omega) _
  · have := hS k hk
    rw [Below.heap_setCell _ _ _ _ (by simp; omega), Below.heap_setCell _ _ _ _ (by simp; omega), Below.heap_setCell _ _ _ _ (by simp; omega), Below.heap_setCell _ _ _ _ (by simp; omega)]
/-- what Next of the reference tells -/
def RNext (S : Nat → Prop) (xs : List Int) (w : World) (e : Ending) (w' : World) : Prop :=
  ∃ (v vb : Value), e = .returned (.tuple #[.agg #[v, .int .i64 (cutOf xs).2.2.2], .agg #[.int .i64 (cutOf xs).1, vb], .bool (decide (0 < (cutOf xs).2.2.1)), .int .i64 (cutOf xs).2.2.2]) ∧
    Sl S w' v (xs.drop (cutOf xs).2.2.1.toNat) ∧ Sl S w' vb (cutOf xs).2.1 ∧ Below w.heap.size w w'
set_option maxHeartbeats 2000000 in
theorem refNext {S : Nat → Prop} {w : World} {A : Option Addr} {c : Nat} {xs : List Int} (hx : Sl S w (.slice A xs.length c) xs) (hS : ∀ k, S k → k < w.heap.size) (hb : Byt xs) :
    Calls Try.prog 34 #[.agg #[.slice A xs.length c, .int .i64 0]] w (RNext S xs w) := by
  obtain ⟨A', c', e, hc, hC, hA⟩ := id hx
  injection e with e1 e2 e3
  subst e1 e3
  have hF := cutOf_facts xs
  have hA := Aside0.mk hA
  have hm0 := (cutOf_n xs hb)
  have HAd : Aside0 (0 < xs.length → ∃ b o, A = some ⟨b, o, none⟩) := ⟨fun hq => C_addr (by decide) hC hq⟩
  have hR := fun W (hW : Below w.heap.size w W) => refCut A c xs W (Kd.C_below hC hW) hc hb
  unfold RNext
  unfold RCut at hR
  obtain ⟨⟨k1, bd, n1, e1⟩, hq⟩ : ∃ q, cutOf xs = q := ⟨_, rfl⟩
  simp only [hq] at hR hF hm0 ⊢
  obtain ⟨m, rfl⟩ : ∃ m : Nat, n1 = m := ⟨n1.toNat, by omega⟩
  rw [Int.toNat_natCast]
  have HR := Aside0.mk hR
  have HF := Aside0.mk hF
  have HS := Aside0.mk hx
  have HSS := Aside0.mk hS
  have hm : m ≤ xs.length := by omega
  clear hx hC hF hq hm0 hS hR
  go_enter Try.func34, Try.ntmps34
  go_wp2_with fail
  refine (HR.out _ ((below_alloc (below_alloc (below_alloc (Below.refl _ _) _) _) _))).mono ?_
  rintro e w1 ⟨Ab, cb, rfl, hCb, hb1, hcb, hAb⟩
  obtain ⟨h0, h1, h2⟩ := blocks3 _ _ _ _ _ _ (hb1.mono (by simp))
  have hB1 : Below w.heap.size w w1 := (below_alloc (below_alloc (below_alloc (Below.refl _ _) _) _) _).trans (hb1.mono (by simp; omega))
  obtain ⟨q00, f00⟩ := h0 0 _ rfl
  obtain ⟨q01, f01⟩ := h0 1 _ rfl
  obtain ⟨q10, f10⟩ := h1 0 _ rfl
  obtain ⟨q11, f11⟩ := h1 1 _ rfl
  obtain ⟨q20, f20⟩ := h2 0 _ rfl
  obtain ⟨q21, f21⟩ := h2 1 _ rfl
  have HB1 := Aside0.mk hB1
  have H0 := Aside0.mk h0
  have H1 := Aside0.mk h1
  have H2 := Aside0.mk h2
  have HSb : Aside0 (Sl S w1 (.slice Ab bd.length cb) bd) := ⟨⟨Ab, cb, rfl, hcb, hCb, fun a ha => by
    obtain ⟨a0, e0, e1⟩ := hAb a ha
    rw [← e1]
    exact hA.out a0 e0⟩⟩
  clear hCb hb1 hB1 hAb h0 h1 h2 HR
  have w0 : ∀ (v1 v2 v3 v4 v5 v6 : Value), True := fun _ _ _ _ _ _ => trivial
  by_cases g1 : e1 = 0
  · subst g1
    by_cases g2 : m = 0
    · subst g2
      obtain ⟨rfl, rfl⟩ := HF.out.1 rfl
      go_wp2_with fail
      obtain ⟨W, hW, c0, c1, c2, c3, hbW, hSW⟩ := stores H1.out H2.out HB1.out HSS.out (.slice A xs.length c) (.int .i64 0) (.int .i64 0) (.slice none 0 0)
      rw [← hW]
      refine bodyPost_ret (v := .tuple #[.agg #[(.slice A xs.length c), (.int .i64 0)], .agg #[(.int .i64 0), (.slice none 0 0)], .bool false, .int .i64 0]) (by simp [results, Try.results34, go_sem, c0, c1, c2, c3]) rfl ⟨(.slice A xs.length c), (.slice none 0 0), by simp, ?_, ?_, hbW⟩
      · exact hSW _ _ (HS.out.same (fun k hk => HB1.out.block k (HSS.out k hk)))
      · exact hSW _ _ (Sl.nil _ _)
    · have d2 : (m == 0) = false := by simpa using g2
      have d3 : decide ((m : Int) = 0) = false := by simp; omega
      have hS1 : Sl S w1 (.slice A xs.length c) xs := HS.out.same (fun k hk => HB1.out.block k (HSS.out k hk))
      have HS1 := Aside0.mk hS1
      clear hS1
      go_wp2_with fail
      · have hd := HS1.out.drop m hm A (fun b o e hlt => by omega) (fun a e => ⟨a, e, rfl⟩)
        rw [show c - m = 0 by omega] at hd
        obtain ⟨W, hW, c0, c1, c2, c3, hbW, hSW⟩ := stores (H1.out.far (q := ⟨w.heap.size, 0, none⟩) (by simp) (.slice A (xs.length - m) 0)) (H2.out.far (q := ⟨w.heap.size, 0, none⟩) (by simp) (.slice A (xs.length - m) 0)) (HB1.out.setCell (p := ⟨w.heap.size, 0, none⟩) (Nat.le_refl _) (.slice A (xs.length - m) 0)) HSS.out (.slice A (xs.length - m) 0) (.int .i64 0) (.int .i64 k1) (.slice Ab bd.length cb)
        rw [← hW]
        refine bodyPost_ret (v := .tuple #[.agg #[(.slice A (xs.length - m) 0), (.int .i64 0)], .agg #[(.int .i64 k1), (.slice Ab bd.length cb)], .bool true, .int .i64 0]) (by simp [results, Try.results34, go_sem, c0, c1, c2, c3]) rfl ⟨(.slice A (xs.length - m) 0), (.slice Ab bd.length cb), by simp; omega, ?_, ?_, hbW⟩
        · exact hSW _ _ (hd.same (fun k hk => Below.heap_setCell _ _ _ _ (by have := HSS.out k hk; simp; omega)))
        · exact hSW _ _ (HSb.out.same (fun k hk => Below.heap_setCell _ _ _ _ (by have := HSS.out k hk; simp; omega)))
      · have hd := HS1.out.drop m hm (Option.map (fun x => x.add m) A) (fun b o e hlt => by subst e; simp [add_none]) (fun a e => by cases A with | none => cases e | some a0 => (simp at e; subst e; exact ⟨a0, rfl, (add_block a0 m).symm⟩))
        obtain ⟨W, hW, c0, c1, c2, c3, hbW, hSW⟩ := stores (H1.out.far (q := ⟨w.heap.size, 0, none⟩) (by simp) (.slice (Option.map (fun x => x.add m) A) (xs.length - m) (c - m))) (H2.out.far (q := ⟨w.heap.size, 0, none⟩) (by simp) (.slice (Option.map (fun x => x.add m) A) (xs.length - m) (c - m))) (HB1.out.setCell (p := ⟨w.heap.size, 0, none⟩) (Nat.le_refl _) (.slice (Option.map (fun x => x.add m) A) (xs.length - m) (c - m))) HSS.out (.slice (Option.map (fun x => x.add m) A) (xs.length - m) (c - m)) (.int .i64 0) (.int .i64 k1) (.slice Ab bd.length cb)
        rw [← hW]
        refine bodyPost_ret (v := .tuple #[.agg #[(.slice (Option.map (fun x => x.add m) A) (xs.length - m) (c - m)), (.int .i64 0)], .agg #[(.int .i64 k1), (.slice Ab bd.length cb)], .bool true, .int .i64 0]) (by simp [results, Try.results34, go_sem, c0, c1, c2, c3]) rfl ⟨(.slice (Option.map (fun x => x.add m) A) (xs.length - m) (c - m)), (.slice Ab bd.length cb), by simp; omega, ?_, ?_, hbW⟩
        · exact hSW _ _ (hd.same (fun k hk => Below.heap_setCell _ _ _ _ (by have := HSS.out k hk; simp; omega)))
        · exact hSW _ _ (HSb.out.same (fun k hk => Below.heap_setCell _ _ _ _ (by have := HSS.out k hk; simp; omega)))
  · have g2 : m = 0 := by have := HF.out.2 g1; omega
    subst g2
    obtain ⟨rfl, rfl⟩ := HF.out.1 rfl
    have d2 : (e1 == 0) = false := by simpa using g1
    have d3 : decide (e1 = 0) = false := by simp; omega
    have hS1 : Sl S w1 (.slice A xs.length c) xs := HS.out.same (fun k hk => HB1.out.block k (HSS.out k hk))
    have HS1 := Aside0.mk hS1
    clear hS1
    go_wp2_with fail
    obtain ⟨W, hW, c0, c1, c2, c3, hbW, hSW⟩ := stores (H1.out.far (q := ⟨w.heap.size, 1, none⟩) (by simp) (.int .i64 e1)) (H2.out.far (q := ⟨w.heap.size, 1, none⟩) (by simp) (.int .i64 e1)) (HB1.out.setCell (p := ⟨w.heap.size, 1, none⟩) (Nat.le_refl _) (.int .i64 e1)) HSS.out (.slice A xs.length c) (.int .i64 e1) (.int .i64 0) (.slice none 0 0)
    rw [← hW]
    refine bodyPost_ret (v := .tuple #[.agg #[(.slice A xs.length c), (.int .i64 e1)], .agg #[(.int .i64 0), (.slice none 0 0)], .bool false, .int .i64 e1]) (by simp [results, Try.results34, go_sem, c0, c1, c2, c3]) rfl ⟨(.slice A xs.length c), (.slice none 0 0), by simp, ?_, ?_, hbW⟩
    · exact hSW _ _ (HS1.out.same (fun k hk => Below.heap_setCell _ _ _ _ (by have := HSS.out k hk; simp; omega)))
    · exact hSW _ _ (Sl.nil _ _)

set_option maxHeartbeats 2000000 in
theorem refNext_bad {S : Nat → Prop} {w : World} {A : Option Addr} {c n : Nat} {fl : Int} (hf : fl ≠ 0) :
    Calls Try.prog 34 #[.agg #[.slice A n c, .int .i64 fl]] w fun e w' => e = .returned (.tuple #[.agg #[.slice A n c, .int .i64 fl], .agg #[.int .i64 0, .slice none 0 0], .bool false, .int .i64 fl]) ∧ Below w.heap.size w w' := by
  have d2 : (fl == 0) = false := by simpa using hf
  have d3 : decide (fl = 0) = false := by simpa using hf
  go_enter Try.func34, Try.ntmps34
  go_wp2_with fail
  obtain ⟨w1, hw1⟩ : ∃ W, (((w.alloc (.cells #[.slice A n c, .int .i64 fl] 46)).alloc (.cells #[.slice none 0 0, .int .i64 0] 46)).alloc (.cells #[.int .i64 0, .slice none 0 0] 44)) = W := ⟨_, rfl⟩
  have hb3 : Below (w.heap.size + 3) w1 w1 := Below.refl _ _
  have hB1 : Below w.heap.size w w1 := by rw [← hw1]; exact below_alloc (below_alloc (below_alloc (Below.refl _ _) _) _) _
  obtain ⟨h0, h1, h2⟩ := blocks3 (w := w) (w1 := w1) [.slice A n c, .int .i64 fl] [.slice none 0 0, .int .i64 0] [.int .i64 0, .slice none 0 0] 46 46 44 (by rw [hw1]; exact hb3)
  rw [hw1]
  have HB1 := Aside0.mk hB1
  have H0 := Aside0.mk h0
  have H1 := Aside0.mk h1
  have H2 := Aside0.mk h2
  obtain ⟨q00, f00⟩ := h0 0 _ rfl
  obtain ⟨q01, f01⟩ := h0 1 _ rfl
  obtain ⟨q10, f10⟩ := h1 0 _ rfl
  obtain ⟨q11, f11⟩ := h1 1 _ rfl
  obtain ⟨q20, f20⟩ := h2 0 _ rfl
  obtain ⟨q21, f21⟩ := h2 1 _ rfl
  clear hw1 hb3 hB1 h0 h1 h2
  have lt : ∀ (x : Act) (y : World), True := fun _ _ => trivial
  refine region [(0, .t), (1, .p), (2, .p), (3, .t), (4, .o), (5, .o), (6, .p), (7, .p)] (fun W => W.cell? ⟨w.heap.size, 0, none⟩ = some (.slice A n c) ∧ W.cell? ⟨w.heap.size, 1, none⟩ = some (.int .i64 fl)) (by kernel_rfl) (by kernel_rfl) (fun _ _ _ _ _ h => h) ⟨q00, q01⟩ (fun hHeld => ?_)
  (refine lex_t rfl rfl rfl (by rintro w' ⟨s1, s2⟩; go_simp; with_reducible rfl) (by simp only [Act.put, List.setIfInBounds_toArray, List.set_cons_zero, List.set_cons_succ, i64_w, i32_w]; rfl) ?_)
  iterate 2 (refine lex_p rfl rfl rfl (by intro w'; go_simp; with_reducible rfl) (by simp only [Act.put, List.setIfInBounds_toArray, List.set_cons_zero, List.set_cons_succ, i64_w, i32_w]; rfl) ?_)
  (refine lex_t rfl rfl rfl (by rintro w' ⟨s1, s2⟩; go_simp; with_reducible rfl) (by simp only [Act.put, List.setIfInBounds_toArray, List.set_cons_zero, List.set_cons_succ, i64_w, i32_w]; rfl) ?_)
  refine lex_o rfl ?_
  go_wp2_with fail
  have HA := (H0.out.far (q := ⟨w.heap.size + 1, 0, none⟩) (by simp) (.slice A n c)).far (q := ⟨w.heap.size + 1, 1, none⟩) (by simp) (.int .i64 fl)
  refine And.intro ⟨(HA 0 _ rfl).1, (HA 1 _ rfl).1⟩ (fun hHeld => ?_)
  refine lex_o rfl ?_
  go_wp2_with fail
  have HA2 := (HA.far (q := ⟨w.heap.size + 1 + 1, 0, none⟩) (by simp; omega) (.int .i64 0)).far (q := ⟨w.heap.size + 1 + 1, 1, none⟩) (by simp; omega) (.slice none 0 0)
  refine And.intro ⟨(HA2 0 _ rfl).1, (HA2 1 _ rfl).1⟩ (fun hHeld => ?_)
  iterate 2 (refine lex_p rfl rfl rfl (by intro w'; go_simp; with_reducible rfl) (by simp only [Act.put, List.setIfInBounds_toArray, List.set_cons_zero, List.set_cons_succ, i64_w, i32_w]; rfl) ?_)
  refine lex_nil ?_
  go_wp2_with fail
  clear HA HA2 hHeld
  obtain ⟨W, hW, c0, c1, c2, c3, hbW, _⟩ := stores (S := fun _ => False) H1.out H2.out HB1.out (fun k hk => hk.elim) (.slice A n c) (.int .i64 fl) (.int .i64 0) (.slice none 0 0)
  rw [← hW]
  exact bodyPost_ret (v := .tuple #[.agg #[.slice A n c, .int .i64 fl], .agg #[.int .i64 0, .slice none 0 0], .bool false, .int .i64 fl]) (by simp [results, Try.results34, go_sem, c0, c1, c2, c3]) rfl ⟨rfl, hbW.drew⟩

theorem refNextU {S : Nat → Prop} {w : World} {A : Option Addr} {c : Nat} {xs : List Int} {fl : Int} (hx : Sl S w (.slice A xs.length c) xs) (hS : ∀ k, S k → k < w.heap.size) (hb : Byt xs) :
    Calls Try.prog 34 #[.agg #[.slice A xs.length c, .int .i64 fl]] w fun e w' =>
      ∃ (v vb : Value), e = .returned (.tuple #[.agg #[v, .int .i64 (nxt xs fl).2.2.2], .agg #[.int .i64 (nxt xs fl).1, vb], .bool (decide (0 < (nxt xs fl).2.2.1)), .int .i64 (nxt xs fl).2.2.2]) ∧
        Sl S w' v (xs.drop (nxt xs fl).2.2.1.toNat) ∧ Sl S w' vb (nxt xs fl).2.1 ∧ Below w.heap.size w w' := by
  by_cases hf : fl = 0
  · subst hf
    exact refNext hx hS hb
  · refine (refNext_bad (S := S) hf).mono ?_
    rintro e w' ⟨rfl, hb2⟩
    unfold nxt
    rw [if_neg hf]
    exact ⟨_, _, rfl, hx.same (fun k hk => hb2.block k (hS k hk)), Sl.nil _ _, hb2⟩
/-- Two new blocks of two cells each. -/
theorem two_new (w1 : World) (a0 a1 b0 b1 : Value) (t t' : Nat) :
    ∃ W, W = (w1.alloc (.cells #[a0, a1] t)).alloc (.cells #[b0, b1] t') ∧
      Below w1.heap.size w1 W ∧ Ob w1.heap.size W [a0, a1] ∧ Ob (w1.heap.size + 1) W [b0, b1] ∧ W.heap.size = w1.heap.size + 2 := by
  have h0 := Ob.new w1 [a0, a1] _ rfl t
  have h1 := Ob.new (w1.alloc (.cells #[a0, a1] t)) [b0, b1] _ rfl t'
  have e1 : (w1.alloc (.cells #[a0, a1] t)).heap.size = w1.heap.size + 1 := by simp
  rw [e1] at h1
  have b1' : Below (w1.heap.size + 1) (w1.alloc (.cells #[a0, a1] t)) ((w1.alloc (.cells #[a0, a1] t)).alloc (.cells #[b0, b1] t')) := (Below.refl _ _).alloc (by omega) _
  exact ⟨_, rfl, (((Below.refl w1.heap.size w1).alloc (Nat.le_refl _) _).alloc (by simp) _), h0.below b1' (by omega), h1, by simp⟩
end Go.Proofs.Yteakiaedlfhceaa.Frame
