/- Openings: the walk of Check. -/
import Derived.Test.YticilaoibjbgfaaOp4
set_option linter.unusedSimpArgs false
set_option linter.unusedVariables false
namespace Go.Proofs.Yticilaoibjbgfaa.Op
open Go.RowKit Go.Proofs.YticilaoibjbgfaaW.PrintWords Go.Proofs.YticilaoibjbgfaaW.PrintLast Go.Proofs.YticilaoibjbgfaaW.PrintMore Go.Proofs.Yticilaoibjbgfaa.POpenRaws Go.Proofs.Yticilaoibjbgfaa.Lib Go.Proofs.Yticilaoibjbgfaa.High Go.Proofs.Yticilaoibjbgfaa.Lex
theorem beqN (n : Nat) (m : Nat) : ((n : Int) == (m : Int)) = decide (n = m) := by
  rw [Bool.eq_iff_iff, beq_iff_eq, decide_eq_true_iff]
  omega
set_option maxRecDepth 100000 in
set_option maxHeartbeats 4000000 in
theorem checkC (o : Opn) (ho : o.Wf) (A : Option Addr) (c : Nat) (w : World) (hx : Kd.C k54 w A o.l.length o.l) (hc : o.l.length ≤ c) (hL : (laidO o).length < 140737488355000) (hl : o.l.length < 500000) :
    Calls Try.prog 15 #[aO o A c] w fun e w' => e = .returned (.int .i64 (checkN o)) ∧ Below w.heap.size w w' := by
  have hb := below_alloc (Below.refl w.heap.size w) (.cells #[.int .u32 o.a, .int .u16 o.h, .int .u32 o.i, .slice A o.l.length c] 26)
  have hob := Ob.new w [.int .u32 o.a, .int .u16 o.h, .int .u32 o.i, .slice A o.l.length c] _ rfl 26
  have hsV : (w.alloc (.cells #[.int .u32 o.a, .int .u16 o.h, .int .u32 o.i, .slice A o.l.length c] 26)).heap.size = w.heap.size + 1 := by simp
  have q0 := (hob 0 _ rfl).1
  have q1 := (hob 1 _ rfl).1
  have q2 := (hob 2 _ rfl).1
  have q3 := (hob 3 _ rfl).1
  have HXV := Aside0.mk (Kd.C_below hx hb)
  have HOB := Aside0.mk hob
  have HB := Aside0.mk hb
  have HO := Aside0.mk ho
  have HLL := Aside0.mk hL
  have HSV := Aside0.mk hsV
  clear hx hob hb ho hL hsV
  cases h0 : ((o.a : Int) == 0) with
  | true =>
    have HE := Aside0.mk (checkN_no (o := o) (.inl (by have := eq_of_beq h0; omega)))
    go_enter Try.func15, Try.ntmps15
    go_wp2_with fail
    go_ret
    exact ⟨by rw [HE.out]; rfl, HB.out⟩
  | false =>
  cases h1 : ((o.h : Int) == 1) with
  | true =>
    have HE := Aside0.mk (checkN_no (o := o) (.inr (.inl (by have := eq_of_beq h1; omega))))
    go_enter Try.func15, Try.ntmps15
    go_wp2_with fail
    go_ret
    exact ⟨by rw [HE.out]; rfl, HB.out⟩
  | false =>
  cases h2 : ((o.h : Int) == 2) with
  | true =>
    have HE := Aside0.mk (checkN_no (o := o) (.inr (.inr (.inl (by have := eq_of_beq h2; omega)))))
    go_enter Try.func15, Try.ntmps15
    go_wp2_with fail
    go_ret
    exact ⟨by rw [HE.out]; rfl, HB.out⟩
  | false =>
  cases h3 : ((o.i : Int) == 0) with
  | true =>
    have HE := Aside0.mk (checkN_no (o := o) (.inr (.inr (.inr (.inl (by have := eq_of_beq h3; omega))))))
    go_enter Try.func15, Try.ntmps15
    go_wp2_with fail
    go_ret
    exact ⟨by rw [HE.out]; rfl, HB.out⟩
  | false =>
  have HNO : Aside0 (¬ (o.a = 0 ∨ o.h = 1 ∨ o.h = 2 ∨ o.i = 0)) := ⟨by
    have g0 := ne_of_beq_false h0
    have g1 := ne_of_beq_false h1
    have g2 := ne_of_beq_false h2
    have g3 := ne_of_beq_false h3
    omega⟩
  cases hr : riseB o.l with
  | false =>
    have HE := Aside0.mk (checkN_no (o := o) (.inr (.inr (.inr (.inr hr)))))
    have HR := Aside0.mk hr
    clear hr
    go_enter Try.func15, Try.ntmps15
    go_wp2_with fail
    refine (riseC A c o.l _ HXV.out (by omega)).mono ?_
    rintro e w2 ⟨rfl, hb2⟩
    rw [HR.out]
    have HB2 := Aside0.mk (HB.out.trans (hb2.mono HB.out.size))
    clear hb2
    go_wp2_with fail
    go_ret
    exact ⟨by rw [HE.out]; rfl, HB2.out⟩
  | true =>
    have HE := Aside0.mk (checkN_yes (o := o) HNO.out hr)
    have HR := Aside0.mk hr
    clear hr
    go_enter Try.func15, Try.ntmps15
    go_wp2_with fail
    refine (riseC A c o.l _ HXV.out (by omega)).mono ?_
    rintro e w2 ⟨rfl, hb2⟩
    rw [HR.out]
    have hob2 := HOB.out.below hb2 (by rw [HSV.out]; omega)
    have p0 := (hob2 0 _ rfl).1
    have p1 := (hob2 1 _ rfl).1
    have p2 := (hob2 2 _ rfl).1
    have p3 := (hob2 3 _ rfl).1
    have HX2 := Aside0.mk (Kd.C_below HXV.out hb2)
    have HB2 := Aside0.mk (HB.out.trans (hb2.mono HB.out.size))
    clear hb2 hob2
    go_wp2_with fail
    refine (capsC o HO.out A c _ HX2.out hc HLL.out hl).mono ?_
    rintro e w3 ⟨v3, rfl, ho3, hb3⟩
    obtain ⟨A3, c3, rfl, _, _⟩ := ho3.reads
    have HB3 := Aside0.mk (HB2.out.trans (hb3.mono HB2.out.size))
    have hLL := HLL.out
    obtain ⟨n, hn⟩ : ∃ n, (laidO o).length = n := ⟨_, rfl⟩
    rw [hn] at hLL HE ⊢
    have HW : Aside0 (IntKind.i64.wrap ((n : Int) + 2) = (n : Int) + 2) := ⟨by rw [IntKind.wrap_i64]; omega⟩
    clear ho3 hb3 hn
    cases hq : decide (255 < (n : Int) + 2) with
    | true =>
      have HE2 := Aside0.mk (HE.out.trans (if_pos (by have := of_decide_eq_true hq; omega)))
      go_wp2_with fail
      go_ret
      exact ⟨by rw [HE2.out]; rfl, HB3.out⟩
    | false =>
      have HE2 := Aside0.mk (HE.out.trans (if_neg (by have := of_decide_eq_false hq; omega)))
      go_wp2_with fail
      go_ret
      exact ⟨by rw [HE2.out]; rfl, HB3.out⟩
end Go.Proofs.Yticilaoibjbgfaa.Op
