/- Openings: what Parse answers (plain); each. · Openings: Parse's three plain tests (closures over the bytes, over the reader). · Openings: the iterator over the capabilities of bytes. · Openings: the reader's params. · Openings: the reader's as. · Openings: Parse. · Openings: the reference's caps, plain. · Openings: the reference's Parse. · The law OpenParses: its walk. -/
import Derived.Test.YticilaoibjbgfaaOpP18
import Derived.Test.YticilaoibjbgfaaRangeY
import Derived.Test.YticilaoibjbgfaaLexW
import Derived.Test.YticilaoibjbgfaaAdv
import Derived.WalkMore
import Derived.Test.YticilaoibjbgfaaRound
import Derived.Deep.WholeRow
import Derived.Test.YticilaoibjbgfaaPrB
import Derived.Test.YticilaoibjbgfaaRow
set_option linter.unusedSimpArgs false
set_option linter.unusedVariables false
namespace Go.Proofs.Yticilaoibjbgfaa.Op
open Go.RowKit Go.Proofs.YticilaoibjbgfaaW.PrintWords Go.Proofs.YticilaoibjbgfaaW.PrintLast Go.Proofs.YticilaoibjbgfaaW.PrintMore Go.Proofs.Yticilaoibjbgfaa.POpenRaws Go.Proofs.Yticilaoibjbgfaa.Lib Go.Proofs.Yticilaoibjbgfaa.High Go.Proofs.Yticilaoibjbgfaa.Lex
/-- the head's lengths fit -/
def headB (b : List Int) : Bool := decide (b.getD 9 0 = (b.length : Int) - 10) && (decide (12 ≤ b.length) && (decide (b.getD 10 0 = 2) && decide (b.getD 11 0 = (b.length : Int) - 12)))
def holdOf (b : List Int) : Nat := (num2 ((b.take 5).drop 3)).toNat
def idOf (b : List Int) : Nat := (num4 ((b.take 9).drop 5)).toNat
def asOf (l : List S54) : Nat := (num4 (l.getD 0 z54).f1).toNat
/-- does the first capability tell the system, and is it the one ahead? -/
def asB (b : List Int) (l : List S54) : Bool := decide (l.length ≠ 0) && (decide ((l.getD 0 z54).f0 = 65) && (decide ((l.getD 0 z54).f1.length = 4) && (decide (asOf l ≠ 0) && decide (num2 ((b.take 3).drop 1) = (shortN (asOf l) : Int)))))
/-- what Parse answers -/
def parseN (b : List Int) : Opn × Int :=
  if b.length < 10 then (zo, 280) else if b.getD 0 0 ≠ 4 then (zo, 281) else if holdOf b = 1 ∨ holdOf b = 2 then (zo, 282) else if idOf b = 0 then (zo, 283)
  else if headB b = false ∨ okL (eachL (b.drop 12)) = false then (zo, 284) else if asB b (eachL (b.drop 12)) = false then (zo, 285)
  else (⟨asOf (eachL (b.drop 12)), holdOf b, idOf b, (eachL (b.drop 12)).tail⟩, 0)
theorem eachC (p : Nat) (w : World) : Calls Try.prog 52 #[.pointer (some ⟨p, 0, none⟩)] w fun e w' =>
    e = .returned (.func (.func 54) #[] #[.pointer (some ⟨w.heap.size, 0, none⟩)]) ∧ w.alloc (.cells #[.pointer (some ⟨p, 0, none⟩)] 63) = w' := by
  go_enter Try.func52, Try.ntmps52
  go_wp2_with fail
  go_ret
  exact ⟨rfl, rfl⟩
end Go.Proofs.Yticilaoibjbgfaa.Op

set_option linter.unusedSimpArgs false
set_option linter.unusedVariables false
namespace Go.Proofs.Yticilaoibjbgfaa.Op
open Go.RowKit Go.Proofs.YticilaoibjbgfaaW.PrintWords Go.Proofs.YticilaoibjbgfaaW.PrintLast Go.Proofs.YticilaoibjbgfaaW.PrintMore Go.Proofs.Yticilaoibjbgfaa.POpenRaws Go.Proofs.Yticilaoibjbgfaa.Lib Go.Proofs.Yticilaoibjbgfaa.High Go.Proofs.Yticilaoibjbgfaa.Lex
theorem test1 (q : Nat) (A : Option Addr) (c : Nat) (b : List Int) (w : World) (hq : w.cell? ⟨q, 0, none⟩ = some (.slice A b.length c)) (hx : Kd.C KB w A b.length b) (hl : 0 < b.length) :
    Calls Try.prog 35 #[.pointer (some ⟨q, 0, none⟩)] w fun e w' => e = .returned (.bool (b.getD 0 0 == 4)) ∧ w = w' := by
  obtain ⟨g, o, rfl, h0⟩ := C_byte hx 0 hl
  have hlI : (0 : Int) < (b.length : Int) := by omega
  simp only [Nat.add_zero] at h0
  obtain ⟨x, hxe⟩ : ∃ x, b.getD 0 0 = x := ⟨_, rfl⟩
  rw [hxe] at h0 ⊢
  clear hx hxe
  go_enter Try.func35, Try.ntmps35
  go_wp2_with fail
  go_ret
  exact ⟨rfl, rfl⟩
theorem test2 (q p h : Nat) (w : World) (hq : w.cell? ⟨q, 0, none⟩ = some (.pointer (some ⟨p, 0, none⟩))) (hh : w.cell? ⟨p, 2, none⟩ = some (.int .u16 h)) :
    Calls Try.prog 36 #[.pointer (some ⟨q, 0, none⟩)] w fun e w' => e = .returned (.bool (decide (h ≠ 1 ∧ h ≠ 2))) ∧ w = w' := by
  cases h0 : ((h : Int) == 0) <;> cases h2 : decide ((2 : Int) < (h : Int)) <;>
  · have HE : Aside0 (decide (h ≠ 1 ∧ h ≠ 2) = _) := ⟨show _ = (((h : Int) == 0) || decide ((2 : Int) < (h : Int))) by
      rw [Bool.eq_iff_iff]
      simp only [Bool.or_eq_true, decide_eq_true_eq, beq_iff_eq]
      omega⟩
    rw [h0, h2] at HE
    go_enter Try.func36, Try.ntmps36
    go_wp2_with fail
    go_ret
    exact ⟨by rw [HE.out]; rfl, rfl⟩
theorem test3 (q p i : Nat) (w : World) (hq : w.cell? ⟨q, 0, none⟩ = some (.pointer (some ⟨p, 0, none⟩))) (hh : w.cell? ⟨p, 3, none⟩ = some (.int .u32 i)) :
    Calls Try.prog 37 #[.pointer (some ⟨q, 0, none⟩)] w fun e w' => e = .returned (.bool ((i : Int) != 0)) ∧ w = w' := by
  go_enter Try.func37, Try.ntmps37
  go_wp2_with fail
  go_ret
  exact ⟨rfl, rfl⟩
end Go.Proofs.Yticilaoibjbgfaa.Op

set_option linter.unusedSimpArgs false
set_option linter.unusedVariables false
namespace Go.Proofs.Yticilaoibjbgfaa.Op
open Go.RowKit Go.Proofs.YticilaoibjbgfaaW.PrintWords Go.Proofs.YticilaoibjbgfaaW.PrintLast Go.Proofs.YticilaoibjbgfaaW.PrintMore Go.Proofs.Yticilaoibjbgfaa.POpenRaws Go.Proofs.Yticilaoibjbgfaa.Lib Go.Proofs.Yticilaoibjbgfaa.High Go.Proofs.Yticilaoibjbgfaa.Lex Go.Proofs.Yticilaoibjbgfaa.LexW
attribute [local go_sem] Oper.semAt_some
attribute [local go_sem ↓ high] sliced_adv
/-- a capability with its body's value -/
abbrev CV := S54 × Value
abbrev encC (x : CV) : Array Value := #[.agg #[.int .u8 x.1.f0, x.2]]
def lenOf : Value → Nat
  | .slice _ n _ => n
  | _ => 0
theorem byt_drop {b : List Int} (h : Byt b) (k : Nat) : Byt (b.drop k) := fun x hx => h x (List.mem_of_mem_drop hx)
theorem byt_take {b : List Int} (h : Byt b) (k : Nat) : Byt (b.take k) := fun x hx => h x (List.mem_of_mem_take hx)
theorem byt_at {b : List Int} (h : Byt b) {k : Nat} (hk : k < b.length) : 0 ≤ b.getD k 0 ∧ b.getD k 0 ≤ 255 := h _ (getD_mem b k 0 hk)
set_option maxRecDepth 100000 in
set_option maxHeartbeats 4000000 in
theorem each_seq {n : Nat} (hn : 2 ≤ n) (base p h : Nat) (S : Nat → Prop) (A : Option Addr) (c : Nat) (b : List Int) (w : World) (hb : base ≤ w.heap.size) (hhb : h < base) (hne : ¬ S h) (h12 : 12 ≤ b.length) (hlen : b.length ≤ 1000000) (hcap : b.length ≤ c) (hw : Byt b)
    (hh : w.cell? ⟨h, 0, none⟩ = some (.pointer (some ⟨p, 0, none⟩))) (hp : w.cell? ⟨p, 0, none⟩ = some (.slice A b.length c)) (hC : Kd.C KB w A b.length b) (hA : ∀ a, A = some a → a.block < base ∧ ¬ S a.block) :
    SeqY Fence.wide n Try.prog 54 #[.pointer (some ⟨h, 0, none⟩)] encC (fun x W => OB (w.heap.size + 2) W x.2 x.1.f1 ∧ WfC x.1) (fun A B => But base S A B) (fun _ A B => Below A.heap.size A B)
      (fun xs _ => xs.map (·.1) = eachL (b.drop 12)) (fun pre _ => ∃ r, eachL (b.drop 12) = pre.map (·.1) ++ r) 0 b.length w := by
  intro l J Jx W hW hW2 hJ hJx hY h0
  have c0 := pw_cell_below hW hh
  have c1 := pw_cell_below hW hp
  have hCW := Kd.C_below hC hW
  have hbW : base ≤ W.heap.size := Nat.le_trans hb hW.size
  have HC := Aside0.mk hCW
  have HY := Aside0.mk hY
  have HJ := Aside0.mk hJ
  have HJx := Aside0.mk hJx
  have HWB := Aside0.mk hw
  have HA := Aside0.mk hA
  have hmax := hC.2.1
  have g12 : ((12 : Nat) : Int) ≤ (b.length : Int) := by omega
  have gcap : (b.length : Int) ≤ (c : Int) := by omega
  clear hY hJ hJx hCW hC hW hh hp hw hA hb
  refine callsIn_of_wp Try.func54 rfl trivial ?_ rfl
  simp only [Try.ntmps54, List.size_toArray, List.length_cons, List.length_nil, Nat.reduceAdd, Nat.reduceSub, Array.replicate_succ, Array.replicate_zero, List.push_toArray, List.append_toArray, List.nil_append, List.cons_append]
  refine (wpIn_wide (n := n)).2 (wp_scope_straight ((wpIn_wide (n := n)).1 ?_))
  gi_wp2
  apply wpIn_label
  gi_wp2
  gi_loopw [3] (fun s3 wr => ∃ (pre : List CV) (AL : Option Addr) (L : List Int) (cl : Nat), s3 = .slice AL L.length cl ∧ L.length ≤ cl ∧ pre.length + L.length + 1 ≤ b.length ∧ J pre wr ∧ Aside0 (Kd.C KB wr AL L.length L) ∧ Aside0 (∀ a, AL = some a → a.block < base ∧ ¬ S a.block) ∧ Aside0 (eachL (b.drop 12) = pre.map (·.1) ++ eachL L) ∧ Aside0 (Byt L) ∧ W.heap.size ≤ wr.heap.size) (fun s3 _ => lenOf s3)
  case atStart =>
    have hl : (b.drop 12).length = b.length - 12 := List.length_drop
    refine ⟨[], advA A 12 c 1, b.drop 12, c - 12, by rw [hl], by omega, by simp; omega, h0, ⟨?_⟩, ⟨fun a ha => ?_⟩, ⟨by simp⟩, ⟨byt_drop HWB.out 12⟩, Nat.le_refl _⟩
    · rw [hl]
      exact C_from (by decide) HC.out hcap 12 h12 rfl
    · obtain ⟨a0, e, h2⟩ := advA_block ha
      rw [← h2]
      exact HA.out a0 e
  case round =>
    obtain ⟨pre, AL, L, cl, rfl, hcl, hpl, hJs, HCL, HAL, HE, HB, hsz⟩ := hrel
    by_cases hz : L.length = 0
    · have hzI : ¬ ((0 : Int) < (L.length : Int)) := by omega
      gi_wp2
      go_end0
      exact ⟨⟨_, rfl⟩, .inl ⟨pre, by rw [HE.out, eachL_nil hz, List.append_nil], hJs⟩⟩
    · have hzI : ((0 : Int) < (L.length : Int)) := by omega
      have hyz := HY.out pre (z54, .slice none 0 0) wr hJs ⟨OB.nil _ _, ⟨by decide, by decide⟩, fun x hx => by cases hx⟩ (by omega) hsz
      by_cases hone : L.length < 2
      · have hI : (L.length : Int) < 2 := by omega
        have HEB := Aside0.mk (eachL_bad hz (.inl hone))
        obtain ⟨fn, tmps, assign, body, hy, hR⟩ := hyz
        have hy : (Instr.yield l #[.agg #[.int .u8 0, .slice none 0 0]]).run Try.prog wr = .ok (.round l fn tmps assign body) wr := hy
        gi_wp2
        refine ⟨fun hd => (by cases hd), ?_⟩
        refine hR.mono ?_
        rintro e W3 (⟨rfl, hJ3, hk3⟩ | ⟨rfl, hJx3, hk3⟩)
        · gi_wp2
          first | rw [Exit.noGoto_normal] | skip
          go_end0
          exact ⟨⟨_, rfl⟩, .inl ⟨_, by rw [HE.out, HEB.out]; simp, hJ3⟩⟩
        · gi_wp2
          first | rw [Exit.noGoto_normal] | skip
          go_end0
          exact ⟨⟨_, rfl⟩, .inr ⟨_, ⟨[], by rw [HE.out, HEB.out]; simp⟩, hJx3⟩⟩
      · have hoI : ¬ ((L.length : Int) < 2) := by omega
        obtain ⟨g, o, rfl, q0⟩ := C_byte HCL.out 0 (by omega)
        obtain ⟨g', o', e', q1⟩ := C_byte HCL.out 1 (by omega)
        injection e' with e'
        injection e' with e1 e2
        subst e1 e2
        obtain ⟨x0, hx0⟩ : ∃ x, L.getD 0 0 = x := ⟨_, rfl⟩
        have hyb := byt_at HB.out (k := 1) (by omega)
        obtain ⟨y, hy1⟩ : ∃ y : Nat, L.getD 1 0 = (y : Int) := ⟨(L.getD 1 0).toNat, by omega⟩
        have hxb := byt_at HB.out (k := 0) (by omega)
        rw [hx0] at q0 hxb
        rw [hy1] at q1 hyb
        have HX0 := Aside0.mk hx0
        have HY1 := Aside0.mk hy1
        have hyy : (y : Int) ≤ 255 := hyb.2
        clear hx0 hy1 hyb
        simp only [Nat.add_zero] at q0
        cases hq : decide ((L.length : Int) < 2 + (y : Int)) with
        | true =>
          have HEB := Aside0.mk (eachL_bad hz (.inr (by rw [HY1.out]; exact of_decide_eq_true hq)))
          obtain ⟨fn, tmps, assign, body, hy, hR⟩ := hyz
          have hy : (Instr.yield l #[.agg #[.int .u8 0, .slice none 0 0]]).run Try.prog wr = .ok (.round l fn tmps assign body) wr := hy
          gi_wp2
          refine ⟨fun hd => (by cases hd), ?_⟩
          refine hR.mono ?_
          rintro e W3 (⟨rfl, hJ3, hk3⟩ | ⟨rfl, hJx3, hk3⟩)
          · gi_wp2
            first | rw [Exit.noGoto_normal] | skip
            go_end0
            exact ⟨⟨_, rfl⟩, .inl ⟨_, by rw [HE.out, HEB.out]; simp, hJ3⟩⟩
          · gi_wp2
            first | rw [Exit.noGoto_normal] | skip
            go_end0
            exact ⟨⟨_, rfl⟩, .inr ⟨_, ⟨[], by rw [HE.out, HEB.out]; simp⟩, hJx3⟩⟩
        | false =>
          have hn2 : 2 + y ≤ L.length := by have := of_decide_eq_false hq; omega
          clear hyz
          gi_wp2
          have hc1 : 2 + (y : Int) ≤ (cl : Int) := by omega
          have hmx : (2 : Int) ≤ 2 + (y : Int) := by omega
          have hT : (2 + (y : Int)).toNat = 2 + y := by omega
          have hLL : 2 + (y : Int) ≤ (L.length : Int) := by omega
          have hge : (0 : Int) ≤ 2 + (y : Int) := by omega
          obtain ⟨AS, hAS⟩ : ∃ AS, advA (some ⟨g, o, none⟩) 2 cl 1 = AS := ⟨_, rfl⟩
          obtain ⟨AR, hAR⟩ : ∃ AS, advA (some ⟨g, o, none⟩) (2 + y) cl 1 = AS := ⟨_, rfl⟩
          obtain ⟨bd, hbd⟩ : ∃ bd, (L.take (2 + y)).drop 2 = bd := ⟨_, rfl⟩
          have hbl : bd.length = y := by rw [← hbd, List.length_drop, List.length_take]; omega
          have hCS := C_adv (by decide) HCL.out hcl 2 (2 + y) (by omega) hn2 (s := 1) rfl
          have hCR := C_from (by decide) HCL.out hcl (2 + y) hn2 (s := 1) rfl
          rw [hAS, hbd, show 2 + y - 2 = bd.length by omega] at hCS
          rw [hAR] at hCR
          have hAR2 : ∀ a, AR = some a → a.block < base ∧ ¬ S a.block := fun a ha => by
            rw [← hAR] at ha
            obtain ⟨a0, e, h2⟩ := advA_block ha
            rw [← h2]
            exact HAL.out a0 e
          have hlt := World.block_lt_of_cell? wr _ q0
          have HCLN := Aside0.mk (clone AS (cl - 2) bd wr.drew (Kd.C_below hCS (below_drew (Below.refl _ _))) (by omega))
          rw [hbl] at HCLN
          have HCR := Aside0.mk hCR
          have HAR2 := Aside0.mk hAR2
          have HBL := Aside0.mk hbl
          have HBD := Aside0.mk hbd
          have hEO := eachL_one hz (by rw [HY1.out]; omega)
          rw [HX0.out, HY1.out, show (2 + (y : Int).toNat) = 2 + y by omega, hbd] at hEO
          have HEO := Aside0.mk hEO
          have HWF := Aside0.mk (show WfC ⟨x0, bd⟩ from ⟨hxb, by show Byt bd; rw [← hbd]; exact byt_drop (byt_take HB.out _) _⟩)
          have HBR := Aside0.mk (byt_drop HB.out (2 + y))
          clear hbl hbd hCS hCR hAR2 hEO hxb
          refine regionWN [(0, .p), (1, .p), (2, .p), (4, .p), (5, .p), (6, .p), (3, .t), (7, .o), (8, .p), (9, .q), (10, .p)] (fun U => U.cell? ⟨g, o, none⟩ = some (.int .u8 x0)) (by kernel_rfl) (by kernel_rfl) (q0) (fun hHeld => ?_)
          iterate 6 (refine lw_p rfl rfl rfl (by intro w'; go_simp; with_reducible rfl) (by simp only [Act.put, List.setIfInBounds_toArray, List.set_cons_zero, List.set_cons_succ, i64_w, i32_w]; rfl) ?_)
          (refine lw_t rfl rfl rfl (by rintro w' s0; go_simp; with_reducible rfl) (by simp only [Act.put, List.setIfInBounds_toArray, List.set_cons_zero, List.set_cons_succ, i64_w, i32_w]; rfl) ?_)
          refine lw_o rfl ?_
          gi_wp2
          refine ⟨trivial, fun hd => (by cases hd), ?_⟩
          refine (callsIn_wide.2 HCLN.out).mono ?_
          rintro e w2 ⟨v, rfl, ho, hb2⟩
          have B2 := Aside0.mk ((below_drew (Below.refl wr.heap.size wr)).trans hb2)
          obtain ⟨Av, cv, e, _, _⟩ := ho.reads
          rw [HBL.out] at e
          subst e
          have hJ2 := HJ.out _ _ _ hJs B2.out
          obtain ⟨fn, tmps, assign, body, hy, hR⟩ := HY.out pre (⟨x0, bd⟩, .slice Av y cv) w2 hJ2 ⟨ho.lower (Nat.le_trans hW2 hsz), HWF.out⟩ (by omega) (Nat.le_trans hsz B2.out.size)
          have hy : (Instr.yield l #[.agg #[.int .u8 x0, .slice Av y cv]]).run Try.prog w2 = .ok (.round l fn tmps assign body) w2 := hy
          clear ho hb2
          gi_wp2
          refine lw_end (by first | (simp only [Act.put, List.setIfInBounds_toArray, List.set_cons_zero, List.set_cons_succ, i64_w, i32_w]; rfl) | rfl) (pw_cell_below B2.out q0) (fun hHeld => ?_)
          (refine lw_p rfl rfl rfl (by intro w'; go_simp; with_reducible rfl) (by simp only [Act.put, List.setIfInBounds_toArray, List.set_cons_zero, List.set_cons_succ, i64_w, i32_w]; rfl) ?_)
          refine lw_q rfl ?_
          gi_wp2
          refine ⟨fun hd => (by cases hd), ?_⟩
          refine hR.mono ?_
          have HJ3 : Aside0 (∀ (e : Ending) (W3 : World), (e = .returned (.bool true) ∧ J (pre ++ [(⟨x0, bd⟩, .slice Av y cv)]) W3 ∧ But base S w2 W3 ∨ e = .returned (.bool false) ∧ Jx (pre ++ [(⟨x0, bd⟩, .slice Av y cv)]) W3 ∧ But base S w2 W3) → ∃ t : Bool, e = .returned (.bool t) ∧ But base S w2 W3 ∧ ((t = true ∧ J (pre ++ [(⟨x0, bd⟩, .slice Av y cv)]) W3) ∨ (t = false ∧ Jx (pre ++ [(⟨x0, bd⟩, .slice Av y cv)]) W3))) := ⟨by
            rintro e W3 (⟨rfl, h1, h2⟩ | ⟨rfl, h1, h2⟩)
            · exact ⟨true, rfl, h2, .inl ⟨rfl, h1⟩⟩
            · exact ⟨false, rfl, h2, .inr ⟨rfl, h1⟩⟩⟩
          intro e W3 hor
          obtain ⟨t, rfl, hk3, hj3⟩ := HJ3.out e W3 hor
          clear hor
          gi_wp2
          refine lw_endq (by first | (simp only [Act.put, List.setIfInBounds_toArray, List.set_cons_zero, List.set_cons_succ, i64_w, i32_w]; rfl) | rfl) ?_
          (refine lw_p rfl rfl rfl (by intro w'; go_simp; with_reducible rfl) (by simp only [Act.put, List.setIfInBounds_toArray, List.set_cons_zero, List.set_cons_succ, i64_w, i32_w]; rfl) ?_)
          refine lw_nilN ?_
          rcases hj3 with ⟨rfl, hJ4⟩ | ⟨rfl, hJx4⟩
          · gi_wp2
            go_roundw
            case rel =>
              have hdl : (L.drop (2 + y)).length = L.length - (2 + y) := List.length_drop
              refine ⟨pre ++ [(⟨x0, bd⟩, .slice Av y cv)], AR, L.drop (2 + y), cl - (2 + y), by rw [hdl], by omega, by rw [hdl]; simp; omega, hJ4, ⟨?_⟩, HAR2, ⟨by rw [HE.out, HEO.out]; simp⟩, HBR, Nat.le_trans hsz (Nat.le_trans B2.out.size hk3.size)⟩
              rw [hdl]
              have h1 := HCR.out
              rw [← hdl] at h1 ⊢
              refine C_same h1 (fun a ha => ?_)
              have h2 := HAR2.out a ha
              exact (hk3.block _ h2.1 h2.2).trans (B2.out.block _ (by omega))
            case measure => simp only [lenOf]; omega
          · gi_wp2
            first | rw [Exit.noGoto_normal] | skip
            go_end0
            exact ⟨⟨_, rfl⟩, .inr ⟨_, ⟨eachL (L.drop (2 + y)), by rw [HE.out, HEO.out]; simp⟩, hJx4⟩⟩
end Go.Proofs.Yticilaoibjbgfaa.Op

set_option linter.unusedSimpArgs false
set_option linter.unusedVariables false
namespace Go.Proofs.Yticilaoibjbgfaa.Op
open Go.RowKit Go.Proofs.YticilaoibjbgfaaW.PrintWords Go.Proofs.YticilaoibjbgfaaW.PrintLast Go.Proofs.YticilaoibjbgfaaW.PrintMore Go.Proofs.Yticilaoibjbgfaa.POpenRaws Go.Proofs.Yticilaoibjbgfaa.Lib Go.Proofs.Yticilaoibjbgfaa.High Go.Proofs.Yticilaoibjbgfaa.Lex Go.Proofs.Yticilaoibjbgfaa.LexW
attribute [local go_sem] Oper.semAt_some
attribute [local go_sem ↓ high] sliced_adv
/-- the reader's cells -/
abbrev rdr (B : Value) (a h i : Nat) (caps l : Value) : List Value := [B, .int .u32 a, .int .u16 h, .int .u32 i, caps, l]
/-- rows of capabilities whose every part lies from base on -/
abbrev NB (base : Nat) (w : World) (v : Value) (xs : List S54) : Prop := Kd.N k54 54 w base (fun k => base ≤ k) v xs
def ParR (p : Nat) (B : Value) (a h i : Nat) (caps : Value) (l : List S54) (t : Bool) (w : World) (e : Ending) (w' : World) : Prop :=
  But w.heap.size (fun k => k = p) w w' ∧ e = .returned (.bool t) ∧ (t = true → ∃ v, Ob p w' (rdr B a h i caps v) ∧ NB w.heap.size w' v l)
theorem ParR_no {p : Nat} {B : Value} {a h i : Nat} {caps : Value} {l : List S54} {t : Bool} {w w' : World} (ht : t = false) (hb : But w.heap.size (fun k => k = p) w w') : ParR p B a h i caps l t w (.returned (.bool false)) w' := by
  subst ht
  exact ⟨hb, rfl, fun h => by cases h⟩
/-- a row of one capability, all of whose parts meet ok -/
theorem oneN {b : Nat} {w : World} {u : Value} {ok : Nat → Prop} (x : S54) (hu : Kd.R KB 5 w b ok u x.f1) (hb : b ≤ w.heap.size) (hok : ok w.heap.size) : Kd.N k54 54 (w.alloc (.cells #[.int .u8 x.f0, u] 54)) b ok (.slice (some ⟨w.heap.size, 0, none⟩) 1 1) [x] :=
  Kd.R_N (show Kd.R k54 54 (w.alloc (.cells #[.int .u8 x.f0, u] 54)) b ok (.slice (some ⟨w.heap.size, 0, none⟩) 1 1) [x] from
    ⟨fun k hk => by rw [← (Option.some.inj hk : w.heap.size = k)]; exact hok, OwnRow.lit (ps := [x]) (inner := [.int .u8 x.f0, u]) w b ⟨rfl, fun j p hj => by
      cases j with
      | zero =>
        have : p = x := by simpa using hj.symm
        subst this
        exact k54_mkM _ _ _ _ (Kd.R_below (Kd.R_mono (Kd.R_bound hu) (fun k hk => ⟨hk.1, fun e => by
          have h1 := hk.2.2.1
          have e2 : k = w.heap.size := Option.some.inj e
          omega⟩)) (below_alloc (Below.refl _ _) _))
      | succ j => simp at hj⟩ hb (by simp)⟩)
section
variable {ops : Array Oper} {rest : List Oper} {o : Oper} {a : Act} {Q : Exit → Act → World → Prop}
theorem ap_capsB {W : World} (b : Nat) (s x : Operand) (hgd : o.guard = none)
    (ho : o.op = .call { callee := .builtin .append, args := #[s, x], argTypes := #[24, 24] })
    {v : Value} {xs ys : List S54} {A : Option Addr} {m c : Nat} {okp : Nat → Prop} (HO : NB b W v xs) (HR : Kd.F k54 W okp A m ys) (hokp : ∀ k, okp k → b ≤ k ∧ some k ≠ v.ownBlock)
    (hs : a.eval s = v) (hx : a.eval x = .slice A m c) (hb : b ≤ W.heap.size) (hl : xs.length + m ≤ 1000000)
    (h : ∀ v1 w1, NB b w1 v1 (xs ++ ys) → Below b W w1 → W.grownBy w1 v.ownBlock → wpList Try.prog ops Q rest (a.put o.dst v1) w1) :
    wpList Try.prog ops Q (o :: rest) a W :=
  Kd.N_append_rows k54 (w0 := W) b hgd s x 24 54 (.agg #[.int .u8 0, .slice none 0 0]) 32 ho Try.underlying24 info54 rfl (by decide) (by decide) v xs ys A m c (fun k => b ≤ k) okp hs hx HO HR hokp (fun k hk => Nat.le_trans hb hk) (Below.refl _ _) hb (by omega) (fun v1 w1 h1 h2 h3 _ => h v1 w1 h1 h2 h3)
end
theorem eachF_len : ∀ (d : Nat) (b : List Int), (eachF d b).length ≤ b.length
  | 0, b => Nat.zero_le _
  | d + 1, b => by
    rw [eachF]
    split
    · exact Nat.zero_le _
    · split
      · simp only [List.length_singleton]
        omega
      · rw [List.length_cons]
        have := eachF_len d (b.drop (2 + (b.getD 1 0).toNat))
        rw [List.length_drop] at this
        omega
def bad1 (xs : List CV) : Prop := ∃ x ∈ xs, okB x.1 = false
def all1 (xs : List CV) : Prop := ∀ x ∈ xs, okB x.1 = true
theorem loadB {w : World} {g : Nat} {t : Bool} (h : w.cell? ⟨g, 0, none⟩ = some (.bool t)) : (loadVar 4 ⟨g, 0, none⟩).run Try.prog w = .ok (.bool t) w := by go_simp
set_option maxRecDepth 100000 in
set_option maxHeartbeats 8000000 in
theorem paramsC (p a h i : Nat) (A : Option Addr) (c : Nat) (b : List Int) (caps : Value) (w : World) (hob : Ob p w (rdr (.slice A b.length c) a h i caps (.slice none 0 0))) (hC : Kd.C KB w A b.length b) (hcap : b.length ≤ c) (hA : ∀ a, A = some a → a.block ≠ p) (h10 : 10 ≤ b.length) (hlen : b.length ≤ 1000000) (hw : Byt b) :
    Calls Try.prog 38 #[.pointer (some ⟨p, 0, none⟩)] w (ParR p (.slice A b.length c) a h i caps (eachL (b.drop 12)) (headB b && okL (eachL (b.drop 12))) w) := by
  obtain ⟨s, hs⟩ : ∃ s, w.heap.size = s := ⟨_, rfl⟩
  have hp := hob.lt
  rw [hs] at hp
  have hob1 := Ob.new w [.pointer (some ⟨p, 0, none⟩)] _ rfl 63
  have hb1 := below_alloc (Below.refl w.heap.size w) (.cells #[.pointer (some ⟨p, 0, none⟩)] 63)
  obtain ⟨w1, hw1⟩ : ∃ W, w.alloc (.cells #[.pointer (some ⟨p, 0, none⟩)] 63) = W := ⟨_, rfl⟩
  have hs1 : w1.heap.size = s + 1 := by rw [← hw1, World.size_alloc, hs]
  rw [hw1] at hob1 hb1
  rw [hs] at hob1 hb1
  have hob2 := Ob.new w1 [.bool false] _ rfl 4
  have hb2 := below_alloc (Below.refl w1.heap.size w1) (.cells #[.bool false] 4)
  obtain ⟨V, hV⟩ : ∃ W, w1.alloc (.cells #[.bool false] 4) = W := ⟨_, rfl⟩
  have hsV : V.heap.size = s + 1 + 1 := by rw [← hV, World.size_alloc, hs1]
  rw [hV, hs1] at hob2 hb2
  have hbV := hb1.trans (hb2.mono (by omega))
  have obx := hob1.below hb2 (by omega)
  have obr := hob2
  have obp := hob.below hbV hp
  have hCV := Kd.C_below hC (by rw [hs]; exact hbV)
  have cx := (obx 0 _ rfl).1
  obtain ⟨cr, fr⟩ := obr 0 _ rfl
  have cb := (obp 0 _ rfl).1
  obtain ⟨g, o, rfl, q9⟩ := C_byte hCV 9 (by omega)
  obtain ⟨x9, hx9⟩ : ∃ x, b.getD 9 0 = x := ⟨_, rfl⟩
  rw [hx9] at q9
  have hb9 := byt_at hw (k := 9) (by omega)
  rw [hx9] at hb9
  have hgs : g < s := by
    obtain ⟨g', o', e', q⟩ := C_byte hC 9 (by omega)
    injection e' with e'
    injection e' with e1 e2
    subst e1
    rw [← hs]
    exact World.block_lt_of_cell? w _ q
  have hgp : g ≠ p := hA _ rfl
  have HV := Aside0.mk hV
  have HW1 := Aside0.mk hw1
  have HBV := Aside0.mk hbV
  have HOX := Aside0.mk obx
  have HOR := Aside0.mk obr
  have HOP := Aside0.mk obp
  have HC := Aside0.mk hCV
  have HS := Aside0.mk hs
  have HSV := Aside0.mk hsV
  have HS1 := Aside0.mk hs1
  have HX9 := Aside0.mk hx9
  have HWB := Aside0.mk hw
  have HA := Aside0.mk hA
  have hmax := hC.2.1
  have g10 : (9 : Int) < (b.length : Int) := by omega
  clear hbV obx obr obp hCV hsV hx9 hw hA hC hob hob1 hob2 hb1 hb2
  cases h9 : (x9 != (b.length : Int) - 10) with
  | true =>
    have HF : Aside0 (headB b = false) := ⟨by rw [headB, HX9.out]; simp at h9; simp [h9]⟩
    refine (callsIn_wide (n := 5)).1 ?_
    refine callsIn_of_wp_marks Try.func38 rfl trivial ?_ rfl
    simp only [Try.ntmps38, List.size_toArray, List.length_cons, List.length_nil, Nat.reduceAdd, Nat.reduceSub, Array.replicate_succ, Array.replicate_zero, List.push_toArray, List.append_toArray, List.nil_append, List.cons_append]
    gi_wp2_with fail
    refine ⟨_, results_cell rfl _ _ (s + 1) _ rfl (loadB (World.cell?_setCell_same V _ _ cr)), ParR_no (by rw [HF.out]; rfl) ?_⟩
    rw [HS.out]
    exact (But.of HBV.out (Nat.le_refl _)).setCell (p := ⟨s + 1, 0, none⟩) (.inl (by show s ≤ s + 1; omega)) _
  | false =>
    by_cases hl : b.length < 12
    · have HF : Aside0 (headB b = false) := ⟨by rw [headB, decide_eq_false (show ¬ 12 ≤ b.length by omega)]; simp⟩
      have hlI : (b.length : Int) < 12 := by omega
      refine (callsIn_wide (n := 5)).1 ?_
      refine callsIn_of_wp_marks Try.func38 rfl trivial ?_ rfl
      simp only [Try.ntmps38, List.size_toArray, List.length_cons, List.length_nil, Nat.reduceAdd, Nat.reduceSub, Array.replicate_succ, Array.replicate_zero, List.push_toArray, List.append_toArray, List.nil_append, List.cons_append]
      gi_wp2_with fail
      refine ⟨_, results_cell rfl _ _ (s + 1) _ rfl (loadB (World.cell?_setCell_same V _ _ cr)), ParR_no (by rw [HF.out]; rfl) ?_⟩
      rw [HS.out]
      exact (But.of HBV.out (Nat.le_refl _)).setCell (p := ⟨s + 1, 0, none⟩) (.inl (by show s ≤ s + 1; omega)) _
    · have hlI : ¬ ((b.length : Int) < 12) := by omega
      obtain ⟨g', o', e', q10⟩ := C_byte HC.out 10 (by omega)
      injection e' with e'
      injection e' with e1 e2
      subst e1 e2
      obtain ⟨g', o', e', q11⟩ := C_byte HC.out 11 (by omega)
      injection e' with e'
      injection e' with e1 e2
      subst e1 e2
      obtain ⟨x10, hx10⟩ : ∃ x, b.getD 10 0 = x := ⟨_, rfl⟩
      obtain ⟨x11, hx11⟩ : ∃ x, b.getD 11 0 = x := ⟨_, rfl⟩
      have hb10 := byt_at HWB.out (k := 10) (by omega)
      have hb11 := byt_at HWB.out (k := 11) (by omega)
      rw [hx10] at q10 hb10
      rw [hx11] at q11 hb11
      have HX10 := Aside0.mk hx10
      have HX11 := Aside0.mk hx11
      have g11 : (10 : Int) < (b.length : Int) := by omega
      have g12 : (11 : Int) < (b.length : Int) := by omega
      clear hx10 hx11
      cases h10b : (x10 != 2) with
      | true =>
        have HF : Aside0 (headB b = false) := ⟨by rw [headB, HX10.out]; simp at h10b; simp [h10b]⟩
        refine (callsIn_wide (n := 5)).1 ?_
        refine callsIn_of_wp_marks Try.func38 rfl trivial ?_ rfl
        simp only [Try.ntmps38, List.size_toArray, List.length_cons, List.length_nil, Nat.reduceAdd, Nat.reduceSub, Array.replicate_succ, Array.replicate_zero, List.push_toArray, List.append_toArray, List.nil_append, List.cons_append]
        gi_wp2_with fail
        refine ⟨_, results_cell rfl _ _ (s + 1) _ rfl (loadB (World.cell?_setCell_same V _ _ cr)), ParR_no (by rw [HF.out]; rfl) ?_⟩
        rw [HS.out]
        exact (But.of HBV.out (Nat.le_refl _)).setCell (p := ⟨s + 1, 0, none⟩) (.inl (by show s ≤ s + 1; omega)) _
      | false =>
        cases h11b : (x11 != (b.length : Int) - 12) with
        | true =>
          have HF : Aside0 (headB b = false) := ⟨by rw [headB, HX11.out]; simp at h11b; simp [h11b]⟩
          refine (callsIn_wide (n := 5)).1 ?_
          refine callsIn_of_wp_marks Try.func38 rfl trivial ?_ rfl
          simp only [Try.ntmps38, List.size_toArray, List.length_cons, List.length_nil, Nat.reduceAdd, Nat.reduceSub, Array.replicate_succ, Array.replicate_zero, List.push_toArray, List.append_toArray, List.nil_append, List.cons_append]
          gi_wp2_with fail
          refine ⟨_, results_cell rfl _ _ (s + 1) _ rfl (loadB (World.cell?_setCell_same V _ _ cr)), ParR_no (by rw [HF.out]; rfl) ?_⟩
          rw [HS.out]
          exact (But.of HBV.out (Nat.le_refl _)).setCell (p := ⟨s + 1, 0, none⟩) (.inl (by show s ≤ s + 1; omega)) _
        | false =>
          have HF : Aside0 (headB b = true) := ⟨by rw [headB, HX9.out, HX10.out, HX11.out, decide_eq_true (show 12 ≤ b.length by omega)]; simp at h9 h10b h11b; simp [h9, h10b, h11b]⟩
          refine (callsIn_wide (n := 5)).1 ?_
          refine callsIn_of_wp_marks Try.func38 rfl trivial ?_ rfl
          simp only [Try.ntmps38, List.size_toArray, List.length_cons, List.length_nil, Nat.reduceAdd, Nat.reduceSub, Array.replicate_succ, Array.replicate_zero, List.push_toArray, List.append_toArray, List.nil_append, List.cons_append]
          gi_wp2_with fail
          refine ⟨trivial, ?_⟩
          refine (callsIn_wide.2 (eachC p _)).mono ?_
          rintro e w3 ⟨rfl, hw3⟩
          rw [HSV.out]
          obtain ⟨d, hd⟩ : ∃ d, d = s + 1 + 1 := ⟨_, rfl⟩
          have ho3 := Ob.new V [.pointer (some ⟨p, 0, none⟩)] _ rfl 63
          have hb3 := below_alloc (Below.refl V.heap.size V) (.cells #[.pointer (some ⟨p, 0, none⟩)] 63)
          have hs3 : w3.heap.size = d + 1 := by rw [← hw3, World.size_alloc, HSV.out, hd]
          rw [hw3, HSV.out, ← hd] at ho3
          rw [hw3, HSV.out, ← hd] at hb3
          rw [← hd]
          have HD := Aside0.mk hd
          have HS3 := Aside0.mk hs3
          have HB3 := Aside0.mk hb3
          have HBS := Aside0.mk (HBV.out.trans (hb3.mono (by omega)))
          have O3P := Aside0.mk (HOP.out.below hb3 (by omega))
          have HC3 := Aside0.mk (Kd.C_below HC.out (by rw [HSV.out, ← hd]; exact hb3))
          have HSQ := Aside0.mk (each_seq (n := 4) (by decide) w3.heap.size p d (fun k => k = p ∨ k = s + 1) (some ⟨g, o, none⟩) c b w3 (Nat.le_refl _) (by omega) (by intro e; omega) (by omega) hlen hcap HWB.out (ho3 0 _ rfl).1 (O3P.out 0 _ rfl).1 HC3.out (fun a ha => by have := Option.some.inj ha; subst this; exact ⟨by show g < w3.heap.size; omega, fun e => by rcases e with e | e; exact hgp e; have e : g = s + 1 := e; omega⟩))
          clear ho3 hb3 hs3 hw3 hd
          gi_wp2_with fail
          have hd2 : w3.heap.size = s + 1 + 1 + 1 := by rw [HS3.out, HD.out]
          have HD2 := Aside0.mk hd2
          refine rangeYX (F := Fence.wide) rfl (by decide) (gf := 54) (lb := #[.pointer (some ⟨d, 0, none⟩)]) rfl trivial (enters_of Try.func54 (by kernel_rfl) rfl) HSQ.out
            (fun h A B hk k o hkh hA ho => (hk.block k (Array.getElem?_eq_some_iff.1 hA).1).trans hA) But.trans (fun W o o' hl ho => But.turn (But.refl _ _ W) (by omega) o') (fun _ => rfl)
            (fun xs W => (∃ v, Ob p W (rdr (.slice (some ⟨g, o, none⟩) b.length c) a h i caps v) ∧ NB (s + 5) W v (xs.map (·.1))) ∧ Ob s W [.pointer (some ⟨p, 0, none⟩)] ∧ Ob (s + 1) W [.bool false] ∧ But s (fun k => k = p) w W ∧ s + 5 ≤ W.heap.size ∧ all1 xs)
            (fun q xs W => q = .ret ∧ Ob (s + 1) W [.bool false] ∧ But s (fun k => k = p) w W ∧ bad1 xs)
            ?hI ?hIx ?tI ?tIx (fun _ _ _ _ h _ _ => h) (fun _ _ _ _ h _ _ => h) ?h0
            ?FR (fun cg x W => Ob cg W [.int .u8 x.1.f0, x.2] ∧ OB (s + 5) W x.2 x.1.f1 ∧ ∃ v, Ob p W (rdr (.slice (some ⟨g, o, none⟩) b.length c) a h i caps v) ∧ some cg ≠ v.ownBlock) ?tAx ?assign ?body ?done ?stop
          case hI =>
            rintro xs U W ⟨⟨v, b1, b2⟩, b3, b4, b5, b6, b7⟩ hk
            exact ⟨⟨v, b1.below hk b1.lt, Kd.N_below b2 hk⟩, b3.below hk b3.lt, b4.below hk b4.lt, b5.then hk (by omega), Nat.le_trans b6 hk.size, b7⟩
          case hIx =>
            rintro q xs U W ⟨b1, b2, b3, b4⟩ hk
            exact ⟨b1, b2.below hk b2.lt, b3.then hk (Nat.le_trans (by rw [← HS.out]; exact Nat.le_refl _) b3.size), b4⟩
          case tI =>
            rintro xs W o1 o' ⟨⟨v, b1, b2⟩, b3, b4, b5, b6, b7⟩ hl ho
            refine ⟨⟨v, b1.turn hl ho o', Kd.N_step b2 (fun k hk _ => ?_)⟩, b3.turn hl ho o', b4.turn hl ho o', b5.turn (by omega) o', by simp; exact b6, b7⟩
            exact World.putObj_heap_other (by omega)
          case tIx =>
            rintro q xs W o1 o' ⟨b1, b2, b3, b4⟩ hl ho
            exact ⟨b1, b2.turn hl ho o', b3.turn (by omega) o', b4⟩
          case h0 =>
            intro W hW hWs
            have h1 := HD.out
            have h2 := HS3.out
            have hz : Below s w W := HBS.out.trans (hW.mono (by omega))
            refine ⟨⟨_, O3P.out.below hW (by omega), Kd.N_nil _ _ _ _ _⟩, (HOX.out.below HB3.out (by omega)).below hW (by omega), (HOR.out.below HB3.out (by omega)).below hW (by omega), But.of hz (Nat.le_refl _), by omega, fun x hx => by cases hx⟩
          case tAx =>
            rintro cg x W o1 o' ⟨b1, b2, v, b3, b4⟩ hl ho
            exact ⟨b1.turn hl ho o', b2.turn hl ho o', v, b3.turn hl ho o', b4⟩
          case assign =>
            intro l pre x W K ⟨⟨v, b1, b2⟩, b3, b4, b5, b6, b7⟩ hY _ hK
            obtain ⟨hY1, hY2⟩ := hY
            rw [HD2.out] at hY1
            obtain ⟨cg, hcg⟩ : ∃ cg, W.heap.size = cg := ⟨_, rfl⟩
            have hst : (storeVar 54 ⟨W.heap.size, 0, none⟩ (.agg #[.int .u8 x.1.f0, x.2])).run Try.prog (W.alloc (.cells #[.int .u8 0, .slice none 0 0] 54)) = .ok () (W.alloc (.cells #[.int .u8 x.1.f0, x.2] 54)) := by
              obtain ⟨Av, cv, ev, _, _⟩ := hY1.reads
              rw [ev]
              exact run_storeVar_new W _ _ _ (by kernel_rfl) rfl (by simp [Value.oneCell'])
            have hbn := below_alloc (Below.refl W.heap.size W) (.cells #[.int .u8 x.1.f0, x.2] 54)
            have hob := Ob.new W [.int .u8 x.1.f0, x.2] _ rfl 54
            have HK := Aside0.mk (hK _ _ (KeepsOthers.alloc W (.cells #[.int .u8 x.1.f0, x.2] 54)) (by simp) (But.of hbn (by omega))
              ⟨⟨v, b1.below hbn b1.lt, Kd.N_below b2 hbn⟩, b3.below hbn b3.lt, b4.below hbn b4.lt, b5.then hbn (by omega), by simp; omega, b7⟩ ⟨hob, hY1.below hbn, v, b1.below hbn b1.lt, fun e => by have := Kd.N_lt b2 _ e.symm; omega⟩)
            rw [hcg] at hst HK
            have HST := Aside0.mk hst
            clear hK hst hbn hob b1 b2 b3 b4 b5 hY1 hY2
            gi_wp2_with (refine in_store rfl 54 _ _ rfl _ _ HST.out rfl rfl ?_)
            exact HK.out
          case body =>
            rintro l pre ⟨⟨f0, bd⟩, xv⟩ cg W ⟨⟨v, b1, b2⟩, b3, b4, b5, b6, b7⟩ ⟨e1, e2, v', e3, e4⟩ hpl _
            obtain ⟨Av, cv, ev, _, hCv⟩ := e2.reads
            have ev : xv = .slice Av bd.length cv := ev
            subst ev
            have e1 : Ob cg W [.int .u8 f0, .slice Av bd.length cv] := e1
            have e2 : OB (s + 5) W (.slice Av bd.length cv) bd := e2
            have k0 := (e1 0 _ rfl).1
            have k1 := (e1 1 _ rfl).1
            have kx := (b3 0 _ rfl).1
            obtain ⟨kr, kf⟩ := b4 0 _ rfl
            obtain ⟨kl, kfl⟩ := b1 5 _ rfl
            obtain rfl : v = v' := by have h1 : W.cell? ⟨p, 5, none⟩ = some v' := (e3 5 _ rfl).1; rw [kl] at h1; exact Option.some.inj h1
            have E4 := Aside0.mk e4
            have B1 := Aside0.mk b1
            have B2 := Aside0.mk b2
            have B3 := Aside0.mk b3
            have B4 := Aside0.mk b4
            have B5 := Aside0.mk b5
            have B6 := Aside0.mk b6
            have B7 := Aside0.mk b7
            have E1 := Aside0.mk e1
            have E2 := Aside0.mk e2
            clear b1 b2 b3 b4 b5 b7 e1 e2 e3 e4 hCv
            cases h0 : (f0 == 0) with
            | true =>
              have HBAD : Aside0 (okB (⟨f0, bd⟩ : S54) = false) := ⟨by rw [okB, h0]; rfl⟩
              gi_wp2_with fail
              refine ⟨KeepsOthers.setCell _ _ _, (But.refl _ _ W).setCell (p := ⟨s + 1, 0, none⟩) (.inr (.inr rfl)) _, rfl, B4.out.set 0 (by simp) _, B5.out.setCell (p := ⟨s + 1, 0, none⟩) (.inl (by show s ≤ s + 1; omega)) _, ⟨_, List.mem_append_right _ (List.mem_singleton.2 rfl), HBAD.out⟩⟩
            | false =>
              cases h1 : decide ((100 : Int) < (bd.length : Int)) with
              | true =>
                have HBAD : Aside0 (okB (⟨f0, bd⟩ : S54) = false) := ⟨by rw [okB, dec100, h0, h1]; rfl⟩
                gi_wp2_with fail
                refine ⟨KeepsOthers.setCell _ _ _, (But.refl _ _ W).setCell (p := ⟨s + 1, 0, none⟩) (.inr (.inr rfl)) _, rfl, B4.out.set 0 (by simp) _, B5.out.setCell (p := ⟨s + 1, 0, none⟩) (.inl (by show s ≤ s + 1; omega)) _, ⟨_, List.mem_append_right _ (List.mem_singleton.2 rfl), HBAD.out⟩⟩
              | false =>
                have HOKB : Aside0 (okB (⟨f0, bd⟩ : S54) = true) := ⟨by rw [okB, dec100, h0, h1]; rfl⟩
                gi_wp2_with fail
                refine regionR [(0, .t), (1, .t), (2, .p), (3, .p), (4, .t), (5, .t), (6, .o), (7, .o), (8, .p), (9, .p), (10, .e)] (fun U => U.cell? ⟨s, 0, none⟩ = some (.pointer (some ⟨p, 0, none⟩)) ∧ U.cell? ⟨p, 5, none⟩ = some v ∧ U.cell? ⟨cg, 0, none⟩ = some (.int .u8 f0) ∧ U.cell? ⟨cg, 1, none⟩ = some (.slice Av bd.length cv)) (by kernel_rfl) (by kernel_rfl) (⟨kx, kl, k0, k1⟩) (fun hHeld => ?_)
                iterate 2 (refine lex_t rfl rfl rfl (by rintro w' ⟨s0, s1, s2, s3⟩; go_simp; with_reducible rfl) (by simp only [Act.put, List.setIfInBounds_toArray, List.set_cons_zero, List.set_cons_succ, i64_w, i32_w]; rfl) ?_)
                iterate 2 (refine lex_p rfl rfl rfl (by intro w'; go_simp; with_reducible rfl) (by simp only [Act.put, List.setIfInBounds_toArray, List.set_cons_zero, List.set_cons_succ, i64_w, i32_w]; rfl) ?_)
                iterate 2 (refine lex_t rfl rfl rfl (by rintro w' ⟨s0, s1, s2, s3⟩; go_simp; with_reducible rfl) (by simp only [Act.put, List.setIfInBounds_toArray, List.set_cons_zero, List.set_cons_succ, i64_w, i32_w]; rfl) ?_)
                refine lex_o rfl ?_
                go_wp2_with fail
                have hn6 := oneN (b := s + 5) (w := W.drew) (ok := fun k => k = W.heap.size ∨ some k = (Value.slice Av bd.length cv).ownBlock) (⟨f0, bd⟩ : S54) (Kd.R_mono (Kd.R_tight rfl (Kd.R_below E2.out (below_drew (Below.refl _ _)))) (fun k hk => .inr hk)) B6.out (.inl rfl)
                have hb6 : Below W.heap.size W (W.drew.alloc (.cells #[.int .u8 f0, .slice Av bd.length cv] 54)) := below_alloc (below_drew (Below.refl _ _)) _
                have HN6 := Aside0.mk (Kd.N_F hn6)
                have C6 := Aside0.mk hb6
                have HV6 := Aside0.mk (Kd.N_below B2.out hb6)
                have HOK : Aside0 (∀ k, (k = W.heap.size ∨ some k = (Value.slice Av bd.length cv).ownBlock) → s + 5 ≤ k ∧ some k ≠ v.ownBlock) := ⟨by
                  rintro k (rfl | hk)
                  · exact ⟨B6.out, fun e => by have := Kd.N_lt B2.out _ e.symm; omega⟩
                  · obtain ⟨cells, hcl⟩ := Kd.R_typed E2.out k hk.symm
                    exact ⟨Kd.R_base E2.out k hk.symm, Kd.N_ne B2.out hcl (by decide)⟩⟩
                clear hn6 hb6
                refine lex_end (by first | (simp only [Act.put, List.setIfInBounds_toArray, List.set_cons_zero, List.set_cons_succ, i64_w, i32_w]; rfl) | rfl) (⟨pw_cell_below C6.out kx, pw_cell_below C6.out kl, pw_cell_below C6.out k0, pw_cell_below C6.out k1⟩) (fun hHeld => ?_)
                refine lex_o rfl ?_
                refine ap_capsB (s + 5) _ _ rfl rfl HV6.out HN6.out HOK.out rfl rfl (Nat.le_trans B6.out C6.out.size) (by rw [List.length_map]; omega) ?_
                intro v7 w7 hn7 hb7 hg7
                have hbw := (C6.out.mono B6.out).trans hb7
                have C7 := Aside0.mk hbw
                have HG7 := Aside0.mk hg7
                have hcg := hg7.block cg (Nat.lt_of_lt_of_le E1.out.lt C6.out.size) E4.out
                have E7 := Aside0.mk ((E1.out.below C6.out E1.out.lt).same hcg)
                obtain ⟨A7, c7, rfl⟩ := Kd.N_slice hn7
                rw [List.length_append, List.length_map, List.length_singleton] at hn7 ⊢
                have HN7 := Aside0.mk hn7
                have P7 := Aside0.mk (B1.out.below hbw (by omega))
                obtain ⟨kl7, kf7⟩ := P7.out 5 _ rfl
                clear hn7 hb7 hg7 hbw hcg
                refine lex_end (by first | (simp only [Act.put, List.setIfInBounds_toArray, List.set_cons_zero, List.set_cons_succ, i64_w, i32_w]; rfl) | rfl) (⟨(B3.out.below C7.out (by omega) 0 _ rfl).1, kl7, (E7.out 0 _ rfl).1, (E7.out 1 _ rfl).1⟩) (fun hHeld => ?_)
                iterate 2 (refine lex_p rfl rfl rfl (by intro w'; go_simp; with_reducible rfl) (by simp only [Act.put, List.setIfInBounds_toArray, List.set_cons_zero, List.set_cons_succ, i64_w, i32_w]; rfl) ?_)
                refine lex_e rfl ?_
                go_wp2_with fail
                refine outN ?_
                have hko : KeepsOthers (W.drew.alloc (.cells #[.int .u8 f0, .slice Av bd.length cv] 54)) w7 := KeepsOthers.of_grownBy HG7.out (fun j o hj ho => by
                  obtain ⟨cells, hcl⟩ := Kd.N_typed HV6.out j hj
                  rw [hcl] at ho
                  rw [← Option.some.inj ho]
                  rfl)
                refine ⟨((KeepsOthers.drew W).trans (KeepsOthers.alloc _ _)).trans (hko.trans (KeepsOthers.setCell _ _ _)), (But.of C7.out (by omega)).setCell (p := ⟨p, 5, none⟩) (.inr (.inl rfl)) _, ⟨_, P7.out.set 5 (by simp) _, ?_⟩,
                  (B3.out.below C7.out (by omega)).far (q := ⟨p, 5, none⟩) (by show s ≠ p; omega) _, (B4.out.below C7.out (by omega)).far (q := ⟨p, 5, none⟩) (by show s + 1 ≠ p; omega) _, (B5.out.then C7.out (by omega)).setCell (p := ⟨p, 5, none⟩) (.inr rfl) _, by have := C7.out.size; simp; omega, fun x hx => ?_⟩
                · rw [List.map_append]
                  exact Kd.N_far HN7.out (fun k hk e => by have e : k = p := e; omega) _
                · rcases List.mem_append.1 hx with h | h
                  · exact B7.out x h
                  · rw [List.mem_singleton.1 h]
                    exact HOKB.out
          case done =>
            rintro D xs W hD hSf ⟨⟨v, b1, b2⟩, b3, b4, b5, b6, b7⟩ hDef
            obtain ⟨L, hL⟩ : ∃ L, eachL (b.drop 12) = L := ⟨_, rfl⟩
            rw [hL] at hSf
            have HL := Aside0.mk hL
            rw [hSf] at b2
            have hall : L.all okB = true := by
              rw [← hSf, List.all_map, List.all_eq_true]
              exact fun x hx => b7 x hx
            obtain ⟨A7, c7, rfl, hc7, hC7⟩ := Kd.N_reads b2
            have hDz : D = s + 1 + 1 + 1 := by rw [hD, HD2.out]
            subst hDz
            have kx := (b3 0 _ rfl).1
            obtain ⟨kr, kf⟩ := b4 0 _ rfl
            have kl := (b1 5 _ rfl).1
            have B1 := Aside0.mk b1
            have B2 := Aside0.mk b2
            have B4 := Aside0.mk b4
            have B5 := Aside0.mk b5
            have HDEF := Aside0.mk hDef
            have HALL := Aside0.mk hall
            have HLE : Aside0 (L.length ≤ b.length - 12) := ⟨by rw [← hL, ← List.length_drop]; exact eachF_len _ _⟩
            have HC7 := Aside0.mk hC7
            clear b1 b2 b3 b4 b5 b7 hSf hDef hall hC7 hD hL
            have HEND : Aside0 (∀ (t : Bool) (U : World), okL L = t → Below W.heap.size W U → ∃ Z, (Instr.takeDeferred (s + 1 + 1 + 1)).run Try.prog (U.setCell ⟨s + 1, 0, none⟩ (.bool t)) = .ok [] Z ∧ (loadVar 4 ⟨s + 1, 0, none⟩).run Try.prog Z = .ok (.bool t) Z ∧ ParR p (.slice (some ⟨g, o, none⟩) b.length c) a h i caps L (headB b && okL L) w (.returned (.bool t)) Z) := ⟨by
              intro t U ht hU
              have hK2 : (U.setCell ⟨s + 1, 0, none⟩ (.bool t)).heap[s + 1 + 1 + 1]? = some (.deferred (some [])) := by
                rw [Below.heap_setCell _ _ _ _ (by show s + 1 + 1 + 1 ≠ s + 1; omega)]
                exact (hU.block (s + 1 + 1 + 1) (Array.getElem?_eq_some_iff.1 HDEF.out).1).trans HDEF.out
              have r4 := (B4.out.below hU B4.out.lt).set 0 (by simp) (.bool t)
              refine ⟨_, run_takeDeferred hK2, loadB ((Ob.turn r4 hK2 rfl (.deferred none)) 0 _ rfl).1, ?_, ?_, fun ht1 => ⟨_, Ob.turn ((B1.out.below hU B1.out.lt).far (q := ⟨s + 1, 0, none⟩) (by show p ≠ s + 1; omega) _) hK2 rfl _, ?_⟩⟩
              · rw [HS.out]
                exact ((B5.out.then hU (by omega)).setCell (p := ⟨s + 1, 0, none⟩) (.inl (by show s ≤ s + 1; omega)) _).turn (by omega) _
              · rw [HF.out, ht]
                rfl
              · rw [HS.out]
                have n1 := Kd.N_below B2.out hU
                have n2 := Kd.N_far n1 (p := ⟨s + 1, 0, none⟩) (fun k hk e => by have e : k = s + 1 := e; have hk : s + 5 ≤ k := hk; omega) (.bool t)
                have n3 := Kd.N_step (w1 := (U.setCell ⟨s + 1, 0, none⟩ (.bool t)).putObj (s + 1 + 1 + 1) (.deferred none)) n2 (fun k hk _ => World.putObj_heap_other (by have hk : s + 5 ≤ k := hk; omega))
                exact Kd.N_mono (Kd.N_lower n3 (by omega)) (fun k hk => Nat.le_trans (by omega) hk)⟩
            by_cases hz : L.length = 0
            · have HOKL : Aside0 (okL L = true) := ⟨by rw [okL, HALL.out, hz]; rfl⟩
              gi_wp2_with fail
              refine ⟨trivial, ?_⟩
              gi_wp2_with fail
              obtain ⟨Z, z1, z2, z3⟩ := HEND.out true _ HOKL.out (Below.refl _ _)
              refine ⟨by simp, .inl ⟨_, _, rfl, z1, ?_⟩⟩
              exact ⟨_, results_cell rfl _ _ (s + 1) _ rfl z2, by rw [HL.out]; exact z3⟩
            · have hzI : ((L.length : Int) == 0) = false := by rw [beq_eq_false_iff_ne]; omega
              have h1I : (1 : Int) ≤ (L.length : Int) := by omega
              have hCF := C_from (by decide) HC7.out hc7 1 (by omega) (s := 2) rfl
              rw [show L.length - 1 = (L.drop 1).length by rw [List.length_drop]] at hCF
              have HRI := Aside0.mk (riseC (advA A7 1 c7 2) (c7 - 1) (L.drop 1) W hCF (by rw [List.length_drop]; have := HLE.out; omega))
              have HOKL : Aside0 (okL L = riseB (L.drop 1)) := ⟨by rw [okL, HALL.out, show (L.length == 0) = false by rw [beq_eq_false_iff_ne]; exact hz, List.drop_one]; rfl⟩
              gi_wp2_with fail
              refine ⟨trivial, ?_⟩
              rw [show (L.drop 1).length = L.length - 1 from List.length_drop] at HRI
              refine (callsIn_wide.2 HRI.out).mono ?_
              rintro e U ⟨rfl, hU⟩
              obtain ⟨t, ht⟩ : ∃ t, riseB (L.drop 1) = t := ⟨_, rfl⟩
              obtain ⟨Z, z1, z2, z3⟩ := HEND.out t U (by rw [HOKL.out, ht]) hU
              obtain ⟨kr2, kf2⟩ := (B4.out.below hU B4.out.lt) 0 _ rfl
              have Z1 := Aside0.mk z1
              have Z2 := Aside0.mk z2
              have Z3 := Aside0.mk z3
              rw [ht]
              clear HRI HOKL ht hU z1 z2 z3 hCF
              gi_wp2_with fail
              refine ⟨by simp, .inl ⟨_, _, rfl, Z1.out, ?_⟩⟩
              exact ⟨_, results_cell rfl _ _ (s + 1) _ rfl Z2.out, by rw [HL.out]; exact Z3.out⟩
          case stop =>
            rintro D q pre W hD ⟨r, hr⟩ ⟨rfl, b2, b3, x, hx1, hx2⟩ hDef
            have hok : okL (eachL (b.drop 12)) = false := by
              have : (eachL (b.drop 12)).all okB = false := by
                rw [hr, List.all_append, Bool.and_eq_false_iff]
                left
                rw [List.all_map, List.all_eq_false]
                exact ⟨x, hx1, by show ¬ okB x.1 = true; rw [hx2]; simp⟩
              rw [okL, this]
              rfl
            have HOKL := Aside0.mk hok
            have B2 := Aside0.mk b2
            have B3 := Aside0.mk b3
            have hDz : D = s + 1 + 1 + 1 := by rw [hD, HD2.out]
            subst hDz
            clear hok hr hx1 hx2 b2 b3 hD
            gi_wp2_with fail
            refine ⟨by simp, .inl ⟨_, _, rfl, run_takeDeferred hDef, ?_⟩⟩
            refine ⟨_, results_cell rfl _ _ (s + 1) _ rfl (loadB (Ob.turn B2.out hDef rfl _ 0 _ rfl).1), ParR_no (by rw [HF.out, HOKL.out]; rfl) ?_⟩
            rw [HS.out]
            exact B3.out.turn (by omega) _
end Go.Proofs.Yticilaoibjbgfaa.Op

set_option linter.unusedSimpArgs false
set_option linter.unusedVariables false
namespace Go.Proofs.Yticilaoibjbgfaa.Op
open Go.RowKit Go.Proofs.YticilaoibjbgfaaW.PrintWords Go.Proofs.YticilaoibjbgfaaW.PrintLast Go.Proofs.YticilaoibjbgfaaW.PrintMore Go.Proofs.Yticilaoibjbgfaa.POpenRaws Go.Proofs.Yticilaoibjbgfaa.Lib Go.Proofs.Yticilaoibjbgfaa.High Go.Proofs.Yticilaoibjbgfaa.Lex
attribute [local go_sem ↓ high] sliced_adv
theorem num2C (A : Option Addr) (c : Nat) (b : List Int) (w : World) (hl : b.length = 2) (hw : Byt b) (hc : 2 ≤ c) (hC : Kd.C KB w A 2 b) : Calls Try.prog 33 #[.slice A 2 c] w fun e w' => e = .returned (.int .u16 (num2 b)) ∧ Below w.heap.size w w' := by
  obtain ⟨k, hk⟩ := number16_ex b hl hw
  have := open_number_uint16.calls k A c b _ w (by rw [hl]; exact hC) (by omega) hk
  rw [hl] at this
  exact this.mono (fun e w' h => ⟨h.1, h.2.below⟩)
theorem num4C (A : Option Addr) (c : Nat) (b : List Int) (w : World) (hl : b.length = 4) (hw : Byt b) (hc : 4 ≤ c) (hC : Kd.C KB w A 4 b) : Calls Try.prog 34 #[.slice A 4 c] w fun e w' => e = .returned (.int .u32 (num4 b)) ∧ Below w.heap.size w w' := by
  obtain ⟨k, hk⟩ := number32_ex b hl hw
  have := open_number_uint32.calls k A c b _ w (by rw [hl]; exact hC) (by omega) hk
  rw [hl] at this
  exact this.mono (fun e w' h => ⟨h.1, h.2.below⟩)
def AsR (p base : Nat) (B : Value) (h i : Nat) (v : Value) (b : List Int) (L : List S54) (w : World) (e : Ending) (w' : World) : Prop :=
  e = .returned (.bool (asB b L)) ∧ But w.heap.size (fun k => k = p) w w' ∧ (asB b L = true → ∃ A1 c1, L.tail.length ≤ c1 ∧ Ob p w' (rdr B (asOf L) h i (.slice A1 L.tail.length c1) v) ∧ Kd.F k54 w' (fun k => base ≤ k) A1 L.tail.length L.tail)
theorem AsR_no {p base : Nat} {B : Value} {h i : Nat} {v : Value} {b : List Int} {L : List S54} {w w' : World} (hf : asB b L = false) (hb : But w.heap.size (fun k => k = p) w w') : AsR p base B h i v b L w (.returned (.bool false)) w' := ⟨by rw [hf], hb, fun h => by rw [hf] at h; cases h⟩
theorem outP {Q : Exit → Act → World → Prop} {a : Act} {w : World} (h : Q .normal a w) : putQ Q (fun a' w' => Q .normal a' w') .normal a w := h
set_option maxRecDepth 100000 in
set_option maxHeartbeats 8000000 in
theorem asC (p base a h i : Nat) (A : Option Addr) (c : Nat) (b : List Int) (caps v : Value) (L : List S54) (w : World) (hob : Ob p w (rdr (.slice A b.length c) a h i caps v)) (hn : NB base w v L) (hbase : base ≤ w.heap.size) (hpb : p < base) (hC : Kd.C KB w A b.length b) (hcap : b.length ≤ c) (hA : ∀ a, A = some a → a.block ≠ p) (h10 : 10 ≤ b.length) (hw : Byt b) (hwl : WfL L) :
    Calls Try.prog 39 #[.pointer (some ⟨p, 0, none⟩)] w (AsR p base (.slice A b.length c) h i v b L w) := by
  obtain ⟨A7, c7, rfl, hc7, hC7⟩ := Kd.N_reads hn
  have kl := (hob 5 _ rfl).1
  have HOB := Aside0.mk hob
  have HN := Aside0.mk hn
  have HC := Aside0.mk hC
  have HC7 := Aside0.mk hC7
  have HWB := Aside0.mk hw
  have HWL := Aside0.mk hwl
  have HA := Aside0.mk hA
  clear hob hn hC hC7 hw hwl hA
  by_cases hz : L.length = 0
  · have HF : Aside0 (asB b L = false) := ⟨by rw [asB, decide_eq_false (by omega)]; rfl⟩
    go_enter Try.func39, Try.ntmps39
    go_wp2_with fail
    go_ret
    exact AsR_no HF.out (But.refl _ _ _)
  · have hzI : ((L.length : Int) == 0) = false := by rw [beq_eq_false_iff_ne]; omega
    have h0I : (0 : Int) < (L.length : Int) := by omega
    have h1I : (1 : Int) ≤ (L.length : Int) := by omega
    have h0N : 0 < L.length := by omega
    obtain ⟨g7, o7, A1, c1, rfl, q0, q1, hc1, hC1⟩ := C_cap HC7.out 0 (by omega)
    simp only [Nat.zero_mul, Nat.add_zero] at q0 q1
    obtain ⟨f0, hf0⟩ : ∃ x, (L.getD 0 z54).f0 = x := ⟨_, rfl⟩
    obtain ⟨bd, hbd⟩ : ∃ x, (L.getD 0 z54).f1 = x := ⟨_, rfl⟩
    have hwf := HWL.out _ (getD_mem L 0 z54 (by omega))
    have hwb : Byt bd := by rw [← hbd]; exact hwf.2
    rw [hf0] at q0
    rw [hbd] at q1 hc1 hC1
    have HF0 := Aside0.mk hf0
    have HBD := Aside0.mk hbd
    have HC1 := Aside0.mk hC1
    have HWBD := Aside0.mk hwb
    clear hf0 hbd hC1 hwf hwb
    cases h65 : (f0 != 65) with
    | true =>
      have HF : Aside0 (asB b L = false) := ⟨by rw [asB, HF0.out]; simp at h65; simp [h65]⟩
      go_enter Try.func39, Try.ntmps39
      go_wp2_with fail
      go_ret
      exact AsR_no HF.out (But.refl _ _ _)
    | false =>
      cases h4 : ((bd.length : Int) != 4) with
      | true =>
        have HF : Aside0 (asB b L = false) := ⟨by rw [asB, HBD.out]; simp at h4; rw [decide_eq_false (show ¬ bd.length = 4 by omega)]; simp⟩
        go_enter Try.func39, Try.ntmps39
        go_wp2_with fail
        go_ret
        exact AsR_no HF.out (But.refl _ _ _)
      | false =>
        have hb4 : bd.length = 4 := by simp at h4; omega
        have hbd4 := num4_bd hb4 HWBD.out
        obtain ⟨sy, has⟩ : ∃ n : Nat, num4 bd = (n : Int) := ⟨(num4 bd).toNat, by omega⟩
        have HASO : Aside0 (asOf L = sy) := ⟨by rw [asOf, HBD.out, has]; rfl⟩
        have hle : sy < 4294967296 := by omega
        have HNUM := Aside0.mk (fun W hW => num4C A1 c1 bd W hb4 HWBD.out (by omega) hW)
        rw [has] at HNUM
        rw [hb4] at HC1
        have HAS := Aside0.mk has
        obtain ⟨AT, hAT⟩ : ∃ AS, advA (some ⟨g7, o7, none⟩) 1 c7 2 = AS := ⟨_, rfl⟩
        have hgp : base ≤ g7 := by
          have h1 := Kd.N_base HN.out g7
          exact h1 rfl
        have hgl := World.block_lt_of_cell? w _ q0
        have q14 : w.cell? ⟨g7, o7 + 1, none⟩ = some (.slice A1 4 c1) := by rw [← hb4]; exact q1
        clear has hbd4
        go_enter Try.func39, Try.ntmps39
        go_wp2_with fail
        refine region [(0, .p), (1, .p), (2, .p), (3, .p), (4, .p), (10, .p), (11, .p), (12, .p), (5, .t), (6, .p), (7, .p), (8, .t), (13, .t), (14, .p), (9, .o), (15, .p), (16, .p), (17, .p), (18, .o), (19, .p), (20, .p), (21, .p), (22, .e)] (fun U => U.cell? ⟨p, 5, none⟩ = some (.slice (some ⟨g7, o7, none⟩) L.length c7) ∧ U.cell? ⟨g7, o7 + 1, none⟩ = some (.slice A1 4 c1)) (by kernel_rfl) (by kernel_rfl) (fun _ _ _ _ _ h => h) (⟨kl, q14⟩) (fun hHeld => ?_)
        iterate 8 (refine lex_p rfl rfl rfl (by intro w'; go_simp; with_reducible rfl) (by simp only [Act.put, List.setIfInBounds_toArray, List.set_cons_zero, List.set_cons_succ, i64_w, i32_w]; rfl) ?_)
        (refine lex_t rfl rfl rfl (by rintro w' ⟨s0, s1⟩; go_simp; with_reducible rfl) (by simp only [Act.put, List.setIfInBounds_toArray, List.set_cons_zero, List.set_cons_succ, i64_w, i32_w]; rfl) ?_)
        iterate 2 (refine lex_p rfl rfl rfl (by intro w'; go_simp; with_reducible rfl) (by simp only [Act.put, List.setIfInBounds_toArray, List.set_cons_zero, List.set_cons_succ, i64_w, i32_w]; rfl) ?_)
        iterate 2 (refine lex_t rfl rfl rfl (by rintro w' ⟨s0, s1⟩; go_simp; with_reducible rfl) (by simp only [Act.put, List.setIfInBounds_toArray, List.set_cons_zero, List.set_cons_succ, i64_w, i32_w]; rfl) ?_)
        (refine lex_p rfl rfl rfl (by intro w'; go_simp; with_reducible rfl) (by simp only [Act.put, List.setIfInBounds_toArray, List.set_cons_zero, List.set_cons_succ, i64_w, i32_w]; rfl) ?_)
        refine lex_o rfl ?_
        go_wp2_with fail
        refine (HNUM.out _ (Kd.C_below HC1.out (below_drew (Below.refl _ _)))).mono ?_
        rintro e w2 ⟨rfl, hb2⟩
        have B2 := Aside0.mk ((below_drew (Below.refl w.heap.size w)).trans hb2)
        have P2 := Aside0.mk (HOB.out.below B2.out HOB.out.lt)
        obtain ⟨kp1, kf1⟩ := P2.out 1 _ rfl
        clear hb2
        go_wp2_with fail
        refine lex_end (by first | (simp only [Act.put, List.setIfInBounds_toArray, List.set_cons_zero, List.set_cons_succ, i64_w, i32_w]; rfl) | rfl) (⟨pw_cell_below B2.out kl, pw_cell_below B2.out q14⟩) (fun hHeld => ?_)
        iterate 3 (refine lex_p rfl rfl rfl (by intro w'; go_simp; with_reducible rfl) (by simp only [Act.put, List.setIfInBounds_toArray, List.set_cons_zero, List.set_cons_succ, i64_w, i32_w]; rfl) ?_)
        refine lex_o rfl ?_
        go_wp2_with fail
        have P3 := Aside0.mk (P2.out.set 1 (by simp) (.int .u32 sy))
        obtain ⟨kp4, kf4⟩ := P3.out 4 _ rfl
        refine lex_end (by first | (simp only [Act.put, List.setIfInBounds_toArray, List.set_cons_zero, List.set_cons_succ, i64_w, i32_w]; rfl) | rfl) (⟨(P3.out 5 _ rfl).1, by rw [World.cell?_setCell_other (h := by intro e; injection e with e1; omega)]; exact pw_cell_below B2.out q14⟩) (fun hHeld => ?_)
        iterate 3 (refine lex_p rfl rfl rfl (by intro w'; go_simp; with_reducible rfl) (by simp only [Act.put, List.setIfInBounds_toArray, List.set_cons_zero, List.set_cons_succ, i64_w, i32_w]; rfl) ?_)
        refine lex_e rfl ?_
        go_wp2_with fail
        have P4 := P3.out.set 4 (by simp) (.slice AT (L.length - 1) (c7 - 1))
        have hbut4 : But w.heap.size (fun k => k = p) w ((w2.setCell ⟨p, 1, none⟩ (.int .u32 sy)).setCell ⟨p, 4, none⟩ (.slice AT (L.length - 1) (c7 - 1))) := ((But.of (S := fun k => k = p) B2.out (Nat.le_refl _)).setCell (p := ⟨p, 1, none⟩) (.inr rfl) _).setCell (p := ⟨p, 4, none⟩) (.inr rfl) _
        have hn4 := Kd.N_far (Kd.N_far (Kd.N_below HN.out B2.out) (p := ⟨p, 1, none⟩) (fun k hk e => by have e : k = p := e; have hk : base ≤ k := hk; omega) (.int .u32 sy)) (p := ⟨p, 4, none⟩) (fun k hk e => by have e : k = p := e; have hk : base ≤ k := hk; omega) (.slice AT (L.length - 1) (c7 - 1))
        obtain ⟨W4, hW4⟩ : ∃ W4, (w2.setCell ⟨p, 1, none⟩ (.int .u32 sy)).setCell ⟨p, 4, none⟩ (.slice AT (L.length - 1) (c7 - 1)) = W4 := ⟨_, rfl⟩
        rw [hW4] at P4 hbut4 hn4
        refine outP ?_
        rw [hW4]
        have kb := (P4 0 _ rfl).1
        have kp := (P4 1 _ rfl).1
        have hC4 : Kd.C KB W4 A b.length b := C_same HC.out (fun a ha => hbut4.block _ (by
          obtain ⟨b', o', e', q⟩ := C_byte HC.out 0 (by omega)
          rw [ha] at e'
          have := Option.some.inj e'
          subst this
          exact World.block_lt_of_cell? w _ q) (HA.out a ha))
        have H4 := Aside0.mk P4
        have HB4 := Aside0.mk hbut4
        have HN4 := Aside0.mk hn4
        have HC4 := Aside0.mk hC4
        clear P4 hbut4 hn4 hC4 hW4
        have HFIN : Aside0 (∀ U, Below W4.heap.size W4 U → asB b L = true → ∃ A1 c1, L.tail.length ≤ c1 ∧ Ob p U (rdr (.slice A b.length c) (asOf L) h i (.slice A1 L.tail.length c1) (.slice (some ⟨g7, o7, none⟩) L.length c7)) ∧ Kd.F k54 U (fun k => base ≤ k) A1 L.tail.length L.tail) := ⟨fun U hU _ => by
          refine ⟨AT, c7 - 1, by rw [List.length_tail]; omega, ?_, ?_⟩
          · rw [HASO.out, List.length_tail]
            exact H4.out.below hU H4.out.lt
          · refine Kd.F_imp (Kd.N_F (Kd.N_below HN4.out hU)) (fun W' hC' => ?_)
            have := C_from (by decide) hC' hc7 1 (by omega) (s := 2) rfl
            rwa [hAT, List.drop_one, ← List.length_tail] at this⟩
        by_cases hs0 : sy = 0
        · have hsI : ¬ ((0 : Int) < (sy : Int)) := by omega
          have HF : Aside0 (asB b L = false) := ⟨by rw [asB, HASO.out, hs0]; simp⟩
          go_wp2_with fail
          refine region [(0, .p), (1, .p), (2, .p), (3, .p), (4, .t), (5, .p), (6, .p), (7, .p), (8, .p), (9, .p), (10, .p), (11, .p), (12, .p), (13, .p), (14, .p), (15, .p), (16, .p), (17, .p), (18, .p), (19, .p), (20, .p), (21, .p), (22, .p)] (fun U => U.cell? ⟨p, 1, none⟩ = some (.int .u32 sy)) (by kernel_rfl) (by kernel_rfl) (fun _ _ _ _ _ h => h) (kp) (fun hHeld => ?_)
          iterate 4 (refine lex_p rfl rfl rfl (by intro w'; go_simp; with_reducible rfl) (by simp only [Act.put, List.setIfInBounds_toArray, List.set_cons_zero, List.set_cons_succ, i64_w, i32_w]; rfl) ?_)
          (refine lex_t rfl rfl rfl (by rintro w' s0; go_simp; with_reducible rfl) (by simp only [Act.put, List.setIfInBounds_toArray, List.set_cons_zero, List.set_cons_succ, i64_w, i32_w]; rfl) ?_)
          iterate 2 (refine lex_p rfl rfl rfl (by intro w'; go_simp; with_reducible rfl) (by simp only [Act.put, List.setIfInBounds_toArray, List.set_cons_zero, List.set_cons_succ, i64_w, i32_w]; rfl) ?_)
          iterate 14 (refine lex_off rfl rfl rfl (by simp only [Act.put, List.setIfInBounds_toArray, List.set_cons_zero, List.set_cons_succ, i64_w, i32_w]; rfl) ?_)
          iterate 2 (refine lex_p rfl rfl rfl (by intro w'; go_simp; with_reducible rfl) (by simp only [Act.put, List.setIfInBounds_toArray, List.set_cons_zero, List.set_cons_succ, i64_w, i32_w]; rfl) ?_)
          refine lex_nil ?_
          go_wp2_with fail
          go_ret
          exact AsR_no HF.out (HB4.out.then (below_drew (Below.refl _ _)) HB4.out.size)
        · have hsI : ((0 : Int) < (sy : Int)) := by omega
          have hsN : 0 < sy := by omega
          have hsD : decide ((0 : Int) < (sy : Int)) = true := decide_eq_true hsI
          obtain ⟨AV, hAV⟩ : ∃ AS, advA A 1 c 1 = AS := ⟨_, rfl⟩
          obtain ⟨b13, hb13⟩ : ∃ x, (b.take 3).drop 1 = x := ⟨_, rfl⟩
          have hl13 : b13.length = 2 := by rw [← hb13, List.length_drop, List.length_take]; omega
          have HNUM2 := Aside0.mk (fun W (hW : But W4.heap.size (fun _ => False) W4 W) => num2C AV (c - 1) b13 W hl13 (by rw [← hb13]; exact byt_drop (byt_take HWB.out _) _) (by omega) (by
            have h1 := C_adv (by decide) (Kd.C_below HC4.out (hW.below (Nat.le_refl _) (fun _ _ h => h))) hcap 1 3 (by omega) (by omega) (s := 1) rfl
            rwa [hAV, hb13] at h1))
          obtain ⟨z, hz2⟩ : ∃ z, num2 b13 = z := ⟨_, rfl⟩
          rw [hz2] at HNUM2
          have HASB : Aside0 (asB b L = (((shortN sy : Nat) : Int) == z)) := ⟨by
            have e65 : f0 = 65 := by simpa using h65
            rw [asB, HASO.out, HF0.out, HBD.out, hb13, hz2, decide_eq_true (show L.length ≠ 0 from hz), decide_eq_true e65, decide_eq_true hb4, decide_eq_true (show sy ≠ 0 from hs0)]
            simp only [Bool.true_and]
            rw [Bool.eq_iff_iff, decide_eq_true_eq, beq_iff_eq]
            exact eq_comm⟩
          have g1 : (3 : Int) ≤ (c : Int) := by omega
          go_wp2_with fail
          refine region [(0, .p), (1, .p), (2, .p), (3, .p), (4, .t), (5, .p), (6, .p), (7, .p), (8, .p), (9, .p), (10, .p), (13, .p), (14, .p), (15, .p), (16, .p), (11, .t), (17, .t), (18, .p), (12, .o), (19, .o), (20, .p), (21, .p), (22, .p)] (fun U => U.cell? ⟨p, 1, none⟩ = some (.int .u32 sy) ∧ U.cell? ⟨p, 0, none⟩ = some (.slice A b.length c)) (by kernel_rfl) (by kernel_rfl) (fun _ _ _ _ _ h => h) (⟨kp, kb⟩) (fun hHeld => ?_)
          iterate 4 (refine lex_p rfl rfl rfl (by intro w'; go_simp; with_reducible rfl) (by simp only [Act.put, List.setIfInBounds_toArray, List.set_cons_zero, List.set_cons_succ, i64_w, i32_w]; rfl) ?_)
          (refine lex_t rfl rfl rfl (by rintro w' ⟨s0, s1⟩; go_simp; with_reducible rfl) (by simp only [Act.put, List.setIfInBounds_toArray, List.set_cons_zero, List.set_cons_succ, i64_w, i32_w]; rfl) ?_)
          iterate 10 (refine lex_p rfl rfl rfl (by intro w'; go_simp; with_reducible rfl) (by simp only [Act.put, List.setIfInBounds_toArray, List.set_cons_zero, List.set_cons_succ, i64_w, i32_w]; rfl) ?_)
          iterate 2 (refine lex_t rfl rfl rfl (by rintro w' ⟨s0, s1⟩; go_simp; with_reducible rfl) (by simp only [Act.put, List.setIfInBounds_toArray, List.set_cons_zero, List.set_cons_succ, i64_w, i32_w]; rfl) ?_)
          (refine lex_p rfl rfl rfl (by intro w'; go_simp; with_reducible rfl) (by simp only [Act.put, List.setIfInBounds_toArray, List.set_cons_zero, List.set_cons_succ, i64_w, i32_w]; rfl) ?_)
          refine lex_o rfl ?_
          go_wp2_with fail
          refine (open_short.calls _ _ _ (short_ex sy)).mono ?_
          rintro e w5 ⟨rfl, hd5⟩
          have B5 := Aside0.mk ((below_drew (Below.refl W4.heap.size W4)).trans hd5.below)
          clear hd5
          go_wp2_with fail
          refine lex_end (by first | (simp only [Act.put, List.setIfInBounds_toArray, List.set_cons_zero, List.set_cons_succ, i64_w, i32_w]; rfl) | rfl) (⟨pw_cell_below B5.out kp, pw_cell_below B5.out kb⟩) (fun hHeld => ?_)
          refine lex_o rfl ?_
          go_wp2_with fail
          refine (HNUM2.out _ (But.of B5.out (Nat.le_refl _))).mono ?_
          rintro e w6 ⟨rfl, hd6⟩
          have B6 := Aside0.mk (B5.out.trans (hd6.mono B5.out.size))
          clear hd6
          go_wp2_with fail
          refine lex_end (by first | (simp only [Act.put, List.setIfInBounds_toArray, List.set_cons_zero, List.set_cons_succ, i64_w, i32_w]; rfl) | rfl) (⟨pw_cell_below B6.out kp, pw_cell_below B6.out kb⟩) (fun hHeld => ?_)
          iterate 3 (refine lex_p rfl rfl rfl (by intro w'; go_simp; with_reducible rfl) (by simp only [Act.put, List.setIfInBounds_toArray, List.set_cons_zero, List.set_cons_succ, i64_w, i32_w]; rfl) ?_)
          refine lex_nil ?_
          go_wp2_with fail
          go_ret
          exact ⟨by rw [HASB.out]; rfl, HB4.out.then (B6.out) HB4.out.size, fun ht => HFIN.out _ B6.out ht⟩
end Go.Proofs.Yticilaoibjbgfaa.Op

set_option linter.unusedSimpArgs false
set_option linter.unusedVariables false
namespace Go.Proofs.Yticilaoibjbgfaa.Op
open Go.RowKit Go.Proofs.YticilaoibjbgfaaW.PrintWords Go.Proofs.YticilaoibjbgfaaW.PrintLast Go.Proofs.YticilaoibjbgfaaW.PrintMore Go.Proofs.Yticilaoibjbgfaa.POpenRaws Go.Proofs.Yticilaoibjbgfaa.Lib Go.Proofs.Yticilaoibjbgfaa.High Go.Proofs.Yticilaoibjbgfaa.Lex
attribute [local go_sem ↓ high] sliced_adv
/-- the five steps -/
def stepsV (s p q : Nat) : List Value := [.func (.func 35) #[] #[.pointer (some ⟨s, 0, none⟩)], .int .i64 281, .func (.func 36) #[] #[.pointer (some ⟨q, 0, none⟩)], .int .i64 282, .func (.func 37) #[] #[.pointer (some ⟨q, 0, none⟩)], .int .i64 283, .func (.func 38) #[.pointer (some ⟨p, 0, none⟩)] #[], .int .i64 284, .func (.func 39) #[.pointer (some ⟨p, 0, none⟩)] #[], .int .i64 285]
def ParseR (b : List Int) (w : World) (e : Ending) (w' : World) : Prop :=
  ∃ A1 c1, e = .returned (.tuple #[aO (parseN b).1 A1 c1, .int .i64 (parseN b).2]) ∧ (parseN b).1.l.length ≤ c1 ∧ Kd.F k54 w' (fun k => w.heap.size ≤ k) A1 (parseN b).1.l.length (parseN b).1.l ∧ Below w.heap.size w w'
/-- what the five steps have shown -/
def PS (b : List Int) (L : List S54) (k : Nat) : Prop := (0 < k → b.getD 0 0 = 4) ∧ (1 < k → ¬ (holdOf b = 1 ∨ holdOf b = 2)) ∧ (2 < k → idOf b ≠ 0) ∧ (3 < k → headB b = true ∧ okL (eachL (b.drop 12)) = true) ∧ (4 < k → asB b L = true)
def RdP (b : List Int) (A : Option Addr) (c s z hn idn : Nat) (L : List S54) (k : Nat) (W : World) : Prop :=
  (k ≤ 3 → Ob (s + 1 + 1) W (rdr (.slice A b.length c) 0 hn idn (.slice none 0 0) (.slice none 0 0))) ∧
  (k = 4 → ∃ v, Ob (s + 1 + 1) W (rdr (.slice A b.length c) 0 hn idn (.slice none 0 0) v) ∧ NB (z + 1) W v L) ∧
  (k = 5 → ∃ A1 c1 v, L.tail.length ≤ c1 ∧ Ob (s + 1 + 1) W (rdr (.slice A b.length c) (asOf L) hn idn (.slice A1 L.tail.length c1) v) ∧ Kd.F k54 W (fun k => z + 1 ≤ k) A1 L.tail.length L.tail)
structure PI (b : List Int) (A : Option Addr) (c : Nat) (w : World) (s z hn idn : Nat) (L : List S54) (k : Nat) (W : World) : Prop where
  but : But s (fun _ => False) w W
  sz : z + 1 ≤ W.heap.size
  o1 : Ob s W [.slice A b.length c]
  o2 : Ob (s + 1) W (cO zo none 0)
  o4 : Ob (s + 1 + 1 + 1) W [.pointer (some ⟨s + 1 + 1, 0, none⟩)]
  o9 : Ob z W (stepsV s (s + 1 + 1) (s + 1 + 1 + 1))
  ps : PS b L k
  r0 : k ≤ 3 → Ob (s + 1 + 1) W (rdr (.slice A b.length c) 0 hn idn (.slice none 0 0) (.slice none 0 0))
  r4 : k = 4 → ∃ v, Ob (s + 1 + 1) W (rdr (.slice A b.length c) 0 hn idn (.slice none 0 0) v) ∧ NB (z + 1) W v L
  r5 : k = 5 → ∃ A1 c1 v, L.tail.length ≤ c1 ∧ Ob (s + 1 + 1) W (rdr (.slice A b.length c) (asOf L) hn idn (.slice A1 L.tail.length c1) v) ∧ Kd.F k54 W (fun k => z + 1 ≤ k) A1 L.tail.length L.tail
theorem PI.alloc {b : List Int} {A : Option Addr} {c : Nat} {w : World} {s z hn idn : Nat} {L : List S54} {k : Nat} {W X : World} (h : PI b A c w s z hn idn L k W) (hb : Below W.heap.size W X) (hz : s + 1 + 1 + 1 < z) : PI b A c w s z hn idn L k X := by
  have := h.sz
  refine ⟨h.but.then hb (by omega), Nat.le_trans h.sz hb.size, h.o1.below hb (by omega), h.o2.below hb (by omega), h.o4.below hb (by omega), h.o9.below hb (by omega), h.ps, fun hk => (h.r0 hk).below hb (by omega), fun hk => ?_, fun hk => ?_⟩
  · obtain ⟨v, h1, h2⟩ := h.r4 hk
    exact ⟨v, h1.below hb (by omega), Kd.N_below h2 hb⟩
  · obtain ⟨A1, c1, v, h1, h2, h3⟩ := h.r5 hk
    exact ⟨A1, c1, v, h1, h2.below hb (by omega), Kd.F_below h3 hb⟩
theorem PI.next {b : List Int} {A : Option Addr} {c : Nat} {w : World} {s z hn idn : Nat} {L : List S54} {k k' : Nat} {X Y : World} (h : PI b A c w s z hn idn L k X) (hb : But X.heap.size (fun k => k = s + 1 + 1) X Y) (hz : s + 1 + 1 + 1 < z) (hr : PS b L k' ∧ RdP b A c s z hn idn L k' Y) : PI b A c w s z hn idn L k' Y := by
  have := h.sz
  exact ⟨h.but.trans (hb.mono (by omega) (fun k hk e => by have e : k = s + 1 + 1 := e; omega)), Nat.le_trans h.sz hb.size, h.o1.but hb (by omega) (by show ¬ s = s + 1 + 1; omega), h.o2.but hb (by omega) (by show ¬ s + 1 = s + 1 + 1; omega), h.o4.but hb (by omega) (by show ¬ s + 1 + 1 + 1 = s + 1 + 1; omega), h.o9.but hb (by omega) (by show ¬ z = s + 1 + 1; omega), hr.1, hr.2.1, hr.2.2.1, hr.2.2.2⟩
theorem PI.c {b : List Int} {A : Option Addr} {c : Nat} {w : World} {s z hn idn : Nat} {L : List S54} {k : Nat} {X : World} (h : PI b A c w s z hn idn L k X) (hs : w.heap.size = s) (hC : Kd.C KB w A b.length b) : Kd.C KB X A b.length b := Kd.C_below hC (by rw [hs]; exact h.but.below (Nat.le_refl _) (fun _ _ h => h))
def StepR (b : List Int) (A : Option Addr) (c : Nat) (s z hn idn : Nat) (L : List S54) (k : Nat) (code : Int) (X : World) (e : Ending) (Y : World) : Prop :=
  ∃ t, e = .returned (.bool t) ∧ But X.heap.size (fun k => k = s + 1 + 1) X Y ∧ (t = true → PS b L k ∧ RdP b A c s z hn idn L k Y) ∧ (t = false → parseN b = (zo, code))
theorem eachF_wf : ∀ (d : Nat) (b : List Int), Byt b → WfL (eachF d b)
  | 0, b, h => fun x hx => by cases hx
  | d + 1, b, h => by
    rw [eachF]
    split
    · exact fun x hx => by cases hx
    · split
      · intro x hx
        rw [List.mem_singleton.1 hx]
        exact ⟨by decide, fun x hx => by cases hx⟩
      · rename_i h1 h2
        intro x hx
        rcases List.mem_cons.1 hx with rfl | hx
        · exact ⟨byt_at h (by omega), byt_drop (byt_take h _) _⟩
        · exact eachF_wf d _ (byt_drop h _) x hx
theorem eachL_wf {b : List Int} (h : Byt b) : WfL (eachL b) := eachF_wf _ b h
set_option maxRecDepth 100000 in
set_option maxHeartbeats 8000000 in
theorem parseC (A : Option Addr) (c : Nat) (b : List Int) (w : World) (h10 : 10 ≤ b.length) (hlen : b.length ≤ 1000000) (hcap : b.length ≤ c) (hw : Byt b) (hC : Kd.C KB w A b.length b) :
    Calls Try.prog 18 #[.slice A b.length c] w (ParseR b w) := by
  obtain ⟨s, hs⟩ : ∃ s, w.heap.size = s := ⟨_, rfl⟩
  have ho1 := Ob.new w [.slice A b.length c] _ rfl 30
  have hb1 := below_alloc (Below.refl w.heap.size w) (.cells #[.slice A b.length c] 30)
  obtain ⟨w1, hw1⟩ : ∃ W, w.alloc (.cells #[.slice A b.length c] 30) = W := ⟨_, rfl⟩
  have hs1 : w1.heap.size = s + 1 := by rw [← hw1, World.size_alloc, hs]
  rw [hw1, hs] at ho1 hb1
  have ho2 := Ob.new w1 [.int .u32 0, .int .u16 0, .int .u32 0, .slice none 0 0] _ rfl 26
  have hb2 := below_alloc (Below.refl w1.heap.size w1) (.cells #[.int .u32 0, .int .u16 0, .int .u32 0, .slice none 0 0] 26)
  obtain ⟨w2, hw2⟩ : ∃ W, w1.alloc (.cells #[.int .u32 0, .int .u16 0, .int .u32 0, .slice none 0 0] 26) = W := ⟨_, rfl⟩
  have hs2 : w2.heap.size = s + 1 + 1 := by rw [← hw2, World.size_alloc, hs1]
  rw [hw2, hs1] at ho2 hb2
  have hr : rdr (.slice A b.length c) 0 0 0 (.slice none 0 0) (.slice none 0 0) = [.slice A b.length c, .int .u32 0, .int .u16 0, .int .u32 0, .slice none 0 0, .slice none 0 0] := rfl
  have ho3 := Ob.new w2 (rdr (.slice A b.length c) 0 0 0 (.slice none 0 0) (.slice none 0 0)) _ rfl 67
  have hb3 := below_alloc (Below.refl w2.heap.size w2) (.cells #[.slice A b.length c, .int .u32 0, .int .u16 0, .int .u32 0, .slice none 0 0, .slice none 0 0] 67)
  obtain ⟨w3, hw3⟩ : ∃ W, w2.alloc (.cells #[.slice A b.length c, .int .u32 0, .int .u16 0, .int .u32 0, .slice none 0 0, .slice none 0 0] 67) = W := ⟨_, rfl⟩
  have hs3 : w3.heap.size = s + 1 + 1 + 1 := by rw [← hw3, World.size_alloc, hs2]
  have ho3 : Ob (s + 1 + 1) w3 (rdr (.slice A b.length c) 0 0 0 (.slice none 0 0) (.slice none 0 0)) := by rw [← hw3, ← hs2]; exact ho3
  rw [hw3, hs2] at hb3
  have ho4 := Ob.new w3 [.pointer (some ⟨s + 1 + 1, 0, none⟩)] _ rfl 63
  have hb4 := below_alloc (Below.refl w3.heap.size w3) (.cells #[.pointer (some ⟨s + 1 + 1, 0, none⟩)] 63)
  obtain ⟨w4, hw4⟩ : ∃ W, w3.alloc (.cells #[.pointer (some ⟨s + 1 + 1, 0, none⟩)] 63) = W := ⟨_, rfl⟩
  have hs4 : w4.heap.size = s + 1 + 1 + 1 + 1 := by rw [← hw4, World.size_alloc, hs3]
  rw [hw4, hs3] at ho4 hb4
  have hB24 : Below (s + 1 + 1) w2 w4 := hb3.trans (hb4.mono (by omega))
  have hB14 : Below (s + 1) w1 w4 := hb2.trans (hB24.mono (by omega))
  have hB04 : Below s w w4 := hb1.trans (hB14.mono (by omega))
  have O1 := Aside0.mk (ho1.below hB14 (by omega))
  have O2 := Aside0.mk (ho2.below hB24 (by omega))
  have O3 := Aside0.mk (ho3.below hb4 (by omega))
  have O4 := Aside0.mk ho4
  have HB := Aside0.mk hB04
  have HC := Aside0.mk (Kd.C_below hC (by rw [hs]; exact hB04))
  have HWB := Aside0.mk hw
  have HCW := Aside0.mk hC
  have HAB : Aside0 (∀ a, A = some a → a.block < s) := ⟨fun a ha => by
    obtain ⟨b', o', e', q⟩ := C_byte hC 0 (by omega)
    rw [ha] at e'
    have := Option.some.inj e'
    subst this
    rw [← hs]
    exact World.block_lt_of_cell? w _ q⟩
  have HS := Aside0.mk hs
  have HS4 := Aside0.mk hs4
  have hlI : ¬ ((b.length : Int) < 10) := by omega
  have c1 := (ho1.below hB14 (by omega) 0 _ rfl).1
  have c4 := (ho4 0 _ rfl).1
  have c12 := (ho1.below hb2 (by omega) 0 _ rfl).1
  have f5 : (5 : Int) ≤ (c : Int) := by omega
  have f9 : (9 : Int) ≤ (c : Int) := by omega
  obtain ⟨x35, hx35⟩ : ∃ x, (b.take 5).drop 3 = x := ⟨_, rfl⟩
  obtain ⟨x59, hx59⟩ : ∃ x, (b.take 9).drop 5 = x := ⟨_, rfl⟩
  have l35 : x35.length = 2 := by rw [← hx35, List.length_drop, List.length_take]; omega
  have l59 : x59.length = 4 := by rw [← hx59, List.length_drop, List.length_take]; omega
  have hw35 : Byt x35 := by rw [← hx35]; exact byt_drop (byt_take hw _) _
  have hw59 : Byt x59 := by rw [← hx59]; exact byt_drop (byt_take hw _) _
  have bd35 := num2_bd l35 hw35
  have bd59 := num4_bd l59 hw59
  obtain ⟨AH, hAH⟩ : ∃ AS, advA A 3 c 1 = AS := ⟨_, rfl⟩
  obtain ⟨AI, hAI⟩ : ∃ AS, advA A 5 c 1 = AS := ⟨_, rfl⟩
  have hhold : num2 x35 = (holdOf b : Int) := by rw [holdOf, hx35]; omega
  have hid : num4 x59 = (idOf b : Int) := by rw [idOf, hx59]; omega
  have hhl : holdOf b < 65536 := by rw [holdOf, hx35]; omega
  have hil : idOf b < 4294967296 := by rw [idOf, hx59]; omega
  obtain ⟨hn, hhn⟩ : ∃ x, holdOf b = x := ⟨_, rfl⟩
  obtain ⟨idn, hidn⟩ : ∃ x, idOf b = x := ⟨_, rfl⟩
  have HN2 := Aside0.mk (fun W (hW : Below w4.heap.size w4 W) => num2C AH (c - 3) x35 W l35 hw35 (by omega) (by
    have h1 := C_adv (by decide) (Kd.C_below HC.out hW) hcap 3 5 (by omega) (by omega) (s := 1) rfl
    rwa [hAH, hx35] at h1))
  have HN4 := Aside0.mk (fun W (hW : Below w4.heap.size w4 W) => num4C AI (c - 5) x59 W l59 hw59 (by omega) (by
    have h1 := C_adv (by decide) (Kd.C_below HC.out hW) hcap 5 9 (by omega) (by omega) (s := 1) rfl
    rwa [hAI, hx59] at h1))
  rw [hhold, hhn] at HN2
  rw [hid, hidn] at HN4
  rw [hhn] at hhl
  rw [hidn] at hil
  have HHN := Aside0.mk hhn
  have HIDN := Aside0.mk hidn
  clear ho1 ho2 ho3 ho4 hb1 hb2 hb3 hb4 hB24 hB14 hB04 hC hw hx35 hx59 l35 l59 hw35 hw59 bd35 bd59 hhold hid hhn hidn hr
  go_enter Try.func18, Try.ntmps18
  go_wp2_with fail
  go_step3
  go_wp2_with fail
  have f35 : (3 : Int) ≤ 5 := by decide
  refine region [(0, .t), (1, .t), (2, .t), (3, .p), (5, .t), (6, .p), (4, .o), (7, .o), (8, .p), (9, .p), (10, .p), (11, .o), (12, .p), (13, .p), (14, .p), (15, .e)] (fun U => U.cell? ⟨s + 1 + 1 + 1, 0, none⟩ = some (.pointer (some ⟨s + 1 + 1, 0, none⟩)) ∧ U.cell? ⟨s, 0, none⟩ = some (.slice A b.length c)) (by kernel_rfl) (by kernel_rfl) (fun _ _ _ _ _ h => h) (⟨c4, c1⟩) (fun hHeld => ?_)
  iterate 3 (refine lex_t rfl rfl rfl (by rintro w' ⟨s0, s1⟩; go_simp; with_reducible rfl) (by simp only [Act.put, List.setIfInBounds_toArray, List.set_cons_zero, List.set_cons_succ, i64_w, i32_w]; rfl) ?_)
  (refine lex_p rfl rfl rfl (by intro w'; go_simp; with_reducible rfl) (by simp only [Act.put, List.setIfInBounds_toArray, List.set_cons_zero, List.set_cons_succ, i64_w, i32_w]; rfl) ?_)
  (refine lex_t rfl rfl rfl (by rintro w' ⟨s0, s1⟩; go_simp; with_reducible rfl) (by simp only [Act.put, List.setIfInBounds_toArray, List.set_cons_zero, List.set_cons_succ, i64_w, i32_w]; rfl) ?_)
  (refine lex_p rfl rfl rfl (by intro w'; go_simp; with_reducible rfl) (by simp only [Act.put, List.setIfInBounds_toArray, List.set_cons_zero, List.set_cons_succ, i64_w, i32_w]; rfl) ?_)
  refine lex_o rfl ?_
  go_wp2_with fail
  refine (HN2.out _ (below_drew (Below.refl _ _))).mono ?_
  rintro e w5 ⟨rfl, hb5⟩
  have B5 := Aside0.mk ((below_drew (Below.refl w4.heap.size w4)).trans hb5)
  clear hb5
  go_wp2_with fail
  refine lex_end (by first | (simp only [Act.put, List.setIfInBounds_toArray, List.set_cons_zero, List.set_cons_succ, i64_w, i32_w]; rfl) | rfl) (⟨pw_cell_below B5.out c4, pw_cell_below B5.out c1⟩) (fun hHeld => ?_)
  refine lex_o rfl ?_
  go_wp2_with fail
  refine (HN4.out _ B5.out).mono ?_
  rintro e w6 ⟨rfl, hb6⟩
  have B6 := Aside0.mk (B5.out.trans (hb6.mono B5.out.size))
  have P6 := Aside0.mk (O3.out.below B6.out (by have := HS4.out; omega))
  obtain ⟨k2, m2⟩ := P6.out 2 _ rfl
  clear hb6
  go_wp2_with fail
  refine lex_end (by first | (simp only [Act.put, List.setIfInBounds_toArray, List.set_cons_zero, List.set_cons_succ, i64_w, i32_w]; rfl) | rfl) (⟨pw_cell_below B6.out c4, pw_cell_below B6.out c1⟩) (fun hHeld => ?_)
  iterate 3 (refine lex_p rfl rfl rfl (by intro w'; go_simp; with_reducible rfl) (by simp only [Act.put, List.setIfInBounds_toArray, List.set_cons_zero, List.set_cons_succ, i64_w, i32_w]; rfl) ?_)
  refine lex_o rfl ?_
  go_wp2_with fail
  have P7 := Aside0.mk (P6.out.set 2 (by simp) (.int .u16 hn))
  obtain ⟨k3, m3⟩ := P7.out 3 _ rfl
  refine lex_end (by first | (simp only [Act.put, List.setIfInBounds_toArray, List.set_cons_zero, List.set_cons_succ, i64_w, i32_w]; rfl) | rfl) (⟨by rw [World.cell?_setCell_other (h := by intro e; injection e with e1; omega)]; exact pw_cell_below B6.out c4, by rw [World.cell?_setCell_other (h := by intro e; injection e with e1; omega)]; exact pw_cell_below B6.out c1⟩) (fun hHeld => ?_)
  iterate 3 (refine lex_p rfl rfl rfl (by intro w'; go_simp; with_reducible rfl) (by simp only [Act.put, List.setIfInBounds_toArray, List.set_cons_zero, List.set_cons_succ, i64_w, i32_w]; rfl) ?_)
  refine lex_e rfl ?_
  go_wp2_with fail
  refine outP ?_
  have P8 := P7.out.set 3 (by simp) (.int .u32 idn)
  have hbut8 : But w.heap.size (fun _ => False) w ((w6.setCell ⟨s + 1 + 1, 2, none⟩ (.int .u16 hn)).setCell ⟨s + 1 + 1, 3, none⟩ (.int .u32 idn)) := by
    rw [HS.out]
    exact ((But.of (S := fun _ => False) (HB.out.trans (B6.out.mono (by have := HS4.out; omega))) (Nat.le_refl _)).setCell (p := ⟨s + 1 + 1, 2, none⟩) (.inl (by show s ≤ s + 1 + 1; omega)) _).setCell (p := ⟨s + 1 + 1, 3, none⟩) (.inl (by show s ≤ s + 1 + 1; omega)) _
  have far8 : ∀ k cs, Ob k w4 cs → k < w4.heap.size → k ≠ s + 1 + 1 → Ob k ((w6.setCell ⟨s + 1 + 1, 2, none⟩ (.int .u16 hn)).setCell ⟨s + 1 + 1, 3, none⟩ (.int .u32 idn)) cs := fun k cs h hk hne => ((h.below B6.out hk).far (q := ⟨s + 1 + 1, 2, none⟩) hne _).far (q := ⟨s + 1 + 1, 3, none⟩) hne _
  have Q1 := far8 _ _ O1.out (by have := HS4.out; omega) (by omega)
  have Q2 := far8 _ _ O2.out (by have := HS4.out; omega) (by omega)
  have Q4 := far8 _ _ O4.out (by have := HS4.out; omega) (by omega)
  have hz8 : s + 1 + 1 + 1 + 1 ≤ ((w6.setCell ⟨s + 1 + 1, 2, none⟩ (.int .u16 hn)).setCell ⟨s + 1 + 1, 3, none⟩ (.int .u32 idn)).heap.size := by have := HS4.out; have := B6.out.size; simp; omega
  obtain ⟨w8, hw8⟩ : ∃ W, (w6.setCell ⟨s + 1 + 1, 2, none⟩ (.int .u16 hn)).setCell ⟨s + 1 + 1, 3, none⟩ (.int .u32 idn) = W := ⟨_, rfl⟩
  rw [hw8] at P8 hbut8 Q1 Q2 Q4 hz8 ⊢
  have P8 : Ob (s + 1 + 1) w8 (rdr (.slice A b.length c) 0 hn idn (.slice none 0 0) (.slice none 0 0)) := P8
  clear far8 hw8
  obtain ⟨z, hz⟩ : ∃ z, w8.heap.size = z := ⟨_, rfl⟩
  rw [hz] at hz8
  have hz9 : s + 1 + 1 + 1 < z := by omega
  have ho9 := Ob.new w8 (stepsV s (s + 1 + 1) (s + 1 + 1 + 1)) #[.func (.func 35) #[] #[.pointer (some ⟨s, 0, none⟩)], .int .i64 281, .func (.func 36) #[] #[.pointer (some ⟨s + 1 + 1 + 1, 0, none⟩)], .int .i64 282, .func (.func 37) #[] #[.pointer (some ⟨s + 1 + 1 + 1, 0, none⟩)], .int .i64 283, .func (.func 38) #[.pointer (some ⟨s + 1 + 1, 0, none⟩)] #[], .int .i64 284, .func (.func 39) #[.pointer (some ⟨s + 1 + 1, 0, none⟩)] #[], .int .i64 285] rfl 70
  have hb9 := below_alloc (Below.refl w8.heap.size w8) (.cells #[.func (.func 35) #[] #[.pointer (some ⟨s, 0, none⟩)], .int .i64 281, .func (.func 36) #[] #[.pointer (some ⟨s + 1 + 1 + 1, 0, none⟩)], .int .i64 282, .func (.func 37) #[] #[.pointer (some ⟨s + 1 + 1 + 1, 0, none⟩)], .int .i64 283, .func (.func 38) #[.pointer (some ⟨s + 1 + 1, 0, none⟩)] #[], .int .i64 284, .func (.func 39) #[.pointer (some ⟨s + 1 + 1, 0, none⟩)] #[], .int .i64 285] 70)
  obtain ⟨w9, hw9⟩ : ∃ W, w8.alloc (.cells #[.func (.func 35) #[] #[.pointer (some ⟨s, 0, none⟩)], .int .i64 281, .func (.func 36) #[] #[.pointer (some ⟨s + 1 + 1 + 1, 0, none⟩)], .int .i64 282, .func (.func 37) #[] #[.pointer (some ⟨s + 1 + 1 + 1, 0, none⟩)], .int .i64 283, .func (.func 38) #[.pointer (some ⟨s + 1 + 1, 0, none⟩)] #[], .int .i64 284, .func (.func 39) #[.pointer (some ⟨s + 1 + 1, 0, none⟩)] #[], .int .i64 285] 70) = W := ⟨_, rfl⟩
  have hs9 : w9.heap.size = z + 1 := by rw [← hw9, World.size_alloc, hz]
  rw [hw9, hz] at ho9 hb9
  have c4 := (Q4 0 _ rfl).1
  have hmf : ∀ (fn : Fn) (first cap : Array Value) (W : World), (Instr.makeFunc fn first cap).run Try.prog W = .ok (.func fn first cap) W := fun _ _ _ _ => rfl
  have P8 := Aside0.mk P8
  have B8 := Aside0.mk hbut8
  have Q1 := Aside0.mk (Q1.below hb9 (by omega))
  have Q2 := Aside0.mk (Q2.below hb9 (by omega))
  have Q4 := Aside0.mk (Q4.below hb9 (by omega))
  have O9 := Aside0.mk ho9
  have HB9 := Aside0.mk hb9
  clear hbut8 ho9 hb9
  go_wp2_with fail
  -- LOOP
  have HL := eachL (b.drop 12)
  clear HL
  obtain ⟨L, hL⟩ : ∃ L, eachL (b.drop 12) = L := ⟨_, rfl⟩
  have HL := Aside0.mk hL
  have hwL : WfL L := by rw [← hL]; exact eachL_wf (byt_drop HWB.out 12)
  have HWL := Aside0.mk hwL
  have HPI : Aside0 (PI b A c w s z hn idn L 0 w9) := ⟨by
    refine ⟨?_, by omega, Q1.out, Q2.out, Q4.out, O9.out, ⟨fun h => by omega, fun h => by omega, fun h => by omega, fun h => by omega, fun h => by omega⟩, fun _ => P8.out.below HB9.out (by omega), fun h => by omega, fun h => by omega⟩
    have := B8.out
    rw [HS.out] at this
    exact this.then HB9.out (by omega)⟩
  have HCw := Aside0.mk HC.out
  have hHS := HS.out
  have HHL := Aside0.mk hhl
  have HIL := Aside0.mk hil
  clear hL hwL hw9 hs9 c4 hmf c1 c12 hs hw1 hw2 hw3 hw4 hs1 hs2 hs3 hs4 hHS
  go_step3
  go_wp2_with fail
  go_loopg [3, 45] 5 (fun gk s3 s45 W => ∃ k : Nat, k ≤ 5 ∧ 5 - k ≤ gk ∧ s45 = .int .i64 k ∧ s3 = .int .i64 0 ∧ Aside0 (PI b A c w s z hn idn L k W))
  case atStart => exact ⟨0, by omega, by omega, rfl, rfl, HPI⟩
  case round =>
    clear HPI
    obtain ⟨k, hk, hgk, rfl, rfl, HP⟩ := hrel
    obtain ⟨g, hg⟩ : ∃ g, wr.heap.size = g := ⟨_, rfl⟩
    have hgz := HP.out.sz
    rw [hg] at hgz
    by_cases hlt : k < 5
    · have hcase : k = 0 ∨ k = 1 ∨ k = 2 ∨ k = 3 ∨ k = 4 := by omega
      rcases hcase with rfl | rfl | rfl | rfl | rfl
      · have hzc := (HP.out.o9 0 _ rfl).1
        have hzd := (HP.out.o9 1 _ rfl).1
        have hon := Ob.new wr [.func (.func 35) #[] #[.pointer (some ⟨s, 0, none⟩)], .int .i64 281] _ rfl 70
        have hbn := below_alloc (Below.refl wr.heap.size wr) (.cells #[.func (.func 35) #[] #[.pointer (some ⟨s, 0, none⟩)], .int .i64 281] 70)
        obtain ⟨X, hX⟩ : ∃ X, wr.alloc (.cells #[.func (.func 35) #[] #[.pointer (some ⟨s, 0, none⟩)], .int .i64 281] 70) = X := ⟨_, rfl⟩
        have hXs : X.heap.size = g + 1 := by rw [← hX, World.size_alloc, hg]
        rw [hX] at hon hbn
        rw [hg] at hon
        have HX := Aside0.mk (HP.out.alloc hbn hz9)
        have HON := Aside0.mk hon
        have HXS := Aside0.mk hXs
        have gc0 := (hon 0 _ rfl).1
        have HCALL : Aside0 (Calls Try.prog 35 #[.pointer (some ⟨s, 0, none⟩)] X (StepR b A c s z hn idn L 1 281 X)) := ⟨by
          refine (test1 s A c b X (HX.out.o1 0 _ rfl).1 (HX.out.c HS.out HCW.out) (by omega)).mono ?_
          rintro e Y ⟨rfl, rfl⟩
          refine ⟨_, rfl, But.refl _ _ _, fun ht => ⟨⟨fun _ => by simpa using ht, fun h => by omega, fun h => by omega, fun h => by omega, fun h => by omega⟩, fun _ => HX.out.r0 (by omega), fun h => by omega, fun h => by omega⟩, fun ht => ?_⟩
          rw [parseN, if_neg (by omega), if_pos (by simpa using ht)]⟩
        clear hon hbn HP
        go_wp2_with fail
        refine HCALL.out.mono ?_
        rintro e Y ⟨t, rfl, hbY, hyes, hno⟩
        have HY := Aside0.mk (fun ht => HX.out.next hbY hz9 (hyes ht))
        have HNO := Aside0.mk hno
        have gc1 := (HON.out.but hbY (by omega) (fun e => by omega) 1 _ rfl).1
        have oY2 := HX.out.o2.but hbY (by have := HX.out.sz; omega) (fun e => by omega)
        have bY := (HX.out.but).trans (hbY.mono (by have := HX.out.sz; omega) (fun k hk e => by omega))
        have OY2 := Aside0.mk oY2
        have BY := Aside0.mk bY
        have HYZ := Aside0.mk (Nat.le_trans HX.out.sz hbY.size)
        clear hbY hyes hno HCALL oY2 bY
        cases t with
        | true =>
          have HY1 := Aside0.mk (HY.out rfl)
          clear HY
          go_wp2_with fail
          go_roundg (gk - 1)
          case measure => omega
          case rel => exact ⟨1, by omega, by omega, by go_num, rfl, HY1⟩
        | false =>
          have HN1 := Aside0.mk (HNO.out rfl)
          clear HNO HY
          obtain ⟨W', hst, hO', hbut⟩ := storeS (cO zo none 0) 26 OY2.out rfl (size26 _ _ _) (by simp [Value.oneCell'])
          have HLD := Aside0.mk (loadS 26 OY2.out Try.underlying26 (size26 zo none 0))
          have HLE := Aside0.mk (loadS 26 hO' Try.underlying26 (size26 zo none 0))
          have HST := Aside0.mk hst
          have HBT := Aside0.mk hbut
          clear hst hO' hbut
          go_wp2_with (first | (refine pl_load rfl 26 _ rfl _ _ HLD.out rfl ?_) | (refine pl_store rfl 26 _ _ rfl _ _ HST.out rfl rfl ?_))
          rw [Exit.noGoto_ret]
          refine bodyPost_ret (results_cell_tmp rfl _ _ (s + 1) _ rfl HLE.out) rfl ?_
          refine ⟨none, 0, by rw [HN1.out]; rfl, by rw [HN1.out]; exact Nat.le_refl _, by rw [HN1.out]; exact Kd.F_nil _ _ _, ?_⟩
          rw [HS.out]
          exact (BY.out.trans (HBT.out.mono (n' := s) (S' := fun _ => False) (by have := HYZ.out; omega) (fun k hk e => by have e : k = s + 1 := e; omega))).below (Nat.le_refl _) (fun _ _ h => h)
      · have hzc := (HP.out.o9 2 _ rfl).1
        have hzd := (HP.out.o9 3 _ rfl).1
        have hon := Ob.new wr [.func (.func 36) #[] #[.pointer (some ⟨s + 1 + 1 + 1, 0, none⟩)], .int .i64 282] _ rfl 70
        have hbn := below_alloc (Below.refl wr.heap.size wr) (.cells #[.func (.func 36) #[] #[.pointer (some ⟨s + 1 + 1 + 1, 0, none⟩)], .int .i64 282] 70)
        obtain ⟨X, hX⟩ : ∃ X, wr.alloc (.cells #[.func (.func 36) #[] #[.pointer (some ⟨s + 1 + 1 + 1, 0, none⟩)], .int .i64 282] 70) = X := ⟨_, rfl⟩
        have hXs : X.heap.size = g + 1 := by rw [← hX, World.size_alloc, hg]
        rw [hX] at hon hbn
        rw [hg] at hon
        have HX := Aside0.mk (HP.out.alloc hbn hz9)
        have HON := Aside0.mk hon
        have HXS := Aside0.mk hXs
        have gc0 := (hon 0 _ rfl).1
        have HCALL : Aside0 (Calls Try.prog 36 #[.pointer (some ⟨s + 1 + 1 + 1, 0, none⟩)] X (StepR b A c s z hn idn L 2 282 X)) := ⟨by
          refine (test2 (s + 1 + 1 + 1) (s + 1 + 1) hn X (HX.out.o4 0 _ rfl).1 (HX.out.r0 (by omega) 2 _ rfl).1).mono ?_
          rintro e Y ⟨rfl, rfl⟩
          refine ⟨_, rfl, But.refl _ _ _, fun ht => ⟨⟨fun _ => HX.out.ps.1 (by omega), fun _ => by rw [HHN.out]; have := of_decide_eq_true ht; omega, fun h => by omega, fun h => by omega, fun h => by omega⟩, fun _ => HX.out.r0 (by omega), fun h => by omega, fun h => by omega⟩, fun ht => ?_⟩
          rw [parseN, if_neg (by omega), if_neg (by rw [HX.out.ps.1 (by omega)]; simp), if_pos (by rw [HHN.out]; have := of_decide_eq_false ht; omega)]⟩
        clear hon hbn HP
        go_wp2_with fail
        refine HCALL.out.mono ?_
        rintro e Y ⟨t, rfl, hbY, hyes, hno⟩
        have HY := Aside0.mk (fun ht => HX.out.next hbY hz9 (hyes ht))
        have HNO := Aside0.mk hno
        have gc1 := (HON.out.but hbY (by omega) (fun e => by omega) 1 _ rfl).1
        have oY2 := HX.out.o2.but hbY (by have := HX.out.sz; omega) (fun e => by omega)
        have bY := (HX.out.but).trans (hbY.mono (by have := HX.out.sz; omega) (fun k hk e => by omega))
        have OY2 := Aside0.mk oY2
        have BY := Aside0.mk bY
        have HYZ := Aside0.mk (Nat.le_trans HX.out.sz hbY.size)
        clear hbY hyes hno HCALL oY2 bY
        cases t with
        | true =>
          have HY1 := Aside0.mk (HY.out rfl)
          clear HY
          go_wp2_with fail
          go_roundg (gk - 1)
          case measure => omega
          case rel => exact ⟨2, by omega, by omega, by go_num, rfl, HY1⟩
        | false =>
          have HN1 := Aside0.mk (HNO.out rfl)
          clear HNO HY
          obtain ⟨W', hst, hO', hbut⟩ := storeS (cO zo none 0) 26 OY2.out rfl (size26 _ _ _) (by simp [Value.oneCell'])
          have HLD := Aside0.mk (loadS 26 OY2.out Try.underlying26 (size26 zo none 0))
          have HLE := Aside0.mk (loadS 26 hO' Try.underlying26 (size26 zo none 0))
          have HST := Aside0.mk hst
          have HBT := Aside0.mk hbut
          clear hst hO' hbut
          go_wp2_with (first | (refine pl_load rfl 26 _ rfl _ _ HLD.out rfl ?_) | (refine pl_store rfl 26 _ _ rfl _ _ HST.out rfl rfl ?_))
          rw [Exit.noGoto_ret]
          refine bodyPost_ret (results_cell_tmp rfl _ _ (s + 1) _ rfl HLE.out) rfl ?_
          refine ⟨none, 0, by rw [HN1.out]; rfl, by rw [HN1.out]; exact Nat.le_refl _, by rw [HN1.out]; exact Kd.F_nil _ _ _, ?_⟩
          rw [HS.out]
          exact (BY.out.trans (HBT.out.mono (n' := s) (S' := fun _ => False) (by have := HYZ.out; omega) (fun k hk e => by have e : k = s + 1 := e; omega))).below (Nat.le_refl _) (fun _ _ h => h)
      · have hzc := (HP.out.o9 4 _ rfl).1
        have hzd := (HP.out.o9 5 _ rfl).1
        have hon := Ob.new wr [.func (.func 37) #[] #[.pointer (some ⟨s + 1 + 1 + 1, 0, none⟩)], .int .i64 283] _ rfl 70
        have hbn := below_alloc (Below.refl wr.heap.size wr) (.cells #[.func (.func 37) #[] #[.pointer (some ⟨s + 1 + 1 + 1, 0, none⟩)], .int .i64 283] 70)
        obtain ⟨X, hX⟩ : ∃ X, wr.alloc (.cells #[.func (.func 37) #[] #[.pointer (some ⟨s + 1 + 1 + 1, 0, none⟩)], .int .i64 283] 70) = X := ⟨_, rfl⟩
        have hXs : X.heap.size = g + 1 := by rw [← hX, World.size_alloc, hg]
        rw [hX] at hon hbn
        rw [hg] at hon
        have HX := Aside0.mk (HP.out.alloc hbn hz9)
        have HON := Aside0.mk hon
        have HXS := Aside0.mk hXs
        have gc0 := (hon 0 _ rfl).1
        have HCALL : Aside0 (Calls Try.prog 37 #[.pointer (some ⟨s + 1 + 1 + 1, 0, none⟩)] X (StepR b A c s z hn idn L 3 283 X)) := ⟨by
          refine (test3 (s + 1 + 1 + 1) (s + 1 + 1) idn X (HX.out.o4 0 _ rfl).1 (HX.out.r0 (by omega) 3 _ rfl).1).mono ?_
          rintro e Y ⟨rfl, rfl⟩
          refine ⟨_, rfl, But.refl _ _ _, fun ht => ⟨⟨fun _ => HX.out.ps.1 (by omega), fun _ => HX.out.ps.2.1 (by omega), fun _ => by rw [HIDN.out]; simp at ht; omega, fun h => by omega, fun h => by omega⟩, fun _ => HX.out.r0 (by omega), fun h => by omega, fun h => by omega⟩, fun ht => ?_⟩
          rw [parseN, if_neg (by omega), if_neg (by rw [HX.out.ps.1 (by omega)]; simp), if_neg (HX.out.ps.2.1 (by omega)), if_pos (by rw [HIDN.out]; simp at ht; omega)]⟩
        clear hon hbn HP
        go_wp2_with fail
        refine HCALL.out.mono ?_
        rintro e Y ⟨t, rfl, hbY, hyes, hno⟩
        have HY := Aside0.mk (fun ht => HX.out.next hbY hz9 (hyes ht))
        have HNO := Aside0.mk hno
        have gc1 := (HON.out.but hbY (by omega) (fun e => by omega) 1 _ rfl).1
        have oY2 := HX.out.o2.but hbY (by have := HX.out.sz; omega) (fun e => by omega)
        have bY := (HX.out.but).trans (hbY.mono (by have := HX.out.sz; omega) (fun k hk e => by omega))
        have OY2 := Aside0.mk oY2
        have BY := Aside0.mk bY
        have HYZ := Aside0.mk (Nat.le_trans HX.out.sz hbY.size)
        clear hbY hyes hno HCALL oY2 bY
        cases t with
        | true =>
          have HY1 := Aside0.mk (HY.out rfl)
          clear HY
          go_wp2_with fail
          go_roundg (gk - 1)
          case measure => omega
          case rel => exact ⟨3, by omega, by omega, by go_num, rfl, HY1⟩
        | false =>
          have HN1 := Aside0.mk (HNO.out rfl)
          clear HNO HY
          obtain ⟨W', hst, hO', hbut⟩ := storeS (cO zo none 0) 26 OY2.out rfl (size26 _ _ _) (by simp [Value.oneCell'])
          have HLD := Aside0.mk (loadS 26 OY2.out Try.underlying26 (size26 zo none 0))
          have HLE := Aside0.mk (loadS 26 hO' Try.underlying26 (size26 zo none 0))
          have HST := Aside0.mk hst
          have HBT := Aside0.mk hbut
          clear hst hO' hbut
          go_wp2_with (first | (refine pl_load rfl 26 _ rfl _ _ HLD.out rfl ?_) | (refine pl_store rfl 26 _ _ rfl _ _ HST.out rfl rfl ?_))
          rw [Exit.noGoto_ret]
          refine bodyPost_ret (results_cell_tmp rfl _ _ (s + 1) _ rfl HLE.out) rfl ?_
          refine ⟨none, 0, by rw [HN1.out]; rfl, by rw [HN1.out]; exact Nat.le_refl _, by rw [HN1.out]; exact Kd.F_nil _ _ _, ?_⟩
          rw [HS.out]
          exact (BY.out.trans (HBT.out.mono (n' := s) (S' := fun _ => False) (by have := HYZ.out; omega) (fun k hk e => by have e : k = s + 1 := e; omega))).below (Nat.le_refl _) (fun _ _ h => h)
      · have hzc := (HP.out.o9 6 _ rfl).1
        have hzd := (HP.out.o9 7 _ rfl).1
        have hon := Ob.new wr [.func (.func 38) #[.pointer (some ⟨s + 1 + 1, 0, none⟩)] #[], .int .i64 284] _ rfl 70
        have hbn := below_alloc (Below.refl wr.heap.size wr) (.cells #[.func (.func 38) #[.pointer (some ⟨s + 1 + 1, 0, none⟩)] #[], .int .i64 284] 70)
        obtain ⟨X, hX⟩ : ∃ X, wr.alloc (.cells #[.func (.func 38) #[.pointer (some ⟨s + 1 + 1, 0, none⟩)] #[], .int .i64 284] 70) = X := ⟨_, rfl⟩
        have hXs : X.heap.size = g + 1 := by rw [← hX, World.size_alloc, hg]
        rw [hX] at hon hbn
        rw [hg] at hon
        have HX := Aside0.mk (HP.out.alloc hbn hz9)
        have HON := Aside0.mk hon
        have HXS := Aside0.mk hXs
        have gc0 := (hon 0 _ rfl).1
        have HCALL : Aside0 (Calls Try.prog 38 #[.pointer (some ⟨s + 1 + 1, 0, none⟩)] X (StepR b A c s z hn idn L 4 284 X)) := ⟨by
          refine (paramsC (s + 1 + 1) 0 hn idn A c b (.slice none 0 0) X (HX.out.r0 (by omega)) (HX.out.c HS.out HCW.out) hcap (fun a ha e => by have := HAB.out a ha; omega) h10 hlen HWB.out).mono ?_
          rw [HL.out]
          rintro e Y ⟨hbY, rfl, hyes⟩
          refine ⟨_, rfl, hbY, fun ht => ⟨⟨fun _ => HX.out.ps.1 (by omega), fun _ => HX.out.ps.2.1 (by omega), fun _ => HX.out.ps.2.2.1 (by omega), fun _ => ?_, fun h => by omega⟩, fun h => by omega, fun _ => ?_, fun h => by omega⟩, fun ht => ?_⟩
          · rw [HL.out]
            simpa using ht
          · obtain ⟨v, h1, h2⟩ := hyes ht
            exact ⟨v, h1, Kd.N_mono (Kd.N_lower h2 (by have := HX.out.sz; omega)) (fun k hk => Nat.le_trans HX.out.sz hk)⟩
          · rw [parseN, if_neg (by omega), if_neg (by rw [HX.out.ps.1 (by omega)]; simp), if_neg (HX.out.ps.2.1 (by omega)), if_neg (HX.out.ps.2.2.1 (by omega)), if_pos (by rw [HL.out]; rcases Bool.and_eq_false_iff.1 ht with h | h; exact .inl h; exact .inr h)]⟩
        clear hon hbn HP
        go_wp2_with fail
        refine HCALL.out.mono ?_
        rintro e Y ⟨t, rfl, hbY, hyes, hno⟩
        have HY := Aside0.mk (fun ht => HX.out.next hbY hz9 (hyes ht))
        have HNO := Aside0.mk hno
        have gc1 := (HON.out.but hbY (by omega) (fun e => by omega) 1 _ rfl).1
        have oY2 := HX.out.o2.but hbY (by have := HX.out.sz; omega) (fun e => by omega)
        have bY := (HX.out.but).trans (hbY.mono (by have := HX.out.sz; omega) (fun k hk e => by omega))
        have OY2 := Aside0.mk oY2
        have BY := Aside0.mk bY
        have HYZ := Aside0.mk (Nat.le_trans HX.out.sz hbY.size)
        clear hbY hyes hno HCALL oY2 bY
        cases t with
        | true =>
          have HY1 := Aside0.mk (HY.out rfl)
          clear HY
          go_wp2_with fail
          go_roundg (gk - 1)
          case measure => omega
          case rel => exact ⟨4, by omega, by omega, by go_num, rfl, HY1⟩
        | false =>
          have HN1 := Aside0.mk (HNO.out rfl)
          clear HNO HY
          obtain ⟨W', hst, hO', hbut⟩ := storeS (cO zo none 0) 26 OY2.out rfl (size26 _ _ _) (by simp [Value.oneCell'])
          have HLD := Aside0.mk (loadS 26 OY2.out Try.underlying26 (size26 zo none 0))
          have HLE := Aside0.mk (loadS 26 hO' Try.underlying26 (size26 zo none 0))
          have HST := Aside0.mk hst
          have HBT := Aside0.mk hbut
          clear hst hO' hbut
          go_wp2_with (first | (refine pl_load rfl 26 _ rfl _ _ HLD.out rfl ?_) | (refine pl_store rfl 26 _ _ rfl _ _ HST.out rfl rfl ?_))
          rw [Exit.noGoto_ret]
          refine bodyPost_ret (results_cell_tmp rfl _ _ (s + 1) _ rfl HLE.out) rfl ?_
          refine ⟨none, 0, by rw [HN1.out]; rfl, by rw [HN1.out]; exact Nat.le_refl _, by rw [HN1.out]; exact Kd.F_nil _ _ _, ?_⟩
          rw [HS.out]
          exact (BY.out.trans (HBT.out.mono (n' := s) (S' := fun _ => False) (by have := HYZ.out; omega) (fun k hk e => by have e : k = s + 1 := e; omega))).below (Nat.le_refl _) (fun _ _ h => h)
      · have hzc := (HP.out.o9 8 _ rfl).1
        have hzd := (HP.out.o9 9 _ rfl).1
        have hon := Ob.new wr [.func (.func 39) #[.pointer (some ⟨s + 1 + 1, 0, none⟩)] #[], .int .i64 285] _ rfl 70
        have hbn := below_alloc (Below.refl wr.heap.size wr) (.cells #[.func (.func 39) #[.pointer (some ⟨s + 1 + 1, 0, none⟩)] #[], .int .i64 285] 70)
        obtain ⟨X, hX⟩ : ∃ X, wr.alloc (.cells #[.func (.func 39) #[.pointer (some ⟨s + 1 + 1, 0, none⟩)] #[], .int .i64 285] 70) = X := ⟨_, rfl⟩
        have hXs : X.heap.size = g + 1 := by rw [← hX, World.size_alloc, hg]
        rw [hX] at hon hbn
        rw [hg] at hon
        have HX := Aside0.mk (HP.out.alloc hbn hz9)
        have HON := Aside0.mk hon
        have HXS := Aside0.mk hXs
        have gc0 := (hon 0 _ rfl).1
        have HCALL : Aside0 (Calls Try.prog 39 #[.pointer (some ⟨s + 1 + 1, 0, none⟩)] X (StepR b A c s z hn idn L 5 285 X)) := ⟨by
          obtain ⟨v4, h14, h24⟩ := HX.out.r4 rfl
          refine (asC (s + 1 + 1) (z + 1) 0 hn idn A c b (.slice none 0 0) v4 L X h14 h24 HX.out.sz (by omega) (HX.out.c HS.out HCW.out) hcap (fun a ha e => by have := HAB.out a ha; omega) h10 HWB.out HWL.out).mono ?_
          rintro e Y ⟨rfl, hbY, hyes⟩
          refine ⟨_, rfl, hbY, fun ht => ⟨⟨fun _ => HX.out.ps.1 (by omega), fun _ => HX.out.ps.2.1 (by omega), fun _ => HX.out.ps.2.2.1 (by omega), fun _ => HX.out.ps.2.2.2.1 (by omega), fun _ => ht⟩, fun h => by omega, fun h => by omega, fun _ => ?_⟩, fun ht => ?_⟩
          · obtain ⟨A1, c1, h3, h4, h5⟩ := hyes ht
            exact ⟨A1, c1, _, h3, h4, h5⟩
          · obtain ⟨e1, e2⟩ := HX.out.ps.2.2.2.1 (by omega)
            rw [parseN, if_neg (by omega), if_neg (by rw [HX.out.ps.1 (by omega)]; simp), if_neg (HX.out.ps.2.1 (by omega)), if_neg (HX.out.ps.2.2.1 (by omega)), if_neg (by rw [e1, e2]; simp), if_pos (by rw [HL.out]; exact ht)]⟩
        clear hon hbn HP
        go_wp2_with fail
        refine HCALL.out.mono ?_
        rintro e Y ⟨t, rfl, hbY, hyes, hno⟩
        have HY := Aside0.mk (fun ht => HX.out.next hbY hz9 (hyes ht))
        have HNO := Aside0.mk hno
        have gc1 := (HON.out.but hbY (by omega) (fun e => by omega) 1 _ rfl).1
        have oY2 := HX.out.o2.but hbY (by have := HX.out.sz; omega) (fun e => by omega)
        have bY := (HX.out.but).trans (hbY.mono (by have := HX.out.sz; omega) (fun k hk e => by omega))
        have OY2 := Aside0.mk oY2
        have BY := Aside0.mk bY
        have HYZ := Aside0.mk (Nat.le_trans HX.out.sz hbY.size)
        clear hbY hyes hno HCALL oY2 bY
        cases t with
        | true =>
          have HY1 := Aside0.mk (HY.out rfl)
          clear HY
          go_wp2_with fail
          go_roundg (gk - 1)
          case measure => omega
          case rel => exact ⟨5, by omega, by omega, by go_num, rfl, HY1⟩
        | false =>
          have HN1 := Aside0.mk (HNO.out rfl)
          clear HNO HY
          obtain ⟨W', hst, hO', hbut⟩ := storeS (cO zo none 0) 26 OY2.out rfl (size26 _ _ _) (by simp [Value.oneCell'])
          have HLD := Aside0.mk (loadS 26 OY2.out Try.underlying26 (size26 zo none 0))
          have HLE := Aside0.mk (loadS 26 hO' Try.underlying26 (size26 zo none 0))
          have HST := Aside0.mk hst
          have HBT := Aside0.mk hbut
          clear hst hO' hbut
          go_wp2_with (first | (refine pl_load rfl 26 _ rfl _ _ HLD.out rfl ?_) | (refine pl_store rfl 26 _ _ rfl _ _ HST.out rfl rfl ?_))
          rw [Exit.noGoto_ret]
          refine bodyPost_ret (results_cell_tmp rfl _ _ (s + 1) _ rfl HLE.out) rfl ?_
          refine ⟨none, 0, by rw [HN1.out]; rfl, by rw [HN1.out]; exact Nat.le_refl _, by rw [HN1.out]; exact Kd.F_nil _ _ _, ?_⟩
          rw [HS.out]
          exact (BY.out.trans (HBT.out.mono (n' := s) (S' := fun _ => False) (by have := HYZ.out; omega) (fun k hk e => by have e : k = s + 1 := e; omega))).below (Nat.le_refl _) (fun _ _ h => h)
    · obtain rfl : k = 5 := by omega
      obtain ⟨A1, c1, v, hc1, h3, h4⟩ := HP.out.r5 rfl
      have e5 : parseN b = (⟨asOf L, hn, idn, L.tail⟩, 0) := by
        obtain ⟨p0, p1, p2, p3, p4⟩ := HP.out.ps
        obtain ⟨e1, e2⟩ := p3 (by omega)
        rw [parseN, if_neg (by omega), if_neg (by rw [p0 (by omega)]; simp), if_neg (p1 (by omega)), if_neg (p2 (by omega)), if_neg (by rw [e1, e2]; simp), if_neg (by rw [HL.out, p4 (by omega)]; simp), HL.out, HHN.out, HIDN.out]
      obtain ⟨W', hst, hO', hbut⟩ := storeS (cO ⟨asOf L, hn, idn, L.tail⟩ A1 c1) 26 HP.out.o2 rfl (size26 _ _ _) (by simp [Value.oneCell'])
      have HLD := Aside0.mk (show (loadVar 26 ⟨s + 1 + 1, 1, none⟩).run Try.prog wr = .ok (.agg (cO ⟨asOf L, hn, idn, L.tail⟩ A1 c1).toArray) wr from run_loadVar_mid wr (s + 1 + 1) 1 26 _ _ (fun j u hj => (h3 (1 + j) u (by
        match j, hj with
        | 0, hj => exact hj
        | 1, hj => exact hj
        | 2, hj => exact hj
        | 3, hj => exact hj
        | j + 4, hj => simp at hj)).1) Try.underlying26 rfl (size26 ⟨asOf L, hn, idn, L.tail⟩ A1 c1))
      have HLE := Aside0.mk (loadS 26 hO' Try.underlying26 (size26 ⟨asOf L, hn, idn, L.tail⟩ A1 c1))
      have HST := Aside0.mk hst
      have c4 := (HP.out.o4 0 _ rfl).1
      have HE5 := Aside0.mk e5
      have H4 := Aside0.mk (Kd.F_step (W1 := W') h4 (fun k hk hlt => hbut.block k hlt (fun e => by have e : k = s + 1 := e; have hk : z + 1 ≤ k := hk; omega)))
      have HBT := Aside0.mk (HP.out.but.trans (hbut.mono (n' := s) (S' := fun _ => False) (by omega) (fun k hk e => by have e : k = s + 1 := e; omega)))
      clear hst hO' hbut h3 h4 e5
      go_wp2_with (first | (refine pl_load rfl 26 _ rfl _ _ HLD.out rfl ?_) | (refine pl_store rfl 26 _ _ rfl _ _ HST.out rfl rfl ?_))
      rw [Exit.noGoto_ret]
      refine bodyPost_ret (results_cell_tmp rfl _ _ (s + 1) _ rfl HLE.out) rfl ?_
      refine ⟨A1, c1, by rw [HE5.out]; rfl, by rw [HE5.out]; exact hc1, by rw [HE5.out, HS.out]; exact Kd.F_mono H4.out (fun k hk => by have hk : z + 1 ≤ k := hk; show s ≤ k; omega), ?_⟩
      rw [HS.out]
      exact HBT.out.below (Nat.le_refl _) (fun _ _ h => h)
end Go.Proofs.Yticilaoibjbgfaa.Op

set_option linter.unusedSimpArgs false
set_option linter.unusedVariables false
namespace Go.Proofs.Yticilaoibjbgfaa.Op
open Go.RowKit Go.Proofs.YticilaoibjbgfaaW.PrintWords Go.Proofs.YticilaoibjbgfaaW.PrintLast Go.Proofs.YticilaoibjbgfaaW.PrintMore Go.Proofs.Yticilaoibjbgfaa.POpenRaws Go.Proofs.Yticilaoibjbgfaa.Lib Go.Proofs.Yticilaoibjbgfaa.High
def eachOF : Nat → List Int → Option (List S54)
  | 0, _ => some []
  | d + 1, b =>
    if b.length = 0 then some [] else if b.length < 2 ∨ (b.length : Int) < 2 + b.getD 1 0 then none
    else (eachOF d (b.drop (2 + (b.getD 1 0).toNat))).map (fun r => ⟨b.getD 0 0, (b.take (2 + (b.getD 1 0).toNat)).drop 2⟩ :: r)
theorem each_o : ∀ (d : Nat) (b : List Int), (∀ l, eachOF d b = some l → eachF d b = l) ∧ (eachOF d b = none → ∃ l, eachF d b = l ++ [z54])
  | 0, b => ⟨fun l h => by rw [eachOF] at h; rw [eachF]; exact Option.some.inj h, fun h => by rw [eachOF] at h; cases h⟩
  | d + 1, b => by
    rw [eachOF, eachF]
    split
    · exact ⟨fun l h => Option.some.inj h, fun h => by cases h⟩
    · split
      · exact ⟨fun l h => (by cases h), fun _ => ⟨[], rfl⟩⟩
      · obtain ⟨h1, h2⟩ := each_o d (b.drop (2 + (b.getD 1 0).toNat))
        cases ho : eachOF d (b.drop (2 + (b.getD 1 0).toNat)) with
        | none =>
          obtain ⟨l, hl⟩ := h2 ho
          exact ⟨fun l h => (by cases h), fun _ => ⟨_ :: l, by rw [hl]; rfl⟩⟩
        | some r =>
          rw [h1 r ho]
          exact ⟨fun l h => by rw [Option.map_some] at h; exact Option.some.inj h, fun h => by cases h⟩
def chkA (l : List S54) (j : Nat) : Bool := !((l.getD j z54).f0 == 0) && (decide ((l.getD j z54).f1.length ≤ 100) && (decide (j ≤ 1) || decide ((l.getD (j - 1) z54).f0 < (l.getD j z54).f0)))
def chk (l : List S54) : Bool := (List.range l.length).all (chkA l)
theorem chk_yes {l : List S54} (h : ∀ j, j < l.length → chkA l j = true) : chk l = true := by
  rw [chk, List.all_eq_true]
  exact fun j hj => h j (List.mem_range.1 hj)
theorem chk_no {l : List S54} {j : Nat} (hj : j < l.length) (h : chkA l j = false) : chk l = false := by
  rw [chk, List.all_eq_false]
  exact ⟨j, List.mem_range.2 hj, by rw [h]; simp⟩
def capsFin (l : List S54) : List S54 × Bool := if 9 < l.length then ([], false) else if chk l = true then (l, true) else ([], false)
def capsRes (out : List S54) : Option (List S54) → List S54 × Bool
  | none => ([], false)
  | some l => capsFin (out ++ l)
theorem caps_l1 (l : List S54) (hl : l.length ≤ 9) (hw : WfL l) : ∀ (d j : Nat), j + d = l.length → (∀ i, i < j → chkA l i = true) → pursuivantref18_caps.l1 (d + 1) l j = some (if chk l = true then (l, true) else ([], false))
  | 0, j, hj, hp => by
    rw [pursuivantref18_caps.l1, if_neg (by omega), if_pos (chk_yes (fun i hi => hp i (by omega)))]
  | d + 1, j, hj, hp => by
    have hwj := hw _ (getD_mem l j z54 (by omega))
    rw [pursuivantref18_caps.l1, if_pos (by omega), if_pos (by omega), rd_at, id64 _ (by have := hwj.1; omega) (by have := hwj.1; omega)]
    have next : chkA l j = true → pursuivantref18_caps.l1 (d + 1) l ((j + 1 : Nat) : Int) = some (if chk l = true then (l, true) else ([], false)) := fun h =>
      caps_l1 l hl hw d (j + 1) (by omega) (fun i hi => by
        by_cases h2 : i < j
        · exact hp i h2
        · have : i = j := by omega
          rw [this]
          exact h)
    by_cases h0 : (l.getD j z54).f0 = 0
    · rw [if_pos h0, if_neg (by rw [chk_no (j := j) (by omega) (by rw [chkA, h0]; rfl)]; simp)]
    · rw [if_neg h0]
      have e0 : ((l.getD j z54).f0 == 0) = false := by rw [beq_eq_false_iff_ne]; exact h0
      by_cases h1 : ((l.getD j z54).f1.length : Int) > 100
      · rw [if_pos h1, if_neg (by rw [chk_no (j := j) (by omega) (by rw [chkA, decide_eq_false (show ¬ (l.getD j z54).f1.length ≤ 100 by omega)]; simp)]; simp)]
      · rw [if_neg h1]
        have e1 : decide ((l.getD j z54).f1.length ≤ 100) = true := decide_eq_true (by omega)
        by_cases h2 : (j : Int) > 1
        · rw [if_pos h2, dn64 j (by omega) (by omega), if_pos (by omega), if_pos (by omega), rd_at]
          by_cases h3 : (l.getD (j - 1) z54).f0 ≥ (l.getD j z54).f0
          · rw [if_pos h3, if_neg (by rw [chk_no (j := j) (by omega) (by rw [chkA, decide_eq_false (show ¬ j ≤ 1 by omega), decide_eq_false (show ¬ (l.getD (j - 1) z54).f0 < (l.getD j z54).f0 by omega)]; simp)]; simp)]
          · rw [if_neg h3, up64 j (by omega)]
            exact next (by rw [chkA, e0, e1, decide_eq_true (show (l.getD (j - 1) z54).f0 < (l.getD j z54).f0 by omega)]; simp)
        · rw [if_neg h2, up64 j (by omega)]
          exact next (by rw [chkA, e0, e1, decide_eq_true (show j ≤ 1 by omega)]; rfl)
theorem getD_drop0 (b : List Int) (i j : Nat) : (b.drop i).getD j 0 = b.getD (i + j) 0 := by
  rw [List.getD_eq_getElem?_getD, List.getElem?_drop, List.getD_eq_getElem?_getD]
set_option maxHeartbeats 4000000 in
theorem caps_l0 (b : List Int) (hb : Byt b) (hl : b.length ≤ 1000000) : ∀ (d i : Nat) (out : List S54), b.length ≤ i + d → i ≤ b.length → out.length ≤ i → WfL out → ∃ k, pursuivantref18_caps.l0 k b out i = some (capsRes out (eachOF d (b.drop i)))
  | d, i, out, hd, hi, ho, hw => by
    by_cases hz : i = b.length
    · have hzd : (b.drop i).length = 0 := by rw [List.length_drop]; omega
      have e : eachOF d (b.drop i) = some [] := by
        cases d with
        | zero => rfl
        | succ d => rw [eachOF, if_pos hzd]
      rw [e]
      show ∃ k, _ = some (capsFin (out ++ []))
      rw [List.append_nil, capsFin]
      by_cases h9 : 9 < out.length
      · exact ⟨1, by rw [pursuivantref18_caps.l0, if_neg (by omega), if_pos (by omega), if_pos h9]⟩
      · refine ⟨out.length + 1 + 1, ?_⟩
        rw [pursuivantref18_caps.l0, if_neg (by omega), if_neg (by omega), if_neg h9]
        exact caps_l1 out (by omega) hw out.length 0 (by omega) (fun j hj => by omega)
    · cases d with
      | zero => omega
      | succ d =>
        have hlen : (b.drop i).length = b.length - i := List.length_drop
        rw [eachOF, if_neg (by rw [hlen]; omega), getD_drop0, getD_drop0, Nat.add_zero]
        by_cases h1 : b.length ≤ i + 1
        · rw [if_pos (.inl (by rw [hlen]; omega))]
          exact ⟨1, by rw [pursuivantref18_caps.l0, if_pos (by omega), if_pos (by rw [id64 _ (by omega) (by omega)]; omega)]; rfl⟩
        · have hy := byt_at hb (k := i + 1) (by omega)
          have hx := byt_at hb (k := i) (by omega)
          obtain ⟨y, hye⟩ : ∃ y : Nat, b.getD (i + 1) 0 = (y : Int) := ⟨(b.getD (i + 1) 0).toNat, by omega⟩
          rw [hye] at hy ⊢
          have e1 := Aside0.mk (show wrap64 ((i : Int) + 1) = ((i + 1 : Nat) : Int) by rw [id64 _ (by omega) (by omega)]; omega)
          have e2 := Aside0.mk (show wrap64 ((i : Int) + 2) = ((i + 2 : Nat) : Int) by rw [id64 _ (by omega) (by omega)]; omega)
          have e3 := Aside0.mk (show rd b ((i + 1 : Nat) : Int) = (y : Int) by rw [rdi_at, hye])
          have e4 := Aside0.mk (id64 (y : Int) (by omega) (by omega))
          have e5 := Aside0.mk (show wrap64 (((i + 2 : Nat) : Int) + (y : Int)) = ((i + 2 + y : Nat) : Int) by rw [id64 _ (by omega) (by omega)]; omega)
          have a1 : (i : Int) < (b.length : Int) := by omega
          have a2 : ¬ (((i + 1 : Nat) : Int) ≥ (b.length : Int)) := by omega
          have a3 : (0 : Int) ≤ ((i + 1 : Nat) : Int) := by omega
          have a4 : ((i + 1 : Nat) : Int) < (b.length : Int) := by omega
          by_cases h2 : b.length < i + 2 + y
          · rw [if_pos (.inr (by rw [hlen]; omega))]
            have a5 : ((i + 2 + y : Nat) : Int) > (b.length : Int) := by omega
            refine ⟨1, ?_⟩
            rw [pursuivantref18_caps.l0, if_pos a1, e1.out, if_neg a2, if_pos a3, if_pos a4, e2.out, e3.out, e4.out, e5.out, if_pos a5]
            rfl
          · rw [if_neg (by rw [hlen]; omega)]
            have e6 : ((b.drop i).take (2 + (y : Int).toNat)).drop 2 = (b.take (i + 2 + y)).drop (i + 2) := by
              rw [List.drop_take, List.drop_take, List.drop_drop]
              congr 1
              omega
            have e7 : (b.drop i).drop (2 + (y : Int).toNat) = b.drop (i + 2 + y) := by
              rw [List.drop_drop]
              congr 1
              omega
            rw [e6, e7]
            have hlc : ((b.take (i + 2 + y)).drop (i + 2)).length = y := by rw [List.length_drop, List.length_take]; omega
            have hwc : WfC (⟨b.getD i 0, (b.take (i + 2 + y)).drop (i + 2)⟩ : S54) := ⟨hx, byt_drop (byt_take hb _) _⟩
            obtain ⟨k, hk⟩ := caps_l0 b hb hl d (i + 2 + y) (out ++ [⟨b.getD i 0, (b.take (i + 2 + y)).drop (i + 2)⟩]) (by omega) (by omega) (by simp; omega) (fun c hc => by
              rcases List.mem_append.1 hc with h | h
              · exact hw c h
              · rw [List.mem_singleton.1 h]
                exact hwc)
            have a5 : ¬ (((i + 2 + y : Nat) : Int) > (b.length : Int)) := by omega
            have a6 : (0 : Int) ≤ (i : Int) := by omega
            have a7 : (0 : Int) ≤ ((i + 2 : Nat) : Int) := by omega
            have a8 : ((i + 2 : Nat) : Int) ≤ ((i + 2 + y : Nat) : Int) := by omega
            have a9 : ((i + 2 + y : Nat) : Int) ≤ (b.length : Int) := by omega
            have a10 : y < 140737488355328 := by omega
            have a11 : out.length < 4398046511104 := by omega
            refine ⟨k + 1, ?_⟩
            rw [pursuivantref18_caps.l0, if_pos a1, e1.out, if_neg a2, if_pos a3, if_pos a4, e2.out, e3.out, e4.out, e5.out, if_neg a5, if_pos a6]
            simp only [Option.bind_some, List.nil_append, List.length_nil, Nat.zero_add, Int.toNat_natCast, rdi_at]
            rw [if_pos a7, if_pos a8, if_pos a9, hlc, if_pos a10, if_pos a11, hk]
            congr 1
            cases eachOF d (b.drop (i + 2 + y)) with
            | none => rfl
            | some r => show capsFin _ = capsFin _; rw [List.append_assoc]; rfl
def capsN (b : List Int) : List S54 × Bool := capsRes [] (eachOF b.length b)
theorem caps_ex (b : List Int) (hb : Byt b) (hl : b.length ≤ 1000000) : ∃ k, pursuivantref18_caps.f k b = some (capsN b) :=
  caps_l0 b hb hl b.length 0 [] (by omega) (by omega) (by simp) (fun c hc => by cases hc)
def no65 (l : List S54) : Prop := ∀ j, 1 ≤ j → j < l.length → (l.getD j z54).f0 ≠ 65
theorem tail_getD (l : List S54) (k : Nat) : l.tail.getD k z54 = l.getD (k + 1) z54 := by cases l <;> rfl
theorem okL_iff (l : List S54) : okL l = true ↔ (l.length ≤ 9 ∧ chk l = true ∧ no65 l) := by
  constructor
  · intro h
    rw [okL, Bool.and_eq_true, List.all_eq_true] at h
    obtain ⟨h1, h2⟩ := h
    have h3 : ∀ j, j < l.length → (l.getD j z54).f0 ≠ 0 ∧ (l.getD j z54).f1.length ≤ 100 := fun j hj => by
      have := h1 _ (getD_mem l j z54 hj)
      simp only [okB, Bool.not_eq_true', Bool.or_eq_false_iff, beq_eq_false_iff_ne, decide_eq_false_iff_not, Nat.not_lt] at this
      exact this
    by_cases hz : l.length = 0
    · exact ⟨by omega, chk_yes (fun j hj => by omega), fun j _ hj => by omega⟩
    · have h4 : riseB l.tail = true := by
        rcases Bool.or_eq_true _ _ ▸ h2 with h | h
        · exact absurd (by simpa using h) hz
        · exact h
      rw [riseB, Bool.and_eq_true, List.all_eq_true, decide_eq_true_eq, List.length_tail] at h4
      obtain ⟨h5, h6⟩ := h4
      have h7 : ∀ j, 1 ≤ j → j < l.length → badB (l.getD j z54) = false ∧ (1 < j → (l.getD (j - 1) z54).f0 < (l.getD j z54).f0) := fun j h1j hj => by
        have := h5 (j - 1) (List.mem_range.2 (by omega))
        rw [riseA, tail_getD, show j - 1 + 1 = j by omega, Bool.and_eq_true, Bool.not_eq_true'] at this
        refine ⟨this.1, fun h => ?_⟩
        have h8 := this.2
        rw [Bool.or_eq_true] at h8
        rcases h8 with h8 | h8
        · simp at h8; omega
        · rw [tail_getD, show j - 1 - 1 + 1 = j - 1 by omega] at h8
          exact of_decide_eq_true h8
      refine ⟨by omega, chk_yes (fun j hj => ?_), fun j h1j hj e => ?_⟩
      · obtain ⟨a1, a2⟩ := h3 j hj
        rw [chkA, Bool.and_eq_true, Bool.and_eq_true, Bool.not_eq_true', beq_eq_false_iff_ne, Bool.or_eq_true, decide_eq_true_eq, decide_eq_true_eq, decide_eq_true_eq]
        refine ⟨a1, a2, ?_⟩
        by_cases h : j ≤ 1
        · exact .inl h
        · exact .inr ((h7 j (by omega) hj).2 (by omega))
      · have := (h7 j h1j hj).1
        rw [badB, e] at this
        simp at this
  · rintro ⟨h1, h2, h3⟩
    rw [chk, List.all_eq_true] at h2
    have h4 : ∀ j, j < l.length → (l.getD j z54).f0 ≠ 0 ∧ (l.getD j z54).f1.length ≤ 100 ∧ (j ≤ 1 ∨ (l.getD (j - 1) z54).f0 < (l.getD j z54).f0) := fun j hj => by
      have := h2 j (List.mem_range.2 hj)
      rw [chkA, Bool.and_eq_true, Bool.and_eq_true, Bool.not_eq_true', beq_eq_false_iff_ne, Bool.or_eq_true, decide_eq_true_eq, decide_eq_true_eq, decide_eq_true_eq] at this
      exact this
    rw [okL, Bool.and_eq_true, List.all_eq_true]
    refine ⟨fun c hc => ?_, ?_⟩
    · obtain ⟨j, hj, rfl⟩ := List.getElem_of_mem hc
      have := h4 j hj
      rw [List.getD_eq_getElem?_getD, List.getElem?_eq_getElem hj] at this
      simp only [okB, Bool.not_eq_true', Bool.or_eq_false_iff, beq_eq_false_iff_ne, decide_eq_false_iff_not, Nat.not_lt]
      exact ⟨this.1, this.2.1⟩
    · rw [Bool.or_eq_true]
      by_cases hz : l.length = 0
      · exact .inl (by simpa using hz)
      · refine .inr ?_
        rw [riseB, Bool.and_eq_true, List.all_eq_true, decide_eq_true_eq, List.length_tail]
        refine ⟨fun j hj => ?_, by omega⟩
        have hj := List.mem_range.1 hj
        obtain ⟨a1, a2, a3⟩ := h4 (j + 1) (by omega)
        rw [riseA, tail_getD, Bool.and_eq_true, Bool.not_eq_true']
        refine ⟨?_, ?_⟩
        · rw [badB]
          have := h3 (j + 1) (by omega) (by omega)
          simp only [Bool.or_eq_false_iff, beq_eq_false_iff_ne, decide_eq_false_iff_not, Nat.not_lt]
          exact ⟨⟨a1, this⟩, a2⟩
        · rw [Bool.or_eq_true]
          by_cases hj0 : j = 0
          · exact .inl (by simp [hj0])
          · refine .inr (decide_eq_true ?_)
            rw [tail_getD, show j - 1 + 1 = j by omega]
            rcases a3 with h | h
            · omega
            · exact h
/-- what caps answers, in the words of each -/
theorem caps_yes {b : List Int} (h : (capsN b).2 = true) : (capsN b).1 = eachL b ∧ (okL (eachL b) = true ↔ no65 (eachL b)) := by
  obtain ⟨h1, h2⟩ := each_o b.length b
  rw [capsN] at h ⊢
  cases ho : eachOF b.length b with
  | none => rw [ho] at h; cases h
  | some l =>
    rw [ho] at h
    have e : eachL b = l := h1 l ho
    show (capsFin ([] ++ l)).1 = _ ∧ _
    have h : (capsFin ([] ++ l)).2 = true := h
    rw [List.nil_append] at h ⊢
    rw [capsFin] at h ⊢
    by_cases h9 : 9 < l.length
    · rw [if_pos h9] at h; cases h
    · rw [if_neg h9] at h ⊢
      by_cases hc : chk l = true
      · rw [if_pos hc]
        exact ⟨e.symm, by rw [e, okL_iff]; exact ⟨fun h => h.2.2, fun h => ⟨by omega, hc, h⟩⟩⟩
      · rw [if_neg hc] at h; cases h
theorem caps_no {b : List Int} (h : (capsN b).2 = false) : okL (eachL b) = false := by
  obtain ⟨h1, h2⟩ := each_o b.length b
  rw [capsN] at h
  cases ho : eachOF b.length b with
  | none =>
    obtain ⟨l, hl⟩ := h2 ho
    rw [eachL, hl, okL, List.all_append]
    simp [okB, z54]
  | some l =>
    rw [ho] at h
    have e : eachL b = l := h1 l ho
    have h : (capsFin ([] ++ l)).2 = false := h
    rw [List.nil_append, capsFin] at h
    rw [e, Bool.eq_false_iff]
    intro hk
    obtain ⟨a1, a2, _⟩ := (okL_iff l).1 hk
    rw [if_neg (by omega), if_pos a2] at h
    cases h
end Go.Proofs.Yticilaoibjbgfaa.Op

set_option linter.unusedSimpArgs false
set_option linter.unusedVariables false
namespace Go.Proofs.Yticilaoibjbgfaa.Op
open Go.RowKit Go.Proofs.YticilaoibjbgfaaW.PrintWords Go.Proofs.YticilaoibjbgfaaW.PrintLast Go.Proofs.YticilaoibjbgfaaW.PrintMore Go.Proofs.Yticilaoibjbgfaa.POpenRaws Go.Proofs.Yticilaoibjbgfaa.Lib Go.Proofs.Yticilaoibjbgfaa.High Go.Proofs.Yticilaoibjbgfaa.Lex
attribute [local go_sem ↓ high] sliced_adv
theorem word2C (A : Option Addr) (c : Nat) (b : List Int) (w : World) (hl : b.length = 2) (hw : Byt b) (hc : 2 ≤ c) (hC : Kd.C KB w A 2 b) : Calls Try.prog 40 #[.slice A 2 c] w fun e w' => e = .returned (.int .u32 (num2 b)) ∧ Below w.heap.size w w' := by
  obtain ⟨k, hk⟩ := word2_ex b hl hw
  have := pursuivantref18_word.calls k A c b _ w (by rw [hl]; exact hC) (by omega) hk
  rw [hl] at this
  exact this.mono (fun e w' h => ⟨h.1, h.2.below⟩)
theorem word4C (A : Option Addr) (c : Nat) (b : List Int) (w : World) (hl : b.length = 4) (hw : Byt b) (hc : 4 ≤ c) (hC : Kd.C KB w A 4 b) : Calls Try.prog 40 #[.slice A 4 c] w fun e w' => e = .returned (.int .u32 (num4 b)) ∧ Below w.heap.size w w' := by
  obtain ⟨k, hk⟩ := word4_ex b hl hw
  have := pursuivantref18_word.calls k A c b _ w (by rw [hl]; exact hC) (by omega) hk
  rw [hl] at this
  exact this.mono (fun e w' h => ⟨h.1, h.2.below⟩)
theorem S_NB {base : Nat} {w : World} {v : Value} {xs : List S54} (h : Kd.S k54 54 w base (fun _ => True) v xs) : NB base w v xs := Kd.R_N (Kd.R_mono (Kd.R_bound (Kd.S_R h)) (fun k hk => hk.2.1))
theorem capsCC (A : Option Addr) (c : Nat) (b : List Int) (w : World) (hb : Byt b) (hl : b.length ≤ 1000000) (hc : b.length ≤ c) (hC : Kd.C KB w A b.length b) : Calls Try.prog 41 #[.slice A b.length c] w fun e w' => ∃ v, e = .returned (.tuple #[v, .bool (capsN b).2]) ∧ NB w.heap.size w' v (capsN b).1 ∧ Below w.heap.size w w' := by
  obtain ⟨k, hk⟩ := caps_ex b hb hl
  exact (pursuivantref18_caps.calls k A c b (capsN b).1 (capsN b).2 w hC hc hk).mono (fun e w' h => by
    obtain ⟨v, h1, h2, h3⟩ := h
    exact ⟨v, h1, S_NB h2, h3⟩)
/-- one byte of bytes in memory -/
theorem at_byte {w : World} {g o n : Nat} {b : List Int} (h : Kd.C KB w (some ⟨g, o, none⟩) n b) (k : Nat) (hk : k < n) : w.cell? ⟨g, o + k, none⟩ = some (.int .u8 (b.getD k 0)) := by
  obtain ⟨g', o', e', q⟩ := C_byte h k hk
  injection e' with e'
  injection e' with e1 e2
  subst e1 e2
  exact q
theorem outQ {K : Act → World → Prop} {Q : Exit → Act → World → Prop} {a : Act} {w : World} (h : K a w) : Exit.then K Q .normal a w := h
set_option maxRecDepth 100000 in
set_option maxHeartbeats 8000000 in
theorem rparseC (A : Option Addr) (c : Nat) (b : List Int) (w : World) (hlen : b.length ≤ 1000000) (hcap : b.length ≤ c) (hw : Byt b) (hC : Kd.C KB w A b.length b) :
    Calls Try.prog 19 #[.slice A b.length c] w (ParseR b w) := by
  obtain ⟨s, hs⟩ : ∃ s, w.heap.size = s := ⟨_, rfl⟩
  have ho1 := Ob.new w (cO zo none 0) _ rfl 26
  have hb1 := below_alloc (Below.refl w.heap.size w) (.cells #[.int .u32 0, .int .u16 0, .int .u32 0, .slice none 0 0] 26)
  obtain ⟨V, hV⟩ : ∃ W, w.alloc (.cells #[.int .u32 0, .int .u16 0, .int .u32 0, .slice none 0 0] 26) = W := ⟨_, rfl⟩
  have hs1 : V.heap.size = s + 1 := by rw [← hV, World.size_alloc, hs]
  have ho1 : Ob s V (cO zo none 0) := by rw [← hV, ← hs]; exact ho1
  rw [hV, hs] at hb1
  have HOW := Aside0.mk ho1
  have HBW := Aside0.mk (But.of (S := fun _ => False) hb1 (Nat.le_refl _))
  have HS := Aside0.mk hs
  have HS1 := Aside0.mk hs1
  have HC := Aside0.mk (Kd.C_below hC (by rw [hs]; exact hb1))
  have HWB := Aside0.mk hw
  have HEXIT : Aside0 (∀ (code : Int) (W : World), Ob s W (cO zo none 0) → But s (fun _ => False) w W → parseN b = (zo, code) → ∃ W', (storeVar 26 ⟨s, 0, none⟩ (.agg (cO zo none 0).toArray)).run Try.prog W = .ok () W' ∧ (loadVar 26 ⟨s, 0, none⟩).run Try.prog W' = .ok (.agg (cO zo none 0).toArray) W' ∧ ParseR b w (.returned (.tuple #[.agg (cO zo none 0).toArray, .int .i64 code])) W') := ⟨by
    intro code W hO hBt hp
    obtain ⟨W', hst, hO', hbut⟩ := storeS (cO zo none 0) 26 hO rfl (size26 _ _ _) (by simp [Value.oneCell'])
    refine ⟨W', hst, loadS 26 hO' Try.underlying26 (size26 zo none 0), none, 0, by rw [hp]; first | done | rfl, by rw [hp]; first | done | exact Nat.le_refl _, by rw [hp]; first | done | exact Kd.F_nil _ _ _, ?_⟩
    rw [hs]
    exact (hBt.trans (hbut.mono (n' := s) (S' := fun _ => False) (Nat.le_trans (by rw [← hs]; exact Nat.le_refl _) hBt.size) (fun k hk e => by have e : k = s := e; omega))).below (Nat.le_refl _) (fun _ _ h => h)⟩
  clear ho1 hb1 hC hw
  by_cases h10 : b.length < 10
  · have h10I : (b.length : Int) < 10 := by omega
    have HPN : Aside0 (parseN b = (zo, 280)) := ⟨by rw [parseN, if_pos h10]⟩
    go_enter Try.func19, Try.ntmps19
    obtain ⟨W', z1, z2, z3⟩ := HEXIT.out _ _ HOW.out HBW.out HPN.out
    have Z1 := Aside0.mk z1
    have Z2 := Aside0.mk z2
    have Z3 := Aside0.mk z3
    clear z1 z2 z3
    go_wp2_with (refine pl_store rfl 26 _ _ rfl _ _ Z1.out rfl rfl ?_)
    first | rw [Exit.noGoto_ret] | skip
    refine bodyPost_ret (results_cell_tmp rfl _ _ s _ rfl Z2.out) rfl ?_
    exact Z3.out
  have h10I : ¬ ((b.length : Int) < 10) := by omega
  obtain ⟨g, o, rfl, hq0⟩ := C_byte HC.out 0 (by omega)
  have q0 := at_byte HC.out 0 (by omega)
  simp only [Nat.add_zero] at q0
  clear hq0
  obtain ⟨x0, hx0⟩ : ∃ x, b.getD 0 0 = x := ⟨_, rfl⟩
  rw [hx0] at q0
  have HX0 := Aside0.mk hx0
  clear hx0
  have i0 : (0 : Int) < (b.length : Int) := by omega
  cases h4 : (x0 != 4) with
  | true =>
    have HPN : Aside0 (parseN b = (zo, 281)) := ⟨by rw [parseN, if_neg h10, if_pos (by rw [HX0.out]; simpa using h4)]⟩
    go_enter Try.func19, Try.ntmps19
    obtain ⟨W', z1, z2, z3⟩ := HEXIT.out _ _ HOW.out HBW.out HPN.out
    have Z1 := Aside0.mk z1
    have Z2 := Aside0.mk z2
    have Z3 := Aside0.mk z3
    clear z1 z2 z3
    go_wp2_with (refine pl_store rfl 26 _ _ rfl _ _ Z1.out rfl rfl ?_)
    first | rw [Exit.noGoto_ret] | skip
    refine bodyPost_ret (results_cell_tmp rfl _ _ s _ rfl Z2.out) rfl ?_
    exact Z3.out
  | false =>
    have hx4 : b.getD 0 0 = 4 := by rw [HX0.out]; simpa using h4
    have HX4 := Aside0.mk hx4
    clear hx4
    have f5 : (5 : Int) ≤ (c : Int) := by omega
    have f9 : (9 : Int) ≤ (c : Int) := by omega
    obtain ⟨x35, hx35⟩ : ∃ x, (b.take 5).drop 3 = x := ⟨_, rfl⟩
    obtain ⟨x59, hx59⟩ : ∃ x, (b.take 9).drop 5 = x := ⟨_, rfl⟩
    have l35 : x35.length = 2 := by rw [← hx35, List.length_drop, List.length_take]; omega
    have l59 : x59.length = 4 := by rw [← hx59, List.length_drop, List.length_take]; omega
    have hw35 : Byt x35 := by rw [← hx35]; exact byt_drop (byt_take HWB.out _) _
    have hw59 : Byt x59 := by rw [← hx59]; exact byt_drop (byt_take HWB.out _) _
    have bd35 := num2_bd l35 hw35
    have bd59 := num4_bd l59 hw59
    obtain ⟨AH, hAH⟩ : ∃ AS, advA (some ⟨g, o, none⟩) 3 c 1 = AS := ⟨_, rfl⟩
    obtain ⟨AI, hAI⟩ : ∃ AS, advA (some ⟨g, o, none⟩) 5 c 1 = AS := ⟨_, rfl⟩
    have hhold : num2 x35 = (holdOf b : Int) := by rw [holdOf, hx35]; omega
    have hid : num4 x59 = (idOf b : Int) := by rw [idOf, hx59]; omega
    have hhl : holdOf b < 65536 := by rw [holdOf, hx35]; omega
    have hil : idOf b < 4294967296 := by rw [idOf, hx59]; omega
    obtain ⟨hn, hhn⟩ : ∃ x, holdOf b = x := ⟨_, rfl⟩
    obtain ⟨idn, hidn⟩ : ∃ x, idOf b = x := ⟨_, rfl⟩
    have HN2 := Aside0.mk (fun W (hW : Below V.heap.size V W) => word2C AH (c - 3) x35 W l35 hw35 (by omega) (by
      have h1 := C_adv (by decide) (Kd.C_below HC.out hW) hcap 3 5 (by omega) (by omega) (s := 1) rfl
      rwa [hAH, hx35] at h1))
    have HN4 := Aside0.mk (fun W (hW : Below V.heap.size V W) => word4C AI (c - 5) x59 W l59 hw59 (by omega) (by
      have h1 := C_adv (by decide) (Kd.C_below HC.out hW) hcap 5 9 (by omega) (by omega) (s := 1) rfl
      rwa [hAI, hx59] at h1))
    rw [hhold, hhn] at HN2
    rw [hid, hidn] at HN4
    rw [hhn] at hhl
    rw [hidn] at hil
    have HHN := Aside0.mk hhn
    have HIDN := Aside0.mk hidn
    clear hx35 hx59 l35 l59 hw35 hw59 bd35 bd59 hhold hid hhn hidn
    go_enter Try.func19, Try.ntmps19
    go_wp2_with fail
    refine region [(0, .p), (1, .p), (3, .p), (4, .p), (2, .o), (5, .o), (6, .p), (7, .p)] (fun _ => True) (by kernel_rfl) (by kernel_rfl) (fun _ _ _ _ _ h => h) (trivial) (fun hHeld => ?_)
    iterate 4 (refine lex_p rfl rfl rfl (by intro w'; go_simp; with_reducible rfl) (by simp only [Act.put, List.setIfInBounds_toArray, List.set_cons_zero, List.set_cons_succ, i64_w, i32_w]; rfl) ?_)
    refine lex_o rfl ?_
    go_wp2_with fail
    refine (HN2.out _ (below_drew (Below.refl _ _))).mono ?_
    rintro e w5 ⟨rfl, hb5⟩
    have B5 := Aside0.mk ((below_drew (Below.refl V.heap.size V)).trans hb5)
    clear hb5
    go_wp2_with fail
    refine lex_end (by first | (simp only [Act.put, List.setIfInBounds_toArray, List.set_cons_zero, List.set_cons_succ, i64_w, i32_w]; rfl) | rfl) trivial (fun hHeld => ?_)
    refine lex_o rfl ?_
    go_wp2_with fail
    refine (HN4.out _ B5.out).mono ?_
    rintro e w6 ⟨rfl, hb6⟩
    have B6 := Aside0.mk (B5.out.trans (hb6.mono B5.out.size))
    clear hb6
    go_wp2_with fail
    refine lex_end (by first | (simp only [Act.put, List.setIfInBounds_toArray, List.set_cons_zero, List.set_cons_succ, i64_w, i32_w]; rfl) | rfl) trivial (fun hHeld => ?_)
    iterate 2 (refine lex_p rfl rfl rfl (by intro w'; go_simp; with_reducible rfl) (by simp only [Act.put, List.setIfInBounds_toArray, List.set_cons_zero, List.set_cons_succ, i64_w, i32_w]; rfl) ?_)
    refine lex_nil ?_
    have hsle : s + 1 ≤ w6.heap.size := by have := B6.out.size; have := HS1.out; omega
    have HOW6 := Aside0.mk (HOW.out.below B6.out (by have := HS1.out; omega))
    have HBW6 := Aside0.mk (HBW.out.then B6.out (by have := HS1.out; omega))
    have HC6 := Aside0.mk (Kd.C_below HC.out B6.out)
    clear HOW HBW HC B6
    have HOW := HOW6
    have HBW := HBW6
    have HC := HC6
    clear HOW6 HBW6 HC6
    cases hh1 : ((hn : Int) == 1) with
    | true =>
      have HPN : Aside0 (parseN b = (zo, 282)) := ⟨by rw [parseN, if_neg h10, if_neg (by rw [HX4.out]; simp), if_pos (by rw [HHN.out]; left; simp at hh1; omega)]⟩
      obtain ⟨W', z1, z2, z3⟩ := HEXIT.out _ _ HOW.out HBW.out HPN.out
      have Z1 := Aside0.mk z1
      have Z2 := Aside0.mk z2
      have Z3 := Aside0.mk z3
      clear z1 z2 z3
      go_wp2_with (refine pl_store rfl 26 _ _ rfl _ _ Z1.out rfl rfl ?_)
      first | rw [Exit.noGoto_ret] | skip
      refine bodyPost_ret (results_cell_tmp rfl _ _ s _ rfl Z2.out) rfl ?_
      exact Z3.out
    | false =>
      cases hh2 : ((hn : Int) == 2) with
      | true =>
        have HPN : Aside0 (parseN b = (zo, 282)) := ⟨by rw [parseN, if_neg h10, if_neg (by rw [HX4.out]; simp), if_pos (by rw [HHN.out]; right; simp at hh2; omega)]⟩
        obtain ⟨W', z1, z2, z3⟩ := HEXIT.out _ _ HOW.out HBW.out HPN.out
        have Z1 := Aside0.mk z1
        have Z2 := Aside0.mk z2
        have Z3 := Aside0.mk z3
        clear z1 z2 z3
        go_wp2_with (refine pl_store rfl 26 _ _ rfl _ _ Z1.out rfl rfl ?_)
        first | rw [Exit.noGoto_ret] | skip
        refine bodyPost_ret (results_cell_tmp rfl _ _ s _ rfl Z2.out) rfl ?_
        exact Z3.out
      | false =>
        have HNH : Aside0 (¬ (holdOf b = 1 ∨ holdOf b = 2)) := ⟨by rw [HHN.out]; simp at hh1 hh2; omega⟩
        cases hi0 : ((idn : Int) == 0) with
        | true =>
          have HPN : Aside0 (parseN b = (zo, 283)) := ⟨by rw [parseN, if_neg h10, if_neg (by rw [HX4.out]; simp), if_neg HNH.out, if_pos (by rw [HIDN.out]; simp at hi0; omega)]⟩
          obtain ⟨W', z1, z2, z3⟩ := HEXIT.out _ _ HOW.out HBW.out HPN.out
          have Z1 := Aside0.mk z1
          have Z2 := Aside0.mk z2
          have Z3 := Aside0.mk z3
          clear z1 z2 z3
          go_wp2_with (refine pl_store rfl 26 _ _ rfl _ _ Z1.out rfl rfl ?_)
          first | rw [Exit.noGoto_ret] | skip
          refine bodyPost_ret (results_cell_tmp rfl _ _ s _ rfl Z2.out) rfl ?_
          exact Z3.out
        | false =>
          have HNI : Aside0 (¬ idOf b = 0) := ⟨by rw [HIDN.out]; simp at hi0; omega⟩
          have q9 := at_byte HC.out 9 (by omega)
          obtain ⟨x9, hx9⟩ : ∃ x, b.getD 9 0 = x := ⟨_, rfl⟩
          have hb9 := byt_at HWB.out (k := 9) (by omega)
          rw [hx9] at q9 hb9
          have HX9 := Aside0.mk hx9
          clear hx9
          have g10 : (9 : Int) < (b.length : Int) := by omega
          have HPN4 : Aside0 (headB b = false → parseN b = (zo, 284)) := ⟨fun h => by rw [parseN, if_neg h10, if_neg (by rw [HX4.out]; simp), if_neg HNH.out, if_neg HNI.out, if_pos (.inl h)]⟩
          cases h9 : (x9 != (b.length : Int) - 10) with
          | true =>
            have HPN : Aside0 (parseN b = (zo, 284)) := ⟨HPN4.out (by rw [headB, HX9.out]; simp at h9; simp [h9])⟩
            obtain ⟨W', z1, z2, z3⟩ := HEXIT.out _ _ HOW.out HBW.out HPN.out
            have Z1 := Aside0.mk z1
            have Z2 := Aside0.mk z2
            have Z3 := Aside0.mk z3
            clear z1 z2 z3
            go_wp2_with (refine pl_store rfl 26 _ _ rfl _ _ Z1.out rfl rfl ?_)
            first | rw [Exit.noGoto_ret] | skip
            refine bodyPost_ret (results_cell_tmp rfl _ _ s _ rfl Z2.out) rfl ?_
            exact Z3.out
          | false =>
            by_cases hl : b.length < 12
            · have hlI : (b.length : Int) < 12 := by omega
              have HPN : Aside0 (parseN b = (zo, 284)) := ⟨HPN4.out (by rw [headB, decide_eq_false (show ¬ 12 ≤ b.length by omega)]; simp)⟩
              obtain ⟨W', z1, z2, z3⟩ := HEXIT.out _ _ HOW.out HBW.out HPN.out
              have Z1 := Aside0.mk z1
              have Z2 := Aside0.mk z2
              have Z3 := Aside0.mk z3
              clear z1 z2 z3
              go_wp2_with (refine pl_store rfl 26 _ _ rfl _ _ Z1.out rfl rfl ?_)
              first | rw [Exit.noGoto_ret] | skip
              refine bodyPost_ret (results_cell_tmp rfl _ _ s _ rfl Z2.out) rfl ?_
              exact Z3.out
            · have hlI : ¬ ((b.length : Int) < 12) := by omega
              have q10 := at_byte HC.out 10 (by omega)
              have q11 := at_byte HC.out 11 (by omega)
              obtain ⟨x10, hx10⟩ : ∃ x, b.getD 10 0 = x := ⟨_, rfl⟩
              obtain ⟨x11, hx11⟩ : ∃ x, b.getD 11 0 = x := ⟨_, rfl⟩
              have hb10 := byt_at HWB.out (k := 10) (by omega)
              have hb11 := byt_at HWB.out (k := 11) (by omega)
              rw [hx10] at q10 hb10
              rw [hx11] at q11 hb11
              have HX10 := Aside0.mk hx10
              have HX11 := Aside0.mk hx11
              have g11 : (10 : Int) < (b.length : Int) := by omega
              have g12 : (11 : Int) < (b.length : Int) := by omega
              have g12' : (12 : Int) ≤ (b.length : Int) := by omega
              clear hx10 hx11
              cases h10b : (x10 != 2) with
              | true =>
                have HPN : Aside0 (parseN b = (zo, 284)) := ⟨HPN4.out (by rw [headB, HX10.out]; simp at h10b; simp [h10b])⟩
                obtain ⟨W', z1, z2, z3⟩ := HEXIT.out _ _ HOW.out HBW.out HPN.out
                have Z1 := Aside0.mk z1
                have Z2 := Aside0.mk z2
                have Z3 := Aside0.mk z3
                clear z1 z2 z3
                go_wp2_with (refine pl_store rfl 26 _ _ rfl _ _ Z1.out rfl rfl ?_)
                first | rw [Exit.noGoto_ret] | skip
                refine bodyPost_ret (results_cell_tmp rfl _ _ s _ rfl Z2.out) rfl ?_
                exact Z3.out
              | false =>
                cases h11b : (x11 != (b.length : Int) - 12) with
                | true =>
                  have HPN : Aside0 (parseN b = (zo, 284)) := ⟨HPN4.out (by rw [headB, HX11.out]; simp at h11b; simp [h11b])⟩
                  obtain ⟨W', z1, z2, z3⟩ := HEXIT.out _ _ HOW.out HBW.out HPN.out
                  have Z1 := Aside0.mk z1
                  have Z2 := Aside0.mk z2
                  have Z3 := Aside0.mk z3
                  clear z1 z2 z3
                  go_wp2_with (refine pl_store rfl 26 _ _ rfl _ _ Z1.out rfl rfl ?_)
                  first | rw [Exit.noGoto_ret] | skip
                  refine bodyPost_ret (results_cell_tmp rfl _ _ s _ rfl Z2.out) rfl ?_
                  exact Z3.out
                | false =>
                  have HHB : Aside0 (headB b = true) := ⟨by rw [headB, HX9.out, HX10.out, HX11.out, decide_eq_true (show 12 ≤ b.length by omega)]; simp at h9 h10b h11b; simp [h9, h10b, h11b]⟩
                  have hdl : (b.drop 12).length = b.length - 12 := List.length_drop
                  have hCD := C_from (by decide) HC.out hcap 12 (by omega) (s := 1) rfl
                  rw [← hdl] at hCD
                  have hcc := capsCC (advA (some ⟨g, o, none⟩) 12 c 1) (c - 12) (b.drop 12) w6 (byt_drop HWB.out _) (by omega) (by omega) hCD
                  rw [hdl] at hcc
                  have HCC := Aside0.mk hcc
                  clear hCD hcc hdl
                  go_wp2_with fail
                  refine HCC.out.mono ?_
                  rintro e w7 ⟨v7, rfl, hn7, hb7⟩
                  have HOW7 := Aside0.mk (HOW.out.below hb7 (by omega))
                  have HBW7 := Aside0.mk (HBW.out.then hb7 (by omega))
                  have HC7 := Aside0.mk (Kd.C_below HC.out hb7)
                  have hz7 := hb7.size
                  have HPN5 : Aside0 (okL (eachL (b.drop 12)) = false → parseN b = (zo, 284)) := ⟨fun h => by rw [parseN, if_neg h10, if_neg (by rw [HX4.out]; simp), if_neg HNH.out, if_neg HNI.out, if_pos (.inr h)]⟩
                  clear HOW HBW HC hb7
                  have HOW := HOW7
                  have HBW := HBW7
                  have HC := HC7
                  clear HOW7 HBW7 HC7 HCC
                  cases hc2 : (capsN (b.drop 12)).2 with
                  | false =>
                    have HPN := Aside0.mk (HPN5.out (caps_no hc2))
                    obtain ⟨A7, c7, rfl⟩ := Kd.N_slice hn7
                    clear hn7
                    obtain ⟨W', z1, z2, z3⟩ := HEXIT.out _ _ HOW.out HBW.out HPN.out
                    have Z1 := Aside0.mk z1
                    have Z2 := Aside0.mk z2
                    have Z3 := Aside0.mk z3
                    clear z1 z2 z3
                    go_wp2_with (refine pl_store rfl 26 _ _ rfl _ _ Z1.out rfl rfl ?_)
                    first | rw [Exit.noGoto_ret] | skip
                    refine bodyPost_ret (results_cell_tmp rfl _ _ s _ rfl Z2.out) rfl ?_
                    exact Z3.out
                  | true =>
                    obtain ⟨e1, e2⟩ := caps_yes hc2
                    obtain ⟨L, hL⟩ : ∃ L, eachL (b.drop 12) = L := ⟨_, rfl⟩
                    rw [e1, hL] at hn7
                    rw [hL] at e2 HPN5
                    have hwL : WfL L := by rw [← hL]; exact eachL_wf (byt_drop HWB.out 12)
                    have hLl : L.length ≤ 1000000 := by
                      have := eachF_len (b.drop 12).length (b.drop 12)
                      rw [← hL]
                      refine Nat.le_trans this ?_
                      rw [List.length_drop]
                      omega
                    obtain ⟨A7, c7, rfl, hc7, hC7⟩ := Kd.N_reads hn7
                    have HL := Aside0.mk hL
                    have HWL := Aside0.mk hwL
                    have HN7 := Aside0.mk hn7
                    have HC7 := Aside0.mk hC7
                    have HE2 := Aside0.mk e2
                    clear hL hwL hn7 hC7 e1 e2 hc2
                    go_wp2_with fail
                    go_loopg [8] (L.length + 1) (fun gk s8 W => ∃ k : Nat, 1 ≤ k ∧ (k ≤ L.length ∨ k = 1) ∧ L.length + 1 - k ≤ gk ∧ s8 = .int .i64 k ∧ W = w7 ∧ Aside0 (∀ j, 1 ≤ j → j < k → (L.getD j z54).f0 ≠ 65))
                    case atStart => exact ⟨1, by omega, .inr rfl, by omega, rfl, rfl, ⟨fun j h1 h2 => by omega⟩⟩
                    case round =>
                      obtain ⟨k, hk1, hk2, hgk, rfl, rfl, HNO⟩ := hrel
                      by_cases hlt : k < L.length
                      · have hkI : (k : Int) < (L.length : Int) := by omega
                        obtain ⟨gk7, ok7, A1, c1, e7, r0, _, _, _⟩ := C_cap HC7.out k hlt
                        subst e7
                        obtain ⟨f0, hf0⟩ : ∃ x, (L.getD k z54).f0 = x := ⟨_, rfl⟩
                        have hwf := (HWL.out _ (getD_mem L k z54 hlt)).1
                        rw [hf0] at r0 hwf
                        have HF0 := Aside0.mk hf0
                        clear hf0
                        cases h65 : (f0 == 65) with
                        | true =>
                          have HPN := Aside0.mk (HPN5.out (by
                            rw [Bool.eq_false_iff]
                            intro h
                            exact HE2.out.1 h k hk1 hlt (by rw [HF0.out]; simpa using h65)))
                          obtain ⟨W', z1, z2, z3⟩ := HEXIT.out _ _ HOW.out HBW.out HPN.out
                          have Z1 := Aside0.mk z1
                          have Z2 := Aside0.mk z2
                          have Z3 := Aside0.mk z3
                          clear z1 z2 z3
                          go_wp2_with (refine pl_store rfl 26 _ _ rfl _ _ Z1.out rfl rfl ?_)
                          first | rw [Exit.noGoto_ret] | skip
                          refine bodyPost_ret (results_cell_tmp rfl _ _ s _ rfl Z2.out) rfl ?_
                          exact Z3.out
                        | false =>
                          go_wp2_with fail
                          go_roundg (gk - 1)
                          case measure => omega
                          case rel => exact ⟨k + 1, by omega, .inl (by omega), by omega, by go_num, rfl, ⟨fun j h1 h2 => by
                            by_cases e : j = k
                            · rw [e, HF0.out]
                              simpa using h65
                            · exact HNO.out j h1 (by omega)⟩⟩
                      · have hkI : ¬ ((k : Int) < (L.length : Int)) := by omega
                        have HOKL : Aside0 (okL L = true) := ⟨HE2.out.2 (fun j h1 h2 => HNO.out j h1 (by omega))⟩
                        have HPN6 : Aside0 (asB b L = false → parseN b = (zo, 285)) := ⟨fun h => by rw [parseN, if_neg h10, if_neg (by rw [HX4.out]; simp), if_neg HNH.out, if_neg HNI.out, HL.out, if_neg (by rw [HHB.out, HOKL.out]; simp), if_pos h]⟩
                        by_cases hz : L.length = 0
                        · have HPN := Aside0.mk (HPN6.out (by rw [asB, decide_eq_false (by omega)]; rfl))
                          obtain ⟨W', z1, z2, z3⟩ := HEXIT.out _ _ HOW.out HBW.out HPN.out
                          have Z1 := Aside0.mk z1
                          have Z2 := Aside0.mk z2
                          have Z3 := Aside0.mk z3
                          clear z1 z2 z3
                          go_wp2_with (refine pl_store rfl 26 _ _ rfl _ _ Z1.out rfl rfl ?_)
                          first | rw [Exit.noGoto_ret] | skip
                          refine bodyPost_ret (results_cell_tmp rfl _ _ s _ rfl Z2.out) rfl ?_
                          exact Z3.out
                        · have hzI : ((L.length : Int) == 0) = false := by rw [beq_eq_false_iff_ne]; omega
                          have h0I : (0 : Int) < (L.length : Int) := by omega
                          have h1I : (1 : Int) ≤ (L.length : Int) := by omega
                          have h0N : 0 < L.length := by omega
                          obtain ⟨g7, o7, A1, c1, e7, q0, q1, hc1, hC1⟩ := C_cap HC7.out 0 (by omega)
                          subst e7
                          simp only [Nat.zero_mul, Nat.add_zero] at q0 q1
                          obtain ⟨f0, hf0⟩ : ∃ x, (L.getD 0 z54).f0 = x := ⟨_, rfl⟩
                          obtain ⟨bd, hbd⟩ : ∃ x, (L.getD 0 z54).f1 = x := ⟨_, rfl⟩
                          have hwf := HWL.out _ (getD_mem L 0 z54 (by omega))
                          have hwb : Byt bd := by rw [← hbd]; exact hwf.2
                          have hwf0 := hwf.1
                          rw [hf0] at q0 hwf0
                          rw [hbd] at q1 hc1 hC1
                          have HF0 := Aside0.mk hf0
                          have HBD := Aside0.mk hbd
                          have HC1 := Aside0.mk hC1
                          have HWBD := Aside0.mk hwb
                          clear hf0 hbd hC1 hwf hwb
                          cases h65 : (f0 != 65) with
                          | true =>
                            have HPN := Aside0.mk (HPN6.out (by rw [asB, HF0.out]; simp at h65; simp [h65]))
                            obtain ⟨W', z1, z2, z3⟩ := HEXIT.out _ _ HOW.out HBW.out HPN.out
                            have Z1 := Aside0.mk z1
                            have Z2 := Aside0.mk z2
                            have Z3 := Aside0.mk z3
                            clear z1 z2 z3
                            go_wp2_with (refine pl_store rfl 26 _ _ rfl _ _ Z1.out rfl rfl ?_)
                            first | rw [Exit.noGoto_ret] | skip
                            refine bodyPost_ret (results_cell_tmp rfl _ _ s _ rfl Z2.out) rfl ?_
                            exact Z3.out
                          | false =>
                            cases h4b : ((bd.length : Int) != 4) with
                            | true =>
                              have HPN := Aside0.mk (HPN6.out (by rw [asB, HBD.out]; simp at h4b; rw [decide_eq_false (show ¬ bd.length = 4 by omega)]; simp))
                              obtain ⟨W', z1, z2, z3⟩ := HEXIT.out _ _ HOW.out HBW.out HPN.out
                              have Z1 := Aside0.mk z1
                              have Z2 := Aside0.mk z2
                              have Z3 := Aside0.mk z3
                              clear z1 z2 z3
                              go_wp2_with (refine pl_store rfl 26 _ _ rfl _ _ Z1.out rfl rfl ?_)
                              first | rw [Exit.noGoto_ret] | skip
                              refine bodyPost_ret (results_cell_tmp rfl _ _ s _ rfl Z2.out) rfl ?_
                              exact Z3.out
                            | false =>
                              have hb4 : bd.length = 4 := by simp at h4b; omega
                              have hbd4 := num4_bd hb4 HWBD.out
                              obtain ⟨sy, has⟩ : ∃ n : Nat, num4 bd = (n : Int) := ⟨(num4 bd).toNat, by omega⟩
                              have HASO : Aside0 (asOf L = sy) := ⟨by rw [asOf, HBD.out, has]; rfl⟩
                              have hle : sy < 4294967296 := by omega
                              have HNUM := Aside0.mk (fun W hW => word4C A1 c1 bd W hb4 HWBD.out (by omega) hW)
                              rw [has] at HNUM
                              rw [hb4] at HC1
                              clear has hbd4
                              go_wp2_with fail
                              refine (HNUM.out _ HC1.out).mono ?_
                              rintro e w8 ⟨rfl, hb8⟩
                              have HOW8 := Aside0.mk (HOW.out.below hb8 (by omega))
                              have HBW8 := Aside0.mk (HBW.out.then hb8 (by omega))
                              have HC8 := Aside0.mk (Kd.C_below HC.out hb8)
                              have HN8 := Aside0.mk (Kd.N_below HN7.out hb8)
                              have hz8 := hb8.size
                              clear HOW HBW HC HN7 HC7 HC1 HNUM hb8
                              have HOW := HOW8
                              have HBW := HBW8
                              have HC := HC8
                              clear HOW8 HBW8 HC8
                              cases hs0 : ((sy : Int) == 0) with
                              | true =>
                                have HPN := Aside0.mk (HPN6.out (by rw [asB, HASO.out]; simp at hs0; rw [decide_eq_false (show ¬ sy ≠ 0 by omega)]; simp))
                                obtain ⟨W', z1, z2, z3⟩ := HEXIT.out _ _ HOW.out HBW.out HPN.out
                                have Z1 := Aside0.mk z1
                                have Z2 := Aside0.mk z2
                                have Z3 := Aside0.mk z3
                                clear z1 z2 z3
                                go_wp2_with (refine pl_store rfl 26 _ _ rfl _ _ Z1.out rfl rfl ?_)
                                first | rw [Exit.noGoto_ret] | skip
                                refine bodyPost_ret (results_cell_tmp rfl _ _ s _ rfl Z2.out) rfl ?_
                                exact Z3.out
                              | false =>
                                obtain ⟨AV, hAV⟩ : ∃ AS, advA (some ⟨g, o, none⟩) 1 c 1 = AS := ⟨_, rfl⟩
                                obtain ⟨b13, hb13⟩ : ∃ x, (b.take 3).drop 1 = x := ⟨_, rfl⟩
                                have hl13 : b13.length = 2 := by rw [← hb13, List.length_drop, List.length_take]; omega
                                have HNUM2 := Aside0.mk (word2C AV (c - 1) b13 w8 hl13 (by rw [← hb13]; exact byt_drop (byt_take HWB.out _) _) (by omega) (by
                                  have h1 := C_adv (by decide) HC.out hcap 1 3 (by omega) (by omega) (s := 1) rfl
                                  rwa [hAV, hb13] at h1))
                                obtain ⟨z, hz2⟩ : ∃ z, num2 b13 = z := ⟨_, rfl⟩
                                rw [hz2] at HNUM2
                                have g3c : (3 : Int) ≤ (c : Int) := by omega
                                have HASB : Aside0 (asB b L = (z == ((shortN sy : Nat) : Int))) := ⟨by
                                  have e65 : f0 = 65 := by simpa using h65
                                  rw [asB, HASO.out, HF0.out, HBD.out, hb13, hz2, decide_eq_true (show L.length ≠ 0 from hz), decide_eq_true e65, decide_eq_true hb4, decide_eq_true (show sy ≠ 0 by simp at hs0; omega)]
                                  simp only [Bool.true_and]
                                  rw [Bool.eq_iff_iff, decide_eq_true_eq, beq_iff_eq]⟩
                                go_wp2_with fail
                                refine HNUM2.out.mono ?_
                                rintro e w9 ⟨rfl, hb9⟩
                                go_wp2_with fail
                                refine (pursuivantref18_short.calls _ _ _ (rshort_ex sy)).mono ?_
                                rintro e w10 ⟨rfl, hd10⟩
                                have hb10' := hb9.trans (hd10.below.mono hb9.size)
                                have HOW9 := Aside0.mk (HOW.out.below hb10' (by omega))
                                have HBW9 := Aside0.mk (HBW.out.then hb10' (by omega))
                                have HN9 := Aside0.mk (Kd.N_below HN8.out hb10')
                                have hz9 := hb10'.size
                                clear HOW HBW HC HN8 HNUM2 hb9 hd10 hb10'
                                have HOW := HOW9
                                have HBW := HBW9
                                clear HOW9 HBW9
                                cases hzs : (z != ((shortN sy : Nat) : Int)) with
                                | true =>
                                  have HPN := Aside0.mk (HPN6.out (by rw [HASB.out, beq_eq_false_iff_ne]; simpa using hzs))
                                  obtain ⟨W', z1, z2, z3⟩ := HEXIT.out _ _ HOW.out HBW.out HPN.out
                                  have Z1 := Aside0.mk z1
                                  have Z2 := Aside0.mk z2
                                  have Z3 := Aside0.mk z3
                                  clear z1 z2 z3
                                  go_wp2_with (refine pl_store rfl 26 _ _ rfl _ _ Z1.out rfl rfl ?_)
                                  first | rw [Exit.noGoto_ret] | skip
                                  refine bodyPost_ret (results_cell_tmp rfl _ _ s _ rfl Z2.out) rfl ?_
                                  exact Z3.out
                                | false =>
                                  have hcv : IntKind.u16.wrap (hn : Int) = (hn : Int) := by rw [IntKind.wrap_u16]; omega
                                  have e5 : parseN b = (⟨asOf L, hn, idn, L.tail⟩, 0) := by
                                    rw [parseN, if_neg h10, if_neg (by rw [HX4.out]; simp), if_neg HNH.out, if_neg HNI.out, HL.out, if_neg (by rw [HHB.out, HOKL.out]; simp), if_neg (by rw [HASB.out]; simp at hzs; simp [hzs]), HHN.out, HIDN.out]
                                  obtain ⟨AT, hAT⟩ : ∃ AS, advA (some ⟨g7, o7, none⟩) 1 c7 2 = AS := ⟨_, rfl⟩
                                  have hltl : L.tail.length = L.length - 1 := List.length_tail
                                  obtain ⟨W', hst, hO', hbut⟩ := storeS (cO ⟨asOf L, hn, idn, L.tail⟩ AT (c7 - 1)) 26 HOW.out rfl (size26 _ _ _) (by simp [Value.oneCell'])
                                  have HLE := Aside0.mk (loadS 26 hO' Try.underlying26 (size26 ⟨asOf L, hn, idn, L.tail⟩ AT (c7 - 1)))
                                  have HFT : Aside0 (Kd.F k54 w10 (fun k => s + 1 ≤ k) AT L.tail.length L.tail) := ⟨by
                                    refine Kd.F_imp (Kd.F_mono (Kd.N_F HN9.out) (fun k hk => Nat.le_trans (by omega) hk)) (fun W' hC' => ?_)
                                    have := C_from (by decide) hC' hc7 1 (by omega) (s := 2) rfl
                                    rwa [hAT, List.drop_one, ← List.length_tail] at this⟩
                                  have HF' := Aside0.mk (Kd.F_step (W1 := W') HFT.out (fun k hk hlt => hbut.block k hlt (fun e => by have e : k = s := e; have hk : s + 1 ≤ k := hk; omega)))
                                  have HBT := Aside0.mk (HBW.out.trans (hbut.mono (n' := s) (S' := fun _ => False) (by omega) (fun k hk e => by have e : k = s := e; omega)))
                                  have HE5 := Aside0.mk e5
                                  have hst2 : (storeVar 26 ⟨s, 0, none⟩ (.agg #[.int .u32 sy, .int .u16 hn, .int .u32 idn, .slice AT (L.length - 1) (c7 - 1)])).run Try.prog w10 = .ok () W' := by
                                    rw [← hltl, ← HASO.out]
                                    exact hst
                                  have HST := Aside0.mk hst2
                                  clear hst hst2 hO' hbut e5 hltl
                                  go_wp2_with (refine pl_store rfl 26 _ _ rfl _ _ HST.out rfl rfl ?_)
                                  refine bodyPost_ret (results_cell_tmp rfl _ _ s _ rfl HLE.out) rfl ?_
                                  refine ⟨AT, c7 - 1, by rw [HE5.out]; rfl, by rw [HE5.out]; show L.tail.length ≤ c7 - 1; rw [List.length_tail]; omega, by rw [HE5.out, HS.out]; exact Kd.F_mono HF'.out (fun k hk => by have hk : s + 1 ≤ k := hk; show s ≤ k; omega), ?_⟩
                                  rw [HS.out]
                                  exact HBT.out.below (Nat.le_refl _) (fun _ _ h => h)
end Go.Proofs.Yticilaoibjbgfaa.Op

set_option linter.unusedSimpArgs false
set_option linter.unusedVariables false
namespace Go.Proofs.Yticilaoibjbgfaa.Op
open Go.RowKit Go.Proofs.YticilaoibjbgfaaW.PrintWords Go.Proofs.YticilaoibjbgfaaW.PrintLast Go.Proofs.YticilaoibjbgfaaW.PrintMore Go.Proofs.Yticilaoibjbgfaa.POpenRaws Go.Proofs.Yticilaoibjbgfaa.Lib Go.Proofs.Yticilaoibjbgfaa.High Go.Proofs.Yticilaoibjbgfaa.Lex
theorem zo_wf : zo.Wf := ⟨by decide, by decide, by decide, fun x h => by cases h⟩
theorem holdOf_lt {b : List Int} (hb : Byt b) (h : 10 ≤ b.length) : holdOf b < 65536 := by
  have := num2_bd (b := (b.take 5).drop 3) (by rw [List.length_drop, List.length_take]; omega) (byt_drop (byt_take hb _) _)
  rw [holdOf]
  omega
theorem idOf_lt {b : List Int} (hb : Byt b) (h : 10 ≤ b.length) : idOf b < 4294967296 := by
  have := num4_bd (b := (b.take 9).drop 5) (by rw [List.length_drop, List.length_take]; omega) (byt_drop (byt_take hb _) _)
  rw [idOf]
  omega
theorem asB_parts {b : List Int} {l : List S54} (h : asB b l = true) : l.length ≠ 0 ∧ (l.getD 0 z54).f0 = 65 ∧ (l.getD 0 z54).f1.length = 4 ∧ asOf l ≠ 0 ∧ num2 ((b.take 3).drop 1) = (shortN (asOf l) : Int) := by
  rw [asB] at h
  simp only [Bool.and_eq_true, decide_eq_true_eq] at h
  exact h
theorem asOf_lt {l : List S54} (hw : WfL l) (h0 : l.length ≠ 0) (h4 : (l.getD 0 z54).f1.length = 4) : asOf l < 4294967296 := by
  have := num4_bd h4 (hw _ (getD_mem l 0 z54 (by omega))).2
  rw [asOf]
  omega
theorem tail_wf {l : List S54} (h : WfL l) : WfL l.tail := fun x hx => h x (List.mem_of_mem_tail hx)
theorem parseN_wf {b : List Int} (hb : Byt b) : (parseN b).1.Wf := by
  rw [parseN]
  split
  · exact zo_wf
  split
  · exact zo_wf
  split
  · exact zo_wf
  split
  · exact zo_wf
  split
  · exact zo_wf
  split
  · exact zo_wf
  · rename_i h1 _ _ _ _ h6
    have hL := eachL_wf (byt_drop hb 12)
    obtain ⟨p0, p1, p2, p3, p4⟩ := asB_parts (by simpa using h6)
    exact ⟨asOf_lt hL p0 p2, holdOf_lt hb (by omega), idOf_lt hb (by omega), tail_wf hL⟩
theorem parseN_len (b : List Int) : (parseN b).1.l.length ≤ b.length := by
  have h : (eachL (b.drop 12)).tail.length ≤ b.length := by
    have := eachF_len (b.drop 12).length (b.drop 12)
    rw [List.length_tail]
    have h2 : (eachL (b.drop 12)).length ≤ (b.drop 12).length := this
    rw [List.length_drop] at h2
    omega
  rw [parseN]
  repeat' split
  all_goals first | exact Nat.zero_le _ | exact h
theorem parseAll (A : Option Addr) (c : Nat) (b : List Int) (w : World) (hlen : b.length ≤ 1000000) (hcap : b.length ≤ c) (hw : Byt b) (hC : Kd.C KB w A b.length b) :
    Calls Try.prog 18 #[.slice A b.length c] w (ParseR b w) := by
  by_cases h : b.length < 10
  · have e : parseN b = (zo, 280) := by rw [parseN, if_pos h]
    exact (parseShort A c b h w).mono (fun x w' hx => ⟨none, 0, by rw [hx.1, e], by rw [e]; exact Nat.zero_le _, by rw [e]; exact Kd.F_nil _ _ _, hx.2⟩)
  · exact parseC A c b w (by omega) hlen hcap hw hC
set_option maxRecDepth 100000 in
set_option maxHeartbeats 8000000 in
theorem parsesLaw (A : Option Addr) (c : Nat) (b : List Int) (w : World) (hx : Kd.C KB w A b.length b) (hc : b.length ≤ c) (hw : ∀ n ∈ b, (Lit.int .u8 n).wf = true) (hr : b.length * 1 ≤ 140737488351232) :
    Calls Try.prog 4 #[.slice A b.length c] w fun e w' => e = .returned (.bool true) ∧ Below w.heap.size w w' := by
  by_cases hl : 300 < b.length
  · have hlI : (300 : Int) < (b.length : Int) := by omega
    clear hx
    go_enter Try.func4, Try.ntmps4
    go_wp2_with fail
    refine (worksC _).mono ?_
    rintro e w' ⟨rfl, hb⟩
    go_wp2_with fail
    go_ret
    exact ⟨rfl, hb⟩
  · have hlI : ¬ ((300 : Int) < (b.length : Int)) := by omega
    have hwb : Byt b := fun x hx => Row.wf_u8 (hw x hx)
    have HWB := Aside0.mk hwb
    have HX := Aside0.mk hx
    clear hx hw hwb
    go_enter Try.func4, Try.ntmps4
    go_wp2_with (first | ((with_reducible refine gate_builtin (b := .append) (xs := #[.tmp 14, .tmp 15]) rfl ?_); refine ap_row w.heap.size _ _ rfl rfl (OB.lit w [] [] rfl 0 rfl (Nat.le_refl _) (by simp)) (Kd.C_below HX.out (below_alloc (Below.refl _ _) _)) rfl rfl (by simp) (by simp; omega) ?_; intro v w1 ho hb; have HO1 := Aside0.mk ho; have HB1 := Aside0.mk ((below_alloc (Below.refl _ _) _).trans hb); clear ho hb) | ((with_reducible refine gate_builtin (b := .append) (xs := #[.tmp 16, .tmp 17]) rfl ?_); refine ap_row w.heap.size _ _ rfl rfl (HO1.out.below (below_alloc (Below.refl _ _) _)) (OB.lit w1 [77] _ rfl 1 rfl (Nat.le_refl _) (by decide)).readsAt rfl rfl (by have := HB1.out.size; simp; omega) (by simp; omega) ?_; intro v2 w2 ho hb; have HO2 := Aside0.mk ho; have HB2 := Aside0.mk ((below_alloc HB1.out _).trans hb); clear ho hb HO1 HB1; obtain ⟨g, c2, rfl, hg1, hg2, hg3⟩ := HO2.out.form (by simp); have hcap2 : (b.length : Int) ≤ (c2 : Int) := (by (simp at hg3; omega)); have HG3 := Aside0.mk hg3))
    have hlen : ([] ++ b ++ [77] : List Int).length = b.length + 1 := by simp
    have hcap1 : (b.length : Int) + 1 ≤ (c2 : Int) := by have h3 := HG3.out; rw [hlen] at h3; omega
    have hC2 := HO2.out.readsAt
    have hCm : Kd.C KB w2 (some ⟨g, 0, none⟩) b.length b := by
      have h3 := C_seg hC2 0 b.length (Nat.zero_le _) (by omega) (some ⟨g, 0, none⟩) (fun _ => rfl)
      rw [List.nil_append, List.take_left, List.drop_zero, Nat.sub_zero] at h3
      exact h3
    have hcell : w2.cell? ⟨g, b.length, none⟩ = some (.int .u8 77) := by
      obtain ⟨b', o', e', h⟩ := C_byte hC2 b.length (by omega)
      simp only [Option.some.injEq, Addr.mk.injEq, and_true] at e'
      obtain ⟨rfl, rfl⟩ := e'
      rw [Nat.zero_add, List.nil_append, List.getD_eq_getElem?_getD, List.getElem?_append_right (Nat.le_refl _), Nat.sub_self] at h
      exact h
    have hpl := parseN_len b
    have hpw := parseN_wf HWB.out
    have HP := parseAll (some ⟨g, 0, none⟩) c2 b w2 (by omega) (by omega) HWB.out hCm
    have HR := fun W (hW : Below w.heap.size w W) => rparseC A c b W (by omega) hc HWB.out (Kd.C_below HX.out hW)
    unfold ParseR at HP HR
    obtain ⟨⟨o, code⟩, hpn⟩ : ∃ q, parseN b = q := ⟨_, rfl⟩
    simp only [hpn] at HP HR hpl hpw
    have HP := Aside0.mk HP
    have HR := Aside0.mk HR
    have HPW := Aside0.mk hpw
    have HCm := Aside0.mk hCm
    have HCELL := Aside0.mk hcell
    clear hC2 hCm hcell hpn hpw hlen
    refine HP.out.mono ?_
    rintro e w3 ⟨A1, c1, rfl, hc1, hF1, hb3⟩
    have HB3 := Aside0.mk (HB2.out.trans (hb3.mono HB2.out.size))
    have hg3 := hb3.size
    have ho4 := Ob.new w3 (cO o A1 c1) _ rfl 26
    have hb4 := below_alloc (Below.refl w3.heap.size w3) (.cells (cO o A1 c1).toArray 26)
    obtain ⟨w4, hw4⟩ : ∃ W, w3.alloc (.cells #[.int .u32 o.a, .int .u16 o.h, .int .u32 o.i, .slice A1 o.l.length c1] 26) = W := ⟨_, rfl⟩
    have hb4 : Below w3.heap.size w3 w4 := by rw [← hw4]; exact hb4
    obtain ⟨p4, hp4⟩ : ∃ p, w3.heap.size = p := ⟨_, rfl⟩
    have ho4 : Ob p4 w4 (cO o A1 c1) := by rw [← hw4, ← hp4]; exact ho4
    have hz4 : w4.heap.size = p4 + 1 := by rw [← hw4, World.size_alloc, hp4]
    rw [hp4] at hb4 hg3
    have HO4 := Aside0.mk ho4
    have HB4 := Aside0.mk (HB3.out.trans (hb4.mono (by rw [← hp4]; exact HB3.out.size)))
    have HB24 := Aside0.mk (hb3.trans (hb4.mono hg3))
    have HF4 := Aside0.mk (Kd.F_below hF1 (by rw [hp4]; exact hb4))
    have HM4 := Aside0.mk (HO2.out.below HB24.out)
    have HZ4 := Aside0.mk hz4
    have hcm4 := conv w4 _ c2 _ (Kd.C_below HCm.out HB24.out)
    have hcx4 := conv w4 A c b (Kd.C_below HX.out HB4.out)
    have hcl4 := pw_cell_below HB24.out HCELL.out
    clear HP HB3 hb3 hb4 ho4 hF1 HCm HCELL HO2 hz4
    go_wp2_with fail
    clear hcm4 hcx4 hcl4
    go_loopg [7] b.length (fun gk s7 W => ∃ (k : Nat) (ys : List Int), k ≤ b.length ∧ b.length - k ≤ gk ∧ s7 = .int .i64 k ∧ Aside0 (ys.length = b.length + 1) ∧ Aside0 (OB w.heap.size W (.slice (some ⟨g, 0, none⟩) (b.length + 1) c2) ys) ∧ Aside0 (Ob p4 W (cO o A1 c1)) ∧ Aside0 (Kd.F k54 W (fun k => w2.heap.size ≤ k) A1 o.l.length o.l) ∧ Aside0 (Below w.heap.size w W))
    case atStart => exact ⟨0, [] ++ b ++ [77], by omega, by omega, rfl, ⟨by simp⟩, ⟨by have h := HM4.out; rwa [show ([] ++ b ++ [77] : List Int).length = b.length + 1 by simp] at h⟩, HO4, HF4, HB4⟩
    case round =>
      clear HM4 HO4 HF4 HB4
      obtain ⟨k, ys, hk, hgk, rfl, HY, HM, HO, HF, HB⟩ := hrel
      by_cases hlt : k < b.length
      · have hkI : (k : Int) < (b.length : Int) := by omega
        obtain ⟨hcell, hfr⟩ := HM.out.cell k (by omega)
        obtain ⟨y, hy⟩ : ∃ y, ys.getD k 0 = y := ⟨_, rfl⟩
        rw [hy] at hcell
        clear hy
        go_wp2_with fail
        go_roundg (gk - 1)
        case measure => omega
        case rel => exact ⟨k + 1, _, by omega, by omega, by go_num, ⟨by rw [List.length_set]; exact HY.out⟩, ⟨HM.out.put k _⟩, ⟨HO.out.far (q := ⟨g, k, none⟩) (by show p4 ≠ g; omega) _⟩, ⟨Kd.F_far HF.out (p := ⟨g, k, none⟩) (fun j hj e => by have e : j = g := e; have hj : w2.heap.size ≤ j := hj; omega) _⟩, ⟨HB.out.setCell (by exact hg1) _⟩⟩
      · obtain rfl : k = b.length := by omega
        have hkI : ¬ ((b.length : Int) < (b.length : Int)) := by omega
        go_wp2_with fail
        refine (HR.out _ HB.out).mono ?_
        rintro e w5 ⟨A8, c8, rfl, hc8, hF8, hb5⟩
        have HB5 := Aside0.mk (HB.out.trans (hb5.mono HB.out.size))
        have O5 := HO.out.below hb5 HO.out.lt
        have F5 := Kd.F_below HF.out hb5
        have ho6 := Ob.new w5 (cO o A8 c8) _ rfl 26
        have hb6 := below_alloc (Below.refl w5.heap.size w5) (.cells (cO o A8 c8).toArray 26)
        obtain ⟨w6, hw6⟩ : ∃ W, w5.alloc (.cells #[.int .u32 o.a, .int .u16 o.h, .int .u32 o.i, .slice A8 o.l.length c8] 26) = W := ⟨_, rfl⟩
        have hb6 : Below w5.heap.size w5 w6 := by rw [← hw6]; exact hb6
        obtain ⟨p6, hp6⟩ : ∃ p, w5.heap.size = p := ⟨_, rfl⟩
        have ho6 : Ob p6 w6 (cO o A8 c8) := by rw [← hw6, ← hp6]; exact ho6
        have O6 := O5.below hb6 O5.lt
        have HA6 := Aside0.mk (Kd.F_now (Kd.F_below F5 hb6))
        have HA8 := Aside0.mk (Kd.F_now (Kd.F_below hF8 hb6))
        have HB6 := Aside0.mk (HB5.out.trans (hb6.mono HB5.out.size))
        have u0 := (O6 0 _ rfl).1
        have u1 := (O6 1 _ rfl).1
        have u2 := (O6 2 _ rfl).1
        have u3 := (O6 3 _ rfl).1
        have v0 := (ho6 0 _ rfl).1
        have v1 := (ho6 1 _ rfl).1
        have v2 := (ho6 2 _ rfl).1
        have v3 := (ho6 3 _ rfl).1
        clear hb5 hb6 O5 F5 ho6 O6 hF8 HB HF HO HM HR HB5
        have hcc : (code == code) = true := by simp
        go_wp2_with fail
        refine (rsameC o o HPW.out HPW.out A1 c1 A8 c8 w6 HA6.out HA8.out (by omega)).mono ?_
        rintro e w7 ⟨rfl, hb7⟩
        rw [sameB_refl]
        have HB7 := Aside0.mk (HB6.out.trans (hb7.mono HB6.out.size))
        clear hb7 u0 u1 u2 u3 v0 v1 v2 v3 hw6 hp6 hw4 hp4
        go_wp2_with fail
        refine (num _ _).mono ?_
        rintro e y1 ⟨rfl, rfl⟩
        go_wp2_with fail
        refine (worksC _).mono ?_
        rintro e w8 ⟨rfl, hb8⟩
        go_wp2_with fail
        go_ret
        exact ⟨rfl, HB7.out.trans (hb8.mono HB7.out.size)⟩
end Go.Proofs.Yticilaoibjbgfaa.Op
