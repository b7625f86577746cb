/- Openings: the walk of Raw. -/
import Derived.Test.YticilaoibjbgfaaOp5
set_option linter.unusedSimpArgs false
set_option linter.unusedVariables false
namespace Go.Proofs.Yticilaoibjbgfaa.Op
open Go.RowKit Go.Proofs.YticilaoibjbgfaaW.PrintWords Go.Proofs.YticilaoibjbgfaaW.PrintLast Go.Proofs.YticilaoibjbgfaaW.PrintMore Go.Proofs.Yticilaoibjbgfaa.POpenRaws Go.Proofs.Yticilaoibjbgfaa.Lib Go.Proofs.Yticilaoibjbgfaa.High Go.Proofs.Yticilaoibjbgfaa.Lex
theorem liP {Q : Exit → Act → World → Prop} {K : Act → World → Prop} {a : Act} {W : World} (h : K a W) : putQ Q K .normal a W := h
theorem lt24 {P : Nat → Prop} (h0 : P 0) (h1 : P 1) (h2 : P 2) (h3 : P 3) (h4 : P 4) (h5 : P 5) (h6 : P 6) (h7 : P 7) (h8 : P 8) (h9 : P 9) (h10 : P 10) (h11 : P 11) (h12 : P 12) (h13 : P 13) (h14 : P 14) (h15 : P 15) (h16 : P 16) (h17 : P 17) (h18 : P 18) (h19 : P 19) (h20 : P 20) (h21 : P 21) (h22 : P 22) (h23 : P 23) : ∀ i, i < 24 → P i
  | 0, _ => h0
  | 1, _ => h1
  | 2, _ => h2
  | 3, _ => h3
  | 4, _ => h4
  | 5, _ => h5
  | 6, _ => h6
  | 7, _ => h7
  | 8, _ => h8
  | 9, _ => h9
  | 10, _ => h10
  | 11, _ => h11
  | 12, _ => h12
  | 13, _ => h13
  | 14, _ => h14
  | 15, _ => h15
  | 16, _ => h16
  | 17, _ => h17
  | 18, _ => h18
  | 19, _ => h19
  | 20, _ => h20
  | 21, _ => h21
  | 22, _ => h22
  | 23, _ => h23
  | n + 24, h => absurd h (by omega)
def rawS (o : Opn) : List Int := if checkN o = 0 then rawB o else []
/-- what is so of the values of Raw's last region -/
def rawF (B p : Nat) (o : Opn) (v5 : Value) (L : Nat) : Nat → Value → World → Prop
  | 0, v, W => OB B W v [4]
  | 1, v, _ => v = .pointer (some ⟨p, 0, none⟩)
  | 2, v, _ => v = .int .u32 o.a
  | 3, v, _ => v = .int .u16 (shortN o.a)
  | 4, v, W => OB B W v (high2 (shortN o.a))
  | 5, v, _ => v = .pointer (some ⟨p, 1, none⟩)
  | 6, v, _ => v = .int .u16 o.h
  | 7, v, W => OB B W v (high2 o.h)
  | 8, v, _ => v = .pointer (some ⟨p, 2, none⟩)
  | 9, v, _ => v = .int .u32 o.i
  | 10, v, W => OB B W v (high4 o.i)
  | 11, v, _ => v = v5
  | 12, v, _ => v = .int .i64 L
  | 13, v, _ => v = .int .i64 ((L : Int) + 2)
  | 14, v, _ => v = .int .u8 (((L : Int) + 2) % 256)
  | 15, v, _ => v = v5
  | 16, v, _ => v = .int .i64 L
  | 17, v, _ => v = .int .u8 ((L : Int) % 256)
  | 18, v, W => OB B W v [((L : Int) + 2) % 256, 2, (L : Int) % 256]
  | 19, v, _ => v = v5
  | 20, v, W => ∃ A, v = .slice A 6 6 ∧ Kd.C KBB W A 6 [[4], high2 (shortN o.a), high2 o.h, high4 o.i, [((L : Int) + 2) % 256, 2, (L : Int) % 256], laidO o]
  | 21, v, W => OB B W v (rawB o)
  | 22, v, W => OB B W v (rawB o)
  | 23, v, _ => v = .int .i64 0
  | _ + 24, _, _ => True
theorem rawF_step {B p : Nat} {o : Opn} {v5 : Value} {L : Nat} : ∀ i v W W', Below W.heap.size W W' → rawF B p o v5 L i v W → rawF B p o v5 L i v W'
  | 0, v, W, W', hs, hf => OB.below (show OB B W v _ from hf) hs
  | 1, v, W, W', hs, hf => hf
  | 2, v, W, W', hs, hf => hf
  | 3, v, W, W', hs, hf => hf
  | 4, v, W, W', hs, hf => OB.below (show OB B W v _ from hf) hs
  | 5, v, W, W', hs, hf => hf
  | 6, v, W, W', hs, hf => hf
  | 7, v, W, W', hs, hf => OB.below (show OB B W v _ from hf) hs
  | 8, v, W, W', hs, hf => hf
  | 9, v, W, W', hs, hf => hf
  | 10, v, W, W', hs, hf => OB.below (show OB B W v _ from hf) hs
  | 11, v, W, W', hs, hf => hf
  | 12, v, W, W', hs, hf => hf
  | 13, v, W, W', hs, hf => hf
  | 14, v, W, W', hs, hf => hf
  | 15, v, W, W', hs, hf => hf
  | 16, v, W, W', hs, hf => hf
  | 17, v, W, W', hs, hf => hf
  | 18, v, W, W', hs, hf => OB.below (show OB B W v _ from hf) hs
  | 19, v, W, W', hs, hf => hf
  | 20, v, W, W', hs, hf => by
    obtain ⟨A, h1, h2⟩ := hf
    exact ⟨A, h1, Kd.C_below h2 hs⟩
  | 21, v, W, W', hs, hf => OB.below (show OB B W v _ from hf) hs
  | 22, v, W, W', hs, hf => OB.below (show OB B W v _ from hf) hs
  | 23, v, W, W', hs, hf => hf
  | _ + 24, v, W, W', hs, hf => trivial
set_option maxRecDepth 100000 in
set_option maxHeartbeats 8000000 in
theorem rawC (o : Opn) (ho : o.Wf) (A : Option Addr) (c : Nat) (w : World) (hx : Kd.C k54 w A o.l.length o.l) (hc : o.l.length ≤ c) (hL : (laidO o).length < 140737488355000) (hl : o.l.length < 500000) :
    Calls Try.prog 12 #[aO o A c] w fun e w' => ∃ v, e = .returned (.tuple #[v, .int .i64 (checkN o)]) ∧ OB w.heap.size w' v (rawS o) ∧ Below w.heap.size w w' := by
  have hb := below_alloc (Below.refl w.heap.size w) (.cells #[.int .u32 o.a, .int .u16 o.h, .int .u32 o.i, .slice A o.l.length c] 26)
  have hob := Ob.new w [.int .u32 o.a, .int .u16 o.h, .int .u32 o.i, .slice A o.l.length c] _ rfl 26
  have hsV : (w.alloc (.cells #[.int .u32 o.a, .int .u16 o.h, .int .u32 o.i, .slice A o.l.length c] 26)).heap.size = w.heap.size + 1 := by simp
  have q0 := (hob 0 _ rfl).1
  have q1 := (hob 1 _ rfl).1
  have q2 := (hob 2 _ rfl).1
  have q3 := (hob 3 _ rfl).1
  have HXV := Aside0.mk (Kd.C_below hx hb)
  have HOB := Aside0.mk hob
  have HB := Aside0.mk hb
  have HO := Aside0.mk ho
  have HLL := Aside0.mk hL
  have HSV := Aside0.mk hsV
  clear hx hob hb ho hL hsV
  go_enter Try.func12, Try.ntmps12
  go_wp2_with fail
  refine (checkC o HO.out A c _ HXV.out hc HLL.out hl).mono ?_
  rintro e w2 ⟨rfl, hb2⟩
  have hob2 := HOB.out.below hb2 (by rw [HSV.out]; omega)
  have p0 := (hob2 0 _ rfl).1
  have p1 := (hob2 1 _ rfl).1
  have p2 := (hob2 2 _ rfl).1
  have p3 := (hob2 3 _ rfl).1
  have HX2 := Aside0.mk (Kd.C_below HXV.out hb2)
  have HB2 := Aside0.mk (HB.out.trans (hb2.mono HB.out.size))
  have HOB2 := Aside0.mk hob2
  clear hb2 hob2 q0 q1 q2 q3
  obtain ⟨E, hE⟩ : ∃ E, checkN o = E := ⟨_, rfl⟩
  have HEQ := Aside0.mk hE
  rw [hE]
  clear hE
  cases hq : (E == 0) with
  | false =>
    have hq2 : (E != 0) = true := by rw [bne, hq]; rfl
    have HE := Aside0.mk (show rawS o = [] by rw [rawS, HEQ.out, if_neg (ne_of_beq_false hq)])
    go_wp2_with fail
    refine bodyPost_ret (v := .tuple #[.slice none 0 0, .int .i64 E]) (by simp [results, Try.results12, go_sem]) rfl ⟨_, by rw [HEQ.out], ?_, HB2.out⟩
    rw [HE.out]
    exact OB.nil _ _
  | true =>
    have hq2 : (E != 0) = false := by rw [bne, hq]; rfl
    have HE := Aside0.mk (show rawS o = rawB o by rw [rawS, HEQ.out, if_pos (eq_of_beq hq)])
    have HE0 := Aside0.mk (eq_of_beq hq)
    go_wp2_with fail
    refine (capsC o HO.out A c _ HX2.out hc HLL.out hl).mono ?_
    rintro e w3 ⟨v5, rfl, ho3, hb3⟩
    have hob3 := HOB2.out.below hb3 HOB2.out.lt
    have HCE : Aside0 (∀ U : World, Below w3.heap.size w3 U → U.cell? ⟨w.heap.size, 0, none⟩ = some (.int .u32 o.a) ∧ U.cell? ⟨w.heap.size, 1, none⟩ = some (.int .u16 o.h) ∧ U.cell? ⟨w.heap.size, 2, none⟩ = some (.int .u32 o.i)) := ⟨fun U hU => ⟨((hob3.below hU hob3.lt) 0 _ rfl).1, ((hob3.below hU hob3.lt) 1 _ rfl).1, ((hob3.below hU hob3.lt) 2 _ rfl).1⟩⟩
    have HB3 := Aside0.mk (HB2.out.trans (hb3.mono HB2.out.size))
    obtain ⟨A5, c5, e5, hc5, hC5⟩ := ho3.reads
    have HC5 := Aside0.mk hC5
    have HL5 := Aside0.mk hc5
    obtain ⟨L, hLn⟩ : ∃ L, (laidO o).length = L := ⟨_, rfl⟩
    have HLn := Aside0.mk hLn
    have hLb := HLL.out
    rw [hLn] at e5 hLb
    have HW : Aside0 (IntKind.i64.wrap ((L : Int) + 2) = (L : Int) + 2) := ⟨by rw [IntKind.wrap_i64]; omega⟩
    have HW1 : Aside0 (IntKind.u8.wrap ((L : Int) + 2) = ((L : Int) + 2) % 256) := ⟨by rw [IntKind.wrap_u8]⟩
    have HW2 : Aside0 (IntKind.u8.wrap (L : Int) = (L : Int) % 256) := ⟨by rw [IntKind.wrap_u8]⟩
    subst e5
    clear ho3 hb3 hob3 hC5 hc5 hLn p0 p1 p2 p3
    go_wp2_with fail
    refine regionI (n := 24) (fun x => #[aO o A c, .pointer (some ⟨w.heap.size, 0, none⟩), x 22, x 23, .int .i64 E, .slice A5 L c5, .agg #[.int .u32 o.a, .int .u16 o.h, .int .u32 o.i, .slice A o.l.length c], .int .i64 E, .int .i64 E, .bool false, undef, .agg #[.int .u32 o.a, .int .u16 o.h, .int .u32 o.i, .slice A o.l.length c], .slice A5 L c5, x 0, x 1, x 2, x 3, x 4, x 5, x 6, x 7, x 8, x 9, x 10, x 11, x 12, x 13, x 14, x 15, x 16, x 17, x 18, x 19, x 20, x 21]) [] (rawF w.heap.size w.heap.size o (.slice A5 L c5) L) (fun U => Below w3.heap.size w3 U) (fun U U' => Below U.heap.size U U') (fun i => match i with
      | 22 => .slice none 0 0
      | 23 => .int .i64 0
      | _ => undef) (by kernel_rfl) rfl (by kernel_rfl) rfl (below_drew (Below.refl _ _)) rawF_step ?each ?done
    case done =>
      intro x W hF hG
      have f22 : OB w.heap.size W (x 22) (rawB o) := hF 22 (by decide)
      have f23 : x 23 = .int .i64 0 := hF 23 (by decide)
      have HF22 := Aside0.mk f22
      have HBW := Aside0.mk (HB3.out.trans (hG.mono HB3.out.size))
      clear hF hG f22
      dsimp only
      go_wp2_with fail
      refine bodyPost_ret (v := .tuple #[x 22, .int .i64 0]) (by simp [results, Try.results12, go_sem, f23]) rfl ⟨_, by rw [HEQ.out, HE0.out], ?_, HBW.out⟩
      rw [HE.out]
      exact HF22.out
    case each =>
      refine lt24 ?_ ?_ ?_ ?_ ?_ ?_ ?_ ?_ ?_ ?_ ?_ ?_ ?_ ?_ ?_ ?_ ?_ ?_ ?_ ?_ ?_ ?_ ?_ ?_
      · refine opI_of rfl ?_
        intro x W hF hG
        obtain ⟨c0, c1, c2⟩ := HCE.out W hG
        have HG := Aside0.mk hG
        clear hF hG
        dsimp only
        go_wp2_with fail
        exact liP ⟨_, (by first | rfl | (simp only [Act.put, List.setIfInBounds_toArray, List.set_cons_zero, List.set_cons_succ]; rfl) | (simp [upd])), OB.lit W [4] _ rfl 1 rfl (Nat.le_trans HB3.out.size HG.out.size) (by simp), below_alloc HG.out _, below_alloc (Below.refl _ _) _⟩
      · refine opI_of rfl ?_
        intro x W hF hG
        obtain ⟨c0, c1, c2⟩ := HCE.out W hG
        have HG := Aside0.mk hG
        clear hF hG
        dsimp only
        go_wp2_with fail
        exact liP ⟨.pointer (some ⟨w.heap.size, 0, none⟩), (by first | rfl | (simp only [Act.put, List.setIfInBounds_toArray, List.set_cons_zero, List.set_cons_succ]; rfl) | (simp [upd])), rfl, HG.out, Below.refl _ _⟩
      · refine opI_of rfl ?_
        intro x W hF hG
        have f1 : x 1 = .pointer (some ⟨w.heap.size, 0, none⟩) := hF 1 (by kernel_rfl)
        obtain ⟨c0, c1, c2⟩ := HCE.out W hG
        have HG := Aside0.mk hG
        clear hF hG
        dsimp only
        go_wp2_with fail
        exact liP ⟨.int .u32 o.a, (by first | rfl | (simp only [f1, Act.put, List.setIfInBounds_toArray, List.set_cons_zero, List.set_cons_succ]; rfl) | (simp [f1, upd])), rfl, HG.out, Below.refl _ _⟩
      · refine opI_of rfl ?_
        intro x W hF hG
        have f2 : x 2 = .int .u32 o.a := hF 2 (by kernel_rfl)
        obtain ⟨c0, c1, c2⟩ := HCE.out W hG
        have HG := Aside0.mk hG
        clear hF hG
        dsimp only
        go_wp2_with fail
        refine (open_short.calls _ _ _ (short_ex o.a)).mono ?_
        rintro e W2 ⟨rfl, hd⟩
        have hb := hd.below
        go_wp2_with fail
        exact liP ⟨_, (by first | rfl | (simp only [f2, Act.put, List.setIfInBounds_toArray, List.set_cons_zero, List.set_cons_succ]; rfl) | (simp [f2, upd])), rfl, HG.out.trans (hb.mono HG.out.size), hb⟩
      · refine opI_of rfl ?_
        intro x W hF hG
        have f3 : x 3 = .int .u16 (shortN o.a) := hF 3 (by kernel_rfl)
        obtain ⟨c0, c1, c2⟩ := HCE.out W hG
        have HG := Aside0.mk hG
        clear hF hG
        dsimp only
        go_wp2_with fail
        refine (high_uint16 (shortN o.a) _ (by rw [shortN]; split <;> omega)).mono ?_
        rintro e W2 ⟨u, rfl, ho, hb⟩
        have HO2 := Aside0.mk ho
        have HB2' := Aside0.mk hb
        clear ho hb
        go_wp2_with fail
        exact liP ⟨_, (by first | rfl | (simp only [f3, Act.put, List.setIfInBounds_toArray, List.set_cons_zero, List.set_cons_succ]; rfl) | (simp [f3, upd])), OB.lower HO2.out (Nat.le_trans HB3.out.size HG.out.size), HG.out.trans (HB2'.out.mono HG.out.size), HB2'.out⟩
      · refine opI_of rfl ?_
        intro x W hF hG
        obtain ⟨c0, c1, c2⟩ := HCE.out W hG
        have HG := Aside0.mk hG
        clear hF hG
        dsimp only
        go_wp2_with fail
        exact liP ⟨.pointer (some ⟨w.heap.size, 1, none⟩), (by first | rfl | (simp only [Act.put, List.setIfInBounds_toArray, List.set_cons_zero, List.set_cons_succ]; rfl) | (simp [upd])), rfl, HG.out, Below.refl _ _⟩
      · refine opI_of rfl ?_
        intro x W hF hG
        have f5 : x 5 = .pointer (some ⟨w.heap.size, 1, none⟩) := hF 5 (by kernel_rfl)
        obtain ⟨c0, c1, c2⟩ := HCE.out W hG
        have HG := Aside0.mk hG
        clear hF hG
        dsimp only
        go_wp2_with fail
        exact liP ⟨.int .u16 o.h, (by first | rfl | (simp only [f5, Act.put, List.setIfInBounds_toArray, List.set_cons_zero, List.set_cons_succ]; rfl) | (simp [f5, upd])), rfl, HG.out, Below.refl _ _⟩
      · refine opI_of rfl ?_
        intro x W hF hG
        have f6 : x 6 = .int .u16 o.h := hF 6 (by kernel_rfl)
        obtain ⟨c0, c1, c2⟩ := HCE.out W hG
        have HG := Aside0.mk hG
        clear hF hG
        dsimp only
        go_wp2_with fail
        refine (high_uint16 o.h _ (by have := HO.out.2.1; omega)).mono ?_
        rintro e W2 ⟨u, rfl, ho, hb⟩
        have HO2 := Aside0.mk ho
        have HB2' := Aside0.mk hb
        clear ho hb
        go_wp2_with fail
        exact liP ⟨_, (by first | rfl | (simp only [f6, Act.put, List.setIfInBounds_toArray, List.set_cons_zero, List.set_cons_succ]; rfl) | (simp [f6, upd])), OB.lower HO2.out (Nat.le_trans HB3.out.size HG.out.size), HG.out.trans (HB2'.out.mono HG.out.size), HB2'.out⟩
      · refine opI_of rfl ?_
        intro x W hF hG
        obtain ⟨c0, c1, c2⟩ := HCE.out W hG
        have HG := Aside0.mk hG
        clear hF hG
        dsimp only
        go_wp2_with fail
        exact liP ⟨.pointer (some ⟨w.heap.size, 2, none⟩), (by first | rfl | (simp only [Act.put, List.setIfInBounds_toArray, List.set_cons_zero, List.set_cons_succ]; rfl) | (simp [upd])), rfl, HG.out, Below.refl _ _⟩
      · refine opI_of rfl ?_
        intro x W hF hG
        have f8 : x 8 = .pointer (some ⟨w.heap.size, 2, none⟩) := hF 8 (by kernel_rfl)
        obtain ⟨c0, c1, c2⟩ := HCE.out W hG
        have HG := Aside0.mk hG
        clear hF hG
        dsimp only
        go_wp2_with fail
        exact liP ⟨.int .u32 o.i, (by first | rfl | (simp only [f8, Act.put, List.setIfInBounds_toArray, List.set_cons_zero, List.set_cons_succ]; rfl) | (simp [f8, upd])), rfl, HG.out, Below.refl _ _⟩
      · refine opI_of rfl ?_
        intro x W hF hG
        have f9 : x 9 = .int .u32 o.i := hF 9 (by kernel_rfl)
        obtain ⟨c0, c1, c2⟩ := HCE.out W hG
        have HG := Aside0.mk hG
        clear hF hG
        dsimp only
        go_wp2_with fail
        refine (high_uint32 o.i _ (by have := HO.out.2.2.1; omega)).mono ?_
        rintro e W2 ⟨u, rfl, ho, hb⟩
        have HO2 := Aside0.mk ho
        have HB2' := Aside0.mk hb
        clear ho hb
        go_wp2_with fail
        exact liP ⟨_, (by first | rfl | (simp only [f9, Act.put, List.setIfInBounds_toArray, List.set_cons_zero, List.set_cons_succ]; rfl) | (simp [f9, upd])), OB.lower HO2.out (Nat.le_trans HB3.out.size HG.out.size), HG.out.trans (HB2'.out.mono HG.out.size), HB2'.out⟩
      · refine opI_of rfl ?_
        intro x W hF hG
        obtain ⟨c0, c1, c2⟩ := HCE.out W hG
        have HG := Aside0.mk hG
        clear hF hG
        dsimp only
        go_wp2_with fail
        exact liP ⟨.slice A5 L c5, (by first | rfl | (simp only [Act.put, List.setIfInBounds_toArray, List.set_cons_zero, List.set_cons_succ]; rfl) | (simp [upd])), rfl, HG.out, Below.refl _ _⟩
      · refine opI_of rfl ?_
        intro x W hF hG
        have f11 : x 11 = .slice A5 L c5 := hF 11 (by kernel_rfl)
        obtain ⟨c0, c1, c2⟩ := HCE.out W hG
        have HG := Aside0.mk hG
        clear hF hG
        dsimp only
        go_wp2_with fail
        exact liP ⟨.int .i64 L, (by first | rfl | (simp only [f11, Act.put, List.setIfInBounds_toArray, List.set_cons_zero, List.set_cons_succ]; rfl) | (simp [f11, upd])), rfl, HG.out, Below.refl _ _⟩
      · refine opI_of rfl ?_
        intro x W hF hG
        have f12 : x 12 = .int .i64 L := hF 12 (by kernel_rfl)
        obtain ⟨c0, c1, c2⟩ := HCE.out W hG
        have HG := Aside0.mk hG
        clear hF hG
        dsimp only
        go_wp2_with fail
        exact liP ⟨.int .i64 ((L : Int) + 2), (by first | rfl | (simp only [f12, HW.out, Act.put, List.setIfInBounds_toArray, List.set_cons_zero, List.set_cons_succ]; rfl) | (simp [f12, HW.out, upd])), rfl, HG.out, Below.refl _ _⟩
      · refine opI_of rfl ?_
        intro x W hF hG
        have f13 : x 13 = .int .i64 ((L : Int) + 2) := hF 13 (by kernel_rfl)
        obtain ⟨c0, c1, c2⟩ := HCE.out W hG
        have HG := Aside0.mk hG
        clear hF hG
        dsimp only
        go_wp2_with fail
        exact liP ⟨.int .u8 (((L : Int) + 2) % 256), (by first | rfl | (simp only [f13, HW1.out, Act.put, List.setIfInBounds_toArray, List.set_cons_zero, List.set_cons_succ]; rfl) | (simp [f13, HW1.out, upd])), rfl, HG.out, Below.refl _ _⟩
      · refine opI_of rfl ?_
        intro x W hF hG
        obtain ⟨c0, c1, c2⟩ := HCE.out W hG
        have HG := Aside0.mk hG
        clear hF hG
        dsimp only
        go_wp2_with fail
        exact liP ⟨.slice A5 L c5, (by first | rfl | (simp only [Act.put, List.setIfInBounds_toArray, List.set_cons_zero, List.set_cons_succ]; rfl) | (simp [upd])), rfl, HG.out, Below.refl _ _⟩
      · refine opI_of rfl ?_
        intro x W hF hG
        have f15 : x 15 = .slice A5 L c5 := hF 15 (by kernel_rfl)
        obtain ⟨c0, c1, c2⟩ := HCE.out W hG
        have HG := Aside0.mk hG
        clear hF hG
        dsimp only
        go_wp2_with fail
        exact liP ⟨.int .i64 L, (by first | rfl | (simp only [f15, Act.put, List.setIfInBounds_toArray, List.set_cons_zero, List.set_cons_succ]; rfl) | (simp [f15, upd])), rfl, HG.out, Below.refl _ _⟩
      · refine opI_of rfl ?_
        intro x W hF hG
        have f16 : x 16 = .int .i64 L := hF 16 (by kernel_rfl)
        obtain ⟨c0, c1, c2⟩ := HCE.out W hG
        have HG := Aside0.mk hG
        clear hF hG
        dsimp only
        go_wp2_with fail
        exact liP ⟨.int .u8 ((L : Int) % 256), (by first | rfl | (simp only [f16, HW2.out, Act.put, List.setIfInBounds_toArray, List.set_cons_zero, List.set_cons_succ]; rfl) | (simp [f16, HW2.out, upd])), rfl, HG.out, Below.refl _ _⟩
      · refine opI_of rfl ?_
        intro x W hF hG
        have f14 : x 14 = .int .u8 (((L : Int) + 2) % 256) := hF 14 (by kernel_rfl)
        have f17 : x 17 = .int .u8 ((L : Int) % 256) := hF 17 (by kernel_rfl)
        obtain ⟨c0, c1, c2⟩ := HCE.out W hG
        have HG := Aside0.mk hG
        clear hF hG
        dsimp only
        go_wp2_with fail
        exact liP ⟨_, (by first | rfl | (simp only [f14, f17, Act.put, List.setIfInBounds_toArray, List.set_cons_zero, List.set_cons_succ]; rfl) | (simp [f14, f17, upd])), OB.lit W [((L : Int) + 2) % 256, 2, (L : Int) % 256] _ rfl 3 rfl (Nat.le_trans HB3.out.size HG.out.size) (by simp), below_alloc HG.out _, below_alloc (Below.refl _ _) _⟩
      · refine opI_of rfl ?_
        intro x W hF hG
        obtain ⟨c0, c1, c2⟩ := HCE.out W hG
        have HG := Aside0.mk hG
        clear hF hG
        dsimp only
        go_wp2_with fail
        exact liP ⟨.slice A5 L c5, (by first | rfl | (simp only [Act.put, List.setIfInBounds_toArray, List.set_cons_zero, List.set_cons_succ]; rfl) | (simp [upd])), rfl, HG.out, Below.refl _ _⟩
      · refine opI_of rfl ?_
        intro x W hF hG
        have f0 : OB w.heap.size W (x 0) [4] := hF 0 (by kernel_rfl)
        have f4 : OB w.heap.size W (x 4) (high2 (shortN o.a)) := hF 4 (by kernel_rfl)
        have f7 : OB w.heap.size W (x 7) (high2 o.h) := hF 7 (by kernel_rfl)
        have f10 : OB w.heap.size W (x 10) (high4 o.i) := hF 10 (by kernel_rfl)
        have f18 : OB w.heap.size W (x 18) [((L : Int) + 2) % 256, 2, (L : Int) % 256] := hF 18 (by kernel_rfl)
        have f19 : x 19 = .slice A5 L c5 := hF 19 (by kernel_rfl)
        obtain ⟨c0, c1, c2⟩ := HCE.out W hG
        have HG := Aside0.mk hG
        clear hF hG
        have F0 := Aside0.mk f0
        have F4 := Aside0.mk f4
        have F7 := Aside0.mk f7
        have F10 := Aside0.mk f10
        have F18 := Aside0.mk f18
        clear f0 f4 f7 f10 f18
        have hb6 := below_alloc (Below.refl W.heap.size W) (.cells #[x 0, x 4, x 7, x 10, x 18, .slice A5 L c5] 30)
        have row : ∀ (v : Value) (xs : List Int), OB w.heap.size W v xs → ∃ (A : Option Addr) (c : Nat), some v = some (Value.slice A xs.length c) ∧ xs.length ≤ c ∧ Kd.C KB (W.alloc (.cells #[x 0, x 4, x 7, x 10, x 18, .slice A5 L c5] 30)) A xs.length xs := fun v xs h => by
          obtain ⟨A, c, e, h1, h2⟩ := h.reads
          exact ⟨A, c, by rw [e], h1, Kd.C_below h2 hb6⟩
        have hC : Kd.C KBB (W.alloc (.cells #[x 0, x 4, x 7, x 10, x 18, .slice A5 L c5] 30)) (some ⟨W.heap.size, 0, none⟩) 6 [[4], high2 (shortN o.a), high2 o.h, high4 o.i, [((L : Int) + 2) % 256, 2, (L : Int) % 256], laidO o] := by
          refine CBB_alloc (W := W) (cs := [x 0, x 4, x 7, x 10, x 18, .slice A5 L c5]) rfl [[4], high2 (shortN o.a), high2 o.h, high4 o.i, [((L : Int) + 2) % 256, 2, (L : Int) % 256], laidO o] rfl (by simp) ?_
          intro j xs hj
          match j, hj with
          | 0, hj =>
            obtain rfl := Option.some.inj hj
            exact row _ _ F0.out
          | 1, hj =>
            obtain rfl := Option.some.inj hj
            exact row _ _ F4.out
          | 2, hj =>
            obtain rfl := Option.some.inj hj
            exact row _ _ F7.out
          | 3, hj =>
            obtain rfl := Option.some.inj hj
            exact row _ _ F10.out
          | 4, hj =>
            obtain rfl := Option.some.inj hj
            exact row _ _ F18.out
          | 5, hj =>
            obtain rfl := Option.some.inj hj
            exact ⟨A5, c5, by rw [HLn.out]; rfl, HL5.out, Kd.C_below HC5.out (HG.out.trans (hb6.mono HG.out.size))⟩
          | n + 6, hj => simp at hj
        obtain ⟨B0, d0, e0, _, _⟩ := F0.out.reads
        have e0 : x 0 = .slice B0 1 d0 := e0
        obtain ⟨B4, d4, e4, _, _⟩ := F4.out.reads
        have e4 : x 4 = .slice B4 2 d4 := e4
        obtain ⟨B7, d7, e7, _, _⟩ := F7.out.reads
        have e7 : x 7 = .slice B7 2 d7 := e7
        obtain ⟨B10, d10, e10, _, _⟩ := F10.out.reads
        have e10 : x 10 = .slice B10 4 d10 := e10
        obtain ⟨B18, d18, e18, _, _⟩ := F18.out.reads
        have e18 : x 18 = .slice B18 3 d18 := e18
        rw [e0, e4, e7, e10, e18] at hC
        have HC := Aside0.mk hC
        clear hC row hb6
        dsimp only
        go_wp2_with fail
        exact liP ⟨_, (by first | rfl | (simp only [f19, e0, e4, e7, e10, e18, Act.put, List.setIfInBounds_toArray, List.set_cons_zero, List.set_cons_succ]; rfl) | (simp [f19, e0, e4, e7, e10, e18, upd])), show ∃ A, _ = Value.slice A 6 6 ∧ Kd.C KBB _ A 6 _ from ⟨_, rfl, HC.out⟩, below_alloc HG.out _, below_alloc (Below.refl _ _) _⟩
      · refine opI_of rfl ?_
        intro x W hF hG
        have f20 : ∃ A, x 20 = .slice A 6 6 ∧ Kd.C KBB W A 6 [[4], high2 (shortN o.a), high2 o.h, high4 o.i, [((L : Int) + 2) % 256, 2, (L : Int) % 256], laidO o] := hF 20 (by kernel_rfl)
        obtain ⟨c0, c1, c2⟩ := HCE.out W hG
        have HG := Aside0.mk hG
        clear hF hG
        obtain ⟨A20, f20, hc20⟩ := f20
        have HC20 := Aside0.mk hc20
        clear hc20
        dsimp only
        go_wp2_with fail
        refine (concat A20 6 _ _ HC20.out (by have := HLL.out; rw [HLn.out] at this; simp [flat, high2, high4, HLn.out]; omega)).mono ?_
        rintro e W2 ⟨u, rfl, ho, hb⟩
        have ho2 : OB W.heap.size W2 u (rawB o) := by
          have e2 : flat [[4], high2 (shortN o.a), high2 o.h, high4 o.i, [((L : Int) + 2) % 256, 2, (L : Int) % 256], laidO o] = rawB o := by rw [rawB, HLn.out]; simp [flat]
          rw [← e2]
          exact ho
        have HO2 := Aside0.mk ho2
        have HB2' := Aside0.mk hb
        clear ho hb ho2
        go_wp2_with fail
        exact liP ⟨_, (by first | rfl | (simp only [f20, Act.put, List.setIfInBounds_toArray, List.set_cons_zero, List.set_cons_succ]; rfl) | (simp [f20, upd])), OB.lower HO2.out (Nat.le_trans HB3.out.size HG.out.size), HG.out.trans (HB2'.out.mono HG.out.size), HB2'.out⟩
      · refine opI_of rfl ?_
        intro x W hF hG
        have f21 : OB w.heap.size W (x 21) (rawB o) := hF 21 (by kernel_rfl)
        obtain ⟨c0, c1, c2⟩ := HCE.out W hG
        have HG := Aside0.mk hG
        clear hF hG
        have F21 := Aside0.mk f21
        clear f21
        dsimp only
        go_wp2_with fail
        exact liP ⟨_, (by first | rfl | (simp only [Act.put, List.setIfInBounds_toArray, List.set_cons_zero, List.set_cons_succ]; rfl) | (simp [upd])), F21.out, HG.out, Below.refl _ _⟩
      · refine opI_of rfl ?_
        intro x W hF hG
        obtain ⟨c0, c1, c2⟩ := HCE.out W hG
        have HG := Aside0.mk hG
        clear hF hG
        dsimp only
        go_wp2_with fail
        exact liP ⟨.int .i64 0, (by first | rfl | (simp only [Act.put, List.setIfInBounds_toArray, List.set_cons_zero, List.set_cons_succ]; rfl) | (simp [upd])), rfl, HG.out, Below.refl _ _⟩
end Go.Proofs.Yticilaoibjbgfaa.Op
