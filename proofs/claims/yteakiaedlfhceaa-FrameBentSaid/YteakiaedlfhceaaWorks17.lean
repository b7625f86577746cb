/- The chapter's rows: works() is true. -/
import Derived.Test.YteakiaedlfhceaaRef17
set_option linter.unusedSimpArgs false
set_option linter.unusedVariables false
namespace Go.Proofs.Yteakiaedlfhceaa.Frame
open Go.RowKit Go.Proofs.YteakiaedlfhceaaW.PrintWords Go.Proofs.YteakiaedlfhceaaW.PrintLast Go.Proofs.YteakiaedlfhceaaW.PrintMore Go.Proofs.Yteakiaedlfhceaa.Lex Go.Proofs.Yteakiaedlfhceaa.Lib

theorem wfi (n : Int) (h : -9223372036854775808 ≤ n ∧ n ≤ 9223372036854775807) : (Lit.int .i64 n).wf = true := WalkArith.wf_i64 (by omega)
def R19 : List Int := [255, 255, 255, 255, 255, 255, 255, 255, 255, 255, 255, 255, 255, 255, 255, 255, 0, 19, 4]
theorem R19_eq : rawOf 4 [] = R19 := by decide
theorem raw4 (w : World) : Calls Try.prog 10 #[.int .i64 4, .slice none 0 0] w fun e w' =>
    ∃ (b o c : Nat), e = .returned (.tuple #[.slice (some ⟨b, o, none⟩) 19 c, .int .i64 0]) ∧ 19 ≤ c ∧ Kd.C KB w' (some ⟨b, o, none⟩) 19 R19 ∧ Below w.heap.size w w' := by
  refine (raw 4 none 0 [] w (C_none w) (by decide) (by decide) (by decide)).mono ?_
  rintro e w' ⟨v, rfl, ho, hb⟩
  have ho2 : OB w.heap.size w' v R19 := ho
  obtain ⟨A, c, rfl, hc, hC⟩ := ho2.reads
  obtain ⟨b, o, rfl⟩ := C_addr (by decide) hC (by decide)
  exact ⟨b, o, c, rfl, hc, hC, hb⟩
theorem raw5 (w : World) : Calls Try.prog 10 #[.int .i64 5, .slice none 0 0] w fun e w' =>
    ∃ v, e = .returned (.tuple #[v, .int .i64 2]) ∧ Below w.heap.size w w' := by
  refine (raw 5 none 0 [] w (C_none w) (by decide) (by decide) (by decide)).mono ?_
  rintro e w' ⟨v, rfl, ho, hb⟩
  exact ⟨v, rfl, hb⟩
theorem num (n : Int) (w : World) : Calls Try.prog 12 #[.int .i64 n] w fun e w' => e = .returned (.int .i64 n) ∧ w = w' := by
  go_enter Try.func12, Try.ntmps12
  go_wp2
  go_ret
  exact ⟨rfl, rfl⟩

set_option maxHeartbeats 2000000 in
theorem works (w : World) : Calls Try.prog 9 #[] w fun e w' => e = .returned (.bool true) ∧ Below w.heap.size w w' := by
  have hmk : ∀ w, (Instr.makeSlice 22 (.int .i64 19) (.int .i64 19)).run Try.prog w = .ok (.slice (some ⟨w.heap.size, 0, none⟩) 19 19) (w.alloc (.cells (List.replicate 19 (Value.int .u8 0)).toArray 5)) := fun _ => by kernel_rfl
  go_enter Try.func9, Try.ntmps9
  go_wp2_with fail
  refine (raw4 _).mono ?_
  rintro e w1 ⟨b, o, c, rfl, hc, hC, hb1⟩
  have HC := Aside0.mk hC
  have HB1 := Aside0.mk hb1
  clear hC hb1
  go_wp2_with fail
  refine (raw5 _).mono ?_
  rintro e w2 ⟨v5, rfl, hb2⟩
  have HC2 := Aside0.mk (Kd.C_below HC.out hb2)
  have HB2 := Aside0.mk (HB1.out.trans (hb2.mono HB1.out.size))
  clear hb2 HC HB1
  go_wp2_with fail
  refine (cut (some ⟨w2.heap.size, 0, none⟩) 19 (List.replicate 19 0) _ (C_block (heap_alloc_new w2 _) _ [] rfl (by decide)) (by decide) (by decide)).mono ?_
  rintro e w3 ⟨v6, he, _, hb3⟩
  have hcut : cutOf (List.replicate 19 0) = (0, [], 0, 270) := by decide +kernel
  rw [hcut] at he
  obtain rfl := he
  have HB3 := Aside0.mk (HB2.out.trans ((below_alloc (Below.refl w2.heap.size w2) _).mono HB2.out.size |>.trans (hb3.mono (by have := HB2.out.size; simp; omega))))
  have HC3 := Aside0.mk (Kd.C_below (Kd.C_below HC2.out (below_alloc (Below.refl w2.heap.size w2) _)) hb3)
  clear hb3 hcut HC2 HB2 hmk
  have hsz := HB3.out.size
  go_wp2_with (first | ((with_reducible refine gate_builtin (b := .append) (xs := #[.tmp 36, .tmp 37]) rfl ?_); refine ap_row w3.heap.size _ _ rfl rfl (OB.lit w3 [] [] rfl 0 rfl (Nat.le_refl _) (by simp)) (Kd.C_below HC3.out (below_alloc (Below.refl _ _) _)) rfl rfl (by simp) (by simp) ?_; intro v w4 ho hb; have HO4 := Aside0.mk ho; have HB4 := Aside0.mk ((below_alloc (Below.refl _ _) _).trans hb); clear ho hb) | ((with_reducible refine gate_builtin (b := .append) (xs := #[.tmp 38, .tmp 39]) rfl ?_); refine ap_row w3.heap.size _ _ rfl rfl (HO4.out.below (below_alloc (Below.refl _ _) _)) (OB.lit w4 [1, 2] _ rfl 2 rfl (Nat.le_refl _) (by decide)).readsAt rfl rfl (by have := HB4.out.size; simp; omega) (by simp [R19]) ?_; intro v2 w5 ho hb; have HO5 := Aside0.mk ho; have HB5 := Aside0.mk ((below_alloc HB4.out _).trans hb); clear ho hb HO4 HB4))
  obtain ⟨A5, c5, rfl, hc5, hC5⟩ := HO5.out.reads
  have hl5 : ([] ++ R19 ++ [1, 2]).length = 21 := by decide
  have HCut := cut A5 c5 ([] ++ R19 ++ [1, 2]) w5 hC5 hc5 (by decide)
  rw [hl5, show cutOf ([] ++ R19 ++ [1, 2]) = (4, [], 19, 0) from by decide +kernel] at HCut
  have HCut := Aside0.mk HCut
  have HC5 := Aside0.mk (Kd.C_below HC3.out HB5.out)
  clear hC5 hl5 HC3 HO5 hc5
  refine HCut.out.mono ?_
  rintro e w6 ⟨v10, rfl, ho, hb⟩
  have HC6 := Aside0.mk (Kd.C_below HC5.out hb)
  have HB6 := Aside0.mk ((HB3.out.trans (HB5.out.mono hsz)).trans (hb.mono (by have := HB5.out.size; omega)))
  have hr : ∃ A c, v10 = .slice A 0 c := by
    obtain ⟨A, c, e, _, _⟩ := ho.reads
    exact ⟨A, c, e⟩
  obtain ⟨A10, c10, rfl⟩ := hr
  clear ho hb HCut HC5 HB5 HB3
  go_wp2_with fail
  have HCut := cut (some ⟨b, o, none⟩) c (R19.take 18) w6 (C_take HC6.out 18 (by decide)) (by rw [show (R19.take 18).length = 18 from by decide]; omega) (by decide)
  rw [show (R19.take 18).length = 18 from by decide, show cutOf (R19.take 18) = (0, [], 0, 0) from by decide +kernel] at HCut
  refine HCut.mono ?_
  rintro e w7 ⟨v14, rfl, _, hb⟩
  have hC7 := Kd.C_below HC6.out hb
  have HB7 := Aside0.mk (HB6.out.trans (hb.mono HB6.out.size))
  have hconv := Kd.C_string (dst := 9) (c := c - 16) Try.underlying22 Try.underlying5 Try.underlying9 (C_seg hC7 16 19 (by decide) (by decide) (some ⟨b, o + 16, none⟩) (fun _ => rfl))
  rw [show strOfNums ((R19.take 19).drop 16) = ⟨#[0, 19, 4]⟩ from by decide +kernel] at hconv
  have h16 : ¬ c = 16 := by omega
  have h16b : (16 : Int) ≤ (c : Int) := by omega
  clear hC7 hb HCut HC6 HB6
  go_wp2
  go_ret
  exact ⟨rfl, HB7.out⟩
end Go.Proofs.Yteakiaedlfhceaa.Frame
