/- The walks of FrameRaws and FrameCuts. -/
import Derived.Test.YteakiaedlfhceaaWorks17
import Derived.Test.YteakiaedlfhceaaRow
set_option linter.unusedSimpArgs false
set_option linter.unusedVariables false
namespace Go.Proofs.Yteakiaedlfhceaa.Frame
open Go.RowKit Go.Proofs.YteakiaedlfhceaaW.PrintWords Go.Proofs.YteakiaedlfhceaaW.PrintLast Go.Proofs.YteakiaedlfhceaaW.PrintMore Go.Proofs.Yteakiaedlfhceaa.Lex Go.Proofs.Yteakiaedlfhceaa.Lib

theorem byt {xs : List Int} (h : ∀ n ∈ xs, (Lit.int .u8 n).wf = true) : Byt xs := fun x hx => Row.wf_u8 (h x hx)
theorem conv (W : World) (A : Option Addr) (c : Nat) (xs : List Int) (h : Kd.C KB W A xs.length xs) : (convert 22 9 (.slice A xs.length c)).run Try.prog W = .ok (.string (strOfNums xs)) W :=
  Kd.C_string (dst := 9) Try.underlying22 Try.underlying5 Try.underlying9 h

set_option maxHeartbeats 2000000 in
theorem frameRaws (k : Int) (A : Option Addr) (c : Nat) (xs : List Int) (w : World) (hk : (Lit.int .i64 k).wf = true) (hx : Kd.C KB w A xs.length xs) (hc : xs.length ≤ c) (hw : ∀ n ∈ xs, (Lit.int .u8 n).wf = true) (hr : xs.length * 1 ≤ 140737488351232) :
    Calls Try.prog 3 #[.int .i64 k, .slice A xs.length c] w fun e w' => e = .returned (.bool true) ∧ Below w.heap.size w w' := by
  by_cases hl : 600 < xs.length
  · clear hx
    go_enter Try.func3, Try.ntmps3
    go_wp2_with fail
    refine (works _).mono ?_
    rintro e w' ⟨rfl, hb⟩
    go_wp2_with fail
    go_ret
    exact ⟨rfl, hb⟩
  · have HX := Aside0.mk hx
    clear hx
    go_enter Try.func3, Try.ntmps3
    go_wp2_with (first | ((with_reducible refine gate_builtin (b := .append) (xs := #[.tmp 14, .tmp 15]) rfl ?_); refine ap_row w.heap.size _ _ rfl rfl (OB.lit w [] [] rfl 0 rfl (Nat.le_refl _) (by simp)) (Kd.C_below HX.out (below_alloc (Below.refl _ _) _)) rfl rfl (by simp) (by simp; omega) ?_; intro v w1 ho hb; have HO1 := Aside0.mk ho; have HB1 := Aside0.mk ((below_alloc (Below.refl _ _) _).trans hb); clear ho hb) | ((with_reducible refine gate_builtin (b := .append) (xs := #[.tmp 16, .tmp 17]) rfl ?_); refine ap_row w.heap.size _ _ rfl rfl (HO1.out.below (below_alloc (Below.refl _ _) _)) (OB.lit w1 [77] _ rfl 1 rfl (Nat.le_refl _) (by decide)).readsAt rfl rfl (by have := HB1.out.size; simp; omega) (by simp; omega) ?_; intro v2 w2 ho hb; have HO2 := Aside0.mk ho; have HB2 := Aside0.mk ((below_alloc HB1.out _).trans hb); clear ho hb HO1 HB1; obtain ⟨g, c2, rfl, hg1, hg2, hg3⟩ := HO2.out.form (by simp); have hg4 : (xs.length : Int) ≤ (c2 : Int) := by simp at hg3; omega))
    have hlen : ([] ++ xs ++ [77] : List Int).length = xs.length + 1 := by simp
    have hC2 := HO2.out.readsAt
    have hCm : Kd.C KB w2 (some ⟨g, 0, none⟩) xs.length xs := by
      have h3 := C_take hC2 xs.length (by omega)
      rw [List.nil_append, List.take_left] at h3
      exact h3
    have hcell : w2.cell? ⟨g, xs.length, none⟩ = some (.int .u8 77) := by
      obtain ⟨b', o', e', h⟩ := C_byte hC2 xs.length (by omega)
      simp only [Option.some.injEq, Addr.mk.injEq, and_true] at e'
      obtain ⟨rfl, rfl⟩ := e'
      rw [Nat.zero_add, List.nil_append, List.getD_eq_getElem?_getD, List.getElem?_append_right (Nat.le_refl _), Nat.sub_self] at h
      exact h
    have HR := raw k (some ⟨g, 0, none⟩) c2 xs w2 hCm (by omega) (by omega) hk
    have HRR := fun W (hW : Below w.heap.size w W) => refRaw k A c xs W (Kd.C_below HX.out hW) hk
    obtain ⟨E, hE⟩ : ∃ E : Int, (if 1 ≤ k ∧ k ≤ 4 then if 493 < xs.length then 3 else 0 else 2) = E := ⟨_, rfl⟩
    obtain ⟨L, hL⟩ : ∃ L : List Int, (if 1 ≤ k ∧ k ≤ 4 then if 493 < xs.length then [] else rawOf k xs else []) = L := ⟨_, rfl⟩
    rw [hE, hL] at HR
    simp only [hE, hL] at HRR
    have HR := Aside0.mk HR
    have HRR := Aside0.mk HRR
    have HCm := Aside0.mk hCm
    have HCELL := Aside0.mk hcell
    clear hC2 hCm hE hL hcell
    refine HR.out.mono ?_
    rintro e w3 ⟨v6, rfl, ho, hb⟩
    have HB3 := Aside0.mk (HB2.out.trans (hb.mono HB2.out.size))
    have HCm3 := Aside0.mk (Kd.C_below HCm.out hb)
    have HCELL3 := Aside0.mk (pw_cell_below hb HCELL.out)
    obtain ⟨A6, c6, rfl, _, hC6⟩ := ho.reads
    have HC6 := Aside0.mk hC6
    clear ho hb HR HB2 HCm HCELL HO2 hC6
    go_wp2_with fail
    refine (HRR.out _ HB3.out).mono ?_
    rintro e w4 ⟨v8, rfl, ho, hb⟩
    have HB4 := Aside0.mk (HB3.out.trans (hb.mono HB3.out.size))
    have hcm := conv w4 _ c2 _ (Kd.C_below HCm3.out hb)
    have hcell := pw_cell_below hb HCELL3.out
    have hc6 := conv w4 _ c6 _ (Kd.C_below HC6.out hb)
    have hcx := conv w4 A c xs (Kd.C_below HX.out HB4.out)
    obtain ⟨A8, c8, rfl, _, hC8⟩ := ho.reads
    have hc8 := conv w4 A8 c8 _ hC8
    have hg5 : (xs.length : Int) + 1 ≤ (c2 : Int) := by rw [hlen] at hg3; omega
    clear ho hb HRR HB3 HCm3 HCELL3 HC6 HX hC8 hg3 hlen
    go_wp2_with (first | (go_at_call 12; refine (num _ _).mono ?_; rintro e w' ⟨rfl, rfl⟩) | (go_at_call 9; refine (works _).mono ?_; rintro e w' ⟨rfl, hbw⟩))
    go_ret
    exact ⟨rfl, HB4.out.trans (hbw.mono HB4.out.size)⟩

set_option maxHeartbeats 2000000 in
theorem frameCuts (A : Option Addr) (c : Nat) (xs : List Int) (w : World) (hx : Kd.C KB w A xs.length xs) (hc : xs.length ≤ c) (hw : ∀ n ∈ xs, (Lit.int .u8 n).wf = true) (hr : xs.length * 1 ≤ 140737488351232) :
    Calls Try.prog 4 #[.slice A xs.length c] w fun e w' => e = .returned (.bool true) ∧ Below w.heap.size w w' := by
  by_cases hl : 1500 < xs.length
  · clear hx
    go_enter Try.func4, Try.ntmps4
    go_wp2_with fail
    refine (works _).mono ?_
    rintro e w' ⟨rfl, hb⟩
    go_wp2_with fail
    go_ret
    exact ⟨rfl, hb⟩
  · have HX := Aside0.mk hx
    have hb := byt hw
    obtain ⟨⟨k1, bd, n1, e1⟩, hq⟩ : ∃ q, cutOf xs = q := ⟨_, rfl⟩
    clear hx hw
    go_enter Try.func4, Try.ntmps4
    go_wp2_with (((with_reducible refine gate_builtin (b := .append) (xs := #[.tmp 18, .tmp 19]) rfl ?_); refine ap_row w.heap.size _ _ rfl rfl (OB.lit w [] [] rfl 0 rfl (Nat.le_refl _) (by simp)) (Kd.C_below HX.out (below_alloc (Below.refl _ _) _)) rfl rfl (by simp) (by simp; omega) ?_; intro v w1 ho hb1; rw [List.nil_append] at ho; have HO1 := Aside0.mk ho; have HB1 := Aside0.mk ((below_alloc (Below.refl _ _) _).trans hb1); clear ho hb1; obtain ⟨Am, cm, rfl, hcm, hCm⟩ := HO1.out.reads))
    have HG : Aside0 (0 < xs.length → ∃ g, Am = some ⟨g, 0, none⟩ ∧ w.heap.size ≤ g ∧ g < w1.heap.size) := ⟨fun hp => by
      obtain ⟨g, c', e, h1, h2, _⟩ := HO1.out.form hp
      injection e with e
      exact ⟨g, e, h1, h2⟩⟩
    have HCut := cut Am cm xs w1 hCm hcm hb
    have HRef := fun W (hW : Below w.heap.size w W) => refCut A c xs W (Kd.C_below HX.out hW) hc hb
    unfold RCut at HRef
    simp only [hq] at HCut HRef
    have HCut := Aside0.mk HCut
    have HRef := Aside0.mk HRef
    have HCm := Aside0.mk hCm
    clear hq hCm
    refine HCut.out.mono ?_
    rintro e w2 ⟨vb, rfl, ho, hb2⟩
    have HOb := Aside0.mk ho
    have HOm := Aside0.mk (HO1.out.below hb2)
    have HB2 := Aside0.mk (HB1.out.trans (hb2.mono HB1.out.size))
    obtain ⟨Ab, cb, rfl, _, _⟩ := HOb.out.reads
    have hcm2 := conv w2 Am cm xs (Kd.C_below HCm.out hb2)
    have hcx := conv w2 A c xs (Kd.C_below HX.out HB2.out)
    clear ho hb2 HCut HO1 HB1 HCm
    go_wp2_with fail
    clear hcm2 hcx
    go_loopg [9] xs.length (fun gk s9 w' => ∃ (k : Nat) (ys : List Int), k ≤ xs.length ∧ xs.length - k ≤ gk ∧ s9 = .int .i64 k ∧ Aside0 (ys.length = xs.length) ∧ Aside0 (OB w.heap.size w' (.slice Am xs.length cm) ys) ∧ Aside0 (OB w1.heap.size w' (.slice Ab bd.length cb) bd) ∧ Aside0 (Below w.heap.size w w'))
    case atStart => exact ⟨0, xs, by omega, by omega, rfl, ⟨rfl⟩, HOm, HOb, HB2⟩
    case round =>
      clear HOm HOb HB2
      obtain ⟨k, ys, hk, hgk, rfl, HY, HOm, HOb, HB2⟩ := hrel
      by_cases hlt : k < xs.length
      · obtain ⟨g, rfl, hg1, hg2⟩ := HG.out (by omega)
        obtain ⟨hcell, hfr⟩ := HOm.out.cell k (by omega)
        obtain ⟨y, hy⟩ : ∃ y, ys.getD k 0 = y := ⟨_, rfl⟩
        rw [hy] at hcell
        clear hy
        go_wp2
        go_roundg (gk - 1)
        case measure => omega
        case rel => exact ⟨k + 1, _, by omega, by omega, by go_num, ⟨by rw [List.length_set]; exact HY.out⟩, ⟨HOm.out.put k _⟩, ⟨HOb.out.far (by exact hg2) _⟩, ⟨HB2.out.setCell (by exact hg1) _⟩⟩
      · obtain rfl : k = xs.length := by omega
        go_wp2_with fail
        refine (HRef.out _ HB2.out).mono ?_
        rintro e w4 ⟨A', c', rfl, hC4, hb4, _, _⟩
        have HB4 := Aside0.mk (HB2.out.trans (hb4.mono HB2.out.size))
        have hc1 := conv w4 A' c' bd hC4
        have hc2 := conv w4 Ab cb bd (HOb.out.below hb4).readsAt
        clear hC4 hb4 HB2 HOm HOb HRef
        go_wp2_with (first | (go_at_call 12; refine (num _ _).mono ?_; rintro e w' ⟨rfl, rfl⟩) | (go_at_call 9; refine (works _).mono ?_; rintro e w' ⟨rfl, hbw⟩))
        go_ret
        exact ⟨rfl, HB4.out.trans (hbw.mono HB4.out.size)⟩
end Go.Proofs.Yteakiaedlfhceaa.Frame
