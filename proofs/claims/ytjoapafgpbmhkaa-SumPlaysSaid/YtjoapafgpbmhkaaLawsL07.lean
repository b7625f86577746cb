/- The walk of SumLays. -/
import Derived.Test.YtjoapafgpbmhkaaRefLay07
import Derived.Test.YtjoapafgpbmhkaaLawsT07
set_option linter.unusedSimpArgs false
set_option linter.unusedVariables false
namespace Go.Proofs.Ytjoapafgpbmhkaa.Sum
open Go.RowKit Go.Proofs.YtjoapafgpbmhkaaW.PrintWords Go.Proofs.YtjoapafgpbmhkaaW.PrintLast Go.Proofs.YtjoapafgpbmhkaaW.PrintMore Go.Proofs.Ytjoapafgpbmhkaa.Lex Go.Proofs.Ytjoapafgpbmhkaa.Lib Go.Proofs.Ytjoapafgpbmhkaa.High
theorem check1 {w : World} {A : Option Addr} {c : Nat} {xs : List Int} (h : Kd.C KB w A xs.length xs) (hc : xs.length ≤ c) (hx : Byt xs) (hl : xs.length ≤ 1099511627776) (W : World) (hW : Below w.heap.size w W) :
    Calls Try.prog 16 #[.slice (some ⟨W.heap.size, 0, none⟩) 1 1] (W.alloc (.cells #[.slice A xs.length c] 23)) fun e w' => e = .returned (.bool (decide (rawS xs = 65535))) ∧ Below w.heap.size w w' := by
  refine (sCheck _ 1 [xs] _ (C_part (Kd.C_below h hW) hc) (fun z hz => by simp at hz; subst hz; assumption) (by simpa [flat] using hl)).mono ?_
  rintro e w' ⟨rfl, hb⟩
  exact ⟨by simp [flat], hW.trans (((below_alloc (Below.refl _ _) _).trans (hb.mono (by simp))).mono hW.size)⟩
theorem sum1 {w : World} {A : Option Addr} {c : Nat} {xs : List Int} (h : Kd.C KB w A xs.length xs) (hc : xs.length ≤ c) (hx : Byt xs) (hl : xs.length ≤ 1099511627776) (W : World) (hW : Below w.heap.size w W) :
    Calls Try.prog 14 #[.slice (some ⟨W.heap.size, 0, none⟩) 1 1] (W.alloc (.cells #[.slice A xs.length c] 23)) fun e w' => e = .returned (.int .u16 (65535 - (rawS xs : Int))) ∧ Below w.heap.size w w' := by
  refine (sSum _ 1 [xs] _ (C_part (Kd.C_below h hW) hc) (fun z hz => by simp at hz; subst hz; assumption) (by simpa [flat] using hl)).mono ?_
  rintro e w' ⟨rfl, hb⟩
  exact ⟨by simp [flat], hW.trans (((below_alloc (Below.refl _ _) _).trans (hb.mono (by simp))).mono hW.size)⟩
/-- where a place may be -/
def goodAt (n : Nat) (i : Int) : Prop := 0 ≤ i ∧ i + 2 ≤ n ∧ i % 2 = 0
set_option maxHeartbeats 4000000 in
theorem sumLays_ok (A : Option Addr) (c : Nat) (xs : List Int) (i : Nat) (w : World) (hx : Kd.C KB w A xs.length xs) (hc : xs.length ≤ c) (hb : Byt xs) (hl : xs.length ≤ 500) (hi : i + 2 ≤ xs.length) (he : i % 2 = 0) :
    Calls Try.prog 5 #[.slice A xs.length c, .int .i64 i] w fun e w' => e = .returned (.bool true) ∧ Below w.heap.size w w' := by
  have HX := Aside0.mk hx
  have HRR := Aside0.mk (fun W (hW : Below w.heap.size w W) => rLay A c xs i W (Kd.C_below hx hW) hb (by omega) hi he)
  have HL := Aside0.mk (fun W A c (h : Kd.C KB W A xs.length xs) => lay A c xs i W h hb (by omega) hi he)
  have HCK := Aside0.mk (fun (W1 : World) A c (h : Kd.C KB W1 A (layOf xs i).length (layOf xs i)) (hc : (layOf xs i).length ≤ c) => check1 h hc (byt_layOf xs i hb) (by rw [layOf_len]; omega))
  rw [raw_lay xs i hi he, layOf_len] at HCK
  obtain ⟨L, hL⟩ : ∃ L, layOf xs i = L := ⟨_, rfl⟩
  have hLL : L.length = xs.length := by rw [← hL, layOf_len]
  simp only [hL] at HL HRR HCK
  have HLL := Aside0.mk hLL
  clear hx hL hLL hi he hb
  go_enter Try.func5, Try.ntmps5
  go_wp2_with (first | ((with_reducible refine gate_builtin (b := .append) (xs := #[.tmp 14, .tmp 15]) rfl ?_); refine ap_row w.heap.size _ _ rfl rfl (OB.lit w [] [] rfl 0 rfl (Nat.le_refl _) (by simp)) (Kd.C_below HX.out (below_alloc (Below.refl _ _) _)) rfl rfl (by simp) (by simp; omega) ?_; intro v w1 ho hb; have HO1 := Aside0.mk ho; have HB1 := Aside0.mk ((below_alloc (Below.refl _ _) _).trans hb); clear ho hb) | ((with_reducible refine gate_builtin (b := .append) (xs := #[.tmp 16, .tmp 17]) rfl ?_); refine ap_row w.heap.size _ _ rfl rfl (HO1.out.below (below_alloc (Below.refl _ _) _)) (OB.lit w1 [77] _ rfl 1 rfl (Nat.le_refl _) (by decide)).readsAt rfl rfl (by have := HB1.out.size; simp; omega) (by simp; omega) ?_; intro v2 w2 ho hb; have HO2 := Aside0.mk ho; have HB2 := Aside0.mk ((below_alloc HB1.out _).trans hb); clear ho hb HO1 HB1; obtain ⟨g, c2, rfl, hg1, hg2, hg3⟩ := HO2.out.form (by simp); have hg4 : (xs.length : Int) ≤ (c2 : Int) := by simp at hg3; omega))
  have hlen : ([] ++ xs ++ [77] : List Int).length = xs.length + 1 := by simp
  have hC2 := HO2.out.readsAt
  have hCm : Kd.C KB w2 (some ⟨g, 0, none⟩) xs.length xs := by
    have h3 := Kd.C_take hC2 (m := xs.length) (by omega)
    rw [List.nil_append, List.take_left] at h3
    exact h3
  have hcell : w2.cell? ⟨g, xs.length, none⟩ = some (.int .u8 77) := by
    obtain ⟨b', o', e', h⟩ := C_byte hC2 xs.length (by omega)
    simp only [Option.some.injEq, Addr.mk.injEq, and_true] at e'
    obtain ⟨rfl, rfl⟩ := e'
    rw [Nat.zero_add, List.nil_append, List.getD_eq_getElem?_getD, List.getElem?_append_right (Nat.le_refl _), Nat.sub_self] at h
    exact h
  have HR := Aside0.mk (HL.out w2 (some ⟨g, 0, none⟩) c2 hCm)
  have HCm := Aside0.mk hCm
  have HCELL := Aside0.mk hcell
  clear hC2 hCm hcell
  refine HR.out.mono ?_
  rintro e w3 ⟨v6, rfl, ho, hb⟩
  have HB3 := Aside0.mk (HB2.out.trans (hb.mono HB2.out.size))
  have HCm3 := Aside0.mk (Kd.C_below HCm.out hb)
  have HCELL3 := Aside0.mk (pw_cell_below hb HCELL.out)
  obtain ⟨A6, c6, rfl, hc6l, hC6⟩ := ho.reads
  have HC6 := Aside0.mk hC6
  have HC6L := Aside0.mk hc6l
  clear ho hb HR HB2 HCm HCELL HO2 hC6 hc6l
  go_wp2_with fail
  refine (HRR.out _ HB3.out).mono ?_
  rintro e w4 ⟨v8, rfl, ho, hb⟩
  have HB4 := Aside0.mk (HB3.out.trans (hb.mono HB3.out.size))
  have hcm := conv w4 _ c2 _ (Kd.C_below HCm3.out hb)
  have hcell := pw_cell_below hb HCELL3.out
  have hc6 := conv w4 _ c6 _ (Kd.C_below HC6.out hb)
  have HCk := Aside0.mk (HCK.out w4 A6 c6 (by have := Kd.C_below HC6.out hb; rwa [HLL.out] at this) (by have := HC6L.out; have := HLL.out; omega) w4 (Below.refl _ _))
  rw [← HLL.out] at HCk
  have hcx := conv w4 A c xs (Kd.C_below HX.out HB4.out)
  obtain ⟨A8, c8, rfl, _, hC8⟩ := ho.reads
  have hc8 := conv w4 A8 c8 _ hC8
  have hg5 : (xs.length : Int) + 1 ≤ (c2 : Int) := by rw [hlen] at hg3; omega
  clear ho hb HRR HB3 HCm3 HCELL3 HC6 HX hC8 hg3 hlen HLL HC6L
  go_wp2_with (first | (go_at_call 18; refine (num _ _).mono ?_; rintro e w' ⟨rfl, rfl⟩) | (go_at_call 16; refine HCk.out.mono ?_; rintro e w5 ⟨rfl, hb5⟩; have HB5 := Aside0.mk (HB4.out.trans (hb5.mono HB4.out.size)); clear hb5) | (go_at_call 11; refine (works _).mono ?_; rintro e w' ⟨rfl, hbw⟩))
  go_ret
  exact ⟨rfl, HB5.out.trans (hbw.mono HB5.out.size)⟩
set_option maxHeartbeats 4000000 in
theorem sumLays_bad (A : Option Addr) (c : Nat) (xs : List Int) (i : Int) (w : World) (hx : Kd.C KB w A xs.length xs) (hc : xs.length ≤ c) (hl : xs.length ≤ 500) (hi : i < 0 ∨ (xs.length : Int) - 2 < i ∨ i % 2 = 1) :
    Calls Try.prog 5 #[.slice A xs.length c, .int .i64 i] w fun e w' => e = .returned (.bool true) ∧ Below w.heap.size w w' := by
  have HX := Aside0.mk hx
  have HRR := Aside0.mk (fun W => rLay_bad A xs.length c i W (by omega) hi)
  have HL := Aside0.mk (fun W A c => lay_bad A xs.length c i W (by omega) hi)
  clear hx hi
  go_enter Try.func5, Try.ntmps5
  go_wp2_with (first | ((with_reducible refine gate_builtin (b := .append) (xs := #[.tmp 14, .tmp 15]) rfl ?_); refine ap_row w.heap.size _ _ rfl rfl (OB.lit w [] [] rfl 0 rfl (Nat.le_refl _) (by simp)) (Kd.C_below HX.out (below_alloc (Below.refl _ _) _)) rfl rfl (by simp) (by simp; omega) ?_; intro v w1 ho hb; have HO1 := Aside0.mk ho; have HB1 := Aside0.mk ((below_alloc (Below.refl _ _) _).trans hb); clear ho hb) | ((with_reducible refine gate_builtin (b := .append) (xs := #[.tmp 16, .tmp 17]) rfl ?_); refine ap_row w.heap.size _ _ rfl rfl (HO1.out.below (below_alloc (Below.refl _ _) _)) (OB.lit w1 [77] _ rfl 1 rfl (Nat.le_refl _) (by decide)).readsAt rfl rfl (by have := HB1.out.size; simp; omega) (by simp; omega) ?_; intro v2 w2 ho hb; have HO2 := Aside0.mk ho; have HB2 := Aside0.mk ((below_alloc HB1.out _).trans hb); clear ho hb HO1 HB1; obtain ⟨g, c2, rfl, hg1, hg2, hg3⟩ := HO2.out.form (by simp); have hg4 : (xs.length : Int) ≤ (c2 : Int) := by simp at hg3; omega))
  have hlen : ([] ++ xs ++ [77] : List Int).length = xs.length + 1 := by simp
  have hC2 := HO2.out.readsAt
  have hCm : Kd.C KB w2 (some ⟨g, 0, none⟩) xs.length xs := by
    have h3 := Kd.C_take hC2 (m := xs.length) (by omega)
    rw [List.nil_append, List.take_left] at h3
    exact h3
  have hcell : w2.cell? ⟨g, xs.length, none⟩ = some (.int .u8 77) := by
    obtain ⟨b', o', e', h⟩ := C_byte hC2 xs.length (by omega)
    simp only [Option.some.injEq, Addr.mk.injEq, and_true] at e'
    obtain ⟨rfl, rfl⟩ := e'
    rw [Nat.zero_add, List.nil_append, List.getD_eq_getElem?_getD, List.getElem?_append_right (Nat.le_refl _), Nat.sub_self] at h
    exact h
  have hcm := conv w2 _ c2 _ hCm
  have hcx := conv w2 A c xs (Kd.C_below HX.out HB2.out)
  have hcn := conv w2 none 0 [] (Kd.C_nil _ _)
  rw [List.length_nil] at hcn
  have hg5 : (xs.length : Int) + 1 ≤ (c2 : Int) := by rw [hlen] at hg3; omega
  clear hC2 hCm hg3 hlen HX HO2
  refine (HL.out _ _ _).mono ?_
  rintro e w3 ⟨rfl, rfl⟩
  go_wp2_with fail
  refine (HRR.out _).mono ?_
  rintro e w4 ⟨rfl, rfl⟩
  clear HL HRR
  go_wp2_with (first | (go_at_call 18; refine (num _ _).mono ?_; rintro e w' ⟨rfl, rfl⟩) | (go_at_call 11; refine (works _).mono ?_; rintro e w' ⟨rfl, hbw⟩))
  go_ret
  exact ⟨rfl, HB2.out.trans (hbw.mono HB2.out.size)⟩
theorem sumLays (A : Option Addr) (c : Nat) (xs : List Int) (i : Int) (w : World) (hx : Kd.C KB w A xs.length xs) (hc : xs.length ≤ c) (hw : ∀ n ∈ xs, (Lit.int .u8 n).wf = true) (hr : xs.length * 1 ≤ 140737488351232) (hi : (Lit.int .i64 i).wf = true) :
    Calls Try.prog 5 #[.slice A xs.length c, .int .i64 i] w fun e w' => e = .returned (.bool true) ∧ Below w.heap.size w w' := by
  by_cases h1 : 500 < xs.length
  · clear hx
    go_enter Try.func5, Try.ntmps5
    go_wp2_with fail
    refine (works _).mono ?_
    rintro e w' ⟨rfl, hb⟩
    go_wp2_with fail
    go_ret
    exact ⟨rfl, hb⟩
  · by_cases h2 : i < 0 ∨ (xs.length : Int) - 2 < i ∨ i % 2 = 1
    · exact sumLays_bad A c xs i w hx hc (by omega) h2
    · obtain ⟨i, rfl⟩ := Int.eq_ofNat_of_zero_le (show 0 ≤ i by omega)
      exact sumLays_ok A c xs i w hx hc (byt hw) (by omega) (by omega) (by omega)
end Go.Proofs.Ytjoapafgpbmhkaa.Sum
