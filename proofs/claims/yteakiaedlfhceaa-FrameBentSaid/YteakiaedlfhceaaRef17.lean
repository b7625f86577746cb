/- Contracts of the reference of frames: Raw, Cut. -/
import Derived.Test.YteakiaedlfhceaaCut
set_option linter.unusedSimpArgs false
set_option linter.unusedVariables false
namespace Go.Proofs.Yteakiaedlfhceaa.Frame
open Go.RowKit Go.Proofs.YteakiaedlfhceaaW.PrintWords Go.Proofs.YteakiaedlfhceaaW.PrintLast Go.Proofs.YteakiaedlfhceaaW.PrintMore Go.Proofs.Yteakiaedlfhceaa.Lex Go.Proofs.Yteakiaedlfhceaa.Lib

theorem refRaw (kind : Int) (A : Option Addr) (c : Nat) (xs : List Int) (w : World) (hx : Kd.C KB w A xs.length xs) (hk : (Lit.int .i64 kind).wf = true) :
    Calls Try.prog 11 #[.int .i64 kind, .slice A xs.length c] w fun e w' =>
      ∃ v, e = .returned (.tuple #[v, .int .i64 (if 1 ≤ kind ∧ kind ≤ 4 then (if 493 < xs.length then 3 else 0) else 2)]) ∧
        OB w.heap.size w' v (if 1 ≤ kind ∧ kind ≤ 4 then (if 493 < xs.length then [] else rawOf kind xs) else []) ∧ Below w.heap.size w w' := by
  have hl : xs.length ≤ 9223372036854775807 := hx.2.1
  have HX := Aside0.mk hx
  clear hx hk
  by_cases hk1 : kind < 1
  · rw [if_neg (by omega), if_neg (by omega)]
    have hd : decide (kind < 1) = true := by simpa using hk1
    go_enter Try.func11, Try.ntmps11
    go_wp2
    go_ret2
    exact ⟨_, rfl, OB.nil _ _, Below.refl _ _⟩
  · have hd : decide (kind < 1) = false := by simpa using hk1
    by_cases hk4 : 4 < kind
    · rw [if_neg (by omega), if_neg (by omega)]
      have hd2 : decide (4 < kind) = true := by simpa using hk4
      go_enter Try.func11, Try.ntmps11
      go_wp2
      go_ret2
      exact ⟨_, rfl, OB.nil _ _, Below.refl _ _⟩
    · have hd2 : decide (4 < kind) = false := by simpa using hk4
      have hk : 1 ≤ kind ∧ kind ≤ 4 := by omega
      rw [if_pos hk, if_pos hk]
      by_cases hlong : 493 < xs.length
      · rw [if_pos hlong, if_pos hlong]
        go_enter Try.func11, Try.ntmps11
        go_wp2
        go_ret2
        exact ⟨_, rfl, OB.nil _ _, Below.refl _ _⟩
      · rw [if_neg hlong, if_neg hlong]
        go_enter Try.func11, Try.ntmps11
        go_wp2
        go_loopg [6, 7] 16 (fun gk s6 s7 w' => ∃ k : Nat, k ≤ 16 ∧ 16 - k ≤ gk ∧ s7 = .int .i64 k ∧ Aside0 (OB w.heap.size w' s6 (List.replicate k 255)) ∧ Aside0 (Below w.heap.size w w'))
        case atStart => exact ⟨0, by omega, by omega, rfl, ⟨OB.nil _ _⟩, ⟨Below.refl _ _⟩⟩
        case round =>
          obtain ⟨k, hk2, hgk, rfl, HO, HB⟩ := hrel
          have hS := HB.out.size
          by_cases hlt : k < 16
          · go_wp2_with ((with_reducible refine gate_builtin (b := .append) (xs := #[.tmp 22, .tmp 23]) rfl ?_); refine ap_row w.heap.size _ _ rfl rfl (HO.out.below (below_alloc (Below.refl _ _) _)) (OB.lit wr [255] _ rfl 1 rfl (Nat.le_refl _) (by decide)).readsAt rfl rfl (by simp; omega) (by simp; omega) ?_; intro v w1 ho hb; have HO2 := Aside0.mk ho; have HB2 := Aside0.mk ((below_alloc HB.out _).trans hb); clear ho hb HO HB)
            go_roundg (gk - 1)
            case measure => omega
            case rel => exact ⟨k + 1, by omega, by omega, by go_num, ⟨by rw [List.replicate_succ']; exact HO2.out⟩, HB2⟩
          · obtain rfl : k = 16 := by omega
            go_wp2_with (first | ((with_reducible refine gate_builtin (b := .append) (xs := #[.tmp 28, .tmp 37]) rfl ?_); refine ap_row w.heap.size _ _ rfl rfl (HO.out.below (below_alloc (Below.refl _ _) _)) (OB.lit wr [(19 + (xs.length : Int)) / 256, (19 + (xs.length : Int)) % 256, kind] _ rfl 3 rfl (Nat.le_refl _) (by simp)).readsAt rfl rfl (by simp; omega) (by simp) ?_; intro v w1 ho hb; have HO2 := Aside0.mk ho; have HB2 := Aside0.mk ((below_alloc HB.out _).trans hb); clear ho hb HO HB) | ((with_reducible refine gate_builtin (b := .append) (xs := #[.tmp 38, .tmp 39]) rfl ?_); refine ap_row w.heap.size _ _ rfl rfl HO2.out (Kd.C_below HX.out HB2.out) rfl rfl HB2.out.size (by simp; omega) ?_; intro v2 w2 ho hb; have HO3 := Aside0.mk ho; have HB3 := Aside0.mk (HB2.out.trans hb); clear ho hb HO2 HB2))
            go_ret2
            refine ⟨_, rfl, ?_, HB3.out⟩
            have h3 := HO3.out
            unfold rawOf
            rw [List.append_assoc] at h3
            exact h3

theorem any_false (xs : List Int) (h : ∀ j, j < 16 → j < xs.length → xs.getD j 0 = 255) : tests xs 0 = false := by
  unfold tests
  simp only
  rw [List.any_eq_false]
  intro x hx
  obtain ⟨j, hj, rfl⟩ := List.getElem_of_mem hx
  rw [List.length_take] at hj
  have := h j (by omega) (by omega)
  rw [List.getD_eq_getElem?_getD, List.getElem?_eq_getElem (by omega)] at this
  simp only [Option.getD_some] at this
  rw [List.getElem_take, this]
  decide
theorem any_true (xs : List Int) (j : Nat) (hj : j < 16) (hj2 : j < xs.length) (h : xs.getD j 0 ≠ 255) : tests xs 0 = true := by
  unfold tests
  simp only
  rw [List.any_eq_true]
  refine ⟨xs.getD j 0, ?_, by simpa using h⟩
  rw [List.getD_eq_getElem?_getD, List.getElem?_eq_getElem hj2, Option.getD_some]
  rw [List.mem_iff_getElem]
  exact ⟨j, by rw [List.length_take]; omega, by rw [List.getElem_take]⟩

/-- what the reference's Cut tells, of a slice of the argument -/
def RCut (A : Option Addr) (xs : List Int) (w : World) (e : Ending) (w' : World) : Prop :=
  ∃ (A' : Option Addr) (c' : Nat), e = .returned (.tuple #[.int .i64 (cutOf xs).1, .slice A' (cutOf xs).2.1.length c', .int .i64 (cutOf xs).2.2.1, .int .i64 (cutOf xs).2.2.2]) ∧
    Kd.C KB w' A' (cutOf xs).2.1.length (cutOf xs).2.1 ∧ Below w.heap.size w w' ∧ (cutOf xs).2.1.length ≤ c' ∧ ∀ a, A' = some a → ∃ a0, A = some a0 ∧ a0.block = a.block
theorem C_none (w : World) : Kd.C KB w none 0 [] := ⟨rfl, by decide, fun h => absurd h (by decide)⟩
theorem RCut.flaw {A : Option Addr} {xs : List Int} {w w' : World} (hl : 19 ≤ xs.length) (k : Nat) (hk : k < 3) (h : ∀ j, j < k → tests xs j = false) (ht : tests xs k = true) (hb : Below w.heap.size w w') :
    RCut A xs w (.returned (.tuple #[.int .i64 0, .slice none 0 0, .int .i64 0, .int .i64 (codes k)])) w' := by
  unfold RCut cutOf
  rw [if_neg (by omega), if_neg (by rw [flaw_t hk h ht]; exact fun q => codes_ne k q.1), flaw_t hk h ht]
  exact ⟨none, 0, rfl, C_none _, hb, Nat.le_refl _, fun a h => by cases h⟩

set_option maxHeartbeats 2000000 in
theorem refCut (A : Option Addr) (c : Nat) (xs : List Int) (w : World) (hx : Kd.C KB w A xs.length xs) (hc : xs.length ≤ c) (hb : Byt xs) :
    Calls Try.prog 14 #[.slice A xs.length c] w (RCut A xs w) := by
  by_cases hl : xs.length < 19
  · have hd : decide ((xs.length : Int) < 19) = true := by simp; omega
    have HF : Aside0 (RCut A xs w (.returned (.tuple #[.int .i64 0, .slice none 0 0, .int .i64 0, .int .i64 0])) w) := ⟨by
      unfold RCut cutOf
      rw [if_pos hl]
      exact ⟨none, 0, rfl, C_none _, Below.refl _ _, Nat.le_refl _, fun a h => by cases h⟩⟩
    clear hx
    go_enter Try.func14, Try.ntmps14
    go_wp2
    exact bodyPost_ret (v := .tuple #[.int .i64 0, .slice none 0 0, .int .i64 0, .int .i64 0]) (by simp [results, Try.results14, go_sem]) rfl HF.out
  · have hl2 : 19 ≤ xs.length := by omega
    have hd : decide ((xs.length : Int) < 19) = false := by simp; omega
    have h6 := hb.at 16
    have h7 := hb.at 17
    have h8 := hb.at 18
    obtain ⟨b, o, rfl, c6⟩ := C_byte hx 16 (by omega)
    obtain ⟨b2, o2, e2, c7⟩ := C_byte hx 17 (by omega)
    obtain ⟨b3, o3, e3, c8⟩ := C_byte hx 18 (by omega)
    simp only [Option.some.injEq, Addr.mk.injEq, and_true] at e2 e3
    obtain ⟨rfl, rfl⟩ := e2
    obtain ⟨rfl, rfl⟩ := e3
    have HX := Aside0.mk hx
    clear hx
    go_enter Try.func14, Try.ntmps14
    go_wp2
    go_loopg [2, 3, 4, 5, 6] 16 (fun gk s2 s3 s4 s5 s6 w' => ∃ k : Nat, k ≤ 16 ∧ 16 - k ≤ gk ∧ s6 = .int .i64 k ∧ s2 = .int .i64 0 ∧ s3 = .slice none 0 0 ∧ s4 = .int .i64 0 ∧ s5 = .int .i64 0 ∧ w = w' ∧ Aside0 (∀ j, j < k → j < xs.length → xs.getD j 0 = 255))
    case atStart => exact ⟨0, by omega, by omega, rfl, rfl, rfl, rfl, rfl, rfl, ⟨fun j hj => by omega⟩⟩
    case round =>
      obtain ⟨k, hk, hgk, rfl, rfl, rfl, rfl, rfl, rfl, HT⟩ := hrel
      by_cases hlt : k < 16
      · obtain ⟨b4, o4, e4, ck⟩ := C_byte HX.out k (by omega)
        simp only [Option.some.injEq, Addr.mk.injEq, and_true] at e4
        obtain ⟨rfl, rfl⟩ := e4
        obtain ⟨y, hy⟩ : ∃ y, xs.getD k 0 = y := ⟨_, rfl⟩
        rw [hy] at ck
        have HY := Aside0.mk hy
        clear hy c6 c7 c8
        have hkl : k < xs.length := by omega
        by_cases h255 : y = 255
        · subst h255
          go_wp2
          go_roundg (gk - 1)
          case measure => omega
          case rel =>
            refine ⟨k + 1, by omega, by omega, by go_num, rfl, rfl, rfl, rfl, rfl, ⟨fun j hj hj2 => ?_⟩⟩
            rcases Nat.lt_or_ge j k with h | h
            · exact HT.out j h hj2
            · obtain rfl : j = k := by omega
              exact HY.out
        · have hne : (y != 255) = true := by simpa using h255
          have HF := Aside0.mk (RCut.flaw (A := some ⟨b, o, none⟩) (w := w) hl2 0 (by omega) (fun j hj => by omega) (any_true xs k hlt hkl (by rw [HY.out]; exact h255)) (Below.refl _ _))
          go_wp2
          exact bodyPost_ret (v := .tuple #[.int .i64 0, .slice none 0 0, .int .i64 0, .int .i64 270]) (by simp [results, Try.results14, go_sem]) rfl HF.out
      · obtain rfl : k = 16 := by omega
        have HT0 : Aside0 (tests xs 0 = false) := ⟨any_false xs HT.out⟩
        obtain ⟨m, hm⟩ := two_nat xs hb 16
        have hm2 := hm
        unfold two at hm2
        obtain ⟨x6, e6⟩ : ∃ y, xs.getD 16 0 = y := ⟨_, rfl⟩
        obtain ⟨x7, e7⟩ : ∃ y, xs.getD 17 0 = y := ⟨_, rfl⟩
        obtain ⟨x8, e8⟩ : ∃ y, xs.getD 18 0 = y := ⟨_, rfl⟩
        rw [e6] at c6 h6 hm2
        rw [e7] at c7 h7 hm2
        rw [e8] at c8 h8
        have HM := Aside0.mk hm
        have HM2 : Aside0 (wrap64 (wrap64 (wrap64 x6 * 256) + wrap64 x7) = (m : Int)) := ⟨by rw [w64 x6 (by omega) (by omega), w64 (x6 * 256) (by omega) (by omega), w64 x7 (by omega) (by omega), w64 _ (by omega) (by omega)]; exact hm2⟩
        have E8 := Aside0.mk e8
        clear hm hm2 e6 e7 e8 HT
        have f1 : (16 : Int) < (xs.length : Int) := by omega
        have f2 : (17 : Int) < (xs.length : Int) := by omega
        have f3 : (18 : Int) < (xs.length : Int) := by omega
        go_wp2
        refine region [(0, .p), (1, .p), (5, .p), (6, .p), (2, .t), (3, .p), (4, .p), (7, .t), (8, .p), (9, .p), (10, .p)] (fun W => W.cell? ⟨b, o + 16, none⟩ = some (.int .u8 x6) ∧ W.cell? ⟨b, o + 17, none⟩ = some (.int .u8 x7)) (by kernel_rfl) (by kernel_rfl) (fun _ _ _ _ _ h => h) (⟨c6, c7⟩) (fun hHeld => ?_)
        iterate 4 (refine lex_p rfl rfl rfl (by intro w'; go_simp; with_reducible rfl) (by simp only [Act.put, List.setIfInBounds_toArray, List.set_cons_zero, List.set_cons_succ, i64_w, i32_w]; rfl) ?_)
        (refine lex_t rfl rfl rfl (by rintro w' ⟨s1, s2⟩; go_simp; with_reducible rfl) (by simp only [Act.put, List.setIfInBounds_toArray, List.set_cons_zero, List.set_cons_succ, i64_w, i32_w]; rfl) ?_)
        iterate 2 (refine lex_p rfl rfl rfl (by intro w'; go_simp; with_reducible rfl) (by simp only [Act.put, List.setIfInBounds_toArray, List.set_cons_zero, List.set_cons_succ, i64_w, i32_w]; rfl) ?_)
        (refine lex_t rfl rfl rfl (by rintro w' ⟨s1, s2⟩; go_simp; with_reducible rfl) (by simp only [Act.put, List.setIfInBounds_toArray, List.set_cons_zero, List.set_cons_succ, i64_w, i32_w]; rfl) ?_)
        iterate 3 (refine lex_p rfl rfl rfl (by intro w'; go_simp; with_reducible rfl) (by simp only [Act.put, List.setIfInBounds_toArray, List.set_cons_zero, List.set_cons_succ, i64_w, i32_w]; rfl) ?_)
        refine lex_nil ?_
        rw [HM2.out]
        clear HM2 h6 h7
        have T1 : ∀ j, j < 1 → tests xs j = false := fun j hj => by obtain rfl : j = 0 := by omega
                                                                    exact HT0.out
        have T1 := Aside0.mk T1
        by_cases g1 : (m : Int) < 19 ∨ 512 < (m : Int)
        · have HF := Aside0.mk (RCut.flaw (A := some ⟨b, o, none⟩) (w := w) hl2 1 (by omega) T1.out (by unfold tests; simp only; rw [HM.out]; rcases g1 with h | h <;> simp <;> omega) ((Below.refl w.heap.size w).drew))
          rcases g1 with g1 | g1
          · have d1 : decide ((m : Int) < 19) = true := by simpa using g1
            go_wp2
            exact bodyPost_ret (v := .tuple #[.int .i64 0, .slice none 0 0, .int .i64 0, .int .i64 271]) (by simp [results, Try.results14, go_sem]) rfl HF.out
          · have d1 : decide ((m : Int) < 19) = false := by simp; omega
            have d2 : decide (512 < (m : Int)) = true := by simpa using g1
            go_wp2
            exact bodyPost_ret (v := .tuple #[.int .i64 0, .slice none 0 0, .int .i64 0, .int .i64 271]) (by simp [results, Try.results14, go_sem]) rfl HF.out
        have hs : 19 ≤ m ∧ m ≤ 512 := by omega
        have T2 : ∀ j, j < 2 → tests xs j = false := fun j hj => by
          match j, hj with
          | 0, _ => exact HT0.out
          | 1, _ => unfold tests; simp only; rw [HM.out]; simp; omega
        have T2 := Aside0.mk T2
        have d1 : decide ((m : Int) < 19) = false := by simp; omega
        have d2 : decide (512 < (m : Int)) = false := by simp; omega
        by_cases g2 : x8 < 1 ∨ 4 < x8
        · have HF := Aside0.mk (RCut.flaw (A := some ⟨b, o, none⟩) (w := w) hl2 2 (by omega) T2.out (by unfold tests; simp only; rw [E8.out]; rcases g2 with h | h <;> simp <;> omega) ((Below.refl w.heap.size w).drew))
          rcases g2 with g2 | g2
          · have d3 : decide (x8 < 1) = true := by simpa using g2
            go_wp2
            exact bodyPost_ret (v := .tuple #[.int .i64 0, .slice none 0 0, .int .i64 0, .int .i64 272]) (by simp [results, Try.results14, go_sem]) rfl HF.out
          · have d3 : decide (x8 < 1) = false := by simp; omega
            have d4 : decide (4 < x8) = true := by simpa using g2
            go_wp2
            exact bodyPost_ret (v := .tuple #[.int .i64 0, .slice none 0 0, .int .i64 0, .int .i64 272]) (by simp [results, Try.results14, go_sem]) rfl HF.out
        have T3 : ∀ j, j < 3 → tests xs j = false := fun j hj => by
          match j, hj with
          | 0, _ => exact T2.out 0 (by omega)
          | 1, _ => exact T2.out 1 (by omega)
          | 2, _ => unfold tests; simp only; rw [E8.out]; simp; omega
        have T3 := Aside0.mk (flaw_f T3)
        have d3 : decide (x8 < 1) = false := by simp; omega
        have d4 : decide (4 < x8) = false := by simp; omega
        by_cases g3 : xs.length < m
        · have HF : Aside0 (RCut (some ⟨b, o, none⟩) xs w (.returned (.tuple #[.int .i64 0, .slice none 0 0, .int .i64 0, .int .i64 0])) w.drew) := ⟨by
            unfold RCut cutOf
            rw [if_neg hl, if_neg (by rw [HM.out]; omega), T3.out]
            exact ⟨none, 0, rfl, C_none _, (Below.refl _ _).drew, Nat.le_refl _, fun a h => by cases h⟩⟩
          go_wp2
          exact bodyPost_ret (v := .tuple #[.int .i64 0, .slice none 0 0, .int .i64 0, .int .i64 0]) (by simp [results, Try.results14, go_sem]) rfl HF.out
        · have hml : m ≤ xs.length := by omega
          have hlen : ((xs.take m).drop 19).length = m - 19 := by rw [List.length_drop, List.length_take]; omega
          obtain ⟨AD, hAD⟩ : ∃ AD : Option Addr, (if c = 19 then some ⟨b, o, none⟩ else some ⟨b, o + 19, none⟩) = AD := ⟨_, rfl⟩
          have hCS := C_seg HX.out 19 m hs.1 hml AD (fun h => by rw [← hAD, if_neg (by omega)])
          have HF : Aside0 (RCut (some ⟨b, o, none⟩) xs w (.returned (.tuple #[.int .i64 x8, .slice AD (m - 19) (c - 19), .int .i64 m, .int .i64 0])) w.drew.drew) := ⟨by
            unfold RCut cutOf
            rw [if_neg hl, if_pos ⟨T3.out, by rw [HM.out]; omega⟩, HM.out, E8.out]
            refine ⟨AD, c - 19, ?_, ?_, (Below.refl _ _).drew.drew, ?_, ?_⟩
            · simp only [Int.toNat_natCast, hlen]
            · simp only [Int.toNat_natCast, hlen]
              exact Kd.C_below hCS (Below.refl _ _).drew.drew
            · simp only [Int.toNat_natCast, hlen]; omega
            · intro a ha
              rw [← hAD] at ha
              split at ha <;> injection ha with ha <;> subst ha <;> exact ⟨_, rfl, rfl⟩⟩
          have f4 : (19 : Int) ≤ (m : Int) := by omega
          have f5 : (m : Int) ≤ (c : Int) := by omega
          clear hlen hCS HX
          go_wp2
          refine region [(0, .p), (1, .p), (4, .p), (5, .p), (6, .p), (7, .p), (2, .t), (3, .p), (8, .p), (9, .p), (10, .p), (11, .p)] (fun W => W.cell? ⟨b, o + 18, none⟩ = some (.int .u8 x8)) (by kernel_rfl) (by kernel_rfl) (fun _ _ _ _ _ h => h) (c8) (fun hHeld => ?_)
          iterate 6 (refine lex_p rfl rfl rfl (by intro w'; go_simp; with_reducible rfl) (by simp only [Act.put, List.setIfInBounds_toArray, List.set_cons_zero, List.set_cons_succ, i64_w, i32_w]; rfl) ?_)
          (refine lex_t rfl rfl rfl (by rintro w' s1; go_simp; with_reducible rfl) (by simp only [Act.put, List.setIfInBounds_toArray, List.set_cons_zero, List.set_cons_succ, i64_w, i32_w]; rfl) ?_)
          iterate 5 (refine lex_p rfl rfl rfl (by intro w'; go_simp; with_reducible rfl) (by simp only [Act.put, List.setIfInBounds_toArray, List.set_cons_zero, List.set_cons_succ, i64_w, i32_w]; rfl) ?_)
          refine lex_nil ?_
          go_wp2
          rw [w64 x8 (by omega) (by omega)]
          exact bodyPost_ret (v := .tuple #[.int .i64 x8, .slice AD (m - 19) (c - 19), .int .i64 m, .int .i64 0]) (by simp [results, Try.results14, go_sem]) rfl HF.out
end Go.Proofs.Yteakiaedlfhceaa.Frame
