/- The law HmacTags. -/
import Derived.Test.YtfeohojpjncgaaaHmAll02
set_option linter.unusedSimpArgs false
set_option linter.unusedVariables false
namespace Go.Proofs.Ytfeohojpjncgaaa.Sha
open Go.RowKit Go.Proofs.YtfeohojpjncgaaaW.PrintWords Go.Proofs.YtfeohojpjncgaaaW.PrintLast Go.Proofs.YtfeohojpjncgaaaW.PrintMore Go.Proofs.Ytfeohojpjncgaaa.PSha1Plays Go.Proofs.Ytfeohojpjncgaaa.Lex Go.Proofs.Ytfeohojpjncgaaa.Lib
theorem eql20 {bx : Array Value} {xs : List Int} (h : xs.length = 20) (hb : bx = (xs.map (Value.int .u8)).toArray) (W : World) : (binOp .eql 41 (.agg bx) (.agg bx)).run Try.prog W = .ok (.bool true) W := by
  subst hb
  rw [run_eql_arr W 41 5 20 .u8 Try.underlying41 Try.underlying5 (fun _ => by kernel_rfl) xs xs h h]
  simp
theorem eql12 {bx : Array Value} {xs : List Int} (h : xs.length = 12) (hb : bx = (xs.map (Value.int .u8)).toArray) (W : World) : (binOp .eql 48 (.agg bx) (.agg bx)).run Try.prog W = .ok (.bool true) W := by
  subst hb
  rw [run_eql_arr W 48 5 12 .u8 Try.underlying48 Try.underlying5 (fun _ => by kernel_rfl) xs xs h h]
  simp
theorem new12 {ys : List Int} (hy : ys.length = 12) {bx zs : Array Value} (hb : bx = (ys.map (Value.int .u8)).toArray) (hz : zs.size = 12) (W : World) : (storeVar 48 ⟨W.heap.size, 0, none⟩ (.agg bx)).run Try.prog (W.alloc (.cells zs 48)) = .ok () (W.alloc (.cells bx 48)) :=
  run_storeVar_new W _ _ _ (by rw [hb]; simpa using hi12 hy) (by rw [hb, hz]; simp [hy]) (by rw [hb]; simp [Value.oneCell'])
theorem two_part {w : World} {A A2 : Option Addr} {c c2 : Nat} {key msg : List Int} (hx : Kd.C KB w A key.length key) (hc : key.length ≤ c) (hx2 : Kd.C KB w A2 msg.length msg) (hc2 : msg.length ≤ c2) : Kd.C KBB (w.alloc (.cells #[.slice A key.length c, .slice A2 msg.length c2] 22)) (some ⟨w.heap.size, 0, none⟩) 2 [key, msg] := by
  refine CBB_alloc (W := w) (cs := [.slice A key.length c, .slice A2 msg.length c2]) (t := 22) rfl [key, msg] rfl (by simp) ?_
  intro j zs hj
  match j, hj with
  | 0, hj =>
    injection hj with hj
    subst hj
    exact ⟨_, _, rfl, hc, Kd.C_below hx (below_alloc (Below.refl _ _) _)⟩
  | 1, hj =>
    injection hj with hj
    subst hj
    exact ⟨_, _, rfl, hc2, Kd.C_below hx2 (below_alloc (Below.refl _ _) _)⟩
theorem flat_one (xs : List Int) : flat [xs] = xs := by simp [flat]
set_option maxRecDepth 100000 in
set_option maxHeartbeats 4000000 in
theorem hmacTags (A : Option Addr) (c : Nat) (xs : List Int) (A2 : Option Addr) (c2 : Nat) (ys : List Int) (w : World) (hx : Kd.C KB w A xs.length xs) (hc : xs.length ≤ c) (hw : ∀ n ∈ xs, (Lit.int .u8 n).wf = true) (hr1 : xs.length * 1 ≤ 140737488351232)
    (hx2 : Kd.C KB w A2 ys.length ys) (hc2 : ys.length ≤ c2) (hw2 : ∀ n ∈ ys, (Lit.int .u8 n).wf = true) (hr2 : ys.length * 1 ≤ 140737488351232) :
    Calls Try.prog 5 #[.slice A xs.length c, .slice A2 ys.length c2] w fun e w' => e = .returned (.bool true) ∧ Below w.heap.size w w' := by
  by_cases hl : ∃ z ∈ [xs, ys], 500 < z.length
  · have hl2 : ∃ j : Nat, j < [xs, ys].length ∧ 500 < ([xs, ys].getD j []).length := by
      obtain ⟨z, hz, h⟩ := hl
      simp only [List.mem_cons, List.not_mem_nil, or_false] at hz
      rcases hz with rfl | rfl
      · exact ⟨0, by simp, by simpa using h⟩
      · exact ⟨1, by simp, by simpa using h⟩
    have HF := Aside0.mk (few_neg [xs, ys] (some ⟨w.heap.size, 0, none⟩) 2 _ (two_part hx hc hx2 hc2) hl2)
    clear hx hx2 hl hl2
    go_enter Try.func5, Try.ntmps5
    go_wp2_with fail
    refine HF.out.mono ?_
    rintro e w1 ⟨rfl, hw1⟩
    have HB1 := Aside0.mk (show Below w.heap.size w w1 by rw [← hw1]; exact below_alloc (Below.refl _ _) _)
    clear hw1 HF
    go_wp2_with fail
    refine (works _).mono ?_
    rintro e w' ⟨rfl, hb⟩
    go_wp2_with fail
    go_ret
    exact ⟨rfl, HB1.out.trans (hb.mono HB1.out.size)⟩
  · have hlx : xs.length ≤ 500 := Nat.le_of_not_lt (fun h => hl ⟨xs, by simp, h⟩)
    have hly : ys.length ≤ 500 := Nat.le_of_not_lt (fun h => hl ⟨ys, by simp, h⟩)
    have HF := Aside0.mk (few_pos [xs, ys] (some ⟨w.heap.size, 0, none⟩) 2 _ (two_part hx hc hx2 hc2) (fun z hz => by
      simp only [List.mem_cons, List.not_mem_nil, or_false] at hz
      rcases hz with rfl | rfl <;> omega))
    have HX := Aside0.mk hx
    have HX2 := Aside0.mk hx2
    obtain ⟨z2, hz2, HZ2, hz⟩ := z20_ex
    obtain ⟨z1, hz1, HZ1, hzz⟩ := z12_ex
    have HT := Aside0.mk (fun A c A2 c2 W h1 h2 h3 => tagC A xs.length c xs A2 1 c2 500 [ys] W h1 rfl h2 (byt hw) (by omega) h3 rfl (fun z hz => by rw [List.mem_singleton.1 hz]; exact ⟨byt hw2, hly⟩) (by decide) (by simp) (by simp))
    have HS := Aside0.mk (fun A c A2 c2 W h1 h2 h3 => shortC A xs.length c xs A2 1 c2 500 [ys] W h1 rfl h2 (byt hw) (by omega) h3 rfl (fun z hz => by rw [List.mem_singleton.1 hz]; exact ⟨byt hw2, hly⟩) (by decide) (by simp) (by simp))
    have HRT := Aside0.mk (fun A c A2 c2 W h1 h2 h3 h4 => rtagC A c xs A2 c2 ys W h1 h2 (byt hw) (by omega) h3 h4 (byt hw2) (by omega))
    have HRS := Aside0.mk (fun A c A2 c2 W h1 h2 h3 h4 => rshortC A c xs A2 c2 ys W h1 h2 (byt hw) (by omega) h3 h4 (byt hw2) (by omega))
    rw [flat_one] at HT HS
    have HTL := Aside0.mk (tagOf_len xs ys)
    have HTS := Aside0.mk (take12 xs ys)
    obtain ⟨b2, hb2⟩ : ∃ b, ((tagOf xs ys).map (Value.int .u8)).toArray = b := ⟨_, rfl⟩
    obtain ⟨b1, hb1⟩ : ∃ b, (((tagOf xs ys).take 12).map (Value.int .u8)).toArray = b := ⟨_, rfl⟩
    rw [hb2] at HT HRT
    rw [hb1] at HS HRS
    have HB2 := Aside0.mk hb2.symm
    have HB1 := Aside0.mk hb1.symm
    have hbz2 : b2.size = 20 := by rw [← hb2]; simpa using HTL.out
    have hbz1 : b1.size = 12 := by rw [← hb1]; simpa using HTS.out
    have heq2 := fun W => eql20 HTL.out HB2.out W
    have heq1 := fun W => eql12 HTS.out HB1.out W
    have hst2 := Aside0.mk (new20 HTL.out HB2.out hz2)
    have hst1 := Aside0.mk (new12 HTS.out HB1.out hz1)
    clear hx hx2 hb2 hb1 hw hw2 hl
    go_enter Try.func5, Try.ntmps5
    go_wp2_with fail
    refine HF.out.mono ?_
    rintro e w0 ⟨rfl, hw0⟩
    have B0 := Aside0.mk (show Below w.heap.size w w0 by rw [← hw0]; exact below_alloc (Below.refl _ _) _)
    have HX0 := Aside0.mk (Kd.C_below HX.out B0.out)
    have HY0 := Aside0.mk (Kd.C_below HX2.out B0.out)
    clear hw0 HF
    go_wp2_with (first | ((with_reducible refine gate_builtin (b := .append) (xs := #[.tmp 17, .tmp 18]) rfl ?_); refine ap_row w0.heap.size _ _ rfl rfl (OB.lit w0 [] [] rfl 0 rfl (Nat.le_refl _) (by simp)) (Kd.C_below HX0.out (below_alloc (Below.refl _ _) _)) rfl rfl (by simp) (by simp; omega) ?_; intro v w1 ho hb; have HO1 := Aside0.mk ho; have HB3 := Aside0.mk ((below_alloc (Below.refl _ _) _).trans hb); clear ho hb; obtain ⟨A5, c5, rfl, hc5, hC5⟩ := HO1.out.reads; have HC5 := Aside0.mk hC5; clear hC5 HO1) | ((with_reducible refine gate_builtin (b := .append) (xs := #[.tmp 20, .tmp 21]) rfl ?_); refine ap_row w1.heap.size _ _ rfl rfl (OB.lit w1 [] [] rfl 0 rfl (Nat.le_refl _) (by simp)) (Kd.C_below HY0.out (HB3.out.trans ((below_alloc (Below.refl _ _) _).mono HB3.out.size))) rfl rfl (by simp) (by simp; omega) ?_; intro v2 w2 ho hb; have HO2 := Aside0.mk ho; have HB4 := Aside0.mk ((below_alloc (Below.refl w1.heap.size w1) _).trans hb); clear ho hb; obtain ⟨A6, c6, rfl, hc6, hC6⟩ := HO2.out.reads; have HC6 := Aside0.mk hC6; clear hC6 HO2))
    have hC5 : Kd.C KB w2 A5 xs.length xs := Kd.C_below (by have h := HC5.out; rw [List.nil_append] at h; exact h) HB4.out
    have hC6 : Kd.C KB w2 A6 ys.length ys := by have h := HC6.out; rw [List.nil_append] at h; exact h
    rw [List.nil_append] at hc5 hc6
    have h4 := HB3.out.trans (HB4.out.mono HB3.out.size)
    have D4 := Aside0.mk (B0.out.trans (h4.mono B0.out.size))
    have E5 := Aside0.mk hC5
    have E6 := Aside0.mk hC6
    clear hC5 hC6 HC5 HC6 h4 HB3 HB4 HX0 HY0 B0
    refine (HT.out A5 c5 _ _ _ (Kd.C_below E5.out (below_alloc (Below.refl _ _) _)) hc5 (one_part E6.out hc6)).mono ?_
    rintro e w3 ⟨rfl, hb3⟩
    have a3 := (below_alloc (Below.refl w2.heap.size w2) (.cells #[.slice A6 ys.length c6] 22)).trans (hb3.mono (by simp))
    have b3 := a3.trans ((below_alloc (Below.refl w3.heap.size w3) (.cells b2 41)).mono a3.size)
    have hA3 := Arr.new (k := .u8) w3 41 (tagOf xs ys) b2 HB2.out
    obtain ⟨V, hV⟩ : ∃ V, w3.alloc (.cells b2 41) = V := ⟨_, rfl⟩
    rw [hV] at b3 hA3
    have HV := Aside0.mk hV
    have HBV := Aside0.mk b3
    have HA3 := Aside0.mk hA3
    clear hb3 a3 b3 hA3 hV HT
    go_wp2_with (refine pl_store rfl 41 _ _ rfl _ _ (hst2.out _) rfl rfl ?_; rw [HV.out])
    refine (HS.out A5 c5 _ _ _ (Kd.C_below E5.out (HBV.out.trans ((below_alloc (Below.refl V.heap.size V) _).mono HBV.out.size))) hc5 (one_part (Kd.C_below E6.out HBV.out) hc6)).mono ?_
    rintro e w4 ⟨rfl, hb4⟩
    have a4 := (below_alloc (Below.refl V.heap.size V) (.cells #[.slice A6 ys.length c6] 22)).trans (hb4.mono (by simp))
    have b4 := a4.trans ((below_alloc (Below.refl w4.heap.size w4) (.cells b1 48)).mono a4.size)
    have hA4 := Arr.new (k := .u8) w4 48 ((tagOf xs ys).take 12) b1 HB1.out
    obtain ⟨U, hU⟩ : ∃ V, w4.alloc (.cells b1 48) = V := ⟨_, rfl⟩
    rw [hU] at b4 hA4
    have HU := Aside0.mk hU
    have hF : ∀ W, Below U.heap.size U W → (loadVar 41 ⟨w3.heap.size, 0, none⟩).run Try.prog W = .ok (.agg b2) W ∧ (loadVar 48 ⟨w4.heap.size, 0, none⟩).run Try.prog W = .ok (.agg b1) W ∧ (convert 22 9 (.slice A5 xs.length c5)).run Try.prog W = .ok (.string (strOfNums xs)) W ∧ (convert 22 9 (.slice A xs.length c)).run Try.prog W = .ok (.string (strOfNums xs)) W ∧ (convert 22 9 (.slice A6 ys.length c6)).run Try.prog W = .ok (.string (strOfNums ys)) W ∧ (convert 22 9 (.slice A2 ys.length c2)).run Try.prog W = .ok (.string (strOfNums ys)) W := fun W hW => by
      have h1 := b4.trans (hW.mono b4.size)
      have h2 := HBV.out.trans (h1.mono HBV.out.size)
      have h3 := D4.out.trans (h2.mono D4.out.size)
      exact ⟨load20 (HA3.out.later h1) HTL.out HB2.out, load12 (hA4.later hW) HTS.out HB1.out, conv W A5 c5 xs (Kd.C_below E5.out h2), conv W A c xs (Kd.C_below HX.out h3), conv W A6 c6 ys (Kd.C_below E6.out h2), conv W A2 c2 ys (Kd.C_below HX2.out h3)⟩
    have HFF := Aside0.mk hF
    have h5 := HBV.out.trans (b4.mono HBV.out.size)
    have D5 := Aside0.mk (D4.out.trans (h5.mono D4.out.size))
    clear hb4 a4 b4 hA4 hU HS hF h5 D4 E5 E6
    go_wp2_with (refine pl_store rfl 48 _ _ rfl _ _ (hst1.out _) rfl rfl ?_; rw [HU.out])
    clear hz hzz
    have wr0 : wrap64 0 = 0 := by unfold wrap64; omega
    refine region [(0, .p), (2, .p), (1, .o), (3, .o), (4, .p), (5, .p), (6, .p), (8, .p), (9, .p), (7, .t), (10, .o), (11, .p), (12, .p), (13, .p), (15, .p), (16, .p), (14, .t), (17, .o), (18, .p), (19, .p), (20, .p), (21, .p), (23, .p), (22, .t), (24, .t), (25, .p), (26, .p), (27, .p), (28, .p), (30, .p), (29, .t), (31, .t), (32, .p), (33, .p), (34, .p), (35, .q), (36, .p), (37, .p)] (fun W => (loadVar 41 ⟨w3.heap.size, 0, none⟩).run Try.prog W = .ok (.agg b2) W ∧ (loadVar 48 ⟨w4.heap.size, 0, none⟩).run Try.prog W = .ok (.agg b1) W ∧ (convert 22 9 (.slice A5 xs.length c5)).run Try.prog W = .ok (.string (strOfNums xs)) W ∧ (convert 22 9 (.slice A xs.length c)).run Try.prog W = .ok (.string (strOfNums xs)) W ∧ (convert 22 9 (.slice A6 ys.length c6)).run Try.prog W = .ok (.string (strOfNums ys)) W ∧ (convert 22 9 (.slice A2 ys.length c2)).run Try.prog W = .ok (.string (strOfNums ys)) W) (by kernel_rfl) (by kernel_rfl) (fun _ _ _ _ _ h => h) (HFF.out _ (below_drew (Below.refl _ _))) (fun hHeld => ?_)
    iterate 2 (refine lex_p rfl rfl rfl (by intro w'; go_simp; with_reducible rfl) (by simp only [Act.put, List.setIfInBounds_toArray, List.set_cons_zero, List.set_cons_succ, i64_w, i32_w]; rfl) ?_)
    refine lex_o rfl ?_
    go_wp2_with fail
    refine (num _ _).mono ?_
    rintro e w' ⟨rfl, rfl⟩
    go_wp2_with fail
    refine lex_end (by first | (simp only [Act.put, List.setIfInBounds_toArray, List.set_cons_zero, List.set_cons_succ, i64_w, i32_w]; rfl) | rfl) (HFF.out _ (below_drew (Below.refl _ _))) (fun hHeld => ?_)
    refine lex_o rfl ?_
    go_wp2_with fail
    refine (num _ _).mono ?_
    rintro e w' ⟨rfl, rfl⟩
    go_wp2_with fail
    refine lex_end (by first | (simp only [Act.put, List.setIfInBounds_toArray, List.set_cons_zero, List.set_cons_succ, i64_w, i32_w]; rfl) | rfl) (HFF.out _ (below_drew (Below.refl _ _))) (fun hHeld => ?_)
    iterate 5 (refine lex_p rfl rfl rfl (by intro w'; go_simp; with_reducible rfl) (by simp only [Act.put, List.setIfInBounds_toArray, List.set_cons_zero, List.set_cons_succ, i64_w, i32_w]; rfl) ?_)
    (refine lex_t rfl rfl rfl (by rintro w' ⟨s0, s1, s2, s3, s4, s5⟩; exact run_load_arr rfl rfl (by assumption)) (by simp only [Act.put, List.setIfInBounds_toArray, List.set_cons_zero, List.set_cons_succ, i64_w, i32_w]; rfl) ?_)
    refine lex_o rfl ?_
    go_wp2_with fail
    refine (HRT.out A c A2 c2 _ (Kd.C_below HX.out (D5.out.trans ((below_drew (Below.refl U.heap.size U)).mono D5.out.size))) hc (Kd.C_below HX2.out (D5.out.trans ((below_drew (Below.refl U.heap.size U)).mono D5.out.size))) hc2).mono ?_
    rintro e w5 ⟨rfl, hb5⟩
    have B5 := Aside0.mk ((below_drew (Below.refl U.heap.size U)).trans hb5)
    clear hb5
    go_wp2_with fail
    refine lex_end (by first | (simp only [Act.put, List.setIfInBounds_toArray, List.set_cons_zero, List.set_cons_succ, i64_w, i32_w]; rfl) | rfl) (HFF.out _ B5.out) (fun hHeld => ?_)
    iterate 5 (refine lex_p rfl rfl rfl (by intro w'; go_simp; with_reducible rfl) (by simp only [Act.put, List.setIfInBounds_toArray, List.set_cons_zero, List.set_cons_succ, i64_w, i32_w]; rfl) ?_)
    (refine lex_t rfl rfl rfl (by rintro w' ⟨s0, s1, s2, s3, s4, s5⟩; exact run_load_arr rfl rfl (by assumption)) (by simp only [Act.put, List.setIfInBounds_toArray, List.set_cons_zero, List.set_cons_succ, i64_w, i32_w]; rfl) ?_)
    refine lex_o rfl ?_
    go_wp2_with fail
    refine (HRS.out A c A2 c2 _ (Kd.C_below HX.out (D5.out.trans (B5.out.mono D5.out.size))) hc (Kd.C_below HX2.out (D5.out.trans (B5.out.mono D5.out.size))) hc2).mono ?_
    rintro e w6 ⟨rfl, hb6⟩
    have B6 := Aside0.mk (B5.out.trans (hb6.mono B5.out.size))
    clear hb6
    go_wp2_with fail
    refine lex_end (by first | (simp only [Act.put, List.setIfInBounds_toArray, List.set_cons_zero, List.set_cons_succ, i64_w, i32_w]; rfl) | rfl) (HFF.out _ B6.out) (fun hHeld => ?_)
    iterate 5 (refine lex_p rfl rfl rfl (by intro w'; go_simp; with_reducible rfl) (by simp only [Act.put, List.setIfInBounds_toArray, List.set_cons_zero, List.set_cons_succ, i64_w, i32_w]; rfl) ?_)
    iterate 2 (refine lex_t rfl rfl rfl (by rintro w' ⟨s0, s1, s2, s3, s4, s5⟩; go_simp; with_reducible rfl) (by simp only [Act.put, List.setIfInBounds_toArray, List.set_cons_zero, List.set_cons_succ, i64_w, i32_w]; rfl) ?_)
    iterate 5 (refine lex_p rfl rfl rfl (by intro w'; go_simp; with_reducible rfl) (by simp only [Act.put, List.setIfInBounds_toArray, List.set_cons_zero, List.set_cons_succ, i64_w, i32_w]; rfl) ?_)
    iterate 2 (refine lex_t rfl rfl rfl (by rintro w' ⟨s0, s1, s2, s3, s4, s5⟩; go_simp; with_reducible rfl) (by simp only [Act.put, List.setIfInBounds_toArray, List.set_cons_zero, List.set_cons_succ, i64_w, i32_w]; rfl) ?_)
    iterate 3 (refine lex_p rfl rfl rfl (by intro w'; go_simp; with_reducible rfl) (by simp only [Act.put, List.setIfInBounds_toArray, List.set_cons_zero, List.set_cons_succ, i64_w, i32_w]; rfl) ?_)
    refine lex_q rfl ?_
    go_wp2_with fail
    refine (works _).mono ?_
    rintro e w7 ⟨rfl, hb7⟩
    have B7 := Aside0.mk (B6.out.trans (hb7.mono B6.out.size))
    clear hb7
    go_wp2_with fail
    refine lex_endq (by first | (simp only [Act.put, List.setIfInBounds_toArray, List.set_cons_zero, List.set_cons_succ, i64_w, i32_w]; rfl) | rfl) ?_
    iterate 2 (refine lex_p rfl rfl rfl (by intro w'; go_simp; with_reducible rfl) (by simp only [Act.put, List.setIfInBounds_toArray, List.set_cons_zero, List.set_cons_succ, i64_w, i32_w]; rfl) ?_)
    refine lex_nil ?_
    go_wp2_with fail
    go_ret
    exact ⟨rfl, D5.out.trans (B7.out.mono D5.out.size)⟩
end Go.Proofs.Ytfeohojpjncgaaa.Sha
