/- The law HmacParts. -/
import Derived.Test.YtfeohojpjncgaaaLawsB02
import Derived.Test.YtfeohojpjncgaaaOpen
set_option linter.unusedSimpArgs false
set_option linter.unusedVariables false
namespace Go.Proofs.Ytfeohojpjncgaaa.Sha
open Go.RowKit Go.Proofs.YtfeohojpjncgaaaW.PrintWords Go.Proofs.YtfeohojpjncgaaaW.PrintLast Go.Proofs.YtfeohojpjncgaaaW.PrintMore Go.Proofs.Ytfeohojpjncgaaa.PSha1Plays Go.Proofs.Ytfeohojpjncgaaa.Lex Go.Proofs.Ytfeohojpjncgaaa.Lib
theorem mem_take {ps : List (List Int)} {k : Nat} (hk : k < ps.length) {z : List Int} (hz : z ∈ ps.take (k + 1)) : z ∈ ps.take k ∨ z = ps.getD k [] := by
  rw [List.take_succ_eq_append_getElem hk] at hz
  rcases List.mem_append.1 hz with h | h
  · exact .inl h
  · right
    rw [List.mem_singleton.1 h, List.getD_eq_getElem?_getD, List.getElem?_eq_getElem hk]
    rfl
/-- what stands of two tags to be compared: the tag and the short one, by names; the walk's facts about them -/
theorem two_ex (xs ys : List Int) : ∃ b2 b1 : Array Value, b2 = ((tagOf xs ys).map (Value.int .u8)).toArray ∧ b1 = (((tagOf xs ys).take 12).map (Value.int .u8)).toArray ∧ b2.size = 20 ∧ b1.size = 12 ∧ (∀ W, (binOp .eql 41 (.agg b2) (.agg b2)).run Try.prog W = .ok (.bool true) W) ∧ (∀ W, (binOp .eql 48 (.agg b1) (.agg b1)).run Try.prog W = .ok (.bool true) W) :=
  ⟨_, _, rfl, rfl, by simpa using tagOf_len xs ys, by simpa using take12 xs ys, fun W => eql20 (tagOf_len xs ys) rfl W, fun W => eql12 (take12 xs ys) rfl W⟩
set_option maxRecDepth 100000 in
set_option maxHeartbeats 4000000 in
theorem hmacParts (A : Option Addr) (c : Nat) (xs : List Int) (A2 : Option Addr) (c2 : Nat) (ps : List (List Int)) (w : World) (hx : Kd.C KB w A xs.length xs) (hc : xs.length ≤ c) (hw : ∀ n ∈ xs, (Lit.int .u8 n).wf = true) (hr1 : xs.length * 1 ≤ 140737488351232)
    (hx2 : Kd.C KBB w A2 ps.length ps) (hc2 : ps.length ≤ c2) (ho : ∀ xs ∈ ps, ∀ n ∈ xs, (Lit.int .u8 n).wf = true) :
    Calls Try.prog 6 #[.slice A xs.length c, .slice A2 ps.length c2] w fun e w' => e = .returned (.bool true) ∧ Below w.heap.size w w' := by
  by_cases hl : 500 < xs.length
  · have HF := Aside0.mk (few_neg [xs] (some ⟨w.heap.size, 0, none⟩) 1 _ (one_part hx hc) ⟨0, by simp, by simpa using hl⟩)
    clear hx hx2
    go_enter Try.func6, Try.ntmps6
    go_wp2_with fail
    refine HF.out.mono ?_
    rintro e w1 ⟨rfl, hw1⟩
    have HB1 := Aside0.mk (show Below w.heap.size w w1 by rw [← hw1]; exact below_alloc (Below.refl _ _) _)
    clear hw1 HF
    go_wp2_with fail
    refine (works _).mono ?_
    rintro e w' ⟨rfl, hb⟩
    go_wp2_with fail
    go_ret
    exact ⟨rfl, HB1.out.trans (hb.mono HB1.out.size)⟩
  have HF := Aside0.mk (few_pos [xs] (some ⟨w.heap.size, 0, none⟩) 1 _ (one_part hx hc) (fun z hz => by rw [List.mem_singleton.1 hz]; omega))
  by_cases h20 : 20 < ps.length
  · clear hx hx2
    go_enter Try.func6, Try.ntmps6
    go_wp2_with fail
    refine HF.out.mono ?_
    rintro e w1 ⟨rfl, hw1⟩
    have HB1 := Aside0.mk (show Below w.heap.size w w1 by rw [← hw1]; exact below_alloc (Below.refl _ _) _)
    clear hw1 HF
    go_wp2_with fail
    refine (works _).mono ?_
    rintro e w' ⟨rfl, hb⟩
    go_wp2_with fail
    go_ret
    exact ⟨rfl, HB1.out.trans (hb.mono HB1.out.size)⟩
  have HX := Aside0.mk hx
  have HX2 := Aside0.mk hx2
  have HBP := Aside0.mk (fun z hz => byt (ho z hz) : ∀ z ∈ ps, Byt z)
  have HBx := Aside0.mk (byt hw)
  clear hx hx2 ho hw
  go_enter Try.func6, Try.ntmps6
  go_wp2_with fail
  refine HF.out.mono ?_
  rintro e w0 ⟨rfl, hw0⟩
  have B0 := Aside0.mk (show Below w.heap.size w w0 by rw [← hw0]; exact below_alloc (Below.refl _ _) _)
  clear hw0 HF
  go_wp2_with fail
  go_loopg [5, 6] ps.length (fun gk s5 s6 w' => ∃ k : Nat, k ≤ ps.length ∧ ps.length - k ≤ gk ∧ s6 = .int .i64 k ∧ (flat (ps.take k)).length ≤ 300 * k ∧ Aside0 (∀ z ∈ ps.take k, z.length ≤ 300) ∧ Aside0 (OB w0.heap.size w' s5 (flat (ps.take k))) ∧ Aside0 (Below w0.heap.size w0 w'))
  case atStart => exact ⟨0, by omega, by omega, rfl, by simp [flat], ⟨fun z hz => by simp at hz⟩, ⟨OB.nil _ _⟩, ⟨Below.refl _ _⟩⟩
  case round =>
    obtain ⟨k, hk, hgk, rfl, hfl, HM, HO, B⟩ := hrel
    have HB := Aside0.mk (B0.out.trans (B.out.mono B0.out.size))
    by_cases hlt : k < ps.length
    · obtain ⟨b, o, A0, c0, rfl, hcell, hlc, hC⟩ := C_row (Kd.C_below HX2.out HB.out) k hlt
      have hft := flat_take ps k hlt
      have HMK := Aside0.mk (fun (z : List Int) hz => mem_take (ps := ps) hlt (z := z) hz)
      obtain ⟨z, hzz⟩ : ∃ z, ps.getD k [] = z := ⟨_, rfl⟩
      rw [hzz] at hcell hlc hC hft HMK
      have HFT := Aside0.mk hft
      have HC := Aside0.mk hC
      clear hft hzz hC
      by_cases hz : 300 < z.length
      · go_wp2_with fail
        refine (works _).mono ?_
        rintro e w' ⟨rfl, hbw⟩
        go_wp2_with fail
        go_ret
        exact ⟨rfl, HB.out.trans (hbw.mono HB.out.size)⟩
      · have hsz := B.out.size
        go_wp2_with ((with_reducible refine gate_builtin (b := .append) (xs := #[.tmp 34, .tmp 38]) rfl ?_); refine ap_row w0.heap.size _ _ rfl rfl HO.out HC.out rfl rfl hsz (by omega) ?_; intro v1 w1 ho hb; have HO1 := Aside0.mk ho; have B1 := Aside0.mk (B.out.trans hb); clear ho hb)
        go_roundg (gk - 1)
        case measure => omega
        case rel => exact ⟨k + 1, by omega, by omega, by go_num, by rw [HFT.out, List.length_append]; omega, ⟨fun y hy => (HMK.out y hy).elim (HM.out y) (fun e => by rw [e]; omega)⟩, ⟨by rw [HFT.out]; exact HO1.out⟩, B1⟩
    · obtain rfl : k = ps.length := by omega
      have hO := HO.out
      have hM := HM.out
      rw [List.take_length] at hO hfl hM
      have hBy := flat_byt ps HBP.out
      obtain ⟨b2, b1, hb2, hb1, hbz2, hbz1, heq2, heq1⟩ := two_ex xs (flat ps)
      have hT := fun W h1 h3 => tagC A xs.length c xs A2 ps.length c2 300 ps W h1 rfl hc HBx.out (by omega) h3 rfl (fun z hz => ⟨HBP.out z hz, hM z hz⟩) (by decide) (by omega) (by omega)
      have hS := fun W h1 h3 => shortC A xs.length c xs A2 ps.length c2 300 ps W h1 rfl hc HBx.out (by omega) h3 rfl (fun z hz => ⟨HBP.out z hz, hM z hz⟩) (by decide) (by omega) (by omega)
      have hRT := fun A2 c2 W h1 h3 h4 => rtagC A c xs A2 c2 (flat ps) W h1 hc HBx.out (by omega) h3 h4 hBy (by omega)
      have hRS := fun A2 c2 W h1 h3 h4 => rshortC A c xs A2 c2 (flat ps) W h1 hc HBx.out (by omega) h3 h4 hBy (by omega)
      have HTL := Aside0.mk (tagOf_len xs (flat ps))
      have HTS := Aside0.mk (take12 xs (flat ps))
      rw [← hb2] at hT hRT
      rw [← hb1] at hS hRS
      have HT := Aside0.mk hT
      have HS := Aside0.mk hS
      obtain ⟨TG, hTG⟩ : ∃ T, tagOf xs (flat ps) = T := ⟨_, rfl⟩
      rw [hTG] at hb2 hb1 HTL HTS
      obtain ⟨Z, hZ⟩ : ∃ Z, flat ps = Z := ⟨_, rfl⟩
      rw [hZ] at hRT hRS hfl hO
      have HRT := Aside0.mk hRT
      have HRS := Aside0.mk hRS
      have HB2 := Aside0.mk hb2
      have HB1 := Aside0.mk hb1
      have HOZ := Aside0.mk hO
      obtain ⟨A1, c1, rfl, hc1, _⟩ := hO.reads
      obtain ⟨z2, hz2, HZ2, hz⟩ := z20_ex
      obtain ⟨z1, hz1, HZ1, hzz⟩ := z12_ex
      have hst2 := Aside0.mk (new20 HTL.out HB2.out hz2)
      have hst1 := Aside0.mk (new12 HTS.out HB1.out hz1)
      have D0 := Aside0.mk HB.out
      clear hO HO hZ hT hS hRT hRS hb2 hb1 hM HM hTG hBy HB
      go_wp2_with fail
      refine (HT.out _ (Kd.C_below HX.out D0.out) (Kd.C_below HX2.out D0.out)).mono ?_
      rintro e w3 ⟨rfl, hb3⟩
      have b3 := hb3.trans ((below_alloc (Below.refl w3.heap.size w3) (.cells b2 41)).mono hb3.size)
      have hA3 := Arr.new (k := .u8) w3 41 TG b2 HB2.out
      obtain ⟨V, hV⟩ : ∃ V, w3.alloc (.cells b2 41) = V := ⟨_, rfl⟩
      rw [hV] at b3 hA3
      have HV := Aside0.mk hV
      have HBV := Aside0.mk b3
      have D3 := Aside0.mk (D0.out.trans (b3.mono D0.out.size))
      have HA3 := Aside0.mk hA3
      clear hb3 b3 hA3 hV HT
      go_wp2_with (refine pl_store rfl 41 _ _ rfl _ _ (hst2.out _) rfl rfl ?_; rw [HV.out])
      refine (HS.out _ (Kd.C_below HX.out D3.out) (Kd.C_below HX2.out D3.out)).mono ?_
      rintro e w4 ⟨rfl, hb4⟩
      have b4 := hb4.trans ((below_alloc (Below.refl w4.heap.size w4) (.cells b1 48)).mono hb4.size)
      have hA4 := Arr.new (k := .u8) w4 48 (TG.take 12) b1 HB1.out
      obtain ⟨U, hU⟩ : ∃ V, w4.alloc (.cells b1 48) = V := ⟨_, rfl⟩
      rw [hU] at b4 hA4
      have HU := Aside0.mk hU
      have HFF : Aside0 (∀ W, Below U.heap.size U W → (loadVar 41 ⟨w3.heap.size, 0, none⟩).run Try.prog W = .ok (.agg b2) W ∧ (loadVar 48 ⟨w4.heap.size, 0, none⟩).run Try.prog W = .ok (.agg b1) W) := ⟨fun W hW => by
        have h1 := b4.trans (hW.mono b4.size)
        exact ⟨load20 (HA3.out.later h1) HTL.out HB2.out, load12 (hA4.later hW) HTS.out HB1.out⟩⟩
      have h5 := HBV.out.trans (b4.mono HBV.out.size)
      have D5 := Aside0.mk (D0.out.trans (h5.mono D0.out.size))
      have O5 := Aside0.mk (HOZ.out.below h5)
      clear hb4 b4 hA4 hU HS h5 HOZ D3
      go_wp2_with (refine pl_store rfl 48 _ _ rfl _ _ (hst1.out _) rfl rfl ?_; rw [HU.out])
      clear hz hzz
      have wr0 : wrap64 0 = 0 := by unfold wrap64; omega
      refine region [(0, .p), (2, .p), (1, .o), (3, .o), (4, .p), (5, .p), (6, .p), (8, .p), (9, .p), (7, .t), (10, .o), (11, .p), (12, .p), (13, .p), (15, .p), (16, .p), (14, .t), (17, .o), (18, .p), (19, .p), (20, .p), (21, .q), (22, .p), (23, .p)] (fun W => (loadVar 41 ⟨w3.heap.size, 0, none⟩).run Try.prog W = .ok (.agg b2) W ∧ (loadVar 48 ⟨w4.heap.size, 0, none⟩).run Try.prog W = .ok (.agg b1) W) (by kernel_rfl) (by kernel_rfl) (fun _ _ _ _ _ h => h) (HFF.out _ (below_drew (Below.refl _ _))) (fun hHeld => ?_)
      iterate 2 (refine lex_p rfl rfl rfl (by intro w'; go_simp; with_reducible rfl) (by simp only [Act.put, List.setIfInBounds_toArray, List.set_cons_zero, List.set_cons_succ, i64_w, i32_w]; rfl) ?_)
      refine lex_o rfl ?_
      go_wp2_with fail
      refine (num _ _).mono ?_
      rintro e w' ⟨rfl, rfl⟩
      go_wp2_with fail
      refine lex_end (by first | (simp only [Act.put, List.setIfInBounds_toArray, List.set_cons_zero, List.set_cons_succ, i64_w, i32_w]; rfl) | rfl) (HFF.out _ (below_drew (Below.refl _ _))) (fun hHeld => ?_)
      refine lex_o rfl ?_
      go_wp2_with fail
      refine (num _ _).mono ?_
      rintro e w' ⟨rfl, rfl⟩
      go_wp2_with fail
      refine lex_end (by first | (simp only [Act.put, List.setIfInBounds_toArray, List.set_cons_zero, List.set_cons_succ, i64_w, i32_w]; rfl) | rfl) (HFF.out _ (below_drew (Below.refl _ _))) (fun hHeld => ?_)
      iterate 5 (refine lex_p rfl rfl rfl (by intro w'; go_simp; with_reducible rfl) (by simp only [Act.put, List.setIfInBounds_toArray, List.set_cons_zero, List.set_cons_succ, i64_w, i32_w]; rfl) ?_)
      (refine lex_t rfl rfl rfl (by rintro w' ⟨s0, s1⟩; exact run_load_arr rfl rfl (by assumption)) (by simp only [Act.put, List.setIfInBounds_toArray, List.set_cons_zero, List.set_cons_succ, i64_w, i32_w]; rfl) ?_)
      refine lex_o rfl ?_
      go_wp2_with fail
      refine (HRT.out A1 c1 _ (Kd.C_below HX.out (D5.out.trans ((below_drew (Below.refl U.heap.size U)).mono D5.out.size))) (O5.out.below (below_drew (Below.refl U.heap.size U))).readsAt hc1).mono ?_
      rintro e w5 ⟨rfl, hb5⟩
      have B5 := Aside0.mk ((below_drew (Below.refl U.heap.size U)).trans hb5)
      clear hb5
      go_wp2_with fail
      refine lex_end (by first | (simp only [Act.put, List.setIfInBounds_toArray, List.set_cons_zero, List.set_cons_succ, i64_w, i32_w]; rfl) | rfl) (HFF.out _ B5.out) (fun hHeld => ?_)
      iterate 5 (refine lex_p rfl rfl rfl (by intro w'; go_simp; with_reducible rfl) (by simp only [Act.put, List.setIfInBounds_toArray, List.set_cons_zero, List.set_cons_succ, i64_w, i32_w]; rfl) ?_)
      (refine lex_t rfl rfl rfl (by rintro w' ⟨s0, s1⟩; exact run_load_arr rfl rfl (by assumption)) (by simp only [Act.put, List.setIfInBounds_toArray, List.set_cons_zero, List.set_cons_succ, i64_w, i32_w]; rfl) ?_)
      refine lex_o rfl ?_
      go_wp2_with fail
      refine (HRS.out A1 c1 _ (Kd.C_below HX.out (D5.out.trans (B5.out.mono D5.out.size))) (O5.out.below B5.out).readsAt hc1).mono ?_
      rintro e w6 ⟨rfl, hb6⟩
      have B6 := Aside0.mk (B5.out.trans (hb6.mono B5.out.size))
      clear hb6
      go_wp2_with fail
      refine lex_end (by first | (simp only [Act.put, List.setIfInBounds_toArray, List.set_cons_zero, List.set_cons_succ, i64_w, i32_w]; rfl) | rfl) (HFF.out _ B6.out) (fun hHeld => ?_)
      iterate 3 (refine lex_p rfl rfl rfl (by intro w'; go_simp; with_reducible rfl) (by simp only [Act.put, List.setIfInBounds_toArray, List.set_cons_zero, List.set_cons_succ, i64_w, i32_w]; rfl) ?_)
      refine lex_q rfl ?_
      go_wp2_with fail
      refine (works _).mono ?_
      rintro e w7 ⟨rfl, hb7⟩
      have B7 := Aside0.mk (B6.out.trans (hb7.mono B6.out.size))
      clear hb7
      go_wp2_with fail
      refine lex_endq (by first | (simp only [Act.put, List.setIfInBounds_toArray, List.set_cons_zero, List.set_cons_succ, i64_w, i32_w]; rfl) | rfl) ?_
      iterate 2 (refine lex_p rfl rfl rfl (by intro w'; go_simp; with_reducible rfl) (by simp only [Act.put, List.setIfInBounds_toArray, List.set_cons_zero, List.set_cons_succ, i64_w, i32_w]; rfl) ?_)
      refine lex_nil ?_
      go_wp2_with fail
      go_ret
      exact ⟨rfl, D5.out.trans (B7.out.mono D5.out.size)⟩
end Go.Proofs.Ytfeohojpjncgaaa.Sha
namespace Go.Proofs.Ytfeohojpjncgaaa.Row
open Go.RowKit Go.Proofs.YtfeohojpjncgaaaW.PrintWords Go.Proofs.Ytfeohojpjncgaaa.Lib
theorem opens_bytes : Opens Lib.KBB 22 (fun xs => ∀ n ∈ xs, (Lit.int .u8 n).wf = true) :=
  opens_slice Try.underlying22 (by kernel_rfl) (opens_int Try.underlying5 (by kernel_rfl))
theorem opens_parts : Opens (Kd.slice 22 Lib.KBB) 53 (fun l => ∀ xs ∈ l, ∀ n ∈ xs, (Lit.int .u8 n).wf = true) :=
  opens_slice Try.underlying53 (by kernel_rfl) opens_bytes
end Go.Proofs.Ytfeohojpjncgaaa.Row
