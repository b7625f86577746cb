/- The walk of SumHolds. -/
import Derived.Test.YtjoapafgpbmhkaaLawsL07
import Derived.Test.YtjoapafgpbmhkaaParts
set_option linter.unusedSimpArgs false
set_option linter.unusedVariables false
namespace Go.Proofs.Ytjoapafgpbmhkaa.Sum
open Go.RowKit Go.Proofs.YtjoapafgpbmhkaaW.PrintWords Go.Proofs.YtjoapafgpbmhkaaW.PrintLast Go.Proofs.YtjoapafgpbmhkaaW.PrintMore Go.Proofs.Ytjoapafgpbmhkaa.Lex Go.Proofs.Ytjoapafgpbmhkaa.Lib Go.Proofs.Ytjoapafgpbmhkaa.High
theorem write_cut {w W : World} {xs : List Int} (hb : Byt xs) (hl : xs.length ≤ 1099511627776) (f t c p : Nat) (h1 : f ≤ t) (h2 : t ≤ xs.length) {AD : Option Addr} (hCD : Kd.C KB w AD (t - f) ((xs.take t).drop f)) (hp : w.heap.size ≤ p) (hW : Below w.heap.size w W) (hA : Ad p W (rawS (xs.take f)) f) :
    Calls Try.prog 27 #[ptr p, .slice AD (t - f) c] W fun e w' => e = .returned (.int .i64 0) ∧ Ad p w' (rawS (xs.take t)) t ∧ But W.heap.size (at1 p) W w' := by
  have hz : ((xs.take t).drop f).length = t - f := by rw [List.length_drop, List.length_take]; omega
  have hf : (xs.take f).length = f := by rw [List.length_take]; omega
  have hs := rawS_snoc (xs.take f) ((xs.take t).drop f)
  rw [hf, take_cut xs f t h1] at hs
  have hbz : Byt ((xs.take t).drop f) := fun x hx => hb x (List.mem_of_mem_take (List.mem_of_mem_drop hx))
  have hCz : Kd.C KB w AD ((xs.take t).drop f).length ((xs.take t).drop f) := by rw [hz]; exact hCD
  have h := aWrite p _ f AD c _ W hA (rawS_le _) (Kd.C_below hCz hW) hbz (fun h0 a ha => by have := C_lt hCz h0 a ha; omega) (by omega) (by omega)
  rw [hs, hz, show f + (t - f) = t by omega] at h
  exact h
section
variable {w : World} {A : Option Addr} {c : Nat} {xs : List Int}
theorem rx (h : Kd.C KB w A xs.length xs) (hc : xs.length ≤ c) (hb : Byt xs) (hl : xs.length ≤ 1099511627776) (W : World) (hW : Below w.heap.size w W) :
    Calls Try.prog 12 #[.slice (some ⟨W.heap.size, 0, none⟩) 1 1] (W.alloc (.cells #[.slice A xs.length c] 23)) fun e w' => e = .returned (.int .u16 (rawS xs)) ∧ Below W.heap.size W w' := by
  have h2 := raw1 (Kd.C_below h hW) hc hb hl W (Below.refl _ _)
  rw [show flat [xs] = xs by simp [flat]] at h2
  exact h2
theorem kx (h : Kd.C KB w A xs.length xs) (hc : xs.length ≤ c) (hb : Byt xs) (hl : xs.length ≤ 1099511627776) (W : World) (hW : Below w.heap.size w W) :
    Calls Try.prog 16 #[.slice (some ⟨W.heap.size, 0, none⟩) 1 1] (W.alloc (.cells #[.slice A xs.length c] 23)) fun e w' => e = .returned (.bool ((rawS xs : Int) == 65535)) ∧ Below W.heap.size W w' := by
  have h2 := check1 (Kd.C_below h hW) hc hb hl W (Below.refl _ _)
  have e1 : decide (rawS xs = 65535) = ((rawS xs : Int) == 65535) := by
    by_cases h : rawS xs = 65535
    · rw [h]; rfl
    · rw [decide_eq_false h]; symm; simpa using (by omega : ¬ (rawS xs : Int) = 65535)
  rw [e1] at h2
  exact h2
theorem sx (h : Kd.C KB w A xs.length xs) (hc : xs.length ≤ c) (hb : Byt xs) (hl : xs.length ≤ 1099511627776) (W : World) (hW : Below w.heap.size w W) :
    Calls Try.prog 14 #[.slice (some ⟨W.heap.size, 0, none⟩) 1 1] (W.alloc (.cells #[.slice A xs.length c] 23)) fun e w' => e = .returned (.int .u16 (65535 - (rawS xs : Int))) ∧ Below W.heap.size W w' := sum1 (Kd.C_below h hW) hc hb hl W (Below.refl _ _)
end
set_option maxHeartbeats 8000000 in
set_option maxRecDepth 100000 in
theorem sumHolds_main (A : Option Addr) (c : Nat) (xs : List Int) (B : Option Addr) (d : Nat) (cs : List Int) (i : Int) (wd : Int) (w : World) (hx : Kd.C KB w A xs.length xs) (hc : xs.length ≤ c) (hb : Byt xs) (hl : xs.length ≤ 500) (hy : Kd.C (Kd.int .i64) w B cs.length cs) (hcl : cs.length ≤ 20) (hwd : 0 ≤ wd ∧ wd ≤ 65535) :
    Calls Try.prog 8 #[.slice A xs.length c, .slice B cs.length d, .int .i64 i, .int .u16 wd] w fun e w' => e = .returned (.bool true) ∧ Below w.heap.size w w' := by
  have HX := Aside0.mk hx
  have HBy := Aside0.mk hb
  have HY := Aside0.mk hy
  have HRX := Aside0.mk (rx hx hc hb (by omega))
  have HKX := Aside0.mk (kx hx hc hb (by omega))
  have HSX := Aside0.mk (sx hx hc hb (by omega))
  have hrle := rawS_le xs
  obtain ⟨r, hr⟩ : ∃ r, rawS xs = r := ⟨_, rfl⟩
  rw [hr] at HRX HKX HSX hrle
  have HR := Aside0.mk hr
  clear hx hb hy hr
  go_enter Try.func8, Try.ntmps8
  go_wp2_with fail
  refine (new _).mono ?_
  rintro e w1 ⟨rfl, ha, hb1⟩
  have HA := Aside0.mk ha
  have HB := Aside0.mk hb1
  clear ha hb1
  go_wp2_with fail
  go_loopg [10, 11, 12] cs.length (fun gk s10 s11 s12 w' => ∃ (k f : Nat) (ps : List (List Int)), k ≤ cs.length ∧ cs.length - k ≤ gk ∧ f ≤ xs.length ∧ s12 = .int .i64 k ∧ s11 = .int .i64 f ∧ Aside0 (ps.length = k) ∧ Aside0 (PR w (w.heap.size + 1) w' s10 ps) ∧ Aside0 (flat ps = xs.take f) ∧ Aside0 (Ad w.heap.size w' (rawS (xs.take f)) f) ∧ Aside0 (Below w.heap.size w w'))
  case atStart => exact ⟨0, 0, [], by omega, by omega, by omega, rfl, rfl, ⟨rfl⟩, ⟨PR.nil _ _ _⟩, ⟨by simp [flat]⟩, HA, HB⟩
  case round =>
    clear HA HB
    obtain ⟨k, f, ps, hk, hgk, hf, rfl, rfl, HN, HP, HFl, HA, HB⟩ := hrel
    by_cases hlt : k < cs.length
    · obtain ⟨b, o, rfl, hcellw⟩ := C_num HY.out k hlt
      have hcell := pw_cell_below HB.out hcellw
      obtain ⟨y, hy⟩ : ∃ y, cs.getD k 0 = y := ⟨_, rfl⟩
      rw [hy] at hcell
      obtain ⟨t, ht⟩ : ∃ t : Nat, max (f : Int) (min (xs.length : Int) y) = (t : Int) := ⟨(max (f : Int) (min (xs.length : Int) y)).toNat, by omega⟩
      obtain ⟨m, hm⟩ : ∃ m, min (xs.length : Int) y = m := ⟨_, rfl⟩
      have hmn := run_min2 (xs.length : Int) y m hm
      have hmx := run_max2 (f : Int) m (t : Int) (by omega)
      have ht1 : f ≤ t := by omega
      have ht2 : t ≤ xs.length := by omega
      obtain ⟨AD, hsl, hCD⟩ := mid_bytes HX.out hc f t ht1 ht2
      have HCD := Aside0.mk hCD
      have hzl : ((xs.take t).drop f).length = t - f := by rw [List.length_drop, List.length_take]; omega
      have HZ := Aside0.mk hzl
      have hs1 : w.heap.size + 1 ≤ wr.heap.size := HA.out.lt
      clear hcellw hy hCD hzl ht hm
      go_wp2_with ((with_reducible refine gate_builtin (b := .append) (xs := #[.tmp 45, .tmp 50]) rfl ?_); refine ap_part (w := w) (w.heap.size + 1) _ _ rfl rfl HP.out (by rw [HZ.out]; exact HCD.out) HZ.out.symm (by have := HZ.out; omega) rfl rfl hs1 (by have := HN.out; omega) ?_; intro v1 w1 ho hb; have HP1 := Aside0.mk ho; have HB1 := Aside0.mk hb; clear ho hb)
      have hBW : Below w.heap.size w w1 := HB.out.trans (HB1.out.mono (by omega))
      have HW := write_cut HBy.out (by omega) f t (c - f) w.heap.size ht1 ht2 HCD.out (Nat.le_refl _) hBW (HA.out.below HB1.out (by omega))
      have HBW := Aside0.mk hBW
      clear hBW
      refine HW.mono ?_
      rintro e w2 ⟨rfl, ha, hbt⟩
      have HA2 := Aside0.mk ha
      have HP2 := Aside0.mk (HP1.out.but hbt (fun j hj e => by have : j = w.heap.size := e; omega))
      have HB2 : Aside0 (Below w.heap.size w w2) := ⟨HBW.out.trans (hbt.below HBW.out.size (fun j hj e => by have : j = w.heap.size := e; omega))⟩
      clear ha hbt HW HA HP HP1 HB HBW HB1
      go_wp2_with fail
      go_roundg (gk - 1)
      case measure => omega
      case rel => exact ⟨k + 1, t, ps ++ [(xs.take t).drop f], by omega, by omega, by omega, by go_num, rfl, ⟨by rw [List.length_append, HN.out]; rfl⟩, HP2, ⟨by rw [show flat (ps ++ [(xs.take t).drop f]) = flat ps ++ (xs.take t).drop f by simp [flat], HFl.out, take_cut xs f t ht1]⟩, HA2, HB2⟩
    · obtain rfl : k = cs.length := by omega
      obtain ⟨AD, hsl, hCD0⟩ := from_bytes HX.out hc f hf
      have hCD : Kd.C KB w AD (xs.length - f) ((xs.take xs.length).drop f) := by rw [List.take_length]; exact hCD0
      have HCD := Aside0.mk hCD
      have hzl : ((xs.take xs.length).drop f).length = xs.length - f := by rw [List.length_drop, List.take_length]
      have HZ := Aside0.mk hzl
      have hs1 : w.heap.size + 1 ≤ wr.heap.size := HA.out.lt
      clear hCD hzl hCD0
      go_wp2_with ((with_reducible refine gate_builtin (b := .append) (xs := #[.tmp 59, .tmp 63]) rfl ?_); refine ap_part (w := w) (w.heap.size + 1) _ _ rfl rfl HP.out (by rw [HZ.out]; exact HCD.out) HZ.out.symm (by have := HZ.out; omega) rfl rfl hs1 (by have := HN.out; omega) ?_; intro v1 w1 ho hb; have HP1 := Aside0.mk ho; have HB1 := Aside0.mk hb; clear ho hb)
      have hBW : Below w.heap.size w w1 := HB.out.trans (HB1.out.mono (by omega))
      have HW := write_cut HBy.out (by omega) f xs.length (c - f) w.heap.size hf (Nat.le_refl _) HCD.out (Nat.le_refl _) hBW (HA.out.below HB1.out (by omega))
      rw [List.take_length, HR.out] at HW
      have HBW := Aside0.mk hBW
      have HFP : Aside0 (flat (ps ++ [(xs.take xs.length).drop f]) = xs) := ⟨by rw [show flat (ps ++ [(xs.take xs.length).drop f]) = flat ps ++ (xs.take xs.length).drop f by simp [flat], HFl.out, take_cut xs f _ hf, List.take_length]⟩
      obtain ⟨P, hP⟩ : ∃ P, ps ++ [(xs.take xs.length).drop f] = P := ⟨_, rfl⟩
      rw [hP] at HP1 HFP
      clear hBW hP
      refine HW.mono ?_
      rintro e w2 ⟨rfl, ha, hbt⟩
      have HA2 := Aside0.mk ha
      have HP2 := Aside0.mk (HP1.out.but hbt (fun j hj e => by have : j = w.heap.size := e; omega))
      have HB2 : Aside0 (Below w.heap.size w w2) := ⟨HBW.out.trans (hbt.below HBW.out.size (fun j hj e => by have : j = w.heap.size := e; omega))⟩
      obtain ⟨Ap, cp, rfl, hcp, hCp⟩ := HP2.out.reads HB2.out
      have hRP := sRaw Ap cp P w2 hCp (fun z hz x hx => HBy.out x (by rw [← HFP.out]; exact List.mem_flatten.2 ⟨z, hz, hx⟩)) (by rw [HFP.out]; omega)
      rw [HFP.out, HR.out] at hRP
      have HRP := Aside0.mk hRP
      clear ha hbt HW HA HP HP1 HB HBW HB1 hCp hRP hsl HCD HZ HFl HN
      go_wp2_with fail
      refine (HRP.out).mono ?_
      rintro e w3 ⟨rfl, b3⟩
      have B3 := Aside0.mk (HB2.out.trans (b3.mono HB2.out.size))
      have A3 := Aside0.mk (HA2.out.below b3 HA2.out.lt)
      clear b3 HRP HP2 HA2 HB2
      go_wp2_with fail
      refine (HRX.out _ B3.out).mono ?_
      rintro e w4 ⟨rfl, b4⟩
      have B4 := Aside0.mk (B3.out.trans (b4.mono B3.out.size))
      have A4 := Aside0.mk (A3.out.below b4 A3.out.lt)
      clear b4 B3 A3
      go_wp2_with fail
      refine (aRaw _ _ _ w4 A4.out hrle).mono ?_
      rintro e w5 ⟨rfl, b5⟩
      have B5 := Aside0.mk (B4.out.trans (b5.mono B4.out.size))
      clear b5 B4 A4
      go_wp2_with fail
      refine (HRX.out _ B5.out).mono ?_
      rintro e w6 ⟨rfl, b6⟩
      have B6 := Aside0.mk (B5.out.trans (b6.mono B5.out.size))
      clear b6 B5
      go_wp2_with fail
      refine (HKX.out _ B6.out).mono ?_
      rintro e w7 ⟨rfl, b7⟩
      have B7 := Aside0.mk (B6.out.trans (b7.mono B6.out.size))
      clear b7 B6
      go_wp2_with fail
      refine (HRX.out _ B7.out).mono ?_
      rintro e w8 ⟨rfl, b8⟩
      have B8 := Aside0.mk (B7.out.trans (b8.mono B7.out.size))
      clear b8 B7
      go_wp2_with fail
      refine (HSX.out _ B8.out).mono ?_
      rintro e w9 ⟨rfl, b9⟩
      have B9 := Aside0.mk (B8.out.trans (b9.mono B8.out.size))
      clear b9 B8
      go_wp2_with fail
      refine (HRX.out _ B9.out).mono ?_
      rintro e v0 ⟨rfl, c0⟩
      have C0 := Aside0.mk (B9.out.trans (c0.mono B9.out.size))
      clear c0 B9 HRX HKX hf
      go_wp2_with fail
      by_cases hbad : i < 0 ∨ (xs.length : Int) - 2 < i ∨ i % 2 = 1
      · refine (lay_bad A xs.length c i v0 (by omega) hbad).mono ?_
        rintro e v1 ⟨rfl, rfl⟩
        clear hbad
        go_wp2_with fail
        refine (num _ _).mono ?_
        rintro e v1 ⟨rfl, rfl⟩
        go_wp2_with fail
        refine (works _).mono ?_
        rintro e v1 ⟨rfl, hbw⟩
        go_wp2_with fail
        go_ret
        exact ⟨rfl, C0.out.trans (hbw.mono C0.out.size)⟩
      · obtain ⟨i, rfl⟩ := Int.eq_ofNat_of_zero_le (show 0 ≤ i by omega)
        have hi : i + 2 ≤ xs.length := by omega
        have he : i % 2 = 0 := by omega
        have HL := Aside0.mk (lay A c xs i v0 (Kd.C_below HX.out C0.out) HBy.out (by omega) hi he)
        have HRL := Aside0.mk (raw_lay xs i hi he)
        have HBL := Aside0.mk (byt_layOf xs i HBy.out)
        have HLL := Aside0.mk (layOf_len xs i)
        obtain ⟨L, hL⟩ : ∃ L, layOf xs i = L := ⟨_, rfl⟩
        rw [hL] at HL HRL HBL HLL
        clear hL hbad
        refine HL.out.mono ?_
        rintro e v1 ⟨vl, rfl, ol, bl⟩
        have OL := Aside0.mk ol
        have C1 := Aside0.mk (C0.out.trans (bl.mono C0.out.size))
        obtain ⟨Al, cl, rfl, hcl2, _⟩ := ol.reads
        have HCL := Aside0.mk hcl2
        clear ol bl HL C0 hcl2
        go_wp2_with fail
        refine (num _ _).mono ?_
        rintro e v2 ⟨rfl, rfl⟩
        go_wp2_with fail
        obtain ⟨ab, ao, rfl, q0w⟩ := C_byte HX.out i (by omega)
        obtain ⟨ab2, ao2, e2, q1w⟩ := C_byte HX.out (i + 1) (by omega)
        simp only [Option.some.injEq, Addr.mk.injEq, and_true] at e2
        obtain ⟨rfl, rfl⟩ := e2
        have b0 := HBy.out (xs.getD i 0) (by rw [List.getD_eq_getElem?_getD, List.getElem?_eq_getElem (by omega)]; exact List.getElem_mem _)
        have b1 := HBy.out (xs.getD (i + 1) 0) (by rw [List.getD_eq_getElem?_getD, List.getElem?_eq_getElem (by omega)]; exact List.getElem_mem _)
        have q0 := pw_cell_below (below_drew C1.out) q0w
        have q1 := pw_cell_below (below_drew C1.out) q1w
        have HCA := Aside0.mk (fun C A => change_anew xs i hi he HBy.out wd hwd C A)
        obtain ⟨x, hx⟩ : ∃ x, xs.getD i 0 = x := ⟨_, rfl⟩
        obtain ⟨y, hy⟩ : ∃ x, xs.getD (i + 1) 0 = x := ⟨_, rfl⟩
        rw [hx] at q0 q0w b0
        rw [hy] at q1 q1w b1
        simp only [hx, hy, HR.out] at HCA
        clear hx hy q0w q1w
        have wr1 : IntKind.u16.wrap x = x := by rw [IntKind.wrap_u16]; omega
        have wr2 : IntKind.u16.wrap (x * 256) = x * 256 := by rw [IntKind.wrap_u16]; omega
        have wr3 : IntKind.u16.wrap y = y := by rw [IntKind.wrap_u16]; omega
        have wr4 : IntKind.u16.wrap (x * 256 + y) = x * 256 + y := by rw [IntKind.wrap_u16]; omega
        have wr5 : IntKind.i64.wrap ((i : Int) + 1) = (i : Int) + 1 := by rw [IntKind.wrap_i64]; omega
        have tn : ((i : Int) + 1).toNat = i + 1 := by omega
        have g0 : (i : Int) < (xs.length : Int) := by omega
        have g1 : (i : Int) + 1 < (xs.length : Int) := by omega
        have g2 : (0 : Int) ≤ (i : Int) + 1 := by omega
        refine region [(0, .p), (1, .p), (2, .p), (6, .p), (7, .p), (8, .p), (9, .p), (3, .t), (4, .p), (5, .p), (10, .t), (11, .p), (12, .p), (13, .p)] (fun W => W.cell? ⟨ab, ao + i, none⟩ = some (.int .u8 x) ∧ W.cell? ⟨ab, ao + (i + 1), none⟩ = some (.int .u8 y)) (by kernel_rfl) (by kernel_rfl) (fun _ _ _ _ _ h => h) (⟨q0, q1⟩) (fun hHeld => ?_)
        iterate 7 (refine lex_p rfl rfl rfl (by intro w'; go_simp; with_reducible rfl) (by simp only [Act.put, List.setIfInBounds_toArray, List.set_cons_zero, List.set_cons_succ, i64_w, i32_w]; rfl) ?_)
        (refine lex_t rfl rfl rfl (by rintro w' ⟨s1, s2⟩; go_simp; with_reducible rfl) (by simp only [Act.put, List.setIfInBounds_toArray, List.set_cons_zero, List.set_cons_succ, i64_w, i32_w]; rfl) ?_)
        iterate 2 (refine lex_p rfl rfl rfl (by intro w'; go_simp; with_reducible rfl) (by simp only [Act.put, List.setIfInBounds_toArray, List.set_cons_zero, List.set_cons_succ, i64_w, i32_w]; rfl) ?_)
        (refine lex_t rfl rfl rfl (by rintro w' ⟨s1, s2⟩; go_simp; with_reducible rfl) (by simp only [Act.put, List.setIfInBounds_toArray, List.set_cons_zero, List.set_cons_succ, i64_w, i32_w]; rfl) ?_)
        iterate 3 (refine lex_p rfl rfl rfl (by intro w'; go_simp; with_reducible rfl) (by simp only [Act.put, List.setIfInBounds_toArray, List.set_cons_zero, List.set_cons_succ, i64_w, i32_w]; rfl) ?_)
        refine lex_nil ?_
        clear wr1 wr2 wr3 wr4 wr5 tn hHeld q0 q1
        go_wp2_with ((with_reducible refine gate_builtin (b := .append) (xs := #[.tmp 132, .tmp 133]) rfl ?_); refine ap_row v1.heap.size _ _ rfl rfl (OB.lit v1.drew [] [] rfl 0 rfl (Nat.le_refl _) (by simp)) (Kd.C_below HX.out (below_alloc (below_drew C1.out) _)) rfl rfl (by simp) (by simp; omega) ?_; intro vn wn ho hb; have HOn : Aside0 (OB v1.heap.size wn vn xs) := ⟨ho⟩; have D1 := Aside0.mk ((below_alloc (below_drew (Below.refl v1.heap.size v1)) _).trans hb); clear ho hb; obtain ⟨g, cap, rfl, hg1, hg2, hg3⟩ := HOn.out.form (by omega); obtain ⟨q0, f0⟩ := HOn.out.cell i (by omega); obtain ⟨q1, f1⟩ := HOn.out.cell (i + 1) (by omega))
        have hO2 := (HOn.out.put i (wd / 256)).put (i + 1) (wd % 256)
        have hB2 := (D1.out.setCell (p := ⟨g, i, none⟩) hg1 (.int .u8 (wd / 256))).setCell (p := ⟨g, i + 1, none⟩) hg1 (.int .u8 (wd % 256))
        obtain ⟨v3, hv3⟩ : ∃ w2, ((wn.setCell ⟨g, i, none⟩ (.int .u8 (wd / 256))).setCell ⟨g, i + 1, none⟩ (.int .u8 (wd % 256))) = w2 := ⟨_, rfl⟩
        rw [show IntKind.u16.wrap (wd.tdiv 256) % 256 = wd / 256 by rw [Int.tdiv_eq_ediv_of_nonneg hwd.1, IntKind.wrap_u16]; omega]
        have hsz3 : wn.heap.size = v3.heap.size := by rw [← hv3]; simp [World.setCell]
        rw [hv3] at hO2 hB2 ⊢
        rw [hsz3]
        have hNl : ((xs.set i (wd / 256)).set (i + 1) (wd % 256)).length = xs.length := by simp
        have hNb : Byt ((xs.set i (wd / 256)).set (i + 1) (wd % 256)) := by
          intro z hz
          rcases List.mem_or_eq_of_mem_set hz with hz | rfl
          · rcases List.mem_or_eq_of_mem_set hz with hz | rfl
            · exact HBy.out z hz
            · omega
          · omega
        obtain ⟨N, hN⟩ : ∃ N, (xs.set i (wd / 256)).set (i + 1) (wd % 256) = N := ⟨_, rfl⟩
        simp only [hN] at HCA
        rw [hN] at hO2 hNl hNb
        have ON := Aside0.mk hO2
        have HNL := Aside0.mk hNl
        have HNB := Aside0.mk hNb
        have C3 := Aside0.mk (C1.out.trans (hB2.mono C1.out.size))
        have OL3 := Aside0.mk (OL.out.below hB2)
        clear q0 f0 q1 f1 hO2 hB2 hv3 hsz3 hN hNl hNb D1 HOn OL C1
        refine (HSX.out _ C3.out).mono ?_
        rintro e v4 ⟨rfl, c4⟩
        have C4 := Aside0.mk (C3.out.trans (c4.mono C3.out.size))
        have OL4 := Aside0.mk (OL3.out.below c4)
        have ON4 := Aside0.mk (ON.out.below c4)
        have HCh := change (65535 - (r : Int)) (x * 256 + y) wd v4 (by omega) (by omega) hwd
        obtain ⟨C, hC⟩ : ∃ C : Int, 65535 - (carry (sum16 [65535 - (65535 - (r : Int)), 65535 - (x * 256 + y), wd]) : Int) = C := ⟨_, rfl⟩
        obtain ⟨A', hA'⟩ : ∃ C : Int, 65535 - (rawS N : Int) = C := ⟨_, rfl⟩
        rw [hC] at HCh
        have HD := Aside0.mk (HCA.out C A' hC.symm hA'.symm)
        have HA' := Aside0.mk hA'
        have HCh := Aside0.mk HCh
        clear hC hA' HCA c4 C3 OL3 ON HSX
        go_wp2_with fail
        refine (HCh.out).mono ?_
        rintro e v5 ⟨rfl, c5⟩
        have C5 := Aside0.mk (C4.out.trans (c5.mono C4.out.size))
        have OL5 := Aside0.mk (OL4.out.below c5)
        have ON5 := ON4.out.below c5
        have hCN : Kd.C KB v5 (some ⟨g, 0, none⟩) N.length N := by rw [HNL.out]; exact ON5.readsAt
        have HSN := sx hCN (c := cap) (by have := HNL.out; omega) HNB.out (by have := HNL.out; omega) v5 (Below.refl _ _)
        rw [HNL.out, HA'.out] at HSN
        have HSN := Aside0.mk HSN
        clear c5 ON5 hCN C4 OL4 ON4 HCh HA'
        go_wp2_with fail
        refine (HSN.out).mono ?_
        rintro e v6 ⟨rfl, c6⟩
        have C6 := Aside0.mk (C5.out.trans (c6.mono C5.out.size))
        have OL6 := OL5.out.below c6
        have HKL := kx OL6.readsAt HCL.out HBL.out (by have := HLL.out; omega) v6 (Below.refl _ _)
        rw [HRL.out, show (((65535 : Nat) : Int) == 65535) = true by rfl] at HKL
        have HKL := Aside0.mk HKL
        clear c6 OL6 C5 OL5 HSN
        go_wp2_with fail
        refine (HKL.out).mono ?_
        rintro e v7 ⟨rfl, c7⟩
        have C7 := Aside0.mk (C6.out.trans (c7.mono C6.out.size))
        have hD := HD.out
        clear c7 C6 HKL HD HY HBy HX
        rcases hD with rfl | ⟨rfl, rfl⟩ | ⟨rfl, rfl⟩
        · go_wp2_with fail
          refine (works _).mono ?_
          rintro e v8 ⟨rfl, hbw⟩
          go_wp2_with fail
          go_ret
          exact ⟨rfl, C7.out.trans (hbw.mono C7.out.size)⟩
        · go_wp2_with fail
          refine (works _).mono ?_
          rintro e v8 ⟨rfl, hbw⟩
          go_wp2_with fail
          go_ret
          exact ⟨rfl, C7.out.trans (hbw.mono C7.out.size)⟩
        · go_wp2_with fail
          refine (works _).mono ?_
          rintro e v8 ⟨rfl, hbw⟩
          go_wp2_with fail
          go_ret
          exact ⟨rfl, C7.out.trans (hbw.mono C7.out.size)⟩
set_option maxRecDepth 100000 in
theorem sumHolds (A : Option Addr) (c : Nat) (xs : List Int) (B : Option Addr) (d : Nat) (cs : List Int) (i : Int) (wd : Int) (w : World) (hx : Kd.C KB w A xs.length xs) (hc : xs.length ≤ c) (hw : ∀ n ∈ xs, (Lit.int .u8 n).wf = true) (hr : xs.length * 1 ≤ 140737488351232)
    (hy : Kd.C (Kd.int .i64) w B cs.length cs) (hd : cs.length ≤ d) (hv : ∀ n ∈ cs, (Lit.int .i64 n).wf = true) (hs : cs.length * 8 ≤ 140737488351232) (hi : (Lit.int .i64 i).wf = true) (hwd : (Lit.int .u16 wd).wf = true) :
    Calls Try.prog 8 #[.slice A xs.length c, .slice B cs.length d, .int .i64 i, .int .u16 wd] w fun e w' => e = .returned (.bool true) ∧ Below w.heap.size w w' := by
  by_cases h1 : 500 < xs.length
  · clear hx hy
    go_enter Try.func8, Try.ntmps8
    go_wp2_with fail
    refine (works _).mono ?_
    rintro e w' ⟨rfl, hb⟩
    go_wp2_with fail
    go_ret
    exact ⟨rfl, hb⟩
  · by_cases h2 : 20 < cs.length
    · clear hx hy
      go_enter Try.func8, Try.ntmps8
      go_wp2_with fail
      refine (works _).mono ?_
      rintro e w' ⟨rfl, hb⟩
      go_wp2_with fail
      go_ret
      exact ⟨rfl, hb⟩
    · exact sumHolds_main A c xs B d cs i wd w hx hc (byt hw) (by omega) hy (by omega) (wf16 hwd)
end Go.Proofs.Ytjoapafgpbmhkaa.Sum
