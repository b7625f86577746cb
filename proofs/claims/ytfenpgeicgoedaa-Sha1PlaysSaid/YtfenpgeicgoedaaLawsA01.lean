/- The laws Sha1Sums, Sha1Tails, Sha1Blocks. -/
import Derived.Test.YtfenpgeicgoedaaWorks01
set_option linter.unusedSimpArgs false
set_option linter.unusedVariables false
namespace Go.Proofs.Ytfenpgeicgoedaa.Sha
open Go.RowKit Go.Proofs.YtfenpgeicgoedaaW.PrintWords Go.Proofs.YtfenpgeicgoedaaW.PrintLast Go.Proofs.YtfenpgeicgoedaaW.PrintMore Go.Proofs.Ytfenpgeicgoedaa.PSha1Plays Go.Proofs.Ytfenpgeicgoedaa.Lex Go.Proofs.Ytfenpgeicgoedaa.Lib
theorem C_take {α : Type} {d : Kd α} {w : World} {A : Option Addr} {n : Nat} {xs : List α} (h : Kd.C d w A n xs) (m : Nat) (hm : m ≤ n) : Kd.C d w A m (xs.take m) := by
  obtain ⟨h1, h2, h3⟩ := h
  refine ⟨by rw [List.length_take]; omega, by omega, fun hp => ?_⟩
  obtain ⟨ad, e, hc⟩ := h3 (by omega)
  refine ⟨ad, e, fun j p hj => hc j p ?_⟩
  rw [List.getElem?_take] at hj
  split at hj
  · exact hj
  · cases hj
theorem wf_u8 {n : Int} (h : (Lit.int .u8 n).wf = true) : 0 ≤ n ∧ n ≤ 255 := by
  have h2 := h
  simp [Lit.wf, IntKind.min, IntKind.max, IntKind.bits, IntKind.signed] at h2
  omega
theorem byt {xs : List Int} (h : ∀ n ∈ xs, (Lit.int .u8 n).wf = true) : Byt xs := fun x hx => wf_u8 (h x hx)
theorem eql20 {bx : Array Value} {xs : List Int} (h : xs.length = 20) (hb : bx = (xs.map (Value.int .u8)).toArray) (W : World) : (binOp .eql 24 (.agg bx) (.agg bx)).run Try.prog W = .ok (.bool true) W := by
  subst hb
  rw [run_eql_arr W 24 5 20 .u8 Try.underlying24 Try.underlying5 (fun _ => by kernel_rfl) xs xs h h]
  simp
/-- both sums, the value by a name -/
theorem sums_ex (xs : List Int) (hb : Byt xs) (hl : xs.length ≤ 3000000) : ∃ bx : Array Value, (∀ W, (binOp .eql 24 (.agg bx) (.agg bx)).run Try.prog W = .ok (.bool true) W) ∧
    Aside0 (∀ (A : Option Addr) (c : Nat) (w : World), Kd.C KB w A xs.length xs → xs.length ≤ c → Calls Try.prog 11 #[.slice A xs.length c] w fun e w' => e = .returned (.agg bx) ∧ Below w.heap.size w w') ∧
    Aside0 (∀ (A : Option Addr) (c : Nat) (w : World), Kd.C KB w A xs.length xs → xs.length ≤ c → Calls Try.prog 12 #[.slice A xs.length c] w fun e w' => e = .returned (.agg bx) ∧ Below w.heap.size w w') ∧
    Aside0 (∀ (A : Option Addr) (c : Nat) (ps : List (List Int)) (w : World), flat ps = xs → ps.length ≤ 1000000 → Kd.C KBB w A ps.length ps → Calls Try.prog 13 #[.slice A ps.length c] w fun e w' => e = .returned (.agg bx) ∧ Below w.heap.size w w') ∧
    Aside0 (∀ {S : Nat → Prop} {p : Nat} {w : World}, HD S p w xs → (∀ k, S k → k < w.heap.size) → Calls Try.prog 23 #[ptr p] w fun e w' => e = .returned (.agg bx) ∧ Below w.heap.size w w') ∧
    Aside0 (bx = ((sumOf xs).map (Value.int .u8)).toArray) := by
  refine ⟨_, eql20 (sumOf_len xs) rfl, ⟨fun A c w h1 h2 => sumC A c xs w h1 h2 hb hl⟩, ⟨fun A c w h1 h2 => rsumC A c xs w h1 h2 hb hl⟩, ⟨fun A c ps w h1 h2 h3 => ?_⟩, ⟨fun h hS => hSum h hb hS (by omega)⟩, ⟨rfl⟩⟩
  have h := ofC A c ps w h3 (fun z hz x hx => hb x (by rw [← h1]; exact List.mem_flatten.2 ⟨z, hz, hx⟩)) (by rw [h1]; exact hl) h2
  rw [h1] at h
  exact h
set_option maxHeartbeats 2000000 in
theorem sha1Sums (A : Option Addr) (c : Nat) (xs : List Int) (w : World) (hx : Kd.C KB w A xs.length xs) (hc : xs.length ≤ c) (hw : ∀ n ∈ xs, (Lit.int .u8 n).wf = true) (hr : xs.length * 1 ≤ 140737488351232) :
    Calls Try.prog 3 #[.slice A xs.length c] w fun e w' => e = .returned (.bool true) ∧ Below w.heap.size w w' := by
  by_cases hl : 1000 < xs.length
  · clear hx
    go_enter Try.func3, Try.ntmps3
    go_wp2_with fail
    refine (works _).mono ?_
    rintro e w' ⟨rfl, hb⟩
    go_wp2_with fail
    go_ret
    exact ⟨rfl, hb⟩
  · have HX := Aside0.mk hx
    obtain ⟨bx, heq, HS, HR, -⟩ := sums_ex xs (byt hw) (by omega)
    clear hx
    go_enter Try.func3, Try.ntmps3
    go_wp2_with (first | ((with_reducible refine gate_builtin (b := .append) (xs := #[.tmp 8, .tmp 9]) rfl ?_); refine ap_row w.heap.size _ _ rfl rfl (OB.lit w [] [] rfl 0 rfl (Nat.le_refl _) (by simp)) (Kd.C_below HX.out (below_alloc (Below.refl _ _) _)) rfl rfl (by simp) (by simp; omega) ?_; intro v w1 ho hb; have HO1 := Aside0.mk ho; have HB1 := Aside0.mk ((below_alloc (Below.refl _ _) _).trans hb); clear ho hb) | ((with_reducible refine gate_builtin (b := .append) (xs := #[.tmp 10, .tmp 11]) rfl ?_); refine ap_row w.heap.size _ _ rfl rfl (HO1.out.below (below_alloc (Below.refl _ _) _)) (OB.lit w1 [77] _ rfl 1 rfl (Nat.le_refl _) (by decide)).readsAt rfl rfl (by have := HB1.out.size; simp; omega) (by simp; omega) ?_; intro v2 w2 ho hb; have HO2 := Aside0.mk ho; have HB2 := Aside0.mk ((below_alloc HB1.out _).trans hb); clear ho hb HO1 HB1; obtain ⟨g, c2, rfl, hg1, hg2, hg3⟩ := HO2.out.form (by simp); have hg4 : (xs.length : Int) ≤ (c2 : Int) := by simp at hg3; omega))
    have hlen : ([] ++ xs ++ [77] : List Int).length = xs.length + 1 := by simp
    have hC2 := HO2.out.readsAt
    have hCm : Kd.C KB w2 (some ⟨g, 0, none⟩) xs.length xs := by
      have h3 := C_take hC2 xs.length (by omega)
      rw [List.nil_append, List.take_left] at h3
      exact h3
    have hcell : w2.cell? ⟨g, xs.length, none⟩ = some (.int .u8 77) := by
      obtain ⟨b', o', e', h⟩ := C_byte hC2 xs.length (by omega)
      simp only [Option.some.injEq, Addr.mk.injEq, and_true] at e'
      obtain ⟨rfl, rfl⟩ := e'
      rw [Nat.zero_add, List.nil_append, List.getD_eq_getElem?_getD, List.getElem?_append_right (Nat.le_refl _), Nat.sub_self] at h
      exact h
    have HCm := Aside0.mk hCm
    have HCELL := Aside0.mk hcell
    clear hC2 hCm hcell
    refine (HS.out _ c2 w2 HCm.out (by omega)).mono ?_
    rintro e w3 ⟨rfl, hb⟩
    have HB3 := Aside0.mk (HB2.out.trans (hb.mono HB2.out.size))
    have HCm3 := Aside0.mk (Kd.C_below HCm.out hb)
    have HCELL3 := Aside0.mk (pw_cell_below hb HCELL.out)
    clear hb HB2 HCm HCELL HO2 HS
    go_wp2_with fail
    refine (HR.out A c w3 (Kd.C_below HX.out HB3.out) hc).mono ?_
    rintro e w4 ⟨rfl, hb⟩
    have HB4 := Aside0.mk (HB3.out.trans (hb.mono HB3.out.size))
    have hcm := conv w4 _ c2 _ (Kd.C_below HCm3.out hb)
    have hcell := pw_cell_below hb HCELL3.out
    have hcx := conv w4 A c xs (Kd.C_below HX.out HB4.out)
    have hg5 : (xs.length : Int) + 1 ≤ (c2 : Int) := by rw [hlen] at hg3; omega
    clear hb HB3 HCm3 HCELL3 HX hg3 hlen HR
    go_wp2_with fail
    refine (works _).mono ?_
    rintro e w' ⟨rfl, hbw⟩
    go_wp2_with fail
    go_ret
    exact ⟨rfl, HB4.out.trans (hbw.mono HB4.out.size)⟩
set_option maxHeartbeats 2000000 in
theorem sha1Tails (n : Int) (w : World) (hn : (Lit.int .i64 n).wf = true) :
    Calls Try.prog 6 #[.int .i64 n] w fun e w' => e = .returned (.bool true) ∧ Below w.heap.size w w' := by
  clear hn
  by_cases hbad : n < 0 ∨ 1152921504606846976 < n
  · have HT := Aside0.mk (badTail n w hbad)
    rcases Int.lt_or_le n 0 with h0 | h0
    · clear hbad
      go_enter Try.func6, Try.ntmps6
      go_wp2_with fail
      refine HT.out.mono ?_
      rintro e w1 ⟨v, rfl, ho, hb⟩
      obtain ⟨A1, c1, rfl, _, _⟩ := ho.reads
      have HB := Aside0.mk hb
      clear ho hb HT
      go_wp2_with (go_at_call 19; refine (num _ _).mono ?_; rintro e w' ⟨rfl, rfl⟩)
      refine (works _).mono ?_
      rintro e w' ⟨rfl, hbw⟩
      go_wp2_with fail
      go_ret
      exact ⟨rfl, HB.out.trans (hbw.mono HB.out.size)⟩
    · have h1 : 1152921504606846976 < n := by omega
      clear hbad
      go_enter Try.func6, Try.ntmps6
      go_wp2_with fail
      refine HT.out.mono ?_
      rintro e w1 ⟨v, rfl, ho, hb⟩
      obtain ⟨A1, c1, rfl, _, _⟩ := ho.reads
      have HB := Aside0.mk hb
      clear ho hb HT
      go_wp2_with (go_at_call 19; refine (num _ _).mono ?_; rintro e w' ⟨rfl, rfl⟩)
      refine (works _).mono ?_
      rintro e w' ⟨rfl, hbw⟩
      go_wp2_with fail
      go_ret
      exact ⟨rfl, HB.out.trans (hbw.mono HB.out.size)⟩
  · obtain ⟨n, rfl⟩ := Int.eq_ofNat_of_zero_le (show 0 ≤ n by omega)
    have hn : n ≤ 1152921504606846976 := by omega
    have h0 : ¬ (n : Int) < 0 := by omega
    have h1 : ¬ 1152921504606846976 < (n : Int) := by omega
    have HT := Aside0.mk (tailC n w hn)
    have HR := Aside0.mk (fun W => rtailC n W hn)
    obtain ⟨T, hT⟩ : ∃ T, tail n = T := ⟨_, rfl⟩
    rw [hT] at HT
    simp only [hT] at HR
    clear hbad hT
    go_enter Try.func6, Try.ntmps6
    go_wp2_with fail
    refine HT.out.mono ?_
    rintro e w1 ⟨v, rfl, ho, hb⟩
    have HO := Aside0.mk ho
    obtain ⟨A1, c1, rfl, _, _⟩ := ho.reads
    have HB := Aside0.mk hb
    clear ho hb HT
    go_wp2_with fail
    have hT1 := conv w1.drew A1 c1 T HO.out.readsAt
    refine region [(0, .p), (2, .p), (1, .t), (3, .o), (4, .o), (5, .p), (6, .p), (7, .p), (8, .o), (9, .p), (10, .p), (11, .p), (12, .q), (13, .p), (14, .p)] (fun V => (convert 22 9 (.slice A1 T.length c1)).run Try.prog V = .ok (.string (strOfNums T)) V) (by kernel_rfl) (by kernel_rfl) (fun _ _ _ _ _ h => h) (hT1) (fun hHeld => ?_)
    iterate 2 (refine lex_p rfl rfl rfl (by intro w'; go_simp; with_reducible rfl) (by simp only [Act.put, List.setIfInBounds_toArray, List.set_cons_zero, List.set_cons_succ, i64_w, i32_w]; rfl) ?_)
    (refine lex_t rfl rfl rfl (by rintro w' s1; go_simp; with_reducible rfl) (by simp only [Act.put, List.setIfInBounds_toArray, List.set_cons_zero, List.set_cons_succ, i64_w, i32_w]; rfl) ?_)
    refine lex_o rfl ?_
    go_wp2_with fail
    refine (HR.out _).mono ?_
    rintro e w2 ⟨v2, rfl, ho2, hb2⟩
    have HB2 := Aside0.mk (HB.out.trans (((below_drew (Below.refl _ _)).trans hb2).mono HB.out.size))
    have HO2 := Aside0.mk (HO.out.below ((below_drew (Below.refl _ _)).trans hb2))
    have HQ := Aside0.mk ho2
    obtain ⟨A2, c2, rfl, _, _⟩ := ho2.reads
    clear ho2 hb2 HO
    go_wp2_with fail
    refine lex_end (by first | (simp only [Act.put, List.setIfInBounds_toArray, List.set_cons_zero, List.set_cons_succ, i64_w, i32_w]; rfl) | rfl) (conv w2 A1 c1 T HO2.out.readsAt) (fun hHeld => ?_)
    refine lex_o rfl ?_
    have hc2 := conv w2 A2 c2 T HQ.out.readsAt
    go_wp2_with fail
    refine lex_end (by first | (simp only [Act.put, List.setIfInBounds_toArray, List.set_cons_zero, List.set_cons_succ, i64_w, i32_w]; rfl) | rfl) (conv w2 A1 c1 T HO2.out.readsAt) (fun hHeld => ?_)
    iterate 3 (refine lex_p rfl rfl rfl (by intro w'; go_simp; with_reducible rfl) (by simp only [Act.put, List.setIfInBounds_toArray, List.set_cons_zero, List.set_cons_succ, i64_w, i32_w]; rfl) ?_)
    refine lex_o rfl ?_
    go_wp2_with fail
    refine (num _ _).mono ?_
    rintro e w' ⟨rfl, rfl⟩
    go_wp2_with fail
    refine lex_end (by first | (simp only [Act.put, List.setIfInBounds_toArray, List.set_cons_zero, List.set_cons_succ, i64_w, i32_w]; rfl) | rfl) (conv w2 A1 c1 T HO2.out.readsAt) (fun hHeld => ?_)
    iterate 3 (refine lex_p rfl rfl rfl (by intro w'; go_simp; with_reducible rfl) (by simp only [Act.put, List.setIfInBounds_toArray, List.set_cons_zero, List.set_cons_succ, i64_w, i32_w]; rfl) ?_)
    refine lex_q rfl ?_
    go_wp2_with fail
    refine (works _).mono ?_
    rintro e w3 ⟨rfl, hb3⟩
    have HB3 := Aside0.mk (HB2.out.trans (hb3.mono HB2.out.size))
    clear hb3
    go_wp2_with fail
    refine lex_endq (by first | (simp only [Act.put, List.setIfInBounds_toArray, List.set_cons_zero, List.set_cons_succ, i64_w, i32_w]; rfl) | rfl) ?_
    iterate 2 (refine lex_p rfl rfl rfl (by intro w'; go_simp; with_reducible rfl) (by simp only [Act.put, List.setIfInBounds_toArray, List.set_cons_zero, List.set_cons_succ, i64_w, i32_w]; rfl) ?_)
    refine lex_nil ?_
    go_wp2_with fail
    go_ret
    exact ⟨rfl, HB3.out⟩
end Go.Proofs.Ytfenpgeicgoedaa.Sha
