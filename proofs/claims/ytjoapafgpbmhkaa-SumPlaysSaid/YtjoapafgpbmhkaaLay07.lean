/- Contract of sum.Lay. -/
import Derived.Test.YtjoapafgpbmhkaaHead07
import Derived.Test.YtjoapafgpbmhkaaCopy
set_option linter.unusedSimpArgs false
set_option linter.unusedVariables false
namespace Go.Proofs.Ytjoapafgpbmhkaa.Sum
open Go.RowKit Go.Proofs.YtjoapafgpbmhkaaW.PrintWords Go.Proofs.YtjoapafgpbmhkaaW.PrintLast Go.Proofs.YtjoapafgpbmhkaaW.PrintMore Go.Proofs.Ytjoapafgpbmhkaa.Lex Go.Proofs.Ytjoapafgpbmhkaa.Lib Go.Proofs.Ytjoapafgpbmhkaa.High

theorem putQ_normal {Q : Exit → Act → World → Prop} {K : Act → World → Prop} {a : Act} {w : World} (h : K a w) : putQ Q K .normal a w := h
theorem lay_bad (A : Option Addr) (n c : Nat) (i : Int) (w : World) (hn : n ≤ 1099511627776) (hi : i < 0 ∨ (n : Int) - 2 < i ∨ i % 2 = 1) : Calls Try.prog 20 #[.slice A n c, .int .i64 i] w fun e w' => e = .returned (.tuple #[.slice none 0 0, .int .i64 4]) ∧ w = w' := by
  rcases Int.lt_or_le i 0 with h | h
  · have d1 : decide (i < 0) = true := by simpa using h
    go_enter Try.func20, Try.ntmps20
    go_wp2
    go_ret2
    exact ⟨rfl, rfl⟩
  · have d1 : decide (i < 0) = false := by simp; omega
    rcases Int.lt_or_le ((n : Int) - 2) i with h2 | h2
    · have d2 : decide ((n : Int) - 2 < i) = true := by simpa using h2
      go_enter Try.func20, Try.ntmps20
      go_wp2
      go_ret2
      exact ⟨rfl, rfl⟩
    · have d2 : decide ((n : Int) - 2 < i) = false := by simp; omega
      obtain ⟨k, rfl⟩ := Int.eq_ofNat_of_zero_le h
      have d3 : ((k : Int) % 2 == 1) = true := by have h3 : (k : Int) % 2 = 1 := by omega
                                                  rw [h3]; rfl
      have d4 : ((k : Int).tmod 2 == 1) = true := by rw [Int.tmod_eq_emod_of_nonneg (by omega)]; exact d3
      go_enter Try.func20, Try.ntmps20
      go_wp2
      go_ret2
      exact ⟨rfl, rfl⟩
/-- the bytes with noughts at a place -/
def nought (xs : List Int) (i : Nat) : List Int := (xs.set i 0).set (i + 1) 0
/-- the bytes with their sum laid -/
def layOf (xs : List Int) (i : Nat) : List Int := ((nought xs i).set i (((65535 - rawS (nought xs i)) / 256 % 256 : Nat) : Int)).set (i + 1) (((65535 - rawS (nought xs i)) % 256 : Nat) : Int)
set_option maxHeartbeats 2000000 in
theorem lay (A : Option Addr) (c : Nat) (xs : List Int) (i : Nat) (w : World) (hx : Kd.C KB w A xs.length xs) (hb : Byt xs) (hl : xs.length ≤ 1099511627776) (hi : i + 2 ≤ xs.length) (he : i % 2 = 0) :
    Calls Try.prog 20 #[.slice A xs.length c, .int .i64 i] w fun e w' => ∃ v, e = .returned (.tuple #[v, .int .i64 0]) ∧ OB w.heap.size w' v (layOf xs i) ∧ Below w.heap.size w w' := by
  have HC := Aside0.mk (clone A c xs w hx (by omega))
  have HB := Aside0.mk hb
  have d2 : ¬ (xs.length : Int) - 2 < (i : Int) := by omega
  have d3 : ((i : Int) % 2 == 1) = false := by have h3 : (i : Int) % 2 = 0 := by omega
                                               rw [h3]; rfl
  have d4 : ((i : Int).tmod 2 == 1) = false := by rw [Int.tmod_eq_emod_of_nonneg (by omega)]; exact d3
  clear hx hb
  go_enter Try.func20, Try.ntmps20
  go_wp2_with fail
  refine HC.out.mono ?_
  rintro e w1 ⟨v, rfl, ho, hb1⟩
  obtain ⟨g, cap, rfl, hg1, hg2, hcap⟩ := ho.form (by omega)
  have HO := Aside0.mk ho
  have HB1 := Aside0.mk hb1
  have hic : (i : Int) ≤ (cap : Int) := by omega
  have hin : (i : Int) ≤ (xs.length : Int) := by omega
  have hce : ¬ cap = i := by omega
  have hs1 := hb1.size
  clear ho hb1 HC
  go_wp2_with ((with_reducible refine gate_builtin (b := .copy) (xs := #[.tmp 25, .tmp 26]) rfl ?_); refine ap_copy2 _ _ rfl rfl (HO.out.below (below_alloc (Below.refl _ _) _)) rfl i hi _ 0 0 (OB.lit (b := w.heap.size) w1 [0, 0] [.int .u8 0, .int .u8 0] rfl 2 rfl hs1 (by simp)).readsAt (cap - i) 2 rfl rfl ?_; intro w2 hw2 ho2; have HO2 := Aside0.mk ho2; have HW2 := Aside0.mk hw2; clear hw2 ho2)
  have hyl : (nought xs i).length = xs.length := by unfold nought; rw [List.length_set, List.length_set]
  have hyb : Byt (nought xs i) := fun x hx => by
    unfold nought at hx
    rcases List.mem_or_eq_of_mem_set hx with h | h
    · rcases List.mem_or_eq_of_mem_set h with h | h
      · exact HB.out x h
      · omega
    · omega

  obtain ⟨ys, hys⟩ : ∃ ys, nought xs i = ys := ⟨_, rfl⟩
  have HO3 : Aside0 (OB w.heap.size w2 (.slice (some ⟨g, 0, none⟩) xs.length cap) ys) := ⟨by rw [← hys]; exact HO2.out⟩
  rw [hys] at hyl hyb
  have hB2 : Below w.heap.size w w2 := by
    rw [HW2.out]
    exact ((HB1.out.trans ((below_alloc (Below.refl w1.heap.size w1) _).mono hs1)).setCell (p := ⟨g, i, none⟩) hg1 _).setCell (p := ⟨g, i + 1, none⟩) hg1 _
  have HB2 := Aside0.mk hB2
  have HS := Aside0.mk (fun (W : World) (hC : Kd.C KBB W (some ⟨w2.heap.size, 0, none⟩) 1 [ys]) => sSum (some ⟨w2.heap.size, 0, none⟩) 1 [ys] W hC (fun x hx => by simp at hx; subst hx; exact hyb) (by simp [flat]; omega))
  have hfl : flat [ys] = ys := by simp [flat]
  rw [hfl] at HS
  have hle := rawS_le ys
  obtain ⟨r, hr⟩ : ∃ r, rawS ys = r := ⟨_, rfl⟩
  rw [hr] at HS hle
  rw [show (65535 - (r : Int)) = ((65535 - r : Nat) : Int) by omega] at HS
  obtain ⟨t, ht⟩ : ∃ t, 65535 - r = t := ⟨_, rfl⟩
  rw [ht] at HS
  have HT := Aside0.mk ht
  have htl : t ≤ 65535 := by omega
  clear ht
  have HR := Aside0.mk hr
  have HYS := Aside0.mk hys
  clear hys hB2 hyb hfl hr HO2 HO
  refine region [(0, .p), (1, .p), (2, .p), (3, .p), (4, .o), (5, .o), (6, .o), (7, .o)] (fun _ => True) (by kernel_rfl) (by kernel_rfl) (fun _ _ _ _ _ h => h) trivial (fun hHeld => ?_)
  iterate 4 (refine lex_p rfl rfl rfl (by intro w'; go_simp; with_reducible rfl) (by simp only [Act.put, List.setIfInBounds_toArray, List.set_cons_zero, List.set_cons_succ, i64_w, i32_w]; rfl) ?_)
  refine lex_o rfl ?_
  go_wp2_with fail
  refine And.intro trivial (fun hHeld => ?_)
  refine lex_o rfl ?_
  go_wp2_with fail
  refine (HS.out _ (by
    have h := CBB_alloc (W := w2) (g := w2.heap.size) (cs := [.slice (some ⟨g, 0, none⟩) xs.length cap]) (t := 23) rfl [ys] rfl (by simp) (fun j zs hj => by
      match j, hj with
      | 0, hj =>
        injection hj with hj
        subst hj
        exact ⟨some ⟨g, 0, none⟩, cap, by rw [hyl]; rfl, by omega, by rw [hyl]; exact Kd.C_below HO3.out.readsAt (below_alloc (Below.refl _ _) _)⟩
      | j + 1, hj => simp at hj)
    exact h)).mono ?_
  rintro e w3 ⟨rfl, hb3⟩
  have hb23 : Below w2.heap.size w2 w3 := (below_alloc (Below.refl _ _) _).drew.trans (hb3.mono (by simp))
  have O3 := Aside0.mk (HO3.out.below hb23)
  have B3 := Aside0.mk (HB2.out.trans (hb23.mono HB2.out.size))
  clear hb3 hb23 hHeld
  go_wp2_with fail
  refine And.intro trivial (fun hHeld => ?_)
  refine lex_o rfl ?_
  go_wp2_with fail
  refine (high_uint16 t _ htl).mono ?_
  rintro e w4 ⟨vh, rfl, oh, bh⟩
  have O4 := Aside0.mk (O3.out.below bh)
  have B4 := Aside0.mk (B3.out.trans (bh.mono B3.out.size))
  obtain ⟨Ah, ch, rfl, hch, hCh⟩ := oh.reads
  have HCH := Aside0.mk hCh
  clear oh bh hCh hHeld
  go_wp2_with fail
  refine And.intro trivial (fun hHeld => ?_)
  refine lex_o rfl ?_
  go_wp2_with ((with_reducible refine gate_builtin (b := .copy) (xs := #[.tmp 30, .tmp 34]) rfl ?_); refine ap_copy2 _ _ rfl rfl O4.out hyl i hi _ _ _ HCH.out (cap - i) ch rfl rfl ?_; intro w5 hw5 ho5; have HO5 := Aside0.mk ho5; have HW5 := Aside0.mk hw5; clear hw5 ho5)
  refine putQ_normal ?_
  refine lex_nil ?_
  go_wp2_with fail
  go_ret2
  refine ⟨_, rfl, ?_, ?_⟩
  · unfold layOf
    rw [HYS.out, HR.out, HT.out]
    exact HO5.out
  · rw [HW5.out]
    exact (B4.out.setCell (p := ⟨g, i, none⟩) hg1 _).setCell (p := ⟨g, i + 1, none⟩) hg1 _
end Go.Proofs.Ytjoapafgpbmhkaa.Sum
