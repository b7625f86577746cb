/- Contract of the reference's Lay. -/
import Derived.Test.YtjoapafgpbmhkaaPure07
set_option linter.unusedSimpArgs false
set_option linter.unusedVariables false
namespace Go.Proofs.Ytjoapafgpbmhkaa.Sum
open Go.RowKit Go.Proofs.YtjoapafgpbmhkaaW.PrintWords Go.Proofs.YtjoapafgpbmhkaaW.PrintLast Go.Proofs.YtjoapafgpbmhkaaW.PrintMore Go.Proofs.Ytjoapafgpbmhkaa.Lex Go.Proofs.Ytjoapafgpbmhkaa.Lib Go.Proofs.Ytjoapafgpbmhkaa.High

theorem rLay_bad (A : Option Addr) (n c : Nat) (i : Int) (w : World) (hn : n ≤ 1099511627776) (hi : i < 0 ∨ (n : Int) - 2 < i ∨ i % 2 = 1) : Calls Try.prog 21 #[.slice A n c, .int .i64 i] w fun e w' => e = .returned (.tuple #[.slice none 0 0, .int .i64 4]) ∧ w = w' := by
  rcases Int.lt_or_le i 0 with h | h
  · have d1 : decide (i < 0) = true := by simpa using h
    go_enter Try.func21, Try.ntmps21
    go_wp2
    go_ret2
    exact ⟨rfl, rfl⟩
  · rcases Int.lt_or_le ((n : Int) - 2) i with h2 | h2
    · have d1 : decide (i < 0) = false := by simp; omega
      go_enter Try.func21, Try.ntmps21
      go_wp2
      go_ret2
      exact ⟨rfl, rfl⟩
    · have h3 : i % 2 = 1 := by omega
      have d1 : decide (i < 0) = false := by simp; omega
      have d3 : (i % 2 == 1) = true := by rw [h3]; rfl
      clear hi h3
      go_enter Try.func21, Try.ntmps21
      go_wp2
      go_ret2
      exact ⟨rfl, rfl⟩
set_option maxHeartbeats 2000000 in
theorem rLay (A : Option Addr) (c : Nat) (xs : List Int) (i : Nat) (w : World) (hx : Kd.C KB w A xs.length xs) (hb : Byt xs) (hl : xs.length ≤ 1000000) (hi : i + 2 ≤ xs.length) (he : i % 2 = 0) :
    Calls Try.prog 21 #[.slice A xs.length c, .int .i64 i] w fun e w' => ∃ v, e = .returned (.tuple #[v, .int .i64 0]) ∧ OB w.heap.size w' v (layOf xs i) ∧ Below w.heap.size w w' := by
  have HX := Aside0.mk hx
  have d2 : ¬ (xs.length : Int) - 2 < (i : Int) := by omega
  have d3 : ((i : Int) % 2 == 1) = false := by
    have h3 : (i : Int) % 2 = 0 := by omega
    rw [h3]; rfl
  have i0 : (i : Int) < (xs.length : Int) := by omega
  have i1 : (i : Int) + 1 < (xs.length : Int) := by omega
  have HBN := Aside0.mk (byt_nought xs i hb)
  have hle := rawS_le (nought xs i)
  have HLN : Aside0 ((nought xs i).length = xs.length) := ⟨nought_len xs i⟩
  have HLay : Aside0 (layOf xs i = ((nought xs i).set i (((65535 - rawS (nought xs i)) / 256 % 256 : Nat) : Int)).set (i + 1) (((65535 - rawS (nought xs i)) % 256 : Nat) : Int)) := ⟨rfl⟩
  have HNO : Aside0 ((xs.set i 0).set (i + 1) 0 = nought xs i) := ⟨rfl⟩
  obtain ⟨N, hN⟩ : ∃ N, nought xs i = N := ⟨_, rfl⟩
  rw [hN] at HBN hle HLN HLay HNO
  obtain ⟨s, hs⟩ : ∃ s : Nat, 65535 - rawS N = s := ⟨_, rfl⟩
  have hs2 : 65535 - (rawS N : Int) = (s : Int) := by omega
  rw [hs] at HLay
  have HS2 := Aside0.mk hs2
  have hs3 : s ≤ 65535 := by omega
  have HI := Aside0.mk hi
  clear hx he hN hs hs2 hle hi hb
  go_enter Try.func21, Try.ntmps21
  go_wp2_with ((with_reducible refine gate_builtin (b := .append) (xs := #[.tmp 22, .tmp 23]) rfl ?_); refine ap_row w.heap.size _ _ rfl rfl (OB.lit w [] [] rfl 0 rfl (Nat.le_refl _) (by simp)) (Kd.C_below HX.out (below_alloc (Below.refl _ _) _)) rfl rfl (by simp) (by simp; omega) ?_; intro v w1 ho hb; have HO1 : Aside0 (OB w.heap.size w1 v xs) := ⟨ho⟩; have HB1 := Aside0.mk ((below_alloc (Below.refl _ _) _).trans hb); clear ho hb; obtain ⟨g, cap, rfl, hg1, hg2, hg3⟩ := HO1.out.form (by have := HI.out; omega); obtain ⟨q0, f0⟩ := HO1.out.cell i (by omega); obtain ⟨q1, f1⟩ := HO1.out.cell (i + 1) (by omega))
  have hO2 : OB w.heap.size ((w1.setCell ⟨g, i, none⟩ (.int .u8 0)).setCell ⟨g, i + 1, none⟩ (.int .u8 0)) (.slice (some ⟨g, 0, none⟩) xs.length cap) N := by
    have := (HO1.out.put i 0).put (i + 1) 0
    rwa [HNO.out] at this
  have hB2 : Below w.heap.size w ((w1.setCell ⟨g, i, none⟩ (.int .u8 0)).setCell ⟨g, i + 1, none⟩ (.int .u8 0)) := (HB1.out.setCell (by exact hg1) _).setCell (by exact hg1) _
  obtain ⟨w2, hw2⟩ : ∃ w2, ((w1.setCell ⟨g, i, none⟩ (.int .u8 0)).setCell ⟨g, i + 1, none⟩ (.int .u8 0)) = w2 := ⟨_, rfl⟩
  rw [hw2] at hO2 hB2
  rw [hw2]
  have hC2 : Kd.C KB w2 (some ⟨g, 0, none⟩) N.length N := by rw [HLN.out]; exact hO2.readsAt
  have HSum := rSum (some ⟨g, 0, none⟩) cap N w2 hC2 HBN.out (by rw [HLN.out]; omega)
  rw [HLN.out, HS2.out] at HSum
  have HO2 := Aside0.mk hO2
  have HB2 := Aside0.mk hB2
  have HSum := Aside0.mk HSum
  clear hw2 hC2 hO2 hB2 q0 f0 q1 f1 HO1 HB1
  refine HSum.out.mono ?_
  rintro e w3 ⟨rfl, rfl⟩
  obtain ⟨q0, f0⟩ := HO2.out.cell i (by omega)
  obtain ⟨q1, f1⟩ := HO2.out.cell (i + 1) (by omega)
  go_wp2_with fail
  go_ret2
  refine ⟨_, rfl, ?_, (HB2.out.setCell (by exact hg1) _).setCell (by exact hg1) _⟩
  rw [HLay.out]
  have e1 : ((s / 256 % 256 : Nat) : Int) = (s : Int) / 256 := by omega
  have e2 : ((s % 256 : Nat) : Int) = (s : Int) % 256 := by omega
  rw [e1, e2]
  exact (HO2.out.put i _).put (i + 1) _
end Go.Proofs.Ytjoapafgpbmhkaa.Sum
