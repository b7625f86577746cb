/- Contracts of sum.Head, sum.Lay. -/
import Derived.Test.YtjoapafgpbmhkaaHigh07
import Derived.Test.YtjoapafgpbmhkaaRaw07
set_option linter.unusedSimpArgs false
set_option linter.unusedVariables false
namespace Go.Proofs.Ytjoapafgpbmhkaa.Sum
open Go.RowKit Go.Proofs.YtjoapafgpbmhkaaW.PrintWords Go.Proofs.YtjoapafgpbmhkaaW.PrintLast Go.Proofs.YtjoapafgpbmhkaaW.PrintMore Go.Proofs.Ytjoapafgpbmhkaa.Lex Go.Proofs.Ytjoapafgpbmhkaa.Lib Go.Proofs.Ytjoapafgpbmhkaa.High

theorem head_bad (a b n : Int) (w : World) (hn : n < 0 ∨ 65535 < n) : Calls Try.prog 17 #[.int .u32 a, .int .u32 b, .int .i64 n] w fun e w' => e = .returned (.tuple #[.slice none 0 0, .int .i64 2]) ∧ w = w' := by
  rcases Int.lt_or_le n 0 with h | h
  · have d1 : decide (n < 0) = true := by simpa using h
    go_enter Try.func17, Try.ntmps17
    go_wp2
    go_ret2
    exact ⟨rfl, rfl⟩
  · have d1 : decide (n < 0) = false := by simp; omega
    have d2 : decide (65535 < n) = true := by simp; omega
    go_enter Try.func17, Try.ntmps17
    go_wp2
    go_ret2
    exact ⟨rfl, rfl⟩
def headOf (a b n : Nat) : List Int := high4 a ++ (high4 b ++ ([0, 6] ++ high2 n))
set_option maxHeartbeats 1000000 in
theorem head (a b n : Nat) (w : World) (ha : a ≤ 4294967295) (hb : b ≤ 4294967295) (hn : n ≤ 65535) : Calls Try.prog 17 #[.int .u32 a, .int .u32 b, .int .i64 n] w fun e w' => ∃ v, e = .returned (.tuple #[v, .int .i64 0]) ∧ OB w.heap.size w' v (headOf a b n) ∧ Below w.heap.size w w' := by
  have d2 : ¬ (65535 : Int) < (n : Int) := by omega
  have HA := Aside0.mk (fun W => high_uint32 a W ha)
  have HB := Aside0.mk (fun W => high_uint32 b W hb)
  have HN := Aside0.mk (fun W => high_int n W (by omega))
  obtain ⟨x1, hx1⟩ : ∃ x, high4 a = x := ⟨_, rfl⟩
  obtain ⟨x2, hx2⟩ : ∃ x, high4 b = x := ⟨_, rfl⟩
  obtain ⟨x4, hx4⟩ : ∃ x, high2 n = x := ⟨_, rfl⟩
  have l1 : x1.length = 4 := by rw [← hx1]; rfl
  have l2 : x2.length = 4 := by rw [← hx2]; rfl
  have l4 : x4.length = 2 := by rw [← hx4]; rfl
  unfold headOf
  simp only [hx1] at HA
  simp only [hx2] at HB
  simp only [hx4] at HN
  rw [hx1, hx2, hx4]
  clear hx1 hx2 hx4 ha hb hn
  go_enter Try.func17, Try.ntmps17
  go_wp2_with fail
  refine (HA.out _).mono ?_
  rintro e w1 ⟨v1, rfl, o1, b1⟩
  have O1 := Aside0.mk o1
  have B1 := Aside0.mk b1
  obtain ⟨A1, c1, rfl, hc1, _⟩ := o1.reads
  clear o1 b1
  go_wp2_with fail
  refine (HB.out _).mono ?_
  rintro e w2 ⟨v2, rfl, o2, b2⟩
  have O2 := Aside0.mk o2
  have O12 := Aside0.mk (O1.out.below b2)
  have B2 := Aside0.mk (B1.out.trans (b2.mono B1.out.size))
  obtain ⟨A2, c2, rfl, hc2, _⟩ := o2.reads
  clear o2 b2 O1 B1
  go_wp2_with fail
  refine (HN.out _).mono ?_
  rintro e w3 ⟨v3, rfl, o3, b3⟩
  have hs2 := B2.out.size
  have O3 := Aside0.mk o3
  have hbs := (below_alloc (Below.refl w2.heap.size w2) (.cells #[.int .u8 0, .int .u8 6] 5)).trans (b3.mono (by simp))
  have O13 := Aside0.mk (O12.out.below hbs)
  have O23 := Aside0.mk (O2.out.below hbs)
  have OL := Aside0.mk ((OB.lit (b := w2.heap.size) w2 [0, 6] [.int .u8 0, .int .u8 6] rfl 2 rfl (Nat.le_refl _) (by simp)).below b3)
  have B3 := Aside0.mk (B2.out.trans (hbs.mono B2.out.size))
  obtain ⟨A3, c3, rfl, hc3, _⟩ := o3.reads
  clear o3 b3 hbs O12 O2 B2
  go_wp2_with fail
  obtain ⟨x3, hx3⟩ : ∃ x : List Int, [0, 6] = x := ⟨_, rfl⟩
  have l3 : x3.length = 2 := by rw [← hx3]; rfl
  rw [hx3] at OL
  have R1 := O13.out.readsAt
  have R2 := O23.out.readsAt
  have RL := OL.out.readsAt
  have R3 := O3.out.readsAt
  have q1 : Kd.C KB w3 A1 x1.length x1 := by rw [l1]; rw [← l1]; simpa [l1] using R1
  have q2 : Kd.C KB w3 A2 x2.length x2 := by rw [l2]; rw [← l2]; simpa [l2] using R2
  have q3 : Kd.C KB w3 (some ⟨w2.heap.size, 0, none⟩) x3.length x3 := by rw [l3]; exact RL
  have q4 : Kd.C KB w3 A3 x4.length x4 := by rw [l4]; rw [← l4]; simpa [l4] using R3
  refine (concat (some ⟨w3.heap.size, 0, none⟩) 4 [x1, x2, x3, x4] _ (CBB_alloc (by simp) _ rfl ?hm ?hrows) ?hlen).mono ?_
  case hm => simp
  case hrows =>
    intro j ys hj
    match j, hj with
    | 0, hj =>
      injection hj with hj
      subst hj
      exact ⟨A1, c1, by rw [l1]; rfl, by omega, Kd.C_below q1 (below_alloc (Below.refl _ _) _)⟩
    | 1, hj =>
      injection hj with hj
      subst hj
      exact ⟨A2, c2, by rw [l2]; rfl, by omega, Kd.C_below q2 (below_alloc (Below.refl _ _) _)⟩
    | 2, hj =>
      injection hj with hj
      subst hj
      exact ⟨_, 2, by rw [l3]; rfl, by omega, Kd.C_below q3 (below_alloc (Below.refl _ _) _)⟩
    | 3, hj =>
      injection hj with hj
      subst hj
      exact ⟨A3, c3, by rw [l4]; rfl, by omega, Kd.C_below q4 (below_alloc (Below.refl _ _) _)⟩
    | j + 4, hj => simp at hj
  case hlen => simp [flat]; omega
  rintro e w4 ⟨v, rfl, ho, hb⟩
  have HO := Aside0.mk ho
  have HB4 := Aside0.mk hb
  clear ho hb R1 R2 RL R3 q1 q2 q3 q4
  go_wp2_with fail
  go_ret2
  have hs3 := B3.out.size
  refine ⟨_, rfl, ?_, B3.out.trans ((below_alloc (Below.refl w3.heap.size w3) _).mono hs3 |>.trans (HB4.out.mono (by simp; omega)))⟩
  have h2 := HO.out.lower (b' := w.heap.size) (by simp; omega)
  subst hx3
  show OB w.heap.size w4 v _
  simpa [flat] using h2
end Go.Proofs.Ytjoapafgpbmhkaa.Sum
