/- The walk of SumTurns. -/
import Derived.Test.YtjoapafgpbmhkaaPure07
import Derived.Test.YtjoapafgpbmhkaaLawsA07
import Derived.Test.YtjoapafgpbmhkaaRow
set_option linter.unusedSimpArgs false
set_option linter.unusedVariables false
namespace Go.Proofs.Ytjoapafgpbmhkaa.Sum
open Go.RowKit Go.Proofs.YtjoapafgpbmhkaaW.PrintWords Go.Proofs.YtjoapafgpbmhkaaW.PrintLast Go.Proofs.YtjoapafgpbmhkaaW.PrintMore Go.Proofs.Ytjoapafgpbmhkaa.Lex Go.Proofs.Ytjoapafgpbmhkaa.Lib Go.Proofs.Ytjoapafgpbmhkaa.High
theorem byt {xs : List Int} (h : ∀ n ∈ xs, (Lit.int .u8 n).wf = true) : Byt xs := fun x hx => Row.wf_u8 (h x hx)
theorem Byt.take {xs : List Int} (h : Byt xs) (m : Nat) : Byt (xs.take m) := fun x hx => h x (List.mem_of_mem_take hx)
/-- two parts, in a new row -/
theorem C_two {W : World} {A B : Option Addr} {c d : Nat} {xs ys : List Int} (h : Kd.C KB W A xs.length xs) (hc : xs.length ≤ c) (k : Kd.C KB W B ys.length ys) (hd : ys.length ≤ d) : Kd.C KBB (W.alloc (.cells #[.slice A xs.length c, .slice B ys.length d] 23)) (some ⟨W.heap.size, 0, none⟩) 2 [xs, ys] :=
  CBB_alloc (W := W) (g := W.heap.size) (cs := [.slice A xs.length c, .slice B ys.length d]) (t := 23) rfl [xs, ys] rfl (by simp) (fun j zs hj => by
    match j, hj with
    | 0, hj =>
      injection hj with hj
      subst hj
      exact ⟨A, c, rfl, hc, Kd.C_below h (below_alloc (Below.refl _ _) _)⟩
    | 1, hj =>
      injection hj with hj
      subst hj
      exact ⟨B, d, rfl, hd, Kd.C_below k (below_alloc (Below.refl _ _) _)⟩
    | j + 2, hj => simp at hj)
theorem raw2 {w : World} {A B : Option Addr} {c d : Nat} {xs ys : List Int} (h : Kd.C KB w A xs.length xs) (hc : xs.length ≤ c) (k : Kd.C KB w B ys.length ys) (hd : ys.length ≤ d) (hx : Byt xs) (hy : Byt ys) (hl : xs.length + ys.length ≤ 1099511627776) (W : World) (hW : Below w.heap.size w W) :
    Calls Try.prog 12 #[.slice (some ⟨W.heap.size, 0, none⟩) 2 2] (W.alloc (.cells #[.slice A xs.length c, .slice B ys.length d] 23)) fun e w' => e = .returned (.int .u16 (rawS (flat [xs, ys]))) ∧ Below w.heap.size w w' := by
  refine (sRaw _ 2 [xs, ys] _ (C_two (Kd.C_below h hW) hc (Kd.C_below k hW) hd) (fun z hz => by simp at hz; rcases hz with rfl | rfl <;> assumption) (by simpa [flat] using hl)).mono ?_
  rintro e w' ⟨rfl, hb⟩
  exact ⟨rfl, hW.trans (((below_alloc (Below.refl _ _) _).trans (hb.mono (by simp))).mono hW.size)⟩
theorem raw1 {w : World} {A : Option Addr} {c : Nat} {xs : List Int} (h : Kd.C KB w A xs.length xs) (hc : xs.length ≤ c) (hx : Byt xs) (hl : xs.length ≤ 1099511627776) (W : World) (hW : Below w.heap.size w W) :
    Calls Try.prog 12 #[.slice (some ⟨W.heap.size, 0, none⟩) 1 1] (W.alloc (.cells #[.slice A xs.length c] 23)) fun e w' => e = .returned (.int .u16 (rawS (flat [xs]))) ∧ Below w.heap.size w w' := by
  refine (sRaw _ 1 [xs] _ (C_part (Kd.C_below h hW) hc) (fun z hz => by simp at hz; subst hz; assumption) (by simpa [flat] using hl)).mono ?_
  rintro e w' ⟨rfl, hb⟩
  exact ⟨rfl, hW.trans (((below_alloc (Below.refl _ _) _).trans (hb.mono (by simp))).mono hW.size)⟩
theorem even_take (xs : List Int) : ∃ X : List Int, xs.take (xs.length - xs.length % 2) = X ∧ X.length ≤ xs.length ∧ X.length % 2 = 0 ∧ ((xs.length : Int) - (xs.length : Int) % 2 = (X.length : Int)) ∧ X = xs.take X.length := by
  have hl : (xs.take (xs.length - xs.length % 2)).length = xs.length - xs.length % 2 := by rw [List.length_take]; omega
  exact ⟨_, rfl, by omega, by omega, by omega, by rw [hl]⟩
set_option maxHeartbeats 2000000 in
theorem sumTurns (A : Option Addr) (c : Nat) (xs : List Int) (B : Option Addr) (d : Nat) (ys : List Int) (w : World) (hx : Kd.C KB w A xs.length xs) (hc : xs.length ≤ c) (hwx : ∀ n ∈ xs, (Lit.int .u8 n).wf = true) (hrx : xs.length * 1 ≤ 140737488351232) (hy : Kd.C KB w B ys.length ys) (hd : ys.length ≤ d) (hwy : ∀ n ∈ ys, (Lit.int .u8 n).wf = true) (hry : ys.length * 1 ≤ 140737488351232) :
    Calls Try.prog 6 #[.slice A xs.length c, .slice B ys.length d] w fun e w' => e = .returned (.bool true) ∧ Below w.heap.size w w' := by
  by_cases h1 : 300 < xs.length
  · clear hx hy
    go_enter Try.func6, Try.ntmps6
    go_wp2_with fail
    refine (works _).mono ?_
    rintro e w' ⟨rfl, hb⟩
    go_wp2_with fail
    go_ret
    exact ⟨rfl, hb⟩
  · by_cases h2 : 300 < ys.length
    · clear hx hy
      go_enter Try.func6, Try.ntmps6
      go_wp2_with fail
      refine (works _).mono ?_
      rintro e w' ⟨rfl, hb⟩
      go_wp2_with fail
      go_ret
      exact ⟨rfl, hb⟩
    · have bx := byt hwx
      have by' := byt hwy
      obtain ⟨X, hX, lX, eX, iX, tX⟩ := even_take xs
      obtain ⟨Y, hY, lY, eY, iY, tY⟩ := even_take ys
      have cX : Kd.C KB w A X.length X := by have := Kd.C_take hx (m := xs.length - xs.length % 2) (by omega); rwa [hX] at this
      have cY : Kd.C KB w B Y.length Y := by have := Kd.C_take hy (m := ys.length - ys.length % 2) (by omega); rwa [hY] at this
      have bX : Byt X := by rw [← hX]; exact bx.take _
      have bY : Byt Y := by rw [← hY]; exact by'.take _
      have R2 := raw2 cX (by omega : X.length ≤ c) cY (by omega : Y.length ≤ d) bX bY (by omega)
      have R3 := raw2 cY (by omega : Y.length ≤ d) cX (by omega : X.length ≤ c) bY bX (by omega)
      have RX := raw1 cX (by omega : X.length ≤ c) bX (by omega)
      have RY := raw1 cY (by omega : Y.length ≤ d) bY (by omega)
      have q1 := rawS_le (flat [X])
      have q2 := rawS_le (flat [Y])
      have AD := fun W => add (rawS (flat [X])) (rawS (flat [Y])) W (by omega) (by omega)
      rw [← raw_turn X Y eX eY] at R3
      simp only [← raw_sum X Y eX] at AD
      obtain ⟨r, hr⟩ : ∃ r, rawS (flat [X, Y]) = r := ⟨_, rfl⟩
      obtain ⟨r1, hr1⟩ : ∃ r, rawS (flat [X]) = r := ⟨_, rfl⟩
      obtain ⟨r2, hr2⟩ : ∃ r, rawS (flat [Y]) = r := ⟨_, rfl⟩
      rw [hr] at R2 R3
      rw [hr1] at RX
      rw [hr2] at RY
      simp only [hr, hr1, hr2] at AD
      have HR2 := Aside0.mk R2
      have HR3 := Aside0.mk R3
      have HRX := Aside0.mk RX
      have HRY := Aside0.mk RY
      have HAD := Aside0.mk AD
      have gX : (X.length : Int) ≤ (c : Int) := by omega
      have gY : (Y.length : Int) ≤ (d : Int) := by omega
      clear R2 R3 RX RY AD hr hr1 hr2 hX hY tX tY cX cY bX bY bx by' hwx hwy eX eY q1 q2 hx hy
      go_enter Try.func6, Try.ntmps6
      go_wp2_with fail
      refine (HR2.out _ (Below.refl _ _)).mono ?_
      rintro e w1 ⟨rfl, b1⟩
      have B1 := Aside0.mk b1
      clear b1
      go_wp2_with fail
      refine (HR3.out _ B1.out).mono ?_
      rintro e w2 ⟨rfl, b2⟩
      have B2 := Aside0.mk b2
      clear b2
      go_wp2_with fail
      refine (HR2.out _ B2.out).mono ?_
      rintro e w3 ⟨rfl, b3⟩
      have B3 := Aside0.mk b3
      clear b3
      go_wp2_with fail
      refine (HRX.out _ B3.out).mono ?_
      rintro e w4 ⟨rfl, b4⟩
      have B4 := Aside0.mk b4
      clear b4
      go_wp2_with fail
      refine (HRY.out _ B4.out).mono ?_
      rintro e w5 ⟨rfl, b5⟩
      have B5 := Aside0.mk b5
      clear b5
      go_wp2_with fail
      refine (HAD.out _).mono ?_
      rintro e w6 ⟨rfl, b6⟩
      have B6 := Aside0.mk (B5.out.trans (b6.mono B5.out.size))
      clear b6
      go_wp2_with fail
      refine (works _).mono ?_
      rintro e w' ⟨rfl, hb⟩
      go_wp2_with fail
      go_ret
      exact ⟨rfl, B6.out.trans (hb.mono B6.out.size)⟩
end Go.Proofs.Ytjoapafgpbmhkaa.Sum
