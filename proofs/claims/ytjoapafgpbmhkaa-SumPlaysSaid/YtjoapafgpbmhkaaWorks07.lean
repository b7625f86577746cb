/- The chapter's rows of package 07. -/
import Derived.Test.YtjoapafgpbmhkaaLay07
set_option linter.unusedSimpArgs false
set_option linter.unusedVariables false
namespace Go.Proofs.Ytjoapafgpbmhkaa.Sum
open Go.RowKit Go.Proofs.YtjoapafgpbmhkaaW.PrintWords Go.Proofs.YtjoapafgpbmhkaaW.PrintLast Go.Proofs.YtjoapafgpbmhkaaW.PrintMore Go.Proofs.Ytjoapafgpbmhkaa.Lex Go.Proofs.Ytjoapafgpbmhkaa.Lib Go.Proofs.Ytjoapafgpbmhkaa.High

theorem num (n : Int) (w : World) : Calls Try.prog 18 #[.int .i64 n] w fun e w' => e = .returned (.int .i64 n) ∧ w = w' := by
  go_enter Try.func18, Try.ntmps18
  go_wp2
  go_ret
  exact ⟨rfl, rfl⟩
theorem conv (W : World) (A : Option Addr) (c : Nat) (xs : List Int) (h : Kd.C KB W A xs.length xs) : (convert 23 9 (.slice A xs.length c)).run Try.prog W = .ok (.string (strOfNums xs)) W :=
  Kd.C_string (dst := 9) Try.underlying23 Try.underlying5 Try.underlying9 h
/-- one part, in a new row -/
theorem C_part {W : World} {A : Option Addr} {c : Nat} {xs : List Int} (h : Kd.C KB W A xs.length xs) (hc : xs.length ≤ c) : Kd.C KBB (W.alloc (.cells #[.slice A xs.length c] 23)) (some ⟨W.heap.size, 0, none⟩) 1 [xs] :=
  CBB_alloc (W := W) (g := W.heap.size) (cs := [.slice A xs.length c]) (t := 23) rfl [xs] rfl (by simp) (fun j zs hj => by
    match j, hj with
    | 0, hj =>
      injection hj with hj
      subst hj
      exact ⟨A, c, rfl, hc, Kd.C_below h (below_alloc (Below.refl _ _) _)⟩
    | j + 1, hj => simp at hj)
def B8 : List Int := [0, 1, 242, 3, 244, 245, 246, 247]
theorem b8_raw : rawS (flat [B8]) = 56818 := by decide +kernel
theorem b8_byt : Byt B8 := by unfold Byt; decide +kernel
theorem l4 : layOf [18, 52, 0, 0] 2 = [18, 52, 237, 203] := by decide +kernel
set_option maxHeartbeats 4000000 in
theorem works (w : World) : Calls Try.prog 11 #[] w fun e w' => e = .returned (.bool true) ∧ Below w.heap.size w w' := by
  go_enter Try.func11, Try.ntmps11
  go_wp2_with fail
  obtain ⟨wa, ha⟩ : ∃ W, w.alloc (.cells #[.int .u8 0, .int .u8 1, .int .u8 242, .int .u8 3, .int .u8 244, .int .u8 245, .int .u8 246, .int .u8 247] 5) = W := ⟨_, rfl⟩
  have O8 : OB w.heap.size wa (.slice (some ⟨w.heap.size, 0, none⟩) 8 8) B8 := by rw [← ha]; exact OB.lit w B8 _ rfl 8 rfl (Nat.le_refl _) (by decide)
  have hba : Below w.heap.size w wa := by rw [← ha]; exact below_alloc (Below.refl _ _) _
  have hsa : wa.heap.size = w.heap.size + 1 := by rw [← ha]; simp
  rw [ha]
  have hO4 := OB.lit (b := w.heap.size) wa [18, 52, 0, 0] [.int .u8 18, .int .u8 52, .int .u8 0, .int .u8 0] rfl 4 rfl (by omega) (by decide)
  have hL := lay _ 4 [18, 52, 0, 0] 2 _ hO4.readsAt (by unfold Byt; decide) (by decide) (by decide) (by decide)
  rw [l4, hsa] at hL
  refine hL.mono ?_
  rintro e w1 ⟨vc, rfl, oc, b1⟩
  have hb1 : Below wa.heap.size wa w1 := (below_alloc (Below.refl _ _) _).trans (b1.mono (by simp))
  have OC := Aside0.mk oc
  have O81 := Aside0.mk (O8.below hb1)
  have B1 := Aside0.mk (hba.trans (hb1.mono (by omega)))
  obtain ⟨Ac, cc, rfl, hcc, _⟩ := oc.reads
  clear oc b1 hb1 O8 hba hsa ha hL hO4
  go_wp2_with fail
  refine (lay_bad _ 3 3 1 _ (by decide) (by decide)).mono ?_
  rintro e w2 ⟨rfl, rfl⟩
  go_wp2_with fail
  refine (head_bad 1 2 70000 _ (by decide)).mono ?_
  rintro e w2 ⟨rfl, rfl⟩
  go_wp2_with fail
  obtain ⟨w3, h3⟩ : ∃ W, w1.alloc (.cells #[.int .u8 0, .int .u8 0, .int .u8 0] 5) = W := ⟨_, rfl⟩
  have hb3 : Below w1.heap.size w1 w3 := by rw [← h3]; exact below_alloc (Below.refl _ _) _
  have hs3 : w3.heap.size = w1.heap.size + 1 := by rw [← h3]; simp
  have O83 := Aside0.mk (O81.out.below hb3)
  have OC3 := Aside0.mk (OC.out.below hb3)
  have B3 := Aside0.mk (B1.out.trans (hb3.mono B1.out.size))
  rw [h3, ← hs3]
  clear h3 hb3 hs3 O81 OC B1
  have hR := sRaw (some ⟨w3.heap.size, 0, none⟩) 1 [B8] _ (C_part (xs := B8) (c := 8) O83.out.readsAt (by decide)) (fun x hx => by simp at hx; subst hx; exact b8_byt) (by decide)
  rw [b8_raw] at hR
  refine hR.mono ?_
  rintro e w4 ⟨rfl, hb4⟩
  have hb4' : Below w3.heap.size w3 w4 := (below_alloc (Below.refl _ _) _).trans (hb4.mono (by simp))
  have O84 := Aside0.mk (O83.out.below hb4')
  have OC4 := Aside0.mk (OC3.out.below hb4')
  have B4 := Aside0.mk (B3.out.trans (hb4'.mono B3.out.size))
  clear hR hb4 hb4' O83 OC3 B3
  go_wp2_with fail
  have hR := sSum (some ⟨w4.heap.size, 0, none⟩) 1 [B8] _ (C_part (xs := B8) (c := 8) O84.out.readsAt (by decide)) (fun x hx => by simp at hx; subst hx; exact b8_byt) (by decide)
  rw [b8_raw] at hR
  refine hR.mono ?_
  rintro e w5 ⟨rfl, hb5⟩
  have hb5' : Below w4.heap.size w4 w5 := (below_alloc (Below.refl _ _) _).trans (hb5.mono (by simp))
  have OC5 := Aside0.mk (OC4.out.below hb5')
  have B5 := Aside0.mk (B4.out.trans (hb5'.mono B4.out.size))
  clear hR hb5 hb5' O84 OC4 B4
  go_wp2_with fail
  have hR := sSum none 0 [] w5 ⟨rfl, by decide, fun h => absurd h (by decide)⟩ (fun x hx => by cases hx) (by decide)
  rw [show rawS (flat []) = 0 by decide] at hR
  refine hR.mono ?_
  rintro e w6 ⟨rfl, hb6⟩
  have OC6 := Aside0.mk (OC5.out.below hb6)
  have B6 := Aside0.mk (B5.out.trans (hb6.mono B5.out.size))
  clear hR hb6 OC5 B5
  go_wp2_with fail
  have hR := add 65535 1 w6 (by decide) (by decide)
  rw [show carry (sum16 [65535, 1]) = 1 by decide] at hR
  refine hR.mono ?_
  rintro e w7 ⟨rfl, hb7⟩
  have OC7 := Aside0.mk (OC6.out.below hb7)
  have B7 := Aside0.mk (B6.out.trans (hb7.mono B6.out.size))
  clear hR hb7 OC6 B6
  go_wp2_with fail
  obtain ⟨wx, hx1⟩ : ∃ W, w7.alloc (.cells #[.int .u8 255] 5) = W := ⟨_, rfl⟩
  have sx : wx.heap.size = w7.heap.size + 1 := by rw [← hx1]; simp
  have P1 : OB w7.heap.size wx (.slice (some ⟨w7.heap.size, 0, none⟩) 1 1) [255] := by rw [← hx1]; exact OB.lit w7 [255] _ rfl 1 rfl (Nat.le_refl _) (by decide)
  have bx : Below w7.heap.size w7 wx := by rw [← hx1]; exact below_alloc (Below.refl _ _) _
  rw [hx1]
  obtain ⟨wy, hy1⟩ : ∃ W, wx.alloc (.cells #[.int .u8 255] 5) = W := ⟨_, rfl⟩
  have sy : wy.heap.size = w7.heap.size + 1 + 1 := by rw [← hy1]; simp [sx]
  have P2 : OB w7.heap.size wy (.slice (some ⟨w7.heap.size + 1, 0, none⟩) 1 1) [255] := by rw [← hy1, ← sx]; exact OB.lit wx [255] _ rfl 1 rfl (by omega) (by decide)
  have by' : Below wx.heap.size wx wy := by rw [← hy1]; exact below_alloc (Below.refl _ _) _
  rw [hy1, ← sy]
  have P1' := (P1.below by').readsAt
  have P2' := P2.readsAt
  have hC : Kd.C KBB (wy.alloc (.cells #[.slice (some ⟨w7.heap.size, 0, none⟩) 1 1, .slice (some ⟨w7.heap.size + 1, 0, none⟩) 1 1] 23)) (some ⟨wy.heap.size, 0, none⟩) 2 [[255], [255]] :=
    CBB_alloc (W := wy) (g := wy.heap.size) (cs := [.slice (some ⟨w7.heap.size, 0, none⟩) 1 1, .slice (some ⟨w7.heap.size + 1, 0, none⟩) 1 1]) (t := 23) rfl [[255], [255]] rfl (by simp) (fun j zs hj => by
      match j, hj with
      | 0, hj =>
        injection hj with hj
        subst hj
        exact ⟨_, 1, rfl, Nat.le_refl _, Kd.C_below P1' (below_alloc (Below.refl _ _) _)⟩
      | 1, hj =>
        injection hj with hj
        subst hj
        exact ⟨_, 1, rfl, Nat.le_refl _, Kd.C_below P2' (below_alloc (Below.refl _ _) _)⟩
      | j + 2, hj => simp at hj)
  have hR := sCheck (some ⟨wy.heap.size, 0, none⟩) 2 [[255], [255]] _ hC (fun x hx => by unfold Byt; simp at hx; subst hx; decide) (by decide)
  rw [show decide (rawS (flat [[255], [255]]) = 65535) = true by decide +kernel] at hR
  refine hR.mono ?_
  rintro e w8 ⟨rfl, hb8⟩
  have hb8' : Below w7.heap.size w7 w8 := (bx.trans (by'.mono (by omega))).trans (((below_alloc (Below.refl wy.heap.size wy) _).trans (hb8.mono (by simp))).mono (by omega))
  have B8' := Aside0.mk (B7.out.trans (hb8'.mono B7.out.size))
  have hcv : (convert 23 9 (.slice Ac 4 cc)).run Try.prog w8 = .ok (.string ⟨#[18, 52, 237, 203]⟩) w8 := conv w8 Ac cc [18, 52, 237, 203] (OC7.out.below hb8').readsAt
  clear hR hb8 hb8' OC7 B7 hC P1 P1' P2 P2' hx1 hy1 sx sy bx by'
  go_wp2_with (go_at_call 18; refine (num _ _).mono ?_; rintro e w' ⟨rfl, rfl⟩)
  go_ret
  exact ⟨rfl, B8'.out⟩
end Go.Proofs.Ytjoapafgpbmhkaa.Sum
