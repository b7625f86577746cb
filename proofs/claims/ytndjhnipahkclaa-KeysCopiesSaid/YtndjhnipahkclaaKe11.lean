/- Keys: Add, a key whose numbers are taken; no more room. -/
import Derived.Test.YtndjhnipahkclaaKe10
set_option linter.unusedSimpArgs false
set_option linter.unusedVariables false
namespace Go.Proofs.Ytndjhnipahkclaa.Ke
open Go.RowKit Go.Proofs.YtndjhnipahkclaaW.PrintWords Go.Proofs.YtndjhnipahkclaaW.PrintLast Go.Proofs.YtndjhnipahkclaaW.PrintMore Go.Proofs.Ytndjhnipahkclaa.PKeysPlay Go.Proofs.Ytndjhnipahkclaa.Lex Go.Proofs.Ytndjhnipahkclaa.Lib
set_option maxHeartbeats 4000000 in
theorem addTwice {S : Nat → Prop} (p m n : Nat) (A : Option Addr) (c : Nat) (l : List S36) (f : Int → Option Int) (x : S36) (w : World) (hk : KS S p m n w A c l f) (hok : badP x = false) (htw : l.any (twiceP x) = true) :
    Calls Try.prog 19 #[ptr p, a36 x] w fun e w' => e = .returned (.int .i64 200) ∧ Below w.heap.size w w' := by
  have h1 := hk.c1
  have hgm : ∀ (W : World), Ob (w.heap.size + 1) W (c36 x) → Calls Try.prog 39 #[ptr (w.heap.size + 1)] W fun e w' => e = .returned (.bool false) ∧ W = w' := fun W hW => by
    have h := badT (w.heap.size + 1) x W hW
    rw [hok] at h
    exact h
  have HG := Aside0.mk hgm
  have HT : Aside0 (∀ (W : World), Below w.heap.size w W → W.cell? ⟨w.heap.size, 0, none⟩ = some (ptr p) → Ob (w.heap.size + 1) W (c36 x) → Calls Try.prog 40 #[ptr w.heap.size, ptr (w.heap.size + 1)] W fun e w' => e = .returned (.bool true) ∧ Below W.heap.size W w') := ⟨fun W hW h5 h6 => by
    have h := twiceC w.heap.size (w.heap.size + 1) p A c l x W h5 (pw_cell_below hW hk.c0) (Kd.C_below hk.row hW) h6
    rw [htw] at h
    exact h⟩
  clear hgm hok hk
  go_enter Try.func19, Try.ntmps19
  go_wp2_with fail
  obtain ⟨e, he⟩ : ∃ e : Int, e = 200 := ⟨_, rfl⟩
  refine wp_scope_jumps 0 (fun a' w' => ∃ u0 u1 u2 u3 u5 u6 u7 u8 u9 u10 u11 u12 u13 u14 u15 u16 u17 u18 u19 u20 u21 u22 u23 u24 u25 u26 u27 u28 u29 u30 u31 u32 u33 u34 u35 u36 u37 : Value, a' = { tmps := #[u0, u1, u2, u3, .int .i64 e, u5, u6, u7, u8, u9, u10, u11, u12, u13, u14, u15, u16, u17, u18, u19, u20, u21, u22, u23, u24, u25, u26, u27, u28, u29, u30, u31, u32, u33, u34, u35, u36, u37], defers := [] } ∧ Below w.heap.size w w') (fun _ _ => 0) rfl ?_ ?_
  · go_wp2_with fail
    refine (none_some (m := m) ?_).mono ?_
    · exact pw_cell_below (below_alloc (below_alloc (below_alloc (Below.refl _ _) _) _) _) h1
    rintro e' w' ⟨rfl, rfl⟩
    go_wp2_with fail
    have sz1 : (w.alloc (.cells #[ptr p] 25)).heap.size = w.heap.size + 1 := by simp
    have sz2 : ((w.alloc (.cells #[ptr p] 25)).alloc (.cells #[.int .u32 x.f0, .int .u8 x.f1, .int .u8 x.f2, .int .i64 x.f3, .string x.f4] 36)).heap.size = w.heap.size + 2 := by simp
    have hom := Ob.new (w.alloc (.cells #[ptr p] 25)) (c36 x) #[.int .u32 x.f0, .int .u8 x.f1, .int .u8 x.f2, .int .i64 x.f3, .string x.f4] rfl 36
    rw [sz1] at hom
    have hom := hom.below (below_alloc (Below.refl ((w.alloc (.cells #[ptr p] 25)).alloc (.cells #[.int .u32 x.f0, .int .u8 x.f1, .int .u8 x.f2, .int .i64 x.f3, .string x.f4] 36)).heap.size ((w.alloc (.cells #[ptr p] 25)).alloc (.cells #[.int .u32 x.f0, .int .u8 x.f1, .int .u8 x.f2, .int .i64 x.f3, .string x.f4] 36))) (.cells #[.func (.func 39) #[] #[ptr (w.heap.size + 1)], .int .i64 2, .func (.func 40) #[] #[ptr w.heap.size, ptr (w.heap.size + 1)], .int .i64 200, .func (.func 42) #[] #[ptr w.heap.size], .int .i64 3] 69)) (by rw [sz2]; omega)
    have hbv : Below w.heap.size w (((w.alloc (.cells #[ptr p] 25)).alloc (.cells #[.int .u32 x.f0, .int .u8 x.f1, .int .u8 x.f2, .int .i64 x.f3, .string x.f4] 36)).alloc (.cells #[.func (.func 39) #[] #[ptr (w.heap.size + 1)], .int .i64 2, .func (.func 40) #[] #[ptr w.heap.size, ptr (w.heap.size + 1)], .int .i64 200, .func (.func 42) #[] #[ptr w.heap.size], .int .i64 3] 69)) := below_alloc (below_alloc (below_alloc (Below.refl _ _) _) _) _
    have hgk0 := pw_cell_below (below_alloc (below_alloc (Below.refl (w.alloc (.cells #[ptr p] 25)).heap.size (w.alloc (.cells #[ptr p] 25))) (.cells #[.int .u32 x.f0, .int .u8 x.f1, .int .u8 x.f2, .int .i64 x.f3, .string x.f4] 36)) (.cells #[.func (.func 39) #[] #[ptr (w.heap.size + 1)], .int .i64 2, .func (.func 40) #[] #[ptr w.heap.size, ptr (w.heap.size + 1)], .int .i64 200, .func (.func 42) #[] #[ptr w.heap.size], .int .i64 3] 69)) (Ob.new w [ptr p] #[ptr p] rfl 25 0 _ rfl).1
    obtain ⟨V, hV⟩ : ∃ V, (((w.alloc (.cells #[ptr p] 25)).alloc (.cells #[.int .u32 x.f0, .int .u8 x.f1, .int .u8 x.f2, .int .i64 x.f3, .string x.f4] 36)).alloc (.cells #[.func (.func 39) #[] #[ptr (w.heap.size + 1)], .int .i64 2, .func (.func 40) #[] #[ptr w.heap.size, ptr (w.heap.size + 1)], .int .i64 200, .func (.func 42) #[] #[ptr w.heap.size], .int .i64 3] 69)) = V := ⟨_, rfl⟩
    rw [hV] at hom hbv hgk0 ⊢
    have HOM := Aside0.mk hom
    have HGK := Aside0.mk hgk0
    have HBV := Aside0.mk hbv
    clear hV hom hbv sz1 sz2 hgk0
    go_loopg [18] 2 (fun gk s18 W => ∃ k : Nat, k ≤ 1 ∧ 1 - k ≤ gk ∧ s18 = .int .i64 k ∧ Aside0 (Below V.heap.size V W))
    case atStart => exact ⟨0, by omega, by omega, rfl, ⟨Below.refl _ _⟩⟩
    case round =>
      obtain ⟨k, hk3, hgk, rfl, HBW⟩ := hrel
      have hi0 := idx0
      have hi1 := idx1
      have hi2 := idx2
      have HOW := Aside0.mk (HOM.out.below HBW.out HOM.out.lt)
      by_cases e0 : k = 0
      · subst e0
        go_wp2_with fail
        refine (HG.out _ (HOW.out.below (below_alloc (Below.refl _ _) _) HOW.out.lt)).mono ?_
        rintro e' w' ⟨rfl, rfl⟩
        have HB2 := Aside0.mk (below_alloc HBW.out (.cells #[.func (.func 39) #[] #[ptr (w.heap.size + 1)], .int .i64 2] 68))
        go_wp2_with fail
        go_roundg (gk - 1)
        case measure => omega
        case rel => exact ⟨1, by omega, by omega, rfl, HB2⟩
      by_cases e1 : k = 1
      · subst e1
        go_wp2_with fail
        have hb1 := below_alloc HBW.out (.cells #[.func (.func 40) #[] #[ptr w.heap.size, ptr (w.heap.size + 1)], .int .i64 200] 68)
        refine (HT.out _ (HBV.out.trans (hb1.mono HBV.out.size)) (pw_cell_below (HBW.out.trans ((below_alloc (Below.refl _ _) _).mono HBW.out.size)) HGK.out) (HOW.out.below (below_alloc (Below.refl _ _) _) HOW.out.lt)).mono ?_
        rintro e' w2 ⟨rfl, hb2⟩
        have HB2 := Aside0.mk (hb1.trans (hb2.mono hb1.size))
        clear hb1 hb2
        go_wp2_with fail
        go_step3
        refine ⟨rfl, ?_⟩
        (repeat apply Exists.intro)
        refine ⟨by rw [he], HBV.out.trans (HB2.out.mono HBV.out.size)⟩
      exact (show False by omega).elim
  · rintro a' w' ⟨u0, u1, u2, u3, u5, u6, u7, u8, u9, u10, u11, u12, u13, u14, u15, u16, u17, u18, u19, u20, u21, u22, u23, u24, u25, u26, u27, u28, u29, u30, u31, u32, u33, u34, u35, u36, u37, rfl, hb⟩
    go_wp2_with fail
    first | go_step3 | skip
    go_wp2_with fail
    simp only [Exit.jump]
    go_ret
    exact ⟨rfl, hb⟩
set_option maxHeartbeats 4000000 in
theorem addFull {S : Nat → Prop} (p m n : Nat) (A : Option Addr) (c : Nat) (l : List S36) (f : Int → Option Int) (x : S36) (w : World) (hk : KS S p m n w A c l f) (hok : badP x = false) (htw : l.any (twiceP x) = false) (hfull : 16 ≤ l.length) :
    Calls Try.prog 19 #[ptr p, a36 x] w fun e w' => e = .returned (.int .i64 3) ∧ Below w.heap.size w w' := by
  have h1 := hk.c1
  have hgm : ∀ (W : World), Ob (w.heap.size + 1) W (c36 x) → Calls Try.prog 39 #[ptr (w.heap.size + 1)] W fun e w' => e = .returned (.bool false) ∧ W = w' := fun W hW => by
    have h := badT (w.heap.size + 1) x W hW
    rw [hok] at h
    exact h
  have HG := Aside0.mk hgm
  have HT : Aside0 (∀ (W : World), Below w.heap.size w W → W.cell? ⟨w.heap.size, 0, none⟩ = some (ptr p) → Ob (w.heap.size + 1) W (c36 x) → Calls Try.prog 40 #[ptr w.heap.size, ptr (w.heap.size + 1)] W fun e w' => e = .returned (.bool false) ∧ Below W.heap.size W w') := ⟨fun W hW h5 h6 => by
    have h := twiceC w.heap.size (w.heap.size + 1) p A c l x W h5 (pw_cell_below hW hk.c0) (Kd.C_below hk.row hW) h6
    rw [htw] at h
    exact h⟩
  have HFU : Aside0 (∀ (W : World), Below w.heap.size w W → W.cell? ⟨w.heap.size, 0, none⟩ = some (ptr p) → Calls Try.prog 42 #[ptr w.heap.size] W fun e w' => e = .returned (.bool true) ∧ W = w') := ⟨fun W hW h5 => by
    have h := fullT w.heap.size p m A c l W h5 (pw_cell_below hW hk.c0)
    rw [show decide (16 ≤ (l.length : Int)) = true from decide_eq_true (by omega)] at h
    exact h⟩
  clear hgm hok hk
  go_enter Try.func19, Try.ntmps19
  go_wp2_with fail
  obtain ⟨e, he⟩ : ∃ e : Int, e = 3 := ⟨_, rfl⟩
  refine wp_scope_jumps 0 (fun a' w' => ∃ u0 u1 u2 u3 u5 u6 u7 u8 u9 u10 u11 u12 u13 u14 u15 u16 u17 u18 u19 u20 u21 u22 u23 u24 u25 u26 u27 u28 u29 u30 u31 u32 u33 u34 u35 u36 u37 : Value, a' = { tmps := #[u0, u1, u2, u3, .int .i64 e, u5, u6, u7, u8, u9, u10, u11, u12, u13, u14, u15, u16, u17, u18, u19, u20, u21, u22, u23, u24, u25, u26, u27, u28, u29, u30, u31, u32, u33, u34, u35, u36, u37], defers := [] } ∧ Below w.heap.size w w') (fun _ _ => 0) rfl ?_ ?_
  · go_wp2_with fail
    refine (none_some (m := m) ?_).mono ?_
    · exact pw_cell_below (below_alloc (below_alloc (below_alloc (Below.refl _ _) _) _) _) h1
    rintro e' w' ⟨rfl, rfl⟩
    go_wp2_with fail
    have sz1 : (w.alloc (.cells #[ptr p] 25)).heap.size = w.heap.size + 1 := by simp
    have sz2 : ((w.alloc (.cells #[ptr p] 25)).alloc (.cells #[.int .u32 x.f0, .int .u8 x.f1, .int .u8 x.f2, .int .i64 x.f3, .string x.f4] 36)).heap.size = w.heap.size + 2 := by simp
    have hom := Ob.new (w.alloc (.cells #[ptr p] 25)) (c36 x) #[.int .u32 x.f0, .int .u8 x.f1, .int .u8 x.f2, .int .i64 x.f3, .string x.f4] rfl 36
    rw [sz1] at hom
    have hom := hom.below (below_alloc (Below.refl ((w.alloc (.cells #[ptr p] 25)).alloc (.cells #[.int .u32 x.f0, .int .u8 x.f1, .int .u8 x.f2, .int .i64 x.f3, .string x.f4] 36)).heap.size ((w.alloc (.cells #[ptr p] 25)).alloc (.cells #[.int .u32 x.f0, .int .u8 x.f1, .int .u8 x.f2, .int .i64 x.f3, .string x.f4] 36))) (.cells #[.func (.func 39) #[] #[ptr (w.heap.size + 1)], .int .i64 2, .func (.func 40) #[] #[ptr w.heap.size, ptr (w.heap.size + 1)], .int .i64 200, .func (.func 42) #[] #[ptr w.heap.size], .int .i64 3] 69)) (by rw [sz2]; omega)
    have hbv : Below w.heap.size w (((w.alloc (.cells #[ptr p] 25)).alloc (.cells #[.int .u32 x.f0, .int .u8 x.f1, .int .u8 x.f2, .int .i64 x.f3, .string x.f4] 36)).alloc (.cells #[.func (.func 39) #[] #[ptr (w.heap.size + 1)], .int .i64 2, .func (.func 40) #[] #[ptr w.heap.size, ptr (w.heap.size + 1)], .int .i64 200, .func (.func 42) #[] #[ptr w.heap.size], .int .i64 3] 69)) := below_alloc (below_alloc (below_alloc (Below.refl _ _) _) _) _
    have hgk0 := pw_cell_below (below_alloc (below_alloc (Below.refl (w.alloc (.cells #[ptr p] 25)).heap.size (w.alloc (.cells #[ptr p] 25))) (.cells #[.int .u32 x.f0, .int .u8 x.f1, .int .u8 x.f2, .int .i64 x.f3, .string x.f4] 36)) (.cells #[.func (.func 39) #[] #[ptr (w.heap.size + 1)], .int .i64 2, .func (.func 40) #[] #[ptr w.heap.size, ptr (w.heap.size + 1)], .int .i64 200, .func (.func 42) #[] #[ptr w.heap.size], .int .i64 3] 69)) (Ob.new w [ptr p] #[ptr p] rfl 25 0 _ rfl).1
    obtain ⟨V, hV⟩ : ∃ V, (((w.alloc (.cells #[ptr p] 25)).alloc (.cells #[.int .u32 x.f0, .int .u8 x.f1, .int .u8 x.f2, .int .i64 x.f3, .string x.f4] 36)).alloc (.cells #[.func (.func 39) #[] #[ptr (w.heap.size + 1)], .int .i64 2, .func (.func 40) #[] #[ptr w.heap.size, ptr (w.heap.size + 1)], .int .i64 200, .func (.func 42) #[] #[ptr w.heap.size], .int .i64 3] 69)) = V := ⟨_, rfl⟩
    rw [hV] at hom hbv hgk0 ⊢
    have HOM := Aside0.mk hom
    have HGK := Aside0.mk hgk0
    have HBV := Aside0.mk hbv
    clear hV hom hbv sz1 sz2 hgk0
    go_loopg [18] 3 (fun gk s18 W => ∃ k : Nat, k ≤ 2 ∧ 2 - k ≤ gk ∧ s18 = .int .i64 k ∧ Aside0 (Below V.heap.size V W))
    case atStart => exact ⟨0, by omega, by omega, rfl, ⟨Below.refl _ _⟩⟩
    case round =>
      obtain ⟨k, hk3, hgk, rfl, HBW⟩ := hrel
      have hi0 := idx0
      have hi1 := idx1
      have hi2 := idx2
      have HOW := Aside0.mk (HOM.out.below HBW.out HOM.out.lt)
      by_cases e0 : k = 0
      · subst e0
        go_wp2_with fail
        refine (HG.out _ (HOW.out.below (below_alloc (Below.refl _ _) _) HOW.out.lt)).mono ?_
        rintro e' w' ⟨rfl, rfl⟩
        have HB2 := Aside0.mk (below_alloc HBW.out (.cells #[.func (.func 39) #[] #[ptr (w.heap.size + 1)], .int .i64 2] 68))
        go_wp2_with fail
        go_roundg (gk - 1)
        case measure => omega
        case rel => exact ⟨1, by omega, by omega, rfl, HB2⟩
      by_cases e1 : k = 1
      · subst e1
        go_wp2_with fail
        have hb1 := below_alloc HBW.out (.cells #[.func (.func 40) #[] #[ptr w.heap.size, ptr (w.heap.size + 1)], .int .i64 200] 68)
        refine (HT.out _ (HBV.out.trans (hb1.mono HBV.out.size)) (pw_cell_below (HBW.out.trans ((below_alloc (Below.refl _ _) _).mono HBW.out.size)) HGK.out) (HOW.out.below (below_alloc (Below.refl _ _) _) HOW.out.lt)).mono ?_
        rintro e' w2 ⟨rfl, hb2⟩
        have HB2 := Aside0.mk (hb1.trans (hb2.mono hb1.size))
        clear hb1 hb2
        go_wp2_with fail
        go_roundg (gk - 1)
        case measure => omega
        case rel => exact ⟨2, by omega, by omega, rfl, HB2⟩
      by_cases e2 : k = 2
      · subst e2
        go_wp2_with fail
        have hb1 := below_alloc HBW.out (.cells #[.func (.func 42) #[] #[ptr w.heap.size], .int .i64 3] 68)
        refine (HFU.out _ (HBV.out.trans (hb1.mono HBV.out.size)) (pw_cell_below (HBW.out.trans ((below_alloc (Below.refl _ _) _).mono HBW.out.size)) HGK.out)).mono ?_
        rintro e' w' ⟨rfl, rfl⟩
        have HB2 := Aside0.mk hb1
        clear hb1
        go_wp2_with fail
        go_step3
        refine ⟨rfl, ?_⟩
        (repeat apply Exists.intro)
        refine ⟨by rw [he], HBV.out.trans (HB2.out.mono HBV.out.size)⟩
      exact (show False by omega).elim
  · rintro a' w' ⟨u0, u1, u2, u3, u5, u6, u7, u8, u9, u10, u11, u12, u13, u14, u15, u16, u17, u18, u19, u20, u21, u22, u23, u24, u25, u26, u27, u28, u29, u30, u31, u32, u33, u34, u35, u36, u37, rfl, hb⟩
    go_wp2_with fail
    first | go_step3 | skip
    go_wp2_with fail
    simp only [Exit.jump]
    go_ret
    exact ⟨rfl, hb⟩
end Go.Proofs.Ytndjhnipahkclaa.Ke
