/- Keys: Add, a key that may not be. -/
import Derived.Test.YtndjhnipahkclaaKe9
set_option linter.unusedSimpArgs false
set_option linter.unusedVariables false
namespace Go.Proofs.Ytndjhnipahkclaa.Ke
open Go.RowKit Go.Proofs.YtndjhnipahkclaaW.PrintWords Go.Proofs.YtndjhnipahkclaaW.PrintLast Go.Proofs.YtndjhnipahkclaaW.PrintMore Go.Proofs.Ytndjhnipahkclaa.PKeysPlay Go.Proofs.Ytndjhnipahkclaa.Lex Go.Proofs.Ytndjhnipahkclaa.Lib
theorem idx0 (a b c d e f : Value) (W : World) : (Instr.index 69 (.agg #[a, b, c, d, e, f]) (.int .i64 0)).run Try.prog W = .ok (.agg #[a, b]) W := by kernel_rfl
theorem idx1 (a b c d e f : Value) (W : World) : (Instr.index 69 (.agg #[a, b, c, d, e, f]) (.int .i64 1)).run Try.prog W = .ok (.agg #[c, d]) W := by kernel_rfl
theorem idx2 (a b c d e f : Value) (W : World) : (Instr.index 69 (.agg #[a, b, c, d, e, f]) (.int .i64 2)).run Try.prog W = .ok (.agg #[e, f]) W := by kernel_rfl
set_option maxHeartbeats 4000000 in
theorem addBad {S : Nat → Prop} (p m n : Nat) (A : Option Addr) (c : Nat) (l : List S36) (f : Int → Option Int) (x : S36) (w : World) (hk : KS S p m n w A c l f) (hbad : badP x = true) :
    Calls Try.prog 19 #[ptr p, a36 x] w fun e w' => e = .returned (.int .i64 2) ∧ Below w.heap.size w w' := by
  have h1 := hk.c1
  have hgm : ∀ (W : World), Ob (w.heap.size + 1) W (c36 x) → Calls Try.prog 39 #[ptr (w.heap.size + 1)] W fun e w' => e = .returned (.bool true) ∧ W = w' := fun W hW => by
    have h := badT (w.heap.size + 1) x W hW
    rw [hbad] at h
    exact h
  have HG := Aside0.mk hgm
  clear hgm hbad
  go_enter Try.func19, Try.ntmps19
  go_wp2_with fail
  obtain ⟨e, he⟩ : ∃ e : Int, e = 2 := ⟨_, rfl⟩
  refine wp_scope_jumps 0 (fun a' w' => ∃ u0 u1 u2 u3 u5 u6 u7 u8 u9 u10 u11 u12 u13 u14 u15 u16 u17 u18 u19 u20 u21 u22 u23 u24 u25 u26 u27 u28 u29 u30 u31 u32 u33 u34 u35 u36 u37 : Value, a' = { tmps := #[u0, u1, u2, u3, .int .i64 e, u5, u6, u7, u8, u9, u10, u11, u12, u13, u14, u15, u16, u17, u18, u19, u20, u21, u22, u23, u24, u25, u26, u27, u28, u29, u30, u31, u32, u33, u34, u35, u36, u37], defers := [] } ∧ Below w.heap.size w w') (fun _ _ => 0) rfl ?_ ?_
  · go_wp2_with fail
    refine (none_some (m := m) ?_).mono ?_
    · exact pw_cell_below (below_alloc (below_alloc (below_alloc (Below.refl _ _) _) _) _) h1
    rintro e' w' ⟨rfl, rfl⟩
    go_wp2_with fail
    have sz1 : (w.alloc (.cells #[ptr p] 25)).heap.size = w.heap.size + 1 := by simp
    have sz2 : ((w.alloc (.cells #[ptr p] 25)).alloc (.cells #[.int .u32 x.f0, .int .u8 x.f1, .int .u8 x.f2, .int .i64 x.f3, .string x.f4] 36)).heap.size = w.heap.size + 2 := by simp
    have hom := Ob.new (w.alloc (.cells #[ptr p] 25)) (c36 x) #[.int .u32 x.f0, .int .u8 x.f1, .int .u8 x.f2, .int .i64 x.f3, .string x.f4] rfl 36
    rw [sz1] at hom
    have hom := hom.below (below_alloc (Below.refl ((w.alloc (.cells #[ptr p] 25)).alloc (.cells #[.int .u32 x.f0, .int .u8 x.f1, .int .u8 x.f2, .int .i64 x.f3, .string x.f4] 36)).heap.size ((w.alloc (.cells #[ptr p] 25)).alloc (.cells #[.int .u32 x.f0, .int .u8 x.f1, .int .u8 x.f2, .int .i64 x.f3, .string x.f4] 36))) (.cells #[.func (.func 39) #[] #[ptr (w.heap.size + 1)], .int .i64 2, .func (.func 40) #[] #[ptr w.heap.size, ptr (w.heap.size + 1)], .int .i64 200, .func (.func 42) #[] #[ptr w.heap.size], .int .i64 3] 69)) (by rw [sz2]; omega)
    have hbv : Below w.heap.size w (((w.alloc (.cells #[ptr p] 25)).alloc (.cells #[.int .u32 x.f0, .int .u8 x.f1, .int .u8 x.f2, .int .i64 x.f3, .string x.f4] 36)).alloc (.cells #[.func (.func 39) #[] #[ptr (w.heap.size + 1)], .int .i64 2, .func (.func 40) #[] #[ptr w.heap.size, ptr (w.heap.size + 1)], .int .i64 200, .func (.func 42) #[] #[ptr w.heap.size], .int .i64 3] 69)) := below_alloc (below_alloc (below_alloc (Below.refl _ _) _) _) _
    obtain ⟨V, hV⟩ : ∃ V, (((w.alloc (.cells #[ptr p] 25)).alloc (.cells #[.int .u32 x.f0, .int .u8 x.f1, .int .u8 x.f2, .int .i64 x.f3, .string x.f4] 36)).alloc (.cells #[.func (.func 39) #[] #[ptr (w.heap.size + 1)], .int .i64 2, .func (.func 40) #[] #[ptr w.heap.size, ptr (w.heap.size + 1)], .int .i64 200, .func (.func 42) #[] #[ptr w.heap.size], .int .i64 3] 69)) = V := ⟨_, rfl⟩
    rw [hV] at hom hbv ⊢
    have HOM := Aside0.mk hom
    have HBV := Aside0.mk hbv
    clear hV hom hbv sz1 sz2
    go_loopg [18] 1 (fun gk s18 W => s18 = .int .i64 0 ∧ V = W)
    case atStart => exact ⟨rfl, rfl⟩
    case round =>
      obtain ⟨rfl, rfl⟩ := hrel
      have hi0 := idx0
      go_wp2_with fail
      refine (HG.out _ (HOM.out.below (below_alloc (Below.refl _ _) _) HOM.out.lt)).mono ?_
      rintro e' w' ⟨rfl, rfl⟩
      go_wp2_with fail
      go_step3
      refine ⟨rfl, ?_⟩
      (repeat apply Exists.intro)
      refine ⟨by rw [he], below_alloc HBV.out _⟩
  · rintro a' w' ⟨u0, u1, u2, u3, u5, u6, u7, u8, u9, u10, u11, u12, u13, u14, u15, u16, u17, u18, u19, u20, u21, u22, u23, u24, u25, u26, u27, u28, u29, u30, u31, u32, u33, u34, u35, u36, u37, rfl, hb⟩
    go_wp2_with fail
    first | go_step3 | skip
    go_wp2_with fail
    simp only [Exit.jump]
    go_ret
    exact ⟨rfl, hb⟩
end Go.Proofs.Ytndjhnipahkclaa.Ke
