/- Keys: Add. -/
import Derived.Test.YtndjhnipahkclaaKe8
import Derived.ScopeJumps
import Derived.WalkMore
set_option linter.unusedSimpArgs false
set_option linter.unusedVariables false
namespace Go.Proofs.Ytndjhnipahkclaa.Ke
open Go.RowKit Go.Proofs.YtndjhnipahkclaaW.PrintWords Go.Proofs.YtndjhnipahkclaaW.PrintLast Go.Proofs.YtndjhnipahkclaaW.PrintMore Go.Proofs.Ytndjhnipahkclaa.PKeysPlay Go.Proofs.Ytndjhnipahkclaa.Lex Go.Proofs.Ytndjhnipahkclaa.Lib
theorem twiceC (gk gm p : Nat) (A : Option Addr) (c : Nat) (l : List S36) (m : S36) (w : World) (hk : w.cell? ⟨gk, 0, none⟩ = some (ptr p)) (h0 : w.cell? ⟨p, 0, none⟩ = some (.slice A l.length c)) (hx : Kd.C k36 w A l.length l) (hm : Ob gm w (c36 m)) :
    Calls Try.prog 40 #[ptr gk, ptr gm] w fun e w' => e = .returned (.bool (l.any (twiceP m))) ∧ Below w.heap.size w w' := by
  have hz := zero36
  have HF := Aside0.mk (findC 41 #[ptr gm] (eg 41 Try.func41 (by kernel_rfl) rfl) (twiceP m) A c l w
    (fun W x hW _ => twiceT gm m x W (hm.below hW hm.lt)) hx)
  obtain ⟨y, hy⟩ : ∃ y, (l.find? (twiceP m)).getD z36 = y := ⟨_, rfl⟩
  obtain ⟨q, hq⟩ : ∃ q, l.any (twiceP m) = q := ⟨_, rfl⟩
  rw [hy, hq] at HF
  rw [hq]
  clear hx hm hy hq
  go_enter Try.func40, Try.ntmps40
  go_wp2_with fail
  refine HF.out.mono ?_
  rintro e w2 ⟨rfl, hb2⟩
  have HB := Aside0.mk (hb2.trans ((below_alloc (Below.refl w2.heap.size w2) (.cells #[.int .u32 y.f0, .int .u8 y.f1, .int .u8 y.f2, .int .i64 y.f3, .string y.f4] 36)).mono hb2.size))
  clear hb2
  go_wp2_with fail
  go_ret
  exact ⟨rfl, HB.out⟩
set_option maxHeartbeats 4000000 in
theorem addNil (x : S36) (w : World) : Calls Try.prog 19 #[.pointer none, a36 x] w fun e w' => e = .returned (.int .i64 1) ∧ Below w.heap.size w w' := by
  go_enter Try.func19, Try.ntmps19
  go_wp2_with fail
  obtain ⟨e, he⟩ : ∃ e : Int, e = 1 := ⟨_, rfl⟩
  refine wp_scope_jumps 0 (fun a' w' => ∃ u0 u1 u2 u3 u5 u6 u7 u8 u9 u10 u11 u12 u13 u14 u15 u16 u17 u18 u19 u20 u21 u22 u23 u24 u25 u26 u27 u28 u29 u30 u31 u32 u33 u34 u35 u36 u37 : Value, a' = { tmps := #[u0, u1, u2, u3, .int .i64 e, u5, u6, u7, u8, u9, u10, u11, u12, u13, u14, u15, u16, u17, u18, u19, u20, u21, u22, u23, u24, u25, u26, u27, u28, u29, u30, u31, u32, u33, u34, u35, u36, u37], defers := [] } ∧ Below w.heap.size w w') (fun _ _ => 0) rfl ?_ ?_
  · go_wp2_with fail
    refine (none_nil _).mono ?_
    rintro e' w' ⟨rfl, rfl⟩
    go_wp2_with fail
    go_step3
    refine ⟨rfl, ?_⟩
    (repeat apply Exists.intro)
    refine ⟨by rw [he], below_alloc (below_alloc (below_alloc (Below.refl _ _) _) _) _⟩
  · rintro a' w' ⟨u0, u1, u2, u3, u5, u6, u7, u8, u9, u10, u11, u12, u13, u14, u15, u16, u17, u18, u19, u20, u21, u22, u23, u24, u25, u26, u27, u28, u29, u30, u31, u32, u33, u34, u35, u36, u37, rfl, hb⟩
    go_wp2_with fail
    first | go_step3 | skip
    go_wp2_with fail
    simp only [Exit.jump]
    go_ret
    exact ⟨rfl, hb⟩
end Go.Proofs.Ytndjhnipahkclaa.Ke
