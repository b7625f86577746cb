/- Contract of the reference's Head. -/
import Derived.Test.YtjoapafgpbmhkaaWorks07
import Derived.Test.YtjoapafgpbmhkaaRef07
set_option linter.unusedSimpArgs false
set_option linter.unusedVariables false
namespace Go.Proofs.Ytjoapafgpbmhkaa.Sum
open Go.RowKit Go.Proofs.YtjoapafgpbmhkaaW.PrintWords Go.Proofs.YtjoapafgpbmhkaaW.PrintLast Go.Proofs.YtjoapafgpbmhkaaW.PrintMore Go.Proofs.Ytjoapafgpbmhkaa.Lex Go.Proofs.Ytjoapafgpbmhkaa.Lib Go.Proofs.Ytjoapafgpbmhkaa.High

set_option maxHeartbeats 4000000 in
theorem rHead (a b n : Nat) (w : World) (ha : a ≤ 4294967295) (hb : b ≤ 4294967295) (hn : n ≤ 65535) : Calls Try.prog 19 #[.int .u32 a, .int .u32 b, .int .i64 n] w fun e w' => ∃ v, e = .returned v ∧ OB w.heap.size w' v (headOf a b n) ∧ Below w.heap.size w w' := by
  go_enter Try.func19, Try.ntmps19
  go_wp2_with fail
  go_loopg [7, 8] 4 (fun gk s7 s8 w' => ∃ k : Nat, k ≤ 4 ∧ 4 - k ≤ gk ∧ s8 = .int .i64 (3 - (k : Int)) ∧ Aside0 (OB w.heap.size w' s7 ((high4 a).take k)) ∧ Aside0 (Below w.heap.size w w'))
  case atStart => exact ⟨0, by omega, by omega, rfl, ⟨OB.nil _ _⟩, ⟨Below.refl _ _⟩⟩
  case round =>
    obtain ⟨k, hk, hgk, rfl, HO, HB⟩ := hrel
    have hs := HB.out.size
    rcases (by omega : k = 0 ∨ k = 1 ∨ k = 2 ∨ k = 3 ∨ k = 4) with rfl | rfl | rfl | rfl | rfl
    · go_wp2_with ((with_reducible refine gate_builtin (b := .append) (xs := #[.tmp 14, .tmp 22]) rfl ?_); refine ap_row w.heap.size _ _ rfl rfl (HO.out.below (below_alloc (Below.refl _ _) _)) (OB.lit (b := w.heap.size) wr [(a : Int) / 16777216 % 256] [.int .u8 ((a : Int) / 16777216 % 256)] rfl 1 rfl hs (by simp)).readsAt rfl rfl (by simp; omega) (by simp [high4]) ?_; intro v1 w1 ho hbw; have HO1 := Aside0.mk ho; have HB1 := Aside0.mk (HB.out.trans (((below_alloc (Below.refl wr.heap.size wr) _).mono hs).trans hbw)); clear ho hbw)
      go_roundg (gk - 1)
      case measure => omega
      case rel => exact ⟨1, by omega, by omega, by simp, ⟨by simpa [high4] using HO1.out⟩, HB1⟩
    · go_wp2_with ((with_reducible refine gate_builtin (b := .append) (xs := #[.tmp 14, .tmp 22]) rfl ?_); refine ap_row w.heap.size _ _ rfl rfl (HO.out.below (below_alloc (Below.refl _ _) _)) (OB.lit (b := w.heap.size) wr [(a : Int) / 65536 % 256] [.int .u8 ((a : Int) / 65536 % 256)] rfl 1 rfl hs (by simp)).readsAt rfl rfl (by simp; omega) (by simp [high4]) ?_; intro v1 w1 ho hbw; have HO1 := Aside0.mk ho; have HB1 := Aside0.mk (HB.out.trans (((below_alloc (Below.refl wr.heap.size wr) _).mono hs).trans hbw)); clear ho hbw)
      go_roundg (gk - 1)
      case measure => omega
      case rel => exact ⟨2, by omega, by omega, by simp, ⟨by simpa [high4] using HO1.out⟩, HB1⟩
    · go_wp2_with ((with_reducible refine gate_builtin (b := .append) (xs := #[.tmp 14, .tmp 22]) rfl ?_); refine ap_row w.heap.size _ _ rfl rfl (HO.out.below (below_alloc (Below.refl _ _) _)) (OB.lit (b := w.heap.size) wr [(a : Int) / 256 % 256] [.int .u8 ((a : Int) / 256 % 256)] rfl 1 rfl hs (by simp)).readsAt rfl rfl (by simp; omega) (by simp [high4]) ?_; intro v1 w1 ho hbw; have HO1 := Aside0.mk ho; have HB1 := Aside0.mk (HB.out.trans (((below_alloc (Below.refl wr.heap.size wr) _).mono hs).trans hbw)); clear ho hbw)
      go_roundg (gk - 1)
      case measure => omega
      case rel => exact ⟨3, by omega, by omega, by simp, ⟨by simpa [high4] using HO1.out⟩, HB1⟩
    · go_wp2_with ((with_reducible refine gate_builtin (b := .append) (xs := #[.tmp 14, .tmp 22]) rfl ?_); refine ap_row w.heap.size _ _ rfl rfl (HO.out.below (below_alloc (Below.refl _ _) _)) (OB.lit (b := w.heap.size) wr [(a : Int) % 256] [.int .u8 ((a : Int) % 256)] rfl 1 rfl hs (by simp)).readsAt rfl rfl (by simp; omega) (by simp [high4]) ?_; intro v1 w1 ho hbw; have HO1 := Aside0.mk ho; have HB1 := Aside0.mk (HB.out.trans (((below_alloc (Below.refl wr.heap.size wr) _).mono hs).trans hbw)); clear ho hbw)
      go_roundg (gk - 1)
      case measure => omega
      case rel => exact ⟨4, by omega, by omega, by simp, ⟨by simpa [high4] using HO1.out⟩, HB1⟩
    · have HO5 : Aside0 (OB w.heap.size wr _ (high4 a)) := ⟨by simpa [high4] using HO.out⟩
      have HB5 := HB
      clear HO HB hs
      go_wp2_with fail
      go_loopg [7, 9] 4 (fun gk s7 s9 w' => ∃ k : Nat, k ≤ 4 ∧ 4 - k ≤ gk ∧ s9 = .int .i64 (3 - (k : Int)) ∧ Aside0 (OB w.heap.size w' s7 (high4 a ++ (high4 b).take k)) ∧ Aside0 (Below w.heap.size w w'))
      case atStart => exact ⟨0, by omega, by omega, rfl, ⟨by simpa using HO5.out⟩, HB5⟩
      case round =>
        obtain ⟨k, hk, hgk, rfl, HO, HB⟩ := hrel
        have hs := HB.out.size
        rcases (by omega : k = 0 ∨ k = 1 ∨ k = 2 ∨ k = 3 ∨ k = 4) with rfl | rfl | rfl | rfl | rfl
        · go_wp2_with ((with_reducible refine gate_builtin (b := .append) (xs := #[.tmp 28, .tmp 36]) rfl ?_); refine ap_row w.heap.size _ _ rfl rfl (HO.out.below (below_alloc (Below.refl _ _) _)) (OB.lit (b := w.heap.size) wr [(b : Int) / 16777216 % 256] [.int .u8 ((b : Int) / 16777216 % 256)] rfl 1 rfl hs (by simp)).readsAt rfl rfl (by simp; omega) (by simp [high4]) ?_; intro v1 w1 ho hbw; have HO1 := Aside0.mk ho; have HB1 := Aside0.mk (HB.out.trans (((below_alloc (Below.refl wr.heap.size wr) _).mono hs).trans hbw)); clear ho hbw)
          go_roundg (gk - 1)
          case measure => omega
          case rel => exact ⟨1, by omega, by omega, by simp, ⟨by simpa [high4] using HO1.out⟩, HB1⟩
        · go_wp2_with ((with_reducible refine gate_builtin (b := .append) (xs := #[.tmp 28, .tmp 36]) rfl ?_); refine ap_row w.heap.size _ _ rfl rfl (HO.out.below (below_alloc (Below.refl _ _) _)) (OB.lit (b := w.heap.size) wr [(b : Int) / 65536 % 256] [.int .u8 ((b : Int) / 65536 % 256)] rfl 1 rfl hs (by simp)).readsAt rfl rfl (by simp; omega) (by simp [high4]) ?_; intro v1 w1 ho hbw; have HO1 := Aside0.mk ho; have HB1 := Aside0.mk (HB.out.trans (((below_alloc (Below.refl wr.heap.size wr) _).mono hs).trans hbw)); clear ho hbw)
          go_roundg (gk - 1)
          case measure => omega
          case rel => exact ⟨2, by omega, by omega, by simp, ⟨by simpa [high4] using HO1.out⟩, HB1⟩
        · go_wp2_with ((with_reducible refine gate_builtin (b := .append) (xs := #[.tmp 28, .tmp 36]) rfl ?_); refine ap_row w.heap.size _ _ rfl rfl (HO.out.below (below_alloc (Below.refl _ _) _)) (OB.lit (b := w.heap.size) wr [(b : Int) / 256 % 256] [.int .u8 ((b : Int) / 256 % 256)] rfl 1 rfl hs (by simp)).readsAt rfl rfl (by simp; omega) (by simp [high4]) ?_; intro v1 w1 ho hbw; have HO1 := Aside0.mk ho; have HB1 := Aside0.mk (HB.out.trans (((below_alloc (Below.refl wr.heap.size wr) _).mono hs).trans hbw)); clear ho hbw)
          go_roundg (gk - 1)
          case measure => omega
          case rel => exact ⟨3, by omega, by omega, by simp, ⟨by simpa [high4] using HO1.out⟩, HB1⟩
        · go_wp2_with ((with_reducible refine gate_builtin (b := .append) (xs := #[.tmp 28, .tmp 36]) rfl ?_); refine ap_row w.heap.size _ _ rfl rfl (HO.out.below (below_alloc (Below.refl _ _) _)) (OB.lit (b := w.heap.size) wr [(b : Int) % 256] [.int .u8 ((b : Int) % 256)] rfl 1 rfl hs (by simp)).readsAt rfl rfl (by simp; omega) (by simp [high4]) ?_; intro v1 w1 ho hbw; have HO1 := Aside0.mk ho; have HB1 := Aside0.mk (HB.out.trans (((below_alloc (Below.refl wr.heap.size wr) _).mono hs).trans hbw)); clear ho hbw)
          go_roundg (gk - 1)
          case measure => omega
          case rel => exact ⟨4, by omega, by omega, by simp, ⟨by simpa [high4] using HO1.out⟩, HB1⟩
        · have HX := Aside0.mk (OB.lit (b := w.heap.size) wr [0, 6, (n : Int) / 256, (n : Int) % 256] [.int .u8 0, .int .u8 6, .int .u8 ((n : Int) / 256), .int .u8 ((n : Int) % 256)] rfl 4 rfl hs (by simp)).readsAt
          go_wp2_with ((with_reducible refine gate_builtin (b := .append) (xs := #[.tmp 38, .tmp 45]) rfl ?_); refine ap_row w.heap.size _ _ rfl rfl (HO.out.below (below_alloc (Below.refl _ _) _)) HX.out rfl rfl (by simp; omega) (by simp [high4]) ?_; intro v1 w1 ho hbw; have HO1 := Aside0.mk ho; have HB1 := Aside0.mk (HB.out.trans (((below_alloc (Below.refl wr.heap.size wr) _).mono hs).trans hbw)); clear ho hbw)
          go_ret
          have e1 : (n : Int) / 256 % 256 = (n : Int) / 256 := by omega
          exact ⟨_, rfl, by simpa [high4, headOf, high2, e1] using HO1.out, HB1.out⟩
end Go.Proofs.Ytjoapafgpbmhkaa.Sum
