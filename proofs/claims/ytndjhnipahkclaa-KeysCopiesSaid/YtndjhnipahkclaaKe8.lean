/- Keys: what Add asks. -/
import Derived.Test.YtndjhnipahkclaaKe7
set_option linter.unusedSimpArgs false
set_option linter.unusedVariables false
namespace Go.Proofs.Ytndjhnipahkclaa.Ke
open Go.RowKit Go.Proofs.YtndjhnipahkclaaW.PrintWords Go.Proofs.YtndjhnipahkclaaW.PrintLast Go.Proofs.YtndjhnipahkclaaW.PrintMore Go.Proofs.Ytndjhnipahkclaa.PKeysPlay Go.Proofs.Ytndjhnipahkclaa.Lex Go.Proofs.Ytndjhnipahkclaa.Lib
/-- a key that may not be -/
def badP (m : S36) : Bool := (m.f3 != 1 && m.f3 != 2) || decide ((m.f4.size : Int) < 1) || decide (80 < (m.f4.size : Int))
theorem badT (g : Nat) (m : S36) (w : World) (hm : Ob g w (c36 m)) :
    Calls Try.prog 39 #[ptr g] w fun e w' => e = .returned (.bool (badP m)) ∧ w = w' := by
  have h3 : w.cell? ⟨g, 3, none⟩ = some (.int .i64 m.f3) := (hm 3 _ rfl).1
  have h4 : w.cell? ⟨g, 4, none⟩ = some (.string m.f4) := (hm 4 _ rfl).1
  clear hm
  cases e1 : (m.f3 != 1) <;> cases e2 : (m.f3 != 2) <;> cases e3 : decide ((m.f4.size : Int) < 1) <;> cases e4 : decide (80 < (m.f4.size : Int)) <;>
    (go_enter Try.func39, Try.ntmps39
     go_wp2_with fail
     go_ret
     exact ⟨by simp only [badP, e1, e2, e3, e4]; rfl, rfl⟩)
/-- a key of the same numbers -/
def twiceP (m : S36) : S36 → Bool := fun x => x.f0 == m.f0 && (x.f1 == m.f1 || x.f2 == m.f2)
theorem twiceT (g : Nat) (m x : S36) (w : World) (hm : Ob g w (c36 m)) :
    Calls Try.prog 41 (#[a36 x] ++ #[ptr g]) w fun e w' => e = .returned (.bool (twiceP m x)) ∧ Below w.heap.size w w' := by
  have HB := Aside0.mk (below_alloc (Below.refl w.heap.size w) (.cells #[.int .u32 x.f0, .int .u8 x.f1, .int .u8 x.f2, .int .i64 x.f3, .string x.f4] 36))
  have h0 := pw_cell_below HB.out (show w.cell? ⟨g, 0, none⟩ = some (.int .u32 m.f0) from (hm 0 _ rfl).1)
  have h1 := pw_cell_below HB.out (show w.cell? ⟨g, 1, none⟩ = some (.int .u8 m.f1) from (hm 1 _ rfl).1)
  have h2 := pw_cell_below HB.out (show w.cell? ⟨g, 2, none⟩ = some (.int .u8 m.f2) from (hm 2 _ rfl).1)
  clear hm
  cases e0 : (x.f0 == m.f0) <;> cases e1 : (x.f1 == m.f1) <;> cases e2 : (x.f2 == m.f2) <;>
    (go_enter Try.func41, Try.ntmps41
     go_wp2_with fail
     go_ret
     exact ⟨by simp only [twiceP, e0, e1, e2]; rfl, HB.out⟩)
/-- no more room -/
theorem fullT (g p m : Nat) (A : Option Addr) (c : Nat) (l : List S36) (w : World) (hg : w.cell? ⟨g, 0, none⟩ = some (ptr p)) (h0 : w.cell? ⟨p, 0, none⟩ = some (.slice A l.length c)) :
    Calls Try.prog 42 #[ptr g] w fun e w' => e = .returned (.bool (decide (16 ≤ (l.length : Int)))) ∧ w = w' := by
  go_enter Try.func42, Try.ntmps42
  go_wp2_with fail
  go_ret
  exact ⟨by first | rfl | simp, rfl⟩
end Go.Proofs.Ytndjhnipahkclaa.Ke
