/- Contract of word. -/
import Derived.Test.YtfeohojpjncgaaaPrim01
set_option linter.unusedSimpArgs false
set_option linter.unusedVariables false
namespace Go.Proofs.Ytfeohojpjncgaaa.Sha
open Go.RowKit Go.Proofs.YtfeohojpjncgaaaW.PrintWords Go.Proofs.YtfeohojpjncgaaaW.PrintLast Go.Proofs.YtfeohojpjncgaaaW.PrintMore Go.Proofs.Ytfeohojpjncgaaa.PSha1Plays Go.Proofs.Ytfeohojpjncgaaa.Lex Go.Proofs.Ytfeohojpjncgaaa.Lib
/-- All are bytes. -/
def Byt (xs : List Int) : Prop := ∀ x ∈ xs, 0 ≤ x ∧ x ≤ 255
theorem Byt.at {xs : List Int} (h : Byt xs) (k : Nat) : 0 ≤ xs.getD k 0 ∧ xs.getD k 0 ≤ 255 := by
  rcases Nat.lt_or_ge k xs.length with hk | hk
  · rw [List.getD_eq_getElem?_getD, List.getElem?_eq_getElem hk]
    exact h _ (List.getElem_mem hk)
  · rw [List.getD_eq_getElem?_getD, List.getElem?_eq_none hk]
    exact ⟨Int.le_refl _, by decide⟩
theorem Byt.drop {xs : List Int} (h : Byt xs) (m : Nat) : Byt (xs.drop m) := fun x hx => h x (List.mem_of_mem_drop hx)
theorem Byt.take {xs : List Int} (h : Byt xs) (m : Nat) : Byt (xs.take m) := fun x hx => h x (List.mem_of_mem_take hx)
def wp (bs : List Int) : Nat → Int
  | 0 => 0
  | n + 1 => wp bs n * 256 + bs.getD n 0
theorem wp_lt (bs : List Int) (hb : Byt bs) : ∀ n, 0 ≤ wp bs n ∧ (wp bs n < 256 ^ n)
  | 0 => ⟨Int.le_refl _, by simp [wp]⟩
  | n + 1 => by
    have h := wp_lt bs hb n
    have h2 := hb.at n
    unfold wp
    rw [Int.pow_succ]
    omega
theorem wp4 (bs : List Int) : wp bs 4 = word bs 0 := by
  show (((0 * 256 + bs.getD 0 0) * 256 + bs.getD 1 0) * 256 + bs.getD 2 0) * 256 + bs.getD 3 0 = word bs 0
  unfold word
  rw [Nat.zero_add, Nat.zero_add, Nat.zero_add]
  omega
theorem or256 (x y : Int) (hx : 0 ≤ x ∧ x ≤ 16777215) (hy : 0 ≤ y ∧ y ≤ 255) : Go.bits .or .u32 (x * 256) y = x * 256 + y :=
  bits_join .u32 32 (by decide) (fun n h0 h1 => by rw [IntKind.wrap_u32]; omega) 8 _ _ (by omega) (by omega) (by omega) (by omega) (by omega) (by omega)
set_option maxHeartbeats 1000000 in
theorem word_ (A : Option Addr) (n c : Nat) (xs : List Int) (w : World) (hx : Kd.C KB w A 4 xs) (hb : Byt xs) (hn : 4 ≤ n) (hc : n ≤ c) :
    Calls Try.prog 48 #[.slice A n c] w fun e w' => e = .returned (.int .u32 (word xs 0)) ∧ w = w' := by
  have HX := Aside0.mk hx
  have HL := Aside0.mk (fun k => wp_lt xs hb k)
  have HB := Aside0.mk hb
  have hc4 : (4 : Int) ≤ (c : Int) := by omega
  clear hx hb
  go_enter Try.func48, Try.ntmps48
  go_wp2_with fail
  go_loopg [2, 8] 4 (fun gk s2 s8 w' => ∃ k : Nat, k ≤ 4 ∧ 4 - k ≤ gk ∧ s8 = .int .i64 k ∧ s2 = .int .u32 (wp xs k) ∧ w = w')
  case atStart => exact ⟨0, by omega, by omega, rfl, rfl, rfl⟩
  case round =>
    obtain ⟨k, hk, hgk, rfl, rfl, rfl⟩ := hrel
    by_cases hlt : k < 4
    · obtain ⟨b, o, rfl, hcell⟩ := C_byte HX.out k hlt
      have h1 := HL.out k
      have h2 := HB.out.at k
      have hp : (256 : Int) ^ k ≤ 16777216 := by
        rcases (by omega : k = 0 ∨ k = 1 ∨ k = 2 ∨ k = 3) with rfl | rfl | rfl | rfl <;> decide
      have hw : wp xs (k + 1) = wp xs k * 256 + xs.getD k 0 := rfl
      obtain ⟨x, hx⟩ : ∃ x, wp xs k = x := ⟨_, rfl⟩
      obtain ⟨y, hy⟩ : ∃ x, xs.getD k 0 = x := ⟨_, rfl⟩
      rw [hx] at h1 hw
      rw [hy] at hcell h2 hw
      rw [hx]
      have hx0 : 0 ≤ x := h1.1
      have hx1 : x ≤ 16777215 := by omega
      have hy0 := h2.1
      have hy1 := h2.2
      have HO := Aside0.mk (or256 x y ⟨hx0, hx1⟩ h2)
      have HW := Aside0.mk hw
      clear h1 h2 hp hw hx hy
      go_wp2_with fail
      go_roundg (gk - 1)
      case measure => omega
      case rel =>
        refine ⟨k + 1, by omega, by omega, by go_num, ?_, rfl⟩
        rw [HW.out, ← HO.out]
    · obtain rfl : k = 4 := by omega
      rw [wp4]
      go_wp2_with fail
      go_ret
      exact ⟨rfl, rfl⟩
end Go.Proofs.Ytfeohojpjncgaaa.Sha
