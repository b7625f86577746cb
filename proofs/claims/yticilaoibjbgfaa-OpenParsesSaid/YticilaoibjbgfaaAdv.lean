/- A part of a slice: its address kept whole (advA), what it reads. -/
import Derived.Test.YticilaoibjbgfaaObj
set_option linter.unusedSimpArgs false
set_option linter.unusedVariables false
namespace Go.Proofs.Yticilaoibjbgfaa.Lib
open Go.RowKit Go.Proofs.YticilaoibjbgfaaW.PrintWords
/-- the address of a part that begins at element k, of capacity m, elements of s cells -/
def advA (A : Option Addr) (k m s : Nat) : Option Addr := if m = k then A else A.map (·.add (k * s))
theorem sliced_adv (a : Option Addr) (l h m s : Nat) : sliced a l h m s = .slice (advA a l m s) (h - l) (m - l) := rfl
theorem advA_block {A : Option Addr} {k m s : Nat} {a : Addr} (h : advA A k m s = some a) : ∃ a0, A = some a0 ∧ a0.block = a.block := by
  unfold advA at h
  split at h
  · exact ⟨a, h, rfl⟩
  · cases A with
    | none => cases h
    | some a0 =>
      refine ⟨a0, rfl, ?_⟩
      rw [← Option.some.inj h]
      show a0.block = (a0.add (k * s)).block
      unfold Addr.add
      split <;> rfl
theorem C_adv {α : Type} {d : Kd α} (hd : 0 < d.sz) {w : World} {A : Option Addr} {n c : Nat} {xs : List α} (h : Kd.C d w A n xs) (hc : n ≤ c) (lo hi : Nat) (h1 : lo ≤ hi) (h2 : hi ≤ n) {s : Nat} (hs : s = d.sz) :
    Kd.C d w (advA A lo c s) (hi - lo) ((xs.take hi).drop lo) := by
  subst hs
  have hl := h.1
  have hm := h.2.1
  refine ⟨by rw [List.length_drop, List.length_take]; omega, by omega, fun hp => ?_⟩
  obtain ⟨b, o, e⟩ := C_addr hd h (by omega)
  subst e
  refine ⟨⟨b, o + lo * d.sz, none⟩, by unfold advA; rw [if_neg (by omega), Option.map_some, add_none], fun j p hj => ?_⟩
  obtain ⟨ad, e, hC⟩ := h.2.2 (by omega)
  injection e with e
  subst e
  rw [List.getElem?_drop, List.getElem?_take] at hj
  split at hj
  · obtain ⟨cs, h3, h4, h5⟩ := hC (lo + j) p hj
    refine ⟨cs, h3, h4, fun i u hu => ?_⟩
    have := h5 i u hu
    rw [add_none] at this ⊢
    rw [show o + lo * d.sz + (j * d.sz + i) = o + ((lo + j) * d.sz + i) by rw [Nat.add_mul]; omega]
    exact this
  · simp at hj
/-- the part from lo on -/
theorem C_from {α : Type} {d : Kd α} (hd : 0 < d.sz) {w : World} {A : Option Addr} {c : Nat} {xs : List α} (h : Kd.C d w A xs.length xs) (hc : xs.length ≤ c) (lo : Nat) (h1 : lo ≤ xs.length) {s : Nat} (hs : s = d.sz) :
    Kd.C d w (advA A lo c s) (xs.length - lo) (xs.drop lo) := by
  have := C_adv hd h hc lo xs.length h1 (Nat.le_refl _) hs
  rwa [List.take_length] at this
end Go.Proofs.Yticilaoibjbgfaa.Lib
