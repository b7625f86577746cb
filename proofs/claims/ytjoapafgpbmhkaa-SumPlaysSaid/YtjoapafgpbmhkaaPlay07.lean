/- Calls of sums under way, as they came in; the state of two sums. -/
import Derived.Test.YtjoapafgpbmhkaaLawsL07
import Derived.Test.YtjoapafgpbmhkaaParts
import Derived.Test.YtjoapafgpbmhkaaOpen07
set_option linter.unusedSimpArgs false
set_option linter.unusedVariables false
namespace Go.Proofs.Ytjoapafgpbmhkaa.Sum
open Go.RowKit Go.Proofs.YtjoapafgpbmhkaaW.PrintWords Go.Proofs.YtjoapafgpbmhkaaW.PrintLast Go.Proofs.YtjoapafgpbmhkaaW.PrintMore Go.Proofs.Ytjoapafgpbmhkaa.Lex Go.Proofs.Ytjoapafgpbmhkaa.Lib Go.Proofs.Ytjoapafgpbmhkaa.High
abbrev AC : Kd (Int × Bool × List Int) := Kd.pair (Kd.int .i64) (Kd.pair Kd.bool KBB)
abbrev Act0 : Int × Bool × List Int := (0, false, [])
theorem C_act {w : World} {A : Option Addr} {n : Nat} {xs : List (Int × Bool × List Int)} (h : Kd.C AC w A n xs) (k : Nat) (hk : k < n) :
    ∃ b o A0 c0, A = some ⟨b, o, none⟩ ∧ w.cell? ⟨b, o + k * 3, none⟩ = some (.int .i64 (xs.getD k Act0).1) ∧ w.cell? ⟨b, o + k * 3 + 1, none⟩ = some (.bool (xs.getD k Act0).2.1) ∧ w.cell? ⟨b, o + k * 3 + 2, none⟩ = some (.slice A0 (xs.getD k Act0).2.2.length c0) ∧ (xs.getD k Act0).2.2.length ≤ c0 ∧ Kd.C KB w A0 (xs.getD k Act0).2.2.length (xs.getD k Act0).2.2 := by
  obtain ⟨ad, c, e, _, hK, hc0⟩ := Kd.C_get h Act0 k (by omega) (by omega)
  obtain ⟨x0, x1, rfl, h0, x2, x3, rfl, h2, A0, c0, rfl, l0, g0⟩ := hK
  have h0' : x0 = [.int .i64 (xs.getD k Act0).1] := h0
  have h2' : x2 = [.bool (xs.getD k Act0).2.1] := h2
  subst h0' h2'
  have hq := hc0 0 _ rfl
  have hq1 := hc0 1 _ rfl
  have hq2 := hc0 2 _ rfl
  obtain ⟨b, o, e1⟩ := C_addr (by show 0 < 3; decide) h (by omega)
  rw [e] at e1
  injection e1 with e1
  subst e1
  rw [add_none] at hq hq1 hq2
  exact ⟨b, o, A0, c0, e, hq, hq1, hq2, l0, g0⟩
theorem write_nil (A : Option Addr) (n c : Nat) (w : World) : Calls Try.prog 27 #[.pointer none, .slice A n c] w fun e w' => e = .returned (.int .i64 1) ∧ Below w.heap.size w w' := by
  refine (callsIn_wide (n := 5)).1 ?_
  refine callsIn_of_wp_marks Try.func27 rfl trivial ?_ rfl
  simp only [Try.ntmps27, List.size_toArray, List.length_cons, List.length_nil, Nat.reduceAdd, Nat.reduceSub, Array.replicate_succ, Array.replicate_zero, List.push_toArray, List.append_toArray, List.nil_append, List.cons_append]
  gi_wp2_with fail
  refine ⟨trivial, ?_⟩
  refine (callsIn_wide.2 (none_nil _)).mono ?_
  rintro e w' ⟨rfl, rfl⟩
  gi_wp2_with fail
  exact ⟨_, results_tmp rfl _ _ _, rfl, below_alloc (Below.refl _ _) _⟩
theorem aRaw_nil (w : World) : Calls Try.prog 28 #[.pointer none] w fun e w' => e = .returned (.int .u16 0) ∧ w = w' := by
  go_enter Try.func28, Try.ntmps28
  go_wp2_with fail
  refine (none_nil _).mono ?_
  rintro e w' ⟨rfl, rfl⟩
  go_wp2_with fail
  go_ret
  exact ⟨rfl, rfl⟩
theorem aLen_nil (w : World) : Calls Try.prog 29 #[.pointer none] w fun e w' => e = .returned (.int .i64 0) ∧ w = w' := by
  go_enter Try.func29, Try.ntmps29
  go_wp2_with fail
  refine (none_nil _).mono ?_
  rintro e w' ⟨rfl, rfl⟩
  go_wp2_with fail
  go_ret
  exact ⟨rfl, rfl⟩
theorem aCopy_nil (w : World) : Calls Try.prog 30 #[.pointer none] w fun e w' => e = .returned (.pointer none) ∧ w = w' := by
  go_enter Try.func30, Try.ntmps30
  go_wp2_with fail
  refine (none_nil _).mono ?_
  rintro e w' ⟨rfl, rfl⟩
  go_wp2_with fail
  go_ret
  exact ⟨rfl, rfl⟩
theorem aWrite' (p : Nat) (ys : List Int) (A : Option Addr) (c : Nat) (xs : List Int) (w : World) (h : Ad p w (rawS ys) ys.length) (hx : Kd.C KB w A xs.length xs) (hb : Byt xs) (hA : 0 < xs.length → ∀ a, A = some a → a.block ≠ p) (hk : ys.length ≤ 1099511627776) (hl : xs.length ≤ 1099511627776) :
    Calls Try.prog 27 #[ptr p, .slice A xs.length c] w fun e w' => e = .returned (.int .i64 0) ∧ Ad p w' (rawS (ys ++ xs)) (ys ++ xs).length ∧ But w.heap.size (at1 p) w w' := by
  have h2 := aWrite p _ _ A c xs w h (rawS_le _) hx hb hA hk hl
  rw [rawS_snoc] at h2
  rw [List.length_append]
  exact h2
/-- what holds the bytes that were written -/
abbrev Qk (p0 p1 bl ba : Nat) (w : World) : Nat → Prop := fun k => k < w.heap.size ∧ k ≠ p0 ∧ k ≠ p1 ∧ k ≠ bl ∧ k ≠ ba
/-- Two sums under way, what was written to each. -/
structure St (B bl ba p0 p1 : Nat) (y0 y1 : List Int) (w : World) : Prop where
  base : B ≤ p0 ∧ B ≤ p1 ∧ B ≤ bl ∧ B ≤ ba
  apart : p0 ≠ p1 ∧ bl ≠ p0 ∧ bl ≠ p1 ∧ ba ≠ p0 ∧ ba ≠ p1 ∧ bl ≠ ba
  a0 : Ad p0 w (rawS y0) y0.length
  a1 : Ad p1 w (rawS y1) y1.length
  l : Ob bl w [ptr p0, ptr p1]
  all : ∃ v0 v1, Ob ba w [v0, v1] ∧ Sl (Qk p0 p1 bl ba w) w v0 y0 ∧ Sl (Qk p0 p1 bl ba w) w v1 y1
  byt : Byt y0 ∧ Byt y1
theorem sl_grow {p0 p1 bl ba : Nat} {w w' : World} {v : Value} {xs : List Int} (h : Sl (Qk p0 p1 bl ba w) w v xs) (hs : w.heap.size ≤ w'.heap.size) (hm : ∀ k, Qk p0 p1 bl ba w k → w'.heap[k]? = w.heap[k]?) : Sl (Qk p0 p1 bl ba w') w' v xs :=
  (Sl.same h hm).mono (fun k hk => ⟨Nat.lt_of_lt_of_le hk.1 hs, hk.2⟩)
theorem ob_but {b : Nat} {w w' : World} {v : Value} {xs : List Int} {S : Nat → Prop} (h : OB b w v xs) (hb : But w.heap.size S w w') (hS : ∀ k, b ≤ k → ¬ S k) : OB b w' v xs :=
  Kd.R_mono (Kd.R_step (Kd.R_bound h) (fun k hk hlt => hb.block k hlt (hS k hk.2.1))) (fun _ _ => trivial)
section
variable {B bl ba p0 p1 : Nat} {y0 y1 : List Int} {w w' : World}
theorem St.below (h : St B bl ba p0 p1 y0 y1 w) (hb : Below w.heap.size w w') : St B bl ba p0 p1 y0 y1 w' := by
  obtain ⟨v0, v1, h1, h2, h3⟩ := h.all
  exact ⟨h.base, h.apart, h.a0.below hb h.a0.lt, h.a1.below hb h.a1.lt, h.l.below hb h.l.lt, ⟨v0, v1, h1.below hb h1.lt, sl_grow h2 hb.size (fun k hk => hb.block k hk.1), sl_grow h3 hb.size (fun k hk => hb.block k hk.1)⟩, h.byt⟩
theorem St.upd0 {v1 : Value} {z : List Int} (h : St B bl ba p0 p1 y0 y1 w) (hS1 : Sl (Qk p0 p1 bl ba w) w v1 y1) (hbt : But w.heap.size (fun k => k = p0 ∨ k = ba) w w') (ha : Ad p0 w' (rawS z) z.length) (v : Value) (hOb : Ob ba w' [v, v1]) (hv : Sl (Qk p0 p1 bl ba w') w' v z) (hz : Byt z) : St B bl ba p0 p1 z y1 w' := by
  obtain ⟨e1, e2, e3, e4, e5, e6⟩ := h.apart
  exact ⟨h.base, h.apart, ha, h.a1.but hbt h.a1.lt (fun e => e.elim (fun e => e1 e.symm) (fun e => e5 e.symm)), h.l.but hbt h.l.lt (fun e => e.elim e2 e6),
    ⟨v, v1, hOb, hv, sl_grow hS1 hbt.size (fun k hk => hbt.block k hk.1 (fun e => e.elim hk.2.1 hk.2.2.2.2))⟩, hz, h.byt.2⟩
theorem St.upd1 {v0 : Value} {z : List Int} (h : St B bl ba p0 p1 y0 y1 w) (hS0 : Sl (Qk p0 p1 bl ba w) w v0 y0) (hbt : But w.heap.size (fun k => k = p1 ∨ k = ba) w w') (ha : Ad p1 w' (rawS z) z.length) (v : Value) (hOb : Ob ba w' [v0, v]) (hv : Sl (Qk p0 p1 bl ba w') w' v z) (hz : Byt z) : St B bl ba p0 p1 y0 z w' := by
  obtain ⟨e1, e2, e3, e4, e5, e6⟩ := h.apart
  exact ⟨h.base, h.apart, h.a0.but hbt h.a0.lt (fun e => e.elim e1 (fun e => e4 e.symm)), ha, h.l.but hbt h.l.lt (fun e => e.elim e3 e6),
    ⟨v0, v, hOb, sl_grow hS0 hbt.size (fun k hk => hbt.block k hk.1 (fun e => e.elim hk.2.2.1 hk.2.2.2.2)), hv⟩, h.byt.1, hz⟩
theorem St.copy0 {v0 v1 : Value} (h : St B bl ba p0 p1 y0 y1 w) (hb0 : Ob ba w [v0, v1]) (hS1 : Sl (Qk p0 p1 bl ba w) w v1 y1) (q : Nat) (hq : w.heap.size ≤ q) (hbt : But w.heap.size (fun k => k = bl ∨ k = ba) w w') (ha : Ad q w' (rawS y1) y1.length) (hl : Ob bl w' [ptr q, ptr p1]) (hOb : Ob ba w' [v1, v1]) : St B bl ba q p1 y1 y1 w' := by
  obtain ⟨e1, e2, e3, e4, e5, e6⟩ := h.apart
  obtain ⟨f1, f2, f3, f4⟩ := h.base
  have l0 := h.a0.lt
  have l1 := h.a1.lt
  have l2 := h.l.lt
  have l3 := hb0.lt
  have hs := sl_grow hS1 hbt.size (fun k hk => hbt.block k hk.1 (fun e => e.elim hk.2.2.2.1 hk.2.2.2.2))
  have hsq : Sl (Qk q p1 bl ba w') w' v1 y1 := by
    have h2 : Sl (Qk p0 p1 bl ba w) w' v1 y1 := Sl.same hS1 (fun k hk => hbt.block k hk.1 (fun e => e.elim hk.2.2.2.1 hk.2.2.2.2))
    exact h2.mono (fun k hk => ⟨Nat.lt_of_lt_of_le hk.1 hbt.size, by have := hk.1; omega, hk.2.2⟩)
  exact ⟨⟨by omega, f2, f3, f4⟩, ⟨by omega, by omega, e3, by omega, e5, e6⟩, ha, h.a1.but hbt l1 (fun e => e.elim (fun e => e3 e.symm) (fun e => e5 e.symm)), hl, ⟨v1, v1, hOb, hsq, hsq⟩, h.byt.2, h.byt.2⟩
theorem St.copy1 {v0 v1 : Value} (h : St B bl ba p0 p1 y0 y1 w) (hb0 : Ob ba w [v0, v1]) (hS0 : Sl (Qk p0 p1 bl ba w) w v0 y0) (q : Nat) (hq : w.heap.size ≤ q) (hbt : But w.heap.size (fun k => k = bl ∨ k = ba) w w') (ha : Ad q w' (rawS y0) y0.length) (hl : Ob bl w' [ptr p0, ptr q]) (hOb : Ob ba w' [v0, v0]) : St B bl ba p0 q y0 y0 w' := by
  obtain ⟨e1, e2, e3, e4, e5, e6⟩ := h.apart
  obtain ⟨f1, f2, f3, f4⟩ := h.base
  have l0 := h.a0.lt
  have l1 := h.a1.lt
  have l2 := h.l.lt
  have l3 := hb0.lt
  have hsq : Sl (Qk p0 q bl ba w') w' v0 y0 := by
    have h2 : Sl (Qk p0 p1 bl ba w) w' v0 y0 := Sl.same hS0 (fun k hk => hbt.block k hk.1 (fun e => e.elim hk.2.2.2.1 hk.2.2.2.2))
    exact h2.mono (fun k hk => ⟨Nat.lt_of_lt_of_le hk.1 hbt.size, hk.2.1, by have := hk.1; omega, hk.2.2.2⟩)
  exact ⟨⟨f1, by omega, f3, f4⟩, ⟨by omega, e2, by omega, e4, by omega, e6⟩, h.a0.but hbt l0 (fun e => e.elim (fun e => e2 e.symm) (fun e => e4 e.symm)), ha, hl, ⟨v0, v0, hOb, hsq, hsq⟩, h.byt.1, h.byt.1⟩
end
theorem St.start {w w1 w2 : World} (h1 : Ad w.heap.size w1 0 0) (b1 : Below w.heap.size w w1) (h2 : Ad w1.heap.size w2 0 0) (b2 : Below w1.heap.size w1 w2) (t t' : Nat) :
    St w.heap.size w2.heap.size (w2.heap.size + 1) w.heap.size w1.heap.size [] [] ((w2.alloc (.cells #[ptr w.heap.size, ptr w1.heap.size] t)).alloc (.cells #[.slice none 0 0, .slice none 0 0] t')) ∧ Below w.heap.size w ((w2.alloc (.cells #[ptr w.heap.size, ptr w1.heap.size] t)).alloc (.cells #[.slice none 0 0, .slice none 0 0] t')) := by
  have l1 := h1.lt
  have l2 := h2.lt
  have s1 := b2.size
  obtain ⟨u, hu⟩ : ∃ u, u = w2.alloc (.cells #[ptr w.heap.size, ptr w1.heap.size] t) := ⟨_, rfl⟩
  have su : u.heap.size = w2.heap.size + 1 := by rw [hu]; simp
  have ou : Ob w2.heap.size u [ptr w.heap.size, ptr w1.heap.size] := by rw [hu]; exact Ob.new w2 _ _ rfl t
  have bu : Below w2.heap.size w2 u := by rw [hu]; exact below_alloc (Below.refl _ _) _
  have bv : Below u.heap.size u (u.alloc (.cells #[.slice none 0 0, .slice none 0 0] t')) := below_alloc (Below.refl _ _) _
  have ov : Ob (w2.heap.size + 1) (u.alloc (.cells #[.slice none 0 0, .slice none 0 0] t')) [.slice none 0 0, .slice none 0 0] := by rw [← su]; exact Ob.new u _ _ rfl t'
  rw [← hu]
  refine ⟨⟨⟨by omega, by omega, by omega, by omega⟩, ⟨by omega, by omega, by omega, by omega, by omega, by omega⟩, ?_, ?_, ou.below bv (by omega), ⟨_, _, ov, Sl.nil _ _, Sl.nil _ _⟩, (fun x hx => by cases hx), (fun x hx => by cases hx)⟩, ?_⟩
  · exact ((h1.below b2 (by omega)).below bu (by omega)).below bv (by omega)
  · exact (h2.below bu (by omega)).below bv (by omega)
  · exact ((b1.trans (b2.mono (by omega))).trans (bu.mono (by omega))).trans (bv.mono (by omega))
theorem opens_act : Row.Opens AC 57 (fun x => (Lit.int .i64 x.1).wf = true ∧ True ∧ ∀ n ∈ x.2.2, (Lit.int .u8 n).wf = true) :=
  Row.opens_struct (l := [(0, 3), (1, 4), (2, 23)]) Try.underlying57 (by rfl) (by kernel_rfl)
    (Row.opensF_cons (Row.opens_int Try.underlying3 (by kernel_rfl)) (Row.opensF_cons (Row.opens_bool Try.underlying4 (by kernel_rfl)) (Row.opensF_one Row.opens_bytes 2)))
theorem opens_acts : Row.Opens (Kd.slice 57 AC) 53 (fun xs => ∀ x ∈ xs, (Lit.int .i64 x.1).wf = true ∧ True ∧ ∀ n ∈ x.2.2, (Lit.int .u8 n).wf = true) :=
  Row.opens_slice Try.underlying53 (by kernel_rfl) opens_act
end Go.Proofs.Ytjoapafgpbmhkaa.Sum
