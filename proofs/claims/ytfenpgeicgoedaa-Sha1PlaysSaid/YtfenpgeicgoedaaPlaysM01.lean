/- Calls of hashes under way, as they came in; the state of two hashes. · The walk of Sha1Plays. -/
import Derived.Test.YtfenpgeicgoedaaLawsC01
set_option linter.unusedSimpArgs false
set_option linter.unusedVariables false
namespace Go.Proofs.Ytfenpgeicgoedaa.Sha
open Go.RowKit Go.Proofs.YtfenpgeicgoedaaW.PrintWords Go.Proofs.YtfenpgeicgoedaaW.PrintLast Go.Proofs.YtfenpgeicgoedaaW.PrintMore Go.Proofs.Ytfenpgeicgoedaa.PSha1Plays Go.Proofs.Ytfenpgeicgoedaa.Lex Go.Proofs.Ytfenpgeicgoedaa.Lib
abbrev AC : Kd (Int × Bool × List Int) := Kd.pair (Kd.int .i64) (Kd.pair Kd.bool KBB)
abbrev Act0 : Int × Bool × List Int := (0, false, [])
theorem C_act {w : World} {A : Option Addr} {n : Nat} {xs : List (Int × Bool × List Int)} (h : Kd.C AC w A n xs) (k : Nat) (hk : k < n) :
    ∃ b o A0 c0, A = some ⟨b, o, none⟩ ∧ w.cell? ⟨b, o + k * 3, none⟩ = some (.int .i64 (xs.getD k Act0).1) ∧ w.cell? ⟨b, o + k * 3 + 1, none⟩ = some (.bool (xs.getD k Act0).2.1) ∧ w.cell? ⟨b, o + k * 3 + 2, none⟩ = some (.slice A0 (xs.getD k Act0).2.2.length c0) ∧ (xs.getD k Act0).2.2.length ≤ c0 ∧ Kd.C KB w A0 (xs.getD k Act0).2.2.length (xs.getD k Act0).2.2 := by
  obtain ⟨ad, c, e, _, hK, hc0⟩ := Kd.C_get h Act0 k (by omega) (by omega)
  obtain ⟨x0, x1, rfl, h0, x2, x3, rfl, h2, A0, c0, rfl, l0, g0⟩ := hK
  have h0' : x0 = [.int .i64 (xs.getD k Act0).1] := h0
  have h2' : x2 = [.bool (xs.getD k Act0).2.1] := h2
  subst h0' h2'
  have hq := hc0 0 _ rfl
  have hq1 := hc0 1 _ rfl
  have hq2 := hc0 2 _ rfl
  obtain ⟨b, o, e1⟩ := C_addr (by show 0 < 3; decide) h (by omega)
  rw [e] at e1
  injection e1 with e1
  subst e1
  rw [add_none] at hq hq1 hq2
  exact ⟨b, o, A0, c0, e, hq, hq1, hq2, l0, g0⟩
theorem neq20 {bx : Array Value} {xs : List Int} (h : xs.length = 20) (hb : bx = (xs.map (Value.int .u8)).toArray) (W : World) : (binOp .neq 24 (.agg bx) (.agg bx)).run Try.prog W = .ok (.bool false) W := by
  have h1 := eql20 h hb W
  rw [run_eql_struct] at h1
  rw [run_neq_struct]
  generalize (Op.equalIn 10000 24 (.agg bx) (.agg bx)).run Try.prog W = r at h1 ⊢
  cases r with
  | ok b w' =>
    simp only [Result.andThen] at h1 ⊢
    injection h1 with h1 h2
    injection h1 with h1
    subst h1 h2
    rfl
  | halt x w' => simp [Result.andThen] at h1
/-- what holds the bytes that were written -/
abbrev Qk (p0 p1 bl ba : Nat) (w : World) : Nat → Prop := fun k => k < w.heap.size ∧ k ≠ p0 ∧ k ≠ p1 ∧ k ≠ bl ∧ k ≠ ba
/-- Two hashes under way, what was written to each. -/
structure Two (B bl ba p0 p1 : Nat) (y0 y1 : List Int) (w : World) : Prop where
  base : B ≤ p0 ∧ B ≤ p1 ∧ B ≤ bl ∧ B ≤ ba
  apart : p0 ≠ p1 ∧ bl ≠ p0 ∧ bl ≠ p1 ∧ ba ≠ p0 ∧ ba ≠ p1 ∧ bl ≠ ba
  a0 : HD (Qk p0 p1 bl ba w) p0 w y0
  a1 : HD (Qk p0 p1 bl ba w) p1 w y1
  l : Ob bl w [ptr p0, ptr p1]
  all : ∃ v0 v1, Ob ba w [v0, v1] ∧ Sl (Qk p0 p1 bl ba w) w v0 y0 ∧ Sl (Qk p0 p1 bl ba w) w v1 y1
  byt : Byt y0 ∧ Byt y1
theorem sl_grow {p0 p1 bl ba : Nat} {w w' : World} {v : Value} {xs : List Int} (h : Sl (Qk p0 p1 bl ba w) w v xs) (hs : w.heap.size ≤ w'.heap.size) (hm : ∀ k, Qk p0 p1 bl ba w k → w'.heap[k]? = w.heap[k]?) : Sl (Qk p0 p1 bl ba w') w' v xs :=
  (Sl.same h hm).mono (fun k hk => ⟨Nat.lt_of_lt_of_le hk.1 hs, hk.2⟩)
theorem hd_grow {p0 p1 bl ba p : Nat} {w w' : World} {y : List Int} (h : HD (Qk p0 p1 bl ba w) p w y) (hs : w.heap.size ≤ w'.heap.size) (hp : w'.heap[p]? = w.heap[p]?) (hm : ∀ k, Qk p0 p1 bl ba w k → w'.heap[k]? = w.heap[k]?) : HD (Qk p0 p1 bl ba w') p w' y :=
  (h.same hp hm).mono (fun k hk => ⟨Nat.lt_of_lt_of_le hk.1 hs, hk.2⟩)
theorem ob_but {b : Nat} {w w' : World} {v : Value} {xs : List Int} {S : Nat → Prop} (h : OB b w v xs) (hb : But w.heap.size S w w') (hS : ∀ k, b ≤ k → ¬ S k) : OB b w' v xs :=
  Kd.R_mono (Kd.R_step (Kd.R_bound h) (fun k hk hlt => hb.block k hlt (hS k hk.2.1))) (fun _ _ => trivial)
section
variable {B bl ba p0 p1 : Nat} {y0 y1 : List Int} {w w' : World}
theorem Two.below (h : Two B bl ba p0 p1 y0 y1 w) (hb : Below w.heap.size w w') : Two B bl ba p0 p1 y0 y1 w' := by
  obtain ⟨v0, v1, h1, h2, h3⟩ := h.all
  exact ⟨h.base, h.apart, hd_grow h.a0 hb.size (hb.block _ h.a0.lt) (fun k hk => hb.block k hk.1), hd_grow h.a1 hb.size (hb.block _ h.a1.lt) (fun k hk => hb.block k hk.1), h.l.below hb h.l.lt, ⟨v0, v1, h1.below hb h1.lt, sl_grow h2 hb.size (fun k hk => hb.block k hk.1), sl_grow h3 hb.size (fun k hk => hb.block k hk.1)⟩, h.byt⟩
theorem Two.upd0 {v1 : Value} {z : List Int} (h : Two B bl ba p0 p1 y0 y1 w) (hS1 : Sl (Qk p0 p1 bl ba w) w v1 y1) (hbt : But w.heap.size (fun k => k = p0 ∨ k = ba) w w') (ha : HD (Qk p0 p1 bl ba w') p0 w' z) (v : Value) (hOb : Ob ba w' [v, v1]) (hv : Sl (Qk p0 p1 bl ba w') w' v z) (hz : Byt z) : Two B bl ba p0 p1 z y1 w' := by
  obtain ⟨e1, e2, e3, e4, e5, e6⟩ := h.apart
  exact ⟨h.base, h.apart, ha, hd_grow h.a1 hbt.size (hbt.block _ h.a1.lt (fun e => e.elim (fun e => e1 e.symm) (fun e => e5 e.symm))) (fun k hk => hbt.block k hk.1 (fun e => e.elim hk.2.1 hk.2.2.2.2)), h.l.but hbt h.l.lt (fun e => e.elim e2 e6),
    ⟨v, v1, hOb, hv, sl_grow hS1 hbt.size (fun k hk => hbt.block k hk.1 (fun e => e.elim hk.2.1 hk.2.2.2.2))⟩, hz, h.byt.2⟩
theorem Two.upd1 {v0 : Value} {z : List Int} (h : Two B bl ba p0 p1 y0 y1 w) (hS0 : Sl (Qk p0 p1 bl ba w) w v0 y0) (hbt : But w.heap.size (fun k => k = p1 ∨ k = ba) w w') (ha : HD (Qk p0 p1 bl ba w') p1 w' z) (v : Value) (hOb : Ob ba w' [v0, v]) (hv : Sl (Qk p0 p1 bl ba w') w' v z) (hz : Byt z) : Two B bl ba p0 p1 y0 z w' := by
  obtain ⟨e1, e2, e3, e4, e5, e6⟩ := h.apart
  exact ⟨h.base, h.apart, hd_grow h.a0 hbt.size (hbt.block _ h.a0.lt (fun e => e.elim e1 (fun e => e4 e.symm))) (fun k hk => hbt.block k hk.1 (fun e => e.elim hk.2.2.1 hk.2.2.2.2)), ha, h.l.but hbt h.l.lt (fun e => e.elim e3 e6),
    ⟨v0, v, hOb, sl_grow hS0 hbt.size (fun k hk => hbt.block k hk.1 (fun e => e.elim hk.2.2.1 hk.2.2.2.2)), hv⟩, h.byt.1, hz⟩
theorem Two.copy0 {v0 v1 : Value} (h : Two B bl ba p0 p1 y0 y1 w) (hb0 : Ob ba w [v0, v1]) (hS1 : Sl (Qk p0 p1 bl ba w) w v1 y1) (q : Nat) (hq : w.heap.size ≤ q) (hbt : But w.heap.size (fun k => k = bl ∨ k = ba) w w') (ha : HD (Qk q p1 bl ba w') q w' y1) (hl : Ob bl w' [ptr q, ptr p1]) (hOb : Ob ba w' [v1, v1]) : Two B bl ba q p1 y1 y1 w' := by
  obtain ⟨e1, e2, e3, e4, e5, e6⟩ := h.apart
  obtain ⟨f1, f2, f3, f4⟩ := h.base
  have l0 := h.a0.lt
  have l1 := h.a1.lt
  have l2 := h.l.lt
  have l3 := hb0.lt
  have hm : ∀ k, Qk p0 p1 bl ba w k → w'.heap[k]? = w.heap[k]? := fun k hk => hbt.block k hk.1 (fun e => e.elim hk.2.2.2.1 hk.2.2.2.2)
  have hq2 : ∀ k, Qk p0 p1 bl ba w k → Qk q p1 bl ba w' k := fun k hk => ⟨Nat.lt_of_lt_of_le hk.1 hbt.size, by have := hk.1; omega, hk.2.2⟩
  have hsq : Sl (Qk q p1 bl ba w') w' v1 y1 := (Sl.same hS1 hm).mono hq2
  exact ⟨⟨by omega, f2, f3, f4⟩, ⟨by omega, by omega, e3, by omega, e5, e6⟩, ha, (h.a1.same (hbt.block _ l1 (fun e => e.elim (fun e => e3 e.symm) (fun e => e5 e.symm))) hm).mono hq2, hl, ⟨v1, v1, hOb, hsq, hsq⟩, h.byt.2, h.byt.2⟩
theorem Two.copy1 {v0 v1 : Value} (h : Two B bl ba p0 p1 y0 y1 w) (hb0 : Ob ba w [v0, v1]) (hS0 : Sl (Qk p0 p1 bl ba w) w v0 y0) (q : Nat) (hq : w.heap.size ≤ q) (hbt : But w.heap.size (fun k => k = bl ∨ k = ba) w w') (ha : HD (Qk p0 q bl ba w') q w' y0) (hl : Ob bl w' [ptr p0, ptr q]) (hOb : Ob ba w' [v0, v0]) : Two B bl ba p0 q y0 y0 w' := by
  obtain ⟨e1, e2, e3, e4, e5, e6⟩ := h.apart
  obtain ⟨f1, f2, f3, f4⟩ := h.base
  have l0 := h.a0.lt
  have l1 := h.a1.lt
  have l2 := h.l.lt
  have l3 := hb0.lt
  have hm : ∀ k, Qk p0 p1 bl ba w k → w'.heap[k]? = w.heap[k]? := fun k hk => hbt.block k hk.1 (fun e => e.elim hk.2.2.2.1 hk.2.2.2.2)
  have hq2 : ∀ k, Qk p0 p1 bl ba w k → Qk p0 q bl ba w' k := fun k hk => ⟨Nat.lt_of_lt_of_le hk.1 hbt.size, hk.2.1, by have := hk.1; omega, hk.2.2.2⟩
  have hsq : Sl (Qk p0 q bl ba w') w' v0 y0 := (Sl.same hS0 hm).mono hq2
  exact ⟨⟨f1, by omega, f3, f4⟩, ⟨by omega, e2, by omega, e4, by omega, e6⟩, (h.a0.same (hbt.block _ l0 (fun e => e.elim (fun e => e2 e.symm) (fun e => e4 e.symm))) hm).mono hq2, ha, hl, ⟨v0, v0, hOb, hsq, hsq⟩, h.byt.1, h.byt.1⟩
end
theorem Two.start {w w1 w2 : World} {p q : Nat} (h1 : HD (fun _ => False) p w1 []) (hp : w.heap.size ≤ p) (b1 : Below w.heap.size w w1) (h2 : HD (fun _ => False) q w2 []) (hq : w1.heap.size ≤ q) (b2 : Below w1.heap.size w1 w2) (t t' : Nat) :
    Two w.heap.size w2.heap.size (w2.heap.size + 1) p q [] [] ((w2.alloc (.cells #[ptr p, ptr q] t)).alloc (.cells #[.slice none 0 0, .slice none 0 0] t')) ∧ Below w.heap.size w ((w2.alloc (.cells #[ptr p, ptr q] t)).alloc (.cells #[.slice none 0 0, .slice none 0 0] t')) := by
  have l1 := h1.lt
  have l2 := h2.lt
  have s1 := b2.size
  have s0 := b1.size
  obtain ⟨u, hu⟩ : ∃ u, u = w2.alloc (.cells #[ptr p, ptr q] t) := ⟨_, rfl⟩
  have su : u.heap.size = w2.heap.size + 1 := by rw [hu]; simp
  have ou : Ob w2.heap.size u [ptr p, ptr q] := by rw [hu]; exact Ob.new w2 _ _ rfl t
  have bu : Below w2.heap.size w2 u := by rw [hu]; exact below_alloc (Below.refl _ _) _
  have bv : Below u.heap.size u (u.alloc (.cells #[.slice none 0 0, .slice none 0 0] t')) := below_alloc (Below.refl _ _) _
  have ov : Ob (w2.heap.size + 1) (u.alloc (.cells #[.slice none 0 0, .slice none 0 0] t')) [.slice none 0 0, .slice none 0 0] := by rw [← su]; exact Ob.new u _ _ rfl t'
  rw [← hu]
  refine ⟨⟨⟨by omega, by omega, by omega, by omega⟩, ⟨by omega, by omega, by omega, by omega, by omega, by omega⟩, ?_, ?_, ou.below bv (by omega), ⟨_, _, ov, Sl.nil _ _, Sl.nil _ _⟩, (fun x hx => by cases hx), (fun x hx => by cases hx)⟩, ?_⟩
  · exact (((h1.below b2 (fun k h => h.elim) (by omega)).below bu (fun k h => h.elim) (by omega)).below bv (fun k h => h.elim) (by omega)).mono (fun k h => h.elim)
  · exact ((h2.below bu (fun k h => h.elim) (by omega)).below bv (fun k h => h.elim) (by omega)).mono (fun k h => h.elim)
  · exact ((b1.trans (b2.mono (by omega))).trans (bu.mono (by omega))).trans (bv.mono (by omega))
theorem opens_act : Row.Opens AC 46 (fun x => (Lit.int .i64 x.1).wf = true ∧ True ∧ ∀ n ∈ x.2.2, (Lit.int .u8 n).wf = true) :=
  Row.opens_struct (l := [(0, 3), (1, 4), (2, 22)]) Try.underlying46 (by rfl) (by kernel_rfl)
    (Row.opensF_cons (Row.opens_int Try.underlying3 (by kernel_rfl)) (Row.opensF_cons (Row.opens_bool Try.underlying4 (by kernel_rfl)) (Row.opensF_one Row.opens_bytes 2)))
theorem opens_acts : Row.Opens (Kd.slice 46 AC) 44 (fun xs => ∀ x ∈ xs, (Lit.int .i64 x.1).wf = true ∧ True ∧ ∀ n ∈ x.2.2, (Lit.int .u8 n).wf = true) :=
  Row.opens_slice Try.underlying44 (by kernel_rfl) opens_act
end Go.Proofs.Ytfenpgeicgoedaa.Sha

set_option linter.unusedSimpArgs false
set_option linter.unusedVariables false
namespace Go.Proofs.Ytfenpgeicgoedaa.Sha
open Go.RowKit Go.Proofs.YtfenpgeicgoedaaW.PrintWords Go.Proofs.YtfenpgeicgoedaaW.PrintLast Go.Proofs.YtfenpgeicgoedaaW.PrintMore Go.Proofs.Ytfenpgeicgoedaa.PSha1Plays Go.Proofs.Ytfenpgeicgoedaa.Lex Go.Proofs.Ytfenpgeicgoedaa.Lib
theorem zero20k (w : World) : (zeroValue 24).run Try.prog w = .ok (.agg ((List.replicate 20 (0 : Int)).map (Value.int .u8)).toArray) w := by rw [← zeros20]; exact zero20 w
theorem wz1 : wrap64 1 = 1 := by unfold wrap64; omega
theorem wz0 : wrap64 0 = 0 := by unfold wrap64; omega
theorem eqz {bz : Array Value} (h : ((List.replicate 20 (0 : Int)).map (Value.int .u8)).toArray = bz) (W : World) : (Op.equalIn 10000 24 (.agg bz) (.agg #[.int .u8 0, .int .u8 0, .int .u8 0, .int .u8 0, .int .u8 0, .int .u8 0, .int .u8 0, .int .u8 0, .int .u8 0, .int .u8 0, .int .u8 0, .int .u8 0, .int .u8 0, .int .u8 0, .int .u8 0, .int .u8 0, .int .u8 0, .int .u8 0, .int .u8 0, .int .u8 0])).run Try.prog W = .ok true W := by
  subst h
  exact equalIn_arr W 9998 24 5 20 .u8 Try.underlying24 Try.underlying5 (fun _ => by kernel_rfl) (List.replicate 20 0) (List.replicate 20 0) (by simp) (by simp)
set_option maxHeartbeats 16000000 in
set_option maxRecDepth 100000 in
theorem sha1Plays (A : Option Addr) (c : Nat) (xs : List (Int × Bool × List Int)) (w : World) (hx : Kd.C AC w A xs.length xs) (hc : xs.length ≤ c) (ho : ∀ x ∈ xs, (Lit.int .i64 x.1).wf = true ∧ True ∧ ∀ n ∈ x.2.2, (Lit.int .u8 n).wf = true) :
    Calls Try.prog 8 #[.slice A xs.length c] w fun e w' => e = .returned (.bool true) ∧ Below w.heap.size w w' := by
  have HX := Aside0.mk hx
  have HO := Aside0.mk ho
  have hmx := hx.2.1
  clear hx ho
  go_enter Try.func8, Try.ntmps8
  go_wp2_with fail
  go_loopg [3, 4] xs.length (fun gk s3 s4 w' => ∃ i n : Nat, i ≤ xs.length ∧ xs.length - i ≤ gk ∧ s4 = .int .i64 i ∧ s3 = .int .i64 n ∧ 20 * i ≤ n ∧ n ≤ 1300 ∧ Aside0 (∀ j, j < i → (xs.getD j Act0).2.2.length ≤ 600 ∨ 600 < n) ∧ w = w')
  case atStart => exact ⟨0, 0, by omega, by omega, rfl, rfl, by omega, by omega, ⟨fun j hj => by omega⟩, rfl⟩
  case round =>
    obtain ⟨i, n, hi, hgi, rfl, rfl, hn1, hn2, HL, rfl⟩ := hrel
    by_cases hn : 600 < n
    · have hn' : ¬ ((n : Int) ≤ 600) := by omega
      clear hmx HX HO HL
      by_cases hlt : i < xs.length
      · have hlt' : decide ((i : Int) < (xs.length : Int)) = true := by simpa using (by omega : (i : Int) < (xs.length : Int))
        go_wp2_with fail
        refine (works _).mono ?_
        rintro e w1 ⟨rfl, hb⟩
        go_wp2_with fail
        go_ret
        exact ⟨rfl, hb⟩
      · have hlt' : decide ((i : Int) < (xs.length : Int)) = false := by simpa using (by omega : ¬ (i : Int) < (xs.length : Int))
        go_wp2_with fail
        refine (works _).mono ?_
        rintro e w1 ⟨rfl, hb⟩
        go_wp2_with fail
        go_ret
        exact ⟨rfl, hb⟩
    · by_cases hlt : i < xs.length
      · have hlt' : decide ((i : Int) < (xs.length : Int)) = true := by simpa using (by omega : (i : Int) < (xs.length : Int))
        obtain ⟨b, o, A0, c0, rfl, q0w, q1w, q2w, hc0, hC0⟩ := C_act HX.out i hlt
        obtain ⟨⟨what, two, zs⟩, hq⟩ : ∃ q, xs.getD i Act0 = q := ⟨_, rfl⟩
        simp only [hq] at q0w q1w q2w hc0 hC0
        obtain ⟨m, hm⟩ : ∃ m : Nat, min zs.length 601 = m := ⟨_, rfl⟩
        have hmn := run_min2 (zs.length : Int) 601 (m : Int) (by omega)
        have hm1 : m ≤ 601 := by omega
        have HL2 : Aside0 (∀ j, j < i + 1 → (xs.getD j Act0).2.2.length ≤ 600 ∨ 600 < n + 20 + m) := ⟨fun j hj => by
          by_cases hji : j = i
          · rw [hji, hq]
            show zs.length ≤ 600 ∨ _
            omega
          · rcases HL.out j (by omega) with h | h
            · exact .inl h
            · exact .inr (by omega)⟩
        clear hm hq hC0 q0w q1w HL
        go_wp2_with fail
        go_roundg (gk - 1)
        case measure => omega
        case rel => exact ⟨i + 1, n + 20 + m, by omega, by omega, by go_num, by go_num, by omega, by omega, HL2, rfl⟩
      · have hlt' : decide ((i : Int) < (xs.length : Int)) = false := by simpa using (by omega : ¬ (i : Int) < (xs.length : Int))
        obtain rfl : i = xs.length := by omega
        have HL6 : Aside0 (∀ j, j < xs.length → (xs.getD j Act0).2.2.length ≤ 600) := ⟨fun j hj => (HL.out j hj).elim id (fun h => absurd h hn)⟩
        have hl30 : xs.length ≤ 30 := by omega
        clear HL hmx
        go_wp2_with fail
        refine (dNew _).mono ?_
        rintro e w1 ⟨pa, rfl, ha0, hpa, hb1⟩
        have HA0 := Aside0.mk ha0
        have HB1 := Aside0.mk hb1
        clear ha0 hb1
        go_wp2_with fail
        refine (dNew _).mono ?_
        rintro e w2 ⟨pb, rfl, ha1, hpb, hb2⟩
        have hst := fun t t' => Two.start HA0.out hpa HB1.out ha1 hpb hb2 t t'
        have HST := Aside0.mk hst
        clear ha1 hb2 hst HA0
        go_wp2_with fail
        obtain ⟨HS1, HS2⟩ := HST.out 47 50
        have HS1 := Aside0.mk HS1
        have HS2 := Aside0.mk HS2
        obtain ⟨bl, hbl⟩ : ∃ b, w2.heap.size = b := ⟨_, rfl⟩
        obtain ⟨ba, hba⟩ : ∃ b, w2.heap.size + 1 = b := ⟨_, rfl⟩
        obtain ⟨V0, hV0⟩ : ∃ V, (w2.alloc (.cells #[ptr pa, ptr pb] 47)).alloc (.cells #[.slice none 0 0, .slice none 0 0] 50) = V := ⟨_, rfl⟩
        rw [hV0] at HS1 HS2 ⊢
        rw [hba, hbl] at HS1
        rw [hba, hbl]
        clear HST HB1 hbl hba hV0 hlt' hn hgi hi hlt hn1 hn2 hpa hpb
        go_loopg [7] xs.length (fun gk s7 w' => ∃ (k p0 p1 : Nat) (y0 y1 : List Int), k ≤ xs.length ∧ xs.length - k ≤ gk ∧ s7 = .int .i64 k ∧ Aside0 (y0.length ≤ 600 * k) ∧ Aside0 (y1.length ≤ 600 * k) ∧ Aside0 (Two w.heap.size bl ba p0 p1 y0 y1 w') ∧ Aside0 (Below w.heap.size w w'))
        case atStart => exact ⟨0, _, _, [], [], by omega, by omega, rfl, ⟨by simp⟩, ⟨by simp⟩, HS1, HS2⟩
        case round =>
          clear HS1 HS2
          obtain ⟨k, p0, p1, y0, y1, hk, hgk, rfl, HL0, HL1, HST, HB⟩ := hrel
          by_cases hlt : k < xs.length
          · obtain ⟨b, o, A0, c0, rfl, q0w, q1w, q2w, hc0, hC0⟩ := C_act HX.out k hlt
            have ho := HO.out (xs.getD k Act0) (by rw [List.getD_eq_getElem?_getD, List.getElem?_eq_getElem hlt]; exact List.getElem_mem _)
            have hz := HL6.out k hlt
            have q0w := pw_cell_below HB.out q0w
            have q1w := pw_cell_below HB.out q1w
            have q2w := pw_cell_below HB.out q2w
            obtain ⟨⟨what, two, zs⟩, hq⟩ : ∃ q, xs.getD k Act0 = q := ⟨_, rfl⟩
            simp only [hq] at q0w q1w q2w hc0 hC0 ho hz
            have HBZ := Aside0.mk (byt ho.2.2)
            have HC0 := Aside0.mk hC0
            obtain ⟨v0, v1, hOb, hS0, hS1⟩ := HST.out.all
            clear hq hC0 ho
            cases two
            · obtain ⟨W0, rfl⟩ : ∃ W, W = wr := ⟨_, rfl⟩
              obtain ⟨G, rfl⟩ : ∃ G, G = gk := ⟨_, rfl⟩
              by_cases h0 : what = 0
              · subst h0
                have HOBX := Aside0.mk (Ob.new W0 [.int .i64 0, .bool false, .slice A0 zs.length c0] _ rfl 46)
                go_wp2_with ((with_reducible refine gate_builtin (b := .append) (xs := #[.tmp 70, .tmp 72]) rfl ?_); refine ap_row (W0.heap.size + 1) _ _ rfl rfl (OB.litAt (W0.alloc (.cells #[.int .i64 0, .bool false, .slice A0 zs.length c0] 46)) (W0.heap.size + 1) (by simp) [] [] rfl 0 rfl (Nat.le_refl _) (by simp)) (Kd.C_below HC0.out (below_alloc (below_alloc HB.out _) _)) rfl rfl (by simp) (by simp; omega) ?_; intro vm w1 ho hb; have HM1 : Aside0 (OB (W0.heap.size + 1) w1 vm zs) := ⟨ho⟩; have HBX1 := Aside0.mk (HOBX.out.below (((Below.refl (W0.heap.size + 1) (W0.alloc (.cells #[.int .i64 0, .bool false, .slice A0 zs.length c0] 46))).alloc (by simp) _).trans hb) (by simp)); have HW1 : Aside0 (Below W0.heap.size W0 w1) := ⟨(below_alloc (below_alloc (Below.refl _ _) _) _).trans (hb.mono (by omega))⟩; clear ho hb; obtain ⟨Am, cm, rfl, hcm, hCm⟩ := HM1.out.reads; obtain ⟨ql0, _⟩ := (HST.out.l.below HW1.out HST.out.l.lt) 0 _ rfl)
                have HWr := Aside0.mk (dWrite Am cm zs w1 (HST.out.below HW1.out).a0 hCm hcm HST.out.byt.1 HBZ.out (by omega) (by have := HL0.out; omega))
                have HGm : Aside0 (0 < zs.length → ∃ g, Am = some ⟨g, 0, none⟩ ∧ W0.heap.size + 1 ≤ g ∧ g < w1.heap.size) := ⟨fun hp => by
                  obtain ⟨g, c', e, h1, h2, _⟩ := HM1.out.form hp
                  injection e with e
                  exact ⟨g, e, h1, h2⟩⟩
                clear hCm q0w q1w q2w
                refine HWr.out.mono ?_
                rintro e w2 ⟨rfl, hak, hbt⟩
                have HAK := Aside0.mk hak
                have HBT := Aside0.mk hbt
                have hPlt := HST.out.a0.lt
                have HM2 := Aside0.mk (ob_but HM1.out hbt (fun k hk e => by have : k = p0 := e; omega))
                have HBX2 := Aside0.mk (HBX1.out.but hbt (by have := HW1.out.size; have := HBX1.out.lt; omega) (fun e => by have : W0.heap.size = p0 := e; omega))
                have HBW2 : Aside0 (Below w.heap.size w w2) := ⟨(HB.out.trans (HW1.out.mono HB.out.size)).trans (hbt.below (HB.out.trans (HW1.out.mono HB.out.size)).size (fun j hj e => by have : j = p0 := e; have := HST.out.base; omega))⟩
                have hcm1 := conv w2 Am cm zs HM2.out.readsAt
                have hcz1 := conv w2 A0 c0 zs (Kd.C_below HC0.out HBW2.out)
                obtain ⟨qb2, _⟩ := HBX2.out 2 _ rfl
                have hw12 := hbt.size
                have hw01 := HW1.out.size
                clear hak hbt HWr HM1 HBX1 hcm
                go_wp2_with fail
                refine (num _ _).mono ?_
                rintro e w' ⟨rfl, rfl⟩
                go_wp2_with fail
                clear hcm1 hcz1 qb2
                go_loopg [11] zs.length (fun gk s9 w' => ∃ (j : Nat) (ms : List Int), j ≤ zs.length ∧ zs.length - j ≤ gk ∧ s9 = .int .i64 j ∧ Aside0 (ms.length = zs.length) ∧ Aside0 (OB (W0.heap.size + 1) w' (.slice Am zs.length cm) ms) ∧ Aside0 (Below (W0.heap.size + 1) w2 w') ∧ Aside0 (HD (SB w1.heap.size w2.heap.size) p0 w' (y0 ++ zs)))
                case atStart => exact ⟨0, zs, by omega, by omega, rfl, ⟨rfl⟩, HM2, ⟨Below.refl _ _⟩, HAK⟩
                case round =>
                  clear HM2
                  obtain ⟨j, ms, hj, hgj, rfl, HMS, HOM, HB3, HAK⟩ := hrel
                  by_cases hjlt : j < zs.length
                  · obtain ⟨g, rfl, hg1, hg2⟩ := HGm.out (by omega)
                    obtain ⟨hcell, hfr⟩ := HOM.out.cell j (by omega)
                    obtain ⟨y, hy⟩ : ∃ y, ms.getD j 0 = y := ⟨_, rfl⟩
                    rw [hy] at hcell
                    clear hy
                    go_wp2
                    go_roundg (gk - 1)
                    case measure => omega
                    case rel => exact ⟨j + 1, _, by omega, by omega, by go_num, ⟨by rw [List.length_set]; exact HMS.out⟩, ⟨HOM.out.put j _⟩, ⟨HB3.out.setCell (by exact hg1) _⟩, ⟨HAK.out.same (Below.heap_setCell _ _ _ _ (by show p0 ≠ g; omega)) (fun k hk => Below.heap_setCell _ _ _ _ (by have := hk.1; show k ≠ g; omega))⟩⟩
                  · obtain rfl : j = zs.length := by omega
                    have hBut3 : But W0.heap.size (at1 p0) W0 wr := ((But.of HW1.out (Nat.le_refl _)).trans (HBT.out.mono HW1.out.size (fun _ _ e => e))).then HB3.out (by omega)
                    have hObK := hOb.but hBut3 hOb.lt (fun e => by have : ba = p0 := e; have := HST.out.apart; omega)
                    have hSK3 := (Sl.same hS0 (fun k hk => hBut3.block k hk.1 (fun e => hk.2.1 e)))
                    obtain ⟨Av, cv, rfl, hcv, hCv, _⟩ := hSK3
                    obtain ⟨c3a, f3a⟩ := hObK 0 _ rfl
                    have hBX3 := HBX2.out.below HB3.out (by omega)
                    obtain ⟨c3b, _⟩ := hBX3 2 _ rfl
                    have hC03 := Kd.C_below HC0.out (HBW2.out.trans (HB3.out.mono (by have := HB.out.size; omega)))
                    have HBut3 := Aside0.mk hBut3
                    have HObK := Aside0.mk hObK
                    have HCv := Aside0.mk hCv
                    have HC03 := Aside0.mk hC03
                    have HAp := Aside0.mk HST.out.apart
                    have hw23 := HB3.out.size
                    obtain ⟨Z, hZ⟩ : ∃ Z, y0 ++ zs = Z := ⟨_, rfl⟩
                    have hbz : Byt Z := fun x hx => by rw [← hZ] at hx; exact (List.mem_append.1 hx).elim (fun h => HST.out.byt.1 x h) (fun h => HBZ.out x h)
                    have hzlen : Z.length ≤ 600 * (k + 1) := by have := HL0.out; rw [← hZ, List.length_append]; omega
                    rw [hZ] at HAK
                    have HZ := Aside0.mk hZ
                    have HZB := Aside0.mk hbz
                    have HZL := Aside0.mk hzlen
                    clear hZ hbz hzlen
                    have hbal := hOb.lt
                    have hylen := HL0.out
                    have hapn := HAp.out
                    clear hOb hBut3 hObK hCv hC03 hBX3 HBX2 HOM HMS HBT hjlt hgj hj HGm
                    go_wp2_with fail
                    refine region [(0, .p), (2, .p), (3, .p), (6, .p), (4, .t), (7, .t), (1, .o), (5, .o), (8, .o), (9, .p), (10, .e)] (fun V => V.cell? ⟨ba, 0, none⟩ = some (.slice Av y0.length cv) ∧ V.cell? ⟨W0.heap.size, 2, none⟩ = some (.slice A0 zs.length c0)) (by kernel_rfl) (by kernel_rfl) (fun _ _ _ _ _ h => h) (⟨c3a, c3b⟩) (fun hHeld => ?_)
                    iterate 4 (refine lex_p rfl rfl rfl (by intro w'; go_simp; with_reducible rfl) (by simp only [Act.put, List.setIfInBounds_toArray, List.set_cons_zero, List.set_cons_succ, i64_w, i32_w]; rfl) ?_)
                    iterate 2 (refine lex_t rfl rfl rfl (by rintro w' ⟨s1, s2⟩; go_simp; with_reducible rfl) (by simp only [Act.put, List.setIfInBounds_toArray, List.set_cons_zero, List.set_cons_succ, i64_w, i32_w]; rfl) ?_)
                    refine lex_o rfl ?_
                    go_wp2_with fail
                    refine lex_end (by first | (simp only [Act.put, List.setIfInBounds_toArray, List.set_cons_zero, List.set_cons_succ, i64_w, i32_w]; rfl) | rfl) (⟨pw_cell_below (below_alloc (Below.refl _ _) _) hHeld.1, pw_cell_below (below_alloc (Below.refl _ _) _) hHeld.2⟩) (fun hHeld => ?_)
                    refine lex_o rfl ?_
                    refine ap_row wr.heap.size _ _ rfl rfl (OB.lit wr.drew [] [] rfl 0 rfl (Nat.le_refl _) (by simp)) (Kd.C_below HCv.out (below_alloc (below_drew (Below.refl _ _)) _)) rfl rfl (by simp) (by simp; omega) ?_
                    intro v4 w4 ho hb4
                    have HO4 : Aside0 (OB wr.heap.size w4 v4 y0) := ⟨ho⟩
                    have HB34 := Aside0.mk ((below_alloc (below_drew (Below.refl wr.heap.size wr)) _).trans hb4)
                    clear ho hb4
                    refine lex_end (by first | (simp only [Act.put, List.setIfInBounds_toArray, List.set_cons_zero, List.set_cons_succ, i64_w, i32_w]; rfl) | rfl) (⟨pw_cell_below HB34.out c3a, pw_cell_below HB34.out c3b⟩) (fun hHeld => ?_)
                    refine lex_o rfl ?_
                    refine ap_row wr.heap.size _ _ rfl rfl HO4.out (Kd.C_below HC03.out HB34.out) rfl rfl HB34.out.size (by omega) ?_
                    intro v5 w5 ho hb5
                    have HO5 : Aside0 (OB wr.heap.size w5 v5 Z) := ⟨by rw [← HZ.out]; exact ho⟩
                    have HB35 := Aside0.mk (HB34.out.trans hb5)
                    clear ho hb5
                    refine lex_end (by first | (simp only [Act.put, List.setIfInBounds_toArray, List.set_cons_zero, List.set_cons_succ, i64_w, i32_w]; rfl) | rfl) (⟨pw_cell_below HB35.out c3a, pw_cell_below HB35.out c3b⟩) (fun hHeld => ?_)
                    (refine lex_p rfl rfl rfl (by intro w'; go_simp; with_reducible rfl) (by simp only [Act.put, List.setIfInBounds_toArray, List.set_cons_zero, List.set_cons_succ, i64_w, i32_w]; rfl) ?_)
                    refine lex_e rfl ?_
                    have hO5b := HObK.out.below HB35.out HObK.out.lt
                    obtain ⟨c5a, f5a⟩ := hO5b 0 _ rfl
                    obtain ⟨A5, c5, rfl, _, _⟩ := HO5.out.reads
                    go_wp2_with fail
                    refine putQ_normal ?_
                    go_wp2_with fail
                    go_roundg (G - 1)
                    case measure => omega
                    case rel =>
                      have hs3 := HBut3.out.size
                      have hs5 := HB35.out.size
                      have hbut : But W0.heap.size (fun k => k = p0 ∨ k = ba) W0 (w5.setCell ⟨ba, 0, none⟩ (.slice A5 Z.length c5)) := ((HBut3.out.mono (Nat.le_refl _) (fun _ _ e => .inl e)).then HB35.out hs3).setCell (p := ⟨ba, 0, none⟩) (.inr (.inr rfl)) _
                      have hap := HAp.out
                      have l0 := HST.out.a0.lt
                      have l1 := HST.out.a1.lt
                      have l2 := HST.out.l.lt
                      have hak : HD (Qk p0 p1 bl ba (w5.setCell ⟨ba, 0, none⟩ (.slice A5 Z.length c5))) p0 (w5.setCell ⟨ba, 0, none⟩ (.slice A5 Z.length c5)) Z := by
                        have h6 := HAK.out.below HB35.out (fun k hk => by have := hk.2; omega) HAK.out.lt
                        refine (h6.same (Below.heap_setCell _ _ _ _ (by show p0 ≠ ba; omega)) (fun k hk => Below.heap_setCell _ _ _ _ (by have := hk.1; show k ≠ ba; omega))).mono (fun k hk => ?_)
                        obtain ⟨h7, h8⟩ := hk
                        exact ⟨by simp [World.setCell]; omega, by omega, by omega, by omega, by omega⟩
                      have hob : Ob ba (w5.setCell ⟨ba, 0, none⟩ (.slice A5 Z.length c5)) [.slice A5 Z.length c5, v1] := by simpa using hO5b.set 0 (by simp) (.slice A5 Z.length c5)
                      have hsl : Sl (Qk p0 p1 bl ba (w5.setCell ⟨ba, 0, none⟩ (.slice A5 Z.length c5))) (w5.setCell ⟨ba, 0, none⟩ (.slice A5 Z.length c5)) (.slice A5 Z.length c5) Z := by
                        refine (Sl.same (HO5.out.sl (S := fun k => wr.heap.size ≤ k ∧ k < w5.heap.size) (fun k h3 h4 => ⟨h3, h4⟩)) (fun k hk => Below.heap_setCell _ _ _ _ (by show k ≠ ba; omega))).mono (fun k hk => ⟨by simp [World.setCell]; exact hk.2, by omega, by omega, by omega, by omega⟩)
                      exact ⟨k + 1, p0, p1, Z, y1, by omega, by omega, by go_num, ⟨by have := HZL.out; have := HL1.out; omega⟩, ⟨by have := HZL.out; have := HL1.out; omega⟩, ⟨HST.out.upd0 hS1 hbut hak _ hob hsl HZB.out⟩, ⟨HBW2.out.trans ((HB3.out.mono (by have := HB.out.size; omega)).trans ((HB35.out.mono (by have := HB.out.size; omega)).setCell (p := ⟨ba, 0, none⟩) HST.out.base.2.2.2 _))⟩⟩
              · have hw0 : (what == 0) = false := by simpa using h0
                by_cases h1 : what = 1
                · subst h1
                  obtain ⟨Av, cv, rfl, hcv, hCv, _⟩ := hS0
                  obtain ⟨qa, _⟩ := hOb 0 _ rfl
                  obtain ⟨ql, _⟩ := HST.out.l 0 _ rfl
                  have hBX := below_drew (below_alloc (Below.refl W0.heap.size W0) (.cells #[.int .i64 1, .bool false, .slice A0 zs.length c0] 46))
                  have HCv := Aside0.mk hCv
                  obtain ⟨bx, heq, -, HRS, -, HHS, HBX0⟩ := sums_ex y0 HST.out.byt.1 (by have := HL0.out; omega)
                  have hne := fun W => neq20 (sumOf_len y0) HBX0.out W
                  clear hCv hOb heq
                  go_wp2_with fail
                  obtain ⟨W1, hW1⟩ : ∃ W1, W0.alloc (.cells #[.int .i64 1, .bool false, .slice A0 zs.length c0] 46) = W1 := ⟨_, rfl⟩
                  rw [hW1] at hBX ⊢
                  have ql1 := pw_cell_below hBX ql
                  have qa1 := pw_cell_below hBX qa
                  have HST1 := Aside0.mk (HST.out.below hBX)
                  have HBX := Aside0.mk hBX
                  clear hW1 hBX ql qa q0w q1w q2w
                  refine region [(0, .p), (1, .p), (2, .p), (5, .p), (6, .p), (3, .t), (7, .t), (4, .o), (8, .o), (9, .p), (10, .p), (11, .p), (12, .p), (13, .p), (16, .p), (17, .p), (14, .t), (18, .t), (19, .p), (15, .o), (20, .p), (21, .p)] (fun V => V.cell? ⟨bl, 0, none⟩ = some (ptr p0) ∧ V.cell? ⟨ba, 0, none⟩ = some (.slice Av y0.length cv)) (by kernel_rfl) (by kernel_rfl) (fun _ _ _ _ _ h => h) (⟨ql1, qa1⟩) (fun hHeld => ?_)
                  iterate 5 (refine lex_p rfl rfl rfl (by intro w'; go_simp; with_reducible rfl) (by simp only [Act.put, List.setIfInBounds_toArray, List.set_cons_zero, List.set_cons_succ, i64_w, i32_w]; rfl) ?_)
                  iterate 2 (refine lex_t rfl rfl rfl (by rintro w' ⟨s1, s2⟩; go_simp; with_reducible rfl) (by simp only [Act.put, List.setIfInBounds_toArray, List.set_cons_zero, List.set_cons_succ, i64_w, i32_w]; rfl) ?_)
                  refine lex_o rfl ?_
                  go_wp2_with fail
                  refine (HHS.out HST1.out.a0 (fun k hk => hk.1)).mono ?_
                  rintro e w2 ⟨rfl, hb2⟩
                  have HST2 := Aside0.mk (HST1.out.below hb2)
                  have HB2 := Aside0.mk hb2
                  have HBX2 : Aside0 (Below W0.heap.size W0 w2) := ⟨HBX.out.trans (hb2.mono HBX.out.size)⟩
                  clear hb2
                  go_wp2_with fail
                  refine lex_end (by first | (simp only [Act.put, List.setIfInBounds_toArray, List.set_cons_zero, List.set_cons_succ, i64_w, i32_w]; rfl) | rfl) (⟨pw_cell_below HB2.out ql1, pw_cell_below HB2.out qa1⟩) (fun hHeld => ?_)
                  refine lex_o rfl ?_
                  go_wp2_with fail
                  refine (HRS.out Av cv w2 (Kd.C_below HCv.out HBX2.out) hcv).mono ?_
                  rintro e w3 ⟨rfl, hb3⟩
                  have HST3 := Aside0.mk (HST2.out.below hb3)
                  have HB3 := Aside0.mk (HB2.out.trans (hb3.mono HB2.out.size))
                  have HBX3 : Aside0 (Below W0.heap.size W0 w3) := ⟨HBX2.out.trans (hb3.mono HBX2.out.size)⟩
                  clear hb3
                  go_wp2_with fail
                  refine lex_end (by first | (simp only [Act.put, List.setIfInBounds_toArray, List.set_cons_zero, List.set_cons_succ, i64_w, i32_w]; rfl) | rfl) (⟨pw_cell_below HB3.out ql1, pw_cell_below HB3.out qa1⟩) (fun hHeld => ?_)
                  iterate 7 (refine lex_p rfl rfl rfl (by intro w'; go_simp; with_reducible rfl) (by simp only [Act.put, List.setIfInBounds_toArray, List.set_cons_zero, List.set_cons_succ, i64_w, i32_w]; rfl) ?_)
                  iterate 2 (refine lex_t rfl rfl rfl (by rintro w' ⟨s1, s2⟩; go_simp; with_reducible rfl) (by simp only [Act.put, List.setIfInBounds_toArray, List.set_cons_zero, List.set_cons_succ, i64_w, i32_w]; rfl) ?_)
                  (refine lex_p rfl rfl rfl (by intro w'; go_simp; with_reducible rfl) (by simp only [Act.put, List.setIfInBounds_toArray, List.set_cons_zero, List.set_cons_succ, i64_w, i32_w]; rfl) ?_)
                  refine lex_o rfl ?_
                  go_wp2_with fail
                  refine (dLen HST3.out.a0).mono ?_
                  rintro e w' ⟨rfl, rfl⟩
                  go_wp2_with fail
                  refine lex_end (by first | (simp only [Act.put, List.setIfInBounds_toArray, List.set_cons_zero, List.set_cons_succ, i64_w, i32_w]; rfl) | rfl) (⟨pw_cell_below HB3.out ql1, pw_cell_below HB3.out qa1⟩) (fun hHeld => ?_)
                  iterate 2 (refine lex_p rfl rfl rfl (by intro w'; go_simp; with_reducible rfl) (by simp only [Act.put, List.setIfInBounds_toArray, List.set_cons_zero, List.set_cons_succ, i64_w, i32_w]; rfl) ?_)
                  refine lex_nil ?_
                  go_wp2_with fail
                  go_roundg (G - 1)
                  case measure => omega
                  case rel => exact ⟨k + 1, p0, p1, y0, y1, by omega, by omega, by go_num, ⟨by have := HL0.out; have := HL1.out; omega⟩, ⟨by have := HL0.out; have := HL1.out; omega⟩, HST3, ⟨HB.out.trans (HBX3.out.mono HB.out.size)⟩⟩
                · have hw1 : (what == 1) = false := by simpa using h1
                  obtain ⟨Av, cv, rfl, hcv, hCv, hqv⟩ := id hS1
                  have hBX := below_alloc (Below.refl W0.heap.size W0) (.cells #[.int .i64 what, .bool false, .slice A0 zs.length c0] 46)
                  have HSO := Aside0.mk hS1
                  have HOb := Aside0.mk hOb
                  have HST1 := Aside0.mk (HST.out.below hBX)
                  have HOb1 := Aside0.mk (HOb.out.below hBX HOb.out.lt)
                  obtain ⟨ql1, _⟩ := HST1.out.l 1 _ rfl
                  have HBX := Aside0.mk hBX
                  have HAp := Aside0.mk HST.out.apart
                  clear hCv hOb hS1 hqv hBX
                  have wr1 : wrap64 1 = 1 := wz1
                  have wr0 : wrap64 0 = 0 := wz0
                  go_wp2_with fail
                  refine (dCopy HST1.out.a1).mono ?_
                  rintro e w2 ⟨Q, rfl, hq2, hQ, hb2⟩
                  have HQ2 := Aside0.mk hq2
                  have HL2 := Aside0.mk (HST1.out.l.below hb2 HST1.out.l.lt)
                  have HOb2 := Aside0.mk (HOb1.out.below hb2 HOb1.out.lt)
                  have HBX2 : Aside0 (Below W0.heap.size W0 w2) := ⟨HBX.out.trans (hb2.mono HBX.out.size)⟩
                  have hQ2 : W0.heap.size ≤ Q := by have := HBX.out.size; omega
                  have hlt2 := hq2.lt
                  have hb2s := hb2.size
                  have hbxs := HBX.out.size
                  have hapn := HAp.out
                  obtain ⟨cl, fl⟩ := HL2.out 0 _ rfl
                  have HL3 := Aside0.mk (HL2.out.set 0 (by simp) (ptr Q))
                  have HOb3 := Aside0.mk (HOb2.out.far (q := ⟨bl, 0, none⟩) (by show ba ≠ bl; omega) (ptr Q))
                  obtain ⟨co, _⟩ := HOb3.out 1 _ rfl
                  obtain ⟨ca, fa⟩ := HOb3.out 0 _ rfl
                  clear hq2 hb2 ql1 q0w q1w q2w
                  go_wp2_with fail
                  go_roundg (G - 1)
                  case measure => omega
                  case rel =>
                    have hap := HAp.out
                    have hbase := HST.out.base
                    have hbls := HST.out.l.lt
                    have hbas := HOb.out.lt
                    have hlp0 := HST.out.a0.lt
                    have hlp1 := HST.out.a1.lt
                    have hbut : But W0.heap.size (fun k => k = bl ∨ k = ba) W0 ((w2.setCell ⟨bl, 0, none⟩ (ptr Q)).setCell ⟨ba, 0, none⟩ (.slice Av y1.length cv)) := ((But.of HBX2.out (Nat.le_refl _)).setCell (p := ⟨bl, 0, none⟩) (.inr (.inl rfl)) _).setCell (p := ⟨ba, 0, none⟩) (.inr (.inr rfl)) _
                    have hak : HD (Qk Q p1 bl ba ((w2.setCell ⟨bl, 0, none⟩ (ptr Q)).setCell ⟨ba, 0, none⟩ (.slice Av y1.length cv))) Q ((w2.setCell ⟨bl, 0, none⟩ (ptr Q)).setCell ⟨ba, 0, none⟩ (.slice Av y1.length cv)) y1 := by
                      have h7 := HQ2.out.same (w' := (w2.setCell ⟨bl, 0, none⟩ (ptr Q)).setCell ⟨ba, 0, none⟩ (.slice Av y1.length cv)) ((Below.heap_setCell _ _ _ _ (by show Q ≠ ba; omega)).trans (Below.heap_setCell _ _ _ _ (by show Q ≠ bl; omega))) (fun k hk => (Below.heap_setCell _ _ _ _ (by have := hk.1; show k ≠ ba; omega)).trans (Below.heap_setCell _ _ _ _ (by have := hk.1; show k ≠ bl; omega)))
                      refine h7.mono (fun k hk => ?_)
                      obtain ⟨h8, h9⟩ := hk
                      exact ⟨by simp [World.setCell]; omega, by omega, by omega, by omega, by omega⟩
                    have hl4 := HL3.out.far (q := ⟨ba, 0, none⟩) (by show bl ≠ ba; omega) (.slice Av y1.length cv)
                    have hob4 := HOb3.out.set 0 (by simp) (.slice Av y1.length cv)
                    exact ⟨k + 1, Q, p1, y1, y1, by omega, by omega, by go_num, ⟨by have := HL0.out; have := HL1.out; omega⟩, ⟨by have := HL0.out; have := HL1.out; omega⟩, ⟨HST.out.copy0 HOb.out HSO.out Q hQ2 hbut hak hl4 hob4⟩, ⟨(HB.out.trans (HBX2.out.mono HB.out.size)).setCell (p := ⟨bl, 0, none⟩) hbase.2.2.1 _ |>.setCell (p := ⟨ba, 0, none⟩) hbase.2.2.2 _⟩⟩
            · obtain ⟨W0, rfl⟩ : ∃ W, W = wr := ⟨_, rfl⟩
              obtain ⟨G, rfl⟩ : ∃ G, G = gk := ⟨_, rfl⟩
              by_cases h0 : what = 0
              · subst h0
                have HOBX := Aside0.mk (Ob.new W0 [.int .i64 0, .bool true, .slice A0 zs.length c0] _ rfl 46)
                go_wp2_with ((with_reducible refine gate_builtin (b := .append) (xs := #[.tmp 70, .tmp 72]) rfl ?_); refine ap_row (W0.heap.size + 1) _ _ rfl rfl (OB.litAt (W0.alloc (.cells #[.int .i64 0, .bool true, .slice A0 zs.length c0] 46)) (W0.heap.size + 1) (by simp) [] [] rfl 0 rfl (Nat.le_refl _) (by simp)) (Kd.C_below HC0.out (below_alloc (below_alloc HB.out _) _)) rfl rfl (by simp) (by simp; omega) ?_; intro vm w1 ho hb; have HM1 : Aside0 (OB (W0.heap.size + 1) w1 vm zs) := ⟨ho⟩; have HBX1 := Aside0.mk (HOBX.out.below (((Below.refl (W0.heap.size + 1) (W0.alloc (.cells #[.int .i64 0, .bool true, .slice A0 zs.length c0] 46))).alloc (by simp) _).trans hb) (by simp)); have HW1 : Aside0 (Below W0.heap.size W0 w1) := ⟨(below_alloc (below_alloc (Below.refl _ _) _) _).trans (hb.mono (by omega))⟩; clear ho hb; obtain ⟨Am, cm, rfl, hcm, hCm⟩ := HM1.out.reads; obtain ⟨ql0, _⟩ := (HST.out.l.below HW1.out HST.out.l.lt) 1 _ rfl)
                have HWr := Aside0.mk (dWrite Am cm zs w1 (HST.out.below HW1.out).a1 hCm hcm HST.out.byt.2 HBZ.out (by omega) (by have := HL1.out; omega))
                have HGm : Aside0 (0 < zs.length → ∃ g, Am = some ⟨g, 0, none⟩ ∧ W0.heap.size + 1 ≤ g ∧ g < w1.heap.size) := ⟨fun hp => by
                  obtain ⟨g, c', e, h1, h2, _⟩ := HM1.out.form hp
                  injection e with e
                  exact ⟨g, e, h1, h2⟩⟩
                clear hCm q0w q1w q2w
                refine HWr.out.mono ?_
                rintro e w2 ⟨rfl, hak, hbt⟩
                have HAK := Aside0.mk hak
                have HBT := Aside0.mk hbt
                have hPlt := HST.out.a1.lt
                have HM2 := Aside0.mk (ob_but HM1.out hbt (fun k hk e => by have : k = p1 := e; omega))
                have HBX2 := Aside0.mk (HBX1.out.but hbt (by have := HW1.out.size; have := HBX1.out.lt; omega) (fun e => by have : W0.heap.size = p1 := e; omega))
                have HBW2 : Aside0 (Below w.heap.size w w2) := ⟨(HB.out.trans (HW1.out.mono HB.out.size)).trans (hbt.below (HB.out.trans (HW1.out.mono HB.out.size)).size (fun j hj e => by have : j = p1 := e; have := HST.out.base; omega))⟩
                have hcm1 := conv w2 Am cm zs HM2.out.readsAt
                have hcz1 := conv w2 A0 c0 zs (Kd.C_below HC0.out HBW2.out)
                obtain ⟨qb2, _⟩ := HBX2.out 2 _ rfl
                have hw12 := hbt.size
                have hw01 := HW1.out.size
                clear hak hbt HWr HM1 HBX1 hcm
                go_wp2_with fail
                refine (num _ _).mono ?_
                rintro e w' ⟨rfl, rfl⟩
                go_wp2_with fail
                clear hcm1 hcz1 qb2
                go_loopg [11] zs.length (fun gk s9 w' => ∃ (j : Nat) (ms : List Int), j ≤ zs.length ∧ zs.length - j ≤ gk ∧ s9 = .int .i64 j ∧ Aside0 (ms.length = zs.length) ∧ Aside0 (OB (W0.heap.size + 1) w' (.slice Am zs.length cm) ms) ∧ Aside0 (Below (W0.heap.size + 1) w2 w') ∧ Aside0 (HD (SB w1.heap.size w2.heap.size) p1 w' (y1 ++ zs)))
                case atStart => exact ⟨0, zs, by omega, by omega, rfl, ⟨rfl⟩, HM2, ⟨Below.refl _ _⟩, HAK⟩
                case round =>
                  clear HM2
                  obtain ⟨j, ms, hj, hgj, rfl, HMS, HOM, HB3, HAK⟩ := hrel
                  by_cases hjlt : j < zs.length
                  · obtain ⟨g, rfl, hg1, hg2⟩ := HGm.out (by omega)
                    obtain ⟨hcell, hfr⟩ := HOM.out.cell j (by omega)
                    obtain ⟨y, hy⟩ : ∃ y, ms.getD j 0 = y := ⟨_, rfl⟩
                    rw [hy] at hcell
                    clear hy
                    go_wp2
                    go_roundg (gk - 1)
                    case measure => omega
                    case rel => exact ⟨j + 1, _, by omega, by omega, by go_num, ⟨by rw [List.length_set]; exact HMS.out⟩, ⟨HOM.out.put j _⟩, ⟨HB3.out.setCell (by exact hg1) _⟩, ⟨HAK.out.same (Below.heap_setCell _ _ _ _ (by show p1 ≠ g; omega)) (fun k hk => Below.heap_setCell _ _ _ _ (by have := hk.1; show k ≠ g; omega))⟩⟩
                  · obtain rfl : j = zs.length := by omega
                    have hBut3 : But W0.heap.size (at1 p1) W0 wr := ((But.of HW1.out (Nat.le_refl _)).trans (HBT.out.mono HW1.out.size (fun _ _ e => e))).then HB3.out (by omega)
                    have hObK := hOb.but hBut3 hOb.lt (fun e => by have : ba = p1 := e; have := HST.out.apart; omega)
                    have hSK3 := (Sl.same hS1 (fun k hk => hBut3.block k hk.1 (fun e => hk.2.2.1 e)))
                    obtain ⟨Av, cv, rfl, hcv, hCv, _⟩ := hSK3
                    obtain ⟨c3a, f3a⟩ := hObK 1 _ rfl
                    have hBX3 := HBX2.out.below HB3.out (by omega)
                    obtain ⟨c3b, _⟩ := hBX3 2 _ rfl
                    have hC03 := Kd.C_below HC0.out (HBW2.out.trans (HB3.out.mono (by have := HB.out.size; omega)))
                    have HBut3 := Aside0.mk hBut3
                    have HObK := Aside0.mk hObK
                    have HCv := Aside0.mk hCv
                    have HC03 := Aside0.mk hC03
                    have HAp := Aside0.mk HST.out.apart
                    have hw23 := HB3.out.size
                    obtain ⟨Z, hZ⟩ : ∃ Z, y1 ++ zs = Z := ⟨_, rfl⟩
                    have hbz : Byt Z := fun x hx => by rw [← hZ] at hx; exact (List.mem_append.1 hx).elim (fun h => HST.out.byt.2 x h) (fun h => HBZ.out x h)
                    have hzlen : Z.length ≤ 600 * (k + 1) := by have := HL1.out; rw [← hZ, List.length_append]; omega
                    rw [hZ] at HAK
                    have HZ := Aside0.mk hZ
                    have HZB := Aside0.mk hbz
                    have HZL := Aside0.mk hzlen
                    clear hZ hbz hzlen
                    have hbal := hOb.lt
                    have hylen := HL1.out
                    have hapn := HAp.out
                    clear hOb hBut3 hObK hCv hC03 hBX3 HBX2 HOM HMS HBT hjlt hgj hj HGm
                    go_wp2_with fail
                    refine region [(0, .p), (2, .p), (3, .p), (6, .p), (4, .t), (7, .t), (1, .o), (5, .o), (8, .o), (9, .p), (10, .e)] (fun V => V.cell? ⟨ba, 1, none⟩ = some (.slice Av y1.length cv) ∧ V.cell? ⟨W0.heap.size, 2, none⟩ = some (.slice A0 zs.length c0)) (by kernel_rfl) (by kernel_rfl) (fun _ _ _ _ _ h => h) (⟨c3a, c3b⟩) (fun hHeld => ?_)
                    iterate 4 (refine lex_p rfl rfl rfl (by intro w'; go_simp; with_reducible rfl) (by simp only [Act.put, List.setIfInBounds_toArray, List.set_cons_zero, List.set_cons_succ, i64_w, i32_w]; rfl) ?_)
                    iterate 2 (refine lex_t rfl rfl rfl (by rintro w' ⟨s1, s2⟩; go_simp; with_reducible rfl) (by simp only [Act.put, List.setIfInBounds_toArray, List.set_cons_zero, List.set_cons_succ, i64_w, i32_w]; rfl) ?_)
                    refine lex_o rfl ?_
                    go_wp2_with fail
                    refine lex_end (by first | (simp only [Act.put, List.setIfInBounds_toArray, List.set_cons_zero, List.set_cons_succ, i64_w, i32_w]; rfl) | rfl) (⟨pw_cell_below (below_alloc (Below.refl _ _) _) hHeld.1, pw_cell_below (below_alloc (Below.refl _ _) _) hHeld.2⟩) (fun hHeld => ?_)
                    refine lex_o rfl ?_
                    refine ap_row wr.heap.size _ _ rfl rfl (OB.lit wr.drew [] [] rfl 0 rfl (Nat.le_refl _) (by simp)) (Kd.C_below HCv.out (below_alloc (below_drew (Below.refl _ _)) _)) rfl rfl (by simp) (by simp; omega) ?_
                    intro v4 w4 ho hb4
                    have HO4 : Aside0 (OB wr.heap.size w4 v4 y1) := ⟨ho⟩
                    have HB34 := Aside0.mk ((below_alloc (below_drew (Below.refl wr.heap.size wr)) _).trans hb4)
                    clear ho hb4
                    refine lex_end (by first | (simp only [Act.put, List.setIfInBounds_toArray, List.set_cons_zero, List.set_cons_succ, i64_w, i32_w]; rfl) | rfl) (⟨pw_cell_below HB34.out c3a, pw_cell_below HB34.out c3b⟩) (fun hHeld => ?_)
                    refine lex_o rfl ?_
                    refine ap_row wr.heap.size _ _ rfl rfl HO4.out (Kd.C_below HC03.out HB34.out) rfl rfl HB34.out.size (by omega) ?_
                    intro v5 w5 ho hb5
                    have HO5 : Aside0 (OB wr.heap.size w5 v5 Z) := ⟨by rw [← HZ.out]; exact ho⟩
                    have HB35 := Aside0.mk (HB34.out.trans hb5)
                    clear ho hb5
                    refine lex_end (by first | (simp only [Act.put, List.setIfInBounds_toArray, List.set_cons_zero, List.set_cons_succ, i64_w, i32_w]; rfl) | rfl) (⟨pw_cell_below HB35.out c3a, pw_cell_below HB35.out c3b⟩) (fun hHeld => ?_)
                    (refine lex_p rfl rfl rfl (by intro w'; go_simp; with_reducible rfl) (by simp only [Act.put, List.setIfInBounds_toArray, List.set_cons_zero, List.set_cons_succ, i64_w, i32_w]; rfl) ?_)
                    refine lex_e rfl ?_
                    have hO5b := HObK.out.below HB35.out HObK.out.lt
                    obtain ⟨c5a, f5a⟩ := hO5b 1 _ rfl
                    obtain ⟨A5, c5, rfl, _, _⟩ := HO5.out.reads
                    go_wp2_with fail
                    refine putQ_normal ?_
                    go_wp2_with fail
                    go_roundg (G - 1)
                    case measure => omega
                    case rel =>
                      have hs3 := HBut3.out.size
                      have hs5 := HB35.out.size
                      have hbut : But W0.heap.size (fun k => k = p1 ∨ k = ba) W0 (w5.setCell ⟨ba, 1, none⟩ (.slice A5 Z.length c5)) := ((HBut3.out.mono (Nat.le_refl _) (fun _ _ e => .inl e)).then HB35.out hs3).setCell (p := ⟨ba, 1, none⟩) (.inr (.inr rfl)) _
                      have hap := HAp.out
                      have l0 := HST.out.a0.lt
                      have l1 := HST.out.a1.lt
                      have l2 := HST.out.l.lt
                      have hak : HD (Qk p0 p1 bl ba (w5.setCell ⟨ba, 1, none⟩ (.slice A5 Z.length c5))) p1 (w5.setCell ⟨ba, 1, none⟩ (.slice A5 Z.length c5)) Z := by
                        have h6 := HAK.out.below HB35.out (fun k hk => by have := hk.2; omega) HAK.out.lt
                        refine (h6.same (Below.heap_setCell _ _ _ _ (by show p1 ≠ ba; omega)) (fun k hk => Below.heap_setCell _ _ _ _ (by have := hk.1; show k ≠ ba; omega))).mono (fun k hk => ?_)
                        obtain ⟨h7, h8⟩ := hk
                        exact ⟨by simp [World.setCell]; omega, by omega, by omega, by omega, by omega⟩
                      have hob : Ob ba (w5.setCell ⟨ba, 1, none⟩ (.slice A5 Z.length c5)) [v0, .slice A5 Z.length c5] := by simpa using hO5b.set 1 (by simp) (.slice A5 Z.length c5)
                      have hsl : Sl (Qk p0 p1 bl ba (w5.setCell ⟨ba, 1, none⟩ (.slice A5 Z.length c5))) (w5.setCell ⟨ba, 1, none⟩ (.slice A5 Z.length c5)) (.slice A5 Z.length c5) Z := by
                        refine (Sl.same (HO5.out.sl (S := fun k => wr.heap.size ≤ k ∧ k < w5.heap.size) (fun k h3 h4 => ⟨h3, h4⟩)) (fun k hk => Below.heap_setCell _ _ _ _ (by show k ≠ ba; omega))).mono (fun k hk => ⟨by simp [World.setCell]; exact hk.2, by omega, by omega, by omega, by omega⟩)
                      exact ⟨k + 1, p0, p1, y0, Z, by omega, by omega, by go_num, ⟨by have := HZL.out; have := HL0.out; omega⟩, ⟨by have := HZL.out; have := HL0.out; omega⟩, ⟨HST.out.upd1 hS0 hbut hak _ hob hsl HZB.out⟩, ⟨HBW2.out.trans ((HB3.out.mono (by have := HB.out.size; omega)).trans ((HB35.out.mono (by have := HB.out.size; omega)).setCell (p := ⟨ba, 1, none⟩) HST.out.base.2.2.2 _))⟩⟩
              · have hw0 : (what == 0) = false := by simpa using h0
                by_cases h1 : what = 1
                · subst h1
                  obtain ⟨Av, cv, rfl, hcv, hCv, _⟩ := hS1
                  obtain ⟨qa, _⟩ := hOb 1 _ rfl
                  obtain ⟨ql, _⟩ := HST.out.l 1 _ rfl
                  have hBX := below_drew (below_alloc (Below.refl W0.heap.size W0) (.cells #[.int .i64 1, .bool true, .slice A0 zs.length c0] 46))
                  have HCv := Aside0.mk hCv
                  obtain ⟨bx, heq, -, HRS, -, HHS, HBX0⟩ := sums_ex y1 HST.out.byt.2 (by have := HL1.out; omega)
                  have hne := fun W => neq20 (sumOf_len y1) HBX0.out W
                  clear hCv hOb heq
                  go_wp2_with fail
                  obtain ⟨W1, hW1⟩ : ∃ W1, W0.alloc (.cells #[.int .i64 1, .bool true, .slice A0 zs.length c0] 46) = W1 := ⟨_, rfl⟩
                  rw [hW1] at hBX ⊢
                  have ql1 := pw_cell_below hBX ql
                  have qa1 := pw_cell_below hBX qa
                  have HST1 := Aside0.mk (HST.out.below hBX)
                  have HBX := Aside0.mk hBX
                  clear hW1 hBX ql qa q0w q1w q2w
                  refine region [(0, .p), (1, .p), (2, .p), (5, .p), (6, .p), (3, .t), (7, .t), (4, .o), (8, .o), (9, .p), (10, .p), (11, .p), (12, .p), (13, .p), (16, .p), (17, .p), (14, .t), (18, .t), (19, .p), (15, .o), (20, .p), (21, .p)] (fun V => V.cell? ⟨bl, 1, none⟩ = some (ptr p1) ∧ V.cell? ⟨ba, 1, none⟩ = some (.slice Av y1.length cv)) (by kernel_rfl) (by kernel_rfl) (fun _ _ _ _ _ h => h) (⟨ql1, qa1⟩) (fun hHeld => ?_)
                  iterate 5 (refine lex_p rfl rfl rfl (by intro w'; go_simp; with_reducible rfl) (by simp only [Act.put, List.setIfInBounds_toArray, List.set_cons_zero, List.set_cons_succ, i64_w, i32_w]; rfl) ?_)
                  iterate 2 (refine lex_t rfl rfl rfl (by rintro w' ⟨s1, s2⟩; go_simp; with_reducible rfl) (by simp only [Act.put, List.setIfInBounds_toArray, List.set_cons_zero, List.set_cons_succ, i64_w, i32_w]; rfl) ?_)
                  refine lex_o rfl ?_
                  go_wp2_with fail
                  refine (HHS.out HST1.out.a1 (fun k hk => hk.1)).mono ?_
                  rintro e w2 ⟨rfl, hb2⟩
                  have HST2 := Aside0.mk (HST1.out.below hb2)
                  have HB2 := Aside0.mk hb2
                  have HBX2 : Aside0 (Below W0.heap.size W0 w2) := ⟨HBX.out.trans (hb2.mono HBX.out.size)⟩
                  clear hb2
                  go_wp2_with fail
                  refine lex_end (by first | (simp only [Act.put, List.setIfInBounds_toArray, List.set_cons_zero, List.set_cons_succ, i64_w, i32_w]; rfl) | rfl) (⟨pw_cell_below HB2.out ql1, pw_cell_below HB2.out qa1⟩) (fun hHeld => ?_)
                  refine lex_o rfl ?_
                  go_wp2_with fail
                  refine (HRS.out Av cv w2 (Kd.C_below HCv.out HBX2.out) hcv).mono ?_
                  rintro e w3 ⟨rfl, hb3⟩
                  have HST3 := Aside0.mk (HST2.out.below hb3)
                  have HB3 := Aside0.mk (HB2.out.trans (hb3.mono HB2.out.size))
                  have HBX3 : Aside0 (Below W0.heap.size W0 w3) := ⟨HBX2.out.trans (hb3.mono HBX2.out.size)⟩
                  clear hb3
                  go_wp2_with fail
                  refine lex_end (by first | (simp only [Act.put, List.setIfInBounds_toArray, List.set_cons_zero, List.set_cons_succ, i64_w, i32_w]; rfl) | rfl) (⟨pw_cell_below HB3.out ql1, pw_cell_below HB3.out qa1⟩) (fun hHeld => ?_)
                  iterate 7 (refine lex_p rfl rfl rfl (by intro w'; go_simp; with_reducible rfl) (by simp only [Act.put, List.setIfInBounds_toArray, List.set_cons_zero, List.set_cons_succ, i64_w, i32_w]; rfl) ?_)
                  iterate 2 (refine lex_t rfl rfl rfl (by rintro w' ⟨s1, s2⟩; go_simp; with_reducible rfl) (by simp only [Act.put, List.setIfInBounds_toArray, List.set_cons_zero, List.set_cons_succ, i64_w, i32_w]; rfl) ?_)
                  (refine lex_p rfl rfl rfl (by intro w'; go_simp; with_reducible rfl) (by simp only [Act.put, List.setIfInBounds_toArray, List.set_cons_zero, List.set_cons_succ, i64_w, i32_w]; rfl) ?_)
                  refine lex_o rfl ?_
                  go_wp2_with fail
                  refine (dLen HST3.out.a1).mono ?_
                  rintro e w' ⟨rfl, rfl⟩
                  go_wp2_with fail
                  refine lex_end (by first | (simp only [Act.put, List.setIfInBounds_toArray, List.set_cons_zero, List.set_cons_succ, i64_w, i32_w]; rfl) | rfl) (⟨pw_cell_below HB3.out ql1, pw_cell_below HB3.out qa1⟩) (fun hHeld => ?_)
                  iterate 2 (refine lex_p rfl rfl rfl (by intro w'; go_simp; with_reducible rfl) (by simp only [Act.put, List.setIfInBounds_toArray, List.set_cons_zero, List.set_cons_succ, i64_w, i32_w]; rfl) ?_)
                  refine lex_nil ?_
                  go_wp2_with fail
                  go_roundg (G - 1)
                  case measure => omega
                  case rel => exact ⟨k + 1, p0, p1, y0, y1, by omega, by omega, by go_num, ⟨by have := HL1.out; have := HL0.out; omega⟩, ⟨by have := HL1.out; have := HL0.out; omega⟩, HST3, ⟨HB.out.trans (HBX3.out.mono HB.out.size)⟩⟩
                · have hw1 : (what == 1) = false := by simpa using h1
                  obtain ⟨Av, cv, rfl, hcv, hCv, hqv⟩ := id hS0
                  have hBX := below_alloc (Below.refl W0.heap.size W0) (.cells #[.int .i64 what, .bool true, .slice A0 zs.length c0] 46)
                  have HSO := Aside0.mk hS0
                  have HOb := Aside0.mk hOb
                  have HST1 := Aside0.mk (HST.out.below hBX)
                  have HOb1 := Aside0.mk (HOb.out.below hBX HOb.out.lt)
                  obtain ⟨ql1, _⟩ := HST1.out.l 0 _ rfl
                  have HBX := Aside0.mk hBX
                  have HAp := Aside0.mk HST.out.apart
                  clear hCv hOb hS0 hqv hBX
                  have wr1 : wrap64 1 = 1 := wz1
                  have wr0 : wrap64 0 = 0 := wz0
                  go_wp2_with fail
                  refine (dCopy HST1.out.a0).mono ?_
                  rintro e w2 ⟨Q, rfl, hq2, hQ, hb2⟩
                  have HQ2 := Aside0.mk hq2
                  have HL2 := Aside0.mk (HST1.out.l.below hb2 HST1.out.l.lt)
                  have HOb2 := Aside0.mk (HOb1.out.below hb2 HOb1.out.lt)
                  have HBX2 : Aside0 (Below W0.heap.size W0 w2) := ⟨HBX.out.trans (hb2.mono HBX.out.size)⟩
                  have hQ2 : W0.heap.size ≤ Q := by have := HBX.out.size; omega
                  have hlt2 := hq2.lt
                  have hb2s := hb2.size
                  have hbxs := HBX.out.size
                  have hapn := HAp.out
                  obtain ⟨cl, fl⟩ := HL2.out 1 _ rfl
                  have HL3 := Aside0.mk (HL2.out.set 1 (by simp) (ptr Q))
                  have HOb3 := Aside0.mk (HOb2.out.far (q := ⟨bl, 1, none⟩) (by show ba ≠ bl; omega) (ptr Q))
                  obtain ⟨co, _⟩ := HOb3.out 0 _ rfl
                  obtain ⟨ca, fa⟩ := HOb3.out 1 _ rfl
                  clear hq2 hb2 ql1 q0w q1w q2w
                  go_wp2_with fail
                  go_roundg (G - 1)
                  case measure => omega
                  case rel =>
                    have hap := HAp.out
                    have hbase := HST.out.base
                    have hbls := HST.out.l.lt
                    have hbas := HOb.out.lt
                    have hlp0 := HST.out.a0.lt
                    have hlp1 := HST.out.a1.lt
                    have hbut : But W0.heap.size (fun k => k = bl ∨ k = ba) W0 ((w2.setCell ⟨bl, 1, none⟩ (ptr Q)).setCell ⟨ba, 1, none⟩ (.slice Av y0.length cv)) := ((But.of HBX2.out (Nat.le_refl _)).setCell (p := ⟨bl, 1, none⟩) (.inr (.inl rfl)) _).setCell (p := ⟨ba, 1, none⟩) (.inr (.inr rfl)) _
                    have hak : HD (Qk p0 Q bl ba ((w2.setCell ⟨bl, 1, none⟩ (ptr Q)).setCell ⟨ba, 1, none⟩ (.slice Av y0.length cv))) Q ((w2.setCell ⟨bl, 1, none⟩ (ptr Q)).setCell ⟨ba, 1, none⟩ (.slice Av y0.length cv)) y0 := by
                      have h7 := HQ2.out.same (w' := (w2.setCell ⟨bl, 1, none⟩ (ptr Q)).setCell ⟨ba, 1, none⟩ (.slice Av y0.length cv)) ((Below.heap_setCell _ _ _ _ (by show Q ≠ ba; omega)).trans (Below.heap_setCell _ _ _ _ (by show Q ≠ bl; omega))) (fun k hk => (Below.heap_setCell _ _ _ _ (by have := hk.1; show k ≠ ba; omega)).trans (Below.heap_setCell _ _ _ _ (by have := hk.1; show k ≠ bl; omega)))
                      refine h7.mono (fun k hk => ?_)
                      obtain ⟨h8, h9⟩ := hk
                      exact ⟨by simp [World.setCell]; omega, by omega, by omega, by omega, by omega⟩
                    have hl4 := HL3.out.far (q := ⟨ba, 1, none⟩) (by show bl ≠ ba; omega) (.slice Av y0.length cv)
                    have hob4 := HOb3.out.set 1 (by simp) (.slice Av y0.length cv)
                    exact ⟨k + 1, p0, Q, y0, y0, by omega, by omega, by go_num, ⟨by have := HL1.out; have := HL0.out; omega⟩, ⟨by have := HL1.out; have := HL0.out; omega⟩, ⟨HST.out.copy1 HOb.out HSO.out Q hQ2 hbut hak hl4 hob4⟩, ⟨(HB.out.trans (HBX2.out.mono HB.out.size)).setCell (p := ⟨bl, 1, none⟩) hbase.2.2.1 _ |>.setCell (p := ⟨ba, 1, none⟩) hbase.2.2.2 _⟩⟩
          · obtain rfl : k = xs.length := by omega
            obtain ⟨v0, v1, hOb, hS0, hS1⟩ := HST.out.all
            obtain ⟨A0, c0, rfl, hcc0, hC0, _⟩ := hS0
            obtain ⟨A1, c1, rfl, hcc1, hC1, _⟩ := hS1
            have HSV : Aside0 (∀ V, Below wr.heap.size wr V → (V.cell? ⟨bl, 0, none⟩ = some (ptr p0) ∧ V.cell? ⟨ba, 0, none⟩ = some (.slice A0 y0.length c0)) ∧ (V.cell? ⟨bl, 1, none⟩ = some (ptr p1) ∧ V.cell? ⟨ba, 1, none⟩ = some (.slice A1 y1.length c1))) := ⟨fun V h => ⟨⟨pw_cell_below h (HST.out.l 0 _ rfl).1, pw_cell_below h (hOb 0 _ rfl).1⟩, ⟨pw_cell_below h (HST.out.l 1 _ rfl).1, pw_cell_below h (hOb 1 _ rfl).1⟩⟩⟩
            have HC0 := Aside0.mk hC0
            have HC1 := Aside0.mk hC1
            have HB0 : Aside0 (Below wr.heap.size wr wr.drew) := ⟨below_drew (Below.refl _ _)⟩
            obtain ⟨b0, heq0, -, HRS0, -, HHS0, -⟩ := sums_ex y0 HST.out.byt.1 (by have := HL0.out; omega)
            obtain ⟨b1, heq1, -, HRS1, -, HHS1, -⟩ := sums_ex y1 HST.out.byt.2 (by have := HL1.out; omega)
            obtain ⟨bz, hbz⟩ : ∃ bz, ((List.replicate 20 (0 : Int)).map (Value.int .u8)).toArray = bz := ⟨_, rfl⟩
            have heqz := eqz hbz
            have HNIL := Aside0.mk (fun W => hSum_nil W)
            rw [hbz] at HNIL
            clear hOb hC0 hC1 hbz
            go_wp2_with fail
            refine region [(0, .p), (1, .p), (4, .p), (2, .t), (5, .t), (3, .o), (6, .o), (7, .p), (8, .p), (9, .p), (10, .p), (13, .p), (11, .t), (14, .t), (12, .o), (15, .o), (16, .p), (17, .p), (18, .p), (19, .p), (20, .o), (21, .o), (22, .p), (23, .p), (24, .p), (25, .p), (27, .p), (26, .o), (28, .p), (29, .p), (30, .p), (31, .p), (32, .o), (33, .p), (34, .p), (35, .p), (36, .p), (37, .o), (38, .p), (39, .p), (40, .p), (41, .q), (42, .p), (43, .p)] (fun V => (V.cell? ⟨bl, 0, none⟩ = some (ptr p0) ∧ V.cell? ⟨ba, 0, none⟩ = some (.slice A0 y0.length c0)) ∧ (V.cell? ⟨bl, 1, none⟩ = some (ptr p1) ∧ V.cell? ⟨ba, 1, none⟩ = some (.slice A1 y1.length c1))) (by kernel_rfl) (by kernel_rfl) (fun _ _ _ _ _ h => h) (HSV.out _ HB0.out) (fun hHeld => ?_)
            iterate 3 (refine lex_p rfl rfl rfl (by intro w'; go_simp; with_reducible rfl) (by simp only [Act.put, List.setIfInBounds_toArray, List.set_cons_zero, List.set_cons_succ, i64_w, i32_w]; rfl) ?_)
            iterate 2 (refine lex_t rfl rfl rfl (by rintro w' ⟨⟨s1, s2⟩, ⟨s3, s4⟩⟩; go_simp; with_reducible rfl) (by simp only [Act.put, List.setIfInBounds_toArray, List.set_cons_zero, List.set_cons_succ, i64_w, i32_w]; rfl) ?_)
            refine lex_o rfl ?_
            go_wp2_with fail
            refine (HHS0.out (HST.out.below HB0.out).a0 (fun k hk => hk.1)).mono ?_
            rintro e x1 ⟨rfl, hb⟩
            have HB1 := Aside0.mk (HB0.out.trans (hb.mono HB0.out.size))
            clear hb
            go_wp2_with fail
            refine lex_end (by first | (simp only [Act.put, List.setIfInBounds_toArray, List.set_cons_zero, List.set_cons_succ, i64_w, i32_w]; rfl) | rfl) (HSV.out _ HB1.out) (fun hHeld => ?_)
            refine lex_o rfl ?_
            go_wp2_with fail
            refine (HRS0.out A0 c0 _ (Kd.C_below HC0.out HB1.out) hcc0).mono ?_
            rintro e x2 ⟨rfl, hb⟩
            have HB2 := Aside0.mk (HB1.out.trans (hb.mono HB1.out.size))
            clear hb
            go_wp2_with fail
            refine lex_end (by first | (simp only [Act.put, List.setIfInBounds_toArray, List.set_cons_zero, List.set_cons_succ, i64_w, i32_w]; rfl) | rfl) (HSV.out _ HB2.out) (fun hHeld => ?_)
            iterate 5 (refine lex_p rfl rfl rfl (by intro w'; go_simp; with_reducible rfl) (by simp only [Act.put, List.setIfInBounds_toArray, List.set_cons_zero, List.set_cons_succ, i64_w, i32_w]; rfl) ?_)
            iterate 2 (refine lex_t rfl rfl rfl (by rintro w' ⟨⟨s1, s2⟩, ⟨s3, s4⟩⟩; go_simp; with_reducible rfl) (by simp only [Act.put, List.setIfInBounds_toArray, List.set_cons_zero, List.set_cons_succ, i64_w, i32_w]; rfl) ?_)
            refine lex_o rfl ?_
            go_wp2_with fail
            refine (HHS1.out (HST.out.below HB2.out).a1 (fun k hk => hk.1)).mono ?_
            rintro e x3 ⟨rfl, hb⟩
            have HB3 := Aside0.mk (HB2.out.trans (hb.mono HB2.out.size))
            clear hb
            go_wp2_with fail
            refine lex_end (by first | (simp only [Act.put, List.setIfInBounds_toArray, List.set_cons_zero, List.set_cons_succ, i64_w, i32_w]; rfl) | rfl) (HSV.out _ HB3.out) (fun hHeld => ?_)
            refine lex_o rfl ?_
            go_wp2_with fail
            refine (HRS1.out A1 c1 _ (Kd.C_below HC1.out HB3.out) hcc1).mono ?_
            rintro e x4 ⟨rfl, hb⟩
            have HB4 := Aside0.mk (HB3.out.trans (hb.mono HB3.out.size))
            clear hb
            go_wp2_with fail
            refine lex_end (by first | (simp only [Act.put, List.setIfInBounds_toArray, List.set_cons_zero, List.set_cons_succ, i64_w, i32_w]; rfl) | rfl) (HSV.out _ HB4.out) (fun hHeld => ?_)
            iterate 4 (refine lex_p rfl rfl rfl (by intro w'; go_simp; with_reducible rfl) (by simp only [Act.put, List.setIfInBounds_toArray, List.set_cons_zero, List.set_cons_succ, i64_w, i32_w]; rfl) ?_)
            refine lex_o rfl ?_
            go_wp2_with fail
            refine (hWrite_nil _ _ _ _).mono ?_
            rintro e x5 ⟨rfl, hb⟩
            have HB5 := Aside0.mk (HB4.out.trans (hb.mono HB4.out.size))
            clear hb
            go_wp2_with fail
            refine lex_end (by first | (simp only [Act.put, List.setIfInBounds_toArray, List.set_cons_zero, List.set_cons_succ, i64_w, i32_w]; rfl) | rfl) (HSV.out _ HB5.out) (fun hHeld => ?_)
            refine lex_o rfl ?_
            go_wp2_with fail
            refine (num _ _).mono ?_
            rintro e w' ⟨rfl, rfl⟩
            go_wp2_with fail
            refine lex_end (by first | (simp only [Act.put, List.setIfInBounds_toArray, List.set_cons_zero, List.set_cons_succ, i64_w, i32_w]; rfl) | rfl) (HSV.out _ HB5.out) (fun hHeld => ?_)
            iterate 5 (refine lex_p rfl rfl rfl (by intro w'; go_simp; with_reducible rfl) (by simp only [Act.put, List.setIfInBounds_toArray, List.set_cons_zero, List.set_cons_succ, i64_w, i32_w]; rfl) ?_)
            refine lex_o rfl ?_
            go_wp2_with fail
            refine (HNIL.out _).mono ?_
            rintro e x6 ⟨rfl, hb⟩
            have HB6 := Aside0.mk (HB5.out.trans (hb.mono HB5.out.size))
            clear hb
            go_wp2_with fail
            refine lex_end (by first | (simp only [Act.put, List.setIfInBounds_toArray, List.set_cons_zero, List.set_cons_succ, i64_w, i32_w]; rfl) | rfl) (HSV.out _ HB6.out) (fun hHeld => ?_)
            iterate 4 (refine lex_p rfl rfl rfl (by intro w'; go_simp; with_reducible rfl) (by simp only [Act.put, List.setIfInBounds_toArray, List.set_cons_zero, List.set_cons_succ, i64_w, i32_w]; rfl) ?_)
            refine lex_o rfl ?_
            go_wp2_with fail
            refine (hLen_nil _).mono ?_
            rintro e w' ⟨rfl, rfl⟩
            go_wp2_with fail
            refine lex_end (by first | (simp only [Act.put, List.setIfInBounds_toArray, List.set_cons_zero, List.set_cons_succ, i64_w, i32_w]; rfl) | rfl) (HSV.out _ HB6.out) (fun hHeld => ?_)
            iterate 4 (refine lex_p rfl rfl rfl (by intro w'; go_simp; with_reducible rfl) (by simp only [Act.put, List.setIfInBounds_toArray, List.set_cons_zero, List.set_cons_succ, i64_w, i32_w]; rfl) ?_)
            refine lex_o rfl ?_
            go_wp2_with fail
            refine (hCopy_nil _).mono ?_
            rintro e w' ⟨rfl, rfl⟩
            go_wp2_with fail
            refine lex_end (by first | (simp only [Act.put, List.setIfInBounds_toArray, List.set_cons_zero, List.set_cons_succ, i64_w, i32_w]; rfl) | rfl) (HSV.out _ HB6.out) (fun hHeld => ?_)
            iterate 3 (refine lex_p rfl rfl rfl (by intro w'; go_simp; with_reducible rfl) (by simp only [Act.put, List.setIfInBounds_toArray, List.set_cons_zero, List.set_cons_succ, i64_w, i32_w]; rfl) ?_)
            refine lex_q rfl ?_
            go_wp2_with fail
            refine (works _).mono ?_
            rintro e x7 ⟨rfl, hb⟩
            have HB7 := Aside0.mk (HB6.out.trans (hb.mono HB6.out.size))
            clear hb
            go_wp2_with fail
            refine lex_endq (by first | (simp only [Act.put, List.setIfInBounds_toArray, List.set_cons_zero, List.set_cons_succ, i64_w, i32_w]; rfl) | rfl) ?_
            iterate 2 (refine lex_p rfl rfl rfl (by intro w'; go_simp; with_reducible rfl) (by simp only [Act.put, List.setIfInBounds_toArray, List.set_cons_zero, List.set_cons_succ, i64_w, i32_w]; rfl) ?_)
            refine lex_nil ?_
            go_wp2_with fail
            go_ret
            exact ⟨rfl, HB.out.trans (HB7.out.mono HB.out.size)⟩
end Go.Proofs.Ytfenpgeicgoedaa.Sha
