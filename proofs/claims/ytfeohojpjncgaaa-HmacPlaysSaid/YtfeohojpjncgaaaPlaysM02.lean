/- Two tags under way: their state by a number, 0 or 1. · Two tags under way: the keys' rows, and the start. · The walk of HmacPlays. · The law HmacPlays: its two ways joined. -/
import Derived.Test.YtfeohojpjncgaaaLawsB02
import Derived.Test.YtfeohojpjncgaaaOpen
import Derived.Deep.CutRange
set_option linter.unusedSimpArgs false
set_option linter.unusedVariables false
namespace Go.Proofs.Ytfeohojpjncgaaa.Row
open Go.RowKit Go.Proofs.YtfeohojpjncgaaaW.PrintWords Go.Proofs.Ytfeohojpjncgaaa.Lib
theorem opens_bytes : Opens Lib.KBB 22 (fun xs => ∀ n ∈ xs, (Lit.int .u8 n).wf = true) :=
  opens_slice Try.underlying22 (by kernel_rfl) (opens_int Try.underlying5 (by kernel_rfl))
end Go.Proofs.Ytfeohojpjncgaaa.Row
namespace Go.Proofs.Ytfeohojpjncgaaa.Sha
open Go.RowKit Go.Proofs.YtfeohojpjncgaaaW.PrintWords Go.Proofs.YtfeohojpjncgaaaW.PrintLast Go.Proofs.YtfeohojpjncgaaaW.PrintMore Go.Proofs.Ytfeohojpjncgaaa.PSha1Plays Go.Proofs.Ytfeohojpjncgaaa.Lex Go.Proofs.Ytfeohojpjncgaaa.Lib
/-- a function, another value at one place -/
def upd {α : Type} (f : Nat → α) (k : Nat) (v : α) : Nat → α := fun j => if j = k then v else f j
theorem upd_at {α : Type} (f : Nat → α) (k : Nat) (v : α) : upd f k v k = v := if_pos rfl
theorem upd_ne {α : Type} (f : Nat → α) {k j : Nat} (v : α) (h : j ≠ k) : upd f k v j = f j := if_neg h
def two (f : Nat → Value) : List Value := [f 0, f 1]
theorem two_get (f : Nat → Value) {k : Nat} (hk : k < 2) : (two f)[k]? = some (f k) := by
  match k, hk with
  | 0, _ => rfl
  | 1, _ => rfl
theorem two_set (f : Nat → Value) {k : Nat} (hk : k < 2) (v : Value) : (two f).set k v = two (upd f k v) := by
  match k, hk with
  | 0, _ => simp [two, upd]
  | 1, _ => simp [two, upd]
theorem two_len (f : Nat → Value) : (two f).length = 2 := rfl
theorem upd_ptr (p : Nat → Nat) (k q : Nat) : upd (fun j => ptr (p j)) k (ptr q) = fun j => ptr (upd p k q j) := by
  funext j
  unfold upd
  split <;> rfl
theorem MD.same {S : Nat → Prop} {p h : Nat} {w w' : World} {key D : List Int} (hM : MD S p h w key D) (h1 : w'.heap[p]? = w.heap[p]?) (h2 : w'.heap[h]? = w.heap[h]?) (h3 : ∀ k, S k → w'.heap[k]? = w.heap[k]?) : MD S p h w' key D := ⟨hM.1.same h1, hM.2.1.same h2 h3, hM.2.2⟩
theorem MD.mono {S S' : Nat → Prop} {p h : Nat} {w : World} {key D : List Int} (hM : MD S p h w key D) (hs : ∀ k, S k → S' k) : MD S' p h w key D := ⟨hM.1, hM.2.1.mono hs, hM.2.2⟩
theorem MD.below {S : Nat → Prop} {p h n : Nat} {w w' : World} {key D : List Int} (hM : MD S p h w key D) (hb : Below n w w') (h1 : p < n) (h2 : h < n) (h3 : ∀ k, S k → k < n) : MD S p h w' key D := hM.same (hb.block p h1) (hb.block h h2) (fun k hk => hb.block k (h3 k hk))
theorem ob_but {b : Nat} {w w' : World} {v : Value} {xs : List Int} {S : Nat → Prop} (h : OB b w v xs) (hb : But w.heap.size S w w') (hS : ∀ k, b ≤ k → ¬ S k) : OB b w' v xs :=
  Kd.R_mono (Kd.R_step (Kd.R_bound h) (fun k hk hlt => hb.block k hlt (hS k hk.2.1))) (fun _ _ => trivial)
/-- where the bytes of tag k's hash may lie -/
abbrev QM (bl bo ba : Nat) (h : Nat → Nat) (k : Nat) (w : World) : Nat → Prop := fun j => j < w.heap.size ∧ j ≠ bl ∧ j ≠ bo ∧ j ≠ ba ∧ ∀ i, i < 2 → i ≠ k → j ≠ h i
/-- where what was written may lie -/
abbrev QA (bl bo ba : Nat) (h : Nat → Nat) (w : World) : Nat → Prop := fun j => j < w.heap.size ∧ j ≠ bl ∧ j ≠ bo ∧ j ≠ ba ∧ ∀ i, i < 2 → j ≠ h i
structure Duo (w0 : World) (bl bo ba : Nat) (p h : Nat → Nat) (key y : Nat → List Int) (vo va : Nat → Value) (w : World) : Prop where
  base : w0.heap.size ≤ bl ∧ w0.heap.size ≤ bo ∧ w0.heap.size ≤ ba
  ph : ∀ k, k < 2 → w0.heap.size ≤ h k
  ap : bl ≠ bo ∧ bl ≠ ba ∧ bo ≠ ba
  aph : ∀ k, k < 2 → (p k ≠ bl ∧ p k ≠ bo ∧ p k ≠ ba) ∧ (h k ≠ bl ∧ h k ≠ bo ∧ h k ≠ ba)
  hh : ∀ k j, k < 2 → j < 2 → k ≠ j → h k ≠ h j
  hp : ∀ k j, k < 2 → j < 2 → h k ≠ p j
  m : ∀ k, k < 2 → MD (QM bl bo ba h k w) (p k) (h k) w (key k) (y k)
  l : Ob bl w (two (fun k => ptr (p k)))
  o : Ob bo w (two vo)
  a : Ob ba w (two va)
  ow : ∀ k, k < 2 → ∃ A c, vo k = .slice A (key k).length c ∧ (key k).length ≤ c ∧ Kd.C KB w0 A (key k).length (key k)
  al : ∀ k, k < 2 → Sl (QA bl bo ba h w) w (va k) (y k)
  bel : Below w0.heap.size w0 w
  kb : ∀ k, k < 2 → Byt (key k) ∧ (key k).length ≤ 500 ∧ Byt (y k)
section
variable {w0 : World} {bl bo ba : Nat} {p h : Nat → Nat} {key y : Nat → List Int} {vo va : Nat → Value} {w w' : World}
theorem Duo.lth (d : Duo w0 bl bo ba p h key y vo va w) {k : Nat} (hk : k < 2) : h k < w.heap.size := (d.m k hk).2.1.lt
theorem Duo.ltp (d : Duo w0 bl bo ba p h key y vo va w) {k : Nat} (hk : k < 2) : p k < w.heap.size := (d.m k hk).1.lt
theorem Duo.ltb (d : Duo w0 bl bo ba p h key y vo va w) : bl < w.heap.size ∧ bo < w.heap.size ∧ ba < w.heap.size := ⟨d.l.lt, d.o.lt, d.a.lt⟩
theorem Duo.below (d : Duo w0 bl bo ba p h key y vo va w) (hb : Below w.heap.size w w') : Duo w0 bl bo ba p h key y vo va w' := by
  obtain ⟨l1, l2, l3⟩ := d.ltb
  exact ⟨d.base, d.ph, d.ap, d.aph, d.hh, d.hp, fun k hk => ((d.m k hk).same (hb.block _ (d.ltp hk)) (hb.block _ (d.lth hk)) (fun j hj => hb.block j hj.1)).mono (fun j hj => ⟨Nat.lt_of_lt_of_le hj.1 hb.size, hj.2⟩),
    d.l.below hb l1, d.o.below hb l2, d.a.below hb l3, d.ow, fun k hk => (Sl.same (d.al k hk) (fun j hj => hb.block j hj.1)).mono (fun j hj => ⟨Nat.lt_of_lt_of_le hj.1 hb.size, hj.2⟩), d.bel.trans (hb.mono d.bel.size), d.kb⟩
theorem Duo.write (d : Duo w0 bl bo ba p h key y vo va w) {k : Nat} (hk : k < 2) {z : List Int} {v : Value} (hbt : But w.heap.size (fun j => j = h k ∨ j = ba) w w') (hm : MD (QM bl bo ba h k w') (p k) (h k) w' (key k) z)
    (hob : Ob ba w' (two (upd va k v))) (hv : Sl (QA bl bo ba h w') w' v z) (hz : Byt z) : Duo w0 bl bo ba p h key (upd y k z) vo (upd va k v) w' := by
  obtain ⟨l1, l2, l3⟩ := d.ltb
  obtain ⟨a1, a2, a3⟩ := d.ap
  have hap := (d.aph k hk).2
  refine ⟨d.base, d.ph, d.ap, d.aph, d.hh, d.hp, fun j hj => ?_, d.l.but hbt l1 (fun e => e.elim (fun e => hap.1 e.symm) a2), d.o.but hbt l2 (fun e => e.elim (fun e => hap.2.1 e.symm) a3), hob, d.ow, fun j hj => ?_, d.bel.trans (hbt.below d.bel.size (fun i hi e => ?_)), fun j hj => ?_⟩
  · by_cases e : j = k
    · subst e
      rw [upd_at]
      exact hm
    · rw [upd_ne y z e]
      refine ((d.m j hj).same (hbt.block _ (d.ltp hj) (fun q => q.elim (fun q => d.hp k j hk hj q.symm) (d.aph j hj).1.2.2)) (hbt.block _ (d.lth hj) (fun q => q.elim (fun q => d.hh j k hj hk e q) (d.aph j hj).2.2.2)) (fun i hi => hbt.block i hi.1 (fun q => q.elim (fun q => hi.2.2.2.2 k hk (fun s => e s.symm) q) hi.2.2.2.1))).mono (fun i hi => ⟨Nat.lt_of_lt_of_le hi.1 hbt.size, hi.2⟩)
  · by_cases e : j = k
    · subst e
      rw [upd_at, upd_at]
      exact hv
    · rw [upd_ne y z e, upd_ne va v e]
      exact (Sl.same (d.al j hj) (fun i hi => hbt.block i hi.1 (fun q => q.elim (hi.2.2.2.2 k hk) hi.2.2.2.1))).mono (fun i hi => ⟨Nat.lt_of_lt_of_le hi.1 hbt.size, hi.2⟩)
  · have h1 := d.ph k hk
    have h2 := d.base.2.2
    rcases e with e | e <;> omega
  · by_cases e : j = k
    · subst e
      rw [upd_at]
      exact ⟨(d.kb j hj).1, (d.kb j hj).2.1, hz⟩
    · rw [upd_ne y z e]
      exact d.kb j hj
theorem Duo.copy (d : Duo w0 bl bo ba p h key y vo va w) {k j : Nat} (hk : k < 2) (hj : j < 2) (hkj : j ≠ k) {p2 h2 : Nat} (hp2 : w.heap.size ≤ p2) (hh2 : w.heap.size ≤ h2) (hbt : But w.heap.size (fun i => i = bl ∨ i = bo ∨ i = ba) w w')
    (hm : MD (QM bl bo ba (upd h k h2) k w') p2 h2 w' (key j) (y j)) (hl : Ob bl w' (two (fun i => ptr (upd p k p2 i)))) (ho : Ob bo w' (two (upd vo k (vo j)))) (ha : Ob ba w' (two (upd va k (va j)))) :
    Duo w0 bl bo ba (upd p k p2) (upd h k h2) (upd key k (key j)) (upd y k (y j)) (upd vo k (vo j)) (upd va k (va j)) w' := by
  obtain ⟨l1, l2, l3⟩ := d.ltb
  have s0 := d.bel.size
  have hlp := fun i (hi : i < 2) => d.ltp hi
  have hlh := fun i (hi : i < 2) => d.lth hi
  have hmq : ∀ i, i < 2 → Sl (QA bl bo ba (upd h k h2) w') w' (va i) (y i) := fun i hi => (Sl.same (d.al i hi) (fun q hq => hbt.block q hq.1 (fun e => e.elim hq.2.1 (fun e => e.elim hq.2.2.1 hq.2.2.2.1)))).mono (fun q hq => ⟨Nat.lt_of_lt_of_le hq.1 hbt.size, hq.2.1, hq.2.2.1, hq.2.2.2.1, fun r hr => by
    by_cases e : r = k
    · subst e
      rw [upd_at]
      have := hq.1
      omega
    · rw [upd_ne h h2 e]
      exact hq.2.2.2.2 r hr⟩)
  refine ⟨d.base, fun i hi => ?_, d.ap, fun i hi => ?_, fun i r hi hr hir => ?_, fun i r hi hr => ?_, fun i hi => ?_, hl, ho, ha, fun i hi => ?_, fun i hi => ?_, d.bel.trans (hbt.below s0 (fun i hi e => ?_)), fun i hi => ?_⟩
  · by_cases e : i = k
    · subst e
      rw [upd_at]
      omega
    · rw [upd_ne h h2 e]
      exact d.ph i hi
  · by_cases e : i = k
    · subst e
      rw [upd_at, upd_at]
      exact ⟨⟨by omega, by omega, by omega⟩, ⟨by omega, by omega, by omega⟩⟩
    · rw [upd_ne h h2 e, upd_ne p p2 e]
      exact d.aph i hi
  · by_cases e : i = k
    · subst e
      rw [upd_at, upd_ne h h2 (fun q => hir q.symm)]
      have := hlh r hr
      omega
    · rw [upd_ne h h2 e]
      by_cases e2 : r = k
      · subst e2
        rw [upd_at]
        have := hlh i hi
        omega
      · rw [upd_ne h h2 e2]
        exact d.hh i r hi hr hir
  · by_cases e : i = k
    · subst e
      rw [upd_at]
      by_cases e2 : r = i
      · subst e2
        rw [upd_at]
        exact fun q => hm.2.2 q.symm
      · rw [upd_ne p p2 e2]
        have := hlp r hr
        omega
    · rw [upd_ne h h2 e]
      by_cases e2 : r = k
      · subst e2
        rw [upd_at]
        have := hlh i hi
        omega
      · rw [upd_ne p p2 e2]
        exact d.hp i r hi hr
  · by_cases e : i = k
    · subst e
      rw [upd_at, upd_at, upd_at, upd_at]
      exact hm
    · rw [upd_ne p p2 e, upd_ne h h2 e, upd_ne key (key j) e, upd_ne y (y j) e]
      refine ((d.m i hi).same (hbt.block _ (d.ltp hi) (fun q => ?_)) (hbt.block _ (d.lth hi) (fun q => ?_)) (fun r hr => hbt.block r hr.1 (fun q => q.elim hr.2.1 (fun q => q.elim hr.2.2.1 hr.2.2.2.1)))).mono (fun r hr => ⟨Nat.lt_of_lt_of_le hr.1 hbt.size, hr.2.1, hr.2.2.1, hr.2.2.2.1, fun s hs hsi => ?_⟩)
      · exact q.elim (d.aph i hi).1.1 (fun q => q.elim (d.aph i hi).1.2.1 (d.aph i hi).1.2.2)
      · exact q.elim (d.aph i hi).2.1 (fun q => q.elim (d.aph i hi).2.2.1 (d.aph i hi).2.2.2)
      · by_cases e2 : s = k
        · subst e2
          rw [upd_at]
          have := hr.1
          omega
        · rw [upd_ne h h2 e2]
          exact hr.2.2.2.2 s hs hsi
  · by_cases e : i = k
    · subst e
      rw [upd_at, upd_at]
      exact d.ow j hj
    · rw [upd_ne vo (vo j) e, upd_ne key (key j) e]
      exact d.ow i hi
  · by_cases e : i = k
    · subst e
      rw [upd_at, upd_at]
      exact hmq j hj
    · rw [upd_ne va (va j) e, upd_ne y (y j) e]
      exact hmq i hi
  · obtain ⟨b1, b2, b3⟩ := d.base
    rcases e with e | e | e <;> omega
  · by_cases e : i = k
    · subst e
      rw [upd_at, upd_at]
      exact d.kb j hj
    · rw [upd_ne key (key j) e, upd_ne y (y j) e]
      exact d.kb i hi
end
abbrev AC : Kd (Int × Bool × List Int) := Kd.pair (Kd.int .i64) (Kd.pair Kd.bool KBB)
abbrev Act0 : Int × Bool × List Int := (0, false, [])
theorem C_act {w : World} {A : Option Addr} {n : Nat} {xs : List (Int × Bool × List Int)} (h : Kd.C AC w A n xs) (k : Nat) (hk : k < n) :
    ∃ b o A0 c0, A = some ⟨b, o, none⟩ ∧ w.cell? ⟨b, o + k * 3, none⟩ = some (.int .i64 (xs.getD k Act0).1) ∧ w.cell? ⟨b, o + k * 3 + 1, none⟩ = some (.bool (xs.getD k Act0).2.1) ∧ w.cell? ⟨b, o + k * 3 + 2, none⟩ = some (.slice A0 (xs.getD k Act0).2.2.length c0) ∧ (xs.getD k Act0).2.2.length ≤ c0 ∧ Kd.C KB w A0 (xs.getD k Act0).2.2.length (xs.getD k Act0).2.2 := by
  obtain ⟨ad, c, e, _, hK, hc0⟩ := Kd.C_get h Act0 k (by omega) (by omega)
  obtain ⟨x0, x1, rfl, h0, x2, x3, rfl, h2, A0, c0, rfl, l0, g0⟩ := hK
  have h0' : x0 = [.int .i64 (xs.getD k Act0).1] := h0
  have h2' : x2 = [.bool (xs.getD k Act0).2.1] := h2
  subst h0' h2'
  have hq := hc0 0 _ rfl
  have hq1 := hc0 1 _ rfl
  have hq2 := hc0 2 _ rfl
  obtain ⟨b, o, e1⟩ := C_addr (by show 0 < 3; decide) h (by omega)
  rw [e] at e1
  injection e1 with e1
  subst e1
  rw [add_none] at hq hq1 hq2
  exact ⟨b, o, A0, c0, e, hq, hq1, hq2, l0, g0⟩
theorem neq20 {bx : Array Value} {xs : List Int} (h : xs.length = 20) (hb : bx = (xs.map (Value.int .u8)).toArray) (W : World) : (binOp .neq 41 (.agg bx) (.agg bx)).run Try.prog W = .ok (.bool false) W := by
  have h1 := eql20 h hb W
  rw [run_eql_struct] at h1
  rw [run_neq_struct]
  generalize (Op.equalIn 10000 41 (.agg bx) (.agg bx)).run Try.prog W = r at h1 ⊢
  cases r with
  | ok b w' =>
    simp only [Result.andThen] at h1 ⊢
    injection h1 with h1 h2
    injection h1 with h1
    subst h1 h2
    rfl
  | halt x w' => simp [Result.andThen] at h1
theorem opens_act : Row.Opens AC 39 (fun x => (Lit.int .i64 x.1).wf = true ∧ True ∧ ∀ n ∈ x.2.2, (Lit.int .u8 n).wf = true) :=
  Row.opens_struct (l := [(0, 3), (1, 4), (2, 22)]) Try.underlying39 (by rfl) (by kernel_rfl)
    (Row.opensF_cons (Row.opens_int Try.underlying3 (by kernel_rfl)) (Row.opensF_cons (Row.opens_bool Try.underlying4 (by kernel_rfl)) (Row.opensF_one Row.opens_bytes 2)))
theorem opens_acts : Row.Opens (Kd.slice 39 AC) 32 (fun xs => ∀ x ∈ xs, (Lit.int .i64 x.1).wf = true ∧ True ∧ ∀ n ∈ x.2.2, (Lit.int .u8 n).wf = true) :=
  Row.opens_slice Try.underlying32 (by kernel_rfl) opens_act
end Go.Proofs.Ytfeohojpjncgaaa.Sha

set_option linter.unusedSimpArgs false
set_option linter.unusedVariables false
namespace Go.Proofs.Ytfeohojpjncgaaa.Sha
open Go.RowKit Go.Proofs.YtfeohojpjncgaaaW.PrintWords Go.Proofs.YtfeohojpjncgaaaW.PrintLast Go.Proofs.YtfeohojpjncgaaaW.PrintMore Go.Proofs.Ytfeohojpjncgaaa.PSha1Plays Go.Proofs.Ytfeohojpjncgaaa.Lex Go.Proofs.Ytfeohojpjncgaaa.Lib
/-- the operations of a region, found in a code by its number -/
def regOps (n : Nat) : Code → Option (Array Oper)
  | .region id ops _ => if id = n then some ops else none
  | .seq a b => match regOps n a with
    | some o => some o
    | none => regOps n b
  | .cond _ a b => match regOps n a with
    | some o => some o
    | none => regOps n b
  | .block _ b => regOps n b
  | .loop b => regOps n b
  | .rangeFunc _ _ a b => match regOps n a with
    | some o => some o
    | none => regOps n b
  | .scope b => regOps n b
  | _ => none
def regOpsO (n : Nat) : Option Code → Option (Array Oper)
  | some c => regOps n c
  | none => none
/-- the check of an order for it -/
def regOK (n : Nat) (md : Region.Mode) (order : List (Nat × LK)) (c : Option Code) : Bool := match regOpsO n c with
  | some ops => order.length == ops.size && lexOK md ops (exOf order) order (Array.replicate ops.size false)
  | none => false
theorem regOK_use {n : Nat} {md : Region.Mode} {order : List (Nat × LK)} {c : Option Code} {ops : Array Oper} (h : regOK n md order c = true) (e : regOpsO n c = some ops) : (order.length == ops.size && lexOK md ops (exOf order) order (Array.replicate ops.size false)) = true := by
  unfold regOK at h
  rw [e] at h
  exact h
theorem put_list (l : List Value) (d : List Deferred) (N : Nat) (v : Value) : Act.put { tmps := l.toArray, defers := d } (some N) v = { tmps := (l.set N v).toArray, defers := d } := by
  simp only [Act.put, List.setIfInBounds_toArray]
/-- one of two, by a number -/
def sel {α : Type} (a b : α) : Nat → α := fun k => if k = 0 then a else b
theorem OB.ownlt {b : Nat} {w : World} {v : Value} {xs : List Int} (h : OB b w v xs) (k : Nat) (hk : v.ownBlock = some k) : b ≤ k ∧ k < w.heap.size := by
  obtain ⟨_, h2, h3, _⟩ := (Kd.R_bound h).1 k hk
  exact ⟨h2, h3⟩
/-- two rows, and the array that holds them -/
structure Keys (b : Nat) (bk : Nat) (ka : Nat → Option Addr) (kn kc : Nat → Nat) (w : World) : Prop where
  arr : Ob bk w (two (fun k => .slice (ka k) (kn k) (kc k)))
  row : ∀ k, k < 2 → ∃ ms : List Int, ms.length = kn k ∧ OB b w (.slice (ka k) (kn k) (kc k)) ms
  apart : ∀ i j, i < 2 → j < 2 → i ≠ j → ∀ k, (Value.slice (ka i) (kn i) (kc i)).ownBlock = some k → (Value.slice (ka j) (kn j) (kc j)).ownBlock ≠ some k
  ltb : ∀ k, k < 2 → ∀ j, (Value.slice (ka k) (kn k) (kc k)).ownBlock = some j → j < bk
theorem Keys.cell {b bk : Nat} {ka : Nat → Option Addr} {kn kc : Nat → Nat} {w : World} (h : Keys b bk ka kn kc w) {k i : Nat} (hk : k < 2) (hi : i < kn k) :
    ∃ g y, ka k = some ⟨g, 0, none⟩ ∧ w.cell? ⟨bk, k, none⟩ = some (.slice (ka k) (kn k) (kc k)) ∧ w.cell? ⟨g, i, none⟩ = some (.int .u8 y) ∧ w.frozen? ⟨g, i, none⟩ = false ∧ b ≤ g ∧ g < bk ∧ ∀ z, Keys b bk ka kn kc (w.setCell ⟨g, i, none⟩ (.int .u8 z)) := by
  obtain ⟨ms, hm, hr⟩ := h.row k hk
  obtain ⟨g, c, e, h1, h2, h3⟩ := hr.form (by omega)
  injection e with e1 e2 e3
  have hr' := hr
  rw [e1] at hr'
  obtain ⟨q, f⟩ := hr'.cell i hi
  have hown : (Value.slice (ka k) (kn k) (kc k)).ownBlock = some g := by rw [e1]; simp [Value.ownBlock]
  have hg := h.ltb k hk g hown
  refine ⟨g, _, e1, (h.arr k _ (two_get _ hk)).1, q, f, h1, hg, fun z => ⟨h.arr.far (by show bk ≠ g; omega) _, fun j hj => ?_, h.apart, h.ltb⟩⟩
  by_cases ej : j = k
  · subst ej
    refine ⟨ms.set i z, by rw [List.length_set]; exact hm, ?_⟩
    have h5 := hr'.put i z
    rw [e1]
    exact h5
  · obtain ⟨mj, hmj, hrj⟩ := h.row j hj
    exact ⟨mj, hmj, hrj.step (fun q hq => Below.heap_setCell _ _ _ _ (fun e => h.apart j k hj hk ej q hq (by rw [e]; exact hown)))⟩
theorem Keys.below {b bk n : Nat} {ka : Nat → Option Addr} {kn kc : Nat → Nat} {w w' : World} (h : Keys b bk ka kn kc w) (hb : Below n w w') (hn : bk < n) : Keys b bk ka kn kc w' :=
  ⟨h.arr.below hb hn, fun k hk => by
    obtain ⟨ms, h1, h2⟩ := h.row k hk
    exact ⟨ms, h1, h2.step (fun j hj => hb.block j (Nat.lt_trans (h.ltb k hk j hj) hn))⟩, h.apart, h.ltb⟩
theorem Keys.start {b : Nat} {w1 w2 : World} {A5 A6 : Option Addr} {n5 n6 c5 c6 : Nat} {m5 m6 : List Int} (h1 : OB b w1 (.slice A5 n5 c5) m5) (l1 : m5.length = n5) (h2 : OB w1.heap.size w2 (.slice A6 n6 c6) m6) (l2 : m6.length = n6) (hb : Below w1.heap.size w1 w2) (hbb : b ≤ w1.heap.size) (t : TypeId) :
    Keys b w2.heap.size (sel A5 A6) (sel n5 n6) (sel c5 c6) (w2.alloc (.cells #[.slice A5 n5 c5, .slice A6 n6 c6] t)) := by
  have g1 := (h1.below hb).below (below_alloc (Below.refl w2.heap.size w2) (.cells #[.slice A5 n5 c5, .slice A6 n6 c6] t))
  have g2 := (h2.lower hbb).below (below_alloc (Below.refl w2.heap.size w2) (.cells #[.slice A5 n5 c5, .slice A6 n6 c6] t))
  refine ⟨Ob.new w2 _ _ rfl t, fun k hk => ?_, fun i j hi hj hij k e1 e2 => ?_, fun k hk j hj => ?_⟩
  · match k, hk with
    | 0, _ => exact ⟨m5, l1, g1⟩
    | 1, _ => exact ⟨m6, l2, g2⟩
  · match i, j, hi, hj, hij with
    | 0, 1, _, _, _ =>
      have q1 := (OB.ownlt h1 k e1).2
      have q2 := (OB.ownlt h2 k e2).1
      omega
    | 1, 0, _, _, _ =>
      have q1 := (OB.ownlt h1 k e2).2
      have q2 := (OB.ownlt h2 k e1).1
      omega
    | 0, 0, _, _, hij => exact hij rfl
    | 1, 1, _, _, hij => exact hij rfl
  · have s := hb.size
    match k, hk with
    | 0, _ =>
      have := (OB.ownlt h1 j hj).2
      omega
    | 1, _ => exact (OB.ownlt h2 j hj).2
theorem Duo.start {w w3 w4 V W : World} {bk p0 h0 p1 h1 : Nat} {xs ys : List Int} {A A2 : Option Addr} {c c2 : Nat} (hB : Below w.heap.size w W) (hbk : w.heap.size ≤ bk)
    (m0 : MD (fun k => bk < k ∧ k < w3.heap.size ∧ k ≠ p0) p0 h0 w3 xs []) (hp0 : bk < p0) (hh0 : bk < h0)
    (m1 : MD (fun k => w3.heap.size ≤ k ∧ k < w4.heap.size ∧ k ≠ p1) p1 h1 w4 ys []) (hp1 : w3.heap.size ≤ p1) (hh1 : w3.heap.size ≤ h1) (b34 : Below w3.heap.size w3 w4) (t1 t2 t3 : TypeId)
    (hV : V = (w4.alloc (.cells #[ptr p0, ptr p1] t1)).alloc (.cells #[.slice A xs.length c, .slice A2 ys.length c2] t2)) (hW : But V.heap.size (fun j => j < bk) V W)
    (hx : Kd.C KB w A xs.length xs) (hc : xs.length ≤ c) (hx2 : Kd.C KB w A2 ys.length ys) (hc2 : ys.length ≤ c2) (hbx : Byt xs) (hby : Byt ys) (hlx : xs.length ≤ 500) (hly : ys.length ≤ 500) :
    Duo w w4.heap.size (w4.heap.size + 1) W.heap.size (sel p0 p1) (sel h0 h1) (sel xs ys) (fun _ => []) (sel (.slice A xs.length c) (.slice A2 ys.length c2)) (fun _ => .slice none 0 0) (W.alloc (.cells #[.slice none 0 0, .slice none 0 0] t3)) := by
  have l0 := m0.1.lt
  have k0 := m0.2.1.lt
  have l1 := m1.1.lt
  have k1 := m1.2.1.lt
  have s34 := b34.size
  obtain ⟨U, hU⟩ : ∃ U, U = w4.alloc (.cells #[ptr p0, ptr p1] t1) := ⟨_, rfl⟩
  have sU : U.heap.size = w4.heap.size + 1 := by rw [hU]; simp
  have bU : Below w4.heap.size w4 U := by rw [hU]; exact below_alloc (Below.refl _ _) _
  have oU : Ob w4.heap.size U [ptr p0, ptr p1] := by rw [hU]; exact Ob.new w4 _ _ rfl t1
  rw [← hU] at hV
  have sV : V.heap.size = w4.heap.size + 2 := by rw [hV]; simp [sU]
  have bV : Below U.heap.size U V := by rw [hV]; exact below_alloc (Below.refl _ _) _
  have oV : Ob (w4.heap.size + 1) V [.slice A xs.length c, .slice A2 ys.length c2] := by rw [← sU, hV]; exact Ob.new U _ _ rfl t2
  have sW := hW.size
  have bW : Below W.heap.size W (W.alloc (.cells #[.slice none 0 0, .slice none 0 0] t3)) := below_alloc (Below.refl _ _) _
  have oW : Ob W.heap.size (W.alloc (.cells #[.slice none 0 0, .slice none 0 0] t3)) [.slice none 0 0, .slice none 0 0] := Ob.new W _ _ rfl t3
  have sX : (W.alloc (.cells #[.slice none 0 0, .slice none 0 0] t3)).heap.size = W.heap.size + 1 := by simp
  obtain ⟨X, hX⟩ : ∃ X, X = W.alloc (.cells #[.slice none 0 0, .slice none 0 0] t3) := ⟨_, rfl⟩
  rw [← hX] at bW oW sX ⊢
  -- a block above bk reads in X as it read in w4
  have h4 : ∀ j, bk < j → j < w4.heap.size → X.heap[j]? = w4.heap[j]? := fun j h1 h2 => ((bW.block j (by omega)).trans (hW.block j (by omega) (by show ¬ j < bk; omega))).trans ((bV.block j (by omega)).trans (bU.block j h2))
  have h3 : ∀ j, bk < j → j < w3.heap.size → X.heap[j]? = w3.heap[j]? := fun j h1 h2 => (h4 j h1 (by omega)).trans (b34.block j h2)
  refine ⟨⟨by omega, by omega, by omega⟩, fun k hk => ?_, ⟨by omega, by omega, by omega⟩, fun k hk => ?_, fun i j hi hj hij => ?_, fun i j hi hj => ?_, fun k hk => ?_, ?_, ?_, oW, fun k hk => ?_, fun k hk => Sl.nil _ _, hB.trans (bW.mono hB.size), fun k hk => ?_⟩
  · match k, hk with
    | 0, _ => show _ ≤ h0; omega
    | 1, _ => show _ ≤ h1; omega
  · match k, hk with
    | 0, _ => exact ⟨⟨by show p0 ≠ _; omega, by show p0 ≠ _; omega, by show p0 ≠ _; omega⟩, ⟨by show h0 ≠ _; omega, by show h0 ≠ _; omega, by show h0 ≠ _; omega⟩⟩
    | 1, _ => exact ⟨⟨by show p1 ≠ _; omega, by show p1 ≠ _; omega, by show p1 ≠ _; omega⟩, ⟨by show h1 ≠ _; omega, by show h1 ≠ _; omega, by show h1 ≠ _; omega⟩⟩
  · match i, j, hi, hj, hij with
    | 0, 1, _, _, _ => show h0 ≠ h1; omega
    | 1, 0, _, _, _ => show h1 ≠ h0; omega
    | 0, 0, _, _, hij => exact absurd rfl hij
    | 1, 1, _, _, hij => exact absurd rfl hij
  · match i, j, hi, hj with
    | 0, 0, _, _ => exact fun e => m0.2.2 e.symm
    | 0, 1, _, _ => show h0 ≠ p1; omega
    | 1, 0, _, _ => show h1 ≠ p0; omega
    | 1, 1, _, _ => exact fun e => m1.2.2 e.symm
  · match k, hk with
    | 0, _ =>
      refine (m0.same (h3 p0 hp0 l0) (h3 h0 hh0 k0) (fun j hj => h3 j hj.1 hj.2.1)).mono (fun j hj => ⟨by have := hj.2.1; omega, by have := hj.2.1; omega, by have := hj.2.1; omega, by have := hj.2.1; omega, fun i hi hik => ?_⟩)
      match i, hi, hik with
      | 0, _, hik => exact absurd rfl hik
      | 1, _, _ => have := hj.2.1; show j ≠ h1; omega
    | 1, _ =>
      refine (m1.same (h4 p1 (by omega) l1) (h4 h1 (by omega) k1) (fun j hj => h4 j (by have := hj.1; omega) hj.2.1)).mono (fun j hj => ⟨by have := hj.2.1; omega, by have := hj.2.1; omega, by have := hj.2.1; omega, by have := hj.2.1; omega, fun i hi hik => ?_⟩)
      match i, hi, hik with
      | 1, _, hik => exact absurd rfl hik
      | 0, _, _ => have := hj.1; show j ≠ h0; omega
  · exact ((oU.below bV (by omega)).but hW (by omega) (by show ¬ w4.heap.size < bk; omega)).below bW (by omega)
  · exact (oV.but hW (by omega) (by show ¬ w4.heap.size + 1 < bk; omega)).below bW (by omega)
  · match k, hk with
    | 0, _ => exact ⟨A, c, rfl, hc, hx⟩
    | 1, _ => exact ⟨A2, c2, rfl, hc2, hx2⟩
  · match k, hk with
    | 0, _ => exact ⟨hbx, hlx, fun x hx => by cases hx⟩
    | 1, _ => exact ⟨hby, hly, fun x hx => by cases hx⟩
section
variable {w0 : World} {bl bo ba : Nat} {p h : Nat → Nat} {key y : Nat → List Int} {vo va : Nat → Value} {W0 : World}
/-- behind a write: the state -/
theorem Duo.wrote (d : Duo w0 bl bo ba p h key y vo va W0) {k : Nat} (hk : k < 2) {w1 w2 wr w5 : World} (HW1 : Below W0.heap.size W0 w1) (HBT : But w1.heap.size (at1 (h k)) w1 w2) (HB3 : Below (W0.heap.size + 1) w2 wr) {Z : List Int}
    (HMK : MD (SB w1.heap.size w2.heap.size) (p k) (h k) wr (key k) Z) (HB35 : Below wr.heap.size wr w5) {A5 : Option Addr} {c5 : Nat} (HO5 : OB wr.heap.size w5 (.slice A5 Z.length c5) Z) (hz : Byt Z) :
    Duo w0 bl bo ba p h key (upd y k Z) vo (upd va k (.slice A5 Z.length c5)) (w5.setCell ⟨ba, k, none⟩ (.slice A5 Z.length c5)) := by
  have s01 := HW1.size
  have s12 := HBT.size
  have s23 := HB3.size
  have s35 := HB35.size
  obtain ⟨b1, b2, b3⟩ := d.ltb
  obtain ⟨⟨p1, p2, p3⟩, ⟨h1, h2, h3⟩⟩ := d.aph k hk
  have hB3 : But W0.heap.size (at1 (h k)) W0 wr := ((But.of HW1 (Nat.le_refl _)).trans (HBT.mono HW1.size (fun _ _ e => e))).then HB3 (by omega)
  have hOb3 : Ob ba wr (two va) := d.a.but hB3 b3 (fun e => h3 e.symm)
  have hOb5 := hOb3.below HB35 (by omega)
  obtain ⟨W5, hW5⟩ : ∃ W, W = w5.setCell ⟨ba, k, none⟩ (.slice A5 Z.length c5) := ⟨_, rfl⟩
  have hs55 : W5.heap.size = w5.heap.size := by rw [hW5]; simp [World.setCell]
  have hnb : ∀ j, j ≠ ba → W5.heap[j]? = w5.heap[j]? := fun j hj => by rw [hW5]; exact Below.heap_setCell _ _ _ _ hj
  have hbut : But W0.heap.size (fun j => j = h k ∨ j = ba) W0 W5 := by rw [hW5]; exact ((hB3.mono (Nat.le_refl _) (fun _ _ e => .inl e)).then HB35 (by omega)).setCell (p := ⟨ba, k, none⟩) (.inr (.inr rfl)) _
  have hob : Ob ba W5 (two (upd va k (.slice A5 Z.length c5))) := by
    rw [hW5, ← two_set va hk]
    exact hOb5.set k hk (.slice A5 Z.length c5)
  rw [← hW5]
  refine d.write hk hbut ?_ hob ?_ hz
  · have h6 := HMK.below HB35 HMK.1.lt HMK.2.1.lt (fun j hj => by have := hj.2; omega)
    refine (h6.same (hnb _ p3) (hnb _ h3) (fun j hj => hnb j (by have := hj.1; omega))).mono (fun j hj => ?_)
    obtain ⟨h7, h8⟩ := hj
    exact ⟨by omega, by omega, by omega, by omega, fun r hr _ => by have := d.lth hr; omega⟩
  · exact (Sl.same (HO5.sl (S := fun j => wr.heap.size ≤ j ∧ j < w5.heap.size) (fun j h3 h4 => ⟨h3, h4⟩)) (fun j hj => hnb j (by have := hj.1; omega))).mono (fun j hj => ⟨by omega, by omega, by omega, by omega, fun r hr => by have := d.lth hr; omega⟩)
/-- behind a copy: the state -/
theorem Duo.copied (d : Duo w0 bl bo ba p h key y vo va W0) {k j : Nat} (hk : k < 2) (hj : j < 2) (hjk : j ≠ k) {w2 : World} {p2 h2 : Nat} (HB2 : Below W0.heap.size W0 w2) (hp2 : W0.heap.size ≤ p2) (hh2 : W0.heap.size ≤ h2)
    (HM2 : MD (fun q => W0.heap.size ≤ q ∧ q < h2) p2 h2 w2 (key j) (y j)) :
    Duo w0 bl bo ba (upd p k p2) (upd h k h2) (upd key k (key j)) (upd y k (y j)) (upd vo k (vo j)) (upd va k (va j)) (((w2.setCell ⟨bl, k, none⟩ (ptr p2)).setCell ⟨bo, k, none⟩ (vo j)).setCell ⟨ba, k, none⟩ (va j)) := by
  have s2 := HB2.size
  obtain ⟨b1, b2, b3⟩ := d.ltb
  obtain ⟨a1, a2, a3⟩ := d.ap
  have d2 := d.below HB2
  have HL := ((d2.l.set k hk (ptr p2)).far (q := ⟨bo, k, none⟩) (by show bl ≠ bo; exact a1) (vo j)).far (q := ⟨ba, k, none⟩) (by show bl ≠ ba; exact a2) (va j)
  have HO := ((d2.o.far (q := ⟨bl, k, none⟩) (by show bo ≠ bl; exact fun e => a1 e.symm) (ptr p2)).set k hk (vo j)).far (q := ⟨ba, k, none⟩) (by show bo ≠ ba; exact a3) (va j)
  have HA := ((d2.a.far (q := ⟨bl, k, none⟩) (by show ba ≠ bl; exact fun e => a2 e.symm) (ptr p2)).far (q := ⟨bo, k, none⟩) (by show ba ≠ bo; exact fun e => a3 e.symm) (vo j)).set k hk (va j)
  rw [two_set _ hk, upd_ptr] at HL
  rw [two_set _ hk] at HO HA
  obtain ⟨W5, hW5⟩ : ∃ W, W = ((w2.setCell ⟨bl, k, none⟩ (ptr p2)).setCell ⟨bo, k, none⟩ (vo j)).setCell ⟨ba, k, none⟩ (va j) := ⟨_, rfl⟩
  have hs5 : W5.heap.size = w2.heap.size := by rw [hW5]; simp [World.setCell]
  have hnb : ∀ q, q ≠ bl → q ≠ bo → q ≠ ba → W5.heap[q]? = w2.heap[q]? := fun q h7 h8 h9 => by rw [hW5]; exact (Below.heap_setCell _ _ _ _ h9).trans ((Below.heap_setCell _ _ _ _ h8).trans (Below.heap_setCell _ _ _ _ h7))
  have hbut : But W0.heap.size (fun q => q = bl ∨ q = bo ∨ q = ba) W0 W5 := by rw [hW5]; exact (((But.of HB2 (Nat.le_refl _)).setCell (p := ⟨bl, k, none⟩) (.inr (.inl rfl)) _).setCell (p := ⟨bo, k, none⟩) (.inr (.inr (.inl rfl))) _).setCell (p := ⟨ba, k, none⟩) (.inr (.inr (.inr rfl))) _
  rw [← hW5] at HL HO HA ⊢
  refine d.copy hk hj hjk hp2 hh2 hbut ?_ HL HO HA
  have l1 := HM2.2.1.lt
  refine (HM2.same (hnb _ (by omega) (by omega) (by omega)) (hnb _ (by omega) (by omega) (by omega)) (fun q hq => hnb q (by have := hq.1; omega) (by have := hq.1; omega) (by have := hq.1; omega))).mono (fun q hq => ⟨by have := hq.2; omega, by have := hq.1; omega, by have := hq.1; omega, by have := hq.1; omega, fun r hr hrk => ?_⟩)
  rw [upd_ne h h2 hrk]
  have := d.lth hr
  have := hq.1
  omega
end
theorem len_upd {y : Nat → List Int} {i k : Nat} {Z : List Int} (hl : ∀ j, j < 2 → (y j).length ≤ 200 * i) (hz : Z.length ≤ 200 * (i + 1)) : ∀ j, j < 2 → (upd y k Z j).length ≤ 200 * (i + 1) := fun j hj => by
  by_cases e : j = k
  · rw [e, upd_at]
    exact hz
  · rw [upd_ne y Z e]
    have := hl j hj
    omega
theorem len_on {y : Nat → List Int} {i : Nat} (hl : ∀ j, j < 2 → (y j).length ≤ 200 * i) : ∀ j, j < 2 → (y j).length ≤ 200 * (i + 1) := fun j hj => by
  have := hl j hj
  omega
end Go.Proofs.Ytfeohojpjncgaaa.Sha

set_option linter.unusedSimpArgs false
set_option linter.unusedVariables false
namespace Go.Proofs.Ytfeohojpjncgaaa.Sha
open Go.RowKit Go.Proofs.YtfeohojpjncgaaaW.PrintWords Go.Proofs.YtfeohojpjncgaaaW.PrintLast Go.Proofs.YtfeohojpjncgaaaW.PrintMore Go.Proofs.Ytfeohojpjncgaaa.PSha1Plays Go.Proofs.Ytfeohojpjncgaaa.Lex Go.Proofs.Ytfeohojpjncgaaa.Lib
set_option maxRecDepth 100000 in
set_option maxHeartbeats 4000000 in
theorem plays_bad (A : Option Addr) (c : Nat) (xs : List Int) (A2 : Option Addr) (c2 : Nat) (ys : List Int) (A3 : Option Addr) (c3 : Nat) (sc : List (Int × Bool × List Int)) (w : World) (hx : Kd.C KB w A xs.length xs) (hc : xs.length ≤ c)
    (hx2 : Kd.C KB w A2 ys.length ys) (hc2 : ys.length ≤ c2) (hx3 : Kd.C AC w A3 sc.length sc) (hbad : (500 < xs.length ∨ 500 < ys.length) ∨ 20 < sc.length) :
    Calls Try.prog 4 #[.slice A xs.length c, .slice A2 ys.length c2, .slice A3 sc.length c3] w fun e w' => e = .returned (.bool true) ∧ Below w.heap.size w w' := by
  by_cases hl : 500 < xs.length ∨ 500 < ys.length
  · have hl2 : ∃ j : Nat, j < [xs, ys].length ∧ 500 < ([xs, ys].getD j []).length := by
      rcases hl with h | h
      · exact ⟨0, by simp, by simpa using h⟩
      · exact ⟨1, by simp, by simpa using h⟩
    have HF := Aside0.mk (few_neg [xs, ys] (some ⟨w.heap.size, 0, none⟩) 2 _ (two_part hx hc hx2 hc2) hl2)
    clear hl hl2 hbad
    clear hx hx2 hx3
    go_enter Try.func4, Try.ntmps4
    go_wp2_with fail
    refine HF.out.mono ?_
    rintro e w1 ⟨rfl, hw1⟩
    have HB1 := Aside0.mk (show Below w.heap.size w w1 by rw [← hw1]; exact below_alloc (Below.refl _ _) _)
    clear hw1 HF
    go_wp2_with fail
    refine (works _).mono ?_
    rintro e w' ⟨rfl, hb⟩
    go_wp2_with fail
    go_ret
    exact ⟨rfl, HB1.out.trans (hb.mono HB1.out.size)⟩
  have HF := Aside0.mk (few_pos [xs, ys] (some ⟨w.heap.size, 0, none⟩) 2 _ (two_part hx hc hx2 hc2) (fun z hz => by
      simp only [List.mem_cons, List.not_mem_nil, or_false] at hz
      rcases hz with rfl | rfl <;> omega))
  have h20 : 20 < sc.length := by omega
  clear hbad hl
  · skip
    clear hx hx2 hx3
    go_enter Try.func4, Try.ntmps4
    go_wp2_with fail
    refine HF.out.mono ?_
    rintro e w1 ⟨rfl, hw1⟩
    have HB1 := Aside0.mk (show Below w.heap.size w w1 by rw [← hw1]; exact below_alloc (Below.refl _ _) _)
    clear hw1 HF
    go_wp2_with fail
    refine (works _).mono ?_
    rintro e w' ⟨rfl, hb⟩
    go_wp2_with fail
    go_ret
    exact ⟨rfl, HB1.out.trans (hb.mono HB1.out.size)⟩
set_option maxRecDepth 100000 in
theorem ok44 : regOK 44 .any [(0, .p), (2, .p), (5, .p), (8, .p), (1, .o), (3, .o), (4, .p), (6, .o), (7, .p), (9, .o), (10, .p), (11, .p), (12, .p), (14, .p), (16, .p), (13, .t), (15, .t), (17, .t), (18, .o), (19, .p), (20, .p), (21, .p), (23, .p), (25, .p), (22, .t), (24, .t), (26, .t), (27, .o), (28, .p), (29, .p), (30, .p), (31, .p), (32, .o), (33, .p), (34, .p), (35, .p), (36, .p), (37, .o), (38, .o), (39, .p), (40, .p), (41, .p), (42, .p), (43, .o), (44, .p), (45, .p), (46, .p), (47, .q), (48, .p), (49, .p)] Try.f4.body = true := by kernel_rfl
set_option maxRecDepth 100000 in
set_option maxHeartbeats 4000000 in
theorem plays_main (A : Option Addr) (c : Nat) (xs : List Int) (A2 : Option Addr) (c2 : Nat) (ys : List Int) (A3 : Option Addr) (c3 : Nat) (sc : List (Int × Bool × List Int)) (w : World) (hx : Kd.C KB w A xs.length xs) (hc : xs.length ≤ c) (hbx : Byt xs) (hlx : xs.length ≤ 500)
    (hx2 : Kd.C KB w A2 ys.length ys) (hc2 : ys.length ≤ c2) (hby : Byt ys) (hly : ys.length ≤ 500) (hx3 : Kd.C AC w A3 sc.length sc) (hl20 : sc.length ≤ 20) (ho : ∀ x ∈ sc, ∀ n ∈ x.2.2, (Lit.int .u8 n).wf = true) :
    Calls Try.prog 4 #[.slice A xs.length c, .slice A2 ys.length c2, .slice A3 sc.length c3] w fun e w' => e = .returned (.bool true) ∧ Below w.heap.size w w' := by
  have HF := Aside0.mk (few_pos [xs, ys] (some ⟨w.heap.size, 0, none⟩) 2 _ (two_part hx hc hx2 hc2) (fun z hz => by
      simp only [List.mem_cons, List.not_mem_nil, or_false] at hz
      rcases hz with rfl | rfl <;> omega))
  obtain ⟨z2, hz2, HZ2, hz⟩ := z20_ex
  have HX := Aside0.mk hx
  have HX2 := Aside0.mk hx2
  have HX3 := Aside0.mk hx3
  have HBX := Aside0.mk hbx
  have HBY := Aside0.mk hby
  have HO := Aside0.mk ho
  have h20 : ¬ 20 < sc.length := by omega
  clear hx hx2 hx3 hbx hby ho
  go_enter Try.func4, Try.ntmps4
  go_wp2_with fail
  refine HF.out.mono ?_
  rintro e w0 ⟨rfl, hw0⟩
  have B0 := Aside0.mk (show Below w.heap.size w w0 by rw [← hw0]; exact below_alloc (Below.refl _ _) _)
  have HX0 := Aside0.mk (Kd.C_below HX.out B0.out)
  have HY0 := Aside0.mk (Kd.C_below HX2.out B0.out)
  clear hw0 HF
  go_wp2_with (first | ((with_reducible refine gate_builtin (b := .append) (xs := #[.tmp 42, .tmp 43]) rfl ?_); refine ap_row w0.heap.size _ _ rfl rfl (OB.lit w0 [] [] rfl 0 rfl (Nat.le_refl _) (by simp)) (Kd.C_below HX0.out (below_alloc (Below.refl _ _) _)) rfl rfl (by simp) (by simp; omega) ?_; intro v1 w1 ho hb; have HO1 := Aside0.mk ho; have HB3 := Aside0.mk ((below_alloc (Below.refl _ _) _).trans hb); clear ho hb; obtain ⟨A5, c5, rfl, hc5, hC5⟩ := HO1.out.reads; have HC5 := Aside0.mk hC5; clear hC5) | ((with_reducible refine gate_builtin (b := .append) (xs := #[.tmp 45, .tmp 46]) rfl ?_); refine ap_row w1.heap.size _ _ rfl rfl (OB.lit w1 [] [] rfl 0 rfl (Nat.le_refl _) (by simp)) (Kd.C_below HY0.out (HB3.out.trans ((below_alloc (Below.refl _ _) _).mono HB3.out.size))) rfl rfl (by simp) (by simp; omega) ?_; intro v2 w2 ho hb; have HO2 := Aside0.mk ho; have HB4 := Aside0.mk ((below_alloc (Below.refl w1.heap.size w1) _).trans hb); clear ho hb; obtain ⟨A6, c6, rfl, hc6, hC6⟩ := HO2.out.reads; have HC6 := Aside0.mk hC6; clear hC6))
  have HC5' : Aside0 (Kd.C KB w2 A5 xs.length xs) := ⟨Kd.C_below (by have h := HC5.out; rw [List.nil_append] at h; exact h) HB4.out⟩
  have HC6' : Aside0 (Kd.C KB w2 A6 ys.length ys) := ⟨by have h := HC6.out; rw [List.nil_append] at h; exact h⟩
  rw [List.nil_append] at hc5 hc6
  have HKS : Aside0 (Keys w0.heap.size w2.heap.size (sel A5 A6) (sel xs.length ys.length) (sel c5 c6) (w2.alloc (.cells #[.slice A5 xs.length c5, .slice A6 ys.length c6] 33))) := ⟨by
    have h1 := HO1.out
    have h2 := HO2.out
    rw [List.nil_append] at h1 h2
    exact Keys.start h1 rfl h2 rfl HB4.out HB3.out.size _⟩
  have D2 := Aside0.mk (B0.out.trans ((HB3.out.trans (HB4.out.mono HB3.out.size)).mono B0.out.size))
  have S02 := Aside0.mk (show w0.heap.size ≤ w2.heap.size from Nat.le_trans HB3.out.size HB4.out.size)
  clear HC5 HC6 HO1 HO2 HB3 HB4 HX0 HY0
  have hbA := below_alloc (Below.refl w2.heap.size w2) (.cells #[.slice A5 xs.length c5, .slice A6 ys.length c6] 33)
  have hsA : (w2.alloc (.cells #[.slice A5 xs.length c5, .slice A6 ys.length c6] 33)).heap.size = w2.heap.size + 1 := by simp
  obtain ⟨X2, hX2⟩ : ∃ X, w2.alloc (.cells #[.slice A5 xs.length c5, .slice A6 ys.length c6] 33) = X := ⟨_, rfl⟩
  rw [hX2] at hbA hsA HKS ⊢
  obtain ⟨bk, hbk⟩ : ∃ b, w2.heap.size = b := ⟨_, rfl⟩
  rw [hbk] at HKS hsA S02 ⊢
  refine (mNew A5 xs.length c5 xs X2 (Kd.C_below HC5'.out hbA) rfl hc5 HBX.out (by omega)).mono ?_
  rintro e w3 ⟨p0, h0, rfl, m0, hp0, hh0, hb3⟩
  rw [hsA] at m0 hp0 hh0
  have M0 : Aside0 (MD (fun k => bk < k ∧ k < w3.heap.size ∧ k ≠ p0) p0 h0 w3 xs []) := ⟨m0.mono (fun k hk => ⟨by have := hk.1; omega, hk.2⟩)⟩
  have b3 := hbA.trans (hb3.mono hbA.size)
  have HK3 := Aside0.mk (Keys.below HKS.out hb3 (by omega))
  have HC63 := Aside0.mk (Kd.C_below HC6'.out b3)
  have D3 := Aside0.mk (D2.out.trans (b3.mono D2.out.size))
  have qk1 : w3.cell? ⟨bk, 1, none⟩ = some (.slice A6 ys.length c6) := (HK3.out.arr 1 _ rfl).1
  clear m0 hb3 b3 hbA HKS HC5' HC6' hX2 hbk D2
  go_wp2_with fail
  refine (mNew A6 ys.length c6 ys w3 HC63.out rfl hc6 HBY.out (by omega)).mono ?_
  rintro e w4 ⟨p1, h1, rfl, m1, hp1, hh1, hb4⟩
  have M1 := Aside0.mk m1
  have B34 := Aside0.mk hb4
  have HK4 := Aside0.mk (Keys.below HK3.out hb4 (by have := M0.out.1.lt; omega))
  have D4 := Aside0.mk (D3.out.trans (hb4.mono D3.out.size))
  clear m1 hb4 HK3 HC63 qk1 D3
  go_wp2_with fail
  have hsV : ((w4.alloc (.cells #[ptr p0, ptr p1] 34)).alloc (.cells #[.slice A xs.length c, .slice A2 ys.length c2] 33)).heap.size = w4.heap.size + 2 := by simp
  have hbV := below_alloc (below_alloc (Below.refl w4.heap.size w4) (.cells #[ptr p0, ptr p1] 34)) (.cells #[.slice A xs.length c, .slice A2 ys.length c2] 33)
  obtain ⟨V, hV⟩ : ∃ V, V = (w4.alloc (.cells #[ptr p0, ptr p1] 34)).alloc (.cells #[.slice A xs.length c, .slice A2 ys.length c2] 33) := ⟨_, rfl⟩
  rw [← hV] at hbV hsV ⊢
  have HV := Aside0.mk hV
  have hb4 : bk < w4.heap.size := by have := M0.out.1.lt; have := B34.out.size; omega
  have HKV := Aside0.mk (Keys.below HK4.out hbV hb4)
  have DV := Aside0.mk (D4.out.trans (hbV.mono D4.out.size))
  obtain ⟨ka, kn, kc, hka, hkn, hkc⟩ : ∃ (ka : Nat → Option Addr) (kn kc : Nat → Nat), ka = sel A5 A6 ∧ kn = sel xs.length ys.length ∧ kc = sel c5 c6 := ⟨_, _, _, rfl, rfl, rfl⟩
  rw [← hka, ← hkn, ← hkc] at HKV
  have HKN := Aside0.mk (show ∀ k, kn k ≤ 500 by intro k; rw [hkn]; unfold sel; split <;> omega)
  have S00 := Aside0.mk (show w.heap.size ≤ w0.heap.size from B0.out.size)
  clear hV hbV HK4 D4 hka hkn hkc B0
  go_loopg [14, 15] 2 (fun gk s14 s15 W => ∃ k : Nat, k ≤ 2 ∧ 2 - k ≤ gk ∧ s14 = .int .i64 k ∧ Aside0 (Keys w0.heap.size bk ka kn kc W) ∧ Aside0 (But V.heap.size (fun j => j < bk) V W) ∧ Aside0 (Below w.heap.size w W))
  case atStart => exact ⟨0, by omega, by omega, rfl, HKV, ⟨But.refl _ _ _⟩, DV⟩
  case round =>
    clear HKV DV
    obtain ⟨k, hk, hgk, rfl, HK, HBT, DW⟩ := hrel
    by_cases hlt : k < 2
    · have hlI : (k : Int) < 2 := by omega
      obtain ⟨G, rfl⟩ : ∃ G, G = gk := ⟨_, rfl⟩
      go_wp2_with fail
      go_loopg [15] (kn k) (fun gk s15 W => ∃ i : Nat, i ≤ kn k ∧ kn k - i ≤ gk ∧ s15 = .int .i64 i ∧ Aside0 (Keys w0.heap.size bk ka kn kc W) ∧ Aside0 (But V.heap.size (fun j => j < bk) V W) ∧ Aside0 (Below w.heap.size w W))
      case atStart => exact ⟨0, by omega, by omega, rfl, HK, HBT, DW⟩
      case round =>
        clear HK HBT DW
        obtain ⟨i, hi, hgi, rfl, HK, HBT, DW⟩ := hrel
        have hcell := (HK.out.arr k _ (two_get _ hlt)).1
        by_cases hit : i < kn k
        · have hKD := Keys.below HK.out (below_drew (Below.refl wr.heap.size wr)) (by have := HBT.out.size; omega)
          obtain ⟨g, y, hka, q0, q1, f1, hbg, hgb, hput⟩ := hKD.cell hlt hit
          have HPUT := Aside0.mk hput
          have hiI : (i : Int) < (kn k : Int) := by omega
          have hkn5 := HKN.out k
          simp only [hka] at hcell
          clear hput q0 hka hKD
          go_wp2_with fail
          refine region [(0, .p), (1, .p), (3, .p), (4, .p), (5, .p), (7, .p), (2, .t), (6, .t), (8, .p), (9, .t), (10, .p), (11, .p), (12, .e)] (fun U => U.cell? ⟨bk, k, none⟩ = some (.slice (some ⟨g, 0, none⟩) (kn k) (kc k)) ∧ U.cell? ⟨g, i, none⟩ = some (.int .u8 y)) (by kernel_rfl) (by kernel_rfl) (fun _ _ _ _ _ h => h) (⟨hcell, q1⟩) (fun hHeld => ?_)
          iterate 6 (refine lex_p rfl rfl rfl (by intro w'; go_simp; with_reducible rfl) (by simp only [Act.put, List.setIfInBounds_toArray, List.set_cons_zero, List.set_cons_succ, i64_w, i32_w]; rfl) ?_)
          iterate 2 (refine lex_t rfl rfl rfl (by rintro w' ⟨s0, s1⟩; go_simp; with_reducible rfl) (by simp only [Act.put, List.setIfInBounds_toArray, List.set_cons_zero, List.set_cons_succ, i64_w, i32_w]; rfl) ?_)
          (refine lex_p rfl rfl rfl (by intro w'; go_simp; with_reducible rfl) (by simp only [Act.put, List.setIfInBounds_toArray, List.set_cons_zero, List.set_cons_succ, i64_w, i32_w]; rfl) ?_)
          (refine lex_t rfl rfl rfl (by rintro w' ⟨s0, s1⟩; go_simp; with_reducible rfl) (by simp only [Act.put, List.setIfInBounds_toArray, List.set_cons_zero, List.set_cons_succ, i64_w, i32_w]; rfl) ?_)
          iterate 2 (refine lex_p rfl rfl rfl (by intro w'; go_simp; with_reducible rfl) (by simp only [Act.put, List.setIfInBounds_toArray, List.set_cons_zero, List.set_cons_succ, i64_w, i32_w]; rfl) ?_)
          refine lex_e rfl ?_
          go_wp2_with fail
          refine putQ_normal ?_
          go_wp2_with fail
          go_roundg (gk - 1)
          case measure => omega
          case rel => exact ⟨i + 1, by omega, by omega, by go_num, ⟨HPUT.out _⟩, ⟨(HBT.out.then (below_drew (Below.refl _ _)) HBT.out.size).setCell (.inr hgb) _⟩, ⟨((below_drew DW.out)).setCell (by show w.heap.size ≤ g; have := S00.out; omega) _⟩⟩
        · obtain rfl : i = kn k := by omega
          have hiI : ¬ ((kn k : Int) < (kn k : Int)) := by omega
          go_wp2_with fail
          go_roundg (G - 1)
          case measure => omega
          case rel => exact ⟨k + 1, by omega, by omega, by go_num, HK, HBT, DW⟩
    · obtain rfl : k = 2 := by omega
      have hlI : ¬ ((2 : Int) < 2) := by omega
      have hsw := HBT.out.size
      have hst := Aside0.mk (Duo.start (t1 := 34) (t2 := 33) (t3 := 33) DW.out (by have := S00.out; have := S02.out; omega) M0.out (by omega) (by omega) M1.out hp1 hh1 B34.out HV.out HBT.out HX.out hc HX2.out hc2 HBX.out HBY.out hlx hly)
      go_wp2_with fail
      obtain ⟨X, hX⟩ : ∃ X, wr.alloc (.cells #[.slice none 0 0, .slice none 0 0] 33) = X := ⟨_, rfl⟩
      rw [hX] at hst ⊢
      obtain ⟨bl, hbl⟩ : ∃ b, w4.heap.size = b := ⟨_, rfl⟩
      obtain ⟨bo, hbo⟩ : ∃ b, w4.heap.size + 1 = b := ⟨_, rfl⟩
      obtain ⟨ba, hba⟩ : ∃ b, wr.heap.size = b := ⟨_, rfl⟩
      rw [hba, hbo, hbl] at hst
      rw [hba, hbo, hbl]
      clear hX hba hbo hbl hsw DW HBT HK M0 M1 B34 HV S00 S02 HKN HX HX2 HBX HBY hc hc2 hlx hly hc5 hc6 hp0 hh0 hp1 hh1 hsV hb4 hsA hlI hlt hgk hk
      go_loopg [17] sc.length (fun gk s17 W => ∃ (i : Nat) (p h : Nat → Nat) (key y : Nat → List Int) (vo va : Nat → Value), i ≤ sc.length ∧ sc.length - i ≤ gk ∧ s17 = .int .i64 i ∧ Aside0 (∀ k, k < 2 → (y k).length ≤ 200 * i) ∧ Aside0 (Duo w bl bo ba p h key y vo va W))
      case atStart => exact ⟨0, _, _, _, _, _, _, by omega, by omega, rfl, ⟨fun k hk => by simp⟩, hst⟩
      case round =>
        clear hst
        obtain ⟨i, p, h, key, y, vo, va, hi, hgi, rfl, HLEN, HST⟩ := hrel
        have HB := Aside0.mk HST.out.bel
        by_cases hit : i < sc.length
        · obtain ⟨b, o, A0, c0, rfl, q0w, q1w, q2w, hc0, hC0⟩ := C_act HX3.out i hit
          have ho := HO.out (sc.getD i Act0) (by rw [List.getD_eq_getElem?_getD, List.getElem?_eq_getElem hit]; exact List.getElem_mem _)
          have q0w := pw_cell_below HB.out q0w
          have q1w := pw_cell_below HB.out q1w
          have q2w := pw_cell_below HB.out q2w
          obtain ⟨⟨what, tw, zs⟩, hq⟩ : ∃ q, sc.getD i Act0 = q := ⟨_, rfl⟩
          simp only [hq] at q0w q1w q2w hc0 hC0 ho
          have HBZ := Aside0.mk (byt ho)
          have HC0 := Aside0.mk hC0
          clear hq hC0 ho
          obtain ⟨W0, rfl⟩ : ∃ W, W = wr := ⟨_, rfl⟩
          obtain ⟨G, rfl⟩ : ∃ G, G = gk := ⟨_, rfl⟩
          go_upto_if 102 with fail
          go_cut [19] from 91 to 192 (fun s19 wx => ∃ k : Nat, k < 2 ∧ s19 = .int .i64 k ∧ wx = W0.alloc (.cells #[.int .i64 what, .bool tw, .slice A0 zs.length c0] 39))
          case first =>
            cases tw
            · go_wp2_with fail
              go_meet
              case rel => exact ⟨0, by omega, rfl, rfl⟩
            · go_wp2_with fail
              go_meet
              case rel => exact ⟨1, by omega, rfl, rfl⟩
          case rest =>
            obtain ⟨k, hk, rfl, rfl⟩ := hcut
            have hkI : (k : Int) < 2 := by omega
            by_cases h0 : what = 0
            · subst h0
              by_cases hz2 : 200 < zs.length
              · go_wp2_with fail
                refine (works _).mono ?_
                rintro e w1 ⟨rfl, hb⟩
                go_wp2_with fail
                go_ret
                exact ⟨rfl, HB.out.trans (((below_alloc (Below.refl W0.heap.size W0) _).trans (hb.mono (by simp))).mono HB.out.size)⟩
              · have HOBX := Aside0.mk (Ob.new W0 [.int .i64 0, .bool tw, .slice A0 zs.length c0] _ rfl 39)
                go_wp2_with ((with_reducible refine gate_builtin (b := .append) (xs := #[.tmp 133, .tmp 135]) rfl ?_); refine ap_row (W0.heap.size + 1) _ _ rfl rfl (OB.litAt (W0.alloc (.cells #[.int .i64 0, .bool tw, .slice A0 zs.length c0] 39)) (W0.heap.size + 1) (by simp) [] [] rfl 0 rfl (Nat.le_refl _) (by simp)) (Kd.C_below HC0.out (below_alloc (below_alloc HB.out _) _)) rfl rfl (by simp) (by simp; omega) ?_; intro vm w1 ho hb; have HM1 : Aside0 (OB (W0.heap.size + 1) w1 vm zs) := ⟨ho⟩; have HBX1 := Aside0.mk (HOBX.out.below (((Below.refl (W0.heap.size + 1) (W0.alloc (.cells #[.int .i64 0, .bool tw, .slice A0 zs.length c0] 39))).alloc (by simp) _).trans hb) (by simp)); have HW1 : Aside0 (Below W0.heap.size W0 w1) := ⟨(below_alloc (below_alloc (Below.refl _ _) _) _).trans (hb.mono (by omega))⟩; clear ho hb; obtain ⟨Am, cm, rfl, hcm, hCm⟩ := HM1.out.reads; have HCm := Aside0.mk hCm; clear hCm; have ql1 := pw_cell_below HW1.out (HST.out.l k _ (two_get _ hk)).1)
                have HWr := Aside0.mk (mWrite Am zs.length cm zs w1 ((HST.out.below HW1.out).m k hk) HCm.out rfl hcm (HST.out.kb k hk).2.2 HBZ.out (by omega) (by have := HLEN.out k hk; omega))
                have HGm : Aside0 (0 < zs.length → ∃ g, Am = some ⟨g, 0, none⟩ ∧ W0.heap.size + 1 ≤ g ∧ g < w1.heap.size) := ⟨fun hp => by
                  obtain ⟨g, c', e, h1, h2, _⟩ := HM1.out.form hp
                  injection e with e
                  exact ⟨g, e, h1, h2⟩⟩
                clear q0w q1w q2w ql1 HCm HOBX
                refine HWr.out.mono ?_
                rintro e w2 ⟨rfl, hmk, hbt⟩
                have HMK := Aside0.mk hmk
                have HBT := Aside0.mk hbt
                have hhlt := HST.out.lth hk
                have hplt := HST.out.ltp hk
                have HM2 := Aside0.mk (ob_but HM1.out hbt (fun j hj e => by have : j = h k := e; omega))
                have HBX2 := Aside0.mk (HBX1.out.but hbt (by have := HW1.out.size; have := HBX1.out.lt; omega) (fun e => by have : W0.heap.size = h k := e; omega))
                have hw12 := hbt.size
                have hw01 := HW1.out.size
                clear hmk hbt HWr HM1 HBX1
                go_wp2_with fail
                refine (num _ _).mono ?_
                rintro e w' ⟨rfl, rfl⟩
                go_wp2_with fail
                go_loopg [21] zs.length (fun gk s21 w' => ∃ (j : Nat) (ms : List Int), j ≤ zs.length ∧ zs.length - j ≤ gk ∧ s21 = .int .i64 j ∧ Aside0 (ms.length = zs.length) ∧ Aside0 (OB (W0.heap.size + 1) w' (.slice Am zs.length cm) ms) ∧ Aside0 (Below (W0.heap.size + 1) w2 w') ∧ Aside0 (MD (SB w1.heap.size w2.heap.size) (p k) (h k) w' (key k) (y k ++ zs)))
                case atStart => exact ⟨0, zs, by omega, by omega, rfl, ⟨rfl⟩, HM2, ⟨Below.refl _ _⟩, HMK⟩
                case round =>
                  clear HM2 HMK
                  obtain ⟨j, ms, hj, hgj, rfl, HMS, HOM, HB3, HMK⟩ := hrel
                  by_cases hjlt : j < zs.length
                  · obtain ⟨g, rfl, hg1, hg2⟩ := HGm.out (by omega)
                    obtain ⟨hcell, hfr⟩ := HOM.out.cell j (by omega)
                    obtain ⟨yy, hyy⟩ : ∃ yy, ms.getD j 0 = yy := ⟨_, rfl⟩
                    rw [hyy] at hcell
                    clear hyy
                    go_wp2
                    go_roundg (gk - 1)
                    case measure => omega
                    case rel => exact ⟨j + 1, _, by omega, by omega, by go_num, ⟨by rw [List.length_set]; exact HMS.out⟩, ⟨HOM.out.put j _⟩, ⟨HB3.out.setCell (by exact hg1) _⟩, ⟨HMK.out.same (Below.heap_setCell _ _ _ _ (by show p k ≠ g; omega)) (Below.heap_setCell _ _ _ _ (by show h k ≠ g; omega)) (fun i hi => Below.heap_setCell _ _ _ _ (by have := hi.1; show i ≠ g; omega))⟩⟩
                  · obtain rfl : j = zs.length := by omega
                    have hBut3 : But W0.heap.size (at1 (h k)) W0 wr := ((But.of HW1.out (Nat.le_refl _)).trans (HBT.out.mono HW1.out.size (fun _ _ e => e))).then HB3.out (by omega)
                    have hba := HST.out.ltb.2.2
                    have hahk := (HST.out.aph k hk).2
                    have hOb3 : Ob ba wr (two va) := HST.out.a.but hBut3 hba (fun e => hahk.2.2 e.symm)
                    have hS3 := Sl.same (HST.out.al k hk) (fun i hi => hBut3.block i hi.1 (hi.2.2.2.2 k hk))
                    obtain ⟨Av, cv, hv, hcv, hCv, _⟩ := hS3
                    obtain ⟨c3a, f3a⟩ := hOb3 k _ (two_get _ hk)
                    rw [hv] at c3a
                    have hBX3 := HBX2.out.below HB3.out (by omega)
                    obtain ⟨c3b, _⟩ := hBX3 2 _ rfl
                    have hC03 := Kd.C_below HC0.out (HB.out.trans (hBut3.below HB.out.size (fun j hj e => by have e2 : j = h k := e; have := HST.out.ph k hk; omega)))
                    have HBut3 := Aside0.mk hBut3
                    have HOb3 := Aside0.mk hOb3
                    have HCv := Aside0.mk hCv
                    have HC03 := Aside0.mk hC03
                    have hw23 := HB3.out.size
                    have hylen := HLEN.out k hk
                    obtain ⟨Z, hZ⟩ : ∃ Z, y k ++ zs = Z := ⟨_, rfl⟩
                    have hbz : Byt Z := by rw [← hZ]; exact (HST.out.kb k hk).2.2.append HBZ.out
                    have hzlen : Z.length ≤ 200 * (i + 1) := by rw [← hZ, List.length_append]; omega
                    rw [hZ] at HMK
                    have HZ := Aside0.mk hZ
                    have HZB := Aside0.mk hbz
                    obtain ⟨YK, hYK⟩ : ∃ Y, y k = Y := ⟨_, rfl⟩
                    rw [hYK] at c3a HCv HZ hylen hcv
                    clear hZ hbz hBut3 hOb3 hCv hC03 hBX3 HBX2 HOM HMS hjlt hgj hj HGm hYK hv
                    go_wp2_with fail
                    refine region [(0, .p), (2, .p), (3, .p), (6, .p), (4, .t), (7, .t), (1, .o), (5, .o), (8, .o), (9, .p), (10, .e)] (fun V => V.cell? ⟨ba, k, none⟩ = some (.slice Av YK.length cv) ∧ V.cell? ⟨W0.heap.size, 2, none⟩ = some (.slice A0 zs.length c0)) (by kernel_rfl) (by kernel_rfl) (fun _ _ _ _ _ h => h) (⟨c3a, c3b⟩) (fun hHeld => ?_)
                    iterate 4 (refine lex_p rfl rfl rfl (by intro w'; go_simp; with_reducible rfl) (by simp only [Act.put, List.setIfInBounds_toArray, List.set_cons_zero, List.set_cons_succ, i64_w, i32_w]; rfl) ?_)
                    iterate 2 (refine lex_t rfl rfl rfl (by rintro w' ⟨s1, s2⟩; go_simp; with_reducible rfl) (by simp only [Act.put, List.setIfInBounds_toArray, List.set_cons_zero, List.set_cons_succ, i64_w, i32_w]; rfl) ?_)
                    refine lex_o rfl ?_
                    go_wp2_with fail
                    refine lex_end (by first | (simp only [Act.put, List.setIfInBounds_toArray, List.set_cons_zero, List.set_cons_succ, i64_w, i32_w]; rfl) | rfl) (⟨pw_cell_below (below_alloc (Below.refl _ _) _) hHeld.1, pw_cell_below (below_alloc (Below.refl _ _) _) hHeld.2⟩) (fun hHeld => ?_)
                    refine lex_o rfl ?_
                    refine ap_row wr.heap.size _ _ rfl rfl (OB.lit wr.drew [] [] rfl 0 rfl (Nat.le_refl _) (by simp)) (Kd.C_below HCv.out (below_alloc (below_drew (Below.refl _ _)) _)) rfl rfl (by simp) (by simp; omega) ?_
                    intro v4 w4 ho hb4
                    have HO4 : Aside0 (OB wr.heap.size w4 v4 YK) := ⟨ho⟩
                    have HB34 := Aside0.mk ((below_alloc (below_drew (Below.refl wr.heap.size wr)) _).trans hb4)
                    clear ho hb4
                    refine lex_end (by first | (simp only [Act.put, List.setIfInBounds_toArray, List.set_cons_zero, List.set_cons_succ, i64_w, i32_w]; rfl) | rfl) (⟨pw_cell_below HB34.out c3a, pw_cell_below HB34.out c3b⟩) (fun hHeld => ?_)
                    refine lex_o rfl ?_
                    refine ap_row wr.heap.size _ _ rfl rfl HO4.out (Kd.C_below HC03.out HB34.out) rfl rfl HB34.out.size (by omega) ?_
                    intro v5 w5 ho hb5
                    have HO5 : Aside0 (OB wr.heap.size w5 v5 Z) := ⟨by rw [← HZ.out]; exact ho⟩
                    have HB35 := Aside0.mk (HB34.out.trans hb5)
                    clear ho hb5
                    refine lex_end (by first | (simp only [Act.put, List.setIfInBounds_toArray, List.set_cons_zero, List.set_cons_succ, i64_w, i32_w]; rfl) | rfl) (⟨pw_cell_below HB35.out c3a, pw_cell_below HB35.out c3b⟩) (fun hHeld => ?_)
                    (refine lex_p rfl rfl rfl (by intro w'; go_simp; with_reducible rfl) (by simp only [Act.put, List.setIfInBounds_toArray, List.set_cons_zero, List.set_cons_succ, i64_w, i32_w]; rfl) ?_)
                    refine lex_e rfl ?_
                    have hO5b := HOb3.out.below HB35.out (by have := HBut3.out.size; omega)
                    obtain ⟨c5a, f5a⟩ := hO5b k _ (two_get _ hk)
                    obtain ⟨A5, c5, rfl, _, _⟩ := HO5.out.reads
                    go_wp2_with fail
                    refine putQ_normal ?_
                    go_wp2_with fail
                    go_roundg (G - 1)
                    case measure => omega
                    case rel =>
                      exact ⟨i + 1, p, h, key, upd y k Z, vo, upd va k (.slice A5 Z.length c5), by omega, by omega, by go_num, ⟨len_upd HLEN.out hzlen⟩, ⟨HST.out.wrote hk HW1.out HBT.out HB3.out HMK.out HB35.out HO5.out HZB.out⟩⟩
            · have hw0 : (what == 0) = false := by simpa using h0
              by_cases h1 : what = 1
              · subst h1
                have hBX := below_alloc (Below.refl W0.heap.size W0) (.cells #[.int .i64 1, .bool tw, .slice A0 zs.length c0] 39)
                have hST1 := HST.out.below hBX
                have ql : W0.cell? ⟨bl, k, none⟩ = some (ptr (p k)) := (HST.out.l k _ (two_get _ hk)).1
                have ql1 : (W0.alloc (.cells #[.int .i64 1, .bool tw, .slice A0 zs.length c0] 39)).cell? ⟨bl, k, none⟩ = some (ptr (p k)) := pw_cell_below hBX ql
                obtain ⟨W1, hW1⟩ : ∃ W1, W0.alloc (.cells #[.int .i64 1, .bool tw, .slice A0 zs.length c0] 39) = W1 := ⟨_, rfl⟩
                rw [hW1] at hST1
                have HST1 := Aside0.mk hST1
                have HW1 := Aside0.mk hW1
                obtain ⟨bt, hbt⟩ : ∃ b, ((tagOf (key k) (y k)).map (Value.int .u8)).toArray = b := ⟨_, rfl⟩
                have HBT := Aside0.mk hbt.symm
                have HTL := Aside0.mk (tagOf_len (key k) (y k))
                have hbz : bt.size = 20 := by rw [← hbt]; simpa using HTL.out
                have hne := fun W => neq20 HTL.out HBT.out W
                have hTG := mTag W1 (hST1.m k hk) (fun j hj => hj.1) (hST1.kb k hk).1 (hST1.kb k hk).2.2 (by have := HLEN.out k hk; omega)
                rw [hbt] at hTG
                have HTG := Aside0.mk hTG
                have hst2 := Aside0.mk (new20 HTL.out HBT.out hz2)
                clear hST1 hBX hW1 hTG hbt q0w q1w q2w
                go_wp2_with fail
                rw [HW1.out]
                refine HTG.out.mono ?_
                rintro e w2 ⟨rfl, hb2⟩
                have b2 := hb2.trans ((below_alloc (Below.refl w2.heap.size w2) (.cells bt 41)).mono hb2.size)
                have hA2 := Arr.new (k := .u8) w2 41 (tagOf (key k) (y k)) bt HBT.out
                obtain ⟨V2, hV2⟩ : ∃ V, w2.alloc (.cells bt 41) = V := ⟨_, rfl⟩
                rw [hV2] at b2 hA2
                have hST2 := HST1.out.below b2
                obtain ⟨Ao, co, hvo, hco, hCo⟩ := hST2.ow k hk
                obtain ⟨Av, cv, hva, hcv, hCv, _⟩ := hST2.al k hk
                have HF : Aside0 (∀ U, Below V2.heap.size V2 U → (loadVar 41 ⟨w2.heap.size, 0, none⟩).run Try.prog U = .ok (.agg bt) U ∧ U.cell? ⟨bo, k, none⟩ = some (.slice Ao (key k).length co) ∧ U.cell? ⟨ba, k, none⟩ = some (.slice Av (y k).length cv)) := ⟨fun U hU => ⟨load20 (hA2.later hU) HTL.out HBT.out, by rw [← hvo]; exact pw_cell_below hU (hST2.o k _ (two_get _ hk)).1, by rw [← hva]; exact pw_cell_below hU (hST2.a k _ (two_get _ hk)).1⟩⟩
                have hRT := fun W h1 h2 => rtagC Ao co (key k) Av cv (y k) W h1 hco (hST2.kb k hk).1 (by have := (hST2.kb k hk).2.1; omega) h2 hcv (hST2.kb k hk).2.2 (by have := HLEN.out k hk; omega)
                rw [← HBT.out] at hRT
                have HRT := Aside0.mk hRT
                have HST2 := Aside0.mk hST2
                have HV2 := Aside0.mk hV2
                have HCo := Aside0.mk hCo
                have HCv := Aside0.mk hCv
                clear hb2 b2 hA2 hV2 hST2 hvo hva hCo hCv hRT ql ql1
                go_wp2_with (refine pl_store rfl 41 _ _ rfl _ _ (hst2.out _) rfl rfl ?_; rw [HV2.out])
                refine region [(0, .p), (1, .o), (2, .p), (3, .p), (5, .p), (6, .p), (8, .p), (9, .p), (4, .t), (7, .t), (10, .t), (11, .o), (12, .p), (13, .p)] (fun U => (loadVar 41 ⟨w2.heap.size, 0, none⟩).run Try.prog U = .ok (.agg bt) U ∧ U.cell? ⟨bo, k, none⟩ = some (.slice Ao (key k).length co) ∧ U.cell? ⟨ba, k, none⟩ = some (.slice Av (y k).length cv)) (by kernel_rfl) (by kernel_rfl) (fun _ _ _ _ _ h => h) (HF.out _ (below_drew (Below.refl _ _))) (fun hHeld => ?_)
                (refine lex_p rfl rfl rfl (by intro w'; go_simp; with_reducible rfl) (by simp only [Act.put, List.setIfInBounds_toArray, List.set_cons_zero, List.set_cons_succ, i64_w, i32_w]; rfl) ?_)
                refine lex_o rfl ?_
                go_wp2_with fail
                refine (num _ _).mono ?_
                rintro e w' ⟨rfl, rfl⟩
                go_wp2_with fail
                refine lex_end (by first | (simp only [Act.put, List.setIfInBounds_toArray, List.set_cons_zero, List.set_cons_succ, i64_w, i32_w]; rfl) | rfl) (HF.out _ (below_drew (Below.refl _ _))) (fun hHeld => ?_)
                iterate 6 (refine lex_p rfl rfl rfl (by intro w'; go_simp; with_reducible rfl) (by simp only [Act.put, List.setIfInBounds_toArray, List.set_cons_zero, List.set_cons_succ, i64_w, i32_w]; rfl) ?_)
                (refine lex_t rfl rfl rfl (by rintro w' ⟨s0, s1, s2⟩; exact run_load_arr rfl rfl s0) (by simp only [Act.put, List.setIfInBounds_toArray, List.set_cons_zero, List.set_cons_succ, i64_w, i32_w]; rfl) ?_)
                iterate 2 (refine lex_t rfl rfl rfl (by rintro w' ⟨s0, s1, s2⟩; go_simp; with_reducible rfl) (by simp only [Act.put, List.setIfInBounds_toArray, List.set_cons_zero, List.set_cons_succ, i64_w, i32_w]; rfl) ?_)
                refine lex_o rfl ?_
                go_wp2_with fail
                refine (HRT.out _ (Kd.C_below HCo.out (HST2.out.bel.trans ((below_drew (Below.refl V2.heap.size V2)).mono HST2.out.bel.size))) (Kd.C_below HCv.out (below_drew (Below.refl _ _)))).mono ?_
                rintro e w5 ⟨rfl, hb5⟩
                have B5 := Aside0.mk ((below_drew (Below.refl V2.heap.size V2)).trans hb5)
                have HST5 := Aside0.mk (HST2.out.below B5.out)
                clear hb5
                go_wp2_with fail
                refine lex_end (by first | (simp only [Act.put, List.setIfInBounds_toArray, List.set_cons_zero, List.set_cons_succ, i64_w, i32_w]; rfl) | rfl) (HF.out _ B5.out) (fun hHeld => ?_)
                iterate 2 (refine lex_p rfl rfl rfl (by intro w'; go_simp; with_reducible rfl) (by simp only [Act.put, List.setIfInBounds_toArray, List.set_cons_zero, List.set_cons_succ, i64_w, i32_w]; rfl) ?_)
                refine lex_nil ?_
                go_wp2_with fail
                go_roundg (G - 1)
                case measure => omega
                case rel => exact ⟨i + 1, p, h, key, y, vo, va, by omega, by omega, by go_num, ⟨len_on HLEN.out⟩, HST5⟩
              · have hw1 : (what == 1) = false := by simpa using h1
                obtain ⟨j, hj, hjk, wr1, wr2, hjI⟩ : ∃ j : Nat, j < 2 ∧ j ≠ k ∧ IntKind.i64.wrap (1 - (k : Int)) = (j : Int) ∧ wrap64 (1 - (k : Int)) = (j : Int) ∧ (j : Int) < 2 := ⟨1 - k, by omega, by omega, by rw [IntKind.wrap_i64]; omega, by unfold wrap64; omega, by omega⟩
                have hBX := below_alloc (Below.refl W0.heap.size W0) (.cells #[.int .i64 what, .bool tw, .slice A0 zs.length c0] 39)
                have hST1 := HST.out.below hBX
                obtain ⟨W1, hW1⟩ : ∃ W1, W0.alloc (.cells #[.int .i64 what, .bool tw, .slice A0 zs.length c0] 39) = W1 := ⟨_, rfl⟩
                rw [hW1] at hST1
                have HST1 := Aside0.mk (hST1.below (below_drew (Below.refl W1.heap.size W1)))
                have HW1 := Aside0.mk hW1
                obtain ⟨Aoj, coj, hvo, -, -⟩ := HST1.out.ow j hj
                obtain ⟨Avj, cvj, hva, -, -, -⟩ := HST1.out.al j hj
                have HVO := Aside0.mk hvo
                have HVA := Aside0.mk hva
                have HF : Aside0 (∀ U, Below W1.drew.heap.size W1.drew U → U.cell? ⟨bl, j, none⟩ = some (ptr (p j)) ∧ U.cell? ⟨bo, j, none⟩ = some (.slice Aoj (key j).length coj) ∧ U.cell? ⟨ba, j, none⟩ = some (.slice Avj (y j).length cvj)) := ⟨fun U hU => ⟨pw_cell_below hU (HST1.out.l j _ (two_get _ hj)).1, by rw [← hvo]; exact pw_cell_below hU (HST1.out.o j _ (two_get _ hj)).1, by rw [← hva]; exact pw_cell_below hU (HST1.out.a j _ (two_get _ hj)).1⟩⟩
                have hap := HST1.out.ap
                clear hST1 hBX hW1 q0w q1w q2w hvo hva
                go_wp2_with fail
                rw [HW1.out]
                refine region [(0, .p), (1, .p), (2, .p), (3, .p), (4, .p), (5, .p), (6, .p), (7, .p), (10, .p), (11, .p), (12, .p), (14, .p), (15, .p), (16, .p), (8, .t), (13, .t), (17, .t), (9, .o), (18, .p), (19, .o), (20, .p), (21, .o), (22, .p), (23, .e)] (fun U => U.cell? ⟨bl, j, none⟩ = some (ptr (p j)) ∧ U.cell? ⟨bo, j, none⟩ = some (.slice Aoj (key j).length coj) ∧ U.cell? ⟨ba, j, none⟩ = some (.slice Avj (y j).length cvj)) (by kernel_rfl) (by kernel_rfl) (fun _ _ _ _ _ h => h) (HF.out _ (Below.refl _ _)) (fun hHeld => ?_)
                iterate 14 (refine lex_p rfl rfl rfl (by intro w'; go_simp; with_reducible rfl) (by simp only [Act.put, List.setIfInBounds_toArray, List.set_cons_zero, List.set_cons_succ, i64_w, i32_w]; rfl) ?_)
                iterate 3 (refine lex_t rfl rfl rfl (by rintro w' ⟨s0, s1, s2⟩; go_simp; with_reducible rfl) (by simp only [Act.put, List.setIfInBounds_toArray, List.set_cons_zero, List.set_cons_succ, i64_w, i32_w]; rfl) ?_)
                refine lex_o rfl ?_
                go_wp2_with fail
                refine (mCopy _ (HST1.out.m j hj) (fun r hr => hr.1)).mono ?_
                rintro e w2 ⟨p2, h2, rfl, hm2, hp2, hh2, hb2⟩
                have HM2 := Aside0.mk hm2
                have HB2 := Aside0.mk hb2
                have HPH := Aside0.mk (And.intro hp2 hh2)
                clear hm2 hb2 hp2 hh2
                go_wp2_with fail
                refine lex_end (by first | (simp only [Act.put, List.setIfInBounds_toArray, List.set_cons_zero, List.set_cons_succ, i64_w, i32_w]; rfl) | rfl) (HF.out _ HB2.out) (fun hHeld => ?_)
                (refine lex_p rfl rfl rfl (by intro w'; go_simp; with_reducible rfl) (by simp only [Act.put, List.setIfInBounds_toArray, List.set_cons_zero, List.set_cons_succ, i64_w, i32_w]; rfl) ?_)
                refine lex_o rfl ?_
                have HSTc := Aside0.mk (HST1.out.below HB2.out)
                obtain ⟨cl, fl⟩ := HSTc.out.l k _ (two_get _ hk)
                have HO3 := Aside0.mk (HSTc.out.o.far (q := ⟨bl, k, none⟩) (by show bo ≠ bl; omega) (ptr p2))
                have HL3 := Aside0.mk (HSTc.out.l.set k hk (ptr p2))
                rw [two_set _ hk] at HL3
                have HA3 := Aside0.mk (HSTc.out.a.far (q := ⟨bl, k, none⟩) (by show ba ≠ bl; omega) (ptr p2))
                have HF3 : Aside0 ((w2.setCell ⟨bl, k, none⟩ (ptr p2)).cell? ⟨bl, j, none⟩ = some (ptr (p j))) := ⟨by
                  have h9 := (HL3.out j _ (two_get _ hj)).1
                  rw [upd_ne _ _ hjk] at h9
                  exact h9⟩
                go_wp2_with fail
                refine lex_end (by first | (simp only [Act.put, List.setIfInBounds_toArray, List.set_cons_zero, List.set_cons_succ, i64_w, i32_w]; rfl) | rfl) (⟨HF3.out, (HO3.out j _ (two_get _ hj)).1.trans (congrArg some HVO.out), (HA3.out j _ (two_get _ hj)).1.trans (congrArg some HVA.out)⟩) (fun hHeld => ?_)
                (refine lex_p rfl rfl rfl (by intro w'; go_simp; with_reducible rfl) (by simp only [Act.put, List.setIfInBounds_toArray, List.set_cons_zero, List.set_cons_succ, i64_w, i32_w]; rfl) ?_)
                refine lex_o rfl ?_
                obtain ⟨co, fo⟩ := HO3.out k _ (two_get _ hk)
                have HL4 := Aside0.mk (HL3.out.far (q := ⟨bo, k, none⟩) (by show bl ≠ bo; omega) (.slice Aoj (key j).length coj))
                have HO4 := Aside0.mk (HO3.out.set k hk (.slice Aoj (key j).length coj))
                rw [two_set _ hk] at HO4
                have HA4 := Aside0.mk (HA3.out.far (q := ⟨bo, k, none⟩) (by show ba ≠ bo; omega) (.slice Aoj (key j).length coj))
                have HF4 : Aside0 (some (upd (fun i => ptr (p i)) k (ptr p2) j) = some (ptr (p j))) := ⟨by rw [upd_ne _ _ hjk]⟩
                have HG4 : Aside0 (((w2.setCell ⟨bl, k, none⟩ (ptr p2)).setCell ⟨bo, k, none⟩ (.slice Aoj (key j).length coj)).cell? ⟨bo, j, none⟩ = some (.slice Aoj (key j).length coj)) := ⟨by
                  have h9 := (HO4.out j _ (two_get _ hj)).1
                  rw [upd_ne _ _ hjk, HVO.out] at h9
                  exact h9⟩
                go_wp2_with fail
                refine lex_end (by first | (simp only [Act.put, List.setIfInBounds_toArray, List.set_cons_zero, List.set_cons_succ, i64_w, i32_w]; rfl) | rfl) (⟨(HL4.out j _ (two_get _ hj)).1.trans HF4.out, HG4.out, (HA4.out j _ (two_get _ hj)).1.trans (congrArg some HVA.out)⟩) (fun hHeld => ?_)
                (refine lex_p rfl rfl rfl (by intro w'; go_simp; with_reducible rfl) (by simp only [Act.put, List.setIfInBounds_toArray, List.set_cons_zero, List.set_cons_succ, i64_w, i32_w]; rfl) ?_)
                refine lex_e rfl ?_
                obtain ⟨ca, fa⟩ := HA4.out k _ (two_get _ hk)
                go_wp2_with fail
                refine putQ_normal ?_
                go_wp2_with fail
                go_roundg (G - 1)
                case measure => omega
                case rel =>
                  have hco := HST1.out.copied hk hj hjk HB2.out HPH.out.1 HPH.out.2 HM2.out
                  rw [HVO.out, HVA.out] at hco
                  exact ⟨i + 1, _, _, _, _, _, _, by omega, by omega, by go_num, ⟨len_upd HLEN.out (len_on HLEN.out j hj)⟩, ⟨hco⟩⟩
        · obtain rfl : i = sc.length := by omega
          have hlI : ¬ ((sc.length : Int) < (sc.length : Int)) := by omega
          have HD0 := Aside0.mk HST.out
          obtain ⟨bt0, hbt0⟩ : ∃ b, ((tagOf (key 0) (y 0)).map (Value.int .u8)).toArray = b := ⟨_, rfl⟩
          have HBT0 := Aside0.mk hbt0.symm
          have HTL0 := Aside0.mk (tagOf_len (key 0) (y 0))
          have hbz0 : bt0.size = 20 := by rw [← hbt0]; simpa using HTL0.out
          have heq0 := fun W => eql20 HTL0.out HBT0.out W
          have hst0 := Aside0.mk (new20 HTL0.out HBT0.out hz2)
          have HTG0 := Aside0.mk (fun W (d : Duo w bl bo ba p h key y vo va W) => mTag W (d.m 0 (by decide)) (fun j hj => hj.1) (d.kb 0 (by decide)).1 (d.kb 0 (by decide)).2.2 (by have := HLEN.out 0 (by decide); omega))
          rw [hbt0] at HTG0
          obtain ⟨Ao0, co0, hvo0, hco0, hCo0⟩ := HST.out.ow 0 (by decide)
          obtain ⟨Av0, cv0, hva0, hcv0, hCv0, _⟩ := HST.out.al 0 (by decide)
          have hRT0 := fun W h1 h2 => rtagC Ao0 co0 (key 0) Av0 cv0 (y 0) W h1 hco0 (HST.out.kb 0 (by decide)).1 (by have := (HST.out.kb 0 (by decide)).2.1; omega) h2 hcv0 (HST.out.kb 0 (by decide)).2.2 (by have := HLEN.out 0 (by decide); omega)
          rw [← HBT0.out] at hRT0
          have HRT0 := Aside0.mk hRT0
          have HCo0 := Aside0.mk hCo0
          have HCv0 := Aside0.mk hCv0
          have HVO0 := Aside0.mk hvo0
          have HVA0 := Aside0.mk hva0
          clear hbt0 hRT0 hCo0 hCv0 hvo0 hva0
          obtain ⟨bt1, hbt1⟩ : ∃ b, ((tagOf (key 1) (y 1)).map (Value.int .u8)).toArray = b := ⟨_, rfl⟩
          have HBT1 := Aside0.mk hbt1.symm
          have HTL1 := Aside0.mk (tagOf_len (key 1) (y 1))
          have hbz1 : bt1.size = 20 := by rw [← hbt1]; simpa using HTL1.out
          have heq1 := fun W => eql20 HTL1.out HBT1.out W
          have hst1 := Aside0.mk (new20 HTL1.out HBT1.out hz2)
          have HTG1 := Aside0.mk (fun W (d : Duo w bl bo ba p h key y vo va W) => mTag W (d.m 1 (by decide)) (fun j hj => hj.1) (d.kb 1 (by decide)).1 (d.kb 1 (by decide)).2.2 (by have := HLEN.out 1 (by decide); omega))
          rw [hbt1] at HTG1
          obtain ⟨Ao1, co1, hvo1, hco1, hCo1⟩ := HST.out.ow 1 (by decide)
          obtain ⟨Av1, cv1, hva1, hcv1, hCv1, _⟩ := HST.out.al 1 (by decide)
          have hRT1 := fun W h1 h2 => rtagC Ao1 co1 (key 1) Av1 cv1 (y 1) W h1 hco1 (HST.out.kb 1 (by decide)).1 (by have := (HST.out.kb 1 (by decide)).2.1; omega) h2 hcv1 (HST.out.kb 1 (by decide)).2.2 (by have := HLEN.out 1 (by decide); omega)
          rw [← HBT1.out] at hRT1
          have HRT1 := Aside0.mk hRT1
          have HCo1 := Aside0.mk hCo1
          have HCv1 := Aside0.mk hCv1
          have HVO1 := Aside0.mk hvo1
          have HVA1 := Aside0.mk hva1
          clear hbt1 hRT1 hCo1 hCv1 hvo1 hva1
          have HNT := Aside0.mk (fun W => mTag_nil W)
          rw [← HZ2.out] at HNT
          have hstz := Aside0.mk (new20 (ys := List.replicate 20 0) (by simp) HZ2.out hz2)
          have ql0 : wr.cell? ⟨bl, 0, none⟩ = some (ptr (p 0)) := (HST.out.l 0 _ rfl).1
          go_wp2_with fail
          refine (HTG0.out wr HD0.out).mono ?_
          rintro e x1 ⟨rfl, hb1⟩
          have b1 := hb1.trans ((below_alloc (Below.refl x1.heap.size x1) (.cells bt0 41)).mono hb1.size)
          have hA1 := Arr.new (k := .u8) x1 41 (tagOf (key 0) (y 0)) bt0 HBT0.out
          obtain ⟨V1, hV1⟩ : ∃ V, x1.alloc (.cells bt0 41) = V := ⟨_, rfl⟩
          rw [hV1] at b1 hA1
          have HV1 := Aside0.mk hV1
          have HE1 := Aside0.mk b1
          have HD1 := Aside0.mk (HD0.out.below b1)
          have HA1 := Aside0.mk hA1
          have ql1 : V1.cell? ⟨bl, 1, none⟩ = some (ptr (p 1)) := (HD1.out.l 1 _ rfl).1
          clear hb1 b1 hA1 hV1 ql0
          go_wp2_with (refine pl_store rfl 41 _ _ rfl _ _ (hst0.out _) rfl rfl ?_; rw [HV1.out])
          refine (HTG1.out V1 HD1.out).mono ?_
          rintro e x2 ⟨rfl, hb1⟩
          have b1 := hb1.trans ((below_alloc (Below.refl x2.heap.size x2) (.cells bt1 41)).mono hb1.size)
          have hA2 := Arr.new (k := .u8) x2 41 (tagOf (key 1) (y 1)) bt1 HBT1.out
          obtain ⟨V2, hV2⟩ : ∃ V, x2.alloc (.cells bt1 41) = V := ⟨_, rfl⟩
          rw [hV2] at b1 hA2
          have HV2 := Aside0.mk hV2
          have HE2 := Aside0.mk b1
          have HA2 := Aside0.mk hA2
          clear hb1 b1 hA2 hV2 ql1
          go_wp2_with (refine pl_store rfl 41 _ _ rfl _ _ (hst1.out _) rfl rfl ?_; rw [HV2.out])
          refine (HNT.out V2).mono ?_
          rintro e x3 ⟨rfl, hb1⟩
          have b1 := hb1.trans ((below_alloc (Below.refl x3.heap.size x3) (.cells z2 41)).mono hb1.size)
          obtain ⟨V3, hV3⟩ : ∃ V, x3.alloc (.cells z2 41) = V := ⟨_, rfl⟩
          rw [hV3] at b1
          have HV3 := Aside0.mk hV3
          have HE13 := Aside0.mk (HE2.out.trans (b1.mono HE2.out.size))
          have HE23 := Aside0.mk b1
          have HD3 := Aside0.mk (HD1.out.below HE13.out)
          have HE03 := Aside0.mk (HE1.out.trans (HE13.out.mono HE1.out.size))
          clear hb1 b1 hV3
          go_wp2_with (refine pl_store rfl 41 _ _ rfl _ _ (hstz.out _) rfl rfl ?_; rw [HV3.out])
          have HF : Aside0 (∀ U, Below V3.heap.size V3 U → ((loadVar 41 ⟨x1.heap.size, 0, none⟩).run Try.prog U = .ok (.agg bt0) U ∧ (loadVar 41 ⟨x2.heap.size, 0, none⟩).run Try.prog U = .ok (.agg bt1) U) ∧ (U.cell? ⟨bo, 0, none⟩ = some (.slice Ao0 (key 0).length co0) ∧ U.cell? ⟨ba, 0, none⟩ = some (.slice Av0 (y 0).length cv0)) ∧ (U.cell? ⟨bo, 1, none⟩ = some (.slice Ao1 (key 1).length co1) ∧ U.cell? ⟨ba, 1, none⟩ = some (.slice Av1 (y 1).length cv1))) := ⟨fun U hU =>
            ⟨⟨load20 ((HA1.out.later HE13.out).later hU) HTL0.out HBT0.out, load20 ((HA2.out.later HE23.out).later hU) HTL1.out HBT1.out⟩, ⟨by rw [← HVO0.out]; exact pw_cell_below hU (HD3.out.o 0 _ rfl).1, by rw [← HVA0.out]; exact pw_cell_below hU (HD3.out.a 0 _ rfl).1⟩, ⟨by rw [← HVO1.out]; exact pw_cell_below hU (HD3.out.o 1 _ rfl).1, by rw [← HVA1.out]; exact pw_cell_below hU (HD3.out.a 1 _ rfl).1⟩⟩⟩
          have HS0 := Aside0.mk (fun U (hU : Below V3.heap.size V3 U) => (HRT0.out U (Kd.C_below HCo0.out (HD3.out.bel.trans (hU.mono HD3.out.bel.size))) (Kd.C_below HCv0.out (HE03.out.trans (hU.mono HE03.out.size)))))
          have HS1 := Aside0.mk (fun U (hU : Below V3.heap.size V3 U) => (HRT1.out U (Kd.C_below HCo1.out (HD3.out.bel.trans (hU.mono HD3.out.bel.size))) (Kd.C_below HCv1.out (HE03.out.trans (hU.mono HE03.out.size)))))
          have HB0 : Aside0 (Below V3.heap.size V3 V3.drew) := ⟨below_drew (Below.refl _ _)⟩
          have wr0 : wrap64 0 = 0 := by unfold wrap64; omega
          refine region [(0, .p), (2, .p), (5, .p), (8, .p), (1, .o), (3, .o), (4, .p), (6, .o), (7, .p), (9, .o), (10, .p), (11, .p), (12, .p), (14, .p), (16, .p), (13, .t), (15, .t), (17, .t), (18, .o), (19, .p), (20, .p), (21, .p), (23, .p), (25, .p), (22, .t), (24, .t), (26, .t), (27, .o), (28, .p), (29, .p), (30, .p), (31, .p), (32, .o), (33, .p), (34, .p), (35, .p), (36, .p), (37, .o), (38, .o), (39, .p), (40, .p), (41, .p), (42, .p), (43, .o), (44, .p), (45, .p), (46, .p), (47, .q), (48, .p), (49, .p)] (fun U => ((loadVar 41 ⟨x1.heap.size, 0, none⟩).run Try.prog U = .ok (.agg bt0) U ∧ (loadVar 41 ⟨x2.heap.size, 0, none⟩).run Try.prog U = .ok (.agg bt1) U) ∧ (U.cell? ⟨bo, 0, none⟩ = some (.slice Ao0 (key 0).length co0) ∧ U.cell? ⟨ba, 0, none⟩ = some (.slice Av0 (y 0).length cv0)) ∧ (U.cell? ⟨bo, 1, none⟩ = some (.slice Ao1 (key 1).length co1) ∧ U.cell? ⟨ba, 1, none⟩ = some (.slice Av1 (y 1).length cv1))) (by kernel_rfl) (regOK_use ok44 (by kernel_rfl)) (fun _ _ _ _ _ h => h) (HF.out _ HB0.out) (fun hHeld => ?_)
          iterate 4 (refine lex_p rfl rfl rfl (by intro w'; go_simp; with_reducible rfl) (by simp only [Act.put, List.setIfInBounds_toArray, List.set_cons_zero, List.set_cons_succ, i64_w, i32_w]; rfl) ?_)
          refine lex_o rfl ?_
          go_wp2_with fail
          refine (num _ _).mono ?_
          rintro e w' ⟨rfl, rfl⟩
          go_wp2_with fail
          refine lex_end (by first | (simp only [Act.put, List.setIfInBounds_toArray, List.set_cons_zero, List.set_cons_succ, i64_w, i32_w]; rfl) | rfl) (HF.out _ HB0.out) (fun hHeld => ?_)
          refine lex_o rfl ?_
          go_wp2_with fail
          refine (num _ _).mono ?_
          rintro e w' ⟨rfl, rfl⟩
          go_wp2_with fail
          refine lex_end (by first | (simp only [Act.put, List.setIfInBounds_toArray, List.set_cons_zero, List.set_cons_succ, i64_w, i32_w]; rfl) | rfl) (HF.out _ HB0.out) (fun hHeld => ?_)
          (refine lex_p rfl rfl rfl (by intro w'; go_simp; with_reducible rfl) (by simp only [Act.put, List.setIfInBounds_toArray, List.set_cons_zero, List.set_cons_succ, i64_w, i32_w]; rfl) ?_)
          refine lex_o rfl ?_
          go_wp2_with fail
          refine (num _ _).mono ?_
          rintro e w' ⟨rfl, rfl⟩
          go_wp2_with fail
          refine lex_end (by first | (simp only [Act.put, List.setIfInBounds_toArray, List.set_cons_zero, List.set_cons_succ, i64_w, i32_w]; rfl) | rfl) (HF.out _ HB0.out) (fun hHeld => ?_)
          (refine lex_p rfl rfl rfl (by intro w'; go_simp; with_reducible rfl) (by simp only [Act.put, List.setIfInBounds_toArray, List.set_cons_zero, List.set_cons_succ, i64_w, i32_w]; rfl) ?_)
          refine lex_o rfl ?_
          go_wp2_with fail
          refine (num _ _).mono ?_
          rintro e w' ⟨rfl, rfl⟩
          go_wp2_with fail
          refine lex_end (by first | (simp only [Act.put, List.setIfInBounds_toArray, List.set_cons_zero, List.set_cons_succ, i64_w, i32_w]; rfl) | rfl) (HF.out _ HB0.out) (fun hHeld => ?_)
          iterate 5 (refine lex_p rfl rfl rfl (by intro w'; go_simp; with_reducible rfl) (by simp only [Act.put, List.setIfInBounds_toArray, List.set_cons_zero, List.set_cons_succ, i64_w, i32_w]; rfl) ?_)
          (refine lex_t rfl rfl rfl (by rintro w' ⟨⟨s0, s1⟩, ⟨s2, s3⟩, ⟨s4, s5⟩⟩; exact run_load_arr rfl rfl s0) (by simp only [Act.put, List.setIfInBounds_toArray, List.set_cons_zero, List.set_cons_succ, i64_w, i32_w]; rfl) ?_)
          iterate 2 (refine lex_t rfl rfl rfl (by rintro w' ⟨⟨s0, s1⟩, ⟨s2, s3⟩, ⟨s4, s5⟩⟩; go_simp; with_reducible rfl) (by simp only [Act.put, List.setIfInBounds_toArray, List.set_cons_zero, List.set_cons_succ, i64_w, i32_w]; rfl) ?_)
          refine lex_o rfl ?_
          go_wp2_with fail
          refine (HS0.out _ HB0.out).mono ?_
          rintro e y1 ⟨rfl, hb⟩
          have HB1 := Aside0.mk (HB0.out.trans (hb.mono HB0.out.size))
          clear hb
          go_wp2_with fail
          refine lex_end (by first | (simp only [Act.put, List.setIfInBounds_toArray, List.set_cons_zero, List.set_cons_succ, i64_w, i32_w]; rfl) | rfl) (HF.out _ HB1.out) (fun hHeld => ?_)
          iterate 5 (refine lex_p rfl rfl rfl (by intro w'; go_simp; with_reducible rfl) (by simp only [Act.put, List.setIfInBounds_toArray, List.set_cons_zero, List.set_cons_succ, i64_w, i32_w]; rfl) ?_)
          (refine lex_t rfl rfl rfl (by rintro w' ⟨⟨s0, s1⟩, ⟨s2, s3⟩, ⟨s4, s5⟩⟩; exact run_load_arr rfl rfl s1) (by simp only [Act.put, List.setIfInBounds_toArray, List.set_cons_zero, List.set_cons_succ, i64_w, i32_w]; rfl) ?_)
          iterate 2 (refine lex_t rfl rfl rfl (by rintro w' ⟨⟨s0, s1⟩, ⟨s2, s3⟩, ⟨s4, s5⟩⟩; go_simp; with_reducible rfl) (by simp only [Act.put, List.setIfInBounds_toArray, List.set_cons_zero, List.set_cons_succ, i64_w, i32_w]; rfl) ?_)
          refine lex_o rfl ?_
          go_wp2_with fail
          refine (HS1.out _ HB1.out).mono ?_
          rintro e y2 ⟨rfl, hb⟩
          have HB2 := Aside0.mk (HB1.out.trans (hb.mono HB1.out.size))
          clear hb
          go_wp2_with fail
          refine lex_end (by first | (simp only [Act.put, List.setIfInBounds_toArray, List.set_cons_zero, List.set_cons_succ, i64_w, i32_w]; rfl) | rfl) (HF.out _ HB2.out) (fun hHeld => ?_)
          iterate 4 (refine lex_p rfl rfl rfl (by intro w'; go_simp; with_reducible rfl) (by simp only [Act.put, List.setIfInBounds_toArray, List.set_cons_zero, List.set_cons_succ, i64_w, i32_w]; rfl) ?_)
          refine lex_o rfl ?_
          go_wp2_with fail
          refine (num _ _).mono ?_
          rintro e w' ⟨rfl, rfl⟩
          go_wp2_with fail
          refine lex_end (by first | (simp only [Act.put, List.setIfInBounds_toArray, List.set_cons_zero, List.set_cons_succ, i64_w, i32_w]; rfl) | rfl) (HF.out _ HB2.out) (fun hHeld => ?_)
          iterate 4 (refine lex_p rfl rfl rfl (by intro w'; go_simp; with_reducible rfl) (by simp only [Act.put, List.setIfInBounds_toArray, List.set_cons_zero, List.set_cons_succ, i64_w, i32_w]; rfl) ?_)
          refine lex_o rfl ?_
          go_wp2_with fail
          refine (mWrite_nil _ _ _ _).mono ?_
          rintro e y3 ⟨rfl, hb⟩
          have HB3 := Aside0.mk (HB2.out.trans (hb.mono HB2.out.size))
          clear hb
          go_wp2_with fail
          refine lex_end (by first | (simp only [Act.put, List.setIfInBounds_toArray, List.set_cons_zero, List.set_cons_succ, i64_w, i32_w]; rfl) | rfl) (HF.out _ HB3.out) (fun hHeld => ?_)
          refine lex_o rfl ?_
          go_wp2_with fail
          refine (num _ _).mono ?_
          rintro e w' ⟨rfl, rfl⟩
          go_wp2_with fail
          refine lex_end (by first | (simp only [Act.put, List.setIfInBounds_toArray, List.set_cons_zero, List.set_cons_succ, i64_w, i32_w]; rfl) | rfl) (HF.out _ HB3.out) (fun hHeld => ?_)
          iterate 4 (refine lex_p rfl rfl rfl (by intro w'; go_simp; with_reducible rfl) (by simp only [Act.put, List.setIfInBounds_toArray, List.set_cons_zero, List.set_cons_succ, i64_w, i32_w]; rfl) ?_)
          refine lex_o rfl ?_
          go_wp2_with fail
          refine (mCopy_nil _).mono ?_
          rintro e w' ⟨rfl, rfl⟩
          go_wp2_with fail
          refine lex_end (by first | (simp only [Act.put, List.setIfInBounds_toArray, List.set_cons_zero, List.set_cons_succ, i64_w, i32_w]; rfl) | rfl) (HF.out _ HB3.out) (fun hHeld => ?_)
          iterate 3 (refine lex_p rfl rfl rfl (by intro w'; go_simp; with_reducible rfl) (by simp only [Act.put, List.setIfInBounds_toArray, List.set_cons_zero, List.set_cons_succ, i64_w, i32_w]; rfl) ?_)
          refine lex_q rfl ?_
          go_wp2_with fail
          refine (works _).mono ?_
          rintro e y4 ⟨rfl, hb⟩
          have HB4 := Aside0.mk (HB3.out.trans (hb.mono HB3.out.size))
          clear hb
          go_wp2_with fail
          refine lex_endq (by first | (simp only [Act.put, List.setIfInBounds_toArray, List.set_cons_zero, List.set_cons_succ, i64_w, i32_w]; rfl) | rfl) ?_
          iterate 2 (refine lex_p rfl rfl rfl (by intro w'; go_simp; with_reducible rfl) (by simp only [Act.put, List.setIfInBounds_toArray, List.set_cons_zero, List.set_cons_succ, i64_w, i32_w]; rfl) ?_)
          refine lex_nil ?_
          go_wp2_with fail
          go_ret
          exact ⟨rfl, HD3.out.bel.trans (HB4.out.mono HD3.out.bel.size)⟩
end Go.Proofs.Ytfeohojpjncgaaa.Sha

set_option linter.unusedVariables false
namespace Go.Proofs.Ytfeohojpjncgaaa.Sha
open Go.RowKit Go.Proofs.YtfeohojpjncgaaaW.PrintWords Go.Proofs.Ytfeohojpjncgaaa.Lib
theorem hmacPlays (A : Option Addr) (c : Nat) (xs : List Int) (A2 : Option Addr) (c2 : Nat) (ys : List Int) (A3 : Option Addr) (c3 : Nat) (sc : List (Int × Bool × List Int)) (w : World) (hx : Kd.C KB w A xs.length xs) (hc : xs.length ≤ c) (hw : ∀ n ∈ xs, (Lit.int .u8 n).wf = true) (hr1 : xs.length * 1 ≤ 140737488351232)
    (hx2 : Kd.C KB w A2 ys.length ys) (hc2 : ys.length ≤ c2) (hw2 : ∀ n ∈ ys, (Lit.int .u8 n).wf = true) (hr2 : ys.length * 1 ≤ 140737488351232)
    (hx3 : Kd.C AC w A3 sc.length sc) (hc3 : sc.length ≤ c3) (ho : ∀ x ∈ sc, (Lit.int .i64 x.1).wf = true ∧ True ∧ ∀ n ∈ x.2.2, (Lit.int .u8 n).wf = true) :
    Calls Try.prog 4 #[.slice A xs.length c, .slice A2 ys.length c2, .slice A3 sc.length c3] w fun e w' => e = .returned (.bool true) ∧ Below w.heap.size w w' := by
  by_cases hbad : (500 < xs.length ∨ 500 < ys.length) ∨ 20 < sc.length
  · exact plays_bad A c xs A2 c2 ys A3 c3 sc w hx hc hx2 hc2 hx3 hbad
  · exact plays_main A c xs A2 c2 ys A3 c3 sc w hx hc (byt hw) (by omega) hx2 hc2 (byt hw2) (by omega) hx3 (by omega) (fun x hx => (ho x hx).2.2)
end Go.Proofs.Ytfeohojpjncgaaa.Sha
