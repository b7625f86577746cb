/- Keys: the map of wishes, as a function; New, All. -/
import Derived.Test.YtndjhnipahkclaaKe3
import Derived.Maps.OwnSet
import Derived.Maps.Views
set_option linter.unusedSimpArgs false
set_option linter.unusedVariables false
namespace Go.Proofs.Ytndjhnipahkclaa.Ke
open Go.RowKit Go.Proofs.YtndjhnipahkclaaW.PrintWords Go.Proofs.YtndjhnipahkclaaW.PrintLast Go.Proofs.YtndjhnipahkclaaW.PrintMore Go.Proofs.Ytndjhnipahkclaa.PKeysPlay Go.Proofs.Ytndjhnipahkclaa.Lex Go.Proofs.Ytndjhnipahkclaa.Lib
abbrev T47 : TypeId := 47
abbrev K33 : TypeId := 33
abbrev E5 : TypeId := 5
def kl (q : Int) : Lit := .int .u32 q
/-- the wishes of a map, as a function -/
def MapIs (w : World) (m n : Nat) (f : Int → Option Int) : Prop :=
  ∃ D : DataW Unit, w.ownsMap Try.prog K33 (Go.plainElem Try.prog E5) m n D ∧ ∀ q, (kl q).wf = true → Maps.has D (kl q) = (f q).isSome ∧ ∀ z, D.atKey (kl q) z = (match f q with
    | some v => .lit (.int .u8 v)
    | none => z)
theorem keyed33 : Maps.Keyed Try.prog K33 := Maps.int_keyed Try.underlying33
theorem MapIs.look {w : World} {m n : Nat} {f : Int → Option Int} (h : MapIs w m n f) (q : Int) (hq : (kl q).wf = true) : (Instr.lookup T47 (.map (some m)) (.int .u32 q) true).run Try.prog w = .ok (.tuple #[.int .u8 ((f q).getD 0), .bool (f q).isSome]) w := by
  obtain ⟨D, ho, hf⟩ := h
  obtain ⟨v, ps, hr, hv⟩ := ho.look_ok keyed33 Try.underlying47 (z := .int .u8 0) (by go_simp) (Go.plainElem_int Try.underlying5 (by decide)) (Maps.keyOf_int_mk Try.underlying33 hq)
  obtain ⟨a, rfl, ha, hw⟩ := Go.plainElem_int_inv Try.underlying5 hv
  obtain ⟨h1, h2⟩ := hf q hq
  have h3 := h2 (.lit (.int .u8 0))
  rw [hr]
  have e1 : Maps.has D (Lit.int .u32 q) = (f q).isSome := h1
  have e2 : a = (f q).getD 0 := by
    injection ha with ha _
    have h4 : D.atKey (Lit.int .u32 q) (.lit (.int .u8 0)) = _ := h3
    rw [h4] at ha
    cases hq2 : f q with
    | none => rw [hq2] at ha; injection ha with ha; injection ha with _ ha; exact ha.symm
    | some v => rw [hq2] at ha; injection ha with ha; injection ha with _ ha; exact ha.symm
  rw [e1, e2]
theorem MapIs.same {w w' : World} {m n : Nat} {f : Int → Option Int} (h : MapIs w m n f) (hb : w'.heap[m]? = w.heap[m]?) : MapIs w' m n f := by
  obtain ⟨D, ⟨es, clock, h1, h2, h3, h4⟩, hf⟩ := h
  exact ⟨D, ⟨es, clock, by rw [hb]; exact h1, h2, h3, h4⟩, hf⟩
theorem MapIs.lt {w : World} {m n : Nat} {f : Int → Option Int} (h : MapIs w m n f) : m < w.heap.size := by
  obtain ⟨D, ho, _⟩ := h
  exact ho.lt
theorem MapIs.new (w : World) : MapIs (w.alloc (.map #[] 0)) w.heap.size 0 (fun _ => none) :=
  ⟨.map [], World.ownsMap_made _ _ _ _, fun q _ => ⟨rfl, fun z => rfl⟩⟩
theorem MapIs.store {w : World} {m n : Nat} {f : Int → Option Int} (h : MapIs w m n f) (q v : Int) (hq : (kl q).wf = true) (hv : (Lit.int .u8 v).wf = true) (hn : n < 1000000) :
    ∃ w', (Instr.mapUpdate T47 (.map (some m)) (.int .u32 q) (.int .u8 v)).run Try.prog w = .ok () w' ∧ MapIs w' m (n + 1) (fun j => if j = q then some v else f j) ∧ But w.heap.size (fun k => k = m) w w' := by
  obtain ⟨D, ho, hf⟩ := h
  have hk := Maps.keyOf_int_mk Try.underlying33 hq
  obtain ⟨w', hr, ho', hg⟩ := ho.update keyed33 Try.underlying47 (by show n < 9223372036854775807; omega) hk (Go.plainElem_int Try.underlying5 hv)
  refine ⟨w', hr, ⟨_, ho', fun j hj => ?_⟩, ⟨hg.os, hg.tape, hg.output, hg.size, fun i hi hs => hg.block i hi (fun e => hs (by injection e))⟩⟩
  by_cases e : j = q
  · subst e
    dsimp only
    rw [if_pos rfl]
    exact ⟨Maps.has_put_same ho.isMap (keyed33.key hk) _, fun z => Maps.atKey_put_same ho.isMap (keyed33.key hk) _ z⟩
  · dsimp only
    rw [if_neg e]
    have hne : kl j ≠ Lit.int .u32 q := fun e2 => e (by injection e2)
    exact ⟨(Maps.has_put_other hne _).trans (hf j hj).1, fun z => (Maps.atKey_put_other hne _ z).trans ((hf j hj).2 z)⟩
/-- Keys that are there: the object, its keys (a row of its own), its wishes; all in blocks of S -/
structure KS (S : Nat → Prop) (p m n : Nat) (w : World) (A : Option Addr) (c : Nat) (l : List S36) (f : Int → Option Int) : Prop where
  ob : Ob p w [.slice A l.length c, .map (some m)]
  own : Kd.R k36 36 w 0 (fun k => S k ∧ k ≠ p ∧ k ≠ m) (.slice A l.length c) l
  map : MapIs w m n f
  ne : p ≠ m
  inS : S p ∧ S m
section
variable {S : Nat → Prop} {p m n : Nat} {w w' : World} {A : Option Addr} {c : Nat} {l : List S36} {f : Int → Option Int}
theorem KS.c0 (h : KS S p m n w A c l f) : w.cell? ⟨p, 0, none⟩ = some (.slice A l.length c) := (h.ob 0 _ rfl).1
theorem KS.c1 (h : KS S p m n w A c l f) : w.cell? ⟨p, 1, none⟩ = some (.map (some m)) := (h.ob 1 _ rfl).1
theorem KS.row (h : KS S p m n w A c l f) : Kd.C k36 w A l.length l := by
  obtain ⟨A', c', e, _, hC⟩ := Kd.R_reads h.own
  injection e with e1 e2 e3
  rw [e1]
  exact hC
/-- a row of one's own, where its blocks stay -/
theorem R36_same {b : Nat} {ok : Nat → Prop} {v : Value} (h : Kd.R k36 36 w b ok v l) (hb : ∀ k, ok k → k < w.heap.size → w'.heap[k]? = w.heap[k]?) : Kd.R k36 36 w' b ok v l :=
  Kd.R_mono (Kd.R_step (Kd.R_bound h) (fun k hk hlt => hb k hk.1 hlt)) (fun k hk => hk.1)
theorem KS.same (h : KS S p m n w A c l f) (hb : ∀ k, S k → w'.heap[k]? = w.heap[k]?) : KS S p m n w' A c l f :=
  ⟨h.ob.same (hb p h.inS.1), R36_same h.own (fun k hk _ => hb k hk.1), h.map.same (hb m h.inS.2), h.ne, h.inS⟩
theorem KS.below (h : KS S p m n w A c l f) (hb : Below w.heap.size w w') : KS S p m n w' A c l f :=
  ⟨h.ob.below hb h.ob.lt, R36_same h.own (fun k _ hlt => hb.block k hlt), h.map.same (hb.block m h.map.lt), h.ne, h.inS⟩
end
theorem newC (w : World) : Calls Try.prog 10 #[] w fun e w' => ∃ p m, e = .returned (ptr p) ∧ KS (fun k => w.heap.size ≤ k ∧ k < w'.heap.size) p m 0 w' none 0 [] (fun _ => none) ∧ w.heap.size ≤ p ∧ w.heap.size ≤ m ∧ Below w.heap.size w w' := by
  have hmm := @run_makeMap Try.prog
  have hM := MapIs.new w
  have hb1 := below_alloc (Below.refl w.heap.size w) (.map #[] 0)
  have s1 : (w.alloc (.map #[] 0)).heap.size = w.heap.size + 1 := by simp
  go_enter Try.func10, Try.ntmps10
  go_wp2_with fail
  go_ret
  have ob := Ob.new (w.alloc (.map #[] 0)) [.slice none 0 0, .map (some w.heap.size)] _ rfl 49
  rw [s1] at ob
  have hb2 := below_alloc (Below.refl (w.alloc (.map #[] 0)).heap.size (w.alloc (.map #[] 0))) (.cells #[.slice none 0 0, .map (some w.heap.size)] 49)
  exact ⟨w.heap.size + 1, w.heap.size, rfl, ⟨ob, Kd.R_nil _ _ _ _ _, hM.same (hb2.block _ (by rw [s1]; omega)), by omega, ⟨by omega, by simp⟩, ⟨Nat.le_refl _, by simp; omega⟩⟩, by omega, Nat.le_refl _, hb1.trans (hb2.mono hb1.size)⟩
end Go.Proofs.Ytndjhnipahkclaa.Ke
