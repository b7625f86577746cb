/- Keys: the reference's Add. -/
import Derived.Test.YtndjhnipahkclaaKe15
set_option linter.unusedSimpArgs false
set_option linter.unusedVariables false
namespace Go.Proofs.Ytndjhnipahkclaa.Ke
open Go.RowKit Go.Proofs.YtndjhnipahkclaaW.PrintWords Go.Proofs.YtndjhnipahkclaaW.PrintLast Go.Proofs.YtndjhnipahkclaaW.PrintMore Go.Proofs.Ytndjhnipahkclaa.PKeysPlay Go.Proofs.Ytndjhnipahkclaa.Lex Go.Proofs.Ytndjhnipahkclaa.Lib
theorem hi30 (a b : Value) : (Try.prog.info? 30).map (·.size) = some [a, b].length := by show _ = some 2; kernel_rfl
theorem store30 {g : Nat} {w : World} {a b c d : Value} (h : Ob g w [a, b]) (hc : c.oneCell' = true) (hd : d.oneCell' = true) : ∃ W', (storeVar 30 ⟨g, 0, none⟩ (.agg #[c, d])).run Try.prog w = .ok () W' ∧ Ob g W' [c, d] ∧ But w.heap.size (fun k => k = g) w W' := by
  refine ⟨_, run_storeVar_mid w g 0 30 #[c, d] (fun j hj => ?_) (by simpa using hi30 c d) (by simp [hc, hd]), ob_setCells [c, d] 0 w _ h (by simp), but_setCells g _ 0 w⟩
  have hj2 : j < [a, b].length := by simpa using hj
  obtain ⟨h1, h2⟩ := h j _ (List.getElem?_eq_getElem hj2)
  rw [Nat.zero_add]
  exact ⟨by rw [h1]; rfl, h2⟩
theorem load30 {g : Nat} {w : World} {a b : Value} (h : Ob g w [a, b]) : (loadVar 30 ⟨g, 0, none⟩).run Try.prog w = .ok (.agg #[a, b]) w :=
  run_loadVar_mid w g 0 30 [a, b] _ (fun j v hj => by rw [Nat.zero_add]; exact (h j v hj).1) Try.underlying30 rfl (hi30 a b)
/-- the keys of one block taken to another, and read there -/
theorem fin30 {U : World} {g2 g4 : Nat} {a b c d : Value} (h2 : Ob g2 U [a, b]) (h4 : Ob g4 U [c, d]) (ha : a.oneCell' = true) (hb : b.oneCell' = true) : ∃ W3, (loadVar 30 ⟨g2, 0, none⟩).run Try.prog U = .ok (.agg #[a, b]) U ∧ (storeVar 30 ⟨g4, 0, none⟩ (.agg #[a, b])).run Try.prog U = .ok () W3 ∧ (loadVar 30 ⟨g4, 0, none⟩).run Try.prog W3 = .ok (.agg #[a, b]) W3 ∧ But U.heap.size (fun k => k = g4) U W3 := by
  obtain ⟨W3, h5, h6, h7⟩ := store30 h4 ha hb
  exact ⟨W3, load30 h2, h5, load30 h6, h7⟩
/-- is a key there, by where it stands -/
theorem idx_any (P : S36 → Bool) (l : List S36) : decide ((0 : Int) ≤ idx P l) = l.any P := by
  unfold idx idxFrom
  rw [List.drop_zero]
  cases h : l.findIdx? P with
  | none =>
    rw [List.findIdx?_eq_none_iff] at h
    have h2 : l.any P = false := List.any_eq_false.2 (fun x hx => by simp [h x hx])
    rw [h2]
    rfl
  | some j =>
    obtain ⟨hj, hp, _⟩ := List.findIdx?_eq_some_iff_getElem.1 h
    have h2 : l.any P = true := List.any_eq_true.2 ⟨l[j], List.getElem_mem _, hp⟩
    rw [h2]
    exact decide_eq_true (by show (0 : Int) ≤ ((0 + j : Nat) : Int); omega)
theorem any_twice (x : S36) (l : List S36) : l.any (twiceP x) = (l.any (sendP x.f0 x.f1) || l.any (recvP x.f0 x.f2)) := by
  induction l with
  | nil => rfl
  | cons y l ih =>
    simp only [List.any_cons, ih, twiceP, sendP, recvP]
    cases (y.f0 == x.f0) <;> cases (y.f1 == x.f1) <;> cases (y.f2 == x.f2) <;> cases l.any (sendP x.f0 x.f1) <;> cases l.any (recvP x.f0 x.f2) <;> rfl
/-- what Add answers, and leaves -/
def addS (l : List S36) (x : S36) : List S36 × Int := if badP x = true then (l, 2) else if l.any (twiceP x) = true then (l, 200) else if 16 ≤ l.length then (l, 3) else (l ++ [x], 0)
theorem addV (w : World) (A B : Option Addr) (l : List S36) (W : List S72) (c d : Nat) (x : S36) : ∃ V, (((w.alloc (.cells #[.slice A l.length c, .slice B W.length d] 30)).alloc (.cells #[.int .u32 x.f0, .int .u8 x.f1, .int .u8 x.f2, .int .i64 x.f3, .string x.f4] 36)).alloc (.cells #[.slice none 0 0, .slice none 0 0] 30)) = V ∧ Ob w.heap.size V [.slice A l.length c, .slice B W.length d] ∧ Ob (w.heap.size + 1) V (c36 x) ∧ Ob (w.heap.size + 1 + 1) V [.slice none 0 0, .slice none 0 0] ∧ Below w.heap.size w V ∧ V.heap.size = w.heap.size + 1 + 1 + 1 := by
  have s1 : (w.alloc (.cells #[.slice A l.length c, .slice B W.length d] 30)).heap.size = w.heap.size + 1 := by simp
  have s2 : ((w.alloc (.cells #[.slice A l.length c, .slice B W.length d] 30)).alloc (.cells #[.int .u32 x.f0, .int .u8 x.f1, .int .u8 x.f2, .int .i64 x.f3, .string x.f4] 36)).heap.size = w.heap.size + 1 + 1 := by simp
  refine ⟨_, rfl, ?_, ?_, ?_, below_alloc (below_alloc (below_alloc (Below.refl _ _) _) _) _, by simp⟩
  · have o1 : Ob w.heap.size (w.alloc (.cells #[.slice A l.length c, .slice B W.length d] 30)) [.slice A l.length c, .slice B W.length d] := Ob.new w _ _ rfl _
    exact (o1.below (below_alloc (Below.refl _ _) _) (by rw [s1]; omega)).below (below_alloc (Below.refl _ _) _) (by rw [s2]; omega)
  · have o2 := Ob.new (w.alloc (.cells #[.slice A l.length c, .slice B W.length d] 30)) (c36 x) #[.int .u32 x.f0, .int .u8 x.f1, .int .u8 x.f2, .int .i64 x.f3, .string x.f4] rfl 36
    rw [s1] at o2
    exact o2.below (below_alloc (Below.refl _ _) _) (by rw [s2]; omega)
  · have o3 := Ob.new ((w.alloc (.cells #[.slice A l.length c, .slice B W.length d] 30)).alloc (.cells #[.int .u32 x.f0, .int .u8 x.f1, .int .u8 x.f2, .int .i64 x.f3, .string x.f4] 36)) [.slice none 0 0, .slice none 0 0] _ rfl 30
    rw [s2] at o3
    exact o3
theorem OK.blk {b : Nat} {w : World} {A : Option Addr} {n c : Nat} {l : List S36} (h : OK b w (.slice A n c) l) : ∀ a, A = some a → b ≤ a.block ∧ a.block < w.heap.size := fun a ha => by
  subst ha
  obtain ⟨_, h1, h2, _⟩ := (Kd.R_bound h).1 a.block rfl
  exact ⟨h1, h2⟩
section
variable {T : Nat → Prop} {w : World} {g : Value} {l : List S36} {W : List S72}
set_option maxHeartbeats 4000000 in
theorem addBadR (h : GR T w g l W) (x : S36) (hb : badP x = true) : Calls Try.prog 22 #[g, a36 x] w fun e w' => ∃ v, e = .returned (.tuple #[v, .int .i64 2]) ∧ GR (Gr T w w') w' v l W ∧ Below w.heap.size w w' := by
  have HGR := Aside0.mk h
  obtain ⟨A, c, B, d, rfl, h1, h2, h3, h4, h5, h6⟩ := h
  have HTA := Aside0.mk h5
  have HTB := Aside0.mk h6
  obtain ⟨V, hV, o2, o3, o4, hbV, hsz⟩ := addV w A B l W c d x
  obtain ⟨W3, f1, f2, f3, f4⟩ := fin30 o2 o4 rfl rfl
  rw [← hV] at f1 f2
  have F1 := Aside0.mk f1
  have F2 := Aside0.mk f2
  have F3 := Aside0.mk f3
  have HB3 := Aside0.mk (hbV.trans (f4.below hbV.size (fun k hk e => by have : k = w.heap.size + 1 + 1 := e; omega)))
  have HBP := Aside0.mk hb
  clear h1 h2 h3 h4 h5 h6 hV o2 o3 o4 hbV hsz f1 f2 f3 f4 hb
  cases e1 : (x.f3 != 1) <;> cases e2 : (x.f3 != 2) <;> cases e3 : decide ((x.f4.size : Int) < 1) <;> cases e4 : decide (80 < (x.f4.size : Int)) <;>
    first
    | (exfalso
       have h := HBP.out
       simp only [badP, e1, e2, e3, e4] at h
       exact absurd h (by decide))
    | (clear HBP
       go_enter Try.func22, Try.ntmps22
       go_wp2_with (first | (refine pl_load rfl 30 _ rfl _ _ F1.out rfl ?_) | (refine pl_store rfl 30 _ _ rfl _ _ F2.out rfl rfl ?_))
       refine bodyPost_ret (results_row_tmp rfl _ _ (w.heap.size + 1 + 1) _ rfl F3.out) rfl ?_
       exact ⟨_, rfl, HGR.out.old HB3.out, HB3.out⟩)
end
end Go.Proofs.Ytndjhnipahkclaa.Ke
