/- A hash under way: the object; contracts of none, New, Len, Copy. -/
import Derived.Test.YtfeohojpjncgaaaBlock01
import Derived.Test.YtfeohojpjncgaaaLibB
set_option linter.unusedSimpArgs false
set_option linter.unusedVariables false
namespace Go.Proofs.Ytfeohojpjncgaaa.Sha
open Go.RowKit Go.Proofs.YtfeohojpjncgaaaW.PrintWords Go.Proofs.YtfeohojpjncgaaaW.PrintLast Go.Proofs.YtfeohojpjncgaaaW.PrintMore Go.Proofs.Ytfeohojpjncgaaa.PSha1Plays Go.Proofs.Ytfeohojpjncgaaa.Lex Go.Proofs.Ytfeohojpjncgaaa.Lib
abbrev ptr (p : Nat) : Value := .pointer (some ⟨p, 0, none⟩)
def hv (v : Value) (s : St) (n : Nat) : List Value := [v, .int .u32 s.a, .int .u32 s.b, .int .u32 s.c, .int .u32 s.d, .int .u32 s.e, .int .i64 n, .bool true]
/-- A hash under way, at a block: what is left of a block lies in blocks of S. -/
def Hs (S : Nat → Prop) (p : Nat) (w : World) (xs : List Int) (s : St) (n : Nat) : Prop := ∃ v, Ob p w (hv v s n) ∧ Sl S w v xs
theorem Hs.lt {S : Nat → Prop} {p : Nat} {w : World} {xs : List Int} {s : St} {n : Nat} (h : Hs S p w xs s n) : p < w.heap.size := by
  obtain ⟨v, h1, _⟩ := h
  exact h1.lt
theorem Hs.mono {S S' : Nat → Prop} {p : Nat} {w : World} {xs : List Int} {s : St} {n : Nat} (h : Hs S p w xs s n) (hn : ∀ k, S k → S' k) : Hs S' p w xs s n := by
  obtain ⟨v, h1, h2⟩ := h
  exact ⟨v, h1, h2.mono hn⟩
theorem Hs.same {S : Nat → Prop} {p : Nat} {w w' : World} {xs : List Int} {s : St} {n : Nat} (h : Hs S p w xs s n) (hp : w'.heap[p]? = w.heap[p]?) (hS : ∀ k, S k → w'.heap[k]? = w.heap[k]?) : Hs S p w' xs s n := by
  obtain ⟨v, h1, h2⟩ := h
  exact ⟨v, h1.same hp, h2.same hS⟩
theorem Hs.below {S : Nat → Prop} {m p : Nat} {w w' : World} {xs : List Int} {s : St} {n : Nat} (h : Hs S p w xs s n) (hb : Below m w w') (hS : ∀ k, S k → k < m) (hp : p < m) : Hs S p w' xs s n :=
  h.same (hb.block p hp) (fun k hk => hb.block k (hS k hk))
theorem none_ {S : Nat → Prop} {p : Nat} {w : World} {xs : List Int} {s : St} {n : Nat} (h : Hs S p w xs s n) : Calls Try.prog 37 #[ptr p] w fun e w' => e = .returned (.bool false) ∧ w = w' := by
  obtain ⟨v, h1, _⟩ := h
  have c7 := (h1 7 _ rfl).1
  clear h1
  go_enter Try.func37, Try.ntmps37
  go_wp2
  go_ret
  exact ⟨rfl, rfl⟩
theorem none_nil (w : World) : Calls Try.prog 37 #[.pointer none] w fun e w' => e = .returned (.bool true) ∧ w = w' := by
  go_enter Try.func37, Try.ntmps37
  go_wp2
  go_ret
  exact ⟨rfl, rfl⟩
theorem hNew (w : World) : Calls Try.prog 24 #[] w fun e w' => ∃ p, e = .returned (ptr p) ∧ Hs (fun _ => False) p w' [] first 0 ∧ w.heap.size ≤ p ∧ Below w.heap.size w w' := by
  go_enter Try.func24, Try.ntmps24
  go_wp2_with fail
  refine (pFirst _).mono ?_
  rintro e w1 ⟨rfl, hb⟩
  have HB := Aside0.mk hb
  clear hb
  go_wp2_with fail
  go_ret
  exact ⟨_, rfl, ⟨_, Ob.new w1 _ _ rfl _, Sl.nil _ _⟩, HB.out.size, below_alloc HB.out _⟩
theorem hCopy_nil (w : World) : Calls Try.prog 30 #[.pointer none] w fun e w' => e = .returned (.pointer none) ∧ w = w' := by
  go_enter Try.func30, Try.ntmps30
  go_wp2_with fail
  refine (none_nil _).mono ?_
  rintro e _ ⟨rfl, rfl⟩
  go_wp2_with fail
  go_ret
  exact ⟨rfl, rfl⟩
theorem hCopy {S : Nat → Prop} {p : Nat} {w : World} {xs : List Int} {s : St} {n : Nat} (h : Hs S p w xs s n) (hl : xs.length ≤ 1000000) : Calls Try.prog 30 #[ptr p] w fun e w' => ∃ q, e = .returned (ptr q) ∧ Hs (fun k => w.heap.size ≤ k ∧ k < q) q w' xs s n ∧ w.heap.size ≤ q ∧ Below w.heap.size w w' := by
  have HN := Aside0.mk (none_ h)
  obtain ⟨v, h1, A, c, rfl, hc, hC, _⟩ := h
  have H := Aside0.mk h1
  have c0 := (h1 0 _ rfl).1
  have c1 := (h1 1 _ rfl).1
  have c2 := (h1 2 _ rfl).1
  have c3 := (h1 3 _ rfl).1
  have c4 := (h1 4 _ rfl).1
  have c5 := (h1 5 _ rfl).1
  have c6 := (h1 6 _ rfl).1
  have HC := Aside0.mk hC
  have HL := Aside0.mk hl
  clear h1 hC hc hl
  go_enter Try.func30, Try.ntmps30
  go_wp2_with fail
  refine (HN.out).mono ?_
  rintro e _ ⟨rfl, rfl⟩
  go_wp2_with fail
  refine region [(0, .p), (1, .p), (2, .p), (3, .p), (7, .p), (8, .p), (9, .p), (11, .p), (12, .p), (13, .p), (4, .t), (10, .t), (14, .t), (5, .o), (6, .p), (15, .p), (16, .q), (17, .p)] (fun W => W.cell? ⟨p, 0, none⟩ = some (.slice A xs.length c) ∧ W.cell? ⟨p, 1, none⟩ = some (.int .u32 s.a) ∧ W.cell? ⟨p, 2, none⟩ = some (.int .u32 s.b) ∧ W.cell? ⟨p, 3, none⟩ = some (.int .u32 s.c) ∧ W.cell? ⟨p, 4, none⟩ = some (.int .u32 s.d) ∧ W.cell? ⟨p, 5, none⟩ = some (.int .u32 s.e) ∧ W.cell? ⟨p, 6, none⟩ = some (.int .i64 n)) (by kernel_rfl) (by kernel_rfl) (fun _ _ _ _ _ h => h) (⟨c0, c1, c2, c3, c4, c5, c6⟩) (fun hHeld => ?_)
  iterate 10 (refine lex_p rfl rfl rfl (by intro w'; go_simp; with_reducible rfl) (by simp only [Act.put, List.setIfInBounds_toArray, List.set_cons_zero, List.set_cons_succ, i64_w, i32_w]; rfl) ?_)
  iterate 3 (refine lex_t rfl rfl rfl (by rintro w' ⟨s0, s1, s2, s3, s4, s5, s6⟩; go_simp; with_reducible rfl) (by simp only [Act.put, List.setIfInBounds_toArray, List.set_cons_zero, List.set_cons_succ, i64_w, i32_w]; rfl) ?_)
  refine lex_o rfl ?_
  go_wp2_with fail
  refine (clone A c xs w.drew HC.out (by have := HL.out; omega)).mono ?_
  rintro e w1 ⟨v, rfl, ho, hb⟩
  have HO := Aside0.mk ho
  have HB1 : Aside0 (Below w.heap.size w w1) := ⟨(below_drew (Below.refl _ _)).trans hb⟩
  clear ho hb
  obtain ⟨A1, c1', rfl, -, -⟩ := HO.out.reads
  go_wp2_with fail
  refine lex_end (by first | (simp only [Act.put, List.setIfInBounds_toArray, List.set_cons_zero, List.set_cons_succ, i64_w, i32_w]; rfl) | rfl) (⟨pw_cell_below HB1.out c0, pw_cell_below HB1.out c1, pw_cell_below HB1.out c2, pw_cell_below HB1.out c3, pw_cell_below HB1.out c4, pw_cell_below HB1.out c5, pw_cell_below HB1.out c6⟩) (fun hHeld => ?_)
  iterate 2 (refine lex_p rfl rfl rfl (by intro w'; go_simp; with_reducible rfl) (by simp only [Act.put, List.setIfInBounds_toArray, List.set_cons_zero, List.set_cons_succ, i64_w, i32_w]; rfl) ?_)
  refine lex_q rfl ?_
  go_wp2_with fail
  refine lex_endq (by first | (simp only [Act.put, List.setIfInBounds_toArray, List.set_cons_zero, List.set_cons_succ, i64_w, i32_w]; rfl) | rfl) ?_
  (refine lex_p rfl rfl rfl (by intro w'; go_simp; with_reducible rfl) (by simp only [Act.put, List.setIfInBounds_toArray, List.set_cons_zero, List.set_cons_succ, i64_w, i32_w]; rfl) ?_)
  refine lex_nil ?_
  go_wp2_with fail
  go_ret
  have hO : OB w.heap.size w1 (.slice A1 xs.length c1') xs := HO.out
  exact ⟨w1.heap.size, rfl, ⟨_, Ob.new w1 (hv _ s n) _ rfl _, (hO.sl (S := fun k => w.heap.size ≤ k ∧ k < w1.heap.size) (fun k h1 h2 => ⟨h1, h2⟩)).same (fun k hk => Below.heap_alloc _ _ _ hk.2)⟩, HB1.out.size, below_alloc HB1.out _⟩
end Go.Proofs.Ytfeohojpjncgaaa.Sha
