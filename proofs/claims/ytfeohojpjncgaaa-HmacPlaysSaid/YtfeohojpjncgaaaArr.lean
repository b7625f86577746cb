/- Arrays in blocks of their own. -/
import Derived.Test.YtfeohojpjncgaaaObj
import Derived.Laws.Rows
set_option linter.unusedSimpArgs false
set_option linter.unusedVariables false
namespace Go.Proofs.Ytfeohojpjncgaaa.Lib
open Go.RowKit Go.Proofs.YtfeohojpjncgaaaW.PrintWords Go.Proofs.YtfeohojpjncgaaaW.PrintLast Go.Proofs.YtfeohojpjncgaaaW.PrintMore Go.Proofs.Ytfeohojpjncgaaa.Lex

/-- An array of whole numbers in a block. -/
def Arr (k : IntKind) (g t : Nat) (w : World) (xs : List Int) : Prop := w.heap[g]? = some (.cells (xs.map (Value.int k)).toArray t (0, 0))
section
variable {k : IntKind} {g t : Nat} {w w' : World} {xs : List Int}
theorem Arr.ob (h : Arr k g t w xs) : Ob g w (xs.map (Value.int k)) := fun i v hi => by
  constructor
  · rw [cell_of_row w _ _ _ _ _ h]
    simpa using hi
  · have hh : w.heap[g]? = some (.cells (xs.map (Value.int k)).toArray t (0, 0)) := h
    simp [World.frozen?, hh]
theorem Arr.cell (h : Arr k g t w xs) (i : Nat) (hi : i < xs.length) : w.cell? ⟨g, i, none⟩ = some (.int k (xs.getD i 0)) ∧ w.frozen? ⟨g, i, none⟩ = false :=
  h.ob i _ (by rw [List.getElem?_map, List.getElem?_eq_getElem hi, List.getD_eq_getElem?_getD, List.getElem?_eq_getElem hi]; rfl)
theorem Arr.same (h : Arr k g t w xs) (hs : w'.heap[g]? = w.heap[g]?) : Arr k g t w' xs := hs.trans h
theorem Arr.lt (h : Arr k g t w xs) : g < w.heap.size := (Array.getElem?_eq_some_iff.1 h).1
theorem Arr.below {n : Nat} (h : Arr k g t w xs) (hb : Below n w w') (hg : g < n) : Arr k g t w' xs := h.same (hb.block g hg)
theorem Arr.later (h : Arr k g t w xs) (hb : Below w.heap.size w w') : Arr k g t w' xs := h.below hb h.lt
theorem Arr.far (h : Arr k g t w xs) {p : Addr} (hp : g ≠ p.block) (u : Value) : Arr k g t (w.setCell p u) xs := h.same (Below.heap_setCell _ _ _ _ hp)
theorem Arr.put (h : Arr k g t w xs) (i : Nat) (x : Int) : Arr k g t (w.setCell ⟨g, i, none⟩ (.int k x)) (xs.set i x) := by
  unfold Arr
  have h2 := heap_setCell_same w g i _ t (.int k x) h
  rw [h2]
  congr 2
  simp [List.map_set]
theorem Arr.new (w : World) (t : Nat) (xs : List Int) (a : Array Value) (ha : a = (xs.map (Value.int k)).toArray) : Arr k w.heap.size t (w.alloc (.cells a t)) xs := by
  subst ha
  exact heap_alloc_new w _
theorem Arr.newAt (w : World) (g t : Nat) (hg : w.heap.size = g) (xs : List Int) (a : Array Value) (ha : a = (xs.map (Value.int k)).toArray) : Arr k g t (w.alloc (.cells a t)) xs := by
  subst hg
  exact Arr.new w t xs a ha
/-- a cut of an array of bytes -/
theorem Arr.seg {g t : Nat} {w : World} {xs : List Int} (h : Arr .u8 g t w xs) (hm : xs.length ≤ 1000000) (lo hi : Nat) (h1 : lo ≤ hi) (h2 : hi ≤ xs.length) : Kd.C KB w (some ⟨g, lo, none⟩) (hi - lo) ((xs.take hi).drop lo) := by
  have hC := C_block (w := w) (g := g) (t := t) (cs := xs.map (Value.int .u8)) h xs [] (by simp [nums]) (by omega)
  have := C_seg hC lo hi h1 h2 (some ⟨g, lo, none⟩) (fun _ => by rw [Nat.zero_add])
  exact this
end
theorem set_end (ys : List Int) (m : Nat) (x : Int) (hm : 0 < m) : (ys ++ List.replicate m 0).set ys.length x = (ys ++ [x]) ++ List.replicate (m - 1) 0 := by
  obtain ⟨m, rfl⟩ : ∃ j, m = j + 1 := ⟨m - 1, by omega⟩
  rw [List.set_append_right _ _ (Nat.le_refl _), Nat.sub_self, List.replicate_succ, List.set_cons_zero, List.append_assoc]
  rfl
end Go.Proofs.Ytfeohojpjncgaaa.Lib
