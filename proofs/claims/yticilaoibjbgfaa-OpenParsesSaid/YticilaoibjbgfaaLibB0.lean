/- Slices of bytes: reading, owning, appending. -/
import Derived.Test.YticilaoibjbgfaaProg
import Derived.WalkKit
import Derived.KernelRfl
import Derived.LoopTactic
import Derived.Deep.LoopGhost
import Derived.Lib.SliceRun
import Derived.Laws.CopyOwn
import Derived.Test.YticilaoibjbgfaaLex
set_option linter.unusedSimpArgs false
set_option linter.unusedVariables false
namespace Go.Proofs.Yticilaoibjbgfaa.Lib
open Go.RowKit Go.Proofs.YticilaoibjbgfaaW.PrintWords Go.Proofs.YticilaoibjbgfaaW.PrintLast Go.Proofs.YticilaoibjbgfaaW.PrintMore Go.Proofs.Yticilaoibjbgfaa.Lex

abbrev KB : Kd Int := Kd.int .u8
/-- Owned bytes, of memory from block b on. -/
def OB (b : Nat) (w : World) (v : Value) (xs : List Int) : Prop := Kd.R KB 5 w b (fun _ => True) v xs
theorem info5 : (Try.prog.info? 5).map (fun i => (i.zero, i.size, i.bytes)) = some (some (.int .u8 0), 1, 1) := by kernel_rfl

theorem add_none (b o k : Nat) : (⟨b, o, none⟩ : Addr).add k = ⟨b, o + k, none⟩ := by
  unfold Addr.add
  split
  · rename_i h
    rw [h, Nat.add_zero]
  · rfl
/-- The address of a row that is not empty is the address of cells. -/
theorem C_addr {α : Type} {d : Kd α} (hd : 0 < d.sz) {w : World} {A : Option Addr} {n : Nat} {xs : List α} (h : Kd.C d w A n xs) (hn : 0 < n) : ∃ b o, A = some ⟨b, o, none⟩ := by
  obtain ⟨ad, e, hc⟩ := h.2.2 hn
  have hl : 0 < xs.length := by have := h.1; omega
  obtain ⟨c, h1, _, h3⟩ := hc 0 _ (List.getElem?_eq_getElem hl)
  have h0 : 0 < c.length := by omega
  have h4 := h3 0 _ (List.getElem?_eq_getElem h0)
  have h5 := World.cell?_spot h4
  obtain ⟨b, o, s⟩ := ad
  have h6 : s = none := by simpa [Addr.add] using h5
  subst h6
  exact ⟨b, o, e⟩
theorem C_byte {w : World} {A : Option Addr} {n : Nat} {xs : List Int} (h : Kd.C KB w A n xs) (k : Nat) (hk : k < n) : ∃ b o, A = some ⟨b, o, none⟩ ∧ w.cell? ⟨b, o + k, none⟩ = some (.int .u8 (xs.getD k 0)) := by
  obtain ⟨b, o, e⟩ := C_addr (by decide) h (by omega)
  obtain ⟨ad, c0, e0, hc1, hK, hc2⟩ := ReadsRow.get_ h 0 k (by omega) (by omega)
  have hK' : c0 = [.int .u8 (xs.getD k 0)] := hK
  subst hK'
  have h1 := hc2 0 _ rfl
  have h2 : w.cell? (ad.add k) = some (.int .u8 (xs.getD k 0)) := by simpa [Kd.int, Kd.scalar] using h1
  rw [e0] at e
  injection e with e
  subst e
  rw [add_none] at h2
  exact ⟨b, o, e0, h2⟩
theorem C_nil {α : Type} {d : Kd α} {w : World} {xs : List α} (h : Kd.C d w none xs.length xs) : xs = [] := by
  rcases Nat.eq_zero_or_pos xs.length with h0 | h0
  · exact List.length_eq_zero_iff.1 h0
  · obtain ⟨ad, e, _⟩ := h.2.2 h0
    cases e

theorem OB.nil (b : Nat) (w : World) : OB b w (.slice none 0 0) [] := Kd.R_nil _ _ _ _ _
theorem OB.lower {b b' : Nat} {w : World} {v : Value} {xs : List Int} (h : OB b w v xs) (hb : b' ≤ b) : OB b' w v xs := Kd.R_lower h hb
theorem OB.below {b : Nat} {w w1 : World} {v : Value} {xs : List Int} (h : OB b w v xs) (hb : Below w.heap.size w w1) : OB b w1 v xs := Kd.R_below h hb
theorem OB.reads {b : Nat} {w : World} {v : Value} {xs : List Int} (h : OB b w v xs) : ∃ A c, v = .slice A xs.length c ∧ xs.length ≤ c ∧ Kd.C KB w A xs.length xs := Kd.R_reads h

theorem OB.readsAt {b : Nat} {w : World} {A : Option Addr} {n c : Nat} {xs : List Int} (h : OB b w (.slice A n c) xs) : Kd.C KB w A n xs := by
  obtain ⟨A', c', e, _, hC⟩ := h.reads
  injection e with e1 e2 e3
  subst e1 e2
  exact hC
/-- a slice literal of bytes, freshly laid -/
theorem OB.lit {b : Nat} (w : World) (xs : List Int) (cs : List Value) (hcs : cs = nums .u8 xs) (n : Nat) (hn : n = xs.length) (hb : b ≤ w.heap.size) (hm : xs.length ≤ 9223372036854775807) :
    OB b (w.alloc (.cells cs.toArray 5)) (.slice (some ⟨w.heap.size, 0, none⟩) n n) xs := by
  subst hcs
  subst hn
  have h := World.ownsRow_lit (base := b) (e := 5) (size := 1) w (nums .u8 xs).toArray xs.length hb (by simpa [maxLen] using hm) (by simp [nums])
  exact Kd.R_of_own (enc := Value.int .u8) (by simpa [encs, nums] using h) (fun _ _ => trivial)

theorem OB.form {b : Nat} {w : World} {v : Value} {xs : List Int} (h : OB b w v xs) (hp : 0 < xs.length) : ∃ g cap, v = .slice (some ⟨g, 0, none⟩) xs.length cap ∧ b ≤ g ∧ g < w.heap.size ∧ xs.length ≤ cap := by
  obtain ⟨A, c, e2, h3, _⟩ := h.reads
  obtain ⟨g, cap, e, h1, h2, _⟩ := Kd.R_form h hp
  refine ⟨g, cap, e, h1, h2, ?_⟩
  rw [e] at e2
  injection e2 with _ _ e3
  rw [e3]
  exact h3
/-- a store into a block that lies below -/
theorem OB.far {b : Nat} {w : World} {v : Value} {xs : List Int} (h : OB b w v xs) {p : Addr} (hp : p.block < b) (u : Value) : OB b (w.setCell p u) v xs := by
  have h2 := Kd.R_bound h
  exact Kd.R_mono (Kd.R_far h2 (p := p) (fun k hk => by have := hk.2.1; omega) u) (fun _ _ => trivial)
theorem OB.cell {b : Nat} {w : World} {g n cap : Nat} {xs : List Int} (h : OB b w (.slice (some ⟨g, 0, none⟩) n cap) xs) (i : Nat) (hi : i < n) : w.cell? ⟨g, i, none⟩ = some (.int .u8 (xs.getD i 0)) ∧ w.frozen? ⟨g, i, none⟩ = false := by
  have := Kd.R_celln (d := (0 : Int)) h i (by omega) (by omega)
  simpa [rdOf] using this
theorem OB.put {b : Nat} {w : World} {g n cap : Nat} {xs : List Int} (h : OB b w (.slice (some ⟨g, 0, none⟩) n cap) xs) (i : Nat) (x : Int) : OB b (w.setCell ⟨g, i, none⟩ (.int .u8 x)) (.slice (some ⟨g, 0, none⟩) n cap) (xs.set i x) := by
  have h1 := Kd.R_putn h i x
  rw [Int.toNat_natCast] at h1
  exact h1

section
variable {ops : Array Oper} {rest : List Oper} {o : Oper} {a : Act} {Q : Exit → Act → World → Prop}
/-- append(v, u...) of bytes to a row of the call's own. -/
theorem ap_row {W : World} (b : Nat) (s x : Operand) (hgd : o.guard = none)
    (ho : o.op = .call { callee := .builtin .append, args := #[s, x], argTypes := #[30, 30] })
    {v : Value} {xs ys : List Int} {A : Option Addr} {m c : Nat} (HO : OB b W v xs) (HR : Kd.C KB W A m ys)
    (hs : a.eval s = v) (hx : a.eval x = .slice A m c) (hb : b ≤ W.heap.size) (hl : xs.length + m ≤ 140737488355328)
    (h : ∀ v1 w1, OB b w1 v1 (xs ++ ys) → Below b W w1 → wpList Try.prog ops Q rest (a.put o.dst v1) w1) :
    wpList Try.prog ops Q (o :: rest) a W :=
  Kd.R_append_row (w0 := W) (Value.int .u8) 0 b hgd s x 30 5 (.int .u8 0) 1 ho Try.underlying30 info5 rfl (by decide) v xs ys A m c (fun _ => True) hs hx (fun _ _ => trivial) HO HR (Below.refl _ _) hb (by omega) (fun v1 w1 h1 h2 _ _ => h v1 w1 h1 h2)
end

section
variable {ops : Array Oper} {rest : List Oper} {o : Oper} {a : Act} {Q : Exit → Act → World → Prop}
/-- append(v, make([]byte, n)...). -/
theorem ap_zeros {W : World} (b : Nat) (s x : Operand) (hgd : o.guard = none)
    (ho : o.op = .call { callee := .builtin .append, args := #[s, x], argTypes := #[30, 3] })
    {v : Value} {xs : List Int} {n : Int} (HO : OB b W v xs)
    (hs : a.eval s = v) (hx : a.eval x = .int .i64 n) (hn : 0 ≤ n) (hb : b ≤ W.heap.size) (hl : xs.length + n.toNat ≤ 140737488355328)
    (h : ∀ v1 w1, OB b w1 v1 (xs ++ List.replicate n.toNat 0) → Below b W w1 → wpList Try.prog ops Q rest (a.put o.dst v1) w1) :
    wpList Try.prog ops Q (o :: rest) a W :=
  Kd.R_append_zeros (w0 := W) KB b hgd s x 30 3 5 (.int .u8 0) 1 ho Try.underlying30 Try.underlying3 info5 rfl (by decide) (by decide) v xs 0 n (fun _ => True) hs hx rfl (fun _ _ => trivial) HO hn (Below.refl _ _) hb (by omega) (fun v1 w1 h1 h2 _ _ => h v1 w1 h1 h2)
end

abbrev KBB : Kd (List Int) := Kd.slice 5 KB
theorem C_row {w : World} {A : Option Addr} {n : Nat} {xs : List (List Int)} (h : Kd.C KBB w A n xs) (k : Nat) (hk : k < n) :
    ∃ b o A0 c0, A = some ⟨b, o, none⟩ ∧ w.cell? ⟨b, o + k, none⟩ = some (.slice A0 (xs.getD k []).length c0) ∧ (xs.getD k []).length ≤ c0 ∧ Kd.C KB w A0 (xs.getD k []).length (xs.getD k []) := by
  obtain ⟨ad, c, e, _, hK, hc0⟩ := Kd.C_get h ([] : List Int) k (by omega) (by omega)
  obtain ⟨A0, c0, rfl, l0, g0⟩ := hK
  have hq := hc0 0 _ rfl
  have h2 : w.cell? (ad.add k) = some (.slice A0 (xs.getD k []).length c0) := by simpa [Kd.slice] using hq
  obtain ⟨b, o, e1⟩ := C_addr (by show 0 < 1; decide) h (by omega)
  rw [e] at e1
  injection e1 with e1
  subst e1
  rw [add_none] at h2
  exact ⟨b, o, A0, c0, e, h2, l0, g0⟩

/-- a cut of bytes -/
theorem C_seg {w : World} {b o n : Nat} {xs : List Int} (h : Kd.C KB w (some ⟨b, o, none⟩) n xs) (lo hi : Nat) (h1 : lo ≤ hi) (h2 : hi ≤ n) (AD : Option Addr) (hA : lo < hi → AD = some ⟨b, o + lo, none⟩) :
    Kd.C KB w AD (hi - lo) ((xs.take hi).drop lo) := by
  obtain ⟨hl, hm, hc⟩ := h
  refine ⟨by rw [List.length_drop, List.length_take]; omega, by omega, fun hp => ⟨_, hA (by omega), fun j p hj => ?_⟩⟩
  obtain ⟨ad, e, hc⟩ := hc (by omega)
  injection e with e
  subst e
  rw [List.getElem?_drop, List.getElem?_take] at hj
  split at hj
  · obtain ⟨cs, h3, h4, h5⟩ := hc (lo + j) p hj
    refine ⟨cs, h3, h4, fun i u hu => ?_⟩
    have := h5 i u hu
    rw [add_none] at this ⊢
    have e : o + ((lo + j) * KB.sz + i) = o + lo + (j * KB.sz + i) := by
      show o + ((lo + j) * 1 + i) = o + lo + (j * 1 + i)
      omega
    rw [e] at this
    exact this
  · cases hj
/-- a block of bytes that is known whole -/
theorem C_block {w : World} {g t : Nat} {cs : List Value} (hg : w.heap[g]? = some (.cells cs.toArray t (0, 0))) (xs : List Int) (rest : List Value) (h : cs = nums .u8 xs ++ rest) (hm : xs.length ≤ 9223372036854775807) : Kd.C KB w (some ⟨g, 0, none⟩) xs.length xs := by
  subst h
  refine ⟨rfl, hm, fun _ => ⟨_, rfl, fun j x hj => ⟨[.int .u8 x], rfl, rfl, fun i u hi => ?_⟩⟩⟩
  match i, hi with
  | 0, hi =>
    simp only [List.getElem?_cons_zero, Option.some.injEq] at hi
    subst hi
    rw [add_plain, cell_of_row w _ _ _ _ _ hg]
    show (nums .u8 xs ++ rest).toArray[j * 1 + 0]? = _
    have hjl := (List.getElem?_eq_some_iff.1 hj).1
    rw [Nat.mul_one, Nat.add_zero, List.getElem?_toArray, List.getElem?_append_left (by rw [nums_length]; exact hjl)]
    simp [nums, hj]
/-- a literal of slices of bytes -/
theorem CBB_lit {w : World} {g : Nat} {cs : List Value} {t : Nat} (hg : w.heap[g]? = some (.cells cs.toArray t (0, 0))) (xss : List (List Int)) (hl : xss.length = cs.length) (hm : cs.length ≤ 9223372036854775807)
    (h : ∀ (j : Nat) xs, xss[j]? = some xs → ∃ (A : Option Addr) (c : Nat), cs[j]? = some (Value.slice A xs.length c) ∧ xs.length ≤ c ∧ Kd.C KB w A xs.length xs) : Kd.C KBB w (some ⟨g, 0, none⟩) xss.length xss := by
  refine ⟨rfl, by omega, fun _ => ⟨_, rfl, fun j xs hj => ?_⟩⟩
  obtain ⟨A, c, h1, h2, h3⟩ := h j xs hj
  refine ⟨[.slice A xs.length c], rfl, ⟨A, c, rfl, h2, h3⟩, fun i u hi => ?_⟩
  match i, hi with
  | 0, hi =>
    simp only [List.getElem?_cons_zero, Option.some.injEq] at hi
    subst hi
    rw [add_plain, cell_of_row w _ _ _ _ _ hg]
    show cs.toArray[j * 1 + 0]? = _
    rw [Nat.mul_one, Nat.add_zero]
    simpa using h1
theorem CBB_alloc {W : World} {g : Nat} {cs : List Value} {t : Nat} (hg : g = W.heap.size) (xss : List (List Int)) (hl : xss.length = cs.length) (hm : cs.length ≤ 9223372036854775807)
    (h : ∀ (j : Nat) xs, xss[j]? = some xs → ∃ (A : Option Addr) (c : Nat), cs[j]? = some (Value.slice A xs.length c) ∧ xs.length ≤ c ∧ Kd.C KB (W.alloc (.cells cs.toArray t)) A xs.length xs) : Kd.C KBB (W.alloc (.cells cs.toArray t)) (some ⟨g, 0, none⟩) xss.length xss := by
  subst hg
  exact CBB_lit (heap_alloc_new W _) xss hl hm h
def flat (l : List (List Int)) : List Int := l.flatten
theorem flat_take (l : List (List Int)) (k : Nat) (hk : k < l.length) : flat (l.take (k+1)) = flat (l.take k) ++ l.getD k [] := by
  unfold flat
  rw [List.take_succ_eq_append_getElem hk, List.flatten_append]
  simp [hk]
theorem flat_le (l : List (List Int)) (k : Nat) : (flat (l.take k)).length ≤ (flat l).length := by
  unfold flat
  conv => rhs; rw [← List.take_append_drop k l]
  rw [List.flatten_append, List.length_append]; omega

end Go.Proofs.Yticilaoibjbgfaa.Lib
