/- Slices of words: reading, owning, appending. -/
import Derived.Test.YtfeohojpjncgaaaLibB0
set_option linter.unusedSimpArgs false
set_option linter.unusedVariables false
namespace Go.Proofs.Ytfeohojpjncgaaa.Lib
open Go.RowKit Go.Proofs.YtfeohojpjncgaaaW.PrintWords Go.Proofs.YtfeohojpjncgaaaW.PrintLast Go.Proofs.YtfeohojpjncgaaaW.PrintMore Go.Proofs.Ytfeohojpjncgaaa.Lex

abbrev KW : Kd Int := Kd.int .u32
/-- Owned words, of memory from block b on. -/
def OW (b : Nat) (w : World) (v : Value) (xs : List Int) : Prop := Kd.R KW 72 w b (fun _ => True) v xs
theorem info30 : (Try.prog.info? 72).map (fun i => (i.zero, i.size, i.bytes)) = some (some (.int .u32 0), 1, 4) := by kernel_rfl
theorem C_wd {w : World} {A : Option Addr} {n : Nat} {xs : List Int} (h : Kd.C KW w A n xs) (k : Nat) (hk : k < n) : ∃ b o, A = some ⟨b, o, none⟩ ∧ w.cell? ⟨b, o + k, none⟩ = some (.int .u32 (xs.getD k 0)) := by
  obtain ⟨b, o, e⟩ := C_addr (by decide) h (by omega)
  obtain ⟨ad, c0, e0, hc1, hK, hc2⟩ := ReadsRow.get_ h 0 k (by omega) (by omega)
  have hK' : c0 = [.int .u32 (xs.getD k 0)] := hK
  subst hK'
  have h1 := hc2 0 _ rfl
  have h2 : w.cell? (ad.add k) = some (.int .u32 (xs.getD k 0)) := by simpa [Kd.int, Kd.scalar] using h1
  rw [e0] at e
  injection e with e
  subst e
  rw [add_none] at h2
  exact ⟨b, o, e0, h2⟩
theorem OW.nil (b : Nat) (w : World) : OW b w (.slice none 0 0) [] := Kd.R_nil _ _ _ _ _
theorem OW.lower {b b' : Nat} {w : World} {v : Value} {xs : List Int} (h : OW b w v xs) (hb : b' ≤ b) : OW b' w v xs := Kd.R_lower h hb
theorem OW.below {b : Nat} {w w1 : World} {v : Value} {xs : List Int} (h : OW b w v xs) (hb : Below w.heap.size w w1) : OW b w1 v xs := Kd.R_below h hb
theorem OW.reads {b : Nat} {w : World} {v : Value} {xs : List Int} (h : OW b w v xs) : ∃ A c, v = .slice A xs.length c ∧ xs.length ≤ c ∧ Kd.C KW w A xs.length xs := Kd.R_reads h
theorem OW.readsAt {b : Nat} {w : World} {A : Option Addr} {n c : Nat} {xs : List Int} (h : OW b w (.slice A n c) xs) : Kd.C KW w A n xs := by
  obtain ⟨A', c', e, _, hC⟩ := h.reads
  injection e with e1 e2 e3
  subst e1 e2
  exact hC
theorem OW.lit {b : Nat} (w : World) (xs : List Int) (cs : List Value) (hcs : cs = nums .u32 xs) (n : Nat) (hn : n = xs.length) (hb : b ≤ w.heap.size) (hm : xs.length ≤ 1000000) :
    OW b (w.alloc (.cells cs.toArray 72)) (.slice (some ⟨w.heap.size, 0, none⟩) n n) xs := by
  subst hcs
  subst hn
  have h := World.ownsRow_lit (base := b) (e := 72) (size := 1) w (nums .u32 xs).toArray xs.length hb (by simp [maxLen]; omega) (by simp [nums])
  exact Kd.R_of_own (enc := Value.int .u32) (by simpa [encs, nums] using h) (fun _ _ => trivial)
section
variable {ops : Array Oper} {rest : List Oper} {o : Oper} {a : Act} {Q : Exit → Act → World → Prop}
/-- append(v, x...) of words. -/
theorem ap_rowW {W : World} (b : Nat) (s x : Operand) (hgd : o.guard = none)
    (ho : o.op = .call { callee := .builtin .append, args := #[s, x], argTypes := #[91, 91] })
    {v : Value} {xs ys : List Int} {A : Option Addr} {m c : Nat} (HO : OW b W v xs) (HR : Kd.C KW W A m ys)
    (hs : a.eval s = v) (hx : a.eval x = .slice A m c) (hb : b ≤ W.heap.size) (hl : xs.length + m ≤ 1000000)
    (h : ∀ v1 w1, OW b w1 v1 (xs ++ ys) → Below b W w1 → wpList Try.prog ops Q rest (a.put o.dst v1) w1) :
    wpList Try.prog ops Q (o :: rest) a W :=
  Kd.R_append_row (w0 := W) (Value.int .u32) 0 b hgd s x 91 72 (.int .u32 0) 4 ho Try.underlying91 info30 rfl (by decide) v xs ys A m c (fun _ => True) hs hx (fun _ _ => trivial) HO HR (Below.refl _ _) hb (by omega) (fun v1 w1 h1 h2 _ _ => h v1 w1 h1 h2)
end
end Go.Proofs.Ytfeohojpjncgaaa.Lib
