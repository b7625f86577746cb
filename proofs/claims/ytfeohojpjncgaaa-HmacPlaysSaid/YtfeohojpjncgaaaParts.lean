/- Rows of slices of bytes that came in; cuts of bytes; rows of whole numbers. -/
import Derived.Test.YtfeohojpjncgaaaObj
set_option linter.unusedSimpArgs false
set_option linter.unusedVariables false
namespace Go.Proofs.Ytfeohojpjncgaaa.Lib
open Go.RowKit Go.Proofs.YtfeohojpjncgaaaW.PrintWords Go.Proofs.YtfeohojpjncgaaaW.PrintLast Go.Proofs.YtfeohojpjncgaaaW.PrintMore Go.Proofs.Ytfeohojpjncgaaa.Lex

theorem C_num {k : IntKind} {w : World} {A : Option Addr} {n : Nat} {xs : List Int} (h : Kd.C (Kd.int k) w A n xs) (j : Nat) (hj : j < n) : ∃ b o, A = some ⟨b, o, none⟩ ∧ w.cell? ⟨b, o + j, none⟩ = some (.int k (xs.getD j 0)) := by
  obtain ⟨b, o, e⟩ := C_addr (d := Kd.int k) (by show 0 < 1; decide) h (by omega)
  obtain ⟨ad, c0, e0, hc1, hK, hc2⟩ := ReadsRow.get_ h 0 j (by omega) (by omega)
  have hK' : c0 = [.int k (xs.getD j 0)] := hK
  subst hK'
  have h1 := hc2 0 _ rfl
  have h2 : w.cell? (ad.add j) = some (.int k (xs.getD j 0)) := by simpa [Kd.int, Kd.scalar] using h1
  rw [e0] at e
  injection e with e
  subst e
  rw [add_none] at h2
  exact ⟨b, o, e0, h2⟩
theorem C_lt {w : World} {A : Option Addr} {n : Nat} {xs : List Int} (h : Kd.C KB w A n xs) (hn : 0 < n) (a : Addr) (ha : A = some a) : a.block < w.heap.size := by
  obtain ⟨b, o, e, hc⟩ := C_byte h 0 hn
  rw [ha] at e
  injection e with e
  subst e
  exact World.block_lt_of_cell? w _ hc
theorem OB.litAt {b : Nat} (w : World) (g : Nat) (hg : w.heap.size = g) (xs : List Int) (cs : List Value) (hcs : cs = nums .u8 xs) (n : Nat) (hn : n = xs.length) (hb : b ≤ g) (hm : xs.length ≤ 9223372036854775807) :
    OB b (w.alloc (.cells cs.toArray 5)) (.slice (some ⟨g, 0, none⟩) n n) xs := by
  subst hg
  exact OB.lit w xs cs hcs n hn hb hm
/-- A cut of bytes. -/
theorem mid_bytes {A : Option Addr} {c : Nat} {xs : List Int} {w : World} (hx : Kd.C KB w A xs.length xs) (hc : xs.length ≤ c) (lo hi : Nat) (h1 : lo ≤ hi) (h2 : hi ≤ xs.length) :
    ∃ AD, (∀ W, (Instr.slice 22 (.slice A xs.length c) (some (.int .i64 (lo : Int))) (some (.int .i64 (hi : Int))) none).run Try.prog W = .ok (.slice AD (hi - lo) (c - lo)) W) ∧ Kd.C KB w AD (hi - lo) ((xs.take hi).drop lo) := by
  have hi5 : ∃ i, Try.prog.info? 5 = some i ∧ i.size = 1 := by
    have h := info5
    rcases hq : Try.prog.info? 5 with _ | i
    · rw [hq] at h; cases h
    · rw [hq] at h
      simp only [Option.map_some, Option.some.injEq, Prod.mk.injEq] at h
      exact ⟨i, rfl, h.2.1⟩
  obtain ⟨i, hi1, hi2⟩ := hi5
  have h := cut_mid (P := Try.prog) 22 5 .i64 .i64 Try.underlying22 hi1 1 hi2 A xs.length c (lo : Int) (hi : Int) (by omega) (by omega) (by omega) hc
  simp only [Int.toNat_natCast] at h
  refine ⟨_, h, ?_⟩
  have h4 := Kd.C_mid (k := KB) hx h1 h2 hc
  have hl : ((xs.take hi).drop lo).length = hi - lo := by rw [List.length_drop, List.length_take]; omega
  rw [hl] at h4
  exact h4
theorem from_bytes {A : Option Addr} {c : Nat} {xs : List Int} {w : World} (hx : Kd.C KB w A xs.length xs) (hc : xs.length ≤ c) (lo : Nat) (h1 : lo ≤ xs.length) :
    ∃ AD, (∀ W, (Instr.slice 22 (.slice A xs.length c) (some (.int .i64 (lo : Int))) none none).run Try.prog W = .ok (.slice AD (xs.length - lo) (c - lo)) W) ∧ Kd.C KB w AD (xs.length - lo) (xs.drop lo) := by
  have hi5 : ∃ i, Try.prog.info? 5 = some i ∧ i.size = 1 := by
    have h := info5
    rcases hq : Try.prog.info? 5 with _ | i
    · rw [hq] at h; cases h
    · rw [hq] at h
      simp only [Option.map_some, Option.some.injEq, Prod.mk.injEq] at h
      exact ⟨i, rfl, h.2.1⟩
  obtain ⟨i, hi1, hi2⟩ := hi5
  have h := cut_from (P := Try.prog) 22 5 .i64 Try.underlying22 hi1 1 hi2 A xs.length c (lo : Int) (by omega) (by omega)
  simp only [Int.toNat_natCast] at h
  refine ⟨_, h, ?_⟩
  have h4 := Kd.C_drop (k := KB) hx h1 hc
  rw [List.length_drop] at h4
  exact h4
theorem take_cut (xs : List Int) (lo hi : Nat) (h : lo ≤ hi) : xs.take lo ++ (xs.take hi).drop lo = xs.take hi := by
  have h2 := List.take_append_drop lo (xs.take hi)
  rw [List.take_take, Nat.min_eq_left h] at h2
  exact h2

theorem run_min2 (x y m : Int) (h : min x y = m) : ∀ (ts : Array TypeId) (t : TypeId) (W : World), (Builtin.min_ ts t #[.int .i64 x, .int .i64 y]).run Try.prog W = .ok (.int .i64 m) W := fun ts t W => by
  rw [run_min_int2]
  congr 2
  split <;> omega
theorem run_max2 (x y m : Int) (h : max x y = m) : ∀ (ts : Array TypeId) (t : TypeId) (W : World), (Builtin.max_ ts t #[.int .i64 x, .int .i64 y]).run Try.prog W = .ok (.int .i64 m) W := fun ts t W => by
  rw [run_max_int2]
  congr 2
  split <;> omega
/-- A row of the call's own, of slices of bytes as they were in w0. -/
def PR (w0 : World) (b : Nat) (w : World) (v : Value) (l : List (List Int)) : Prop := Kd.R (Kd.fixed KBB w0) 22 w b (fun _ => True) v l
theorem PR.nil (w0 : World) (b : Nat) (w : World) : PR w0 b w (.slice none 0 0) [] := Kd.R_nil _ _ _ _ _
theorem PR.below {w0 : World} {b : Nat} {w w1 : World} {v : Value} {l : List (List Int)} (h : PR w0 b w v l) (hb : Below w.heap.size w w1) : PR w0 b w1 v l := Kd.R_below h hb
theorem PR.but {w0 : World} {b : Nat} {w w1 : World} {v : Value} {l : List (List Int)} {S : Nat → Prop} (h : PR w0 b w v l) (hb : But w.heap.size S w w1) (hS : ∀ k, b ≤ k → ¬ S k) : PR w0 b w1 v l :=
  Kd.R_mono (Kd.R_step (Kd.R_bound h) (fun k hk hlt => hb.block k hlt (hS k hk.2.1))) (fun _ _ => trivial)
theorem PR.reads {w0 : World} {b : Nat} {w : World} {v : Value} {l : List (List Int)} (h : PR w0 b w v l) (hb : Below w0.heap.size w0 w) : ∃ A c, v = .slice A l.length c ∧ l.length ≤ c ∧ Kd.C KBB w A l.length l := by
  obtain ⟨A, c, e, hc, hC⟩ := Kd.R_reads h
  refine ⟨A, c, e, hc, ?_⟩
  unfold Kd.C at hC ⊢
  exact ReadsRow.imp_ hC (Below.refl _ _) (fun _ _ hp => KBB.K_below hb hp)
theorem info22 : (Try.prog.info? 22).map (fun i => (i.zero, i.size, i.bytes)) = some (some (.slice none 0 0), 1, 24) := by kernel_rfl
section
variable {ops : Array Oper} {rest : List Oper} {o : Oper} {a : Act} {Q : Exit → Act → World → Prop}
theorem ap_part {w W : World} (base : Nat) (s x : Operand) (hgd : o.guard = none)
    (ho : o.op = .call { callee := .builtin .append, args := #[s, x], argTypes := #[53, 53] })
    {v : Value} {l : List (List Int)} {A : Option Addr} {c n : Nat} {y : List Int} (HO : PR w base W v l) (hy : Kd.C KB w A y.length y) (hn : n = y.length) (hc : y.length ≤ c)
    (hs : a.eval s = v) (hx : a.eval x = .slice (some ⟨W.heap.size, 0, none⟩) 1 1) (hb : base ≤ W.heap.size) (hl : l.length ≤ 100000)
    (h : ∀ v1 w1, PR w base w1 v1 (l ++ [y]) → Below base W w1 → wpList Try.prog ops Q rest (a.put o.dst v1) w1) :
    wpList Try.prog ops Q (o :: rest) a (W.alloc (.cells #[.slice A n c] 22)) := by
  subst hn
  exact Kd.R_append (w0 := W) (Kd.fixed KBB w) base hgd s x 53 22 (.slice none 0 0) 24 ho Try.underlying53 info22 rfl (by show 0 < 1; decide) (by decide) v l y [.slice A y.length c] (fun _ => True) (fun _ => False) hs hx ⟨A, c, rfl, hc, hy⟩ (fun _ h => h.elim) (fun _ _ => trivial) HO (Below.refl _ _) hb (by omega) (fun v1 w1 h1 h2 _ _ => h v1 w1 h1 h2)
end
end Go.Proofs.Ytfeohojpjncgaaa.Lib
