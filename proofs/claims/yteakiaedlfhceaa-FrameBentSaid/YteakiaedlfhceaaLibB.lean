/- Slices of bytes: reading, owning, and the contracts of slices.Clone, Grow (of nil), Concat, Repeat (one byte 255, sixteen times), IndexFunc, ContainsFunc at bytes. -/
import Derived.Test.YteakiaedlfhceaaProg
import Derived.WalkKit
import Derived.KernelRfl
import Derived.LoopTactic
import Derived.Deep.LoopGhost
import Derived.Lib.SliceRun
import Derived.Laws.CopyOwn
import Derived.Test.YteakiaedlfhceaaLex
set_option linter.unusedSimpArgs false
set_option linter.unusedVariables false
namespace Go.Proofs.Yteakiaedlfhceaa.Lib
open Go.RowKit Go.Proofs.YteakiaedlfhceaaW.PrintWords Go.Proofs.YteakiaedlfhceaaW.PrintLast Go.Proofs.YteakiaedlfhceaaW.PrintMore Go.Proofs.Yteakiaedlfhceaa.Lex

abbrev KB : Kd Int := Kd.int .u8
/-- Owned bytes, of memory from block b on. -/
def OB (b : Nat) (w : World) (v : Value) (xs : List Int) : Prop := Kd.R KB 5 w b (fun _ => True) v xs
theorem info5 : (Try.prog.info? 5).map (fun i => (i.zero, i.size, i.bytes)) = some (some (.int .u8 0), 1, 1) := by kernel_rfl

theorem add_none (b o k : Nat) : (⟨b, o, none⟩ : Addr).add k = ⟨b, o + k, none⟩ := by
  unfold Addr.add
  split
  · rename_i h
    rw [h, Nat.add_zero]
  · rfl
/-- The address of a row that is not empty is the address of cells. -/
theorem C_addr {α : Type} {d : Kd α} (hd : 0 < d.sz) {w : World} {A : Option Addr} {n : Nat} {xs : List α} (h : Kd.C d w A n xs) (hn : 0 < n) : ∃ b o, A = some ⟨b, o, none⟩ := by
  obtain ⟨ad, e, hc⟩ := h.2.2 hn
  have hl : 0 < xs.length := by have := h.1; omega
  obtain ⟨c, h1, _, h3⟩ := hc 0 _ (List.getElem?_eq_getElem hl)
  have h0 : 0 < c.length := by omega
  have h4 := h3 0 _ (List.getElem?_eq_getElem h0)
  have h5 := World.cell?_spot h4
  obtain ⟨b, o, s⟩ := ad
  have h6 : s = none := by simpa [Addr.add] using h5
  subst h6
  exact ⟨b, o, e⟩
theorem C_byte {w : World} {A : Option Addr} {n : Nat} {xs : List Int} (h : Kd.C KB w A n xs) (k : Nat) (hk : k < n) : ∃ b o, A = some ⟨b, o, none⟩ ∧ w.cell? ⟨b, o + k, none⟩ = some (.int .u8 (xs.getD k 0)) := by
  obtain ⟨b, o, e⟩ := C_addr (by decide) h (by omega)
  obtain ⟨ad, c0, e0, hc1, hK, hc2⟩ := ReadsRow.get_ h 0 k (by omega) (by omega)
  have hK' : c0 = [.int .u8 (xs.getD k 0)] := hK
  subst hK'
  have h1 := hc2 0 _ rfl
  have h2 : w.cell? (ad.add k) = some (.int .u8 (xs.getD k 0)) := by simpa [Kd.int, Kd.scalar] using h1
  rw [e0] at e
  injection e with e
  subst e
  rw [add_none] at h2
  exact ⟨b, o, e0, h2⟩
theorem C_nil {α : Type} {d : Kd α} {w : World} {xs : List α} (h : Kd.C d w none xs.length xs) : xs = [] := by
  rcases Nat.eq_zero_or_pos xs.length with h0 | h0
  · exact List.length_eq_zero_iff.1 h0
  · obtain ⟨ad, e, _⟩ := h.2.2 h0
    cases e

theorem OB.nil (b : Nat) (w : World) : OB b w (.slice none 0 0) [] := Kd.R_nil _ _ _ _ _
theorem OB.lower {b b' : Nat} {w : World} {v : Value} {xs : List Int} (h : OB b w v xs) (hb : b' ≤ b) : OB b' w v xs := Kd.R_lower h hb
theorem OB.below {b : Nat} {w w1 : World} {v : Value} {xs : List Int} (h : OB b w v xs) (hb : Below w.heap.size w w1) : OB b w1 v xs := Kd.R_below h hb
theorem OB.reads {b : Nat} {w : World} {v : Value} {xs : List Int} (h : OB b w v xs) : ∃ A c, v = .slice A xs.length c ∧ xs.length ≤ c ∧ Kd.C KB w A xs.length xs := Kd.R_reads h

theorem OB.readsAt {b : Nat} {w : World} {A : Option Addr} {n c : Nat} {xs : List Int} (h : OB b w (.slice A n c) xs) : Kd.C KB w A n xs := by
  obtain ⟨A', c', e, _, hC⟩ := h.reads
  injection e with e1 e2 e3
  subst e1 e2
  exact hC
/-- a slice literal of bytes, freshly laid -/
theorem OB.lit {b : Nat} (w : World) (xs : List Int) (cs : List Value) (hcs : cs = nums .u8 xs) (n : Nat) (hn : n = xs.length) (hb : b ≤ w.heap.size) (hm : xs.length ≤ 9223372036854775807) :
    OB b (w.alloc (.cells cs.toArray 5)) (.slice (some ⟨w.heap.size, 0, none⟩) n n) xs := by
  subst hcs
  subst hn
  have h := World.ownsRow_lit (base := b) (e := 5) (size := 1) w (nums .u8 xs).toArray xs.length hb (by simpa [maxLen] using hm) (by simp [nums])
  exact Kd.R_of_own (enc := Value.int .u8) (by simpa [encs, nums] using h) (fun _ _ => trivial)

theorem OB.form {b : Nat} {w : World} {v : Value} {xs : List Int} (h : OB b w v xs) (hp : 0 < xs.length) : ∃ g cap, v = .slice (some ⟨g, 0, none⟩) xs.length cap ∧ b ≤ g ∧ g < w.heap.size ∧ xs.length ≤ cap := by
  obtain ⟨A, c, e2, h3, _⟩ := h.reads
  obtain ⟨g, cap, e, h1, h2, _⟩ := Kd.R_form h hp
  refine ⟨g, cap, e, h1, h2, ?_⟩
  rw [e] at e2
  injection e2 with _ _ e3
  rw [e3]
  exact h3
/-- a store into a block that lies below -/
theorem OB.far {b : Nat} {w : World} {v : Value} {xs : List Int} (h : OB b w v xs) {p : Addr} (hp : p.block < b) (u : Value) : OB b (w.setCell p u) v xs := by
  have h2 := Kd.R_bound h
  exact Kd.R_mono (Kd.R_far h2 (p := p) (fun k hk => by have := hk.2.1; omega) u) (fun _ _ => trivial)
theorem OB.cell {b : Nat} {w : World} {g n cap : Nat} {xs : List Int} (h : OB b w (.slice (some ⟨g, 0, none⟩) n cap) xs) (i : Nat) (hi : i < n) : w.cell? ⟨g, i, none⟩ = some (.int .u8 (xs.getD i 0)) ∧ w.frozen? ⟨g, i, none⟩ = false := by
  have := Kd.R_celln (d := (0 : Int)) h i (by omega) (by omega)
  simpa [rdOf] using this
theorem OB.put {b : Nat} {w : World} {g n cap : Nat} {xs : List Int} (h : OB b w (.slice (some ⟨g, 0, none⟩) n cap) xs) (i : Nat) (x : Int) : OB b (w.setCell ⟨g, i, none⟩ (.int .u8 x)) (.slice (some ⟨g, 0, none⟩) n cap) (xs.set i x) := by
  have h1 := Kd.R_putn h i x
  rw [Int.toNat_natCast] at h1
  exact h1

section
variable {ops : Array Oper} {rest : List Oper} {o : Oper} {a : Act} {Q : Exit → Act → World → Prop}
/-- append(v, u...) of bytes to a row of the call's own. -/
theorem ap_row {W : World} (b : Nat) (s x : Operand) (hgd : o.guard = none)
    (ho : o.op = .call { callee := .builtin .append, args := #[s, x], argTypes := #[22, 22] })
    {v : Value} {xs ys : List Int} {A : Option Addr} {m c : Nat} (HO : OB b W v xs) (HR : Kd.C KB W A m ys)
    (hs : a.eval s = v) (hx : a.eval x = .slice A m c) (hb : b ≤ W.heap.size) (hl : xs.length + m ≤ 140737488355328)
    (h : ∀ v1 w1, OB b w1 v1 (xs ++ ys) → Below b W w1 → wpList Try.prog ops Q rest (a.put o.dst v1) w1) :
    wpList Try.prog ops Q (o :: rest) a W :=
  Kd.R_append_row (w0 := W) (Value.int .u8) 0 b hgd s x 22 5 (.int .u8 0) 1 ho Try.underlying22 info5 rfl (by decide) v xs ys A m c (fun _ => True) hs hx (fun _ _ => trivial) HO HR (Below.refl _ _) hb (by omega) (fun v1 w1 h1 h2 _ _ => h v1 w1 h1 h2)
end

set_option maxHeartbeats 1000000 in
theorem clone (A : Option Addr) (c : Nat) (xs : List Int) (w : World) (hx : Kd.C KB w A xs.length xs) (hl : xs.length ≤ 140737488355328) :
   Calls Try.prog 32 #[.slice A xs.length c] w fun e w' => ∃ v, e = .returned v ∧ OB w.heap.size w' v xs ∧ Below w.heap.size w w' := by
  have hn := fun (w : World) => Lib.run_eql_slice_nil (P := Try.prog) w 22 5 A xs.length c 0 0 Try.underlying22
  have HX := Aside0.mk hx
  clear hx
  go_enter Try.func32, Try.ntmps32
  cases A with
  | none =>
    have hN : (none : Option Addr).isNone = true := rfl
    go_wp2
    go_ret
    have := C_nil HX.out
    subst this
    exact ⟨_, rfl, OB.nil _ _, Below.refl _ _⟩
  | some ad =>
    have hN : (some ad).isNone = false := rfl
    go_wp2_with ((with_reducible refine gate_builtin (b := .append) (xs := #[.tmp 5, .tmp 6]) rfl ?_); refine ap_row w.heap.size _ _ rfl rfl (OB.lit w [] [] rfl 0 rfl (Nat.le_refl _) (by simp)) (Kd.C_below HX.out (below_alloc (Below.refl _ _) _)) rfl rfl (by simp) (by simpa using hl) ?_; intro v w1 ho hb)
    go_ret
    exact ⟨_, rfl, ho, (below_alloc (Below.refl _ _) _).trans hb⟩

section
variable {ops : Array Oper} {rest : List Oper} {o : Oper} {a : Act} {Q : Exit → Act → World → Prop}
/-- append(v, make([]byte, n)...). -/
theorem ap_zeros {W : World} (b : Nat) (s x : Operand) (hgd : o.guard = none)
    (ho : o.op = .call { callee := .builtin .append, args := #[s, x], argTypes := #[22, 3] })
    {v : Value} {xs : List Int} {n : Int} (HO : OB b W v xs)
    (hs : a.eval s = v) (hx : a.eval x = .int .i64 n) (hn : 0 ≤ n) (hb : b ≤ W.heap.size) (hl : xs.length + n.toNat ≤ 140737488355328)
    (h : ∀ v1 w1, OB b w1 v1 (xs ++ List.replicate n.toNat 0) → Below b W w1 → wpList Try.prog ops Q rest (a.put o.dst v1) w1) :
    wpList Try.prog ops Q (o :: rest) a W :=
  Kd.R_append_zeros (w0 := W) KB b hgd s x 22 3 5 (.int .u8 0) 1 ho Try.underlying22 Try.underlying3 info5 rfl (by decide) (by decide) v xs 0 n (fun _ => True) hs hx rfl (fun _ _ => trivial) HO hn (Below.refl _ _) hb (by omega) (fun v1 w1 h1 h2 _ _ => h v1 w1 h1 h2)
end

set_option maxHeartbeats 1000000 in
theorem grow_nil (n : Int) (w : World) (h0 : 0 ≤ n) (hl : n ≤ 140737488355328) :
   Calls Try.prog 45 #[.slice none 0 0, .int .i64 n] w fun e w' => ∃ v, e = .returned v ∧ OB w.heap.size w' v [] ∧ Below w.heap.size w w' := by
  by_cases hp : 0 < n
  · go_enter Try.func45, Try.ntmps45
    go_wp2_with ((with_reducible refine gate_builtin (b := .append) (xs := #[.tmp 20, .tmp 21]) rfl ?_); refine ap_zeros w.heap.size _ _ rfl rfl (OB.nil w.heap.size w) rfl rfl (by omega) (by omega) (by simp; omega) ?_; intro v w1 ho hb; obtain ⟨A, c, rfl, hc, hC⟩ := ho.reads)
    go_ret
    refine ⟨_, rfl, ?_, hb⟩
    have h2 := Kd.R_take ho (m := 0) (by omega)
    rw [List.take_zero] at h2
    exact h2
  · have : n = 0 := by omega
    subst this
    go_enter Try.func45, Try.ntmps45
    go_wp2
    go_ret
    exact ⟨_, rfl, OB.nil _ _, Below.refl _ _⟩

abbrev KBB : Kd (List Int) := Kd.slice 5 KB
theorem C_row {w : World} {A : Option Addr} {n : Nat} {xs : List (List Int)} (h : Kd.C KBB w A n xs) (k : Nat) (hk : k < n) :
    ∃ b o A0 c0, A = some ⟨b, o, none⟩ ∧ w.cell? ⟨b, o + k, none⟩ = some (.slice A0 (xs.getD k []).length c0) ∧ (xs.getD k []).length ≤ c0 ∧ Kd.C KB w A0 (xs.getD k []).length (xs.getD k []) := by
  obtain ⟨ad, c, e, _, hK, hc0⟩ := Kd.C_get h ([] : List Int) k (by omega) (by omega)
  obtain ⟨A0, c0, rfl, l0, g0⟩ := hK
  have hq := hc0 0 _ rfl
  have h2 : w.cell? (ad.add k) = some (.slice A0 (xs.getD k []).length c0) := by simpa [Kd.slice] using hq
  obtain ⟨b, o, e1⟩ := C_addr (by show 0 < 1; decide) h (by omega)
  rw [e] at e1
  injection e1 with e1
  subst e1
  rw [add_none] at h2
  exact ⟨b, o, A0, c0, e, h2, l0, g0⟩

/-- a cut of bytes -/
theorem C_seg {w : World} {b o n : Nat} {xs : List Int} (h : Kd.C KB w (some ⟨b, o, none⟩) n xs) (lo hi : Nat) (h1 : lo ≤ hi) (h2 : hi ≤ n) (AD : Option Addr) (hA : lo < hi → AD = some ⟨b, o + lo, none⟩) :
    Kd.C KB w AD (hi - lo) ((xs.take hi).drop lo) := by
  obtain ⟨hl, hm, hc⟩ := h
  refine ⟨by rw [List.length_drop, List.length_take]; omega, by omega, fun hp => ⟨_, hA (by omega), fun j p hj => ?_⟩⟩
  obtain ⟨ad, e, hc⟩ := hc (by omega)
  injection e with e
  subst e
  rw [List.getElem?_drop, List.getElem?_take] at hj
  split at hj
  · obtain ⟨cs, h3, h4, h5⟩ := hc (lo + j) p hj
    refine ⟨cs, h3, h4, fun i u hu => ?_⟩
    have := h5 i u hu
    rw [add_none] at this ⊢
    have e : o + ((lo + j) * KB.sz + i) = o + lo + (j * KB.sz + i) := by
      show o + ((lo + j) * 1 + i) = o + lo + (j * 1 + i)
      omega
    rw [e] at this
    exact this
  · cases hj
/-- a block of bytes that is known whole -/
theorem C_block {w : World} {g t : Nat} {cs : List Value} (hg : w.heap[g]? = some (.cells cs.toArray t (0, 0))) (xs : List Int) (rest : List Value) (h : cs = nums .u8 xs ++ rest) (hm : xs.length ≤ 9223372036854775807) : Kd.C KB w (some ⟨g, 0, none⟩) xs.length xs := by
  subst h
  refine ⟨rfl, hm, fun _ => ⟨_, rfl, fun j x hj => ⟨[.int .u8 x], rfl, rfl, fun i u hi => ?_⟩⟩⟩
  match i, hi with
  | 0, hi =>
    simp only [List.getElem?_cons_zero, Option.some.injEq] at hi
    subst hi
    rw [add_plain, cell_of_row w _ _ _ _ _ hg]
    show (nums .u8 xs ++ rest).toArray[j * 1 + 0]? = _
    have hjl := (List.getElem?_eq_some_iff.1 hj).1
    rw [Nat.mul_one, Nat.add_zero, List.getElem?_toArray, List.getElem?_append_left (by rw [nums_length]; exact hjl)]
    simp [nums, hj]
/-- a literal of slices of bytes -/
theorem CBB_lit {w : World} {g : Nat} {cs : List Value} {t : Nat} (hg : w.heap[g]? = some (.cells cs.toArray t (0, 0))) (xss : List (List Int)) (hl : xss.length = cs.length) (hm : cs.length ≤ 9223372036854775807)
    (h : ∀ (j : Nat) xs, xss[j]? = some xs → ∃ (A : Option Addr) (c : Nat), cs[j]? = some (Value.slice A xs.length c) ∧ xs.length ≤ c ∧ Kd.C KB w A xs.length xs) : Kd.C KBB w (some ⟨g, 0, none⟩) xss.length xss := by
  refine ⟨rfl, by omega, fun _ => ⟨_, rfl, fun j xs hj => ?_⟩⟩
  obtain ⟨A, c, h1, h2, h3⟩ := h j xs hj
  refine ⟨[.slice A xs.length c], rfl, ⟨A, c, rfl, h2, h3⟩, fun i u hi => ?_⟩
  match i, hi with
  | 0, hi =>
    simp only [List.getElem?_cons_zero, Option.some.injEq] at hi
    subst hi
    rw [add_plain, cell_of_row w _ _ _ _ _ hg]
    show cs.toArray[j * 1 + 0]? = _
    rw [Nat.mul_one, Nat.add_zero]
    simpa using h1
theorem CBB_alloc {W : World} {g : Nat} {cs : List Value} {t : Nat} (hg : g = W.heap.size) (xss : List (List Int)) (hl : xss.length = cs.length) (hm : cs.length ≤ 9223372036854775807)
    (h : ∀ (j : Nat) xs, xss[j]? = some xs → ∃ (A : Option Addr) (c : Nat), cs[j]? = some (Value.slice A xs.length c) ∧ xs.length ≤ c ∧ Kd.C KB (W.alloc (.cells cs.toArray t)) A xs.length xs) : Kd.C KBB (W.alloc (.cells cs.toArray t)) (some ⟨g, 0, none⟩) xss.length xss := by
  subst hg
  exact CBB_lit (heap_alloc_new W _) xss hl hm h
def flat (l : List (List Int)) : List Int := l.flatten
theorem flat_take (l : List (List Int)) (k : Nat) (hk : k < l.length) : flat (l.take (k+1)) = flat (l.take k) ++ l.getD k [] := by
  unfold flat
  rw [List.take_succ_eq_append_getElem hk, List.flatten_append]
  simp [hk]
theorem flat_le (l : List (List Int)) (k : Nat) : (flat (l.take k)).length ≤ (flat l).length := by
  unfold flat
  conv => rhs; rw [← List.take_append_drop k l]
  rw [List.flatten_append, List.length_append]; omega

set_option maxHeartbeats 2000000 in
theorem concat (A : Option Addr) (c : Nat) (l : List (List Int)) (w : World) (hx : Kd.C KBB w A l.length l) (hl : (flat l).length ≤ 140737488355328) :
   Calls Try.prog 37 #[.slice A l.length c] w fun e w' => ∃ v, e = .returned v ∧ OB w.heap.size w' v (flat l) ∧ Below w.heap.size w w' := by
  have HX := Aside0.mk hx
  have hm := hx.2.1
  clear hx
  go_enter Try.func37, Try.ntmps37
  go_wp2
  go_loopg [3, 5, 11] l.length (fun gk s3 s5 s11 w' => ∃ k : Nat, k ≤ l.length ∧ l.length - k ≤ gk ∧ s11 = .int .i64 k ∧ s3 = .int .i64 (flat (l.take k)).length ∧ w = w')
  case atStart => exact ⟨0, by omega, by omega, rfl, by simp [flat], rfl⟩
  case round =>
    obtain ⟨k, hk, hgk, rfl, rfl, rfl⟩ := hrel
    have hle := flat_le l k
    by_cases hlt : k < l.length
    · have hle1 := flat_le l (k+1)
      have hft := flat_take l k hlt
      obtain ⟨ab, ao, A0, c0, rfl, hc, hlc, hC⟩ := C_row HX.out k hlt
      have hfl : (flat (l.take (k+1))).length = (flat (l.take k)).length + (l.getD k []).length := by rw [hft, List.length_append]
      obtain ⟨y, hy⟩ : ∃ y, l.getD k [] = y := ⟨_, rfl⟩
      rw [hy] at hc hlc hC hfl
      obtain ⟨m, hm⟩ : ∃ m, (flat (l.take k)).length = m := ⟨_, rfl⟩
      obtain ⟨m1, hm1⟩ : ∃ m, (flat (l.take (k+1))).length = m := ⟨_, rfl⟩
      rw [hm] at hle hfl
      rw [hm1] at hle1 hfl
      simp only [hm]
      have H1 := Aside0.mk hm
      have H2 := Aside0.mk hm1
      have H3 := Aside0.mk hfl
      have h0 : m + y.length ≤ 140737488355328 := by omega
      clear hm hm1 hfl hft hy hC hle1
      go_wp2
      go_roundg (gk - 1)
      case measure => omega
      case rel => exact ⟨k+1, by omega, by omega, by go_num, by rw [H2.out, H3.out]; simp, rfl⟩
    · obtain rfl : k = l.length := by omega
      rw [List.take_length] at *
      go_wp2_with fail
      refine (grow_nil _ _ (by omega) (by omega)).mono ?_
      rintro e w1 ⟨v, rfl, ho, hb⟩
      go_wp2_with fail
      have HO0 := Aside0.mk ho
      have HB0 := Aside0.mk hb
      clear ho hb
      go_loopg [6, 8, 27] l.length (fun gk s6 s8 s27 w' => ∃ k : Nat, k ≤ l.length ∧ l.length - k ≤ gk ∧ s27 = .int .i64 k ∧ Aside0 (OB w.heap.size w' s6 (flat (l.take k))) ∧ Aside0 (Below w.heap.size w w'))
      case atStart => exact ⟨0, by omega, by omega, rfl, ⟨by simpa [flat] using HO0.out⟩, HB0⟩
      case round =>
        clear HO0 HB0
        obtain ⟨k, hk, hgk, rfl, HO, HB⟩ := hrel
        by_cases hlt : k < l.length
        · have hle1 := flat_le l (k+1)
          have hft := flat_take l k hlt
          obtain ⟨ab, ao, A0, c0, rfl, hc, hlc, hC⟩ := C_row (Kd.C_below HX.out HB.out) k hlt
          have hfl : (flat (l.take k)).length + (l.getD k []).length ≤ 140737488355328 := by rw [hft, List.length_append] at hle1; omega
          obtain ⟨y, hy⟩ : ∃ y, l.getD k [] = y := ⟨_, rfl⟩
          rw [hy] at hc hlc hC hfl hft
          have HC := Aside0.mk hC
          have HF := Aside0.mk hft
          have HFL := Aside0.mk hfl
          have hsz := HB.out.size
          clear hfl hft hy hC hle1 hlc hle
          go_wp2_with ((with_reducible refine gate_builtin (b := .append) (xs := #[.tmp 31, .tmp 32]) rfl ?_); refine ap_row w.heap.size _ _ rfl rfl HO.out HC.out rfl rfl hsz HFL.out ?_; intro v w1 ho hb; have HO2 := Aside0.mk ho; have HB2 := Aside0.mk hb; clear ho hb)
          go_roundg (gk - 1)
          case measure => omega
          case rel => exact ⟨k+1, by omega, by omega, by go_num, ⟨by rw [HF.out]; exact HO2.out⟩, ⟨HB.out.trans HB2.out⟩⟩
        · obtain rfl : k = l.length := by omega
          go_wp2
          go_ret
          have h := HO.out
          rw [List.take_length] at h
          exact ⟨_, rfl, h, HB.out⟩

theorem mul_1_16 (w : World) : Calls Try.prog 38 #[.int .u64 1, .int .u64 16] w fun e w' => e = .returned (.tuple #[.int .u64 0, .int .u64 16]) ∧ w = w' := by
  go_enter Try.func38, Try.ntmps38
  go_wp2
  go_ret2
  exact ⟨rfl, rfl⟩

def fillN (n : Nat) : List Value := List.replicate n (.int .u8 255) ++ List.replicate (16 - n) (.int .u8 0)

theorem size5 : (Try.prog.info? 5).map (·.size) = some 1 := by kernel_rfl

theorem splice_fill (n : Nat) (h : n + n ≤ 16) : splice (fillN n) n (List.replicate n (.int .u8 255)) = fillN (n + n) := by
  unfold splice fillN
  rw [List.take_append_of_le_length (by simp), List.take_of_length_le (by simp), List.length_replicate, List.drop_append, List.drop_of_length_le (by simp), List.nil_append, List.length_replicate, List.drop_replicate, ← List.append_assoc, List.replicate_append_replicate]
  congr 2
  omega

set_option maxHeartbeats 2000000 in
theorem repeat16 (A : Option Addr) (c : Nat) (w : World) (hx : Kd.C KB w A 1 [255]) :
   Calls Try.prog 29 #[.slice A 1 c, .int .i64 16] w fun e w' => e = .returned (.slice (some ⟨w.heap.size, 0, none⟩) 16 16) ∧ w'.heap[w.heap.size]? = some (.cells (fillN 16).toArray 5 (0, 0)) ∧ Below w.heap.size w w' := by
  obtain ⟨ab, ao, rfl, hc⟩ := C_byte hx 0 (by omega)
  have hmk : ∀ w, (Instr.makeSlice 22 (.int .i64 16) (.int .i64 16)).run Try.prog w = .ok (.slice (some ⟨w.heap.size, 0, none⟩) 16 16) (w.alloc (.cells (fillN 0).toArray 5)) := fun _ => by kernel_rfl
  have HC := Aside0.mk hc
  clear hc hx
  go_enter Try.func29, Try.ntmps29
  go_wp2_with fail
  refine (mul_1_16 _).mono ?_
  rintro e w' ⟨rfl, rfl⟩
  go_wp2_with (with_reducible refine wpList_copy_splice rfl (.tmp 31) (.tmp 32) 22 22 rfl 5 Try.underlying22 size5 _ _ _ _ _ _ rfl rfl w.heap.size 0 (fillN 0) 5 ?c1 [.int .u8 255] ?c2 ?c3 ?c4 ?c5 w.heap.size w ?c6 ?c7 ?_)
  case c1 => exact heap_alloc_new w _
  case c2 => rfl
  case c3 =>
    intro j v hj
    match j, hj with
    | 0, hj =>
      simp at hj
      subst hj
      exact pw_cell_below (below_alloc (Below.refl _ _) _) HC.out
  case c4 => decide
  case c5 => intro v hv; simp at hv; subst hv; rfl
  case c6 => exact below_alloc (Below.refl _ _) _
  case c7 => exact Nat.le_refl _
  intro w1 hg hb
  have HG : Aside0 (w1.heap[w.heap.size]? = some (.cells (fillN 1).toArray 5 (0, 0))) := ⟨hg.out⟩
  have HB := Aside0.mk hb
  clear hg hb
  go_wp2
  go_loopg [8] 16 (fun gk s8 w' => ∃ n : Nat, (n = 1 ∨ n = 2 ∨ n = 4 ∨ n = 8 ∨ n = 16) ∧ 16 - n ≤ gk ∧ s8 = .int .i64 n ∧ Aside0 (w'.heap[w.heap.size]? = some (.cells (fillN n).toArray 5 (0, 0))) ∧ Aside0 (Below w.heap.size w w'))
  case atStart => exact ⟨1, by omega, by omega, rfl, HG, HB⟩
  case round =>
    clear HG HB
    obtain ⟨n, hn, hgk, rfl, HG, HB⟩ := hrel
    by_cases h16 : n = 16
    · subst h16
      go_wp2
      go_ret
      exact ⟨rfl, HG.out, HB.out⟩
    · have hn2 : n + n ≤ 16 := by omega
      have hn1 : 1 ≤ n := by omega
      have hA : (n : Int) ≤ 16 := by omega
      have hB : ¬ 16 = n := by omega
      have HN := Aside0.mk hn
      clear hn
      go_wp2_with fail
      refine region [(0, .p), (1, .p), (2, .p), (3, .p), (4, .p), (5, .p), (6, .p), (7, .o), (8, .p), (9, .p)] (fun _ => True) (by kernel_rfl) (by kernel_rfl) (fun _ _ _ _ _ h => h) (trivial) (fun hHeld => ?_)
      iterate 7 (refine lex_p rfl rfl rfl (by intro w'; go_simp; with_reducible rfl) (by simp only [Act.put, List.setIfInBounds_toArray, List.set_cons_zero, List.set_cons_succ, i64_w, i32_w]; rfl) ?_)
      refine lex_o rfl ?_
      -- ONE 7 slot (some 45)
      have hg2 := Aside0.mk (show wr.drew.heap[w.heap.size]? = some (.cells (fillN n).toArray 5 (0, 0)) from HG.out)
      have hb2 := HB.out.drew
      generalize wr.drew = w2 at hg2 hb2 ⊢
      refine wpList_copy_splice rfl (.tmp 41) (.tmp 44) 22 22 rfl 5 Try.underlying22 size5 _ _ _ _ _ _ rfl rfl w.heap.size n _ 5 hg2.out (List.replicate n (.int .u8 255)) ?c1 ?c2 ?c3 ?c4 w.heap.size w hb2 (Nat.le_refl _) ?_
      case c1 => rw [List.length_replicate]; exact (Nat.min_eq_left (show n ≤ 16 - n by omega)).symm
      case c2 =>
        intro _
        refine ⟨rfl, _, rfl, fun j v hj => ?_⟩
        rw [List.getElem?_replicate] at hj
        split at hj
        · rename_i hjn
          injection hj with hj
          subst hj
          rw [add_plain, cell_of_row w2 _ _ _ _ _ hg2.out]
          simp [fillN, List.getElem?_append, hjn]
        · cases hj
      case c3 => simp [fillN]; omega
      case c4 =>
        intro v hv
        obtain ⟨_, rfl⟩ := List.mem_replicate.1 hv
        rfl
      intro w3 hg3 hb3
      have HG3 : Aside0 (w3.heap[w.heap.size]? = some (.cells (fillN (n + n)).toArray 5 (0, 0))) := ⟨by rw [← splice_fill n hn2]; exact hg3.out⟩
      have HB3 := Aside0.mk hb3
      have hl : (List.replicate n (Value.int .u8 255)).length = n := by simp
      rw [hl]
      clear hg3 hb3 hl hg2 hb2 HG HB
      refine lex_end (by simp only [Act.put, List.setIfInBounds_toArray, List.set_cons_zero, List.set_cons_succ, i64_w, i32_w]; rfl) trivial (fun hHeld => ?_)
      iterate 2 (refine lex_p rfl rfl rfl (by intro w'; go_simp; with_reducible rfl) (by simp only [Act.put, List.setIfInBounds_toArray, List.set_cons_zero, List.set_cons_succ, i64_w, i32_w]; rfl) ?_)
      refine lex_nil ?_
      go_wp2
      go_roundg (16 - (n + n))
      case measure => omega
      case rel => exact ⟨n + n, by have := HN.out; omega, by omega, by rw [IntWalk.wrap64_in _ ⟨by omega, by omega⟩]; go_num, HG3, HB3⟩

def PredC {α : Type} (P : Program) (g : Nat) (lb : Array Value) (enc : α → Value) (ok : α → Prop) (p : α → Bool) (w : World) : Prop :=
  ∀ (W : World) (x : α), Below w.heap.size w W → ok x → Calls P g (#[enc x] ++ lb) W fun e W' => e = .returned (.bool (p x)) ∧ Below W.heap.size W W'

def idxF (p : Int → Bool) : List Int → Int → Int
  | [], _ => -1
  | x :: xs, i => if p x then i else idxF p xs (i + 1)

theorem idxF_drop (p : Int → Bool) (xs : List Int) (k : Nat) (i : Int) (h : k < xs.length) : idxF p (xs.drop k) i = if p (xs.getD k 0) then i else idxF p (xs.drop (k+1)) (i+1) := by
  rw [List.drop_eq_getElem_cons h]
  simp [idxF, h]

set_option maxHeartbeats 1000000 in
theorem indexFunc (g : Nat) (lb : Array Value) (eg : ∀ args w, (callFunc g args).run Try.prog w = .ok (.enter g args) w) (p : Int → Bool) (A : Option Addr) (c : Nat) (xs : List Int) (w : World) (hp : PredC Try.prog g lb (Value.int .u8) (fun x => x ∈ xs) p w) (hx : Kd.C KB w A xs.length xs) :
   Calls Try.prog 48 #[.slice A xs.length c, .func (.func g) #[] lb] w fun e w' => e = .returned (.int .i64 (idxF p xs 0)) ∧ Below w.heap.size w w' := by
  have hl := hx.2.1
  have HP := Aside0.mk hp
  clear hp
  go_enter Try.func48, Try.ntmps48
  go_wp2
  go_loopg [8,5] xs.length (fun gk i i5 w' => ∃ k : Nat, k ≤ xs.length ∧ xs.length - k ≤ gk ∧ i = .int .i64 k ∧ Aside0 (idxF p xs 0 = idxF p (xs.drop k) k) ∧ Aside0 (Below w.heap.size w w'))
  case atStart => exact ⟨0, by omega, by omega, rfl, ⟨by simp⟩, ⟨Below.refl _ _⟩⟩
  case round =>
    obtain ⟨k, hk, hgk, rfl, hid, hb⟩ := hrel
    by_cases hlt : k < xs.length
    · obtain ⟨ab, ao, rfl, hcell⟩ := C_byte (Kd.C_below hx hb.out) k hlt
      have hd := Aside0.mk (idxF_drop p xs k k hlt)
      obtain ⟨y, hy⟩ : ∃ y, xs.getD k 0 = y := ⟨_, rfl⟩
      have hmem : y ∈ xs := by rw [← hy]; simp [hlt]
      rw [hy] at hcell hd
      have HC := HP.out wr y hb.out hmem
      clear hy hmem
      have hx' := Aside0.mk hx
      clear hx
      cases hq : p y with
      | true =>
        rw [hq] at HC hd
        simp only [if_true] at hd
        go_wp2_with fail
        refine HC.mono ?_
        rintro e w' ⟨rfl, hb2⟩
        go_wp2_with fail
        go_ret
        exact ⟨by rw [hid.out, hd.out]; rfl, hb.out.trans (hb2.mono (hb.out.size))⟩
      | false =>
        rw [hq] at HC hd
        simp only [Bool.false_eq_true, if_false] at hd
        go_wp2_with fail
        refine HC.mono ?_
        rintro e w' ⟨rfl, hb2⟩
        go_wp2_with fail
        go_roundg (gk - 1)
        case measure => omega
        case rel => exact ⟨k+1, by omega, by omega, by go_num, ⟨by rw [hid.out, hd.out]; rfl⟩, ⟨hb.out.trans (hb2.mono (hb.out.size))⟩⟩
    · obtain rfl : k = xs.length := by omega
      go_wp2
      go_ret
      exact ⟨by rw [hid.out]; simp [idxF], hb.out⟩

theorem idxF_any (p : Int → Bool) : ∀ (xs : List Int) (i : Int), 0 ≤ i → decide (idxF p xs i ≥ 0) = xs.any p
  | [], i, _ => by simp [idxF]
  | x :: xs, i, hi => by
    unfold idxF
    cases h : p x with
    | true => simp [h, hi]
    | false =>
      have ih := idxF_any p xs (i + 1) (by omega)
      simp only [Bool.false_eq_true, if_false, List.any_cons, h, Bool.false_or]
      exact ih
set_option maxHeartbeats 1000000 in
theorem containsFunc (g : Nat) (lb : Array Value) (eg : ∀ args w, (callFunc g args).run Try.prog w = .ok (.enter g args) w) (p : Int → Bool) (A : Option Addr) (c : Nat) (xs : List Int) (w : World) (hp : PredC Try.prog g lb (Value.int .u8) (fun x => x ∈ xs) p w) (hx : Kd.C KB w A xs.length xs) :
   Calls Try.prog 40 #[.slice A xs.length c, .func (.func g) #[] lb] w fun e w' => e = .returned (.bool (xs.any p)) ∧ Below w.heap.size w w' := by
  have HI := Aside0.mk (idxF_any p xs 0 (by omega))
  have HC := Aside0.mk (indexFunc g lb eg p A c xs w hp hx)
  clear hp hx eg
  go_enter Try.func40, Try.ntmps40
  go_wp2_with fail
  refine HC.out.mono ?_
  rintro e w' ⟨rfl, hb⟩
  have HB := Aside0.mk hb
  clear hb
  obtain ⟨r, hr⟩ : ∃ r, idxF p xs 0 = r := ⟨_, rfl⟩
  have HI2 : Aside0 (decide (0 ≤ r) = xs.any p) := ⟨by rw [← hr]; exact HI.out⟩
  rw [hr]
  clear HI HC hr
  go_wp2_with fail
  go_ret
  exact ⟨by rw [← HI2.out]; rfl, HB.out⟩
end Go.Proofs.Yteakiaedlfhceaa.Lib
