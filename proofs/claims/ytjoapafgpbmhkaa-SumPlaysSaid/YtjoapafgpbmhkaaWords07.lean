/- The words of bytes: the iterator's contract. -/
import Derived.Test.YtjoapafgpbmhkaaTurns
import Derived.WalkMore
import Derived.Laws.EntriesVeiled
set_option linter.unusedSimpArgs false
set_option linter.unusedVariables false
namespace Go.Proofs.Ytjoapafgpbmhkaa.Lib
open Go.RowKit Go.Proofs.YtjoapafgpbmhkaaW.PrintWords Go.Proofs.YtjoapafgpbmhkaaW.PrintLast Go.Proofs.YtjoapafgpbmhkaaW.PrintMore Go.Proofs.Ytjoapafgpbmhkaa.Lex
attribute [local go_sem] Oper.semAt_some

/-- Blocks of cells, but for some, hold what they held. -/
structure Kept (S : Nat → Prop) (A B : World) : Prop where
  size : A.heap.size ≤ B.heap.size
  same : ∀ k o, A.heap[k]? = some o → o.isCells = true → ¬ S k → B.heap[k]? = some o
theorem Kept.refl (S : Nat → Prop) (A : World) : Kept S A A := ⟨Nat.le_refl _, fun _ _ h _ _ => h⟩
theorem Kept.trans {S : Nat → Prop} {A B C : World} (h : Kept S A B) (k : Kept S B C) : Kept S A C := ⟨Nat.le_trans h.size k.size, fun i o hi ho hs => k.same i o (h.same i o hi ho hs) ho hs⟩
theorem Kept.mono {S S' : Nat → Prop} {A B : World} (h : Kept S A B) (hs : ∀ k, S k → S' k) : Kept S' A B := ⟨h.size, fun k o hk ho hn => h.same k o hk ho (fun q => hn (hs k q))⟩
theorem Kept.turn {S : Nat → Prop} {W : World} {l : Nat} {o : Obj} (hl : W.heap[l]? = some o) (ho : o.isCells = false) (o' : Obj) : Kept S W (W.putObj l o') :=
  ⟨by simp, fun k q hk hq _ => (turn_block hl ho o' hk hq).trans hk⟩
theorem Kept.but {n : Nat} {S : Nat → Prop} {A B : World} (h : But n S A B) (hn : A.heap.size ≤ n) : Kept S A B :=
  ⟨h.size, fun k o hk _ hs => (h.block k (by have := (Array.getElem?_eq_some_iff.1 hk).1; omega) hs).trans hk⟩
theorem Kept.cell {S : Nat → Prop} {A B : World} (h : Kept S A B) {a : Addr} {v : Value} (hc : A.cell? a = some v) (hs : ¬ S a.block) : B.cell? a = some v := by
  obtain ⟨o, h1, h2⟩ := block_of_cell hc
  rw [World.cell?_of_block (w := A) ((h.same _ o h1 h2 hs).trans h1.symm)]
  exact hc
theorem Kept.ob {S : Nat → Prop} {A B : World} (h : Kept S A B) {p : Nat} {c : Value} {cs : List Value} (hc : Ob p A (c :: cs)) (hs : ¬ S p) : Ob p B (c :: cs) := by
  obtain ⟨o, h1, h2⟩ := block_of_cell (hc 0 c rfl).1
  exact hc.same ((h.same _ o h1 h2 hs).trans h1.symm)

theorem C_kept {S : Nat → Prop} {A B : World} (h : Kept S A B) {a : Option Addr} {n : Nat} {xs : List Int} (hC : Kd.C KB A a n xs) (hs : ∀ p, a = some p → ¬ S p.block) : Kd.C KB B a n xs := by
  rcases Nat.eq_zero_or_pos n with h0 | h0
  · subst h0
    exact ⟨hC.1, hC.2.1, fun h => absurd h (Nat.lt_irrefl 0)⟩
  · refine C_same hC (fun p hp => ?_)
    obtain ⟨b, o, e, hc⟩ := C_byte hC 0 h0
    rw [hp] at e
    injection e with e
    subst e
    obtain ⟨q, h1, h2⟩ := block_of_cell hc
    exact (h.same _ q h1 h2 (hs _ hp)).trans h1.symm
theorem Kept.sl {S T : Nat → Prop} {A B : World} (h : Kept S A B) {v : Value} {xs : List Int} (hv : Sl T A v xs) (hs : ∀ k, T k → ¬ S k) : Sl T B v xs := by
  obtain ⟨a, c, e, h1, h2, h3⟩ := hv
  exact ⟨a, c, e, h1, C_kept h h2 (fun p hp => hs _ (h3 p hp)), h3⟩
def next1 (low : Bool) (c : Int) : Int := if low then c else c * 256
/-- the words of bytes, the first of which may be a lower one -/
def wordsOf : Bool → List Int → List Int
  | _, [] => []
  | low, c :: r => next1 low c :: wordsOf (!low) r
def lowAt : Bool → Nat → Bool
  | low, 0 => low
  | low, k + 1 => !(lowAt low k)
theorem wordsOf_len (low : Bool) (xs : List Int) : (wordsOf low xs).length = xs.length := by
  induction xs generalizing low with
  | nil => rfl
  | cons c r ih => simp [wordsOf, ih]
theorem lowAt_succ (low : Bool) (k : Nat) : lowAt (!low) k = !(lowAt low k) := by
  induction k with
  | zero => rfl
  | succ k ih => simp [lowAt, ih]
theorem wordsOf_take (low : Bool) (xs : List Int) (k : Nat) (hk : k < xs.length) : (wordsOf low xs).take (k + 1) = (wordsOf low xs).take k ++ [next1 (lowAt low k) (xs.getD k 0)] := by
  induction xs generalizing low k with
  | nil => simp at hk
  | cons c r ih =>
    cases k with
    | zero => simp [wordsOf, lowAt]
    | succ k =>
      simp only [wordsOf, List.take_succ_cons, List.cons_append, List.getD_cons_succ, List.cons.injEq, true_and]
      rw [ih (!low) k (by simpa using hk), lowAt_succ]
      rfl

theorem next44 (c : Int) (low : Bool) (h : Nat) (w : World) (hc : w.cell? ⟨h, 0, none⟩ = some (.bool low)) (hf : w.frozen? ⟨h, 0, none⟩ = false) (hb : 0 ≤ c ∧ c ≤ 255) :
    Calls Try.prog 44 #[.int .u8 c, .pointer (some ⟨h, 0, none⟩)] w fun e w' => e = .returned (.int .u64 (next1 low c)) ∧ w.setCell ⟨h, 0, none⟩ (.bool (!low)) = w' := by
  cases low
  · go_enter Try.func44, Try.ntmps44
    go_wp2
    go_ret
    exact ⟨rfl, rfl⟩
  · go_enter Try.func44, Try.ntmps44
    go_wp2
    go_ret
    exact ⟨rfl, rfl⟩

set_option maxRecDepth 100000 in
set_option maxHeartbeats 2000000 in
theorem words_seq {S : Nat → Prop} {n : Nat} (hn : 2 ≤ n) (Bo Bs : Nat) (odd : Bool) (A : Option Addr) (c : Nat) (xs : List Int) (w : World)
    (hBo : w.cell? ⟨Bo, 0, none⟩ = some (.bool odd)) (hBs : w.cell? ⟨Bs, 0, none⟩ = some (.slice A xs.length c)) (hC : Kd.C KB w A xs.length xs) (hb : ∀ x ∈ xs, 0 ≤ x ∧ x ≤ 255)
    (sBs : ¬ S Bs) (sA : 0 < xs.length → ∀ a, A = some a → ¬ S a.block) (sH : ∀ k, S k → k < w.heap.size) :
    SeqB Fence.wide n Try.prog 43 #[.pointer (some ⟨Bo, 0, none⟩), .pointer (some ⟨Bs, 0, none⟩)] (fun x : Int => #[.int .u64 x]) (Kept S) (fun h A B => But A.heap.size (fun k => k = h) A B) (fun ys _ => ys = wordsOf odd xs) (fun _ _ => True) 1 xs.length w := by
  intro l J Jx W hW hJ hJx hY h0
  have c0 := pw_cell_below hW hBo
  have c1 := pw_cell_below hW hBs
  have hCW := Kd.C_below hC hW
  have hlt : w.heap.size ≤ W.heap.size := hW.size
  have lBs : Bs < W.heap.size := World.block_lt_of_cell? W _ c1
  have HC := Aside0.mk hCW
  have HY := Aside0.mk hY
  have HJ := Aside0.mk hJ
  have HJx := Aside0.mk hJx
  have hmax := hC.2.1
  clear hY hJ hJx hCW hC hW hBo hBs
  obtain ⟨h, hh⟩ : ∃ h, W.heap.size = h := ⟨_, rfl⟩
  have c1' : ∀ o, (W.alloc o).cell? ⟨Bs, 0, none⟩ = some (.slice A xs.length c) := fun o => (World.cell?_alloc_past o Bs 0 lBs).trans c1
  rw [hh] at lBs
  refine callsIn_of_wp Try.func43 rfl trivial ?_ rfl
  simp only [Try.ntmps43, List.size_toArray, List.length_cons, List.length_nil, Nat.reduceAdd, Nat.reduceSub, Array.replicate_succ, Array.replicate_zero, List.push_toArray, List.append_toArray, List.nil_append, List.cons_append]
  refine (wpIn_wide (n := n)).2 (wp_scope_straight ((wpIn_wide (n := n)).1 ?_))
  gi_wp2
  apply wpIn_label
  gi_wp2
  gi_loopw [12] (fun s12 wr => ∃ k : Nat, k ≤ xs.length ∧ s12 = .int .i64 k ∧ J ((wordsOf odd xs).take k) wr ∧ Aside0 (Kept (fun k => S k ∨ k = h) W wr) ∧ Aside0 (Ob h wr [.bool (lowAt odd k)]) ∧ h + 1 ≤ wr.heap.size) (fun s12 _ => xs.length - (intOf s12).toNat)
  case atStart =>
    refine ⟨0, Nat.zero_le _, rfl, HJ.out _ _ _ h0 (But.of (below_alloc (Below.refl _ _) _) (Nat.le_refl _)), ⟨Kept.but (But.of (S := fun k => S k ∨ k = h) (below_alloc (Below.refl W.heap.size W) _) (Nat.le_refl _)) (Nat.le_refl _)⟩, ⟨?_⟩, by simp; omega⟩
    rw [← hh]
    exact Ob.new W [.bool odd] _ rfl _
  case round =>
    obtain ⟨k, hk, rfl, hJs, HK, HOB, hsz⟩ := hrel
    by_cases hlt2 : k < xs.length
    · have hCk := C_kept HK.out HC.out (fun p hp => fun q => q.elim (sA (by omega) p hp) (fun e => by
        obtain ⟨b, o, e2, hc2⟩ := C_byte HC.out 0 (by omega)
        rw [hp] at e2
        injection e2 with e2
        have := World.block_lt_of_cell? W _ hc2
        subst e2
        simp at e this
        omega))
      obtain ⟨b, o, rfl, hcell⟩ := C_byte hCk k hlt2
      have hby := hb (xs.getD k 0) (by rw [List.getD_eq_getElem?_getD, List.getElem?_eq_getElem hlt2]; exact List.getElem_mem hlt2)
      have htk := wordsOf_take odd xs k hlt2
      have hlk : ((wordsOf odd xs).take k).length < xs.length := by rw [List.length_take, wordsOf_len]; omega
      obtain ⟨q0, f0⟩ := HOB.out 0 _ rfl
      have HN := next44 (xs.getD k 0) (lowAt odd k) h wr q0 f0 hby
      have hOB2 := HOB.out.set 0 (by simp) (.bool (!lowAt odd k))
      obtain ⟨W2, hW2⟩ : ∃ W2, wr.setCell ⟨h, 0, none⟩ (.bool (!lowAt odd k)) = W2 := ⟨_, rfl⟩
      rw [hW2] at HN hOB2
      have hbut : But wr.heap.size (fun k => k = h) wr W2 := by rw [← hW2]; exact But.setCell (But.refl wr.heap.size (fun k => k = h) wr) (p := ⟨h, 0, none⟩) (.inr rfl) _
      obtain ⟨nx, hnx⟩ : ∃ nx, next1 (lowAt odd k) (xs.getD k 0) = nx := ⟨_, rfl⟩
      obtain ⟨cx, hcx⟩ : ∃ nx, xs.getD k 0 = nx := ⟨_, rfl⟩
      rw [hnx] at HN htk
      rw [hcx] at HN hcell
      obtain ⟨fn, tmps, assign, body, hy, hR⟩ := HY.out _ nx W2 (HJ.out _ wr W2 hJs (by rw [hh]; exact hbut)) hlk (by have := hbut.size; omega)
      have HK2 : Aside0 (Kept (fun k => S k ∨ k = h) W W2) := ⟨HK.out.trans ((Kept.but hbut (Nat.le_refl _)).mono (fun k q => .inr q))⟩
      have hsz2 : h + 1 ≤ W2.heap.size := Nat.le_trans hsz hbut.size
      have HOB2 : Aside0 (Ob h W2 [.bool (lowAt odd (k + 1))]) := ⟨hOB2⟩
      have HN := Aside0.mk HN
      have HT := Aside0.mk htk
      clear hCk hnx hcx hW2 hbut q0 f0 hby htk hOB2 HK HOB hlk
      gi_wp2
      refine ⟨trivial, fun hd => (by cases hd), ?_⟩
      refine (callsIn_wide.2 HN.out).mono ?_
      rintro e w' ⟨rfl, rfl⟩
      gi_wp2
      refine ⟨fun hd => (by cases hd), ?_⟩
      refine hR.mono ?_
      rintro e W3 (⟨rfl, hJ3, hk3⟩ | ⟨rfl, hJx3⟩)
      · gi_wp2
        go_roundw
        case rel => exact ⟨k + 1, by omega, by go_num, by rw [HT.out]; exact hJ3, ⟨HK2.out.trans (hk3.mono (fun k q => .inl q))⟩, ⟨hk3.ob HOB2.out (fun q => by have := sH h q; omega)⟩, Nat.le_trans hsz2 hk3.size⟩
        case measure => simp [intOf]; omega
      · gi_wp2
        rw [Exit.noGoto_normal]
        go_end0
        exact ⟨⟨_, rfl⟩, .inr ⟨_, trivial, hJx3⟩⟩
    · obtain rfl : k = xs.length := by omega
      gi_wp2
      rw [Exit.noGoto_normal]
      go_end0
      exact ⟨⟨_, rfl⟩, .inl ⟨_, rfl, by rw [List.take_of_length_le (by rw [wordsOf_len]; exact Nat.le_refl _)] at hJs; exact hJs⟩⟩
end Go.Proofs.Ytjoapafgpbmhkaa.Lib
