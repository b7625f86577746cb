/- slices.Backward at bytes: the iterator's contract, for bodies that may write the bytes. -/
import Derived.Test.YticilaoibjbgfaaWords07
import Derived.Test.YticilaoibjbgfaaMake
set_option linter.unusedSimpArgs false
set_option linter.unusedVariables false
namespace Go.Proofs.Yticilaoibjbgfaa.Lib
open Go.RowKit Go.Proofs.YticilaoibjbgfaaW.PrintWords Go.Proofs.YticilaoibjbgfaaW.PrintLast Go.Proofs.YticilaoibjbgfaaW.PrintMore Go.Proofs.Yticilaoibjbgfaa.Lex
attribute [local go_sem] Oper.semAt_some

/-- bytes stay bytes -/
structure Bytes (S : Nat → Prop) (A B : World) : Prop where
  kept : Kept S A B
  bytes : ∀ b j y, A.cell? ⟨b, j, none⟩ = some (.int .u8 y) → ∃ y', B.cell? ⟨b, j, none⟩ = some (.int .u8 y')
theorem Bytes.trans {S : Nat → Prop} {A B C : World} (h : Bytes S A B) (k : Bytes S B C) : Bytes S A C :=
  ⟨h.kept.trans k.kept, fun b j y hy => by obtain ⟨y', h1⟩ := h.bytes b j y hy; exact k.bytes b j y' h1⟩
theorem Bytes.turn {S : Nat → Prop} {W : World} {l : Nat} {o : Obj} (hl : W.heap[l]? = some o) (ho : o.isCells = false) (o' : Obj) : Bytes S W (W.putObj l o') :=
  ⟨Kept.turn hl ho o', fun b j y hy => ⟨y, by
    obtain ⟨q, h1, h2⟩ := block_of_cell hy
    rw [World.cell?_of_block (w := W) (a := ⟨b, j, none⟩) (turn_block hl ho o' h1 h2)]
    exact hy⟩⟩
theorem Bytes.store {S : Nat → Prop} {W : World} {g m : Nat} (y : Int) (hS : S g) : Bytes S W (W.setCell ⟨g, m, none⟩ (.int .u8 y)) :=
  ⟨Kept.but (But.setCell (But.refl W.heap.size S W) (p := ⟨g, m, none⟩) (.inr hS) _) (Nat.le_refl _), fun b j y0 hy => by
    by_cases h : (⟨g, m, none⟩ : Addr) = ⟨b, j, none⟩
    · rw [← h] at hy ⊢
      exact ⟨y, World.cell?_setCell_same W _ _ hy⟩
    · exact ⟨y0, by rw [World.cell?_setCell_other (h := h)]; exact hy⟩⟩
theorem Bytes.other {S : Nat → Prop} {W : World} {g m : Nat} {v0 : Value} (u : Value) (hS : S g) (hc : W.cell? ⟨g, m, none⟩ = some v0) (hne : ∀ y, v0 ≠ .int .u8 y) : Bytes S W (W.setCell ⟨g, m, none⟩ u) :=
  ⟨Kept.but (But.setCell (But.refl W.heap.size S W) (p := ⟨g, m, none⟩) (.inr hS) _) (Nat.le_refl _), fun b j y0 hy => by
    have h : (⟨g, m, none⟩ : Addr) ≠ ⟨b, j, none⟩ := fun h => by
      rw [← h, hc] at hy
      injection hy with hy
      exact hne y0 hy
    exact ⟨y0, by rw [World.cell?_setCell_other (h := h)]; exact hy⟩⟩
/-- what Backward hands out: an index below n, a byte -/
abbrev IxB (n : Nat) := { x : Int × Int // 0 ≤ x.1 ∧ x.1 < n }
/-- n - 1, .., n - k -/
def downTo (n k : Nat) : List Int := (List.range k).map (fun (j : Nat) => (n : Int) - 1 - (j : Int))
theorem downTo_succ (n k : Nat) : downTo n (k + 1) = downTo n k ++ [(n : Int) - 1 - k] := by simp [downTo, List.range_succ]

theorem backward (A : Option Addr) (n c : Nat) (w : World) : Calls Try.prog 50 #[.slice A n c] w fun e w' =>
    e = .returned (.func (.func 53) #[] #[.pointer (some ⟨w.heap.size, 0, none⟩)]) ∧ w.alloc (.cells #[.slice A n c] 30) = w' := by
  go_enter Try.func50, Try.ntmps50
  go_wp2
  go_ret
  exact ⟨rfl, rfl⟩
set_option maxRecDepth 100000 in
set_option maxHeartbeats 2000000 in
theorem back_seq {S : Nat → Prop} {n : Nat} (hn : 2 ≤ n) (Bs g o N c : Nat) (w : World) (hN : N ≤ 1000000)
    (hBs : w.cell? ⟨Bs, 0, none⟩ = some (.slice (some ⟨g, o, none⟩) N c)) (hc : ∀ j, j < N → ∃ y, w.cell? ⟨g, o + j, none⟩ = some (.int .u8 y)) (sBs : ¬ S Bs) :
    SeqB Fence.wide n Try.prog 53 #[.pointer (some ⟨Bs, 0, none⟩)] (fun x : IxB N => #[.int .i64 x.1.1, .int .u8 x.1.2]) (Bytes S) (fun _ A B => Below A.heap.size A B) (fun xs _ => xs.map (fun x => x.1.1) = downTo N N) (fun _ _ => True) 0 N w := by
  intro l J Jx W hW hJ hJx hY h0
  have c1 := pw_cell_below hW hBs
  have hcW : ∀ j, j < N → ∃ y, W.cell? ⟨g, o + j, none⟩ = some (.int .u8 y) := fun j hj => by
    obtain ⟨y, hy⟩ := hc j hj
    exact ⟨y, pw_cell_below hW hy⟩
  have HC := Aside0.mk hcW
  have HY := Aside0.mk hY
  clear hY hJ hJx hcW hW hBs hc
  refine callsIn_of_wp Try.func53 rfl trivial ?_ rfl
  simp only [Try.ntmps53, List.size_toArray, List.length_cons, List.length_nil, Nat.reduceAdd, Nat.reduceSub, Array.replicate_succ, Array.replicate_zero, List.push_toArray, List.append_toArray, List.nil_append, List.cons_append]
  gi_wp2
  gi_loopw [3] (fun s3 wr => ∃ (k : Nat) (pre : List (IxB N)), k ≤ N ∧ s3 = .int .i64 ((N : Int) - 1 - k) ∧ pre.length = k ∧ pre.map (fun x => x.1.1) = downTo N k ∧ J pre wr ∧ Aside0 (Bytes S W wr) ∧ wr.cell? ⟨Bs, 0, none⟩ = some (.slice (some ⟨g, o, none⟩) N c)) (fun s3 _ => (intOf s3 + 1).toNat)
  case atStart => exact ⟨0, [], Nat.zero_le _, by simp, rfl, by simp [downTo], h0, ⟨⟨Kept.refl _ _, fun b j y hy => ⟨y, hy⟩⟩⟩, c1⟩
  case round =>
    obtain ⟨k, pre, hk, rfl, hpl, hpm, hJs, HB, hcB⟩ := hrel
    by_cases hlt2 : k < N
    · obtain ⟨y0, hy0⟩ := HC.out (N - 1 - k) (by omega)
      obtain ⟨y, hy⟩ := HB.out.bytes _ _ _ hy0
      obtain ⟨i, hi⟩ : ∃ i : Nat, i = N - 1 - k := ⟨_, rfl⟩
      rw [← hi] at hy
      have hi2 : (N : Int) - 1 - k = (i : Int) := by omega
      have hin : (i : Int) < (N : Int) := by omega
      have hsz : W.heap.size ≤ wr.heap.size := HB.out.kept.size
      have hge : (0 : Int) ≤ (i : Int) := by omega
      obtain ⟨fn, tmps, assign, body, hyy, hR⟩ := HY.out pre ⟨((i : Int), y), hge, hin⟩ wr hJs (by omega) (by omega)
      rw [hi2]
      have HI := Aside0.mk hi
      have HPM := Aside0.mk hpm
      have HI2 := Aside0.mk hi2
      clear hi hi2 hy0 hpm
      gi_wp2
      refine ⟨fun hd => (by cases hd), ?_⟩
      refine hR.mono ?_
      rintro e W3 (⟨rfl, hJ3, hk3⟩ | ⟨rfl, hJx3⟩)
      · have hc3 := hk3.kept.cell hcB sBs
        gi_wp2
        go_roundw
        case rel => exact ⟨k + 1, pre ++ [⟨((i : Int), y), hge, hin⟩], by omega, (by have := HI2.out; show Value.int .i64 _ = Value.int .i64 _; congr 1; omega), by rw [List.length_append, hpl]; rfl, by rw [List.map_append, HPM.out, downTo_succ]; simp [HI2.out], hJ3, ⟨HB.out.trans hk3⟩, hc3⟩
        case measure => simp [intOf]
      · gi_wp2
        refine bodyPost_ret (results_none rfl _ _ _) rfl ?_
        exact ⟨⟨_, rfl⟩, .inr ⟨_, trivial, hJx3⟩⟩
    · obtain rfl : k = N := by omega
      have hz : ¬ (0 : Int) ≤ (k : Int) - 1 - (k : Int) := by omega
      gi_wp2
      go_end0
      exact ⟨⟨_, rfl⟩, .inl ⟨_, hpm, hJs⟩⟩
end Go.Proofs.Yticilaoibjbgfaa.Lib
