/- Contracts of high[N]: a number's bytes, the highest ahead. -/
import Derived.Test.YticilaoibjbgfaaBack
set_option linter.unusedSimpArgs false
set_option linter.unusedVariables false
namespace Go.Proofs.Yticilaoibjbgfaa.High
open Go.RowKit Go.Shelf Go.Proofs.YticilaoibjbgfaaW.PrintWords Go.Proofs.YticilaoibjbgfaaW.PrintLast Go.Proofs.YticilaoibjbgfaaW.PrintMore Go.Proofs.Yticilaoibjbgfaa.Lex Go.Proofs.Yticilaoibjbgfaa.Lib
attribute [local go_sem] Oper.semAt_some

/-- the rounds: where a byte is written, what is left of the number -/
def hi (is : List Int) (st : List Int × Nat) : List Int × Nat := is.foldl (fun st i => (st.1.set i.toNat ((st.2 % 256 : Nat) : Int), st.2 / 256)) st
theorem hi_snoc (is : List Int) (i : Int) (st : List Int × Nat) : hi (is ++ [i]) st = ((hi is st).1.set i.toNat (((hi is st).2 % 256 : Nat) : Int), (hi is st).2 / 256) := by simp [hi]
theorem hi_len (is : List Int) (st : List Int × Nat) : (hi is st).1.length = st.1.length := by
  induction is generalizing st with
  | nil => rfl
  | cons i r ih => 
    show (hi r _).1.length = _
    rw [ih]
    simp
theorem hi_le (is : List Int) (st : List Int × Nat) : (hi is st).2 ≤ st.2 := by
  induction is generalizing st with
  | nil => exact Nat.le_refl _
  | cons i r ih => 
    show (hi r _).2 ≤ _
    exact Nat.le_trans (ih _) (Nat.div_le_self _ _)
def high2 (v : Nat) : List Int := [((v / 256 % 256 : Nat) : Int), ((v % 256 : Nat) : Int)]
def high4 (v : Nat) : List Int := [((v / 16777216 % 256 : Nat) : Int), ((v / 65536 % 256 : Nat) : Int), ((v / 256 % 256 : Nat) : Int), ((v % 256 : Nat) : Int)]
theorem hi2 (v : Nat) : (hi (downTo 2 2) (zs 2, v)).1 = high2 v := by
  simp [hi, downTo, zs, high2, List.range_succ, List.replicate]
theorem hi4 (v : Nat) : (hi (downTo 4 4) (zs 4, v)).1 = high4 v := by
  simp [hi, downTo, zs, high4, List.range_succ, List.replicate, Nat.div_div_eq_div_mul]
/-- four new blocks: a number's box, a row of noughts, two boxes of it -/
theorem laid (w : World) (a : Value) (N : Nat) (hN : N ≤ 1000) (t0 t2 t3 : Nat) : ∃ W, W = (((w.alloc (.cells #[a] t0)).alloc (.cells (zc N).toArray 5)).alloc (.cells #[.slice (some ⟨w.heap.size + 1, 0, none⟩) N N] t2)).alloc (.cells #[.slice (some ⟨w.heap.size + 1, 0, none⟩) N N] t3) ∧
    Ob w.heap.size W [a] ∧ OB (w.heap.size + 1) W (.slice (some ⟨w.heap.size + 1, 0, none⟩) N N) (zs N) ∧ Ob (w.heap.size + 2) W [.slice (some ⟨w.heap.size + 1, 0, none⟩) N N] ∧ Ob (w.heap.size + 3) W [.slice (some ⟨w.heap.size + 1, 0, none⟩) N N] ∧ Below w.heap.size w W ∧ W.heap.size = w.heap.size + 4 := by
  obtain ⟨w1, e1⟩ : ∃ w1, w1 = w.alloc (.cells #[a] t0) := ⟨_, rfl⟩
  have s1 : w1.heap.size = w.heap.size + 1 := by rw [e1]; simp
  have o0 : Ob w.heap.size w1 [a] := by rw [e1]; exact Ob.new w [a] _ rfl t0
  have b1 : Below w.heap.size w w1 := by rw [e1]; exact below_alloc (Below.refl _ _) _
  obtain ⟨w2, e2⟩ : ∃ w2, w2 = w1.alloc (.cells (zc N).toArray 5) := ⟨_, rfl⟩
  have s2 : w2.heap.size = w.heap.size + 2 := by rw [e2]; simp [s1]
  have b2 : Below w1.heap.size w1 w2 := by rw [e2]; exact below_alloc (Below.refl _ _) _
  have o1 : OB (w.heap.size + 1) w2 (.slice (some ⟨w.heap.size + 1, 0, none⟩) N N) (zs N) := by
    have h := OB.lit (b := w.heap.size + 1) w1 (zs N) (zc N) (zs_nums N) N (zs_len N).symm (by omega) (by rw [zs_len]; omega)
    rw [s1] at h
    rw [e2]
    exact h
  obtain ⟨w3, e3⟩ : ∃ w3, w3 = w2.alloc (.cells #[.slice (some ⟨w.heap.size + 1, 0, none⟩) N N] t2) := ⟨_, rfl⟩
  have s3 : w3.heap.size = w.heap.size + 3 := by rw [e3]; simp [s2]
  have b3 : Below w2.heap.size w2 w3 := by rw [e3]; exact below_alloc (Below.refl _ _) _
  have o2 : Ob (w.heap.size + 2) w3 [.slice (some ⟨w.heap.size + 1, 0, none⟩) N N] := by rw [e3, ← s2]; exact Ob.new w2 _ _ rfl t2
  obtain ⟨w4, e4⟩ : ∃ w4, w4 = w3.alloc (.cells #[.slice (some ⟨w.heap.size + 1, 0, none⟩) N N] t3) := ⟨_, rfl⟩
  have s4 : w4.heap.size = w.heap.size + 4 := by rw [e4]; simp [s3]
  have b4 : Below w3.heap.size w3 w4 := by rw [e4]; exact below_alloc (Below.refl _ _) _
  have o3 : Ob (w.heap.size + 3) w4 [.slice (some ⟨w.heap.size + 1, 0, none⟩) N N] := by rw [e4, ← s3]; exact Ob.new w3 _ _ rfl t3
  refine ⟨w4, by rw [e4, e3, e2, e1], ((o0.below b2 (by omega)).below b3 (by omega)).below b4 (by omega), (o1.below b3).below b4, o2.below b4 (by omega), o3, ((b1.trans (b2.mono (by omega))).trans (b3.mono (by omega))).trans (b4.mono (by omega)), s4⟩

set_option maxRecDepth 100000 in
set_option maxHeartbeats 4000000 in
theorem high_uint32 (v : Nat) (w : World) (hv : v ≤ 4294967295) :
    Calls Try.prog 29 #[.int .u32 v, .int .i64 4] w fun e w' => ∃ u, e = .returned u ∧ OB w.heap.size w' u (high4 v) ∧ Below w.heap.size w w' := by
  have hmk : ∀ w, (Instr.makeSlice 30 (.int .i64 4) (.int .i64 4)).run Try.prog w = .ok (.slice (some ⟨w.heap.size, 0, none⟩) 4 4) (w.alloc (.cells (zc 4).toArray 5)) := make_bytes 4 (by decide)
  refine (callsIn_wide (n := 5)).1 ?_
  refine callsIn_of_wp_marks Try.func29 rfl trivial ?_ rfl
  simp only [Try.ntmps29, List.size_toArray, List.length_cons, List.length_nil, Nat.reduceAdd, Nat.reduceSub, Array.replicate_succ, Array.replicate_zero, List.push_toArray, List.append_toArray, List.nil_append, List.cons_append]
  gi_wp2_with fail
  refine ⟨trivial, ?_⟩
  refine (callsIn_wide.2 (backward _ 4 4 _)).mono ?_
  rintro e w2 ⟨rfl, hw2⟩
  obtain ⟨W0, e0, o0, o1, o2, o3, hB0, hs0⟩ := laid w (.int .u32 v) 4 (by decide) 22 30 30
  have e5 : w2 = W0 := by rw [← hw2, e0]
  have hbk : (((w.alloc (.cells #[.int .u32 v] 22)).alloc (.cells (zc 4).toArray 5)).alloc (.cells #[.slice (some ⟨w.heap.size + 1, 0, none⟩) 4 4] 30)).heap.size = w.heap.size + 3 := by simp
  rw [e5]
  rw [hbk]
  clear e5 e0 hw2 hbk
  gi_wp2_with fail
  refine rangeB (F := Fence.wide) rfl (by decide) (gf := 53) (lb := #[.pointer (some ⟨w.heap.size + 3, 0, none⟩)]) rfl trivial (enters_of Try.func53 (by kernel_rfl) rfl)
    (back_seq (S := fun k => k = w.heap.size ∨ k = w.heap.size + 1) (n := 4) (by decide) (w.heap.size + 3) (w.heap.size + 1) 0 4 4 W0 (by decide) (o3 0 _ rfl).1 (fun j hj => ⟨_, by rw [Nat.zero_add]; exact (o1.cell j hj).1⟩) (by omega))
    (fun h A B hk k o hkh hA hc => (hk.block k (Array.getElem?_eq_some_iff.1 hA).1).trans hA)
    (fun h k => h.trans k) (fun W l o o' _ hl ho => Bytes.turn hl ho o') (fun _ => rfl)
    (fun pre W => OB (w.heap.size + 1) W (.slice (some ⟨w.heap.size + 1, 0, none⟩) 4 4) (hi (pre.map (fun x => x.1.1)) (zs 4, v)).1 ∧ Ob w.heap.size W [.int .u32 (hi (pre.map (fun x => x.1.1)) (zs 4, v)).2] ∧ Ob (w.heap.size + 2) W [.slice (some ⟨w.heap.size + 1, 0, none⟩) 4 4] ∧ Below w.heap.size w W ∧ w.heap.size + 4 ≤ W.heap.size)
    (fun _ _ _ => False) ?hI (fun _ _ _ _ h _ => h.elim) ?tI (fun _ _ _ _ _ _ h _ _ _ => h.elim) (fun _ _ _ _ _ h _ _ _ => h) (fun _ _ _ _ _ h _ _ _ => h) ?h0 ?a1 ?assign ?body ?done ?stop
  case assign =>
    intro l x W K hK
    gi_wp2
    exact hK
  case hI =>
    rintro pre U V ⟨a1, a2, a3, a4, a5⟩ hk
    exact ⟨a1.below hk, a2.below hk a2.lt, a3.below hk a3.lt, a4.trans (hk.mono (by omega)), Nat.le_trans a5 hk.size⟩
  case tI =>
    rintro pre W l o o' ⟨a1, a2, a3, a4, a5⟩ hl hlo ho
    exact ⟨a1.turn hlo ho o', a2.turn hlo ho o', a3.turn hlo ho o', Go.Proofs.Yticilaoibjbgfaa.Lib.Below.turn a4 (by omega) o', by simp; exact a5⟩
  case h0 =>
    intro W hW hWs
    exact ⟨o1.below hW, o0.below hW (by omega), o2.below hW (by omega), hB0.trans (hW.mono (by omega)), by omega⟩
  case body =>
    rintro l pre x W ⟨a1, a2, a3, a4, a5⟩ _ _
    have h1 := x.2.1
    have h2 := x.2.2
    obtain ⟨m, hm⟩ : ∃ m : Nat, x.1.1 = m := ⟨x.1.1.toNat, by omega⟩
    rw [hm] at h1 h2 ⊢
    have hle := hi_le (pre.map (fun x => x.1.1)) (zs 4, v)
    obtain ⟨⟨ys, u⟩, hq⟩ : ∃ q, hi (pre.map (fun x => x.1.1)) (zs 4, v) = q := ⟨_, rfl⟩
    have HQ := Aside0.mk hq
    simp only [hq] at a1 a2 hle
    obtain ⟨q0, f0⟩ := a2 0 _ rfl
    obtain ⟨q5, _⟩ := a3 0 _ rfl
    obtain ⟨qc, fc⟩ := a1.cell m (by omega)
    obtain ⟨yc, hyc⟩ : ∃ yc, ys.getD m 0 = yc := ⟨_, rfl⟩
    rw [hyc] at qc
    have hmN : m < 4 := by omega
    have A1 := Aside0.mk a1
    have A2 := Aside0.mk a2
    have A3 := Aside0.mk a3
    have HM := Aside0.mk hm
    clear hq a1 a2 a3 hyc h1 hm o0 o1 o2 o3
    have e := hi_snoc (pre.map (fun x => x.1.1)) x.1.1 (zs 4, v)
    rw [HQ.out, HM.out] at e
    have HE := Aside0.mk e
    clear e
    gi_wp2
    have B1 := A1.out.put m ((u : Int) % 256)
    have B2 := A2.out.far (q := ⟨w.heap.size + 1, m, none⟩) (by simp) (.int .u8 ((u : Int) % 256))
    have B3 := (A3.out.far (q := ⟨w.heap.size + 1, m, none⟩) (by simp) (.int .u8 ((u : Int) % 256))).far (q := ⟨w.heap.size, 0, none⟩) (by simp) (.int .u32 ((u : Int) / 256))
    have B4 := B2.set 0 (by simp) (.int .u32 ((u : Int) / 256))
    have B5 := B1.far (p := ⟨w.heap.size, 0, none⟩) (by show w.heap.size < w.heap.size + 1; omega) (.int .u32 ((u : Int) / 256))
    refine ⟨(KeepsOthers.setCell _ _ _).trans (KeepsOthers.setCell _ _ _), (Bytes.store _ (.inr rfl)).trans (Bytes.other _ (.inl rfl) (B2 0 _ rfl).1 (fun y h => by cases h)), ?_, ?_, B3, (a4.setCell (p := ⟨w.heap.size + 1, m, none⟩) (by simp) _).setCell (p := ⟨w.heap.size, 0, none⟩) (Nat.le_refl _) _, by simp [World.setCell]; exact a5⟩
    · rw [List.map_append, show List.map (fun x : IxB 4 => x.1.1) [x] = [x.1.1] from rfl, HM.out, HE.out]
      exact B5
    · rw [List.map_append, show List.map (fun x : IxB 4 => x.1.1) [x] = [x.1.1] from rfl, HM.out, HE.out]
      exact B4
  case done =>
    rintro D ys W hD hS ⟨a1, a2, a3, a4, a5⟩ hK
    rw [hS, hi4] at a1
    obtain ⟨q5, _⟩ := a3 0 _ rfl
    have A1 := Aside0.mk a1
    have HK := Aside0.mk hK
    clear a1 a2 a3 o0 o1 o2 o3 hK
    gi_wp2
    have hK2 := HK.out
    have hD2 : w.heap.size ≤ D := by rw [hD, hs0]; omega
    refine ⟨by simp, .inl ⟨_, _, rfl, run_takeDeferred hK2, ?_⟩⟩
    exact ⟨_, results_tmp rfl _ _ _, _, rfl, (A1.out.turn hK2 rfl _).lower (b' := w.heap.size) (by omega), Go.Proofs.Yticilaoibjbgfaa.Lib.Below.turn a4 hD2 _⟩
  case stop =>
    rintro D c pre W _ _ h _
    exact h.elim

set_option maxRecDepth 100000 in
set_option maxHeartbeats 4000000 in
theorem high_uint16 (v : Nat) (w : World) (hv : v ≤ 65535) :
    Calls Try.prog 27 #[.int .u16 v, .int .i64 2] w fun e w' => ∃ u, e = .returned u ∧ OB w.heap.size w' u (high2 v) ∧ Below w.heap.size w w' := by
  have hmk : ∀ w, (Instr.makeSlice 30 (.int .i64 2) (.int .i64 2)).run Try.prog w = .ok (.slice (some ⟨w.heap.size, 0, none⟩) 2 2) (w.alloc (.cells (zc 2).toArray 5)) := make_bytes 2 (by decide)
  refine (callsIn_wide (n := 5)).1 ?_
  refine callsIn_of_wp_marks Try.func27 rfl trivial ?_ rfl
  simp only [Try.ntmps27, List.size_toArray, List.length_cons, List.length_nil, Nat.reduceAdd, Nat.reduceSub, Array.replicate_succ, Array.replicate_zero, List.push_toArray, List.append_toArray, List.nil_append, List.cons_append]
  gi_wp2_with fail
  refine ⟨trivial, ?_⟩
  refine (callsIn_wide.2 (backward _ 2 2 _)).mono ?_
  rintro e w2 ⟨rfl, hw2⟩
  obtain ⟨W0, e0, o0, o1, o2, o3, hB0, hs0⟩ := laid w (.int .u16 v) 2 (by decide) 23 30 30
  have e5 : w2 = W0 := by rw [← hw2, e0]
  have hbk : (((w.alloc (.cells #[.int .u16 v] 23)).alloc (.cells (zc 2).toArray 5)).alloc (.cells #[.slice (some ⟨w.heap.size + 1, 0, none⟩) 2 2] 30)).heap.size = w.heap.size + 3 := by simp
  rw [e5]
  rw [hbk]
  clear e5 e0 hw2 hbk
  gi_wp2_with fail
  refine rangeB (F := Fence.wide) rfl (by decide) (gf := 53) (lb := #[.pointer (some ⟨w.heap.size + 3, 0, none⟩)]) rfl trivial (enters_of Try.func53 (by kernel_rfl) rfl)
    (back_seq (S := fun k => k = w.heap.size ∨ k = w.heap.size + 1) (n := 4) (by decide) (w.heap.size + 3) (w.heap.size + 1) 0 2 2 W0 (by decide) (o3 0 _ rfl).1 (fun j hj => ⟨_, by rw [Nat.zero_add]; exact (o1.cell j hj).1⟩) (by omega))
    (fun h A B hk k o hkh hA hc => (hk.block k (Array.getElem?_eq_some_iff.1 hA).1).trans hA)
    (fun h k => h.trans k) (fun W l o o' _ hl ho => Bytes.turn hl ho o') (fun _ => rfl)
    (fun pre W => OB (w.heap.size + 1) W (.slice (some ⟨w.heap.size + 1, 0, none⟩) 2 2) (hi (pre.map (fun x => x.1.1)) (zs 2, v)).1 ∧ Ob w.heap.size W [.int .u16 (hi (pre.map (fun x => x.1.1)) (zs 2, v)).2] ∧ Ob (w.heap.size + 2) W [.slice (some ⟨w.heap.size + 1, 0, none⟩) 2 2] ∧ Below w.heap.size w W ∧ w.heap.size + 4 ≤ W.heap.size)
    (fun _ _ _ => False) ?hI (fun _ _ _ _ h _ => h.elim) ?tI (fun _ _ _ _ _ _ h _ _ _ => h.elim) (fun _ _ _ _ _ h _ _ _ => h) (fun _ _ _ _ _ h _ _ _ => h) ?h0 ?a1 ?assign ?body ?done ?stop
  case assign =>
    intro l x W K hK
    gi_wp2
    exact hK
  case hI =>
    rintro pre U V ⟨a1, a2, a3, a4, a5⟩ hk
    exact ⟨a1.below hk, a2.below hk a2.lt, a3.below hk a3.lt, a4.trans (hk.mono (by omega)), Nat.le_trans a5 hk.size⟩
  case tI =>
    rintro pre W l o o' ⟨a1, a2, a3, a4, a5⟩ hl hlo ho
    exact ⟨a1.turn hlo ho o', a2.turn hlo ho o', a3.turn hlo ho o', Go.Proofs.Yticilaoibjbgfaa.Lib.Below.turn a4 (by omega) o', by simp; exact a5⟩
  case h0 =>
    intro W hW hWs
    exact ⟨o1.below hW, o0.below hW (by omega), o2.below hW (by omega), hB0.trans (hW.mono (by omega)), by omega⟩
  case body =>
    rintro l pre x W ⟨a1, a2, a3, a4, a5⟩ _ _
    have h1 := x.2.1
    have h2 := x.2.2
    obtain ⟨m, hm⟩ : ∃ m : Nat, x.1.1 = m := ⟨x.1.1.toNat, by omega⟩
    rw [hm] at h1 h2 ⊢
    have hle := hi_le (pre.map (fun x => x.1.1)) (zs 2, v)
    obtain ⟨⟨ys, u⟩, hq⟩ : ∃ q, hi (pre.map (fun x => x.1.1)) (zs 2, v) = q := ⟨_, rfl⟩
    have HQ := Aside0.mk hq
    simp only [hq] at a1 a2 hle
    obtain ⟨q0, f0⟩ := a2 0 _ rfl
    obtain ⟨q5, _⟩ := a3 0 _ rfl
    obtain ⟨qc, fc⟩ := a1.cell m (by omega)
    obtain ⟨yc, hyc⟩ : ∃ yc, ys.getD m 0 = yc := ⟨_, rfl⟩
    rw [hyc] at qc
    have hmN : m < 2 := by omega
    have A1 := Aside0.mk a1
    have A2 := Aside0.mk a2
    have A3 := Aside0.mk a3
    have HM := Aside0.mk hm
    clear hq a1 a2 a3 hyc h1 hm o0 o1 o2 o3
    have e := hi_snoc (pre.map (fun x => x.1.1)) x.1.1 (zs 2, v)
    rw [HQ.out, HM.out] at e
    have HE := Aside0.mk e
    clear e
    gi_wp2
    have B1 := A1.out.put m ((u : Int) % 256)
    have B2 := A2.out.far (q := ⟨w.heap.size + 1, m, none⟩) (by simp) (.int .u8 ((u : Int) % 256))
    have B3 := (A3.out.far (q := ⟨w.heap.size + 1, m, none⟩) (by simp) (.int .u8 ((u : Int) % 256))).far (q := ⟨w.heap.size, 0, none⟩) (by simp) (.int .u16 ((u : Int) / 256))
    have B4 := B2.set 0 (by simp) (.int .u16 ((u : Int) / 256))
    have B5 := B1.far (p := ⟨w.heap.size, 0, none⟩) (by show w.heap.size < w.heap.size + 1; omega) (.int .u16 ((u : Int) / 256))
    refine ⟨(KeepsOthers.setCell _ _ _).trans (KeepsOthers.setCell _ _ _), (Bytes.store _ (.inr rfl)).trans (Bytes.other _ (.inl rfl) (B2 0 _ rfl).1 (fun y h => by cases h)), ?_, ?_, B3, (a4.setCell (p := ⟨w.heap.size + 1, m, none⟩) (by simp) _).setCell (p := ⟨w.heap.size, 0, none⟩) (Nat.le_refl _) _, by simp [World.setCell]; exact a5⟩
    · rw [List.map_append, show List.map (fun x : IxB 2 => x.1.1) [x] = [x.1.1] from rfl, HM.out, HE.out]
      exact B5
    · rw [List.map_append, show List.map (fun x : IxB 2 => x.1.1) [x] = [x.1.1] from rfl, HM.out, HE.out]
      exact B4
  case done =>
    rintro D ys W hD hS ⟨a1, a2, a3, a4, a5⟩ hK
    rw [hS, hi2] at a1
    obtain ⟨q5, _⟩ := a3 0 _ rfl
    have A1 := Aside0.mk a1
    have HK := Aside0.mk hK
    clear a1 a2 a3 o0 o1 o2 o3 hK
    gi_wp2
    have hK2 := HK.out
    have hD2 : w.heap.size ≤ D := by rw [hD, hs0]; omega
    refine ⟨by simp, .inl ⟨_, _, rfl, run_takeDeferred hK2, ?_⟩⟩
    exact ⟨_, results_tmp rfl _ _ _, _, rfl, (A1.out.turn hK2 rfl _).lower (b' := w.heap.size) (by omega), Go.Proofs.Yticilaoibjbgfaa.Lib.Below.turn a4 hD2 _⟩
  case stop =>
    rintro D c pre W _ _ h _
    exact h.elim
end Go.Proofs.Yticilaoibjbgfaa.High
