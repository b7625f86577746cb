/- Contract of Hash.Write. -/
import Derived.Test.YtfeohojpjncgaaaBlocks01
import Derived.Test.YtfeohojpjncgaaaRangeX
import Derived.Test.YtfeohojpjncgaaaRound
set_option linter.unusedSimpArgs false
set_option linter.unusedVariables false
namespace Go.Proofs.Ytfeohojpjncgaaa.Sha
open Go.RowKit Go.Proofs.YtfeohojpjncgaaaW.PrintWords Go.Proofs.YtfeohojpjncgaaaW.PrintLast Go.Proofs.YtfeohojpjncgaaaW.PrintMore Go.Proofs.Ytfeohojpjncgaaa.PSha1Plays Go.Proofs.Ytfeohojpjncgaaa.Lex Go.Proofs.Ytfeohojpjncgaaa.Lib
attribute [local go_sem] Oper.semAt_some
theorem blocksF (p : Nat) (A : Option Addr) (n c : Nat) (w : World) : Calls Try.prog 38 #[ptr p, .slice A n c] w fun e w' =>
    e = .returned (.func (.func 46) #[] #[ptr w.heap.size, ptr (w.heap.size + 1)]) ∧ Ob w.heap.size w' [ptr p] ∧ Ob (w.heap.size + 1) w' [.slice A n c] ∧ Below w.heap.size w w' ∧ w'.heap.size = w.heap.size + 2 := by
  go_enter Try.func38, Try.ntmps38
  go_wp2
  go_ret
  have h0 := Ob.new w [ptr p] _ rfl 94
  have h1 := Ob.new (w.alloc (.cells #[ptr p] 94)) [.slice A n c] _ rfl 22
  rw [show (w.alloc (.cells #[ptr p] 94)).heap.size = w.heap.size + 1 by simp] at h1
  exact ⟨rfl, h0.below (below_alloc (Below.refl _ _) _) (by simp), h1, below_alloc (below_alloc (Below.refl _ _) _) _, by simp⟩
theorem noneO {p : Nat} {w : World} (c7 : w.cell? ⟨p, 7, none⟩ = some (.bool true)) : Calls Try.prog 37 #[ptr p] w fun e w' => e = .returned (.bool false) ∧ w = w' := by
  go_enter Try.func37, Try.ntmps37
  go_wp2
  go_ret
  exact ⟨rfl, rfl⟩
theorem keeps_but {p : Nat} {A B : World} (h : But A.heap.size (at1 p) A B) (hp : ∀ o, A.heap[p]? = some o → o.isCells = false → B.heap[p]? = some o) : KeepsOthers A B := by
  refine ⟨h.size, fun k o hk ho => ?_⟩
  by_cases e : k = p
  · subst e; exact hp o hk ho
  · exact (h.block k (Array.getElem?_eq_some_iff.1 hk).1 e).trans hk
theorem ob_next {p : Nat} {w : World} {v : Value} (h : Ob p w [v]) (j : Nat) (u : Value) : Ob p (w.setCell ⟨p, j + 1, none⟩ u) [v] := fun i x hi => by
  match i, hi with
  | 0, hi =>
    obtain ⟨h1, h2⟩ := h 0 x hi
    rw [World.frozen?_setCell, World.cell?_setCell_other (h := by intro e; injection e with _ e _; omega)]
    exact ⟨h1, h2⟩
def foldB (st : St) (l : List Blk) : St := l.foldl (fun s b => block s b.1) st
theorem foldB_snoc (st : St) (l : List Blk) (b : Blk) : foldB st (l ++ [b]) = block (foldB st l) b.1 := by simp [foldB]
theorem foldB_ok (st : St) (h : st.ok) (l : List Blk) : (foldB st l).ok := by
  induction l generalizing st with
  | nil => exact h
  | cons b r ih =>
    simp only [foldB, List.foldl_cons] at ih ⊢
    exact ih _ (block_ok _ _)
theorem KP.trans {p : Nat} {A B C : World} (h : KP p A B) (k : KP p B C) : KP p A C := ⟨h.1.trans k.1, fun v hv => k.2 v (h.2 v hv)⟩
theorem KA.obj {p h : Nat} {A B : World} (hk : KA p h A B) {k : Nat} {o : Obj} (hA : A.heap[k]? = some o) (ho : o.isCells = false) : B.heap[k]? = some o := by
  by_cases e : k = p
  · subst e
    exact hk.2.2 o hA ho
  · exact (hk.1.block k (Array.getElem?_eq_some_iff.1 hA).1 e).trans hA
set_option maxRecDepth 100000 in
set_option maxHeartbeats 4000000 in
theorem hWrite {S : Nat → Prop} {p : Nat} {xs : List Int} {st : St} {n : Nat} (A : Option Addr) (c : Nat) (ys : List Int) (w : World) (h : Hs S p w xs st n) (hst : st.ok) (hx : Kd.C KB w A ys.length ys) (hc : ys.length ≤ c) (hb : Byt (xs ++ ys)) (hl : xs.length + ys.length ≤ 4000000) (hn : n ≤ 100000000) :
    Calls Try.prog 25 #[ptr p, .slice A ys.length c] w fun e w' => e = .returned (.int .i64 0) ∧ Hs (SB w.heap.size w'.heap.size) p w' (rest (xs ++ ys)) (foldB st (bls (xs ++ ys))) (n + ys.length) ∧ But w.heap.size (at1 p) w w' := by
  have hp := h.lt
  obtain ⟨v, h1, A0, c0, rfl, hc0, hC0, _⟩ := h
  have H := Aside0.mk h1
  have HX := Aside0.mk hx
  have HC0 := Aside0.mk hC0
  have HBZ := Aside0.mk hb
  have HST := Aside0.mk hst
  have c7 := (h1 7 _ rfl).1
  clear h1 hx hC0 hb hst
  refine (callsIn_wide (n := 5)).1 ?_
  refine callsIn_of_wp_marks Try.func25 rfl trivial ?_ rfl
  simp only [Try.ntmps25, List.size_toArray, List.length_cons, List.length_nil, Nat.reduceAdd, Nat.reduceSub, Array.replicate_succ, Array.replicate_zero, List.push_toArray, List.append_toArray, List.nil_append, List.cons_append]
  gi_wp2_with fail
  have hbox := Ob.new w [ptr p] #[ptr p] rfl 58
  have hbb : Below w.heap.size w (w.alloc (.cells #[ptr p] 58)) := below_alloc (Below.refl _ _) _
  refine ⟨trivial, ?_⟩
  refine (callsIn_wide.2 (noneO (p := p) (H.out.below hbb hp 7 _ rfl).1)).mono ?_
  rintro e w' ⟨rfl, rfl⟩
  gi_wp2_with fail
  refine ⟨trivial, ?_⟩
  refine (callsIn_wide.2 (blocksF p A ys.length c _)).mono ?_
  rintro e w2 ⟨rfl, o1, o2, hb2, hsz⟩
  have hbs : (w.alloc (.cells #[ptr p] 58)).heap.size = w.heap.size + 1 := by simp
  rw [hbs] at o1 o2 hb2 hsz ⊢
  have hB2 : Below w.heap.size w w2 := hbb.trans (hb2.mono (by omega))
  have hp2 := H.out.below hB2 hp
  have hbox2 := hbox.below hb2 (by omega)
  have hX2 := Kd.C_below HX.out hB2
  have hC2 := Kd.C_below HC0.out hB2
  have hpre : Ob p w2 [.slice A0 xs.length c0] := fun i v hi => by
    match i, hi with
    | 0, hi => exact hp2 0 v hi
  gi_wp2_with fail
  refine rangeX (F := Fence.wide) rfl (by decide) (gf := 46) (lb := #[ptr (w.heap.size + 1), ptr (w.heap.size + 1 + 1)]) rfl trivial (enters_of Try.func46 (by kernel_rfl) rfl)
    (blocks_seq (n := 4) (by decide) (w.heap.size + 1) (w.heap.size + 1 + 1) p A c ys A0 c0 xs w2 (o1 0 _ rfl).1 (o2 0 _ rfl).1 hc hX2 hpre hc0 hC2 (by omega) (by omega) hl HBZ.out)
    (fun h A B hk k o hkh hA hc => hk.obj hA hc) KP.trans (fun W l o o' _ hl ho => ⟨Kept.turn hl ho o', fun v hv => hv.turn hl ho o'⟩) (fun _ => rfl)
    (fun pre W => (∃ v, Ob p W (hv v (foldB st pre) n)) ∧ Ob w.heap.size W [ptr p] ∧ But w.heap.size (at1 p) w W ∧ w.heap.size + 5 ≤ W.heap.size)
    (fun _ _ _ => False) ?hI (fun _ _ _ _ h _ => h.elim) ?tI (fun _ _ _ _ _ _ h _ _ _ => h.elim) ?tSf (fun _ _ _ _ _ h _ _ _ => h) ?h0
    (fun x a' W => ∃ g bx, a' = { tmps := #[ptr p, .slice A ys.length c, ptr w.heap.size, undef, .int .i64 0, ptr g, ptr p, .bool false, ptr p, ptr p, ptr p, .slice A ys.length c, .func (.func 46) #[] #[ptr (w.heap.size + 1), ptr (w.heap.size + 1 + 1)], .agg bx, undef, undef, undef, undef, undef, undef, undef, undef, undef, undef, undef, undef, undef, undef, undef, undef, undef, undef], defers := [] } ∧ bx = (x.1.map (Value.int .u8)).toArray ∧ W.heap[g]? = some (Obj.cells bx 25 (0, 0))) ?tAx ?assign ?body ?done ?stop
  case hI =>
    rintro pre U V ⟨⟨v, a1⟩, a2, a3, a4⟩ hk
    obtain ⟨v', a1'⟩ := hk.2.1 v _ a1
    exact ⟨⟨v', a1'⟩, a2.but hk.1 a2.lt (by show ¬ w.heap.size = p; omega), a3.trans (hk.1.mono a3.size (fun j hj e => e)), Nat.le_trans a4 hk.1.size⟩
  case tI =>
    rintro pre W l o o' ⟨⟨v, a1⟩, a2, a3, a4⟩ hl hlo ho
    exact ⟨⟨v, a1.turn hlo ho o'⟩, a2.turn hlo ho o', a3.turn (by omega) o', by simp; exact a4⟩
  case tSf =>
    rintro bs W l o o' ⟨hbs, v, h1, h2⟩ hl hlo ho
    exact ⟨hbs, v, h1.turn hlo ho o', by rw [show (W.putObj l o').heap.size = W.heap.size by simp]; exact (Kept.turn (S := fun _ => False) hlo ho o').sl h2 (fun _ _ h => h)⟩
  case h0 =>
    intro W hW hWs
    exact ⟨⟨_, hp2.below hW (by omega)⟩, hbox2.below hW (by omega), But.of (hB2.trans (hW.mono (by omega))) (Nat.le_refl _), by omega⟩
  case tAx =>
    rintro a' x W l o o' ⟨g, bx, rfl, hbx, hg⟩ hl hlo ho
    exact ⟨g, bx, rfl, hbx, (turn_block hlo ho o' hg rfl).trans hg⟩
  case assign =>
    intro l pre x W K ⟨⟨v0, a1⟩, a2, a3, a4⟩ hs hK
    obtain ⟨bx, HBX⟩ : ∃ bx, Aside0 (bx = (x.1.map (Value.int .u8)).toArray) := ⟨_, ⟨rfl⟩⟩
    have hbs : bx.size = 64 := by rw [HBX.out, List.size_toArray, List.length_map, x.2.1]
    obtain ⟨zs, HZS, hz⟩ : ∃ zs, Aside0 (zs = (List.replicate 64 (Value.int .u8 0)).toArray) ∧ ∀ w, (zeroValue 25).run Try.prog w = .ok (.agg zs) w := ⟨_, ⟨rfl⟩, zero64⟩
    have hi64 : (Try.prog.info? 25).map (·.size) = some 64 := by kernel_rfl
    have hst : Aside0 (∀ W : World, (storeVar 25 ⟨W.heap.size, 0, none⟩ (.agg bx)).run Try.prog (W.alloc (.cells zs 25)) = .ok () (W.alloc (.cells bx 25))) := ⟨fun W =>
      run_storeVar_new W _ _ _ (by rw [hbs]; exact hi64) (by rw [hbs, HZS.out]; simp) (by rw [HBX.out]; simp [Value.oneCell'])⟩
    have HK := Aside0.mk (hK _ _ (KeepsOthers.alloc W (.cells bx 25)) (by simp) ⟨Kept.but (But.of (below_alloc (Below.refl _ _) _) (Nat.le_refl _)) (Nat.le_refl _), fun v hv => hv.below (below_alloc (Below.refl _ _) _) hv.lt⟩
      ⟨⟨v0, a1.below (below_alloc (Below.refl _ _) _) a1.lt⟩, a2.below (below_alloc (Below.refl _ _) _) a2.lt, a3.then (below_alloc (Below.refl _ _) _) (by omega), by simp; omega⟩ ⟨W.heap.size, bx, rfl, HBX.out, heap_alloc_new W _⟩)
    have hxx : (x.1.map (Value.int .u8)).toArray = bx := HBX.out.symm
    rw [hxx]
    clear hK a1 a2 a3 hxx hbs
    gi_wp2_with (refine in_store rfl 25 _ _ rfl _ _ (hst.out _) rfl rfl ?_)
    exact HK.out
  case body =>
    rintro l pre x a' W ⟨⟨v0, a1⟩, a2, a3, a4⟩ ⟨g, bx, rfl, hbx, hg⟩ _ _
    have hbs : bx.size = 64 := by rw [hbx, List.size_toArray, List.length_map, x.2.1]
    have hok := foldB_ok st HST.out pre
    obtain ⟨t, ht⟩ : ∃ t, foldB st pre = t := ⟨_, rfl⟩
    have hfs := foldB_snoc st pre x
    rw [ht] at a1 hok hfs
    have HFS := Aside0.mk hfs
    obtain ⟨q0, f0⟩ := a2 0 _ rfl
    have p1 := (a1 1 _ rfl).1
    have p2 := (a1 2 _ rfl).1
    have p3 := (a1 3 _ rfl).1
    have p4 := (a1 4 _ rfl).1
    have p5 := (a1 5 _ rfl).1
    have hload : ∀ V : World, V.heap[g]? = some (.cells bx 25 (0, 0)) → (loadVar 25 ⟨g, 0, none⟩).run Try.prog V = .ok (.agg bx) V := fun V hV =>
      run_loadVar_row _ _ 25 _ bx (0, 0) (.array 64 5) hV (by kernel_rfl) rfl (by rw [hbs]; kernel_rfl)
    have HG := Aside0.mk (hload W hg)
    have HBk := Aside0.mk (fun V => block_ t hok x.1 x.2.2 x.2.1 V)
    rw [← hbx] at HBk
    have A1 := Aside0.mk a1
    have A2 := Aside0.mk a2
    have A3 := Aside0.mk a3
    have HGg := Aside0.mk hg
    have HLD := Aside0.mk hload
    clear a1 a2 a3 hg hfs ht hload hbx hbs
    gi_wp2_with fail
    refine regionR [(0, .t), (1, .t), (2, .p), (3, .p), (4, .t), (5, .t), (6, .o), (7, .p), (8, .p), (9, .e)] (fun V => V.cell? ⟨w.heap.size, 0, none⟩ = some (ptr p) ∧ V.cell? ⟨p, 1, none⟩ = some (.int .u32 t.a) ∧ V.cell? ⟨p, 2, none⟩ = some (.int .u32 t.b) ∧ V.cell? ⟨p, 3, none⟩ = some (.int .u32 t.c) ∧ V.cell? ⟨p, 4, none⟩ = some (.int .u32 t.d) ∧ V.cell? ⟨p, 5, none⟩ = some (.int .u32 t.e) ∧ (loadVar 25 ⟨g, 0, none⟩).run Try.prog V = .ok (.agg bx) V) (by kernel_rfl) (by kernel_rfl) (⟨q0, p1, p2, p3, p4, p5, HLD.out _ HGg.out⟩) (fun hHeld => ?_)
    iterate 2 (refine lex_t rfl rfl rfl (by rintro w' ⟨s0, s1, s2, s3, s4, s5, s6⟩; go_simp; with_reducible rfl) (by simp only [Act.put, List.setIfInBounds_toArray, List.set_cons_zero, List.set_cons_succ, i64_w, i32_w]; rfl) ?_)
    iterate 2 (refine lex_p rfl rfl rfl (by intro w'; go_simp; with_reducible rfl) (by simp only [Act.put, List.setIfInBounds_toArray, List.set_cons_zero, List.set_cons_succ, i64_w, i32_w]; rfl) ?_)
    (refine lex_t rfl rfl rfl (by rintro w' ⟨s0, s1, s2, s3, s4, s5, s6⟩; go_simp; with_reducible rfl) (by simp only [Act.put, List.setIfInBounds_toArray, List.set_cons_zero, List.set_cons_succ, i64_w, i32_w]; rfl) ?_)
    (refine lex_t rfl rfl rfl (by rintro w' ⟨s0, s1, s2, s3, s4, s5, s6⟩; exact run_load_arr rfl rfl (by assumption)) (by simp only [Act.put, List.setIfInBounds_toArray, List.set_cons_zero, List.set_cons_succ, i64_w, i32_w]; rfl) ?_)
    refine lex_o rfl ?_
    go_wp2_with fail
    refine (HBk.out _).mono ?_
    rintro e W2 ⟨rfl, hb3⟩
    have hb4 : Below W.heap.size W W2 := (Below.refl _ _).drew.trans hb3
    have B4 := Aside0.mk hb4
    have A1' := Aside0.mk (A1.out.below hb4 A1.out.lt)
    have A2' := Aside0.mk (A2.out.below hb4 A2.out.lt)
    have q0' := (A2'.out 0 _ rfl).1
    have p1' := (A1'.out 1 _ rfl).1
    have p2' := (A1'.out 2 _ rfl).1
    have p3' := (A1'.out 3 _ rfl).1
    have p4' := (A1'.out 4 _ rfl).1
    have p5' := (A1'.out 5 _ rfl).1
    have g1' := (A1'.out 1 _ rfl).2
    have g2' := (A1'.out 2 _ rfl).2
    have g3' := (A1'.out 3 _ rfl).2
    have g4' := (A1'.out 4 _ rfl).2
    have g5' := (A1'.out 5 _ rfl).2
    have hl' := HLD.out W2 ((hb4.block g (Array.getElem?_eq_some_iff.1 HGg.out).1).trans HGg.out)
    clear hb3 hb4 q0 f0 p1 p2 p3 p4 p5 hHeld A1 A2
    go_wp2_with fail
    refine lex_end (by first | (simp only [Act.put, List.setIfInBounds_toArray, List.set_cons_zero, List.set_cons_succ, i64_w, i32_w]; rfl) | rfl) (⟨q0', p1', p2', p3', p4', p5', hl'⟩) (fun hHeld => ?_)
    iterate 2 (refine lex_p rfl rfl rfl (by intro w'; go_simp; with_reducible rfl) (by simp only [Act.put, List.setIfInBounds_toArray, List.set_cons_zero, List.set_cons_succ, i64_w, i32_w]; rfl) ?_)
    refine lex_e rfl ?_
    obtain ⟨u, hu⟩ : ∃ u, block t x.1 = u := ⟨_, rfl⟩
    rw [hu]
    have HU := Aside0.mk hu
    clear hu
    go_wp2_with fail
    refine outN ?_
    have hp4 := B4.out.size
    have X1 := ((((A1'.out.set 1 (by simp [hv]) (.int .u32 u.a)).set 2 (by simp [hv]) (.int .u32 u.b)).set 3 (by simp [hv]) (.int .u32 u.c)).set 4 (by simp [hv]) (.int .u32 u.d)).set 5 (by simp [hv]) (.int .u32 u.e)
    have X2 := ((((A2'.out.far (q := ⟨p, 1, none⟩) (by show w.heap.size ≠ p; omega) (.int .u32 u.a)).far (q := ⟨p, 2, none⟩) (by show w.heap.size ≠ p; omega) (.int .u32 u.b)).far (q := ⟨p, 3, none⟩) (by show w.heap.size ≠ p; omega) (.int .u32 u.c)).far (q := ⟨p, 4, none⟩) (by show w.heap.size ≠ p; omega) (.int .u32 u.d)).far (q := ⟨p, 5, none⟩) (by show w.heap.size ≠ p; omega) (.int .u32 u.e)
    have X3 := ((((((But.of (S := at1 p) B4.out (Nat.le_refl _)).setCell (p := ⟨p, 1, none⟩) (.inr rfl) (.int .u32 u.a)).setCell (p := ⟨p, 2, none⟩) (.inr rfl) (.int .u32 u.b)).setCell (p := ⟨p, 3, none⟩) (.inr rfl) (.int .u32 u.c)).setCell (p := ⟨p, 4, none⟩) (.inr rfl) (.int .u32 u.d)).setCell (p := ⟨p, 5, none⟩) (.inr rfl) (.int .u32 u.e))
    refine ⟨keeps_but X3 ?_, ⟨Kept.but X3 (Nat.le_refl _), fun v hv0 => ?_⟩, ⟨v0, ?_⟩, X2, A3.out.trans (X3.mono (by omega) (fun _ _ e => e)), by have := X3.size; omega⟩
    · intro o ho hn0
      obtain ⟨q, h1, h2⟩ := block_of_cell p1'
      have h3 : W2.heap[p]? = some o := (B4.out.block p (Array.getElem?_eq_some_iff.1 ho).1).trans ho
      have h4 : q = o := Option.some.inj (h1.symm.trans h3)
      rw [h4, hn0] at h2
      exact absurd h2 (by decide)
    · exact ob_next (ob_next (ob_next (ob_next (ob_next (hv0.below B4.out hv0.lt) 0 _) 1 _) 2 _) 3 _) 4 _
    · rw [HFS.out, HU.out]
      exact X1
  case done =>
    rintro D bs W hD ⟨rfl, v, h1, h2⟩ ⟨⟨v', a1⟩, a2, a3, a4⟩ hK
    obtain ⟨u, hu⟩ : ∃ u, foldB st (bls (xs ++ ys)) = u := ⟨_, rfl⟩
    rw [hu] at a1
    simp only [hu]
    have e0 : W.cell? ⟨p, 0, none⟩ = some v' := (a1 0 _ rfl).1
    have e1 : W.cell? ⟨p, 0, none⟩ = some v := (h1 0 _ rfl).1
    obtain rfl : v' = v := Option.some.inj (e0.symm.trans e1)
    clear e0 e1
    obtain ⟨q0, _⟩ := a2 0 _ rfl
    obtain ⟨q6, f6⟩ := a1 6 _ rfl
    have A1 := Aside0.mk a1
    have A3 := Aside0.mk a3
    have A4 := Aside0.mk h2
    have HK := Aside0.mk hK
    have HU := Aside0.mk hu
    clear a1 a2 a3 h1 h2 hK hu
    gi_wp2_with fail
    have hK2 : (W.setCell ⟨p, 6, none⟩ (.int .i64 ((n : Int) + (ys.length : Int)))).heap[D]? = some (.deferred (some [])) := by
      rw [Below.heap_setCell _ _ _ _ (by show D ≠ p; omega)]
      exact HK.out
    refine ⟨by simp, .inl ⟨_, _, rfl, run_takeDeferred hK2, ?_⟩⟩
    have a5 := A1.out.set 6 (by simp [hv]) (.int .i64 ((n : Int) + (ys.length : Int)))
    have a6 := Ob.turn a5 hK2 rfl (.deferred none)
    have b6 := (A3.out.setCell (p := ⟨p, 6, none⟩) (.inr rfl) (.int .i64 ((n : Int) + (ys.length : Int)))).turn (l := D) (by omega) (.deferred none)
    have k6 : Kept (at1 p) W ((W.setCell ⟨p, 6, none⟩ (.int .i64 ((n : Int) + (ys.length : Int)))).putObj D (.deferred none)) := (Kept.but (But.setCell (But.refl W.heap.size (at1 p) W) (p := ⟨p, 6, none⟩) (.inr rfl) (.int .i64 ((n : Int) + (ys.length : Int)))) (Nat.le_refl _)).trans (Kept.turn hK2 rfl _)
    have s6 := k6.sl A4.out (fun k hk e => by have : k = p := e; have := hk.1; omega)
    refine ⟨_, results_tmp rfl _ _ _, rfl, ⟨v', ?_, ?_⟩, b6⟩
    · have e : ((n + ys.length : Nat) : Int) = (n : Int) + (ys.length : Int) := by omega
      unfold hv
      rw [HU.out, e]
      exact a6
    · exact s6.mono (fun k hk => ⟨by have := hk.1; omega, Nat.lt_of_lt_of_le hk.2 k6.size⟩)
  case stop =>
    rintro D c pre W _ _ h _
    exact h.elim
end Go.Proofs.Ytfeohojpjncgaaa.Sha
