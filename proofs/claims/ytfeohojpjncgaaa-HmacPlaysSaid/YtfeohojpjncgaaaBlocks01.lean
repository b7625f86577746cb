/- The blocks of bytes: the iterator's contract. -/
import Derived.Test.YtfeohojpjncgaaaHash01
import Derived.Test.YtfeohojpjncgaaaKept
import Derived.Deep.WholeRow
import Derived.Deep.MidRow
import Derived.WalkMore
import Derived.Laws.EntriesVeiled
set_option linter.unusedSimpArgs false
set_option linter.unusedVariables false
namespace Go.Proofs.Ytfeohojpjncgaaa.Sha
open Go.RowKit Go.Proofs.YtfeohojpjncgaaaW.PrintWords Go.Proofs.YtfeohojpjncgaaaW.PrintLast Go.Proofs.YtfeohojpjncgaaaW.PrintMore Go.Proofs.Ytfeohojpjncgaaa.PSha1Plays Go.Proofs.Ytfeohojpjncgaaa.Lex Go.Proofs.Ytfeohojpjncgaaa.Lib
attribute [local go_sem] Oper.semAt_some
abbrev at1 (p : Nat) : Nat → Prop := fun k => k = p
def blk (xs : List Int) (k : Nat) : List Int := (xs.drop (64 * k)).take 64
def blks (xs : List Int) : List (List Int) := (List.range (xs.length / 64)).map (blk xs)
def rest (xs : List Int) : List Int := xs.drop (64 * (xs.length / 64))
/-- What a round keeps: all blocks of cells but p's, and the first cell of p. -/
def KP (p : Nat) (A B : World) : Prop := Kept (at1 p) A B ∧ ∀ v, Ob p A [v] → Ob p B [v]
/-- What the iterator turns between two rounds: the first cell of p. -/
def KA (p : Nat) (_ : Nat) (A B : World) : Prop := But A.heap.size (at1 p) A B ∧ (∀ v cs, Ob p A (v :: cs) → ∃ v', Ob p B (v' :: cs)) ∧ ∀ o, A.heap[p]? = some o → o.isCells = false → B.heap[p]? = some o
theorem KA.of {p h : Nat} {A B : World} (hb : Below A.heap.size A B) (hp : p < A.heap.size) : KA p h A B :=
  ⟨But.of hb (Nat.le_refl _), fun v cs hc => ⟨v, hc.below hb hp⟩, fun o ho _ => (hb.block p hp).trans ho⟩
theorem KA.trans {p h : Nat} {A B C : World} (h1 : KA p h A B) (h2 : KA p h B C) : KA p h A C :=
  ⟨h1.1.trans (h2.1.mono h1.1.size (fun _ _ e => e)), fun v cs hc => by obtain ⟨v1, h3⟩ := h1.2.1 v cs hc; exact h2.2.1 v1 cs h3, fun o ho hn => h2.2.2 o (h1.2.2 o ho hn) hn⟩
theorem KA.set {p h : Nat} {A : World} {v : Value} (hc : Ob p A [v]) (u : Value) : KA p h A (A.setCell ⟨p, 0, none⟩ u) := by
  refine ⟨But.setCell (But.refl A.heap.size (at1 p) A) (p := ⟨p, 0, none⟩) (.inr rfl) u, fun w cs h2 => ⟨u, h2.set 0 (by simp) u⟩, fun o ho hn => ?_⟩
  obtain ⟨q, h1, h2⟩ := block_of_cell (hc 0 v rfl).1
  rw [ho] at h1
  injection h1 with h1
  subst h1
  rw [hn] at h2
  cases h2
/-- blocks from one number to another -/
def SB (a b : Nat) (k : Nat) : Prop := a ≤ k ∧ k < b
theorem zero64 (w : World) : (zeroValue 25).run Try.prog w = .ok (.agg (List.replicate 64 (.int .u8 0)).toArray) w := by kernel_rfl
theorem arr64 (a : Option Addr) (n c : Nat) (hn : 64 ≤ n) (W : World) : (Instr.arrayAt 25 (.slice a n c)).run Try.prog W = .ok (.pointer a) W := by
  have hu : Try.prog.underlying 25 = some (.array 64 5) := by kernel_rfl
  unfold Instr.arrayAt
  rw [Sem.run_bind, run_underlying hu W]
  simp only [Result.andThen]
  rw [if_neg (by omega)]
  rfl
/-- a block of bytes -/
abbrev Blk := { x : List Int // x.length = 64 ∧ Byt x }
instance : Inhabited Blk := ⟨⟨List.replicate 64 0, by simp, fun x hx => by have := List.eq_of_mem_replicate hx; omega⟩⟩
instance (xs : List Int) : Decidable (Byt xs) := by unfold Byt; infer_instance
def mkBlk (xs : List Int) : Blk := if h : xs.length = 64 ∧ Byt xs then ⟨xs, h⟩ else default
theorem mkBlk_val {xs : List Int} (h : xs.length = 64 ∧ Byt xs) : (mkBlk xs).1 = xs := by unfold mkBlk; rw [dif_pos h]
def bls (xs : List Int) : List Blk := (blks xs).map mkBlk
theorem blk_ok {Z : List Int} (hb : Byt Z) (k : Nat) (h : k < Z.length / 64) : (blk Z k).length = 64 ∧ Byt (blk Z k) := ⟨by unfold blk; rw [List.length_take, List.length_drop]; omega, (hb.drop _).take _⟩
theorem blks_len (Z : List Int) : (blks Z).length = Z.length / 64 := by simp [blks]
theorem blks_take (Z : List Int) (k : Nat) (h : k < Z.length / 64) : (blks Z).take (k + 1) = (blks Z).take k ++ [blk Z k] := by
  rw [List.take_succ_eq_append_getElem (by rw [blks_len]; exact h)]
  simp [blks]
theorem bls_len (Z : List Int) : (bls Z).length = Z.length / 64 := by rw [bls, List.length_map, blks_len]
theorem bls_take (Z : List Int) (k : Nat) (h : k < Z.length / 64) : (bls Z).take (k + 1) = (bls Z).take k ++ [mkBlk (blk Z k)] := by
  unfold bls
  rw [← List.map_take, blks_take Z k h, List.map_append, List.map_take]
  rfl
section
variable {F : Fence} {n : Nat} {P : Program} {ops : Array Oper} {rest : List Oper} {a : Act} {Q : Exit → Act → World → Prop} {w : World}
theorem in_load {o : Oper} (hg : o.guard = none) (T : TypeId) (x : Operand) (ho : o.op = .load T x) (ad : Addr) (v : Value) (hrun : (loadVar T ad).run P w = .ok v w) (hx : a.eval x = .pointer (some ad)) (h : wpListIn F n P ops Q rest (a.put o.dst v) w) : wpListIn F n P ops Q (o :: rest) a w := by
  refine wpListIn_plain hg fun K hK' => ?_
  unfold Oper.wpIn
  refine ⟨?_, ?_⟩
  · simp [Oper.about, ho]
  · rw [Oper.semAt_plain F _ _ (by rw [ho]; intro c hc'; cases hc')]
    simp [execOp, ho, hx, Instr.loadAt, Instr.sureAddr, hrun, Result.andThen]
    exact hK' _ _ h
theorem in_store {o : Oper} (hg : o.guard = none) (T : TypeId) (x y : Operand) (ho : o.op = .store T x y) (ad : Addr) (v : Value) {w' : World} (hrun : (storeVar T ad v).run P w = .ok () w') (hx : a.eval x = .pointer (some ad)) (hy : a.eval y = v) (h : wpListIn F n P ops Q rest (a.put o.dst undef) w') : wpListIn F n P ops Q (o :: rest) a w := by
  refine wpListIn_plain hg fun K hK' => ?_
  unfold Oper.wpIn
  refine ⟨?_, ?_⟩
  · simp [Oper.about, ho]
  · rw [Oper.semAt_plain F _ _ (by rw [ho]; intro c hc'; cases hc')]
    simp [execOp, ho, hx, hy, Instr.storeAt, Instr.sureAddr, hrun, Result.andThen]
    exact hK' _ _ h
end
set_option maxRecDepth 100000 in
set_option maxHeartbeats 4000000 in
theorem blocks_seq {n : Nat} (hn : 2 ≤ n) (Bl Bb p : Nat) (A : Option Addr) (c : Nat) (ys : List Int) (A0 : Option Addr) (c0 : Nat) (xs : List Int) (w : World)
    (hBl : w.cell? ⟨Bl, 0, none⟩ = some (ptr p)) (hBb : w.cell? ⟨Bb, 0, none⟩ = some (.slice A ys.length c)) (hcA : ys.length ≤ c) (hC : Kd.C KB w A ys.length ys)
    (hp : Ob p w [.slice A0 xs.length c0]) (hcA0 : xs.length ≤ c0) (hC0 : Kd.C KB w A0 xs.length xs)
    (d1 : Bl ≠ p) (d2 : Bb ≠ p) (hl : xs.length + ys.length ≤ 4000000) (hbz : Byt (xs ++ ys)) :
    SeqB Fence.wide n Try.prog 46 #[ptr Bl, ptr Bb] (fun x : Blk => #[.agg (x.1.map (Value.int .u8)).toArray]) (KP p) (KA p)
      (fun bs W => bs = bls (xs ++ ys) ∧ ∃ v, Ob p W [v] ∧ Sl (SB w.heap.size W.heap.size) W v (rest (xs ++ ys))) (fun _ _ => True) 0 ((xs ++ ys).length / 64) w := by
  intro l J Jx W hW hJ hJx hY h0
  have q1 := pw_cell_below hW hBl
  have q2 := pw_cell_below hW hBb
  have hpw := hp.below hW hp.lt
  have q3 := (hpw 0 _ rfl).1
  have HC := Aside0.mk (Kd.C_below hC hW)
  have HC0 := Aside0.mk (Kd.C_below hC0 hW)
  have HPW := Aside0.mk hpw
  have HY := Aside0.mk hY
  have HJ := Aside0.mk hJ
  have HJx := Aside0.mk hJx
  have HWS := Aside0.mk hW.size
  clear hY hJ hJx hC hC0 hpw hW hBl hBb hp
  refine callsIn_of_wp Try.func46 rfl trivial ?_ rfl
  simp only [Try.ntmps46, List.size_toArray, List.length_cons, List.length_nil, Nat.reduceAdd, Nat.reduceSub, Array.replicate_succ, Array.replicate_zero, List.push_toArray, List.append_toArray, List.nil_append, List.cons_append]
  gi_wp2_with fail
  have HCC : Aside0 (Kd.C KBB (W.drew.alloc (.cells #[.slice A0 xs.length c0, .slice A ys.length c] 22)) (some ⟨W.heap.size, 0, none⟩) 2 [xs, ys]) := ⟨by
    refine CBB_alloc (W := W.drew) (g := W.heap.size) (cs := [.slice A0 xs.length c0, .slice A ys.length c]) (t := 22) rfl [xs, ys] rfl (by simp) ?_
    intro j zs hj
    match j, hj with
    | 0, hj =>
      injection hj with hj
      subst hj
      exact ⟨_, _, rfl, hcA0, Kd.C_below HC0.out (below_alloc (below_drew (Below.refl W.heap.size W)) _)⟩
    | 1, hj =>
      injection hj with hj
      subst hj
      exact ⟨_, _, rfl, hcA, Kd.C_below HC.out (below_alloc (below_drew (Below.refl W.heap.size W)) _)⟩⟩
  refine (wpIn_wide (n := n)).2 ?_
  refine region [(0, .t), (1, .p), (2, .p), (3, .t), (4, .t), (5, .o), (6, .q), (7, .p)] (fun V => V.cell? ⟨Bl, 0, none⟩ = some (ptr p) ∧ V.cell? ⟨Bb, 0, none⟩ = some (.slice A ys.length c) ∧ V.cell? ⟨p, 0, none⟩ = some (.slice A0 xs.length c0)) (by kernel_rfl) (by kernel_rfl) (fun _ _ _ _ _ h => h) (⟨q1, q2, q3⟩) (fun hHeld => ?_)
  (refine lex_t rfl rfl rfl (by rintro w' ⟨s1, s2, s3⟩; go_simp; with_reducible rfl) (by simp only [Act.put, List.setIfInBounds_toArray, List.set_cons_zero, List.set_cons_succ, i64_w, i32_w]; rfl) ?_)
  iterate 2 (refine lex_p rfl rfl rfl (by intro w'; go_simp; with_reducible rfl) (by simp only [Act.put, List.setIfInBounds_toArray, List.set_cons_zero, List.set_cons_succ, i64_w, i32_w]; rfl) ?_)
  iterate 2 (refine lex_t rfl rfl rfl (by rintro w' ⟨s1, s2, s3⟩; go_simp; with_reducible rfl) (by simp only [Act.put, List.setIfInBounds_toArray, List.set_cons_zero, List.set_cons_succ, i64_w, i32_w]; rfl) ?_)
  refine lex_o rfl ?_
  go_wp2_with fail
  refine lex_end (by first | (simp only [Act.put, List.setIfInBounds_toArray, List.set_cons_zero, List.set_cons_succ, i64_w, i32_w]; rfl) | rfl) (⟨pw_cell_below (below_alloc (below_drew (Below.refl _ _)) _) q1, pw_cell_below (below_alloc (below_drew (Below.refl _ _)) _) q2, pw_cell_below (below_alloc (below_drew (Below.refl _ _)) _) q3⟩) (fun hHeld => ?_)
  refine lex_q rfl ?_
  go_wp2_with fail
  refine (concat (some ⟨W.heap.size, 0, none⟩) 2 [xs, ys] _ HCC.out (by simp [flat]; omega)).mono ?_
  rintro e W1 ⟨v, rfl, ho, hb⟩
  have HO : Aside0 (OB W.heap.size W1 v (xs ++ ys)) := ⟨by
    have e : flat [xs, ys] = xs ++ ys := by simp [flat]
    rw [← e]
    exact ho.lower (by simp [World.size_alloc])⟩
  have HB1 : Aside0 (Below W.heap.size W W1) := ⟨(below_alloc (below_drew (Below.refl W.heap.size W)) _).trans (hb.mono (by simp [World.size_alloc]))⟩
  clear ho hb
  obtain ⟨A4, c4, rfl, -, -⟩ := HO.out.reads
  go_wp2_with fail
  refine lex_endq (by first | (simp only [Act.put, List.setIfInBounds_toArray, List.set_cons_zero, List.set_cons_succ, i64_w, i32_w]; rfl) | rfl) ?_
  (refine lex_p rfl rfl rfl (by intro w'; go_simp; with_reducible rfl) (by simp only [Act.put, List.setIfInBounds_toArray, List.set_cons_zero, List.set_cons_succ, i64_w, i32_w]; rfl) ?_)
  refine lex_nil ?_
  gi_wp2_with fail
  obtain ⟨Z, hZ⟩ : ∃ Z, xs ++ ys = Z := ⟨_, rfl⟩
  have hZl : xs.length + ys.length = Z.length := by rw [← hZ, List.length_append]
  have HZ := Aside0.mk hZ
  have HBZ := Aside0.mk (show Byt Z by rw [← hZ]; exact hbz)
  have HZL := Aside0.mk (show Z.length ≤ 4000000 by omega)
  rw [hZl]
  rw [hZ] at HO
  have hsl : Sl (SB W.heap.size W1.heap.size) W1 (.slice A4 Z.length c4) (Z.drop (64 * 0)) := by
    exact OB.sl HO.out (fun k h1 h2 => ⟨h1, h2⟩)
  have HK : Aside0 (Kept (at1 p) W W1) := ⟨Kept.but (But.of HB1.out (Nat.le_refl _)) (Nat.le_refl _)⟩
  have hpW : p < W.heap.size := HPW.out.lt
  have hJ0 : J [] W1 := HJ.out _ _ _ h0 (KA.of HB1.out hpW)
  have HP1 := Aside0.mk (HPW.out.below HB1.out hpW)
  have hs1 := HB1.out.size
  clear hbz hZ hZl HO HCC HC HC0 q2 q3 h0
  gi_loopw [4] (fun s4 wr => ∃ k : Nat, k ≤ Z.length / 64 ∧ Sl (SB W.heap.size W1.heap.size) wr s4 (Z.drop (64 * k)) ∧ J ((bls Z).take k) wr ∧ Kept (at1 p) W wr ∧ (∃ v, Ob p wr [v]) ∧ W1.heap.size ≤ wr.heap.size) (fun s4 _ => match s4 with | .slice _ n _ => n | _ => 0)
  case atStart => exact ⟨0, Nat.zero_le _, hsl, hJ0, HK.out, ⟨_, HP1.out⟩, Nat.le_refl _⟩
  case round =>
    have HW1 := Aside0.mk hs1
    clear hsl hJ0 HK HP1 hs1 HB1
    obtain ⟨k, hk, ⟨A5, c5, rfl, hc5, hC5, hT5⟩, hJk, hKk, ⟨v0, hPk⟩, hsz⟩ := hrel
    have hR : (Z.drop (64 * k)).length = Z.length - 64 * k := List.length_drop
    have hs1 := HW1.out
    have HC5 := Aside0.mk hC5
    have HT5 := Aside0.mk hT5
    have HJk := Aside0.mk hJk
    have HKk := Aside0.mk hKk
    have HPk := Aside0.mk hPk
    by_cases hge : 64 ≤ (Z.drop (64 * k)).length
    · obtain ⟨g, o, rfl, hcell⟩ := C_byte hC5 0 (by omega)
      have hge' : ¬ (((Z.drop (64 * k)).length : Int) < 64) := by omega
      have hge2 : (64 : Int) ≤ ((Z.drop (64 * k)).length : Int) := by omega
      have hblk : (blk Z k).length = 64 := by unfold blk; rw [List.length_take]; omega
      have hrange : wr.rangeAt g o ((blk Z k).map (Value.int .u8)) := by
        intro j v hj
        have hj64 : j < 64 := by
          have := (List.getElem?_eq_some_iff.1 hj).1
          rw [List.length_map, hblk] at this
          exact this
        obtain ⟨_, _, e, h⟩ := C_byte hC5 j (by omega)
        injection e with e
        injection e with e1 e2
        subst e1 e2
        rw [h]
        rw [List.getElem?_map] at hj
        unfold blk at hj
        rw [List.getElem?_take, if_pos hj64, List.getElem?_eq_getElem (by omega)] at hj
        rw [List.getD_eq_getElem?_getD, List.getElem?_eq_getElem (by omega)]
        exact hj
      obtain ⟨bx, HBX⟩ : ∃ bx, Aside0 (bx = ((blk Z k).map (Value.int .u8)).toArray) := ⟨_, ⟨rfl⟩⟩
      have hbs : bx.size = 64 := by rw [HBX.out, List.size_toArray, List.length_map, hblk]
      have hload : Aside0 ((loadVar 25 ⟨g, o, none⟩).run Try.prog wr = .ok (.agg bx) wr) := ⟨by
        rw [HBX.out]
        exact run_loadVar_mid wr g o _ _ (.array 64 5) hrange (by kernel_rfl) rfl (by rw [List.length_map, hblk]; kernel_rfl)⟩
      obtain ⟨zs, HZS, hz⟩ : ∃ zs, Aside0 (zs = (List.replicate 64 (Value.int .u8 0)).toArray) ∧ ∀ w, (zeroValue 25).run Try.prog w = .ok (.agg zs) w := ⟨_, ⟨rfl⟩, zero64⟩
      have hat := fun W => arr64 (some ⟨g, o, none⟩) (Z.drop (64 * k)).length c5 hge W
      have hi64 : (Try.prog.info? 25).map (·.size) = some 64 := by kernel_rfl
      have hst : Aside0 (∀ W : World, (storeVar 25 ⟨W.heap.size, 0, none⟩ (.agg bx)).run Try.prog (W.alloc (.cells zs 25)) = .ok () (W.alloc (.cells bx 25))) := ⟨fun W =>
        run_storeVar_new W _ _ _ (by rw [hbs]; exact hi64) (by rw [hbs, HZS.out]; simp) (by rw [HBX.out]; simp [Value.oneCell'])⟩
      have hld2 : Aside0 (∀ u, (loadVar 25 ⟨wr.heap.size, 0, none⟩).run Try.prog ((wr.alloc (.cells bx 25)).setCell ⟨p, 0, none⟩ u) = .ok (.agg bx) ((wr.alloc (.cells bx 25)).setCell ⟨p, 0, none⟩ u)) := ⟨fun u => by
        have hpl : wr.heap.size ≠ p := by omega
        exact run_loadVar_row _ _ 25 _ bx (0, 0) (.array 64 5) ((Below.heap_setCell _ _ _ _ hpl).trans (heap_alloc_last wr _)) (by kernel_rfl) rfl (by rw [hbs]; exact hi64)⟩
      rw [hR]
      rw [hR] at hat hge'
      have HGE := Aside0.mk hge
      have HR := Aside0.mk hR
      have hge3 : (64 : Int) ≤ ((Z.length - 64 * k : Nat) : Int) := by omega
      have c1k : ∀ ob : Obj, (wr.alloc ob).cell? ⟨Bl, 0, none⟩ = some (ptr p) := fun ob => pw_cell_below (below_alloc (Below.refl wr.heap.size wr) ob) (HKk.out.cell q1 (by show ¬ Bl = p; exact d1))
      have c2k : ∀ ob : Obj, (wr.alloc ob).cell? ⟨p, 0, none⟩ = some v0 ∧ (wr.alloc ob).frozen? ⟨p, 0, none⟩ = false := fun ob => (HPk.out.below (below_alloc (Below.refl wr.heap.size wr) ob) HPk.out.lt) 0 _ rfl
      have c3k := fun ob => (c2k ob).1
      have c4k := fun ob => (c2k ob).2
      clear c2k
      have hxk : (bls Z).take (k + 1) = (bls Z).take k ++ [mkBlk (blk Z k)] := bls_take Z k (by omega)
      have HMB : Aside0 ((mkBlk (blk Z k)).1 = blk Z k) := ⟨mkBlk_val (blk_ok HBZ.out k (by omega))⟩
      have hlk : ((bls Z).take k).length < Z.length / 64 := by rw [List.length_take, bls_len]; omega
      have HXK := Aside0.mk hxk
      have hsp : p < wr.heap.size := HPk.out.lt
      have hdrop : (Z.drop (64 * k)).drop 64 = Z.drop (64 * (k + 1)) := by rw [List.drop_drop]; congr 1
      have HDR := Aside0.mk hdrop
      have HN : Aside0 (∀ u, ∃ e : Unit, J ((bls Z).take k) ((wr.alloc (.cells bx 25)).setCell ⟨p, 0, none⟩ u)) := ⟨fun u => ⟨(), HJ.out _ wr _ HJk.out ((KA.of (below_alloc (Below.refl wr.heap.size wr) _) hsp).trans (KA.set (HPk.out.below (below_alloc (Below.refl wr.heap.size wr) _) hsp) u))⟩⟩
      clear hrange hcell hC5 hT5 hJk hKk hPk hge hge2 hR hblk hbs hi64 hxk hdrop
      by_cases h64 : c5 = 64
      · subst h64
        have hbut : But wr.heap.size (at1 p) wr ((wr.alloc (.cells bx 25)).setCell ⟨p, 0, none⟩ (.slice (some ⟨g, o, none⟩) (Z.length - 64 * k - 64) 0)) := (But.of (S := at1 p) (below_alloc (Below.refl wr.heap.size wr) _) (Nat.le_refl _)).setCell (p := ⟨p, 0, none⟩) (.inr rfl) _
        have hO2 := (HPk.out.below (below_alloc (Below.refl wr.heap.size wr) (.cells bx 25)) hsp).set 0 (by simp) (.slice (some ⟨g, o, none⟩) (Z.length - 64 * k - 64) 0)
        have hS0 : Sl (SB W.heap.size W1.heap.size) wr (.slice (some ⟨g, o, none⟩) (Z.drop (64 * k)).length 64) (Z.drop (64 * k)) := ⟨_, _, rfl, hc5, HC5.out, HT5.out⟩
        have hS1 := hS0.drop 64 HGE.out (some ⟨g, o, none⟩) (fun b o' e hlt => by injection e with e; injection e with e1 e2; subst e1 e2; first | rfl | (exfalso; omega)) (fun a ha => ⟨_, rfl, by injection ha with ha; rw [← ha]⟩)
        rw [HDR.out, HR.out] at hS1
        have hS1 : Sl (SB W.heap.size W1.heap.size) wr (.slice (some ⟨g, o, none⟩) (Z.length - 64 * k - 64) 0) (Z.drop (64 * (k + 1))) := hS1
        have hS2 := (Kept.but hbut (Nat.le_refl _)).sl hS1 (fun k hk e => by have : k = p := e; have := hk.1; omega)
        have HS2 := Aside0.mk hS2
        have HO2 := Aside0.mk hO2
        have HB2 := Aside0.mk (Kept.but hbut (Nat.le_refl _))
        have HB2s := Aside0.mk hbut.size
        clear hS0 hS1 hS2 hO2 hbut
        obtain ⟨fn, tmps, assign, bodyc, hy, hR⟩ := HY.out _ (mkBlk (blk Z k)) _ (HN.out (.slice (some ⟨g, o, none⟩) (Z.length - 64 * k - 64) 0)).choose_spec (by rw [← HZ.out] at hlk; rw [← HZ.out]; exact hlk) (by have := HW1.out; simp [World.setCell]; omega)
        rw [HMB.out, ← HBX.out] at hy
        clear hlk hsp
        gi_wp2_with (first | (refine in_load rfl 25 _ rfl _ _ hload.out rfl ?_) | (refine in_store rfl 25 _ _ rfl _ _ (hst.out _) rfl rfl ?_) | (refine in_load rfl 25 _ rfl _ _ (hld2.out _) rfl ?_))
        refine ⟨fun hd => (by cases hd), ?_⟩
        refine hR.mono ?_
        rintro e W3 (⟨rfl, hJ3, hk3⟩ | ⟨rfl, hJx3⟩)
        · gi_wp2_with fail
          go_roundw
          case rel =>
            refine ⟨k + 1, by have := HR.out; have := HGE.out; omega, ?_, by rw [HXK.out]; exact hJ3, HKk.out.trans (HB2.out.trans hk3.1), ⟨_, hk3.2 _ HO2.out⟩, Nat.le_trans hsz (Nat.le_trans HB2s.out hk3.1.size)⟩
            exact hk3.1.sl HS2.out (fun k hk e => by have : k = p := e; have := hk.1; omega)
          case measure => simp; have := HR.out; have := HGE.out; omega
        · gi_wp2_with fail
          exact bodyPost_ret (results_none rfl _ _ _) rfl ⟨⟨_, rfl⟩, .inr ⟨_, trivial, hJx3⟩⟩
      · have h64 : ¬ c5 = 64 := h64
        have hbut : But wr.heap.size (at1 p) wr ((wr.alloc (.cells bx 25)).setCell ⟨p, 0, none⟩ (.slice (some ⟨g, o + 64, none⟩) (Z.length - 64 * k - 64) (c5 - 64))) := (But.of (S := at1 p) (below_alloc (Below.refl wr.heap.size wr) _) (Nat.le_refl _)).setCell (p := ⟨p, 0, none⟩) (.inr rfl) _
        have hO2 := (HPk.out.below (below_alloc (Below.refl wr.heap.size wr) (.cells bx 25)) hsp).set 0 (by simp) (.slice (some ⟨g, o + 64, none⟩) (Z.length - 64 * k - 64) (c5 - 64))
        have hS0 : Sl (SB W.heap.size W1.heap.size) wr (.slice (some ⟨g, o, none⟩) (Z.drop (64 * k)).length c5) (Z.drop (64 * k)) := ⟨_, _, rfl, hc5, HC5.out, HT5.out⟩
        have hS1 := hS0.drop 64 HGE.out (some ⟨g, o + 64, none⟩) (fun b o' e hlt => by injection e with e; injection e with e1 e2; subst e1 e2; first | rfl | (exfalso; omega)) (fun a ha => ⟨_, rfl, by injection ha with ha; rw [← ha]⟩)
        rw [HDR.out, HR.out] at hS1
        have hS2 := (Kept.but hbut (Nat.le_refl _)).sl hS1 (fun k hk e => by have : k = p := e; have := hk.1; omega)
        have HS2 := Aside0.mk hS2
        have HO2 := Aside0.mk hO2
        have HB2 := Aside0.mk (Kept.but hbut (Nat.le_refl _))
        have HB2s := Aside0.mk hbut.size
        clear hS0 hS1 hS2 hO2 hbut
        obtain ⟨fn, tmps, assign, bodyc, hy, hR⟩ := HY.out _ (mkBlk (blk Z k)) _ (HN.out (.slice (some ⟨g, o + 64, none⟩) (Z.length - 64 * k - 64) (c5 - 64))).choose_spec (by rw [← HZ.out] at hlk; rw [← HZ.out]; exact hlk) (by have := HW1.out; simp [World.setCell]; omega)
        rw [HMB.out, ← HBX.out] at hy
        clear hlk hsp
        gi_wp2_with (first | (refine in_load rfl 25 _ rfl _ _ hload.out rfl ?_) | (refine in_store rfl 25 _ _ rfl _ _ (hst.out _) rfl rfl ?_) | (refine in_load rfl 25 _ rfl _ _ (hld2.out _) rfl ?_))
        refine ⟨fun hd => (by cases hd), ?_⟩
        refine hR.mono ?_
        rintro e W3 (⟨rfl, hJ3, hk3⟩ | ⟨rfl, hJx3⟩)
        · gi_wp2_with fail
          go_roundw
          case rel =>
            refine ⟨k + 1, by have := HR.out; have := HGE.out; omega, ?_, by rw [HXK.out]; exact hJ3, HKk.out.trans (HB2.out.trans hk3.1), ⟨_, hk3.2 _ HO2.out⟩, Nat.le_trans hsz (Nat.le_trans HB2s.out hk3.1.size)⟩
            exact hk3.1.sl HS2.out (fun k hk e => by have : k = p := e; have := hk.1; omega)
          case measure => simp; have := HR.out; have := HGE.out; omega
        · gi_wp2_with fail
          exact bodyPost_ret (results_none rfl _ _ _) rfl ⟨⟨_, rfl⟩, .inr ⟨_, trivial, hJx3⟩⟩
    · have hlt : (((Z.length - 64 * k : Nat) : Int) < 64) := by omega
      have hkl : k = Z.length / 64 := by omega
      have q1k : wr.cell? ⟨Bl, 0, none⟩ = some (ptr p) := HKk.out.cell q1 (by show ¬ Bl = p; exact d1)
      obtain ⟨q2k, q3k⟩ := HPk.out 0 _ rfl
      have HS5 : Aside0 (Sl (SB W.heap.size W1.heap.size) wr (.slice A5 (Z.length - 64 * k) c5) (Z.drop (64 * k))) := ⟨⟨A5, c5, by rw [hR], hc5, HC5.out, HT5.out⟩⟩
      rw [hR]
      clear hC5 hT5 hJk hKk hPk hR hge hc5
      have HKL := Aside0.mk hkl
      clear hkl
      gi_wp2_with fail
      have hkz : (bls Z).take k = bls Z := by rw [List.take_of_length_le (by rw [bls_len]; have := HKL.out; omega)]
      have hJz := HJk.out
      rw [hkz] at hJz
      have hdz : Z.drop (64 * k) = rest Z := by unfold rest; rw [HKL.out]
      have hO2 := HPk.out.set 0 (by simp) (.slice A5 (Z.length - 64 * k) c5)
      have hS2 := HS5.out.same (w' := wr.setCell ⟨p, 0, none⟩ (.slice A5 (Z.length - 64 * k) c5)) (fun k hk => Below.heap_setCell _ _ _ _ (by have := hk.1; show k ≠ p; omega))
      rw [hdz] at hS2
      have hS2 := hS2.mono (S' := SB w.heap.size (wr.setCell ⟨p, 0, none⟩ (.slice A5 (Z.length - 64 * k) c5)).heap.size) (fun k hk => ⟨Nat.le_trans HWS.out hk.1, by simp [World.setCell]; exact Nat.lt_of_lt_of_le hk.2 hsz⟩)
      have hJ2 := HJ.out _ wr _ hJz (KA.set HPk.out (.slice A5 (Z.length - 64 * k) c5))
      go_end0
      exact ⟨⟨_, rfl⟩, .inl ⟨_, ⟨by rw [HZ.out], _, hO2, by rw [HZ.out]; exact hS2⟩, hJ2⟩⟩
end Go.Proofs.Ytfeohojpjncgaaa.Sha
