/- Openings: the reference's Same, the law's lent. -/
import Derived.Test.YticilaoibjbgfaaOp6
import Derived.Lib.Bytes
set_option linter.unusedSimpArgs false
set_option linter.unusedVariables false
namespace Go.Proofs.Yticilaoibjbgfaa.Op
open Go.RowKit Go.Proofs.YticilaoibjbgfaaW.PrintWords Go.Proofs.YticilaoibjbgfaaW.PrintLast Go.Proofs.YticilaoibjbgfaaW.PrintMore Go.Proofs.Yticilaoibjbgfaa.POpenRaws Go.Proofs.Yticilaoibjbgfaa.Lib Go.Proofs.Yticilaoibjbgfaa.High Go.Proofs.Yticilaoibjbgfaa.Lex
/-! ### structs stored and loaded whole -/
/-- cells laid over others, one by one -/
def putAll : List Value → Nat → List Value → List Value
  | cs, _, [] => cs
  | cs, o, v :: r => putAll (cs.set o v) (o + 1) r
theorem putAll_eq : ∀ (vs pre rest : List Value), rest.length = vs.length → putAll (pre ++ rest) pre.length vs = pre ++ vs
  | [], pre, rest, h => by
    have : rest = [] := List.length_eq_zero_iff.1 h
    subst this
    rfl
  | v :: r, pre, [], h => by simp at h
  | v :: r, pre, y :: rest, h => by
    have h1 : (pre ++ y :: rest).set pre.length v = (pre ++ [v]) ++ rest := by simp
    have h2 := putAll_eq r (pre ++ [v]) rest (by simpa using h)
    rw [List.length_append, List.length_singleton] at h2
    rw [putAll, h1, h2]
    simp
theorem ob_setCells {g : Nat} : ∀ (vs : List Value) (o : Nat) (w : World) (cs : List Value), Ob g w cs → o + vs.length ≤ cs.length → Ob g (w.setCells g o vs) (putAll cs o vs)
  | [], o, w, cs, h, _ => h
  | v :: r, o, w, cs, h, hl => by
    simp only [List.length_cons] at hl
    exact ob_setCells r (o + 1) _ _ (h.set o (by omega) v) (by simp; omega)
theorem but_setCells (g : Nat) : ∀ (vs : List Value) (o : Nat) (w : World), But w.heap.size (fun k => k = g) w (w.setCells g o vs)
  | [], _, w => But.refl _ _ w
  | v :: r, o, w => by
    have h := but_setCells g r (o + 1) (w.setCell ⟨g, o, none⟩ v)
    have h2 := But.setCell (But.refl w.heap.size (fun k => k = g) w) (p := ⟨g, o, none⟩) (.inr rfl) v
    exact h2.trans (h.mono h2.size (fun _ _ e => e))
theorem storeS {g : Nat} {w : World} {ys : List Value} (cs : List Value) (T : TypeId) (h : Ob g w ys) (hl : ys.length = cs.length) (hi : (Try.prog.info? T).map (·.size) = some cs.length) (h1 : cs.toArray.all (·.oneCell') = true) :
    ∃ W', (storeVar T ⟨g, 0, none⟩ (.agg cs.toArray)).run Try.prog w = .ok () W' ∧ Ob g W' cs ∧ But w.heap.size (fun k => k = g) w W' := by
  have h2 := ob_setCells cs 0 w _ h (by omega)
  have h3 := putAll_eq cs [] ys hl
  simp only [List.nil_append, List.length_nil] at h3
  rw [h3] at h2
  refine ⟨_, run_storeVar_mid w g 0 T cs.toArray (fun j hj => ?_) (by simpa using hi) h1, h2, but_setCells g _ 0 w⟩
  have hj5 : j < ys.length := by rw [hl]; simpa using hj
  obtain ⟨h1, h2⟩ := h j _ (List.getElem?_eq_getElem hj5)
  rw [Nat.zero_add]
  exact ⟨by rw [h1]; rfl, h2⟩
theorem loadS {g : Nat} {w : World} {cs : List Value} (T : TypeId) {fs : Array Field} (h : Ob g w cs) (hu : Try.prog.underlying T = some (.struct fs)) (hi : (Try.prog.info? T).map (·.size) = some cs.length) : (loadVar T ⟨g, 0, none⟩).run Try.prog w = .ok (.agg cs.toArray) w :=
  run_loadVar_mid w g 0 T cs _ (fun j v hj => by rw [Nat.zero_add]; exact (h j v hj).1) hu rfl hi
section
variable {P : Program} {ops : Array Oper} {rest : List Oper} {a : Act} {Q : Exit → Act → World → Prop} {w : World}
theorem pl_load {o : Oper} (hg : o.guard = none) (T : TypeId) (x : Operand) (ho : o.op = .load T x) (ad : Addr) (v : Value) (hrun : (loadVar T ad).run P w = .ok v w) (hx : a.eval x = .pointer (some ad)) (h : wpList P ops Q rest (a.put o.dst v) w) : wpList P ops Q (o :: rest) a w :=
  wpList_plain hg fun K hK => by
    unfold Oper.wp execOp
    simp only [ho, hx, Instr.loadAt, Instr.sureAddr, Sem.run_bind, Sem.run_pure, Result.andThen_ok, hrun]
    exact hK _ _ h
theorem pl_store {o : Oper} (hg : o.guard = none) (T : TypeId) (x y : Operand) (ho : o.op = .store T x y) (ad : Addr) (v : Value) {w' : World} (hrun : (storeVar T ad v).run P w = .ok () w') (hx : a.eval x = .pointer (some ad)) (hy : a.eval y = v) (h : wpList P ops Q rest (a.put o.dst undef) w') : wpList P ops Q (o :: rest) a w :=
  wpList_plain hg fun K hK => by
    unfold Oper.wp execOp
    simp only [ho, hx, hy, Instr.storeAt, Instr.sureAddr, Sem.run_bind, Sem.run_pure, Result.andThen_ok, hrun]
    exact hK _ _ h
end
theorem results_cell {P : Program} {fn : Func} {p : Tmp} {ty : TypeId} (h : fn.results = #[.cell p ty]) (tmps : Array Value) (w : World) (g : Nat) (v : Value)
    (hp : tmps.getD p undef = .pointer (some ⟨g, 0, none⟩)) (hl : (loadVar ty ⟨g, 0, none⟩).run P w = .ok v w) :
    (results fn tmps).run P w = .ok v w := by
  have hp' : tmps[p]?.getD undef = .pointer (some ⟨g, 0, none⟩) := by simpa using hp
  simp [results, h, hp', asAddr, hl]
theorem results_cell_tmp {P : Program} {fn : Func} {p t : Tmp} {ty : TypeId} (h : fn.results = #[.cell p ty, .tmp t]) (tmps : Array Value) (w : World) (g : Nat) (v : Value)
    (hp : tmps.getD p undef = .pointer (some ⟨g, 0, none⟩)) (hl : (loadVar ty ⟨g, 0, none⟩).run P w = .ok v w) :
    (results fn tmps).run P w = .ok (.tuple #[v, tmps.getD t undef]) w := by
  have hp' : tmps[p]?.getD undef = .pointer (some ⟨g, 0, none⟩) := by simpa using hp
  simp [results, h, hp', asAddr, hl]
/-! ### strings of bytes -/
theorem conv (W : World) (A : Option Addr) (c : Nat) (xs : List Int) (h : Kd.C KB W A xs.length xs) : (convert 30 9 (.slice A xs.length c)).run Try.prog W = .ok (.string (strOfNums xs)) W :=
  Kd.C_string (dst := 9) Try.underlying30 Try.underlying5 Try.underlying9 h
theorem str_inj {xs ys : List Int} (hx : Byt xs) (hy : Byt ys) (h : strOfNums xs = strOfNums ys) : xs = ys := by
  have h1 : xs.map (fun n => UInt8.ofNat n.toNat) = ys.map (fun n => UInt8.ofNat n.toNat) := by rw [← strOfNums_data, ← strOfNums_data, h]
  have h2 := congrArg (List.map (fun b : UInt8 => (b.toNat : Int))) h1
  have h3 : ∀ zs : List Int, Byt zs → (zs.map (fun n => UInt8.ofNat n.toNat)).map (fun b : UInt8 => (b.toNat : Int)) = zs := fun zs hz => by
    rw [List.map_map]
    conv => rhs; rw [← List.map_id zs]
    refine List.map_congr_left (fun z hm => ?_)
    have := hz z hm
    have h4 : z.toNat < 256 := by omega
    simp only [Function.comp, UInt8.toNat_ofNat', id]
    omega
  rw [h3 xs hx, h3 ys hy] at h2
  exact h2
theorem str_ne {xs ys : List Int} (hx : Byt xs) (hy : Byt ys) (h : xs ≠ ys) : ((strOfNums xs).toList == (strOfNums ys).toList) = false := by
  rw [beq_eq_false_iff_ne]
  intro e
  rw [Go.Lib.toList_data, Go.Lib.toList_data] at e
  exact h (str_inj hx hy (by
    have e2 : (strOfNums xs).data = (strOfNums ys).data := Array.ext' e
    have : ∀ a b : ByteArray, a.data = b.data → a = b := fun a b h => by cases a; cases b; cases h; rfl
    exact this _ _ e2))

/-! ### Same -/
def eqC (x y : S54) : Bool := x.f0 == y.f0 && x.f1 == y.f1
def sameL (l m : List S54) : Bool := decide (l.length = m.length) && (List.range l.length).all (fun j => eqC (l.getD j z54) (m.getD j z54))
def sameB (x y : Opn) : Bool := decide (x.a = y.a) && (decide (x.h = y.h) && (decide (x.i = y.i) && sameL x.l y.l))
theorem sameL_no {l m : List S54} {j : Nat} (hj : j < l.length) (h : eqC (l.getD j z54) (m.getD j z54) = false) : sameL l m = false := by
  have : (List.range l.length).all (fun j => eqC (l.getD j z54) (m.getD j z54)) = false := by
    rw [List.all_eq_false]
    exact ⟨j, List.mem_range.2 hj, by rw [h]; simp⟩
  rw [sameL, this, Bool.and_false]
theorem sameL_yes {l m : List S54} (hl : l.length = m.length) (h : ∀ j, j < l.length → eqC (l.getD j z54) (m.getD j z54) = true) : sameL l m = true := by
  have : (List.range l.length).all (fun j => eqC (l.getD j z54) (m.getD j z54)) = true := by
    rw [List.all_eq_true]
    exact fun j hj => h j (List.mem_range.1 hj)
  rw [sameL, this, decide_eq_true hl, Bool.true_and]
theorem eqC_refl (x : S54) : eqC x x = true := by simp [eqC]
theorem sameL_refl (l : List S54) : sameL l l = true := sameL_yes rfl (fun j _ => eqC_refl _)
theorem sameB_refl (o : Opn) : sameB o o = true := by simp [sameB, sameL_refl]
set_option maxRecDepth 100000 in
set_option maxHeartbeats 8000000 in
theorem rsameC (x y : Opn) (hwx : x.Wf) (hwy : y.Wf) (A : Option Addr) (c : Nat) (B : Option Addr) (d : Nat) (w : World) (hx : Kd.C k54 w A x.l.length x.l) (hy : Kd.C k54 w B y.l.length y.l) (hll : x.l.length < 1000000) :
    Calls Try.prog 16 #[aO x A c, aO y B d] w fun e w' => e = .returned (.bool (sameB x y)) ∧ Below w.heap.size w w' := by
  have hob1 := Ob.new w [.int .u32 x.a, .int .u16 x.h, .int .u32 x.i, .slice A x.l.length c] _ rfl 26
  have hb1 := below_alloc (Below.refl w.heap.size w) (.cells #[.int .u32 x.a, .int .u16 x.h, .int .u32 x.i, .slice A x.l.length c] 26)
  obtain ⟨w1, hw1⟩ : ∃ W, w.alloc (.cells #[.int .u32 x.a, .int .u16 x.h, .int .u32 x.i, .slice A x.l.length c] 26) = W := ⟨_, rfl⟩
  have hs1 : w1.heap.size = w.heap.size + 1 := by rw [← hw1]; simp
  rw [hw1] at hob1 hb1
  have hob2 := Ob.new w1 [.int .u32 y.a, .int .u16 y.h, .int .u32 y.i, .slice B y.l.length d] _ rfl 26
  have hb2 := below_alloc (Below.refl w1.heap.size w1) (.cells #[.int .u32 y.a, .int .u16 y.h, .int .u32 y.i, .slice B y.l.length d] 26)
  obtain ⟨V, hV⟩ : ∃ W, w1.alloc (.cells #[.int .u32 y.a, .int .u16 y.h, .int .u32 y.i, .slice B y.l.length d] 26) = W := ⟨_, rfl⟩
  have hs2 : V.heap.size = w.heap.size + 1 + 1 := by rw [← hV, World.size_alloc, hs1]
  rw [hV, hs1] at hob2
  rw [hV] at hb2
  have hob1' := hob1.below hb2 (by omega)
  have HV := Aside0.mk hV
  have HW1 := Aside0.mk hw1
  have HS2 := Aside0.mk hs2
  have hbV := hb1.trans (hb2.mono hb1.size)
  have HBV := Aside0.mk hbV
  have HXV := Aside0.mk (Kd.C_below hx hbV)
  have HYV := Aside0.mk (Kd.C_below hy hbV)
  have HO1 := Aside0.mk hob1'
  have HO2 := Aside0.mk hob2
  have q0 := (hob1' 0 _ rfl).1
  have q1 := (hob1' 1 _ rfl).1
  have q2 := (hob1' 2 _ rfl).1
  have q3 := (hob1' 3 _ rfl).1
  have p0 := (hob2 0 _ rfl).1
  have p1 := (hob2 1 _ rfl).1
  have p2 := (hob2 2 _ rfl).1
  have p3 := (hob2 3 _ rfl).1
  have HWX := Aside0.mk hwx.2.2.2
  have HWY := Aside0.mk hwy.2.2.2
  clear hob1 hob1' hob2 hb1 hb2 hbV hV hx hy hs1 hs2 hwx hwy hw1
  cases h0 : ((x.a : Int) != (y.a : Int)) with
  | true =>
    have HE : Aside0 (sameB x y = false) := ⟨by rw [sameB, decide_eq_false (fun e => by rw [e] at h0; simp at h0), Bool.false_and]⟩
    go_enter Try.func16, Try.ntmps16
    go_wp2_with (rw [HW1.out, HV.out])
    go_ret
    exact ⟨by rw [HE.out]; rfl, HBV.out⟩
  | false =>
  have HE0 : Aside0 (x.a = y.a) := ⟨by simp at h0; omega⟩
  cases h1 : ((x.h : Int) != (y.h : Int)) with
  | true =>
    have HE : Aside0 (sameB x y = false) := ⟨by rw [sameB, decide_eq_false (fun e => by rw [e] at h1; simp at h1 : ¬ x.h = y.h), Bool.false_and, Bool.and_false]⟩
    go_enter Try.func16, Try.ntmps16
    go_wp2_with (rw [HW1.out, HV.out])
    go_ret
    exact ⟨by rw [HE.out]; rfl, HBV.out⟩
  | false =>
  have HE1 : Aside0 (x.h = y.h) := ⟨by simp at h1; omega⟩
  cases h2 : ((x.i : Int) != (y.i : Int)) with
  | true =>
    have HE : Aside0 (sameB x y = false) := ⟨by rw [sameB, decide_eq_false (fun e => by rw [e] at h2; simp at h2 : ¬ x.i = y.i), Bool.false_and, Bool.and_false, Bool.and_false]⟩
    go_enter Try.func16, Try.ntmps16
    go_wp2_with (rw [HW1.out, HV.out])
    go_ret
    exact ⟨by rw [HE.out]; rfl, HBV.out⟩
  | false =>
  have HE2 : Aside0 (x.i = y.i) := ⟨by simp at h2; omega⟩
  cases h3 : ((x.l.length : Int) != (y.l.length : Int)) with
  | true =>
    have HE : Aside0 (sameB x y = false) := ⟨by rw [sameB, sameL, decide_eq_false (fun e => by rw [e] at h3; simp at h3 : ¬ x.l.length = y.l.length)]; simp⟩
    go_enter Try.func16, Try.ntmps16
    go_wp2_with (rw [HW1.out, HV.out])
    go_ret
    exact ⟨by rw [HE.out]; rfl, HBV.out⟩
  | false =>
  have hlen : x.l.length = y.l.length := by simp at h3; omega
  have HEQ : Aside0 (sameB x y = sameL x.l y.l) := ⟨by rw [sameB, decide_eq_true HE0.out, decide_eq_true HE1.out, decide_eq_true HE2.out]; rfl⟩
  have HLN := Aside0.mk hlen
  clear hlen
  rw [HEQ.out]
  go_enter Try.func16, Try.ntmps16
  go_wp2_with (rw [HW1.out, HV.out])
  clear q0 q1 q2 q3 p0 p1 p2 p3 h0 h1 h2 h3
  go_loopg [5] x.l.length (fun gk s5 W => ∃ k : Nat, k ≤ x.l.length ∧ x.l.length - k ≤ gk ∧ s5 = .int .i64 k ∧ Aside0 (∀ j, j < k → eqC (x.l.getD j z54) (y.l.getD j z54) = true) ∧ Aside0 (Below V.heap.size V W))
  case atStart => exact ⟨0, by omega, by omega, rfl, ⟨fun j hj => by omega⟩, ⟨Below.refl _ _⟩⟩
  case round =>
    obtain ⟨k, hk, hgk, rfl, HN, HB⟩ := hrel
    have ho1 := HO1.out.below HB.out (by rw [HS2.out]; omega)
    have ho2 := HO2.out.below HB.out (by rw [HS2.out]; omega)
    have q3 := (ho1 3 _ rfl).1
    have p3 := (ho2 3 _ rfl).1
    have HBW := Aside0.mk (HBV.out.trans (HB.out.mono HBV.out.size))
    by_cases hlt : k < x.l.length
    · obtain ⟨b, o, A1, c1, rfl, e0, e1, _, hc1⟩ := C_cap (Kd.C_below HXV.out HB.out) k hlt
      obtain ⟨b', o', A2, c2, rfl, f0, f1, _, hc2⟩ := C_cap (Kd.C_below HYV.out HB.out) k (by have := HLN.out; omega)
      obtain ⟨s, hs⟩ : ∃ s, x.l.getD k z54 = s := ⟨_, rfl⟩
      obtain ⟨t, ht⟩ : ∃ s, y.l.getD k z54 = s := ⟨_, rfl⟩
      have hbs : Byt s.f1 := by rw [← hs]; exact (HWX.out _ (getD_mem _ _ _ hlt)).2
      have hbt : Byt t.f1 := by rw [← ht]; exact (HWY.out _ (getD_mem _ _ _ (by have := HLN.out; omega))).2
      rw [hs] at e0 e1 hc1
      rw [ht] at f0 f1 hc2
      have HCE : Aside0 (∀ U : World, Below wr.heap.size wr U → U.cell? ⟨w.heap.size, 3, none⟩ = some (.slice (some ⟨b, o, none⟩) x.l.length c) ∧ U.cell? ⟨w.heap.size + 1, 3, none⟩ = some (.slice (some ⟨b', o', none⟩) y.l.length d) ∧ U.cell? ⟨b, o + k * 2, none⟩ = some (.int .u8 s.f0) ∧ U.cell? ⟨b, o + k * 2 + 1, none⟩ = some (.slice A1 s.f1.length c1) ∧ U.cell? ⟨b', o' + k * 2, none⟩ = some (.int .u8 t.f0) ∧ U.cell? ⟨b', o' + k * 2 + 1, none⟩ = some (.slice A2 t.f1.length c2) ∧ (convert 30 9 (.slice A1 s.f1.length c1)).run Try.prog U = .ok (.string (strOfNums s.f1)) U ∧ (convert 30 9 (.slice A2 t.f1.length c2)).run Try.prog U = .ok (.string (strOfNums t.f1)) U) :=
        ⟨fun U hU => ⟨pw_cell_below hU q3, pw_cell_below hU p3, pw_cell_below hU e0, pw_cell_below hU e1, pw_cell_below hU f0, pw_cell_below hU f1, conv U _ _ _ (Kd.C_below hc1 hU), conv U _ _ _ (Kd.C_below hc2 hU)⟩⟩
      have hlI : (k : Int) < (x.l.length : Int) := by omega
      have hlJ : (k : Int) < (y.l.length : Int) := by have := HLN.out; omega
      have HLT := Aside0.mk hlt
      have HSE := Aside0.mk hs
      have HTE := Aside0.mk ht
      clear e0 e1 f0 f1 hc1 hc2 ho1 ho2 hs ht hlt p3
      cases hf : (s.f0 != t.f0) with
      | true =>
        have HNO := Aside0.mk (sameL_no (m := y.l) HLT.out (by rw [HSE.out, HTE.out, eqC, beq_false_of_ne (bne_iff_ne.1 hf), Bool.false_and]))
        go_wp2_with fail
        refine region [(0, .p), (2, .p), (6, .p), (8, .p), (1, .t), (3, .p), (4, .p), (5, .t), (7, .t), (9, .p), (10, .p), (11, .t), (12, .p), (13, .p), (14, .p), (15, .p), (16, .p), (17, .p), (18, .p), (19, .p), (20, .p), (21, .p), (22, .p), (23, .p), (24, .p), (25, .p), (26, .p), (27, .p), (28, .p), (29, .p)] (fun U => U.cell? ⟨w.heap.size, 3, none⟩ = some (.slice (some ⟨b, o, none⟩) x.l.length c) ∧ U.cell? ⟨w.heap.size + 1, 3, none⟩ = some (.slice (some ⟨b', o', none⟩) y.l.length d) ∧ U.cell? ⟨b, o + k * 2, none⟩ = some (.int .u8 s.f0) ∧ U.cell? ⟨b, o + k * 2 + 1, none⟩ = some (.slice A1 s.f1.length c1) ∧ U.cell? ⟨b', o' + k * 2, none⟩ = some (.int .u8 t.f0) ∧ U.cell? ⟨b', o' + k * 2 + 1, none⟩ = some (.slice A2 t.f1.length c2) ∧ (convert 30 9 (.slice A1 s.f1.length c1)).run Try.prog U = .ok (.string (strOfNums s.f1)) U ∧ (convert 30 9 (.slice A2 t.f1.length c2)).run Try.prog U = .ok (.string (strOfNums t.f1)) U) (by kernel_rfl) (by kernel_rfl) (fun _ _ _ _ _ h => h) (HCE.out _ (below_drew (Below.refl _ _))) (fun hHeld => ?_)
        iterate 4 (refine lex_p rfl rfl rfl (by intro w'; go_simp; with_reducible rfl) (by simp only [Act.put, List.setIfInBounds_toArray, List.set_cons_zero, List.set_cons_succ, i64_w, i32_w]; rfl) ?_)
        (refine lex_t rfl rfl rfl (by rintro w' ⟨s0, s1, s2, s3, s4, s5, s6, s7⟩; go_simp; with_reducible rfl) (by simp only [Act.put, List.setIfInBounds_toArray, List.set_cons_zero, List.set_cons_succ, i64_w, i32_w]; rfl) ?_)
        iterate 2 (refine lex_p rfl rfl rfl (by intro w'; go_simp; with_reducible rfl) (by simp only [Act.put, List.setIfInBounds_toArray, List.set_cons_zero, List.set_cons_succ, i64_w, i32_w]; rfl) ?_)
        iterate 2 (refine lex_t rfl rfl rfl (by rintro w' ⟨s0, s1, s2, s3, s4, s5, s6, s7⟩; go_simp; with_reducible rfl) (by simp only [Act.put, List.setIfInBounds_toArray, List.set_cons_zero, List.set_cons_succ, i64_w, i32_w]; rfl) ?_)
        iterate 2 (refine lex_p rfl rfl rfl (by intro w'; go_simp; with_reducible rfl) (by simp only [Act.put, List.setIfInBounds_toArray, List.set_cons_zero, List.set_cons_succ, i64_w, i32_w]; rfl) ?_)
        (refine lex_t rfl rfl rfl (by rintro w' ⟨s0, s1, s2, s3, s4, s5, s6, s7⟩; go_simp; with_reducible rfl) (by simp only [Act.put, List.setIfInBounds_toArray, List.set_cons_zero, List.set_cons_succ, i64_w, i32_w]; rfl) ?_)
        iterate 2 (refine lex_p rfl rfl rfl (by intro w'; go_simp; with_reducible rfl) (by simp only [Act.put, List.setIfInBounds_toArray, List.set_cons_zero, List.set_cons_succ, i64_w, i32_w]; rfl) ?_)
        iterate 15 (refine lex_off rfl rfl rfl (by simp only [Act.put, List.setIfInBounds_toArray, List.set_cons_zero, List.set_cons_succ, i64_w, i32_w]; rfl) ?_)
        (refine lex_p rfl rfl rfl (by intro w'; go_simp; with_reducible rfl) (by simp only [Act.put, List.setIfInBounds_toArray, List.set_cons_zero, List.set_cons_succ, i64_w, i32_w]; rfl) ?_)
        refine lex_nil ?_
        go_wp2_with fail
        go_ret
        exact ⟨by rw [HNO.out]; rfl, below_drew HBW.out⟩
      | false =>
        obtain ⟨S1, hS1⟩ : ∃ S, strOfNums s.f1 = S := ⟨_, rfl⟩
        obtain ⟨S2, hS2⟩ : ∃ S, strOfNums t.f1 = S := ⟨_, rfl⟩
        rw [hS1, hS2] at HCE
        by_cases hg : s.f1 = t.f1
        · have hsame : (S1.toList == S2.toList) = true := by rw [← hS1, ← hS2, hg, beq_self_eq_true]
          have HOK : Aside0 (eqC (x.l.getD k z54) (y.l.getD k z54) = true) := ⟨by
            rw [HSE.out, HTE.out, eqC, hg]
            have : s.f0 = t.f0 := by simpa using hf
            simp [this]⟩
          clear hS1 hS2 hg
          go_wp2_with fail
          refine region [(0, .p), (2, .p), (6, .p), (8, .p), (1, .t), (3, .p), (4, .p), (5, .t), (7, .t), (9, .p), (10, .p), (11, .t), (12, .p), (13, .p), (14, .p), (16, .p), (21, .p), (23, .p), (15, .t), (17, .p), (18, .p), (19, .t), (20, .t), (22, .t), (24, .p), (25, .p), (26, .t), (27, .t), (28, .p), (29, .p)] (fun U => U.cell? ⟨w.heap.size, 3, none⟩ = some (.slice (some ⟨b, o, none⟩) x.l.length c) ∧ U.cell? ⟨w.heap.size + 1, 3, none⟩ = some (.slice (some ⟨b', o', none⟩) y.l.length d) ∧ U.cell? ⟨b, o + k * 2, none⟩ = some (.int .u8 s.f0) ∧ U.cell? ⟨b, o + k * 2 + 1, none⟩ = some (.slice A1 s.f1.length c1) ∧ U.cell? ⟨b', o' + k * 2, none⟩ = some (.int .u8 t.f0) ∧ U.cell? ⟨b', o' + k * 2 + 1, none⟩ = some (.slice A2 t.f1.length c2) ∧ (convert 30 9 (.slice A1 s.f1.length c1)).run Try.prog U = .ok (.string S1) U ∧ (convert 30 9 (.slice A2 t.f1.length c2)).run Try.prog U = .ok (.string S2) U) (by kernel_rfl) (by kernel_rfl) (fun _ _ _ _ _ h => h) (HCE.out _ (below_drew (Below.refl _ _))) (fun hHeld => ?_)
          iterate 4 (refine lex_p rfl rfl rfl (by intro w'; go_simp; with_reducible rfl) (by simp only [Act.put, List.setIfInBounds_toArray, List.set_cons_zero, List.set_cons_succ, i64_w, i32_w]; rfl) ?_)
          (refine lex_t rfl rfl rfl (by rintro w' ⟨s0, s1, s2, s3, s4, s5, s6, s7⟩; go_simp; with_reducible rfl) (by simp only [Act.put, List.setIfInBounds_toArray, List.set_cons_zero, List.set_cons_succ, i64_w, i32_w]; rfl) ?_)
          iterate 2 (refine lex_p rfl rfl rfl (by intro w'; go_simp; with_reducible rfl) (by simp only [Act.put, List.setIfInBounds_toArray, List.set_cons_zero, List.set_cons_succ, i64_w, i32_w]; rfl) ?_)
          iterate 2 (refine lex_t rfl rfl rfl (by rintro w' ⟨s0, s1, s2, s3, s4, s5, s6, s7⟩; go_simp; with_reducible rfl) (by simp only [Act.put, List.setIfInBounds_toArray, List.set_cons_zero, List.set_cons_succ, i64_w, i32_w]; rfl) ?_)
          iterate 2 (refine lex_p rfl rfl rfl (by intro w'; go_simp; with_reducible rfl) (by simp only [Act.put, List.setIfInBounds_toArray, List.set_cons_zero, List.set_cons_succ, i64_w, i32_w]; rfl) ?_)
          (refine lex_t rfl rfl rfl (by rintro w' ⟨s0, s1, s2, s3, s4, s5, s6, s7⟩; go_simp; with_reducible rfl) (by simp only [Act.put, List.setIfInBounds_toArray, List.set_cons_zero, List.set_cons_succ, i64_w, i32_w]; rfl) ?_)
          iterate 6 (refine lex_p rfl rfl rfl (by intro w'; go_simp; with_reducible rfl) (by simp only [Act.put, List.setIfInBounds_toArray, List.set_cons_zero, List.set_cons_succ, i64_w, i32_w]; rfl) ?_)
          (refine lex_t rfl rfl rfl (by rintro w' ⟨s0, s1, s2, s3, s4, s5, s6, s7⟩; go_simp; with_reducible rfl) (by simp only [Act.put, List.setIfInBounds_toArray, List.set_cons_zero, List.set_cons_succ, i64_w, i32_w]; rfl) ?_)
          iterate 2 (refine lex_p rfl rfl rfl (by intro w'; go_simp; with_reducible rfl) (by simp only [Act.put, List.setIfInBounds_toArray, List.set_cons_zero, List.set_cons_succ, i64_w, i32_w]; rfl) ?_)
          iterate 3 (refine lex_t rfl rfl rfl (by rintro w' ⟨s0, s1, s2, s3, s4, s5, s6, s7⟩; go_simp; with_reducible rfl) (by simp only [Act.put, List.setIfInBounds_toArray, List.set_cons_zero, List.set_cons_succ, i64_w, i32_w]; rfl) ?_)
          iterate 2 (refine lex_p rfl rfl rfl (by intro w'; go_simp; with_reducible rfl) (by simp only [Act.put, List.setIfInBounds_toArray, List.set_cons_zero, List.set_cons_succ, i64_w, i32_w]; rfl) ?_)
          iterate 2 (refine lex_t rfl rfl rfl (by rintro w' ⟨s0, s1, s2, s3, s4, s5, s6, s7⟩; go_simp; with_reducible rfl) (by simp only [Act.put, List.setIfInBounds_toArray, List.set_cons_zero, List.set_cons_succ, i64_w, i32_w]; rfl) ?_)
          iterate 2 (refine lex_p rfl rfl rfl (by intro w'; go_simp; with_reducible rfl) (by simp only [Act.put, List.setIfInBounds_toArray, List.set_cons_zero, List.set_cons_succ, i64_w, i32_w]; rfl) ?_)
          refine lex_nil ?_
          go_wp2_with fail
          go_roundg (gk - 1)
          case measure => have := HLT.out; omega
          case rel => exact ⟨k + 1, by have := HLT.out; omega, by omega, by go_num, ⟨fun j hj => by
            by_cases e : j = k
            · rw [e]
              exact HOK.out
            · exact HN.out j (by omega)⟩, ⟨below_drew HB.out⟩⟩
        · have hsame : (S1.toList == S2.toList) = false := by rw [← hS1, ← hS2]; exact str_ne hbs hbt hg
          have HNO := Aside0.mk (sameL_no (m := y.l) HLT.out (by rw [HSE.out, HTE.out, eqC, beq_false_of_ne hg, Bool.and_false]))
          clear hS1 hS2 hg
          go_wp2_with fail
          refine region [(0, .p), (2, .p), (6, .p), (8, .p), (1, .t), (3, .p), (4, .p), (5, .t), (7, .t), (9, .p), (10, .p), (11, .t), (12, .p), (13, .p), (14, .p), (16, .p), (21, .p), (23, .p), (15, .t), (17, .p), (18, .p), (19, .t), (20, .t), (22, .t), (24, .p), (25, .p), (26, .t), (27, .t), (28, .p), (29, .p)] (fun U => U.cell? ⟨w.heap.size, 3, none⟩ = some (.slice (some ⟨b, o, none⟩) x.l.length c) ∧ U.cell? ⟨w.heap.size + 1, 3, none⟩ = some (.slice (some ⟨b', o', none⟩) y.l.length d) ∧ U.cell? ⟨b, o + k * 2, none⟩ = some (.int .u8 s.f0) ∧ U.cell? ⟨b, o + k * 2 + 1, none⟩ = some (.slice A1 s.f1.length c1) ∧ U.cell? ⟨b', o' + k * 2, none⟩ = some (.int .u8 t.f0) ∧ U.cell? ⟨b', o' + k * 2 + 1, none⟩ = some (.slice A2 t.f1.length c2) ∧ (convert 30 9 (.slice A1 s.f1.length c1)).run Try.prog U = .ok (.string S1) U ∧ (convert 30 9 (.slice A2 t.f1.length c2)).run Try.prog U = .ok (.string S2) U) (by kernel_rfl) (by kernel_rfl) (fun _ _ _ _ _ h => h) (HCE.out _ (below_drew (Below.refl _ _))) (fun hHeld => ?_)
          iterate 4 (refine lex_p rfl rfl rfl (by intro w'; go_simp; with_reducible rfl) (by simp only [Act.put, List.setIfInBounds_toArray, List.set_cons_zero, List.set_cons_succ, i64_w, i32_w]; rfl) ?_)
          (refine lex_t rfl rfl rfl (by rintro w' ⟨s0, s1, s2, s3, s4, s5, s6, s7⟩; go_simp; with_reducible rfl) (by simp only [Act.put, List.setIfInBounds_toArray, List.set_cons_zero, List.set_cons_succ, i64_w, i32_w]; rfl) ?_)
          iterate 2 (refine lex_p rfl rfl rfl (by intro w'; go_simp; with_reducible rfl) (by simp only [Act.put, List.setIfInBounds_toArray, List.set_cons_zero, List.set_cons_succ, i64_w, i32_w]; rfl) ?_)
          iterate 2 (refine lex_t rfl rfl rfl (by rintro w' ⟨s0, s1, s2, s3, s4, s5, s6, s7⟩; go_simp; with_reducible rfl) (by simp only [Act.put, List.setIfInBounds_toArray, List.set_cons_zero, List.set_cons_succ, i64_w, i32_w]; rfl) ?_)
          iterate 2 (refine lex_p rfl rfl rfl (by intro w'; go_simp; with_reducible rfl) (by simp only [Act.put, List.setIfInBounds_toArray, List.set_cons_zero, List.set_cons_succ, i64_w, i32_w]; rfl) ?_)
          (refine lex_t rfl rfl rfl (by rintro w' ⟨s0, s1, s2, s3, s4, s5, s6, s7⟩; go_simp; with_reducible rfl) (by simp only [Act.put, List.setIfInBounds_toArray, List.set_cons_zero, List.set_cons_succ, i64_w, i32_w]; rfl) ?_)
          iterate 6 (refine lex_p rfl rfl rfl (by intro w'; go_simp; with_reducible rfl) (by simp only [Act.put, List.setIfInBounds_toArray, List.set_cons_zero, List.set_cons_succ, i64_w, i32_w]; rfl) ?_)
          (refine lex_t rfl rfl rfl (by rintro w' ⟨s0, s1, s2, s3, s4, s5, s6, s7⟩; go_simp; with_reducible rfl) (by simp only [Act.put, List.setIfInBounds_toArray, List.set_cons_zero, List.set_cons_succ, i64_w, i32_w]; rfl) ?_)
          iterate 2 (refine lex_p rfl rfl rfl (by intro w'; go_simp; with_reducible rfl) (by simp only [Act.put, List.setIfInBounds_toArray, List.set_cons_zero, List.set_cons_succ, i64_w, i32_w]; rfl) ?_)
          iterate 3 (refine lex_t rfl rfl rfl (by rintro w' ⟨s0, s1, s2, s3, s4, s5, s6, s7⟩; go_simp; with_reducible rfl) (by simp only [Act.put, List.setIfInBounds_toArray, List.set_cons_zero, List.set_cons_succ, i64_w, i32_w]; rfl) ?_)
          iterate 2 (refine lex_p rfl rfl rfl (by intro w'; go_simp; with_reducible rfl) (by simp only [Act.put, List.setIfInBounds_toArray, List.set_cons_zero, List.set_cons_succ, i64_w, i32_w]; rfl) ?_)
          iterate 2 (refine lex_t rfl rfl rfl (by rintro w' ⟨s0, s1, s2, s3, s4, s5, s6, s7⟩; go_simp; with_reducible rfl) (by simp only [Act.put, List.setIfInBounds_toArray, List.set_cons_zero, List.set_cons_succ, i64_w, i32_w]; rfl) ?_)
          iterate 2 (refine lex_p rfl rfl rfl (by intro w'; go_simp; with_reducible rfl) (by simp only [Act.put, List.setIfInBounds_toArray, List.set_cons_zero, List.set_cons_succ, i64_w, i32_w]; rfl) ?_)
          refine lex_nil ?_
          go_wp2_with fail
          go_ret
          exact ⟨by rw [HNO.out]; rfl, below_drew HBW.out⟩
    · obtain rfl : k = x.l.length := by omega
      have HYS := Aside0.mk (sameL_yes (m := y.l) HLN.out HN.out)
      have hlI : ¬ ((x.l.length : Int) < (x.l.length : Int)) := by omega
      go_wp2_with fail
      go_ret
      exact ⟨by rw [HYS.out]; rfl, HBW.out⟩
end Go.Proofs.Yticilaoibjbgfaa.Op
