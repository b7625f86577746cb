/- Keys: the reference's Prefer; told. -/
import Derived.Test.YtndjhnipahkclaaKe18
set_option linter.unusedSimpArgs false
set_option linter.unusedVariables false
namespace Go.Proofs.Ytndjhnipahkclaa.Ke
open Go.RowKit Go.Proofs.YtndjhnipahkclaaW.PrintWords Go.Proofs.YtndjhnipahkclaaW.PrintLast Go.Proofs.YtndjhnipahkclaaW.PrintMore Go.Proofs.Ytndjhnipahkclaa.PKeysPlay Go.Proofs.Ytndjhnipahkclaa.Lex Go.Proofs.Ytndjhnipahkclaa.Lib
theorem info72 : (Try.prog.info? 72).map (fun i => (i.zero, i.size, i.bytes)) = some (some (.agg #[.int .u32 0, .int .u8 0]), 2, 8) := by kernel_rfl
/-- a row of wishes in a block of one's own -/
def OW (b : Nat) (w : World) (v : Value) (l : List S72) : Prop := Kd.R k72 72 w b (fun _ => True) v l
theorem OW.nil (b : Nat) (w : World) : OW b w (.slice none 0 0) [] := Kd.R_nil _ _ _ _ _
theorem OW.reads {b : Nat} {w : World} {v : Value} {l : List S72} (h : OW b w v l) : ∃ A c, v = .slice A l.length c ∧ l.length ≤ c ∧ Kd.C k72 w A l.length l := Kd.R_reads h
theorem OW.blk {b : Nat} {w : World} {A : Option Addr} {n c : Nat} {l : List S72} (h : OW b w (.slice A n c) l) : ∀ a, A = some a → b ≤ a.block ∧ a.block < w.heap.size := fun a ha => by
  subst ha
  obtain ⟨_, h1, h2, _⟩ := (Kd.R_bound h).1 a.block rfl
  exact ⟨h1, h2⟩
section
variable {ops : Array Oper} {rest : List Oper} {o : Oper} {a : Act} {Q : Exit → Act → World → Prop}
theorem ap_wish {W : World} (b : Nat) (s x : Operand) (hgd : o.guard = none)
    (ho : o.op = .call { callee := .builtin .append, args := #[s, x], argTypes := #[28, 28] })
    {v : Value} {xs ys : List S72} {A : Option Addr} {m c : Nat} (HO : OW b W v xs) (HR : Kd.C k72 W A m ys)
    (hs : a.eval s = v) (hx : a.eval x = .slice A m c) (hb : b ≤ W.heap.size) (hl : xs.length + m ≤ 1000000)
    (h : ∀ v1 w1, OW b w1 v1 (xs ++ ys) → Below b W w1 → wpList Try.prog ops Q rest (a.put o.dst v1) w1) :
    wpList Try.prog ops Q (o :: rest) a W :=
  Kd.R_append_rows (w0 := W) k72 (Rr := fun x cs => k72.K W x cs) b hgd s x 28 72 (.agg #[.int .u32 0, .int .u8 0]) 8 ho Try.underlying28 info72 rfl (by show 0 < 2; decide) (by decide) v xs ys A m c (fun _ => True) (fun _ => False) hs hx HO HR (fun x cs hK => by rw [k72_open hK]; exact k72_mkM _ _ _ _) (fun _ h => h.elim) (fun _ _ => trivial) (Below.refl _ _) hb (by omega) (fun v1 w1 h1 h2 _ _ => h v1 w1 h1 h2)
end
theorem lit72 (w : World) (x : S72) : Kd.C k72 (w.alloc (.cells #[.int .u32 x.f0, .int .u8 x.f1] 72)) (some ⟨w.heap.size, 0, none⟩) 1 [x] := by
  have h : OW w.heap.size (w.alloc (.cells [.int .u32 x.f0, .int .u8 x.f1].toArray 72)) (.slice (some ⟨w.heap.size, 0, none⟩) [x].length [x].length) [x] :=
    ⟨fun k hk => trivial, OwnRow.lit (ps := [x]) (inner := [.int .u32 x.f0, .int .u8 x.f1]) w w.heap.size ⟨rfl, fun j p hj => by
      cases j with
      | zero =>
        have : p = x := by simpa using hj.symm
        subst this
        exact k72_mkM _ _ _ _
      | succ j => simp at hj⟩ (Nat.le_refl _) (by simp)⟩
  obtain ⟨A, c, e, _, hC⟩ := h.reads
  injection e with e1 e2 e3
  rw [e1]
  exact hC
theorem prefTail (w2 w4 w V : World) (A : Option Addr) (l : List S36) (W : List S72) (A5 B : Option Addr) (c c5 d : Nat) (peer send : Int) (hP2 : Ob w.heap.size w2 [.slice A l.length c, .slice B W.length d]) (hP4 : Ob (w.heap.size + 1) w2 [.slice none 0 0, .slice none 0 0]) (hB2 : Below w.heap.size w w2) (hB4 : Below w2.heap.size w2 w4) (z2 : w.heap.size + 1 + 1 ≤ w2.heap.size) (hO : OW w2.heap.size w4 (.slice A5 ([] ++ W ++ [S72.mk peer send]).length c5) ([] ++ W ++ [S72.mk peer send])) :
    ∃ W6, Aside0 ((loadVar 30 ⟨w.heap.size, 0, none⟩).run Try.prog (w4.setCell ⟨w.heap.size, 1, none⟩ (.slice A5 (W.length + 1) c5)) = .ok (.agg #[.slice A l.length c, .slice A5 (W.length + 1) c5]) (w4.setCell ⟨w.heap.size, 1, none⟩ (.slice A5 (W.length + 1) c5))) ∧
      Aside0 ((storeVar 30 ⟨w.heap.size + 1, 0, none⟩ (.agg #[.slice A l.length c, .slice A5 (W.length + 1) c5])).run Try.prog (w4.setCell ⟨w.heap.size, 1, none⟩ (.slice A5 (W.length + 1) c5)) = .ok () W6) ∧
      Aside0 ((loadVar 30 ⟨w.heap.size + 1, 0, none⟩).run Try.prog W6 = .ok (.agg #[.slice A l.length c, .slice A5 (W.length + 1) c5]) W6) ∧ Aside0 (Below w.heap.size w W6) ∧ Aside0 (OW w2.heap.size W6 (.slice A5 (W ++ [S72.mk peer send]).length c5) (W ++ [S72.mk peer send])) := by
  have hob : Ob w.heap.size (w4.setCell ⟨w.heap.size, 1, none⟩ (.slice A5 (W.length + 1) c5)) [.slice A l.length c, .slice A5 (W.length + 1) c5] := (hP2.below hB4 hP2.lt).set 1 (by simp) _
  have hq4 := (hP4.below hB4 hP4.lt).far (q := ⟨w.heap.size, 1, none⟩) (by show w.heap.size + 1 ≠ w.heap.size; omega) (.slice A5 (W.length + 1) c5)
  obtain ⟨W6, f1, f2, f3, f4⟩ := fin30 hob hq4 rfl rfl
  have B5 := hB2.trans (hB4.mono hB2.size)
  have hs5 : (w4.setCell ⟨w.heap.size, 1, none⟩ (.slice A5 (W.length + 1) c5)).heap.size = w4.heap.size := by simp [World.setCell]
  have b56 : Below w.heap.size w4 (w4.setCell ⟨w.heap.size, 1, none⟩ (.slice A5 (W.length + 1) c5)) := (But.setCell (But.refl w.heap.size (fun k => False) w4) (p := ⟨w.heap.size, 1, none⟩) (.inl (Nat.le_refl _)) _).below (Nat.le_refl _) (fun k hk h => h)
  have B6 := B5.trans b56
  refine ⟨W6, ⟨f1⟩, ⟨f2⟩, ⟨f3⟩, ⟨B6.trans (f4.below B6.size (fun k hk e => by have : k = w.heap.size + 1 := e; omega))⟩, ⟨?_⟩⟩
  refine Kd.R_mono (Kd.R_step (Kd.R_bound hO) (fun k hk hlt => ?_)) (fun k hk => hk.1)
  have hk3 : w2.heap.size ≤ k := hk.2.1
  exact (f4.block k (by rw [hs5]; exact hlt) (by show ¬ k = w.heap.size + 1; omega)).trans (Below.heap_setCell _ _ _ _ (by show k ≠ w.heap.size; omega))
section
variable {T : Nat → Prop} {w : World} {g : Value} {l : List S36} {W : List S72}
set_option maxHeartbeats 8000000 in
theorem preferR (h : GR T w g l W) (hl : l.length < 100000) (hW : W.length < 100000) (peer send : Int) : Calls Try.prog 24 #[g, .int .u32 peer, .int .u8 send] w fun e w' => ∃ v r, e = .returned (.tuple #[v, .int .i64 r]) ∧ (GR (Gr T w w') w' v l (prfS l W peer send).1 ∧ r = (prfS l W peer send).2) ∧ Below w.heap.size w w' := by
  have HGR := Aside0.mk h
  obtain ⟨A, c, B, d, rfl, h1, h2, h3, h4, h5, h6⟩ := h
  have HTA := Aside0.mk h5
  have HTB := Aside0.mk h6
  obtain ⟨V, hV, o2, o4, hbV, hsz⟩ := twoV w A B l W c d
  have HV := Aside0.mk hV
  have HO2 := Aside0.mk o2
  have HO4 := Aside0.mk o4
  have HBV := Aside0.mk hbV
  have HSZ := Aside0.mk hsz
  have HGV := Aside0.mk (HGR.out.below hbV)
  have HC2 := Aside0.mk h2
  have HC4 := Aside0.mk h4
  have HLC := Aside0.mk h1
  have HLD := Aside0.mk h3
  have HSR := fun (U : World) (hU : GR T U (.agg #[.slice A l.length c, .slice B W.length d]) l W) => sendR hU (by omega) peer send
  have HR0 : Aside0 (prfS l W peer send = if idx (sendP peer send) l < 0 then (W, 5) else (W ++ [S72.mk peer send], 0)) := ⟨rfl⟩
  obtain ⟨R, hR⟩ : ∃ R, prfS l W peer send = R := ⟨_, rfl⟩
  rw [hR] at HR0 ⊢
  obtain ⟨qs, hqs⟩ : ∃ q, idx (sendP peer send) l = q := ⟨_, rfl⟩
  rw [hqs] at HSR HR0
  have HSR := Aside0.mk HSR
  have HWL := Aside0.mk hW
  clear h1 h2 h3 h4 h5 h6 hV o2 o4 hbV hsz hqs hR
  go_enter Try.func24, Try.ntmps24
  go_wp2_with (refine pl_load rfl 30 (.tmp 3) rfl _ _ (load30 (by rw [HV.out]; exact HO2.out)) rfl ?_)
  rw [HV.out]
  refine (HSR.out V HGV.out).mono ?_
  rintro e w2 ⟨rfl, hb2⟩
  have HP2 := Aside0.mk (HO2.out.below hb2 HO2.out.lt)
  have HP4 := Aside0.mk (HO4.out.below hb2 HO4.out.lt)
  have HB2 := Aside0.mk (HBV.out.trans (hb2.mono HBV.out.size))
  have z2 : w.heap.size + 1 + 1 ≤ w2.heap.size := by have := HSZ.out; have := hb2.size; omega
  clear hb2
  by_cases hneg : qs < 0
  · have hnd : decide (qs < 0) = true := decide_eq_true hneg
    obtain ⟨W3, f1, f2, f3, f4⟩ := fin30 HP2.out HP4.out rfl rfl
    have F1 := Aside0.mk f1
    have F2 := Aside0.mk f2
    have F3 := Aside0.mk f3
    have HB3 := Aside0.mk (HB2.out.trans (f4.below HB2.out.size (fun k hk e => by have : k = w.heap.size + 1 := e; omega)))
    clear f1 f2 f3 f4
    go_wp2_with (first | (refine pl_load rfl 30 _ rfl _ _ F1.out rfl ?_) | (refine pl_store rfl 30 _ _ rfl _ _ F2.out rfl rfl ?_))
    refine bodyPost_ret (results_row_tmp rfl _ _ (w.heap.size + 1) _ rfl F3.out) rfl ?_
    refine ⟨_, _, rfl, ?_, HB3.out⟩
    rw [HR0.out, if_pos hneg]
    exact ⟨HGR.out.old HB3.out, rfl⟩
  · have hnd : decide (qs < 0) = false := decide_eq_false hneg
    have HD3 := Aside0.mk (Kd.C_below HC4.out HB2.out)
    have hcb := (HP2.out 1 _ rfl).1
    have hW0 : W.length ≤ 1000000 := by have := HWL.out; omega
    have hWL := HWL.out
    go_wp2_with (first | ((with_reducible refine gate_builtin (b := .append) (xs := #[.const (.slice none 0 0), .tmp 15]) rfl ?_); refine ap_wish w2.heap.size _ _ rfl rfl (OW.nil _ _) HD3.out rfl rfl (Nat.le_refl _) (by show 0 + W.length ≤ 1000000; omega) ?_; intro v3 w3 ho3 hb3; have HO3 := Aside0.mk ho3; have HB3 := Aside0.mk hb3; clear ho3 hb3) | ((with_reducible refine gate_builtin (b := .append) (xs := #[.tmp 16, .tmp 20]) rfl ?_); refine ap_wish (W := w3.alloc (.cells #[.int .u32 peer, .int .u8 send] 72)) w2.heap.size _ _ rfl rfl (Kd.R_below HO3.out (below_alloc (Below.refl _ _) _)) (lit72 w3 ⟨peer, send⟩) rfl rfl (Nat.le_trans HB3.out.size (by simp)) (by show ([] ++ W).length + 1 ≤ 1000000; simp; omega) ?_; intro v4 w4 ho4 hb4; have HO5 := Aside0.mk ho4; have B2 := Aside0.mk ((HB3.out.trans (below_alloc (Below.refl w3.heap.size w3) (.cells #[.int .u32 peer, .int .u8 send] 72)|>.mono HB3.out.size)).trans hb4); clear ho4 hb4; obtain ⟨A5, c5, rfl, _, _⟩ := HO5.out.reads; obtain ⟨hc7, hf7⟩ := (HP2.out.below B2.out HP2.out.lt) 1 _ rfl; obtain ⟨W6, F1, F2, F3, HB7, HK6⟩ := prefTail w2 w4 w V A l W A5 B c c5 d peer send HP2.out HP4.out HB2.out B2.out z2 HO5.out) | (refine pl_load rfl 30 _ rfl _ _ F1.out rfl ?_) | (refine pl_store rfl 30 _ _ rfl _ _ F2.out rfl rfl ?_))
    refine bodyPost_ret (results_row_tmp rfl _ _ (w.heap.size + 1) _ rfl F3.out) rfl ?_
    refine ⟨_, _, rfl, ?_, HB7.out⟩
    rw [HR0.out, if_neg (by omega)]
    obtain ⟨A', c', e', hlc', hC'⟩ := HK6.out.reads
    injection e' with e1' e2' e3'
    have hcx : Kd.C k72 W6 A5 (W ++ [S72.mk peer send]).length (W ++ [S72.mk peer send]) := by rw [e1']; exact hC'
    exact ⟨⟨A, c, A5, c5, by simp, HLC.out, Kd.C_below HC2.out HB7.out, by rw [e3']; exact hlc', hcx, fun a ha => .inl (HTA.out a ha), fun a ha => .inr ⟨by have := (HK6.out.blk a ha).1; omega, (HK6.out.blk a ha).2⟩⟩, rfl⟩
end
/-- is a key the one at a place? -/
def toldB (m : S36) (is : Bool) (l : List S36) (at_ : Int) : Bool := if at_ < 0 then eqB m z36 && !is else eqB m (l.getD at_.toNat z36) && is
/-- are two keys equal, part by part (kept whole in a walk) -/
def eqN (x0 x1 x2 x3 : Int) (x4 : ByteArray) (y0 y1 y2 y3 : Int) (y4 : ByteArray) : Bool := x0 == y0 && (x1 == y1 && (x2 == y2 && (x3 == y3 && (x4.toList == y4.toList))))
theorem eqA36n (d : Nat) (w : World) (x0 y0 : Int) (x1 y1 : Int) (x2 y2 : Int) (x3 y3 : Int) (x4 y4 : ByteArray) :
    (Op.equalIn (d + 2) 36 (.agg #[.int .u32 x0, .int .u8 x1, .int .u8 x2, .int .i64 x3, .string x4]) (.agg #[.int .u32 y0, .int .u8 y1, .int .u8 y2, .int .i64 y3, .string y4])).run Try.prog w = .ok (eqN x0 x1 x2 x3 x4 y0 y1 y2 y3 y4) w := eqA36 d w x0 y0 x1 y1 x2 y2 x3 y3 x4 y4
theorem eqB_eq (x y : S36) : eqB x y = eqN x.f0 x.f1 x.f2 x.f3 x.f4 y.f0 y.f1 y.f2 y.f3 y.f4 := rfl
attribute [local go_sem high] eqA36n
set_option maxHeartbeats 4000000 in
theorem toldC {T : Nat → Prop} {w : World} {g : Value} {l : List S36} {W : List S72} (h : GR T w g l W) (m : S36) (is : Bool) (at_ : Int) (ha : at_ < l.length) : Calls Try.prog 25 #[a36 m, .bool is, g, .int .i64 at_] w fun e w' => e = .returned (.bool (toldB m is l at_)) ∧ Below w.heap.size w w' := by
  obtain ⟨A, c, B, d, rfl, h1, h2, h3, h4, _, _⟩ := h
  have HB := Aside0.mk (below_alloc (below_alloc (Below.refl w.heap.size w) (.cells #[.int .u32 m.f0, .int .u8 m.f1, .int .u8 m.f2, .int .i64 m.f3, .string m.f4] 36)) (.cells #[.slice A l.length c, .slice B W.length d] 30))
  by_cases hn : at_ < 0
  · have hnd : decide (at_ < 0) = true := decide_eq_true hn
    cases hE : eqB m z36 with
    | true =>
      have hE2 : eqN m.f0 m.f1 m.f2 m.f3 m.f4 0 0 0 0 ⟨#[]⟩ = true := hE
      have HT : Aside0 (toldB m is l at_ = !is) := ⟨by unfold toldB; rw [if_pos hn, hE]; rfl⟩
      clear hE h2 h4
      go_enter Try.func25, Try.ntmps25
      go_wp2_with fail
      go_ret
      exact ⟨by rw [HT.out]; rfl, HB.out⟩
    | false =>
      have hE2 : eqN m.f0 m.f1 m.f2 m.f3 m.f4 0 0 0 0 ⟨#[]⟩ = false := hE
      have HT : Aside0 (toldB m is l at_ = false) := ⟨by unfold toldB; rw [if_pos hn, hE]; rfl⟩
      clear hE h2 h4
      go_enter Try.func25, Try.ntmps25
      go_wp2_with fail
      go_ret
      exact ⟨by rw [HT.out]; rfl, HB.out⟩
  · have hnd : decide (at_ < 0) = false := decide_eq_false hn
    obtain ⟨k, hk⟩ : ∃ k : Nat, at_ = k := ⟨at_.toNat, by omega⟩
    subst hk
    have hkl : k < l.length := by omega
    obtain ⟨b, o, rfl, q0, q1, q2, q3, q4⟩ := C_key h2 k hkl
    obtain ⟨y, hy⟩ : ∃ y, l.getD k z36 = y := ⟨_, rfl⟩
    rw [hy] at q0 q1 q2 q3 q4
    have hob : Ob w.heap.size (w.alloc (.cells #[.int .u32 m.f0, .int .u8 m.f1, .int .u8 m.f2, .int .i64 m.f3, .string m.f4] 36)) (c36 m) := Ob.new w (c36 m) _ rfl _
    have hob1 := Ob.new (w.alloc (.cells #[.int .u32 m.f0, .int .u8 m.f1, .int .u8 m.f2, .int .i64 m.f3, .string m.f4] 36)) [.slice (some ⟨b, o, none⟩) l.length c, .slice B W.length d] _ rfl 30
    have s1 : (w.alloc (.cells #[.int .u32 m.f0, .int .u8 m.f1, .int .u8 m.f2, .int .i64 m.f3, .string m.f4] 36)).heap.size = w.heap.size + 1 := by simp
    rw [s1] at hob1
    have hb2 := hob.below (below_alloc (Below.refl _ _) (.cells #[.slice (some ⟨b, o, none⟩) l.length c, .slice B W.length d] 30)) (by rw [s1]; omega)
    have HS : Aside0 ((fun U : World => (U).cell? ⟨w.heap.size, 0, none⟩ = some (.int .u32 m.f0) ∧ (U).cell? ⟨w.heap.size, 1, none⟩ = some (.int .u8 m.f1) ∧ (U).cell? ⟨w.heap.size, 2, none⟩ = some (.int .u8 m.f2) ∧ (U).cell? ⟨w.heap.size, 3, none⟩ = some (.int .i64 m.f3) ∧ (U).cell? ⟨w.heap.size, 4, none⟩ = some (.string m.f4) ∧ (U).cell? ⟨w.heap.size + 1, 0, none⟩ = some (.slice (some ⟨b, o, none⟩) l.length c) ∧ (U).cell? ⟨b, o + k * 5, none⟩ = some (.int .u32 y.f0) ∧ (U).cell? ⟨b, o + k * 5 + 1, none⟩ = some (.int .u8 y.f1) ∧ (U).cell? ⟨b, o + k * 5 + 2, none⟩ = some (.int .u8 y.f2) ∧ (U).cell? ⟨b, o + k * 5 + 3, none⟩ = some (.int .i64 y.f3) ∧ (U).cell? ⟨b, o + k * 5 + 4, none⟩ = some (.string y.f4)) ((w.alloc (.cells #[.int .u32 m.f0, .int .u8 m.f1, .int .u8 m.f2, .int .i64 m.f3, .string m.f4] 36)).alloc (.cells #[.slice (some ⟨b, o, none⟩) l.length c, .slice B W.length d] 30))) := ⟨(hb2 0 _ rfl).1, (hb2 1 _ rfl).1, (hb2 2 _ rfl).1, (hb2 3 _ rfl).1, (hb2 4 _ rfl).1, (hob1 0 _ rfl).1, pw_cell_below HB.out q0, pw_cell_below HB.out q1, pw_cell_below HB.out q2, pw_cell_below HB.out q3, pw_cell_below HB.out q4⟩
    have HT : Aside0 (toldB m is l (k : Int) = (eqB m y && is)) := ⟨by unfold toldB; rw [if_neg (by omega), Int.toNat_natCast, hy]⟩
    clear h2 h4 hob hob1 hb2 s1 hy q0 q1 q2 q3 q4
    cases hE : eqB m y with
    | true =>
      have hE2 : eqN m.f0 m.f1 m.f2 m.f3 m.f4 y.f0 y.f1 y.f2 y.f3 y.f4 = true := hE
      rw [hE] at HT
      clear hE
      go_enter Try.func25, Try.ntmps25
      go_wp2_with fail
      refine region [(1, .p), (3, .p), (0, .t), (2, .t), (4, .p), (5, .t), (6, .p), (7, .p), (8, .p), (9, .p), (10, .p)] (fun U => (U).cell? ⟨w.heap.size, 0, none⟩ = some (.int .u32 m.f0) ∧ (U).cell? ⟨w.heap.size, 1, none⟩ = some (.int .u8 m.f1) ∧ (U).cell? ⟨w.heap.size, 2, none⟩ = some (.int .u8 m.f2) ∧ (U).cell? ⟨w.heap.size, 3, none⟩ = some (.int .i64 m.f3) ∧ (U).cell? ⟨w.heap.size, 4, none⟩ = some (.string m.f4) ∧ (U).cell? ⟨w.heap.size + 1, 0, none⟩ = some (.slice (some ⟨b, o, none⟩) l.length c) ∧ (U).cell? ⟨b, o + k * 5, none⟩ = some (.int .u32 y.f0) ∧ (U).cell? ⟨b, o + k * 5 + 1, none⟩ = some (.int .u8 y.f1) ∧ (U).cell? ⟨b, o + k * 5 + 2, none⟩ = some (.int .u8 y.f2) ∧ (U).cell? ⟨b, o + k * 5 + 3, none⟩ = some (.int .i64 y.f3) ∧ (U).cell? ⟨b, o + k * 5 + 4, none⟩ = some (.string y.f4)) (by kernel_rfl) (by kernel_rfl) (fun _ _ _ _ _ h => h) (HS.out) (fun hHeld => ?_)
      iterate 2 (refine lex_p rfl rfl rfl (by intro w'; go_simp; with_reducible rfl) (by simp only [Act.put, List.setIfInBounds_toArray, List.set_cons_zero, List.set_cons_succ, i64_w, i32_w]; rfl) ?_)
      iterate 2 (refine lex_t rfl rfl rfl (by rintro w' ⟨s0, s1, s2, s3, s4, s5, s6, s7, s8, s9, s10⟩; go_simp; with_reducible rfl) (by simp only [Act.put, List.setIfInBounds_toArray, List.set_cons_zero, List.set_cons_succ, i64_w, i32_w]; rfl) ?_)
      (refine lex_p rfl rfl rfl (by intro w'; go_simp; with_reducible rfl) (by simp only [Act.put, List.setIfInBounds_toArray, List.set_cons_zero, List.set_cons_succ, i64_w, i32_w]; rfl) ?_)
      (refine lex_t rfl rfl rfl (by rintro w' ⟨s0, s1, s2, s3, s4, s5, s6, s7, s8, s9, s10⟩; go_simp; with_reducible rfl) (by simp only [Act.put, List.setIfInBounds_toArray, List.set_cons_zero, List.set_cons_succ, i64_w, i32_w]; rfl) ?_)
      iterate 5 (refine lex_p rfl rfl rfl (by intro w'; go_simp; with_reducible rfl) (by simp only [Act.put, List.setIfInBounds_toArray, List.set_cons_zero, List.set_cons_succ, i64_w, i32_w]; rfl) ?_)
      refine lex_nil ?_
      go_wp2_with fail
      go_ret
      exact ⟨by rw [HT.out]; simp, below_drew HB.out⟩
    | false =>
      have hE2 : eqN m.f0 m.f1 m.f2 m.f3 m.f4 y.f0 y.f1 y.f2 y.f3 y.f4 = false := hE
      rw [hE] at HT
      clear hE
      go_enter Try.func25, Try.ntmps25
      go_wp2_with fail
      refine region [(1, .p), (3, .p), (0, .t), (2, .t), (4, .p), (5, .t), (6, .p), (7, .p), (8, .p), (9, .p), (10, .p)] (fun U => (U).cell? ⟨w.heap.size, 0, none⟩ = some (.int .u32 m.f0) ∧ (U).cell? ⟨w.heap.size, 1, none⟩ = some (.int .u8 m.f1) ∧ (U).cell? ⟨w.heap.size, 2, none⟩ = some (.int .u8 m.f2) ∧ (U).cell? ⟨w.heap.size, 3, none⟩ = some (.int .i64 m.f3) ∧ (U).cell? ⟨w.heap.size, 4, none⟩ = some (.string m.f4) ∧ (U).cell? ⟨w.heap.size + 1, 0, none⟩ = some (.slice (some ⟨b, o, none⟩) l.length c) ∧ (U).cell? ⟨b, o + k * 5, none⟩ = some (.int .u32 y.f0) ∧ (U).cell? ⟨b, o + k * 5 + 1, none⟩ = some (.int .u8 y.f1) ∧ (U).cell? ⟨b, o + k * 5 + 2, none⟩ = some (.int .u8 y.f2) ∧ (U).cell? ⟨b, o + k * 5 + 3, none⟩ = some (.int .i64 y.f3) ∧ (U).cell? ⟨b, o + k * 5 + 4, none⟩ = some (.string y.f4)) (by kernel_rfl) (by kernel_rfl) (fun _ _ _ _ _ h => h) (HS.out) (fun hHeld => ?_)
      iterate 2 (refine lex_p rfl rfl rfl (by intro w'; go_simp; with_reducible rfl) (by simp only [Act.put, List.setIfInBounds_toArray, List.set_cons_zero, List.set_cons_succ, i64_w, i32_w]; rfl) ?_)
      iterate 2 (refine lex_t rfl rfl rfl (by rintro w' ⟨s0, s1, s2, s3, s4, s5, s6, s7, s8, s9, s10⟩; go_simp; with_reducible rfl) (by simp only [Act.put, List.setIfInBounds_toArray, List.set_cons_zero, List.set_cons_succ, i64_w, i32_w]; rfl) ?_)
      (refine lex_p rfl rfl rfl (by intro w'; go_simp; with_reducible rfl) (by simp only [Act.put, List.setIfInBounds_toArray, List.set_cons_zero, List.set_cons_succ, i64_w, i32_w]; rfl) ?_)
      (refine lex_t rfl rfl rfl (by rintro w' ⟨s0, s1, s2, s3, s4, s5, s6, s7, s8, s9, s10⟩; go_simp; with_reducible rfl) (by simp only [Act.put, List.setIfInBounds_toArray, List.set_cons_zero, List.set_cons_succ, i64_w, i32_w]; rfl) ?_)
      iterate 2 (refine lex_p rfl rfl rfl (by intro w'; go_simp; with_reducible rfl) (by simp only [Act.put, List.setIfInBounds_toArray, List.set_cons_zero, List.set_cons_succ, i64_w, i32_w]; rfl) ?_)
      (refine lex_off rfl rfl rfl (by simp only [Act.put, List.setIfInBounds_toArray, List.set_cons_zero, List.set_cons_succ, i64_w, i32_w]; rfl) ?_)
      iterate 2 (refine lex_p rfl rfl rfl (by intro w'; go_simp; with_reducible rfl) (by simp only [Act.put, List.setIfInBounds_toArray, List.set_cons_zero, List.set_cons_succ, i64_w, i32_w]; rfl) ?_)
      refine lex_nil ?_
      go_wp2_with fail
      go_ret
      exact ⟨by rw [HT.out]; simp, below_drew HB.out⟩
end Go.Proofs.Ytndjhnipahkclaa.Ke
