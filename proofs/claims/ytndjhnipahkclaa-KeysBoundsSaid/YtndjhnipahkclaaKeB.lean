/- Keys: KeysBounds' walk. · Keys: KeysBounds' walk. -/
import Derived.Test.YtndjhnipahkclaaKeP
import Derived.Deep.OwnRows
set_option linter.unusedSimpArgs false
set_option linter.unusedVariables false
namespace Go.Proofs.Ytndjhnipahkclaa.Ke
open Go.RowKit Go.Proofs.YtndjhnipahkclaaW.PrintWords Go.Proofs.YtndjhnipahkclaaW.PrintLast Go.Proofs.YtndjhnipahkclaaW.PrintMore Go.Proofs.Ytndjhnipahkclaa.PKeysPlay Go.Proofs.Ytndjhnipahkclaa.Lex Go.Proofs.Ytndjhnipahkclaa.Lib
def zc (n : Nat) : List Value := List.replicate n (Value.int .u8 0)
theorem make_zeros (n : Nat) (hn : n ≤ 1000000) (w : World) : (Instr.makeSlice 40 (.int .i64 (n : Int)) (.int .i64 (n : Int))).run Try.prog w = .ok (.slice (some ⟨w.heap.size, 0, none⟩) n n) (w.alloc (.cells (zc n).toArray 5)) := by
  have h := run_make_row' (P := Try.prog) 40 5 (.int .u8 0) 1 Try.underlying40 (by kernel_rfl) rfl .i64 .i64 n (by omega) (by omega) w
  have e : madeCells #[Value.int .u8 0] n = (zc n).toArray := by
    apply Array.ext_getElem?
    intro i
    simp only [madeCells, zc, Array.getElem?_map, List.getElem?_toArray, List.getElem?_replicate, Array.getElem?_range]
    by_cases h : i < n
    · simp [h, Nat.mod_one]
    · simp [h]
  rw [h, e]
theorem zeros_string (n : Nat) (w : World) : (convert 40 9 (.slice (some ⟨w.heap.size, 0, none⟩) n n)).run Try.prog (w.alloc (.cells (zc n).toArray 5)) = .ok (.string (strOfNums (List.replicate n 0))) (w.alloc (.cells (zc n).toArray 5)) :=
  run_convert_bytes_arg _ 40 5 Try.underlying40 Try.underlying5 w.heap.size 0 n n (List.replicate n 0) (by simp) (fun i hi => by
    rw [World.cell?_alloc_at _ _ _ _ rfl]
    simp [zc, hi]) _ Try.underlying9
theorem info38 : (Try.prog.info? 38).map (fun i => (i.zero, i.size, i.bytes)) = some (some (.agg #[.int .i64 0, .int .u32 0, .int .u8 0, .int .u8 0, .int .i64 0, .string ByteArray.empty]), 6, 40) := by kernel_rfl
/-- a row of acts in a block of one's own -/
def OA (b : Nat) (w : World) (v : Value) (l : List S38) : Prop := Kd.R k38 38 w b (fun _ => True) v l
theorem OA.reads {b : Nat} {w : World} {v : Value} {l : List S38} (h : OA b w v l) : ∃ A c, v = .slice A l.length c ∧ l.length ≤ c ∧ Kd.C k38 w A l.length l := Kd.R_reads h
section
variable {ops : Array Oper} {rest : List Oper} {o : Oper} {a : Act} {Q : Exit → Act → World → Prop}
theorem ap_acts {W : World} (b : Nat) (s x : Operand) (hgd : o.guard = none)
    (ho : o.op = .call { callee := .builtin .append, args := #[s, x], argTypes := #[22, 22] })
    {v : Value} {xs ys : List S38} {A : Option Addr} {m c : Nat} (HO : OA b W v xs) (HR : Kd.C k38 W A m ys)
    (hs : a.eval s = v) (hx : a.eval x = .slice A m c) (hb : b ≤ W.heap.size) (hl : xs.length + m ≤ 1000000)
    (h : ∀ v1 w1, OA b w1 v1 (xs ++ ys) → Below b W w1 → wpList Try.prog ops Q rest (a.put o.dst v1) w1) :
    wpList Try.prog ops Q (o :: rest) a W :=
  Kd.R_append_rows (w0 := W) k38 (Rr := fun x cs => k38.K W x cs) b hgd s x 22 38 (.agg #[.int .i64 0, .int .u32 0, .int .u8 0, .int .u8 0, .int .i64 0, .string ByteArray.empty]) 40 ho Try.underlying22 info38 rfl (by show 0 < 6; decide) (by decide) v xs ys A m c (fun _ => True) (fun _ => False) hs hx HO HR (fun x cs hK => by rw [k38_open hK]; exact k38_mkM _ _ _ _) (fun _ h => h.elim) (fun _ _ => trivial) (Below.refl _ _) hb (by omega) (fun v1 w1 h1 h2 _ _ => h v1 w1 h1 h2)
end
/-- an act's cells -/
def c38 (x : S38) : List Value := [.int .i64 x.f0, .int .u32 x.f1.f0, .int .u8 x.f1.f1, .int .u8 x.f1.f2, .int .i64 x.f1.f3, .string x.f1.f4]
theorem lit38 (w : World) (x : S38) : Kd.C k38 (w.alloc (.cells (c38 x).toArray 38)) (some ⟨w.heap.size, 0, none⟩) 1 [x] := by
  have h : OA w.heap.size (w.alloc (.cells (c38 x).toArray 38)) (.slice (some ⟨w.heap.size, 0, none⟩) [x].length [x].length) [x] :=
    ⟨fun k hk => trivial, OwnRow.lit (ps := [x]) (inner := c38 x) w w.heap.size ⟨rfl, fun j p hj => by
      cases j with
      | zero =>
        have : p = x := by simpa using hj.symm
        subst this
        exact k38_mkM _ _ _ _
      | succ j => simp at hj⟩ (Nat.le_refl _) (by simp)⟩
  obtain ⟨A, c, e, _, hC⟩ := h.reads
  injection e with e1 e2 e3
  rw [e1]
  exact hC
theorem lit38two (w : World) (x y : S38) : Kd.C k38 (w.alloc (.cells (c38 x ++ c38 y).toArray 38)) (some ⟨w.heap.size, 0, none⟩) 2 [x, y] := by
  have h : OA w.heap.size (w.alloc (.cells (c38 x ++ c38 y).toArray 38)) (.slice (some ⟨w.heap.size, 0, none⟩) [x, y].length [x, y].length) [x, y] :=
    ⟨fun k hk => trivial, OwnRow.lit (ps := [x, y]) (inner := c38 x ++ c38 y) w w.heap.size ⟨rfl, fun j p hj => by
      match j, hj with
      | 0, hj =>
        have : p = x := by simpa using hj.symm
        subst this
        exact k38_mkM _ _ _ _
      | 1, hj =>
        have : p = y := by simpa using hj.symm
        subst this
        exact k38_mkM _ _ _ _
      | j + 2, hj => simp at hj⟩ (Nat.le_refl _) (by simp)⟩
  obtain ⟨A, c, e, _, hC⟩ := h.reads
  injection e with e1 e2 e3
  rw [e1]
  exact hC
end Go.Proofs.Ytndjhnipahkclaa.Ke

set_option linter.unusedSimpArgs false
set_option linter.unusedVariables false
namespace Go.Proofs.Ytndjhnipahkclaa.Ke
open Go.RowKit Go.Proofs.YtndjhnipahkclaaW.PrintWords Go.Proofs.YtndjhnipahkclaaW.PrintLast Go.Proofs.YtndjhnipahkclaaW.PrintMore Go.Proofs.Ytndjhnipahkclaa.PKeysPlay Go.Proofs.Ytndjhnipahkclaa.Lex Go.Proofs.Ytndjhnipahkclaa.Lib
theorem wf32 (n : Nat) (h : n ≤ 4294967295) : (Lit.int .u32 (n : Int)).wf = true := by
  show (decide (IntKind.u32.min ≤ (n : Int)) && decide ((n : Int) ≤ IntKind.u32.max)) = true
  have h1 : IntKind.u32.min = 0 := rfl
  have h2 : IntKind.u32.max = 4294967295 := rfl
  rw [h1, h2, decide_eq_true (by omega), decide_eq_true (by omega)]
  rfl
theorem wf8 (n : Nat) (h : n ≤ 255) : (Lit.int .u8 (n : Int)).wf = true := by
  show (decide (IntKind.u8.min ≤ (n : Int)) && decide ((n : Int) ≤ IntKind.u8.max)) = true
  have h1 : IntKind.u8.min = 0 := rfl
  have h2 : IntKind.u8.max = 255 := rfl
  rw [h1, h2, decide_eq_true (by omega), decide_eq_true (by omega)]
  rfl
def actI (i : Nat) : S38 := ⟨1, ⟨(i : Int) % 2, (i : Int), (i : Int) / 2, 1, ⟨#[109]⟩⟩⟩
def act2 : S38 := ⟨2, ⟨0, 4, 0, 0, ⟨#[]⟩⟩⟩
def act3 (M : Nat) : S38 := ⟨1, ⟨4, 0, 0, 2, strOfNums (List.replicate M 0)⟩⟩
theorem boundOK (l : List S38) (M : Nat) (h : ∀ x ∈ l, okA x) : ∀ x ∈ l ++ [act2, act3 M], okA x := fun x hx => by
  rcases List.mem_append.1 hx with h1 | h1
  · exact h x h1
  · rcases List.mem_cons.1 h1 with rfl | h2
    · exact ⟨rfl, rfl⟩
    · obtain rfl := List.mem_singleton.1 h2
      exact ⟨rfl, rfl⟩
theorem stopHere {p : Prop} (h : Aside0 p) : p := h.out
set_option maxHeartbeats 16000000 in
set_option maxRecDepth 100000 in
theorem boundsC (n long : Int) (w : World) (h0 : 0 ≤ n) (h1 : n ≤ 20) (h2 : 0 ≤ long) (h3 : long ≤ 100) : Calls Try.prog 4 #[.int .i64 n, .int .i64 long] w fun e w' => e = .returned (.bool true) ∧ Below w.heap.size w w' := by
  obtain ⟨N, rfl⟩ : ∃ N : Nat, n = N := ⟨n.toNat, by omega⟩
  obtain ⟨M, rfl⟩ : ∃ M : Nat, long = M := ⟨long.toNat, by omega⟩
  have b1 : decide ((N : Int) < 0) = false := decide_eq_false (by omega)
  have b2 : decide (20 < (N : Int)) = false := decide_eq_false (by omega)
  have b3 : decide ((M : Int) < 0) = false := decide_eq_false (by omega)
  have b4 : decide (100 < (M : Int)) = false := decide_eq_false (by omega)
  have h1' : N ≤ 20 := by omega
  go_enter Try.func4, Try.ntmps4
  go_wp2_with fail
  go_loopg [5, 6] N (fun gk s5 s6 W => ∃ (i : Nat) (l : List S38), i ≤ N ∧ N - i ≤ gk ∧ s6 = .int .i64 i ∧ Aside0 (OA w.heap.size W s5 l) ∧ Aside0 (∀ x ∈ l, okA x) ∧ Aside0 (l.length = i) ∧ Aside0 (Below w.heap.size w W))
  case atStart => exact ⟨0, [], by omega, by omega, rfl, ⟨Kd.R_nil _ _ _ _ _⟩, ⟨fun x hx => by cases hx⟩, ⟨rfl⟩, ⟨Below.refl _ _⟩⟩
  case round =>
    obtain ⟨i, l, hi, hgk, rfl, HO, HA, HL, HB⟩ := hrel
    by_cases hlt : i < N
    · have hltI : (i : Int) < (N : Int) := by omega
      have m1 : Int.tmod (i : Int) 2 = (i : Int) % 2 := by rw [Int.tmod_eq_emod_of_nonneg (by omega)]
      have m2 : Int.tdiv (i : Int) 2 = (i : Int) / 2 := by rw [Int.tdiv_eq_ediv_of_nonneg (by omega)]
      have m3 : IntKind.u32.wrap ((i : Int) % 2) = (i : Int) % 2 := by rw [IntKind.wrap_u32]; omega
      have m4 : IntKind.u8.wrap (i : Int) = (i : Int) := by rw [IntKind.wrap_u8]; omega
      have m5 : IntKind.u8.wrap ((i : Int) / 2) = (i : Int) / 2 := by rw [IntKind.wrap_u8]; omega
      have HW1 : Aside0 (okA (actI i)) := ⟨⟨by
        have e : (actI i).f1.f0 = ((i % 2 : Nat) : Int) := by show (i : Int) % 2 = _; omega
        rw [e]
        exact wf32 _ (by omega), wf8 i (by omega)⟩⟩
      obtain ⟨A5, c5, rfl, _, _⟩ := HO.out.reads
      have hsz : wr.heap.size ≤ (wr.alloc (.cells (c38 (actI i)).toArray 38)).heap.size := by simp
      have HSZ := Aside0.mk hsz
      clear hsz
      go_wp2_with (((with_reducible refine gate_builtin (b := .append) (xs := #[.tmp 27, .tmp 38]) rfl ?_); refine ap_acts (W := wr.alloc (.cells (c38 (actI i)).toArray 38)) w.heap.size _ _ rfl rfl (Kd.R_below HO.out (below_alloc (Below.refl _ _) _)) (lit38 wr (actI i)) rfl rfl (Nat.le_trans HB.out.size HSZ.out) (by have := HL.out; omega) ?_; intro v1 w1 ho1 hb1; have HO1 := Aside0.mk ho1; have HB1 := Aside0.mk ((below_alloc HB.out _).trans hb1); clear ho1 hb1))
      have HOn : Aside0 (∀ x ∈ l ++ [actI i], okA x) := ⟨fun x hx => by
        rcases List.mem_append.1 hx with h | h
        · exact HA.out x h
        · obtain rfl := List.mem_singleton.1 h
          exact HW1.out⟩
      go_roundg (gk - 1)
      case measure => omega
      case rel => exact ⟨i + 1, l ++ [actI i], by omega, by omega, by go_num, HO1, HOn, ⟨by rw [List.length_append, HL.out]; rfl⟩, HB1⟩
    · obtain rfl : i = N := by omega
      have hlI : ¬ ((i : Int) < (i : Int)) := by omega
      have hmk := make_zeros M (by omega)
      have hcv := zeros_string M wr
      have HL20 : Aside0 (l.length ≤ 20) := ⟨by have := HL.out; omega⟩
      obtain ⟨A5, c5, rfl, _, _⟩ := HO.out.reads
      have hlit := lit38two (wr.alloc (.cells (zc M).toArray 5)) act2 (act3 M)
      rw [show (wr.alloc (.cells (zc M).toArray 5)).heap.size = wr.heap.size + 1 from by simp] at hlit
      have HLIT := Aside0.mk hlit
      clear hlit
      have HBz := Aside0.mk (below_alloc HB.out (.cells (zc M).toArray 5))
      have hsz : (wr.alloc (.cells (zc M).toArray 5)).heap.size ≤ ((wr.alloc (.cells (zc M).toArray 5)).alloc (.cells (c38 act2 ++ c38 (act3 M)).toArray 38)).heap.size := by simp
      have HSZ := Aside0.mk hsz
      clear hsz
      go_wp2_with (((with_reducible refine gate_builtin (b := .append) (xs := #[.tmp 40, .tmp 48]) rfl ?_); refine stopHere ?_))
      refine ⟨?_⟩
      refine ap_acts (W := (wr.alloc (.cells (zc M).toArray 5)).alloc (.cells (c38 act2 ++ c38 (act3 M)).toArray 38)) w.heap.size _ _ rfl rfl (Kd.R_below (Kd.R_below HO.out (below_alloc (Below.refl _ _) _)) (below_alloc (Below.refl _ _) _)) HLIT.out rfl rfl (Nat.le_trans HBz.out.size HSZ.out) (by have := HL20.out; omega) ?_
      intro v1 w1 ho1 hb1
      have HO1 := Aside0.mk ho1
      have HB1 := Aside0.mk ((below_alloc HBz.out (.cells (c38 act2 ++ c38 (act3 M)).toArray 38)).trans hb1)
      clear ho1 hb1
      obtain ⟨A6, c6, rfl, hc6, hC6⟩ := HO1.out.reads
      have hp6 := playC A6 c6 _ w1 hC6 hc6 (boundOK l M HA.out)
      rw [show (l ++ [act2, act3 M]).length = l.length + 2 from by simp] at hp6
      have HP6 := Aside0.mk hp6
      clear hc6 hC6 hp6 hmk hcv
      go_wp2_with fail
      refine HP6.out.mono ?_
      rintro e w2 ⟨rfl, hb2⟩
      have HB2 := Aside0.mk (HB1.out.trans (hb2.mono HB1.out.size))
      clear hb2
      go_wp2_with fail
      go_ret
      exact ⟨rfl, HB2.out⟩
set_option maxHeartbeats 16000000 in
set_option maxRecDepth 100000 in
theorem boundsBad (n long : Int) (w : World) (h : ¬ (0 ≤ n ∧ n ≤ 20 ∧ 0 ≤ long ∧ long ≤ 100)) : Calls Try.prog 4 #[.int .i64 n, .int .i64 long] w fun e w' => e = .returned (.bool true) ∧ Below w.heap.size w w' := by
  have KN := Aside0.mk (knownC w)
  cases e1 : decide (n < 0) <;> cases e2 : decide (20 < n) <;> cases e3 : decide (long < 0) <;> cases e4 : decide (100 < long) <;>
    first
    | (exfalso
       exact h ⟨by have := of_decide_eq_false e1; omega, by have := of_decide_eq_false e2; omega, by have := of_decide_eq_false e3; omega, by have := of_decide_eq_false e4; omega⟩)
    | (clear h
       go_enter Try.func4, Try.ntmps4
       go_wp2_with fail
       refine KN.out.mono ?_
       rintro e w2 ⟨rfl, hb⟩
       have HB := Aside0.mk hb
       clear hb
       go_wp2_with fail
       go_ret
       exact ⟨rfl, HB.out⟩)
theorem boundsLaw (n long : Int) (w : World) (h1 : (Lit.int .i64 n).wf = true) (h2 : (Lit.int .i64 long).wf = true) : Calls Try.prog 4 #[.int .i64 n, .int .i64 long] w fun e w' => e = .returned (.bool true) ∧ Below w.heap.size w w' := by
  by_cases h : 0 ≤ n ∧ n ≤ 20 ∧ 0 ≤ long ∧ long ≤ 100
  · exact boundsC n long w h.1 h.2.1 h.2.2.1 h.2.2.2
  · exact boundsBad n long w h
end Go.Proofs.Ytndjhnipahkclaa.Ke
