/- Keys: the first one of which something is so (find), the tests that are asked. -/
import Derived.Test.YtndjhnipahkclaaKe1
set_option linter.unusedSimpArgs false
set_option linter.unusedVariables false
namespace Go.Proofs.Ytndjhnipahkclaa.Ke
open Go.RowKit Go.Proofs.YtndjhnipahkclaaW.PrintWords Go.Proofs.YtndjhnipahkclaaW.PrintLast Go.Proofs.YtndjhnipahkclaaW.PrintMore Go.Proofs.Ytndjhnipahkclaa.PKeysPlay Go.Proofs.Ytndjhnipahkclaa.Lex Go.Proofs.Ytndjhnipahkclaa.Lib
theorem results_row_tmp {P : Program} {fn : Func} {p t : Tmp} {ty : TypeId} (h : fn.results = #[.cell p ty, .tmp t]) (tmps : Array Value) (w : World) (g : Nat) (v : Value)
    (hp : tmps.getD p undef = .pointer (some ⟨g, 0, none⟩)) (hl : (loadVar ty ⟨g, 0, none⟩).run P w = .ok v w) :
    (results fn tmps).run P w = .ok (.tuple #[v, tmps.getD t undef]) w := by
  have hp' : tmps[p]?.getD undef = .pointer (some ⟨g, 0, none⟩) := by simpa using hp
  simp [results, h, hp', asAddr, hl]
/-- a test's contract, at the keys of a list -/
def PredK (g : Nat) (lb : Array Value) (l : List S36) (p : S36 → Bool) (w : World) : Prop :=
  ∀ (W : World) (x : S36), Below w.heap.size w W → x ∈ l → Calls Try.prog g (#[a36 x] ++ lb) W fun e W' => e = .returned (.bool (p x)) ∧ Below W.heap.size W W'
theorem find_at {p : S36 → Bool} : ∀ {l : List S36} {k : Nat}, (∀ j, j < k → p (l.getD j z36) = false) → k < l.length → p (l.getD k z36) = true → l.find? p = some (l.getD k z36) ∧ l.any p = true
  | [], k, _, hk, _ => absurd hk (by simp)
  | x :: l, 0, _, _, h => by
    have h' : p x = true := h
    exact ⟨by simp [List.find?, h'], by simp [h']⟩
  | x :: l, k + 1, h0, hk, h => by
    have hx : p x = false := h0 0 (by omega)
    obtain ⟨h1, h2⟩ := find_at (l := l) (k := k) (fun j hj => h0 (j + 1) (by omega)) (by simpa using hk) h
    exact ⟨by simp [List.find?, hx, h1], by simp only [List.any_cons, hx, h2, Bool.or_true]⟩
theorem find_none {p : S36 → Bool} {l : List S36} (h : ∀ j, j < l.length → p (l.getD j z36) = false) : l.find? p = none ∧ l.any p = false := by
  have h2 : ∀ x ∈ l, p x = false := fun x hx => by
    obtain ⟨j, hj, rfl⟩ := List.mem_iff_getElem.1 hx
    have := h j hj
    rwa [List.getD_eq_getElem?_getD, List.getElem?_eq_getElem hj] at this
  exact ⟨List.find?_eq_none.2 (fun x hx => by simp [h2 x hx]), List.any_eq_false.2 (fun x hx => by simp [h2 x hx])⟩
theorem zero36 (w : World) : (zeroValue 36).run Try.prog w = .ok (a36 z36) w := by kernel_rfl
set_option maxHeartbeats 2000000 in
theorem findC (g : Nat) (lb : Array Value) (eg : ∀ args w, (callFunc g args).run Try.prog w = .ok (.enter g args) w) (p : S36 → Bool) (A : Option Addr) (c : Nat) (l : List S36) (w : World) (hp : PredK g lb l p w) (hx : Kd.C k36 w A l.length l) :
    Calls Try.prog 32 #[.slice A l.length c, .func (.func g) #[] lb] w fun e w' => e = .returned (.tuple #[a36 ((l.find? p).getD z36), .bool (l.any p)]) ∧ Below w.heap.size w w' := by
  have hl := hx.2.1
  have HP := Aside0.mk hp
  have HX := Aside0.mk hx
  have hz := zero36
  have HO0 : Aside0 (Ob w.heap.size (w.alloc (.cells (c36 z36).toArray 36)) (c36 z36)) := ⟨Ob.new w _ _ rfl _⟩
  have HB0 := Aside0.mk (below_alloc (Below.refl w.heap.size w) (.cells (c36 z36).toArray 36))
  clear hp hx
  go_enter Try.func32, Try.ntmps32
  go_wp2_with fail
  go_loopg [11] l.length (fun gk s11 W => ∃ k : Nat, k ≤ l.length ∧ l.length - k ≤ gk ∧ s11 = .int .i64 k ∧ Aside0 (∀ j, j < k → p (l.getD j z36) = false) ∧ Aside0 (Ob w.heap.size W (c36 z36)) ∧ Aside0 (Below w.heap.size w W))
  case atStart => exact ⟨0, by omega, by omega, rfl, ⟨fun j hj => by omega⟩, HO0, HB0⟩
  case round =>
    clear HO0 HB0
    obtain ⟨k, hk, hgk, rfl, HN, HOB, HB⟩ := hrel
    by_cases hlt : k < l.length
    · obtain ⟨b, o, rfl, q0, q1, q2, q3, q4⟩ := C_key (Kd.C_below HX.out HB.out) k hlt
      obtain ⟨x, hxe⟩ : ∃ x, l.getD k z36 = x := ⟨_, rfl⟩
      have hmem : x ∈ l := by rw [← hxe, List.getD_eq_getElem?_getD, List.getElem?_eq_getElem hlt]; exact List.getElem_mem _
      rw [hxe] at q0 q1 q2 q3 q4
      have HXE := Aside0.mk hxe
      have hbw := HB.out.trans ((below_alloc (Below.refl wr.heap.size wr) (.cells #[.int .u32 x.f0, .int .u8 x.f1, .int .u8 x.f2, .int .i64 x.f3, .string x.f4] 36)).mono HB.out.size)
      have HC := HP.out _ x hbw hmem
      have HOX := Aside0.mk (Ob.new wr (c36 x) #[.int .u32 x.f0, .int .u8 x.f1, .int .u8 x.f2, .int .i64 x.f3, .string x.f4] rfl 36)
      have HOW := Aside0.mk (HOB.out.below (below_alloc (Below.refl wr.heap.size wr) (.cells #[.int .u32 x.f0, .int .u8 x.f1, .int .u8 x.f2, .int .i64 x.f3, .string x.f4] 36)) HOB.out.lt)
      have HBW := Aside0.mk hbw
      clear hxe hbw hmem
      cases hq : p x with
      | true =>
        rw [hq] at HC
        have HQ := Aside0.mk hq
        clear hq
        go_wp2_with fail
        refine HC.mono ?_
        rintro e w2 ⟨rfl, hb2⟩
        have HL7 := Aside0.mk (load36 (HOX.out.below hb2 HOX.out.lt))
        obtain ⟨W3, hst, ho3, hb3⟩ := store36 (x := x) (HOW.out.below hb2 HOW.out.lt)
        have HST := Aside0.mk hst
        have HLD := Aside0.mk (load36 ho3)
        have B2 := HBW.out.trans (hb2.mono HBW.out.size)
        have HB3 := Aside0.mk (B2.trans (hb3.below B2.size (fun j hj e => by have : j = w.heap.size := e; omega)))
        obtain ⟨hf1, hf2⟩ := find_at HN.out hlt (by rw [HXE.out]; exact HQ.out)
        rw [HXE.out] at hf1
        clear hb2 hst ho3 hb3 B2 HC
        go_wp2_with (first | (refine pl_load rfl 36 _ rfl _ _ HL7.out rfl ?_) | (refine pl_store rfl 36 _ _ rfl _ _ HST.out rfl rfl ?_))
        refine bodyPost_ret (results_row_tmp rfl _ _ w.heap.size _ rfl HLD.out) rfl ?_
        rw [hf1, hf2]
        exact ⟨rfl, HB3.out⟩
      | false =>
        rw [hq] at HC
        have HQ := Aside0.mk hq
        clear hq
        go_wp2_with fail
        refine HC.mono ?_
        rintro e w2 ⟨rfl, hb2⟩
        have HO2 := Aside0.mk (HOW.out.below hb2 HOW.out.lt)
        have HB2 := Aside0.mk (HBW.out.trans (hb2.mono HBW.out.size))
        clear hb2 HC
        go_wp2_with fail
        go_roundg (gk - 1)
        case measure => omega
        case rel => exact ⟨k + 1, by omega, by omega, by go_num, ⟨fun j hj => by
          by_cases e : j = k
          · rw [e, HXE.out]
            exact HQ.out
          · exact HN.out j (by omega)⟩, HO2, HB2⟩
    · obtain rfl : k = l.length := by omega
      obtain ⟨hf1, hf2⟩ := find_none HN.out
      have hb1 := below_alloc (Below.refl wr.heap.size wr) (.cells (c36 z36).toArray 36)
      have HL8 := Aside0.mk (load36 (Ob.new wr (c36 z36) _ rfl 36))
      obtain ⟨W3, hst, ho3, hb3⟩ := store36 (x := z36) (HOB.out.below hb1 HOB.out.lt)
      have HST := Aside0.mk hst
      have HLD := Aside0.mk (load36 ho3)
      have B2 := HB.out.trans (hb1.mono HB.out.size)
      have HB3 := Aside0.mk (B2.trans (hb3.below B2.size (fun j hj e => by have : j = w.heap.size := e; omega)))
      have hlI : ¬ ((l.length : Int) < (l.length : Int)) := by omega
      clear hst ho3 hb3 B2 hb1
      go_wp2_with (first | (refine pl_load rfl 36 _ rfl _ _ HL8.out rfl ?_) | (refine pl_store rfl 36 _ _ rfl _ _ HST.out rfl rfl ?_))
      refine bodyPost_ret (results_row_tmp rfl _ _ w.heap.size _ rfl HLD.out) rfl ?_
      first | exact ⟨rfl, HB3.out⟩ | (rw [hf1, hf2]; exact ⟨rfl, HB3.out⟩)
/-! The tests. -/
theorem sendT (g4 g5 : Nat) (peer n : Int) (x : S36) (w : World) (h4 : w.cell? ⟨g4, 0, none⟩ = some (.int .u32 peer)) (h5 : w.cell? ⟨g5, 0, none⟩ = some (.int .u8 n)) :
    Calls Try.prog 37 (#[a36 x] ++ #[ptr g4, ptr g5]) w fun e w' => e = .returned (.bool (x.f0 == peer && x.f1 == n)) ∧ Below w.heap.size w w' := by
  have HB := Aside0.mk (below_alloc (Below.refl w.heap.size w) (.cells #[.int .u32 x.f0, .int .u8 x.f1, .int .u8 x.f2, .int .i64 x.f3, .string x.f4] 36))
  have h4' := pw_cell_below HB.out h4
  have h5' := pw_cell_below HB.out h5
  clear h4 h5
  cases e0 : (x.f0 == peer) with
  | true =>
    go_enter Try.func37, Try.ntmps37
    go_wp2_with fail
    go_ret
    exact ⟨by simp, HB.out⟩
  | false =>
    go_enter Try.func37, Try.ntmps37
    go_wp2_with fail
    go_ret
    exact ⟨by simp, HB.out⟩
theorem recvT (g4 g5 : Nat) (peer n : Int) (x : S36) (w : World) (h4 : w.cell? ⟨g4, 0, none⟩ = some (.int .u32 peer)) (h5 : w.cell? ⟨g5, 0, none⟩ = some (.int .u8 n)) :
    Calls Try.prog 38 (#[a36 x] ++ #[ptr g4, ptr g5]) w fun e w' => e = .returned (.bool (x.f0 == peer && x.f2 == n)) ∧ Below w.heap.size w w' := by
  have HB := Aside0.mk (below_alloc (Below.refl w.heap.size w) (.cells #[.int .u32 x.f0, .int .u8 x.f1, .int .u8 x.f2, .int .i64 x.f3, .string x.f4] 36))
  have h4' := pw_cell_below HB.out h4
  have h5' := pw_cell_below HB.out h5
  clear h4 h5
  cases e0 : (x.f0 == peer) with
  | true =>
    go_enter Try.func38, Try.ntmps38
    go_wp2_with fail
    go_ret
    exact ⟨by simp, HB.out⟩
  | false =>
    go_enter Try.func38, Try.ntmps38
    go_wp2_with fail
    go_ret
    exact ⟨by simp, HB.out⟩
end Go.Proofs.Ytndjhnipahkclaa.Ke
