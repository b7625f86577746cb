/- Openings: the walk of Cap. -/
import Derived.Test.YticilaoibjbgfaaOp8
import Derived.Laws.EntriesVeiled
set_option linter.unusedSimpArgs false
set_option linter.unusedVariables false
namespace Go.Proofs.Yticilaoibjbgfaa.Op
open Go.RowKit Go.Proofs.YticilaoibjbgfaaW.PrintWords Go.Proofs.YticilaoibjbgfaaW.PrintLast Go.Proofs.YticilaoibjbgfaaW.PrintMore Go.Proofs.Yticilaoibjbgfaa.POpenRaws Go.Proofs.Yticilaoibjbgfaa.Lib Go.Proofs.Yticilaoibjbgfaa.High Go.Proofs.Yticilaoibjbgfaa.Lex
set_option maxRecDepth 100000 in
set_option maxHeartbeats 4000000 in
theorem isCode (x : S54) (A : Option Addr) (c q : Nat) (code : Int) (w : World) (hq : w.cell? ⟨q, 0, none⟩ = some (.int .u8 code)) :
    Calls Try.prog 43 #[.agg #[.int .u8 x.f0, .slice A x.f1.length c], .pointer (some ⟨q, 0, none⟩)] w fun e w' => e = .returned (.bool (x.f0 == code)) ∧ Below w.heap.size w w' := by
  have hb := below_alloc (Below.refl w.heap.size w) (.cells #[.int .u8 x.f0, .slice A x.f1.length c] 54)
  have hob := Ob.new w [.int .u8 x.f0, .slice A x.f1.length c] _ rfl 54
  have q0 := (hob 0 _ rfl).1
  have q1 := pw_cell_below hb hq
  have HB := Aside0.mk hb
  clear hob hb
  go_enter Try.func43, Try.ntmps43
  go_wp2_with fail
  go_ret
  exact ⟨rfl, HB.out⟩
set_option maxRecDepth 100000 in
set_option maxHeartbeats 4000000 in
theorem idxC (q : Nat) (code : Int) (A : Option Addr) (c : Nat) (l : List S54) (w : World) (hx : Kd.C k54 w A l.length l) (hq : w.cell? ⟨q, 0, none⟩ = some (.int .u8 code)) (hll : l.length < 1000000) :
    Calls Try.prog 42 #[.slice A l.length c, .func (.func 43) #[] #[.pointer (some ⟨q, 0, none⟩)]] w fun e w' =>
      ((e = .returned (.int .i64 (-1)) ∧ ∀ j, j < l.length → (l.getD j z54).f0 ≠ code) ∨ ∃ k : Nat, k < l.length ∧ e = .returned (.int .i64 k) ∧ (l.getD k z54).f0 = code ∧ ∀ j, j < k → (l.getD j z54).f0 ≠ code) ∧ Below w.heap.size w w' := by
  have HX := Aside0.mk hx
  have HQ := Aside0.mk hq
  clear hx hq
  go_enter Try.func42, Try.ntmps42
  go_wp2_with fail
  go_loopg [8] l.length (fun gk s8 W => ∃ k : Nat, k ≤ l.length ∧ l.length - k ≤ gk ∧ s8 = .int .i64 k ∧ Aside0 (∀ j, j < k → (l.getD j z54).f0 ≠ code) ∧ Aside0 (Below w.heap.size w W))
  case atStart => exact ⟨0, by omega, by omega, rfl, ⟨fun j hj => by omega⟩, ⟨Below.refl _ _⟩⟩
  case round =>
    obtain ⟨k, hk, hgk, rfl, HN, HB⟩ := hrel
    by_cases hlt : k < l.length
    · obtain ⟨b, o, A1, c1, rfl, q0, q1, _, _⟩ := C_cap (Kd.C_below HX.out HB.out) k hlt
      obtain ⟨x, hxe⟩ : ∃ x, l.getD k z54 = x := ⟨_, rfl⟩
      rw [hxe] at q0 q1
      have HXE := Aside0.mk hxe
      have hlI : (k : Int) < (l.length : Int) := by omega
      have HLT := Aside0.mk hlt
      have HP := Aside0.mk (isCode x A1 c1 q code wr (pw_cell_below HB.out HQ.out))
      clear hxe hlt
      cases hc : (x.f0 == code) with
      | true =>
        have HE := Aside0.mk (eq_of_beq hc)
        rw [hc] at HP
        clear hc
        go_wp2_with fail
        refine HP.out.mono ?_
        rintro e w2 ⟨rfl, hb2⟩
        go_wp2_with fail
        go_ret
        exact ⟨.inr ⟨k, HLT.out, rfl, by rw [HXE.out]; exact HE.out, HN.out⟩, HB.out.trans (hb2.mono HB.out.size)⟩
      | false =>
        have HE := Aside0.mk (ne_of_beq_false hc)
        rw [hc] at HP
        clear hc
        go_wp2_with fail
        refine HP.out.mono ?_
        rintro e w2 ⟨rfl, hb2⟩
        have HB2 := Aside0.mk (HB.out.trans (hb2.mono HB.out.size))
        clear hb2
        go_wp2_with fail
        go_roundg (gk - 1)
        case measure => have := HLT.out; omega
        case rel => exact ⟨k + 1, by have := HLT.out; omega, by omega, by go_num, ⟨fun j hj => by
          by_cases e : j = k
          · rw [e, HXE.out]
            exact HE.out
          · exact HN.out j (by omega)⟩, HB2⟩
    · obtain rfl : k = l.length := by omega
      have hlI : ¬ ((l.length : Int) < (l.length : Int)) := by omega
      go_wp2_with fail
      go_ret
      exact ⟨.inl ⟨rfl, HN.out⟩, HB.out⟩
set_option maxRecDepth 100000 in
set_option maxHeartbeats 4000000 in
theorem capC (o : Opn) (A : Option Addr) (c : Nat) (code : Int) (w : World) (hx : Kd.C k54 w A o.l.length o.l) (hll : o.l.length < 1000000) (hbl : ∀ x ∈ o.l, x.f1.length ≤ 1000000) :
    Calls Try.prog 23 #[aO o A c, .int .u8 code] w fun e w' =>
      ∃ v, ((e = .returned (.tuple #[v, .bool false]) ∧ v = .slice none 0 0 ∧ ∀ j, j < o.l.length → (o.l.getD j z54).f0 ≠ code) ∨ ∃ k : Nat, k < o.l.length ∧ e = .returned (.tuple #[v, .bool true]) ∧ OB w.heap.size w' v (o.l.getD k z54).f1 ∧ (o.l.getD k z54).f0 = code ∧ ∀ j, j < k → (o.l.getD j z54).f0 ≠ code) ∧ Below w.heap.size w w' := by
  have hb1 := below_alloc (Below.refl w.heap.size w) (.cells (cO o A c).toArray 26)
  have hob1 := Ob.new w (cO o A c) _ rfl 26
  obtain ⟨w1, hw1⟩ : ∃ W, w.alloc (.cells (cO o A c).toArray 26) = W := ⟨_, rfl⟩
  have hs1 : w1.heap.size = w.heap.size + 1 := by rw [← hw1]; simp
  rw [hw1] at hb1 hob1
  have hb2 := below_alloc (Below.refl w1.heap.size w1) (.cells #[.int .u8 code] 5)
  have hob2 := Ob.new w1 [.int .u8 code] _ rfl 5
  obtain ⟨V, hV⟩ : ∃ W, w1.alloc (.cells #[.int .u8 code] 5) = W := ⟨_, rfl⟩
  have hs2 : V.heap.size = w.heap.size + 1 + 1 := by rw [← hV, World.size_alloc, hs1]
  rw [hV] at hb2 hob2
  rw [hs1] at hob2
  have o1 := hob1.below hb2 (by omega)
  have hbV := hb1.trans (hb2.mono hb1.size)
  have HXV := Aside0.mk (Kd.C_below hx hbV)
  have HBV := Aside0.mk hbV
  have HO1 := Aside0.mk o1
  have q3 := (o1 3 _ rfl).1
  have HQ := Aside0.mk (hob2 0 _ rfl).1
  have HW1 := Aside0.mk hw1
  have HV := Aside0.mk hV
  have HS := Aside0.mk hs2
  have HBL := Aside0.mk hbl
  clear hb1 hob1 hb2 hob2 o1 hbV hx hw1 hV hs1 hs2 hbl
  go_enter Try.func23, Try.ntmps23
  go_wp2_with (rw [HW1.out, HV.out])
  refine (idxC (w.heap.size + 1) code A c o.l _ HXV.out HQ.out hll).mono ?_
  rintro e w2 ⟨hor, hb2⟩
  have o2 := HO1.out.below hb2 (by rw [HS.out]; omega)
  have p3 := (o2 3 _ rfl).1
  have HB2 := Aside0.mk (HBV.out.trans (hb2.mono HBV.out.size))
  have HX2 := Aside0.mk (Kd.C_below HXV.out hb2)
  clear hb2 o2
  rcases hor with ⟨rfl, hno⟩ | ⟨k, hk, rfl, hc, hno⟩
  · have HNO := Aside0.mk hno
    clear hno
    go_wp2_with fail
    refine bodyPost_ret (v := .tuple #[.slice none 0 0, .bool false]) (by simp [results, Try.results23, go_sem]) rfl ⟨_, .inl ⟨rfl, rfl, HNO.out⟩, HB2.out⟩
  · have HNO := Aside0.mk hno
    have HC := Aside0.mk hc
    have HK := Aside0.mk hk
    obtain ⟨b, o', A1, c1, rfl, e0, e1, hl1, hC1⟩ := C_cap HX2.out k hk
    have hbx : (o.l.getD k z54).f1.length ≤ 1000000 := HBL.out _ (getD_mem _ _ _ hk)
    obtain ⟨x, hxe⟩ : ∃ x, o.l.getD k z54 = x := ⟨_, rfl⟩
    rw [hxe] at e0 e1 hl1 hC1 hbx
    have HXE := Aside0.mk hxe
    have HC1 := Aside0.mk hC1
    have hkI : (k : Int) < (o.l.length : Int) := by omega
    have hkn : ¬ ((k : Int) < 0) := by omega
    clear hno hc hxe hC1 hk
    go_wp2_with fail
    refine (clone A1 c1 x.f1 _ HC1.out (by omega)).mono ?_
    rintro e w3 ⟨v, rfl, ho3, hb3⟩
    have HO3 := Aside0.mk (ho3.lower HB2.out.size)
    have HB3 := Aside0.mk (HB2.out.trans (hb3.mono HB2.out.size))
    clear ho3 hb3
    go_wp2_with fail
    refine bodyPost_ret (v := .tuple #[v, .bool true]) (by simp [results, Try.results23, go_sem]) rfl ⟨_, .inr ⟨k, HK.out, rfl, by rw [HXE.out]; exact HO3.out, HC.out, HNO.out⟩, HB3.out⟩
end Go.Proofs.Yticilaoibjbgfaa.Op
