/- Keys: Copy; what keys that are not there answer. · Keys: what keys that are not there answer; KeysNil's walk. · Keys: KeysNil's walk. -/
import Derived.Test.YtndjhnipahkclaaKeP
import Derived.Shelf.SlMaps.Clone
set_option linter.unusedSimpArgs false
set_option linter.unusedVariables false
namespace Go.Proofs.Ytndjhnipahkclaa.Ke
open Go.RowKit Go.Proofs.YtndjhnipahkclaaW.PrintWords Go.Proofs.YtndjhnipahkclaaW.PrintLast Go.Proofs.YtndjhnipahkclaaW.PrintMore Go.Proofs.Ytndjhnipahkclaa.PKeysPlay Go.Proofs.Ytndjhnipahkclaa.Lex Go.Proofs.Ytndjhnipahkclaa.Lib
set_option maxHeartbeats 2000000 in
theorem mapCloneC (m n : Nat) (f : Int → Option Int) (w : World) (h : MapIs w m n f) : Calls Try.prog 31 #[.map (some m)] w fun e w' => e = .returned (.map (some w.heap.size)) ∧ MapIs w' w.heap.size n f ∧ Below w.heap.size w w' ∧ w'.heap.size = w.heap.size + 1 := by
  obtain ⟨D, ⟨es, clock, hb, h2, h3, h4⟩, hf⟩ := h
  have HM : Aside0 (MapIs (w.alloc (.map es clock)) w.heap.size n f) := ⟨⟨D, ⟨es, clock, heap_alloc_new w _, h2, h3, h4⟩, hf⟩⟩
  have HB := Aside0.mk (below_alloc (Below.refl w.heap.size w) (.map es clock))
  have HS : Aside0 ((w.alloc (.map es clock)).heap.size = w.heap.size + 1) := ⟨by simp⟩
  have hq := fun w => map_nil w (some m)
  clear hf h2 h3 h4
  go_enter Try.func31, Try.ntmps31
  go_wp2
  rw [run_callFunc_extern Try.func45 (by kernel_rfl) (by kernel_rfl) (by kernel_rfl) (e := Extern.MapsClone.clone) (by kernel_rfl), run_maps_clone_sl w 47 hb]
  simp only [Result.andThen]
  rw [Oper.upon_value]
  go_wp2
  rw [run_typeAssert_map_sl _ 47 20 _ _ _ Try.underlying47]
  simp only [Result.andThen]
  rw [Oper.upon_value]
  go_wp2
  go_ret
  exact ⟨rfl, HM.out, HB.out, HS.out⟩
set_option maxHeartbeats 4000000 in
theorem copyC {S : Nat → Prop} {p N : Nat} {w : World} {l : List S36} {f : Int → Option Int} (h : KX S p w l f N) (hl : l.length ≤ 100000) : Calls Try.prog 13 #[ptr p] w fun e w' => ∃ p', e = .returned (ptr p') ∧ KX (fun k => w.heap.size ≤ k ∧ k < w'.heap.size) p' w' l f N ∧ Below w.heap.size w w' := by
  obtain ⟨m, n, A, c, hk, hn⟩ := h
  have h1 := hk.c1
  have HK := Aside0.mk hk
  have HL := Aside0.mk hl
  have HN := Aside0.mk hn
  have HF : Aside0 (∀ U, Below w.heap.size w U → U.cell? ⟨p, 0, none⟩ = some (.slice A l.length c) ∧ U.cell? ⟨p, 1, none⟩ = some (.map (some m))) := ⟨fun U hU => ⟨(hk.below hU).c0, (hk.below hU).c1⟩⟩
  clear hk hl hn
  go_enter Try.func13, Try.ntmps13
  go_wp2_with fail
  refine (none_some h1).mono ?_
  rintro e w' ⟨rfl, rfl⟩
  clear h1
  go_wp2_with fail
  refine regionT (.one 0 .p (.one 1 .p (.one 2 .p (.one 5 .p (.one 6 .p (.one 7 .p (.one 3 .t (.one 8 .t (.one 4 .o (.one 9 .o (.one 10 .p (.one 11 .o (.one 12 .p .nil))))))))))))) (fun U => U.cell? ⟨p, 0, none⟩ = some (.slice A l.length c) ∧ U.cell? ⟨p, 1, none⟩ = some (.map (some m))) (by kernel_rfl) (by kernel_rfl) (fun _ _ _ _ _ h => h) (HF.out _ (below_drew (Below.refl _ _))) (fun hHeld => ?_)
  iterate 6 (refine lt_p rfl rfl rfl (by intro w'; go_simp; with_reducible rfl) (by simp only [Act.put, List.setIfInBounds_toArray, List.set_cons_zero, List.set_cons_succ, i64_w, i32_w]; rfl) ?_)
  iterate 2 (refine lt_t rfl rfl rfl (by rintro w' ⟨s0, s1⟩; go_simp; with_reducible rfl) (by simp only [Act.put, List.setIfInBounds_toArray, List.set_cons_zero, List.set_cons_succ, i64_w, i32_w]; rfl) ?_)
  refine lt_o rfl ?_
  go_wp2_with fail
  refine (cloneK A c l w.drew (HK.out.below (below_drew (Below.refl _ _))).row HL.out).mono ?_
  rintro e w2 ⟨v, rfl, ho, hb⟩
  have B1 := Aside0.mk ((below_drew (Below.refl w.heap.size w)).trans hb)
  have HO := Aside0.mk ho
  obtain ⟨A5, c5, rfl, _, _⟩ := HO.out.reads
  clear ho hb
  go_wp2_with fail
  refine lt_end (by first | (simp only [Act.put, List.setIfInBounds_toArray, List.set_cons_zero, List.set_cons_succ, i64_w, i32_w]; rfl) | rfl) (HF.out _ B1.out) (fun hHeld => ?_)
  refine lt_o rfl ?_
  go_wp2_with fail
  refine (mapCloneC m n f w2 (HK.out.below B1.out).map).mono ?_
  rintro e w3 ⟨rfl, hm, hb, hz⟩
  have B2 := Aside0.mk (B1.out.trans (hb.mono B1.out.size))
  have HM3 := Aside0.mk hm
  have HO3 : Aside0 (OK w.heap.size w3 (.slice A5 l.length c5) l) := ⟨Kd.R_below HO.out hb⟩
  obtain ⟨m', HM'⟩ : ∃ m', Aside0 (w2.heap.size = m') := ⟨_, ⟨rfl⟩⟩
  have HMW : Aside0 (w.heap.size ≤ m' ∧ m' < w3.heap.size) := ⟨by have h1 := B1.out.size; have h2 := HM'.out; exact ⟨by omega, by omega⟩⟩
  have HOM : Aside0 (∀ k, (Value.slice A5 l.length c5).ownBlock = some k → k ≠ m') := ⟨fun k hk e => by
    have h1 := Kd.R_lt HO.out k hk
    have h2 := HM'.out
    omega⟩
  rw [HM'.out] at HM3 ⊢
  clear hm hb hz
  go_wp2_with fail
  refine lt_end (by first | (simp only [Act.put, List.setIfInBounds_toArray, List.set_cons_zero, List.set_cons_succ, i64_w, i32_w]; rfl) | rfl) (HF.out _ B2.out) (fun hHeld => ?_)
  (refine lt_p rfl rfl rfl (by intro w'; go_simp; with_reducible rfl) (by simp only [Act.put, List.setIfInBounds_toArray, List.set_cons_zero, List.set_cons_succ, i64_w, i32_w]; rfl) ?_)
  refine lt_o rfl ?_
  go_wp2_with fail
  have B3 := Aside0.mk (below_alloc B2.out (.cells #[.slice A5 l.length c5, .map (some m')] 49))
  refine lt_end (by first | (simp only [Act.put, List.setIfInBounds_toArray, List.set_cons_zero, List.set_cons_succ, i64_w, i32_w]; rfl) | rfl) (HF.out _ B3.out) (fun hHeld => ?_)
  (refine lt_p rfl rfl rfl (by intro w'; go_simp; with_reducible rfl) (by simp only [Act.put, List.setIfInBounds_toArray, List.set_cons_zero, List.set_cons_succ, i64_w, i32_w]; rfl) ?_)
  refine lt_nil ?_
  go_wp2_with fail
  go_ret
  have hs2 := B2.out.size
  have hs3 := (below_alloc (Below.refl w3.heap.size w3) (.cells #[.slice A5 l.length c5, .map (some m')] 49))
  have hmw := HMW.out
  have hsz : (w3.alloc (.cells #[.slice A5 l.length c5, .map (some m')] 49)).heap.size = w3.heap.size + 1 := by simp
  refine ⟨w3.heap.size, rfl, ⟨m', n, A5, c5, ⟨Ob.new w3 [.slice A5 l.length c5, .map (some m')] _ rfl 49, ?_, HM3.out.same (hs3.block m' hmw.2), by omega, ⟨⟨by omega, by omega⟩, ⟨by omega, by omega⟩⟩⟩, HN.out⟩, B3.out⟩
  refine ⟨fun k hk => ?_, (Kd.R_lower (Kd.R_below HO3.out hs3) (Nat.zero_le _)).2.imp_ (fun _ _ hp => ?_)⟩
  · obtain ⟨_, h1, h2, _⟩ := (Kd.R_bound HO3.out).1 k hk
    exact ⟨⟨by omega, by omega⟩, by omega, HOM.out k hk⟩
  · have e := k36_openM hp
    rw [e]
    exact k36_mkM _ _ _ _
theorem copyNil (w : World) : Calls Try.prog 13 #[.pointer none] w fun e w' => e = .returned (.pointer none) ∧ Below w.heap.size w w' := by
  go_enter Try.func13, Try.ntmps13
  go_wp2_with fail
  refine (none_nil w).mono ?_
  rintro e _ ⟨rfl, rfl⟩
  go_wp2_with fail
  go_ret
  exact ⟨rfl, Below.refl _ _⟩
theorem allZero {p : Nat} (w : World) (c1 : w.cell? ⟨p, 1, none⟩ = some (.map none)) : Calls Try.prog 15 #[ptr p] w fun e w' => e = .returned (.slice none 0 0) ∧ Below w.heap.size w w' := by
  go_enter Try.func15, Try.ntmps15
  go_wp2_with fail
  refine (none_zero c1).mono ?_
  rintro e _ ⟨rfl, rfl⟩
  go_wp2_with fail
  go_ret
  exact ⟨rfl, Below.refl _ _⟩
end Go.Proofs.Ytndjhnipahkclaa.Ke

set_option linter.unusedSimpArgs false
set_option linter.unusedVariables false
namespace Go.Proofs.Ytndjhnipahkclaa.Ke
open Go.RowKit Go.Proofs.YtndjhnipahkclaaW.PrintWords Go.Proofs.YtndjhnipahkclaaW.PrintLast Go.Proofs.YtndjhnipahkclaaW.PrintMore Go.Proofs.Ytndjhnipahkclaa.PKeysPlay Go.Proofs.Ytndjhnipahkclaa.Lex Go.Proofs.Ytndjhnipahkclaa.Lib
theorem prefNil (peer : Int) (w : World) : Calls Try.prog 14 #[.pointer none, .int .u32 peer] w fun e w' => e = .returned (.tuple #[a36 z36, .bool false]) ∧ Below w.heap.size w w' := by
  have hz := zero36
  have HB := Aside0.mk (below_alloc (below_alloc (Below.refl w.heap.size w) (.cells #[.int .u32 peer] 33)) (.cells (c36 z36).toArray 36))
  have s1 : (w.alloc (.cells #[.int .u32 peer] 33)).heap.size = w.heap.size + 1 := by simp
  have o2 := Ob.new (w.alloc (.cells #[.int .u32 peer] 33)) (c36 z36) _ rfl 36
  rw [s1] at o2
  obtain ⟨W3, hst, ho3, hb3⟩ := store36 (x := z36) o2
  have HST := Aside0.mk hst
  have HLD := Aside0.mk (load36 ho3)
  have HBE := Aside0.mk (HB.out.trans (hb3.below HB.out.size (fun j hj e => by have : j = w.heap.size + 1 := e; omega)))
  clear s1 o2 hst ho3 hb3
  go_enter Try.func14, Try.ntmps14
  go_wp2_with fail
  refine (none_nil _).mono ?_
  rintro e w' ⟨rfl, rfl⟩
  go_wp2_with (refine pl_store rfl 36 _ _ rfl _ _ HST.out rfl rfl ?_)
  refine bodyPost_ret (results_row_tmp rfl _ _ (w.heap.size + 1) _ rfl HLD.out) rfl ?_
  exact ⟨rfl, HBE.out⟩
theorem recvNil (peer n : Int) (w : World) : Calls Try.prog 18 #[.pointer none, .int .u32 peer, .int .u8 n] w fun e w' => e = .returned (.tuple #[a36 z36, .bool false]) ∧ Below w.heap.size w w' := by
  have hz := zero36
  have HB := Aside0.mk (below_alloc (below_alloc (below_alloc (Below.refl w.heap.size w) (.cells #[.int .u32 peer] 33)) (.cells #[.int .u8 n] 5)) (.cells (c36 z36).toArray 36))
  have s1 : ((w.alloc (.cells #[.int .u32 peer] 33)).alloc (.cells #[.int .u8 n] 5)).heap.size = w.heap.size + 1 + 1 := by simp
  have o2 := Ob.new ((w.alloc (.cells #[.int .u32 peer] 33)).alloc (.cells #[.int .u8 n] 5)) (c36 z36) _ rfl 36
  rw [s1] at o2
  obtain ⟨W3, hst, ho3, hb3⟩ := store36 (x := z36) o2
  have HST := Aside0.mk hst
  have HLD := Aside0.mk (load36 ho3)
  have HBE := Aside0.mk (HB.out.trans (hb3.below HB.out.size (fun j hj e => by have : j = w.heap.size + 1 + 1 := e; omega)))
  clear s1 o2 hst ho3 hb3
  go_enter Try.func18, Try.ntmps18
  go_wp2_with fail
  refine (none_nil _).mono ?_
  rintro e w' ⟨rfl, rfl⟩
  go_wp2_with (refine pl_store rfl 36 _ _ rfl _ _ HST.out rfl rfl ?_)
  refine bodyPost_ret (results_row_tmp rfl _ _ (w.heap.size + 1 + 1) _ rfl HLD.out) rfl ?_
  exact ⟨rfl, HBE.out⟩
theorem sendZero {p : Nat} (peer n : Int) (w : World) (c1 : w.cell? ⟨p, 1, none⟩ = some (.map none)) : Calls Try.prog 17 #[ptr p, .int .u32 peer, .int .u8 n] w fun e w' => e = .returned (.tuple #[a36 z36, .bool false]) ∧ Below w.heap.size w w' := by
  have hz := zero36
  have HB := Aside0.mk (below_alloc (below_alloc (below_alloc (Below.refl w.heap.size w) (.cells #[.int .u32 peer] 33)) (.cells #[.int .u8 n] 5)) (.cells (c36 z36).toArray 36))
  have s1 : ((w.alloc (.cells #[.int .u32 peer] 33)).alloc (.cells #[.int .u8 n] 5)).heap.size = w.heap.size + 1 + 1 := by simp
  have o2 := Ob.new ((w.alloc (.cells #[.int .u32 peer] 33)).alloc (.cells #[.int .u8 n] 5)) (c36 z36) _ rfl 36
  rw [s1] at o2
  obtain ⟨W3, hst, ho3, hb3⟩ := store36 (x := z36) o2
  have HST := Aside0.mk hst
  have HLD := Aside0.mk (load36 ho3)
  have HBE := Aside0.mk (HB.out.trans (hb3.below HB.out.size (fun j hj e => by have : j = w.heap.size + 1 + 1 := e; omega)))
  have HZ := Aside0.mk (none_zero (p := p) (pw_cell_below HB.out c1))
  clear s1 o2 hst ho3 hb3
  go_enter Try.func17, Try.ntmps17
  go_wp2_with fail
  refine HZ.out.mono ?_
  rintro e w' ⟨rfl, rfl⟩
  go_wp2_with (refine pl_store rfl 36 _ _ rfl _ _ HST.out rfl rfl ?_)
  refine bodyPost_ret (results_row_tmp rfl _ _ (w.heap.size + 1 + 1) _ rfl HLD.out) rfl ?_
  exact ⟨rfl, HBE.out⟩
/-- Same of keys that are not there, and of such that are -/
theorem sameNil {p : Nat} (w : World) (b : Bool) (hn : ∀ W : World, Below w.heap.size w W → Calls Try.prog 29 #[ptr p] W fun e w' => e = .returned (.bool b) ∧ W = w') : Calls Try.prog 16 #[.pointer none, ptr p] w fun e w' => e = .returned (.bool b) ∧ Below w.heap.size w w' := by
  have HB := Aside0.mk (below_alloc (below_alloc (Below.refl w.heap.size w) (.cells #[.pointer none] 25)) (.cells #[ptr p] 25))
  have HN := Aside0.mk (hn _ HB.out)
  clear hn
  go_enter Try.func16, Try.ntmps16
  go_wp2_with fail
  refine (none_nil _).mono ?_
  rintro e w' ⟨rfl, rfl⟩
  go_wp2_with fail
  refine (none_nil _).mono ?_
  rintro e w' ⟨rfl, rfl⟩
  go_wp2_with fail
  refine HN.out.mono ?_
  rintro e w' ⟨rfl, rfl⟩
  go_wp2_with fail
  go_ret
  exact ⟨rfl, HB.out⟩
theorem sameZero {p q : Nat} (w : World) (hn : ∀ W : World, Below w.heap.size w W → Calls Try.prog 29 #[ptr p] W fun e w' => e = .returned (.bool false) ∧ W = w') (hq : ∀ W : World, Below w.heap.size w W → Calls Try.prog 29 #[ptr q] W fun e w' => e = .returned (.bool true) ∧ W = w') : Calls Try.prog 16 #[ptr p, ptr q] w fun e w' => e = .returned (.bool false) ∧ Below w.heap.size w w' := by
  have HB := Aside0.mk (below_alloc (below_alloc (Below.refl w.heap.size w) (.cells #[ptr p] 25)) (.cells #[ptr q] 25))
  have HN := Aside0.mk (hn _ HB.out)
  have HQ := Aside0.mk (hq _ HB.out)
  clear hn hq
  go_enter Try.func16, Try.ntmps16
  go_wp2_with fail
  refine HN.out.mono ?_
  rintro e w' ⟨rfl, rfl⟩
  go_wp2_with fail
  refine HQ.out.mono ?_
  rintro e w' ⟨rfl, rfl⟩
  go_wp2_with fail
  refine HN.out.mono ?_
  rintro e w' ⟨rfl, rfl⟩
  go_wp2_with fail
  go_ret
  exact ⟨rfl, HB.out⟩
end Go.Proofs.Ytndjhnipahkclaa.Ke

set_option linter.unusedSimpArgs false
set_option linter.unusedVariables false
namespace Go.Proofs.Ytndjhnipahkclaa.Ke
open Go.RowKit Go.Proofs.YtndjhnipahkclaaW.PrintWords Go.Proofs.YtndjhnipahkclaaW.PrintLast Go.Proofs.YtndjhnipahkclaaW.PrintMore Go.Proofs.Ytndjhnipahkclaa.PKeysPlay Go.Proofs.Ytndjhnipahkclaa.Lex Go.Proofs.Ytndjhnipahkclaa.Lib
set_option maxHeartbeats 16000000 in
set_option maxRecDepth 100000 in
theorem nilC (m : S36) (w : World) : Calls Try.prog 7 #[a36 m] w fun e w' => e = .returned (.bool true) ∧ Below w.heap.size w w' := by
  have hba := below_alloc (Below.refl w.heap.size w) (.cells #[.int .u32 m.f0, .int .u8 m.f1, .int .u8 m.f2, .int .i64 m.f3, .string m.f4] 36)
  have HBA := Aside0.mk hba
  by_cases hbig : (200 : Int) < (m.f4.size : Int)
  · have hbd : decide ((200 : Int) < (m.f4.size : Int)) = true := decide_eq_true hbig
    have KN := Aside0.mk (knownC (w.alloc (.cells #[.int .u32 m.f0, .int .u8 m.f1, .int .u8 m.f2, .int .i64 m.f3, .string m.f4] 36)))
    clear hba
    go_enter Try.func7, Try.ntmps7
    go_wp2_with fail
    refine KN.out.mono ?_
    rintro e w2 ⟨rfl, hb2⟩
    have HB2 := Aside0.mk (HBA.out.trans (hb2.mono HBA.out.size))
    clear hb2
    go_wp2_with fail
    go_ret
    exact ⟨rfl, HB2.out⟩
  · have hbd : decide ((200 : Int) < (m.f4.size : Int)) = false := decide_eq_false hbig
    have s1 : (w.alloc (.cells #[.int .u32 m.f0, .int .u8 m.f1, .int .u8 m.f2, .int .i64 m.f3, .string m.f4] 36)).heap.size = w.heap.size + 1 := by simp
    have om : Ob w.heap.size (w.alloc (.cells #[.int .u32 m.f0, .int .u8 m.f1, .int .u8 m.f2, .int .i64 m.f3, .string m.f4] 36)) (c36 m) := Ob.new w (c36 m) _ rfl _
    have oz := Ob.new (w.alloc (.cells #[.int .u32 m.f0, .int .u8 m.f1, .int .u8 m.f2, .int .i64 m.f3, .string m.f4] 36)) [.slice none 0 0, .map none] _ rfl 49
    have hbz := below_alloc (Below.refl (w.alloc (.cells #[.int .u32 m.f0, .int .u8 m.f1, .int .u8 m.f2, .int .i64 m.f3, .string m.f4] 36)).heap.size (w.alloc (.cells #[.int .u32 m.f0, .int .u8 m.f1, .int .u8 m.f2, .int .i64 m.f3, .string m.f4] 36))) (.cells #[.slice none 0 0, .map none] 49)
    rw [s1] at oz
    have om := om.below hbz om.lt
    have hb0 := hba.trans (hbz.mono hba.size)
    obtain ⟨V, hV⟩ : ∃ V, (w.alloc (.cells #[.int .u32 m.f0, .int .u8 m.f1, .int .u8 m.f2, .int .i64 m.f3, .string m.f4] 36)).alloc (.cells #[.slice none 0 0, .map none] 49) = V := ⟨_, rfl⟩
    rw [hV] at om oz hb0
    have HV := Aside0.mk hV
    have HBW0 := Aside0.mk hb0
    have HF : Aside0 (∀ U, Below V.heap.size V U → U.cell? ⟨w.heap.size, 0, none⟩ = some (.int .u32 m.f0) ∧ U.cell? ⟨w.heap.size, 1, none⟩ = some (.int .u8 m.f1) ∧ U.cell? ⟨w.heap.size, 2, none⟩ = some (.int .u8 m.f2) ∧ U.cell? ⟨w.heap.size, 3, none⟩ = some (.int .i64 m.f3) ∧ U.cell? ⟨w.heap.size, 4, none⟩ = some (.string m.f4) ∧ U.cell? ⟨w.heap.size + 1, 1, none⟩ = some (.map none)) := ⟨fun U hU => by
      have h1 := om.below hU om.lt
      have h2 := oz.below hU oz.lt
      exact ⟨(h1 0 _ rfl).1, (h1 1 _ rfl).1, (h1 2 _ rfl).1, (h1 3 _ rfl).1, (h1 4 _ rfl).1, (h2 1 _ rfl).1⟩⟩
    clear hba s1 om oz hbz hb0 hV
    go_enter Try.func7, Try.ntmps7
    go_wp2_with fail
    rw [HV.out]
    have HBv := Aside0.mk (Below.refl V.heap.size V)
    refine (prefNil m.f0 V).mono ?_
    rintro e u0 ⟨rfl, hb⟩
    have HB0 := Aside0.mk ((HBv.out.trans (hb.mono HBv.out.size)).trans ((below_alloc (Below.refl u0.heap.size u0) (.cells #[.int .u32 z36.f0, .int .u8 z36.f1, .int .u8 z36.f2, .int .i64 z36.f3, .string z36.f4] 36)).mono (HBv.out.trans (hb.mono HBv.out.size)).size))
    obtain ⟨c0, c1, c2, c3, c4, z1⟩ := HF.out _ HB0.out
    clear hb
    go_wp2_with fail
    refine (sendZero (p := w.heap.size + 1) m.f0 m.f1 _ z1).mono ?_
    rintro e u1 ⟨rfl, hb⟩
    clear c0 c1 c2 c3 c4 z1
    have HB1 := Aside0.mk ((HB0.out.trans (hb.mono HB0.out.size)).trans ((below_alloc (Below.refl u1.heap.size u1) (.cells #[.int .u32 z36.f0, .int .u8 z36.f1, .int .u8 z36.f2, .int .i64 z36.f3, .string z36.f4] 36)).mono (HB0.out.trans (hb.mono HB0.out.size)).size))
    obtain ⟨c0, c1, c2, c3, c4, z1⟩ := HF.out _ HB1.out
    clear hb
    go_wp2_with fail
    refine (recvNil m.f0 m.f2 _).mono ?_
    rintro e u2 ⟨rfl, hb⟩
    clear c0 c1 c2 c3 c4 z1
    have HB2 := Aside0.mk ((HB1.out.trans (hb.mono HB1.out.size)).trans ((below_alloc (Below.refl u2.heap.size u2) (.cells #[.int .u32 z36.f0, .int .u8 z36.f1, .int .u8 z36.f2, .int .i64 z36.f3, .string z36.f4] 36)).mono (HB1.out.trans (hb.mono HB1.out.size)).size))
    obtain ⟨c0, c1, c2, c3, c4, z1⟩ := HF.out _ HB2.out
    clear hb
    go_wp2_with fail
    refine (addNil m _).mono ?_
    rintro e u3 ⟨rfl, hb⟩
    clear c0 c1 c2 c3 c4 z1
    have HB3 := Aside0.mk (HB2.out.trans (hb.mono HB2.out.size))
    obtain ⟨c0, c1, c2, c3, c4, z1⟩ := HF.out _ HB3.out
    clear hb
    go_wp2_with fail
    refine (removeZero (p := w.heap.size + 1) m.f0 m.f1 _ z1).mono ?_
    rintro e u4 ⟨rfl, hb⟩
    clear c0 c1 c2 c3 c4 z1
    have HB4 := Aside0.mk (HB3.out.trans (hb.mono HB3.out.size))
    obtain ⟨c0, c1, c2, c3, c4, z1⟩ := HF.out _ HB4.out
    clear hb
    go_wp2_with fail
    refine (preferNil m.f0 m.f1 _).mono ?_
    rintro e u5 ⟨rfl, hb⟩
    clear c0 c1 c2 c3 c4 z1
    have HB5 := Aside0.mk (HB4.out.trans (hb.mono HB4.out.size))
    obtain ⟨c0, c1, c2, c3, c4, z1⟩ := HF.out _ HB5.out
    clear hb
    go_wp2_with fail
    refine (allZero (p := w.heap.size + 1) _ z1).mono ?_
    rintro e u6 ⟨rfl, hb⟩
    clear c0 c1 c2 c3 c4 z1
    have HB6 := Aside0.mk (HB5.out.trans (hb.mono HB5.out.size))
    obtain ⟨c0, c1, c2, c3, c4, z1⟩ := HF.out _ HB6.out
    clear hb
    go_wp2_with fail
    refine (copyNil _).mono ?_
    rintro e u7 ⟨rfl, hb⟩
    clear c0 c1 c2 c3 c4 z1
    have HB7 := Aside0.mk (HB6.out.trans (hb.mono HB6.out.size))
    obtain ⟨c0, c1, c2, c3, c4, z1⟩ := HF.out _ HB7.out
    clear hb
    go_wp2_with fail
    refine (sameNil (p := w.heap.size + 1) _ true (fun W hW => none_zero (pw_cell_below hW z1))).mono ?_
    rintro e u8 ⟨rfl, hb⟩
    clear c0 c1 c2 c3 c4 z1
    have HB8 := Aside0.mk (HB7.out.trans (hb.mono HB7.out.size))
    obtain ⟨c0, c1, c2, c3, c4, z1⟩ := HF.out _ HB8.out
    clear hb
    go_wp2_with fail
    refine (newC _).mono ?_
    rintro e v1 ⟨p1, q1, rfl, hk1, _, _, hb⟩
    clear c0 c1 c2 c3 c4 z1
    have HBn1 := Aside0.mk (HB8.out.trans (hb.mono HB8.out.size))
    have hz1 := hk1.c1
    clear hb hk1
    go_wp2_with fail
    refine (sameNil (p := p1) v1 false (fun W hW => none_some (pw_cell_below hW hz1))).mono ?_
    rintro e v2 ⟨rfl, hb⟩
    have HBn2 := Aside0.mk (HBn1.out.trans (hb.mono HBn1.out.size))
    clear hb hz1
    go_wp2_with fail
    refine (newC _).mono ?_
    rintro e v3 ⟨p3, q3, rfl, hk3, _, _, hb⟩
    have HBn3 := Aside0.mk (HBn2.out.trans (hb.mono HBn2.out.size))
    have hz3 := hk3.c1
    obtain ⟨c0, c1, c2, c3, c4, z1⟩ := HF.out _ HBn3.out
    clear hb hk3
    go_wp2_with fail
    refine (sameZero (p := p3) (q := w.heap.size + 1) v3 (fun W hW => none_some (pw_cell_below hW hz3)) (fun W hW => none_zero (pw_cell_below hW z1))).mono ?_
    rintro e v4 ⟨rfl, hb⟩
    have HBn4 := Aside0.mk (HBn3.out.trans (hb.mono HBn3.out.size))
    clear hb hz3 c0 c1 c2 c3 c4 z1
    go_wp2_with fail
    refine (knownC _).mono ?_
    rintro e v5 ⟨rfl, hb⟩
    have HBn5 := Aside0.mk (HBW0.out.trans ((HBn4.out.trans (hb.mono HBn4.out.size)).mono HBW0.out.size))
    clear hb
    go_wp2_with fail
    go_ret
    exact ⟨rfl, HBn5.out⟩
theorem nilLaw (a : Array Value) (x : S36) (w : World) (hx : k36.K w x a.toList) (ho : okM x) : Calls Try.prog 7 #[.agg a] w fun e w' => e = .returned (.bool true) ∧ Below w.heap.size w w' := by
  have e := k36_open hx
  have e2 : a = #[.int .u32 x.f0, .int .u8 x.f1, .int .u8 x.f2, .int .i64 x.f3, .string x.f4] := by
    apply Array.ext'
    rw [e]
  rw [e2]
  exact nilC x w
end Go.Proofs.Ytndjhnipahkclaa.Ke
namespace Go.Proofs.Ytndjhnipahkclaa.Row
open Go.RowKit Go.Proofs.YtndjhnipahkclaaW.PrintWords Go.Proofs.YtndjhnipahkclaaW.PrintLast Go.Proofs.YtndjhnipahkclaaW.PrintMore
theorem open_kagg {α : Type} {d : Kd α} {t : TypeId} {ok : α → Prop} (hO : Opens d t ok) {H : Type} {enc : TypeId × Value → H} {W : World} {base : Nat} {spare : Nat → Bool} {held : Bool} {cs : Array Value} {dd : DataW H} {ps : List MemPlace}
    (h : DataW.Trod enc Try.prog W base spare held t (.agg cs) dd ps) : ∃ x : α, d.K W x cs.toList ∧ ok x := by
  obtain ⟨fuel, hf⟩ := h
  exact hO.opens hf
end Go.Proofs.Ytndjhnipahkclaa.Row
