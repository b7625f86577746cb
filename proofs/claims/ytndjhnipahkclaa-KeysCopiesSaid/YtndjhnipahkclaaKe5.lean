/- Keys: the preferred one. -/
import Derived.Test.YtndjhnipahkclaaKe4
import Derived.Test.YtndjhnipahkclaaLexT
set_option linter.unusedSimpArgs false
set_option linter.unusedVariables false
namespace Go.Proofs.Ytndjhnipahkclaa.Ke
open Go.RowKit Go.Proofs.YtndjhnipahkclaaW.PrintWords Go.Proofs.YtndjhnipahkclaaW.PrintLast Go.Proofs.YtndjhnipahkclaaW.PrintMore Go.Proofs.Ytndjhnipahkclaa.PKeysPlay Go.Proofs.Ytndjhnipahkclaa.Lex Go.Proofs.Ytndjhnipahkclaa.Lib
theorem prefT (g1 g2 g3 : Nat) (peer send : Int) (is : Bool) (x : S36) (w : World) (h1 : w.cell? ⟨g1, 0, none⟩ = some (.int .u32 peer)) (h2 : w.cell? ⟨g2, 0, none⟩ = some (.bool is)) (h3 : w.cell? ⟨g3, 0, none⟩ = some (.int .u8 send)) :
    Calls Try.prog 33 (#[a36 x] ++ #[ptr g1, ptr g2, ptr g3]) w fun e w' => e = .returned (.bool (x.f0 == peer && (!is || x.f1 == send))) ∧ Below w.heap.size w w' := by
  have HB := Aside0.mk (below_alloc (Below.refl w.heap.size w) (.cells #[.int .u32 x.f0, .int .u8 x.f1, .int .u8 x.f2, .int .i64 x.f3, .string x.f4] 36))
  have h1' := pw_cell_below HB.out h1
  have h2' := pw_cell_below HB.out h2
  have h3' := pw_cell_below HB.out h3
  clear h1 h2 h3
  cases e0 : (x.f0 == peer) with
  | true =>
    cases is with
    | true =>
      go_enter Try.func33, Try.ntmps33
      go_wp2_with fail
      go_ret
      exact ⟨by simp, HB.out⟩
    | false =>
      go_enter Try.func33, Try.ntmps33
      go_wp2_with fail
      go_ret
      exact ⟨by simp, HB.out⟩
  | false =>
    go_enter Try.func33, Try.ntmps33
    go_wp2_with fail
    go_ret
    exact ⟨by simp, HB.out⟩
/-- the key that is preferred: the first one of the peer, or of it and the number that is wished -/
def prefP (f : Int → Option Int) (peer : Int) : S36 → Bool := fun x => x.f0 == peer && (!(f peer).isSome || x.f1 == (f peer).getD 0)
set_option maxHeartbeats 2000000 in
theorem preferredC {S : Nat → Prop} (p m n : Nat) (A : Option Addr) (c : Nat) (l : List S36) (f : Int → Option Int) (peer : Int) (w : World) (hk : KS S p m n w A c l f) (hp : (kl peer).wf = true) :
    Calls Try.prog 14 #[ptr p, .int .u32 peer] w fun e w' => e = .returned (.tuple #[a36 ((l.find? (prefP f peer)).getD z36), .bool (l.any (prefP f peer))]) ∧ Below w.heap.size w w' := by
  have hz := zero36
  have hb1 := below_alloc (Below.refl w.heap.size w) (.cells #[.int .u32 peer] 33)
  have hb2 := below_alloc hb1 (.cells #[.int .u32 z36.f0, .int .u8 z36.f1, .int .u8 z36.f2, .int .i64 z36.f3, .string z36.f4] 36)
  have s1 : (w.alloc (.cells #[.int .u32 peer] 33)).heap.size = w.heap.size + 1 := by simp
  have o1 : Ob w.heap.size (w.alloc (.cells #[.int .u32 peer] 33)) [.int .u32 peer] := Ob.new w _ _ rfl _
  have o2 := Ob.new (w.alloc (.cells #[.int .u32 peer] 33)) (c36 z36) #[.int .u32 z36.f0, .int .u8 z36.f1, .int .u8 z36.f2, .int .i64 z36.f3, .string z36.f4] rfl 36
  rw [s1] at o2
  have o1 := o1.below (below_alloc (Below.refl _ _) (.cells #[.int .u32 z36.f0, .int .u8 z36.f1, .int .u8 z36.f2, .int .i64 z36.f3, .string z36.f4] 36)) (by rw [s1]; omega)
  have s2 : ((w.alloc (.cells #[.int .u32 peer] 33)).alloc (.cells #[.int .u32 z36.f0, .int .u8 z36.f1, .int .u8 z36.f2, .int .i64 z36.f3, .string z36.f4] 36)).heap.size = w.heap.size + 1 + 1 := by simp
  obtain ⟨V, hV⟩ : ∃ V, (w.alloc (.cells #[.int .u32 peer] 33)).alloc (.cells #[.int .u32 z36.f0, .int .u8 z36.f1, .int .u8 z36.f2, .int .i64 z36.f3, .string z36.f4] 36) = V := ⟨_, rfl⟩
  rw [hV] at hb2 o1 o2 s2
  have hkV := hk.below hb2
  have h1' := hkV.c1
  have HV := Aside0.mk hV
  have HB2 := Aside0.mk hb2
  have HO1 := Aside0.mk o1
  have HO2 := Aside0.mk o2
  have HKV := Aside0.mk hkV
  have hlk := fun (U : World) (hU : Below V.heap.size V U) => (hkV.below hU).map.look peer hp
  have hF : Aside0 (∀ U, Below V.heap.size V U → U.cell? ⟨p, 1, none⟩ = some (.map (some m)) ∧ U.cell? ⟨w.heap.size, 0, none⟩ = some (.int .u32 peer) ∧ (Instr.lookup 47 (.map (some m)) (.int .u32 peer) true).run Try.prog U = .ok (.tuple #[.int .u8 ((f peer).getD 0), .bool (f peer).isSome]) U) := ⟨fun U hU => ⟨(hkV.below hU).c1, pw_cell_below hU (o1 0 _ rfl).1, hlk U hU⟩⟩
  have hP : prefP f peer = fun x => x.f0 == peer && (!(f peer).isSome || x.f1 == (f peer).getD 0) := rfl
  rw [hP]
  obtain ⟨sv, hsv⟩ : ∃ v, (f peer).getD 0 = v := ⟨_, rfl⟩
  obtain ⟨iv, hiv⟩ : ∃ v, (f peer).isSome = v := ⟨_, rfl⟩
  simp only [hsv, hiv] at hF ⊢
  have HSV := Aside0.mk hsv
  clear hlk hP hsv hiv
  obtain ⟨y, hy⟩ : ∃ y, (l.find? (fun x => x.f0 == peer && (!iv || x.f1 == sv))).getD z36 = y := ⟨_, rfl⟩
  obtain ⟨q, hq⟩ : ∃ q, l.any (fun x => x.f0 == peer && (!iv || x.f1 == sv)) = q := ⟨_, rfl⟩
  have HY := Aside0.mk hy
  have HQ := Aside0.mk hq
  rw [hy, hq]
  clear hk hb1 hb2 o1 o2 s1 hV hkV hy hq
  go_enter Try.func14, Try.ntmps14
  go_wp2_with fail
  rw [HV.out]
  refine (none_some h1').mono ?_
  rintro e w' ⟨rfl, rfl⟩
  go_wp2_with fail
  refine regionT (.one 0 .p (.one 1 .p (.one 2 .p (.one 3 .t (.one 4 .t (.one 5 .t (.one 6 .p (.one 7 .p (.one 8 .p (.two 9 (.one 10 .o (.one 11 .o (.one 12 .o .nil))) 10 (.one 9 .o (.one 11 .o (.one 12 .o .nil))))))))))))) (fun U => U.cell? ⟨p, 1, none⟩ = some (.map (some m)) ∧ U.cell? ⟨w.heap.size, 0, none⟩ = some (.int .u32 peer) ∧ (Instr.lookup 47 (.map (some m)) (.int .u32 peer) true).run Try.prog U = .ok (.tuple #[.int .u8 sv, .bool iv]) U) (by kernel_rfl) (by kernel_rfl) (fun _ _ _ _ _ h => h) (hF.out _ (below_drew (Below.refl _ _))) (fun hHeld => ?_)
  iterate 3 (refine lt_p rfl rfl rfl (by intro w'; go_simp; with_reducible rfl) (by simp only [Act.put, List.setIfInBounds_toArray, List.set_cons_zero, List.set_cons_succ, i64_w, i32_w]; rfl) ?_)
  iterate 3 (refine lt_t rfl rfl rfl (by rintro w' ⟨s0, s1, s2⟩; go_simp; with_reducible rfl) (by simp only [Act.put, List.setIfInBounds_toArray, List.set_cons_zero, List.set_cons_succ, i64_w, i32_w]; rfl) ?_)
  iterate 3 (refine lt_p rfl rfl rfl (by intro w'; go_simp; with_reducible rfl) (by simp only [Act.put, List.setIfInBounds_toArray, List.set_cons_zero, List.set_cons_succ, i64_w, i32_w]; rfl) ?_)
  refine lt_two rfl rfl ?_ ?_
  · go_wp2_with fail
    have B1 := Aside0.mk (below_alloc (below_drew (Below.refl V.heap.size V)) (.cells #[.int .u8 0] 5))
    refine lt_end (by first | (simp only [Act.put, List.setIfInBounds_toArray, List.set_cons_zero, List.set_cons_succ, i64_w, i32_w]; rfl) | rfl) (hF.out _ B1.out) (fun hHeld => ?_)
    refine lt_o rfl ?_
    go_wp2_with fail
    have B2 := Aside0.mk (below_alloc B1.out (.cells #[.bool false] 4))
    refine lt_end (by first | (simp only [Act.put, List.setIfInBounds_toArray, List.set_cons_zero, List.set_cons_succ, i64_w, i32_w]; rfl) | rfl) (hF.out _ B2.out) (fun hHeld => ?_)
    refine lt_o rfl ?_
    go_wp2_with fail
    have B3 : Aside0 (Below V.heap.size V ((V.alloc (.cells #[.int .u8 sv] 5)).alloc (.cells #[.bool false] 4)).drew) := ⟨below_drew (below_alloc (below_alloc (Below.refl _ _) _) _)⟩
    refine lt_end (by first | (simp only [Act.put, List.setIfInBounds_toArray, List.set_cons_zero, List.set_cons_succ, i64_w, i32_w]; rfl) | rfl) (hF.out _ B3.out) (fun hHeld => ?_)
    refine lt_o rfl ?_
    go_wp2_with fail
    have hsz : (V.alloc (.cells #[.int .u8 sv] 5)).heap.size = V.heap.size + 1 := by simp
    have B4 : Aside0 (Below V.heap.size V ((V.alloc (.cells #[.int .u8 sv] 5)).alloc (.cells #[.bool iv] 4)).drew) := ⟨below_drew (below_alloc (below_alloc (Below.refl _ _) _) _)⟩
    have OA0 := (Ob.new V [.int .u8 sv] #[.int .u8 sv] rfl 5).below (below_alloc (Below.refl (V.alloc (.cells #[.int .u8 sv] 5)).heap.size (V.alloc (.cells #[.int .u8 sv] 5))) (.cells #[.bool iv] 4)) (by rw [hsz]; omega)
    have OA : Ob V.heap.size ((V.alloc (.cells #[.int .u8 sv] 5)).alloc (.cells #[.bool iv] 4)).drew [.int .u8 sv] := OA0
    have OB : Ob (V.alloc (.cells #[.int .u8 sv] 5)).heap.size ((V.alloc (.cells #[.int .u8 sv] 5)).alloc (.cells #[.bool iv] 4)).drew [.bool iv] := Ob.new (V.alloc (.cells #[.int .u8 sv] 5)) [.bool iv] #[.bool iv] rfl 4
    rw [hsz] at OB
    have HOS := Aside0.mk OA
    have HOW := Aside0.mk OB
    clear OA0 OA OB hsz
    obtain ⟨U, hU⟩ : ∃ U, ((V.alloc (.cells #[.int .u8 sv] 5)).alloc (.cells #[.bool iv] 4)).drew = U := ⟨_, rfl⟩
    rw [s2] at HOS HOW
    rw [hU] at B4 HOS HOW ⊢
    obtain ⟨gs, HGS⟩ : ∃ g, Aside0 (w.heap.size + 1 + 1 = g) := ⟨_, ⟨rfl⟩⟩
    obtain ⟨gw, HGW⟩ : ∃ g, Aside0 (w.heap.size + 1 + 1 + 1 = g) := ⟨_, ⟨rfl⟩⟩
    rw [HGS.out] at HOS
    rw [HGW.out] at HOW
    refine lt_end (by first | (simp only [Act.put, List.setIfInBounds_toArray, List.set_cons_zero, List.set_cons_succ, i64_w, i32_w]; rfl) | rfl) (hF.out _ B4.out) (fun hHeld => ?_)
    refine lt_nil ?_
    have hk0 := ((HKV.out.below B4.out).c0)
    have HF2 := Aside0.mk (findC 33 #[ptr w.heap.size, ptr gw, ptr gs] (eg 33 Try.func33 (by kernel_rfl) rfl) (fun x => x.f0 == peer && (!iv || x.f1 == sv)) A c l U
      (fun W x hW _ => prefT w.heap.size gw gs peer sv iv x W (hF.out W (B4.out.trans (hW.mono B4.out.size))).2.1 (pw_cell_below hW (HOW.out 0 _ rfl).1) (pw_cell_below hW (HOS.out 0 _ rfl).1)) (HKV.out.below B4.out).row)
    rw [HY.out, HQ.out] at HF2
    rw [← HGS.out, ← HGW.out] at HF2
    have HO3 := Aside0.mk (HO2.out.below B4.out (by omega))
    have HB3 := Aside0.mk (HB2.out.trans (B4.out.mono HB2.out.size))
    go_wp2_with fail
    refine HF2.out.mono ?_
    rintro e w2 ⟨rfl, hb2⟩
    have hU2 := B4.out.size
    obtain ⟨W3, hst, ho3, hb3⟩ := store36 (x := y) (HO3.out.below hb2 (by omega))
    have HST := Aside0.mk hst
    have HLD := Aside0.mk (load36 ho3)
    have B5 := HB3.out.trans (hb2.mono HB3.out.size)
    have HBE := Aside0.mk (B5.trans (hb3.below B5.size (fun j hj e => by have : j = w.heap.size + 1 := e; omega)))
    clear hb2 hst ho3 hb3 B5
    go_wp2_with (refine pl_store rfl 36 _ _ rfl _ _ HST.out rfl rfl ?_)
    refine bodyPost_ret (results_row_tmp rfl _ _ (w.heap.size + 1) _ rfl HLD.out) rfl ?_
    exact ⟨rfl, HBE.out⟩
  · go_wp2_with fail
    have B1 := Aside0.mk (below_alloc (below_drew (Below.refl V.heap.size V)) (.cells #[.bool false] 4))
    refine lt_end (by first | (simp only [Act.put, List.setIfInBounds_toArray, List.set_cons_zero, List.set_cons_succ, i64_w, i32_w]; rfl) | rfl) (hF.out _ B1.out) (fun hHeld => ?_)
    refine lt_o rfl ?_
    go_wp2_with fail
    have B2 := Aside0.mk (below_alloc B1.out (.cells #[.int .u8 0] 5))
    refine lt_end (by first | (simp only [Act.put, List.setIfInBounds_toArray, List.set_cons_zero, List.set_cons_succ, i64_w, i32_w]; rfl) | rfl) (hF.out _ B2.out) (fun hHeld => ?_)
    refine lt_o rfl ?_
    go_wp2_with fail
    have B3 : Aside0 (Below V.heap.size V ((V.alloc (.cells #[.bool false] 4)).alloc (.cells #[.int .u8 sv] 5)).drew) := ⟨below_drew (below_alloc (below_alloc (Below.refl _ _) _) _)⟩
    refine lt_end (by first | (simp only [Act.put, List.setIfInBounds_toArray, List.set_cons_zero, List.set_cons_succ, i64_w, i32_w]; rfl) | rfl) (hF.out _ B3.out) (fun hHeld => ?_)
    refine lt_o rfl ?_
    go_wp2_with fail
    have hsz : (V.alloc (.cells #[.bool iv] 4)).heap.size = V.heap.size + 1 := by simp
    have B4 : Aside0 (Below V.heap.size V ((V.alloc (.cells #[.bool iv] 4)).alloc (.cells #[.int .u8 sv] 5)).drew) := ⟨below_drew (below_alloc (below_alloc (Below.refl _ _) _) _)⟩
    have OA0 := (Ob.new V [.bool iv] #[.bool iv] rfl 4).below (below_alloc (Below.refl (V.alloc (.cells #[.bool iv] 4)).heap.size (V.alloc (.cells #[.bool iv] 4))) (.cells #[.int .u8 sv] 5)) (by rw [hsz]; omega)
    have OA : Ob V.heap.size ((V.alloc (.cells #[.bool iv] 4)).alloc (.cells #[.int .u8 sv] 5)).drew [.bool iv] := OA0
    have OB : Ob (V.alloc (.cells #[.bool iv] 4)).heap.size ((V.alloc (.cells #[.bool iv] 4)).alloc (.cells #[.int .u8 sv] 5)).drew [.int .u8 sv] := Ob.new (V.alloc (.cells #[.bool iv] 4)) [.int .u8 sv] #[.int .u8 sv] rfl 5
    rw [hsz] at OB
    have HOS := Aside0.mk OB
    have HOW := Aside0.mk OA
    clear OA0 OA OB hsz
    obtain ⟨U, hU⟩ : ∃ U, ((V.alloc (.cells #[.bool iv] 4)).alloc (.cells #[.int .u8 sv] 5)).drew = U := ⟨_, rfl⟩
    rw [s2] at HOS HOW
    rw [hU] at B4 HOS HOW ⊢
    obtain ⟨gs, HGS⟩ : ∃ g, Aside0 (w.heap.size + 1 + 1 + 1 = g) := ⟨_, ⟨rfl⟩⟩
    obtain ⟨gw, HGW⟩ : ∃ g, Aside0 (w.heap.size + 1 + 1 = g) := ⟨_, ⟨rfl⟩⟩
    rw [HGS.out] at HOS
    rw [HGW.out] at HOW
    refine lt_end (by first | (simp only [Act.put, List.setIfInBounds_toArray, List.set_cons_zero, List.set_cons_succ, i64_w, i32_w]; rfl) | rfl) (hF.out _ B4.out) (fun hHeld => ?_)
    refine lt_nil ?_
    have hk0 := ((HKV.out.below B4.out).c0)
    have HF2 := Aside0.mk (findC 33 #[ptr w.heap.size, ptr gw, ptr gs] (eg 33 Try.func33 (by kernel_rfl) rfl) (fun x => x.f0 == peer && (!iv || x.f1 == sv)) A c l U
      (fun W x hW _ => prefT w.heap.size gw gs peer sv iv x W (hF.out W (B4.out.trans (hW.mono B4.out.size))).2.1 (pw_cell_below hW (HOW.out 0 _ rfl).1) (pw_cell_below hW (HOS.out 0 _ rfl).1)) (HKV.out.below B4.out).row)
    rw [HY.out, HQ.out] at HF2
    rw [← HGS.out, ← HGW.out] at HF2
    have HO3 := Aside0.mk (HO2.out.below B4.out (by omega))
    have HB3 := Aside0.mk (HB2.out.trans (B4.out.mono HB2.out.size))
    go_wp2_with fail
    refine HF2.out.mono ?_
    rintro e w2 ⟨rfl, hb2⟩
    have hU2 := B4.out.size
    obtain ⟨W3, hst, ho3, hb3⟩ := store36 (x := y) (HO3.out.below hb2 (by omega))
    have HST := Aside0.mk hst
    have HLD := Aside0.mk (load36 ho3)
    have B5 := HB3.out.trans (hb2.mono HB3.out.size)
    have HBE := Aside0.mk (B5.trans (hb3.below B5.size (fun j hj e => by have : j = w.heap.size + 1 := e; omega)))
    clear hb2 hst ho3 hb3 B5
    go_wp2_with (refine pl_store rfl 36 _ _ rfl _ _ HST.out rfl rfl ?_)
    refine bodyPost_ret (results_row_tmp rfl _ _ (w.heap.size + 1) _ rfl HLD.out) rfl ?_
    exact ⟨rfl, HBE.out⟩
end Go.Proofs.Ytndjhnipahkclaa.Ke
