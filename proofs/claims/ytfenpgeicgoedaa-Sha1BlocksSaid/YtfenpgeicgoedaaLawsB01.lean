/- The law Sha1Blocks. -/
import Derived.Test.YtfenpgeicgoedaaLawsA01
import Derived.Test.YtfenpgeicgoedaaRound
import Derived.Test.YtfenpgeicgoedaaOpenA
set_option linter.unusedSimpArgs false
set_option linter.unusedVariables false
namespace Go.Proofs.Ytfenpgeicgoedaa.Sha
open Go.RowKit Go.Proofs.YtfenpgeicgoedaaW.PrintWords Go.Proofs.YtfenpgeicgoedaaW.PrintLast Go.Proofs.YtfenpgeicgoedaaW.PrintMore Go.Proofs.Ytfenpgeicgoedaa.PSha1Plays Go.Proofs.Ytfenpgeicgoedaa.Lex Go.Proofs.Ytfenpgeicgoedaa.Lib
theorem eql5 {s : St} (W : World) : (binOp .eql 31 s.v s.v).run Try.prog W = .ok (.bool true) W := by
  have h : (binOp .eql 31 s.v s.v).run Try.prog W = .ok (.bool (s.l == s.l)) W := run_eql_arr W 31 30 5 .u32 Try.underlying31 Try.underlying30 (fun _ => by kernel_rfl) s.l s.l rfl rfl
  rw [beq_self_eq_true] at h
  exact h
set_option maxRecDepth 100000 in
set_option maxHeartbeats 2000000 in
theorem sha1Blocks (s : St) (hs : s.ok) (bs : List Int) (hb : Byt bs) (hl : bs.length = 64) (w : World) :
    Calls Try.prog 5 #[s.v, .agg (bs.map (Value.int .u8)).toArray] w fun e w' => e = .returned (.bool true) ∧ Below w.heap.size w w' := by
  obtain ⟨bx, hbx⟩ : ∃ bx, (bs.map (Value.int .u8)).toArray = bx := ⟨_, rfl⟩
  have hbz : bx.size = 64 := by rw [← hbx]; simpa using hl
  have HP := Aside0.mk (fun W => block_ s hs bs hb hl W)
  have HR := Aside0.mk (fun A c W (h : Kd.C KB W A 64 bs) => rblock_ s hs bs hb hl A c W h)
  obtain ⟨u, hu⟩ : ∃ u, block s bs = u := ⟨_, rfl⟩
  rw [hu, hbx] at HP
  rw [hu] at HR
  rw [hbx]
  have HBX := Aside0.mk hbx
  have HL := Aside0.mk hl
  have heq5 : ∀ (t : St) (W : World), (binOp .eql 31 t.v t.v).run Try.prog W = .ok (.bool true) W := fun t W => eql5 W
  clear hbx hu hb hl
  go_enter Try.func5, Try.ntmps5
  go_wp2_with fail
  obtain ⟨W1, hW1⟩ : ∃ W1, (w.alloc (.cells #[.int .u32 s.a, .int .u32 s.b, .int .u32 s.c, .int .u32 s.d, .int .u32 s.e] 31)).alloc (.cells bx 32) = W1 := ⟨_, rfl⟩
  have hA : Arr .u32 w.heap.size 31 W1 s.l := by rw [← hW1]; exact Arr.later (Arr.new w 31 s.l _ rfl) (below_alloc (Below.refl _ _) _)
  have hG : W1.heap[w.heap.size + 1]? = some (.cells bx 32 (0, 0)) := by
    rw [← hW1]
    have h := heap_alloc_new (w.alloc (.cells #[.int .u32 s.a, .int .u32 s.b, .int .u32 s.c, .int .u32 s.d, .int .u32 s.e] 31)) (.cells bx 32)
    rwa [World.size_alloc] at h
  have hB : Below w.heap.size w W1 := by rw [← hW1]; exact below_alloc (below_alloc (Below.refl _ _) _) _
  rw [hW1]
  have hld : ∀ V : World, V.heap[w.heap.size + 1]? = some (.cells bx 32 (0, 0)) → (loadVar 32 ⟨w.heap.size + 1, 0, none⟩).run Try.prog V = .ok (.agg bx) V := fun V hV =>
    run_loadVar_row _ _ 32 _ bx (0, 0) (.array 64 5) hV (by kernel_rfl) rfl (by rw [hbz]; kernel_rfl)
  have hcells : ∀ V : World, Below W1.heap.size W1 V → V.cell? ⟨w.heap.size, 0, none⟩ = some (.int .u32 s.a) ∧ V.cell? ⟨w.heap.size, 1, none⟩ = some (.int .u32 s.b) ∧ V.cell? ⟨w.heap.size, 2, none⟩ = some (.int .u32 s.c) ∧ V.cell? ⟨w.heap.size, 3, none⟩ = some (.int .u32 s.d) ∧ V.cell? ⟨w.heap.size, 4, none⟩ = some (.int .u32 s.e) ∧ (loadVar 32 ⟨w.heap.size + 1, 0, none⟩).run Try.prog V = .ok (.agg bx) V := fun V hV => by
    have a := hA.later hV
    exact ⟨(a.cell 0 (by simp [St.l])).1, (a.cell 1 (by simp [St.l])).1, (a.cell 2 (by simp [St.l])).1, (a.cell 3 (by simp [St.l])).1, (a.cell 4 (by simp [St.l])).1, hld V ((hV.block _ (Array.getElem?_eq_some_iff.1 hG).1).trans hG)⟩
  have hC : ∀ V : World, Below W1.heap.size W1 V → Kd.C KB V (some ⟨w.heap.size + 1, 0, none⟩) 64 bs := fun V hV => by
    have h := (hV.block _ (Array.getElem?_eq_some_iff.1 hG).1).trans hG
    rw [← HBX.out] at h
    have h2 := C_block h bs [] (by simp [nums]) (by rw [HL.out]; decide)
    rw [HL.out] at h2
    exact h2
  have HCE := Aside0.mk hcells
  have HC := Aside0.mk hC
  have HB := Aside0.mk hB
  clear hW1 hA hG hB hld hcells hC hbz hs
  refine region [(4, .p), (0, .t), (1, .t), (3, .t), (2, .o), (5, .o), (6, .p), (7, .p), (8, .o), (9, .o), (10, .p), (11, .p), (12, .p), (13, .q), (14, .p), (15, .p)] (fun V => V.cell? ⟨w.heap.size, 0, none⟩ = some (.int .u32 s.a) ∧ V.cell? ⟨w.heap.size, 1, none⟩ = some (.int .u32 s.b) ∧ V.cell? ⟨w.heap.size, 2, none⟩ = some (.int .u32 s.c) ∧ V.cell? ⟨w.heap.size, 3, none⟩ = some (.int .u32 s.d) ∧ V.cell? ⟨w.heap.size, 4, none⟩ = some (.int .u32 s.e) ∧ (loadVar 32 ⟨w.heap.size + 1, 0, none⟩).run Try.prog V = .ok (.agg bx) V) (by kernel_rfl) (by kernel_rfl) (fun _ _ _ _ _ h => h) (HCE.out _ (below_drew (Below.refl _ _))) (fun hHeld => ?_)
  (refine lex_p rfl rfl rfl (by intro w'; go_simp; with_reducible rfl) (by simp only [Act.put, List.setIfInBounds_toArray, List.set_cons_zero, List.set_cons_succ, i64_w, i32_w]; rfl) ?_)
  (refine lex_t rfl rfl rfl (by rintro w' ⟨s0, s1, s2, s3, s4, s5⟩; go_simp; with_reducible rfl) (by simp only [Act.put, List.setIfInBounds_toArray, List.set_cons_zero, List.set_cons_succ, i64_w, i32_w]; rfl) ?_)
  (refine lex_t rfl rfl rfl (by rintro w' ⟨s0, s1, s2, s3, s4, s5⟩; exact run_load_arr rfl rfl (by assumption)) (by simp only [Act.put, List.setIfInBounds_toArray, List.set_cons_zero, List.set_cons_succ, i64_w, i32_w]; rfl) ?_)
  (refine lex_t rfl rfl rfl (by rintro w' ⟨s0, s1, s2, s3, s4, s5⟩; go_simp; with_reducible rfl) (by simp only [Act.put, List.setIfInBounds_toArray, List.set_cons_zero, List.set_cons_succ, i64_w, i32_w]; rfl) ?_)
  refine lex_o rfl ?_
  go_wp2_with fail
  refine (HP.out _).mono ?_
  rintro e w2 ⟨rfl, hb2⟩
  have B2 := Aside0.mk ((below_drew (Below.refl W1.heap.size W1)).trans hb2)
  clear hb2
  go_wp2_with fail
  refine lex_end (by first | (simp only [Act.put, List.setIfInBounds_toArray, List.set_cons_zero, List.set_cons_succ, i64_w, i32_w]; rfl) | rfl) (HCE.out _ B2.out) (fun hHeld => ?_)
  refine lex_o rfl ?_
  go_wp2_with fail
  refine (HR.out _ 64 _ (HC.out _ B2.out)).mono ?_
  rintro e w3 ⟨rfl, hb3⟩
  have B3 := Aside0.mk (B2.out.trans (hb3.mono B2.out.size))
  clear hb3
  go_wp2_with fail
  refine lex_end (by first | (simp only [Act.put, List.setIfInBounds_toArray, List.set_cons_zero, List.set_cons_succ, i64_w, i32_w]; rfl) | rfl) (HCE.out _ B3.out) (fun hHeld => ?_)
  iterate 2 (refine lex_p rfl rfl rfl (by intro w'; go_simp; with_reducible rfl) (by simp only [Act.put, List.setIfInBounds_toArray, List.set_cons_zero, List.set_cons_succ, i64_w, i32_w]; rfl) ?_)
  refine lex_o rfl ?_
  go_wp2_with fail
  refine (pFirst _).mono ?_
  rintro e w4 ⟨rfl, hb4⟩
  have B4 := Aside0.mk (B3.out.trans (hb4.mono B3.out.size))
  clear hb4
  go_wp2_with fail
  refine lex_end (by first | (simp only [Act.put, List.setIfInBounds_toArray, List.set_cons_zero, List.set_cons_succ, i64_w, i32_w]; rfl) | rfl) (HCE.out _ B4.out) (fun hHeld => ?_)
  refine lex_o rfl ?_
  go_wp2_with fail
  refine (rFirst _).mono ?_
  rintro e w5 ⟨rfl, hb5⟩
  have B5 := Aside0.mk (B4.out.trans (hb5.mono B4.out.size))
  clear hb5
  go_wp2_with fail
  refine lex_end (by first | (simp only [Act.put, List.setIfInBounds_toArray, List.set_cons_zero, List.set_cons_succ, i64_w, i32_w]; rfl) | rfl) (HCE.out _ B5.out) (fun hHeld => ?_)
  iterate 3 (refine lex_p rfl rfl rfl (by intro w'; go_simp; with_reducible rfl) (by simp only [Act.put, List.setIfInBounds_toArray, List.set_cons_zero, List.set_cons_succ, i64_w, i32_w]; rfl) ?_)
  refine lex_q rfl ?_
  go_wp2_with fail
  refine (works _).mono ?_
  rintro e w6 ⟨rfl, hb6⟩
  have B6 := Aside0.mk (B5.out.trans (hb6.mono B5.out.size))
  clear hb6
  go_wp2_with fail
  refine lex_endq (by first | (simp only [Act.put, List.setIfInBounds_toArray, List.set_cons_zero, List.set_cons_succ, i64_w, i32_w]; rfl) | rfl) ?_
  iterate 2 (refine lex_p rfl rfl rfl (by intro w'; go_simp; with_reducible rfl) (by simp only [Act.put, List.setIfInBounds_toArray, List.set_cons_zero, List.set_cons_succ, i64_w, i32_w]; rfl) ?_)
  refine lex_nil ?_
  go_wp2_with fail
  go_ret
  exact ⟨rfl, HB.out.trans (B6.out.mono HB.out.size)⟩
theorem opens_state : Row.Opens (Row.kdArr .u32 5) 31 (fun xs => ∀ x ∈ xs, (Lit.int .u32 x).wf = true) := Row.opens_arr Try.underlying31 Try.underlying30 (by kernel_rfl) (by kernel_rfl) (by decide)
theorem opens_block : Row.Opens (Row.kdArr .u8 64) 32 (fun xs => ∀ x ∈ xs, (Lit.int .u8 x).wf = true) := Row.opens_arr Try.underlying32 Try.underlying5 (by kernel_rfl) (by kernel_rfl) (by decide)
theorem wf_u32 {n : Int} (h : (Lit.int .u32 n).wf = true) : W32 n := by
  have h2 := h
  simp [Lit.wf, IntKind.min, IntKind.max, IntKind.bits, IntKind.signed] at h2
  unfold W32
  omega
theorem sha1BlocksR (cs : Array Value) (ss : List Int) (ds : Array Value) (bs : List Int) (w : World) (h1 : (Row.kdArr .u32 5).K w ss cs.toList) (o1 : ∀ x ∈ ss, (Lit.int .u32 x).wf = true) (h2 : (Row.kdArr .u8 64).K w bs ds.toList) (o2 : ∀ x ∈ bs, (Lit.int .u8 x).wf = true) :
    Calls Try.prog 5 #[.agg cs, .agg ds] w fun e w' => e = .returned (.bool true) ∧ Below w.heap.size w w' := by
  obtain ⟨l1, e1⟩ := h1
  obtain ⟨l2, e2⟩ := h2
  obtain rfl : cs = (ss.map (Value.int .u32)).toArray := by rw [← e1]
  obtain rfl : ds = (bs.map (Value.int .u8)).toArray := by rw [← e2]
  match ss, l1, o1 with
  | [a, b, c, d, e], _, o1 => exact sha1Blocks ⟨a, b, c, d, e⟩ ⟨wf_u32 (o1 a (by simp)), wf_u32 (o1 b (by simp)), wf_u32 (o1 c (by simp)), wf_u32 (o1 d (by simp)), wf_u32 (o1 e (by simp))⟩ bs (byt o2) l2 w
end Go.Proofs.Ytfenpgeicgoedaa.Sha
