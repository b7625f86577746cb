/- Contract of the reference's Block. -/
import Derived.Test.YtfeohojpjncgaaaBlock01
import Derived.Test.YtfeohojpjncgaaaLibW
set_option linter.unusedSimpArgs false
set_option linter.unusedVariables false
namespace Go.Proofs.Ytfeohojpjncgaaa.Sha
open Go.RowKit Go.Proofs.YtfeohojpjncgaaaW.PrintWords Go.Proofs.YtfeohojpjncgaaaW.PrintLast Go.Proofs.YtfeohojpjncgaaaW.PrintMore Go.Proofs.Ytfeohojpjncgaaa.PSha1Plays Go.Proofs.Ytfeohojpjncgaaa.Lex Go.Proofs.Ytfeohojpjncgaaa.Lib
theorem rword (bs : List Int) (hb : Byt bs) (i : Nat) : IntKind.u32.wrap (IntKind.u32.wrap (IntKind.u32.wrap (IntKind.u32.wrap (bs.getD i 0 * 16777216) + IntKind.u32.wrap (bs.getD (i + 1) 0 * 65536)) + IntKind.u32.wrap (bs.getD (i + 2) 0 * 256)) + bs.getD (i + 3) 0) = word bs i := by
  have h0 := hb.at i
  have h1 := hb.at (i + 1)
  have h2 := hb.at (i + 2)
  have h3 := hb.at (i + 3)
  simp only [IntKind.wrap_u32]
  unfold word
  omega
set_option maxRecDepth 4000 in
set_option maxHeartbeats 6000000 in
theorem rblock_ (s : St) (hs : s.ok) (bs : List Int) (hb : Byt bs) (hl : bs.length = 64) (A : Option Addr) (c : Nat) (w : World) (hC : Kd.C KB w A 64 bs) : Calls Try.prog 35 #[s.v, .slice A 64 c] w fun e w' => e = .returned (block s bs).v ∧ Below w.heap.size w w' := by
  have HS := Aside0.mk hs
  have HB := Aside0.mk hb
  have HL := Aside0.mk hl
  have HC := Aside0.mk hC
  obtain ⟨ab, ao, hA, -⟩ := C_byte hC 0 (by decide)
  subst hA
  have HC := Aside0.mk hC
  have HAB := Aside0.mk (show ab < w.heap.size from World.block_lt_of_cell? w ⟨ab, ao + 0, none⟩ (C_byte hC 0 (by decide) |>.elim fun b h => h.elim fun o h => by obtain ⟨e, h2⟩ := h; injection e with e; injection e with e1 e2; subst e1 e2; exact h2))
  clear hs hb hl hC
  go_enter Try.func35, Try.ntmps35
  go_wp2_with fail
  have hszx : (w.alloc (.cells #[.int .u32 s.a, .int .u32 s.b, .int .u32 s.c, .int .u32 s.d, .int .u32 s.e] 73)).heap.size = w.heap.size + 1 := by rw [World.size_alloc]
  have A0 : Arr .u32 w.heap.size 73 (w.alloc (.cells #[.int .u32 s.a, .int .u32 s.b, .int .u32 s.c, .int .u32 s.d, .int .u32 s.e] 73)) s.l := Arr.new _ _ _ _ rfl
  have B0 := below_alloc (Below.refl w.heap.size w) (.cells #[.int .u32 s.a, .int .u32 s.b, .int .u32 s.c, .int .u32 s.d, .int .u32 s.e] 73)
  obtain ⟨V0, hV0⟩ : ∃ W, w.alloc (.cells #[.int .u32 s.a, .int .u32 s.b, .int .u32 s.c, .int .u32 s.d, .int .u32 s.e] 73) = W := ⟨_, rfl⟩
  rw [hV0] at hszx A0 B0 ⊢
  have A2 : Arr .u32 (w.heap.size + 1) 73 (V0.alloc (.cells #[.int .u32 0, .int .u32 0, .int .u32 0, .int .u32 0, .int .u32 0] 73)) [0, 0, 0, 0, 0] := Arr.newAt _ _ _ hszx _ _ rfl
  have A0 := A0.later (below_alloc (Below.refl V0.heap.size V0) (.cells #[.int .u32 0, .int .u32 0, .int .u32 0, .int .u32 0, .int .u32 0] 73))
  have B0 := below_alloc B0 (.cells #[.int .u32 0, .int .u32 0, .int .u32 0, .int .u32 0, .int .u32 0] 73)
  have hszz : (V0.alloc (.cells #[.int .u32 0, .int .u32 0, .int .u32 0, .int .u32 0, .int .u32 0] 73)).heap.size = w.heap.size + 1 + 1 := by rw [World.size_alloc, hszx]
  obtain ⟨V3, hV3⟩ : ∃ W, V0.alloc (.cells #[.int .u32 0, .int .u32 0, .int .u32 0, .int .u32 0, .int .u32 0] 73) = W := ⟨_, rfl⟩
  rw [hV3] at hszz A0 A2 B0 ⊢
  have HC := Aside0.mk (Kd.C_below HC.out B0)
  obtain ⟨q2, hq2⟩ : ∃ q, w.heap.size + 1 = q := ⟨_, rfl⟩
  rw [hq2] at A2 ⊢
  obtain ⟨q0, hq0⟩ : ∃ q, w.heap.size = q := ⟨_, rfl⟩
  rw [hq0] at A0 B0 ⊢
  have HQ0 := Aside0.mk hq0
  have HQ := Aside0.mk (show ab < q0 ∧ q2 = q0 + 1 ∧ V3.heap.size = q0 + 2 by have := HAB.out; omega)
  have A0 := Aside0.mk A0
  have A2 := Aside0.mk A2
  have B0 := Aside0.mk B0
  clear hszx hV0 hV3 hszz hq2 hq0
  go_loopg [5, 6] 16 (fun gk s5 s6 w' => ∃ k : Nat, k ≤ 16 ∧ 16 - k ≤ gk ∧ s6 = .int .i64 k ∧ OW V3.heap.size w' s5 (words bs k) ∧ Below V3.heap.size V3 w')
  case atStart => exact ⟨0, by omega, by omega, rfl, OW.nil _ _, Below.refl _ _⟩
  case round =>
    obtain ⟨k, hk, hgk, rfl, hO, hB⟩ := hrel
    have HO := Aside0.mk hO
    have B1 := Aside0.mk hB
    clear hO hB
    by_cases hlt : k < 16
    · have hlI : (k : Int) < 16 := by omega
      have HCW := Aside0.mk (Kd.C_below HC.out B1.out)
      obtain ⟨_, _, hAe, g0⟩ := C_byte HCW.out (4 * k) (by omega)
      injection hAe with hAe
      injection hAe with e1 e2
      subst e1 e2
      have cellAt : ∀ j, j < 64 → wr.cell? ⟨ab, ao + j, none⟩ = some (.int .u8 (bs.getD j 0)) := fun j hj => by
        obtain ⟨_, _, hAe, g⟩ := C_byte HCW.out j hj
        injection hAe with hAe
        injection hAe with e1 e2
        subst e1 e2
        exact g
      have g1 := cellAt (4 * k + 1) (by omega)
      have g2 := cellAt (4 * k + 2) (by omega)
      have g3 := cellAt (4 * k + 3) (by omega)
      have h0 := HB.out.at (4 * k)
      have h1 := HB.out.at (4 * k + 1)
      have h2 := HB.out.at (4 * k + 2)
      have h3 := HB.out.at (4 * k + 3)
      have hw := words_succ bs k
      have hwd : word bs (4 * k) = bs.getD (4 * k) 0 * 16777216 + bs.getD (4 * k + 1) 0 * 65536 + bs.getD (4 * k + 2) 0 * 256 + bs.getD (4 * k + 3) 0 := rfl
      have e4 : wrap64 (4 * (k : Int)) = ((4 * k : Nat) : Int) := by unfold wrap64; omega
      have e5 : wrap64 (((4 * k : Nat) : Int) + 1) = ((4 * k + 1 : Nat) : Int) := by unfold wrap64; omega
      have e6 : wrap64 (((4 * k : Nat) : Int) + 2) = ((4 * k + 2 : Nat) : Int) := by unfold wrap64; omega
      have e7 : wrap64 (((4 * k : Nat) : Int) + 3) = ((4 * k + 3 : Nat) : Int) := by unfold wrap64; omega
      obtain ⟨y0, hy0⟩ : ∃ y, bs.getD (4 * k) 0 = y := ⟨_, rfl⟩
      obtain ⟨y1, hy1⟩ : ∃ y, bs.getD (4 * k + 1) 0 = y := ⟨_, rfl⟩
      obtain ⟨y2, hy2⟩ : ∃ y, bs.getD (4 * k + 2) 0 = y := ⟨_, rfl⟩
      obtain ⟨y3, hy3⟩ : ∃ y, bs.getD (4 * k + 3) 0 = y := ⟨_, rfl⟩
      rw [hy0] at g0 h0 hwd
      rw [hy1] at g1 h1 hwd
      rw [hy2] at g2 h2 hwd
      rw [hy3] at g3 h3 hwd
      have l0 : ((4 * k : Nat) : Int) < 64 := by omega
      have l1 : ((4 * k + 1 : Nat) : Int) < 64 := by omega
      have l2 : ((4 * k + 2 : Nat) : Int) < 64 := by omega
      have l3 : ((4 * k + 3 : Nat) : Int) < 64 := by omega
      obtain ⟨a0, ha0⟩ : ∃ a, 4 * k = a := ⟨_, rfl⟩
      rw [ha0] at e4 e5 e6 e7 l0 l1 l2 l3 g0 g1 g2 g3 hwd hw
      obtain ⟨a1, ha1⟩ : ∃ a, a0 + 1 = a := ⟨_, rfl⟩
      obtain ⟨a2, ha2⟩ : ∃ a, a0 + 2 = a := ⟨_, rfl⟩
      obtain ⟨a3, ha3⟩ : ∃ a, a0 + 3 = a := ⟨_, rfl⟩
      rw [ha1] at e5 l1 g1
      rw [ha2] at e6 l2 g2
      rw [ha3] at e7 l3 g3
      have HY := Aside0.mk (And.intro (And.intro h0 h1) (And.intro h2 h3))
      have HWD := Aside0.mk hwd
      have HW := Aside0.mk hw
      have HK := Aside0.mk hlt
      obtain ⟨A5, c5, rfl, -, -⟩ := HO.out.reads
      have i0 : IntKind.u32.wrap y0 = y0 := by rw [IntKind.wrap_u32]; omega
      have i1 : IntKind.u32.wrap y1 = y1 := by rw [IntKind.wrap_u32]; omega
      have i2 : IntKind.u32.wrap y2 = y2 := by rw [IntKind.wrap_u32]; omega
      have i3 : IntKind.u32.wrap y3 = y3 := by rw [IntKind.wrap_u32]; omega
      clear cellAt h0 h1 h2 h3 hw hwd ha0 ha1 ha2 ha3 hy0 hy1 hy2 hy3 hlt HCW
      go_wp2_with fail
      refine region [(0, .p), (1, .p), (2, .p), (3, .p), (4, .p), (8, .p), (9, .p), (10, .p), (11, .p), (12, .p), (17, .p), (18, .p), (19, .p), (20, .p), (21, .p), (26, .p), (27, .p), (28, .p), (29, .p), (30, .p), (5, .t), (6, .p), (7, .p), (13, .t), (14, .p), (15, .p), (16, .p), (22, .t), (23, .p), (24, .p), (25, .p), (31, .t), (32, .p), (33, .p), (34, .o), (35, .o), (36, .p)] (fun W => W.cell? ⟨ab, ao + a0, none⟩ = some (.int .u8 y0) ∧ W.cell? ⟨ab, ao + a1, none⟩ = some (.int .u8 y1) ∧ W.cell? ⟨ab, ao + a2, none⟩ = some (.int .u8 y2) ∧ W.cell? ⟨ab, ao + a3, none⟩ = some (.int .u8 y3)) (by kernel_rfl) (by kernel_rfl) (fun _ _ _ _ _ h => h) (⟨g0, g1, g2, g3⟩) (fun hHeld => ?_)
      iterate 20 (refine lex_p rfl rfl rfl (by intro w'; go_simp; with_reducible rfl) (by simp only [Act.put, List.setIfInBounds_toArray, List.set_cons_zero, List.set_cons_succ, i64_w, i32_w]; rfl) ?_)
      (refine lex_t rfl rfl rfl (by rintro w' ⟨s1, s2, s3, s4⟩; go_simp; with_reducible rfl) (by simp only [Act.put, List.setIfInBounds_toArray, List.set_cons_zero, List.set_cons_succ, i64_w, i32_w]; rfl) ?_)
      iterate 2 (refine lex_p rfl rfl rfl (by intro w'; go_simp; with_reducible rfl) (by simp only [Act.put, List.setIfInBounds_toArray, List.set_cons_zero, List.set_cons_succ, i64_w, i32_w]; rfl) ?_)
      (refine lex_t rfl rfl rfl (by rintro w' ⟨s1, s2, s3, s4⟩; go_simp; with_reducible rfl) (by simp only [Act.put, List.setIfInBounds_toArray, List.set_cons_zero, List.set_cons_succ, i64_w, i32_w]; rfl) ?_)
      iterate 3 (refine lex_p rfl rfl rfl (by intro w'; go_simp; with_reducible rfl) (by simp only [Act.put, List.setIfInBounds_toArray, List.set_cons_zero, List.set_cons_succ, i64_w, i32_w]; rfl) ?_)
      (refine lex_t rfl rfl rfl (by rintro w' ⟨s1, s2, s3, s4⟩; go_simp; with_reducible rfl) (by simp only [Act.put, List.setIfInBounds_toArray, List.set_cons_zero, List.set_cons_succ, i64_w, i32_w]; rfl) ?_)
      iterate 3 (refine lex_p rfl rfl rfl (by intro w'; go_simp; with_reducible rfl) (by simp only [Act.put, List.setIfInBounds_toArray, List.set_cons_zero, List.set_cons_succ, i64_w, i32_w]; rfl) ?_)
      (refine lex_t rfl rfl rfl (by rintro w' ⟨s1, s2, s3, s4⟩; go_simp; with_reducible rfl) (by simp only [Act.put, List.setIfInBounds_toArray, List.set_cons_zero, List.set_cons_succ, i64_w, i32_w]; rfl) ?_)
      iterate 2 (refine lex_p rfl rfl rfl (by intro w'; go_simp; with_reducible rfl) (by simp only [Act.put, List.setIfInBounds_toArray, List.set_cons_zero, List.set_cons_succ, i64_w, i32_w]; rfl) ?_)
      refine lex_o rfl ?_
      go_wp2_with fail
      refine lex_end (by first | (simp only [Act.put, List.setIfInBounds_toArray, List.set_cons_zero, List.set_cons_succ, i64_w, i32_w]; rfl) | rfl) (⟨pw_cell_below (below_alloc (Below.refl _ _) _) hHeld.1, pw_cell_below (below_alloc (Below.refl _ _) _) hHeld.2.1, pw_cell_below (below_alloc (Below.refl _ _) _) hHeld.2.2.1, pw_cell_below (below_alloc (Below.refl _ _) _) hHeld.2.2.2⟩) (fun hHeld => ?_)
      refine lex_o rfl ?_
      refine ap_rowW V3.heap.size _ _ rfl rfl (HO.out.below (below_alloc (below_drew (Below.refl wr.heap.size wr)) _)) (OW.lit wr.drew [((((y0 * 16777216 % 4294967296 + y1 * 65536 % 4294967296) % 4294967296 + y2 * 256 % 4294967296) % 4294967296 + y3) % 4294967296)] _ rfl 1 rfl (Nat.le_refl _) (by simp)).readsAt rfl rfl (Nat.le_trans B1.out.size (by simp)) (by rw [words_len]; omega) ?_
      intro v1 w1 ho hb
      have HO1 : Aside0 (OW V3.heap.size w1 v1 (words bs (k + 1))) := ⟨by rw [HW.out, show word bs a0 = ((((y0 * 16777216 % 4294967296 + y1 * 65536 % 4294967296) % 4294967296 + y2 * 256 % 4294967296) % 4294967296 + y3) % 4294967296) by rw [HWD.out]; have := HY.out; omega]; exact ho⟩
      have B2 := Aside0.mk ((below_alloc (below_drew (Below.refl wr.heap.size wr)) (.cells #[.int .u32 ((((y0 * 16777216 % 4294967296 + y1 * 65536 % 4294967296) % 4294967296 + y2 * 256 % 4294967296) % 4294967296 + y3) % 4294967296)] 72)).mono B1.out.size |>.trans hb)
      clear ho
      refine lex_end (by first | (simp only [Act.put, List.setIfInBounds_toArray, List.set_cons_zero, List.set_cons_succ, i64_w, i32_w]; rfl) | rfl) (⟨(pw_cell_below (below_alloc (below_drew (Below.refl _ _)) _) g0).symm ▸ hb.cell (by have := HQ.out; show ab < V3.heap.size; omega), (pw_cell_below (below_alloc (below_drew (Below.refl _ _)) _) g1).symm ▸ hb.cell (by have := HQ.out; show ab < V3.heap.size; omega), (pw_cell_below (below_alloc (below_drew (Below.refl _ _)) _) g2).symm ▸ hb.cell (by have := HQ.out; show ab < V3.heap.size; omega), (pw_cell_below (below_alloc (below_drew (Below.refl _ _)) _) g3).symm ▸ hb.cell (by have := HQ.out; show ab < V3.heap.size; omega)⟩) (fun hHeld => ?_)
      (refine lex_p rfl rfl rfl (by intro w'; go_simp; with_reducible rfl) (by simp only [Act.put, List.setIfInBounds_toArray, List.set_cons_zero, List.set_cons_succ, i64_w, i32_w]; rfl) ?_)
      refine lex_nil ?_
      go_wp2_with fail
      go_roundg (gk - 1)
      case measure => have := HK.out; omega
      case rel =>
        have hk := HK.out
        refine ⟨k + 1, by omega, by omega, ?_, HO1.out, B1.out.trans B2.out⟩
        congr 1
    · obtain rfl : k = 16 := by omega
      go_wp2_with fail
      have HO : Aside0 (OW V3.heap.size wr u5 (sched (words bs 16) 0)) := HO
      go_loopg [5, 7] 64 (fun gk s5 s7 w' => ∃ n : Nat, n ≤ 64 ∧ 64 - n ≤ gk ∧ s7 = .int .i64 ((16 + n : Nat) : Int) ∧ OW V3.heap.size w' s5 (sched (words bs 16) n) ∧ Below V3.heap.size V3 w')
      case atStart => exact ⟨0, by omega, by omega, rfl, HO.out, B1.out⟩
      case round =>
        clear HO B1
        obtain ⟨n, hk, hgk, rfl, hO, hB⟩ := hrel
        have HO := Aside0.mk hO
        have B1 := Aside0.mk hB
        clear hO hB
        have hsl : (sched (words bs 16) n).length = 16 + n := by rw [sched_len, words_len]
        by_cases hlt : n < 64
        · have e3 : wrap64 (((16 + n : Nat) : Int) - 3) = ((16 + n - 3 : Nat) : Int) := wrapm (16 + n) 3 (by omega) (by omega)
          have e8 : wrap64 (((16 + n : Nat) : Int) - 8) = ((16 + n - 8 : Nat) : Int) := wrapm (16 + n) 8 (by omega) (by omega)
          have e14 : wrap64 (((16 + n : Nat) : Int) - 14) = ((16 + n - 14 : Nat) : Int) := wrapm (16 + n) 14 (by omega) (by omega)
          have e16 : wrap64 (((16 + n : Nat) : Int) - 16) = ((16 + n - 16 : Nat) : Int) := wrapm (16 + n) 16 (by omega) (by omega)
          obtain ⟨A5, c5, rfl, hc5, hC5⟩ := HO.out.reads
          obtain ⟨gb, go, hA5, c3⟩ := C_wd hC5 (16 + n - 3) (by omega)
          subst hA5
          have cellAt : ∀ j, j < 16 + n → wr.cell? ⟨gb, go + j, none⟩ = some (.int .u32 ((sched (words bs 16) n).getD j 0)) := fun j hj => by
            obtain ⟨_, _, hAe, g⟩ := C_wd hC5 j (by omega)
            injection hAe with hAe
            injection hAe with e1 e2
            subst e1 e2
            exact g
          have c8 := cellAt (16 + n - 8) (by omega)
          have c14 := cellAt (16 + n - 14) (by omega)
          have c16 := cellAt (16 + n - 16) (by omega)
          have hN : nextW (sched (words bs 16) n) = rot 1 (xor (xor (xor ((sched (words bs 16) n).getD (16 + n - 3) 0) ((sched (words bs 16) n).getD (16 + n - 8) 0)) ((sched (words bs 16) n).getD (16 + n - 14) 0)) ((sched (words bs 16) n).getD (16 + n - 16) 0)) := by unfold nextW; rw [hsl]
          rw [hsl]
          rw [hsl] at HO
          obtain ⟨i, hi⟩ : ∃ i, 16 + n = i := ⟨_, rfl⟩
          obtain ⟨x3, hx3⟩ : ∃ x, (sched (words bs 16) n).getD (16 + n - 3) 0 = x := ⟨_, rfl⟩
          obtain ⟨x8, hx8⟩ : ∃ x, (sched (words bs 16) n).getD (16 + n - 8) 0 = x := ⟨_, rfl⟩
          obtain ⟨x14, hx14⟩ : ∃ x, (sched (words bs 16) n).getD (16 + n - 14) 0 = x := ⟨_, rfl⟩
          obtain ⟨x16, hx16⟩ : ∃ x, (sched (words bs 16) n).getD (16 + n - 16) 0 = x := ⟨_, rfl⟩
          rw [hx3] at c3 hN
          rw [hx8] at c8 hN
          rw [hx14] at c14 hN
          rw [hx16] at c16 hN
          rw [hi] at e3 e8 e14 e16 c3 c8 c14 c16 HO
          obtain ⟨a3, ha3⟩ : ∃ a, i - 3 = a := ⟨_, rfl⟩
          obtain ⟨a8, ha8⟩ : ∃ a, i - 8 = a := ⟨_, rfl⟩
          obtain ⟨a14, ha14⟩ : ∃ a, i - 14 = a := ⟨_, rfl⟩
          obtain ⟨a16, ha16⟩ : ∃ a, i - 16 = a := ⟨_, rfl⟩
          rw [ha3] at e3 c3
          rw [ha8] at e8 c8
          rw [ha14] at e14 c14
          rw [ha16] at e16 c16
          have hi80 : (i : Int) < 80 := by omega
          have hb3 : (a3 : Int) < (i : Int) := by omega
          have hb8 : (a8 : Int) < (i : Int) := by omega
          have hb14 : (a14 : Int) < (i : Int) := by omega
          have hb16 : (a16 : Int) < (i : Int) := by omega
          have HR := Aside0.mk (roll_f 1 (xor (xor (xor x3 x8) x14) x16) (by decide) (bits_w _ _ _))
          have HN : Aside0 (sched (words bs 16) (n + 1) = sched (words bs 16) n ++ [rot 1 (xor (xor (xor x3 x8) x14) x16)]) := ⟨by rw [← hN]; rfl⟩
          have HSL := Aside0.mk (hsl.trans hi)
          have HI := Aside0.mk (show 16 + n = i from hi)
          have H24 := Aside0.mk hlt
          rw [hi]
          clear cellAt hC5 hc5 hx3 hx8 hx14 hx16 hN ha3 ha8 ha14 ha16 hi hsl hlt
          go_wp2_with fail
          refine region [(0, .p), (1, .p), (2, .p), (3, .p), (4, .p), (6, .p), (7, .p), (8, .p), (9, .p), (12, .p), (13, .p), (14, .p), (15, .p), (18, .p), (19, .p), (20, .p), (21, .p), (5, .t), (10, .t), (11, .p), (16, .t), (17, .p), (22, .t), (23, .p), (24, .o), (25, .o), (26, .q), (27, .p)] (fun W => W.cell? ⟨gb, go + a3, none⟩ = some (.int .u32 x3) ∧ W.cell? ⟨gb, go + a8, none⟩ = some (.int .u32 x8) ∧ W.cell? ⟨gb, go + a14, none⟩ = some (.int .u32 x14) ∧ W.cell? ⟨gb, go + a16, none⟩ = some (.int .u32 x16)) (by kernel_rfl) (by kernel_rfl) (fun _ _ _ _ _ h => h) (⟨c3, c8, c14, c16⟩) (fun hHeld => ?_)
          iterate 17 (refine lex_p rfl rfl rfl (by intro w'; go_simp; with_reducible rfl) (by simp only [Act.put, List.setIfInBounds_toArray, List.set_cons_zero, List.set_cons_succ, i64_w, i32_w]; rfl) ?_)
          iterate 2 (refine lex_t rfl rfl rfl (by rintro w' ⟨s1, s2, s3, s4⟩; go_simp; with_reducible rfl) (by simp only [Act.put, List.setIfInBounds_toArray, List.set_cons_zero, List.set_cons_succ, i64_w, i32_w]; rfl) ?_)
          (refine lex_p rfl rfl rfl (by intro w'; go_simp; with_reducible rfl) (by simp only [Act.put, List.setIfInBounds_toArray, List.set_cons_zero, List.set_cons_succ, i64_w, i32_w]; rfl) ?_)
          (refine lex_t rfl rfl rfl (by rintro w' ⟨s1, s2, s3, s4⟩; go_simp; with_reducible rfl) (by simp only [Act.put, List.setIfInBounds_toArray, List.set_cons_zero, List.set_cons_succ, i64_w, i32_w]; rfl) ?_)
          (refine lex_p rfl rfl rfl (by intro w'; go_simp; with_reducible rfl) (by simp only [Act.put, List.setIfInBounds_toArray, List.set_cons_zero, List.set_cons_succ, i64_w, i32_w]; rfl) ?_)
          (refine lex_t rfl rfl rfl (by rintro w' ⟨s1, s2, s3, s4⟩; go_simp; with_reducible rfl) (by simp only [Act.put, List.setIfInBounds_toArray, List.set_cons_zero, List.set_cons_succ, i64_w, i32_w]; rfl) ?_)
          (refine lex_p rfl rfl rfl (by intro w'; go_simp; with_reducible rfl) (by simp only [Act.put, List.setIfInBounds_toArray, List.set_cons_zero, List.set_cons_succ, i64_w, i32_w]; rfl) ?_)
          refine lex_o rfl ?_
          go_wp2_with fail
          refine (pursuivantref01_Roll.calls 40 _ 1 _ _ HR.out).mono ?_
          rintro e w2 ⟨rfl, hd⟩
          have HD := Aside0.mk hd
          clear hd
          go_wp2_with fail
          refine lex_end (by first | (simp only [Act.put, List.setIfInBounds_toArray, List.set_cons_zero, List.set_cons_succ, i64_w, i32_w]; rfl) | rfl) (⟨pw_cell_below HD.out.below c3, pw_cell_below HD.out.below c8, pw_cell_below HD.out.below c14, pw_cell_below HD.out.below c16⟩) (fun hHeld => ?_)
          refine lex_o rfl ?_
          go_wp2_with fail
          refine lex_end (by first | (simp only [Act.put, List.setIfInBounds_toArray, List.set_cons_zero, List.set_cons_succ, i64_w, i32_w]; rfl) | rfl) (⟨pw_cell_below (below_alloc (Below.refl _ _) _) hHeld.1, pw_cell_below (below_alloc (Below.refl _ _) _) hHeld.2.1, pw_cell_below (below_alloc (Below.refl _ _) _) hHeld.2.2.1, pw_cell_below (below_alloc (Below.refl _ _) _) hHeld.2.2.2⟩) (fun hHeld => ?_)
          refine lex_q rfl ?_
          refine ap_rowW V3.heap.size _ _ rfl rfl ((HO.out.below ((below_drew (Below.refl wr.heap.size wr)).trans HD.out.below)).below (below_alloc (Below.refl w2.heap.size w2) _)) (OW.lit w2 [rot 1 (xor (xor (xor x3 x8) x14) x16)] _ rfl 1 rfl (Nat.le_refl _) (by simp)).readsAt rfl rfl (Nat.le_trans (Nat.le_trans B1.out.size HD.out.below.size) (by simp)) (by rw [HSL.out]; have := HI.out; have := H24.out; omega) ?_
          intro v1 w1 ho hb
          have HO1 : Aside0 (OW V3.heap.size w1 v1 (sched (words bs 16) (n + 1))) := ⟨by rw [HN.out]; exact ho⟩
          have B2 := Aside0.mk (((((below_drew (Below.refl wr.heap.size wr)).trans HD.out.below).mono B1.out.size).alloc (Nat.le_trans B1.out.size HD.out.below.size) (.cells #[.int .u32 (rot 1 (xor (xor (xor x3 x8) x14) x16))] 72)).trans hb)
          clear ho hb
          refine lex_endq (by first | (simp only [Act.put, List.setIfInBounds_toArray, List.set_cons_zero, List.set_cons_succ, i64_w, i32_w]; rfl) | rfl) ?_
          (refine lex_p rfl rfl rfl (by intro w'; go_simp; with_reducible rfl) (by simp only [Act.put, List.setIfInBounds_toArray, List.set_cons_zero, List.set_cons_succ, i64_w, i32_w]; rfl) ?_)
          refine lex_nil ?_
          go_wp2_with fail
          go_roundg (gk - 1)
          case measure => have := HI.out; have := H24.out; omega
          case rel =>
            have hk := H24.out
            exact ⟨n + 1, by omega, by omega, by rw [show ((16 + (n + 1) : Nat) : Int) = (i : Int) + 1 by have := HI.out; omega], HO1.out, B1.out.trans B2.out⟩
        · obtain rfl : n = 64 := by omega
          have k0 : wr.cell? ⟨q0, 0, none⟩ = some (.int .u32 s.a) := ((A0.out.below B1.out (by have := HQ.out; omega)).cell 0 (by simp [St.l])).1
          have k1 : wr.cell? ⟨q0, 1, none⟩ = some (.int .u32 s.b) := ((A0.out.below B1.out (by have := HQ.out; omega)).cell 1 (by simp [St.l])).1
          have k2 : wr.cell? ⟨q0, 2, none⟩ = some (.int .u32 s.c) := ((A0.out.below B1.out (by have := HQ.out; omega)).cell 2 (by simp [St.l])).1
          have k3 : wr.cell? ⟨q0, 3, none⟩ = some (.int .u32 s.d) := ((A0.out.below B1.out (by have := HQ.out; omega)).cell 3 (by simp [St.l])).1
          have k4 : wr.cell? ⟨q0, 4, none⟩ = some (.int .u32 s.e) := ((A0.out.below B1.out (by have := HQ.out; omega)).cell 4 (by simp [St.l])).1
          obtain ⟨A5, c5, rfl, hc5, hC5⟩ := HO.out.reads
          have HW := Aside0.mk (show block s bs = final (rounds (sched (words bs 16) 64) s 80) s from rfl)
          obtain ⟨ws, hws⟩ : ∃ ws, sched (words bs 16) 64 = ws := ⟨_, rfl⟩
          rw [hws] at hsl hC5 HW ⊢
          rw [hsl] at hC5 ⊢
          obtain ⟨gb, go, hA5, h5⟩ := C_wd hC5 0 (by decide)
          subst hA5
          have HGB := Aside0.mk (show gb < wr.heap.size from World.block_lt_of_cell? wr _ h5)
          have HC5 := Aside0.mk hC5
          clear hsl hws hC5 hc5 HO h5
          go_wp2_with fail
          clear k0 k1 k2 k3 k4
          have hp8 : Arr .u32 wr.heap.size 73 (wr.alloc (.cells #[.int .u32 s.a, .int .u32 s.b, .int .u32 s.c, .int .u32 s.d, .int .u32 s.e] 73)) (rounds ws s 0).l := Arr.new _ _ _ _ rfl
          have hb8 := below_alloc (Below.refl wr.heap.size wr) (.cells #[.int .u32 s.a, .int .u32 s.b, .int .u32 s.c, .int .u32 s.d, .int .u32 s.e] 73)
          have B2 := Aside0.mk (B1.out.trans (hb8.mono B1.out.size))
          have HC5 := Aside0.mk (Kd.C_below HC5.out hb8)
          have hq8 : V3.heap.size ≤ wr.heap.size := B1.out.size
          have hgb : gb < wr.heap.size := HGB.out
          obtain ⟨V4, hV4⟩ : ∃ W, wr.alloc (.cells #[.int .u32 s.a, .int .u32 s.b, .int .u32 s.c, .int .u32 s.d, .int .u32 s.e] 73) = W := ⟨_, rfl⟩
          rw [hV4] at hp8 B2 HC5 ⊢
          obtain ⟨q8, h8⟩ : ∃ q, wr.heap.size = q := ⟨_, rfl⟩
          rw [h8] at hp8 hq8 hgb ⊢
          have A8 := Aside0.mk hp8
          have HV4 := Aside0.mk (And.intro hq8 hgb)
          clear hV4 h8 hb8 B1 hp8 hq8 hgb HGB
          go_loopg [9] 80 (fun gk s9 w' => ∃ i : Nat, i ≤ 80 ∧ 80 - i ≤ gk ∧ s9 = .int .i64 i ∧ Arr .u32 q8 73 w' (rounds ws s i).l ∧ But V4.heap.size (fun k => k = q8) V4 w')
          case atStart => exact ⟨0, by omega, by omega, rfl, A8.out, But.refl _ _ _⟩
          case round =>
            clear A8
            obtain ⟨i, hi, hgk, rfl, hA, hB⟩ := hrel
            have A8 := Aside0.mk hA
            have B4 := Aside0.mk hB
            clear hA hB
            by_cases hlt : i < 80
            · have hi80 : (i : Int) < 80 := by omega
              have m3 : wr.cell? ⟨gb, go + i, none⟩ = some (.int .u32 (ws.getD i 0)) := by
                obtain ⟨_, _, hAe, g⟩ := C_wd HC5.out i hlt
                injection hAe with hAe
                injection hAe with e1 e2
                subst e1 e2
                exact (World.cell?_of_block (w := V4) (a := ⟨gb, go + i, none⟩) (B4.out.block gb (World.block_lt_of_cell? V4 _ g) (by have := HV4.out; omega))).trans g
              have hsucc : rounds ws s (i + 1) = round i (ws.getD i 0) (rounds ws s i) := rfl
              have hok := rounds_ok ws s HS.out i
              unfold round at hsucc
              have hA8 := A8.out
              clear A8
              obtain ⟨t, ht⟩ : ∃ t, rounds ws s i = t := ⟨_, rfl⟩
              obtain ⟨x, hx⟩ : ∃ x, ws.getD i 0 = x := ⟨_, rfl⟩
              rw [ht] at hsucc hok hA8
              rw [hx] at hsucc m3
              obtain ⟨ta, tb, tc, td, te⟩ := t
              have A8 : Aside0 (Arr .u32 q8 73 wr [ta, tb, tc, td, te]) := ⟨hA8⟩
              have n0 : wr.cell? ⟨q8, 0, none⟩ = some (.int .u32 ta) := (A8.out.cell 0 (by simp)).1
              have n1 : wr.cell? ⟨q8, 1, none⟩ = some (.int .u32 tb) := (A8.out.cell 1 (by simp)).1
              have n2 : wr.cell? ⟨q8, 2, none⟩ = some (.int .u32 tc) := (A8.out.cell 2 (by simp)).1
              have n3 : wr.cell? ⟨q8, 3, none⟩ = some (.int .u32 td) := (A8.out.cell 3 (by simp)).1
              have n4 : wr.cell? ⟨q8, 4, none⟩ = some (.int .u32 te) := (A8.out.cell 4 (by simp)).1
              have HR5 := Aside0.mk (roll_f 5 ta (by decide) hok.a)
              have HR30 := Aside0.mk (roll_f 30 tb (by decide) hok.b)
              have hsub : IntKind.u32.wrap (4294967295 - tb) = 4294967295 - tb := by have h1 := hok.b.1; have h2 := hok.b.2; rw [IntKind.wrap_u32]; show (4294967295 - tb) % 4294967296 = _; simp only at h1 h2; omega
              have HI := Aside0.mk (show i < 80 ∧ 80 - i ≤ gk from ⟨hlt, hgk⟩)
              have HB0 := Aside0.mk (Below.refl wr.heap.size wr)
              have hil : (i : Int) < ((16 + 64 : Nat) : Int) := by omega
              clear hok ht hx hA8 hi hgk hlt
              have hmany : i < 20 ∨ (¬ i < 20 ∧ i < 40) ∨ (¬ i < 20 ∧ ¬ i < 40 ∧ i < 60) ∨ (¬ i < 20 ∧ ¬ i < 40 ∧ ¬ i < 60) := by omega
              rcases hmany with h20 | ⟨h20, h40⟩ | ⟨h20, h40, h60⟩ | ⟨h20, h40, h60⟩
              · have hf : fOf i tb tc td = or (and tb tc) (and (4294967295 - tb) td) := by unfold fOf; rw [if_pos h20]
                have hk : kOf i = 1518500249 := by unfold kOf; rw [if_pos h20]
                have z0 : (i : Int) < 20 := by omega
                rw [hf, hk] at hsucc
                clear hf hk h20
                have HSU := Aside0.mk hsucc
                clear hsucc
                go_wp2_with fail
                refine region [(0, .p), (2, .p), (5, .p), (1, .t), (3, .t), (4, .p), (6, .t), (7, .p), (8, .o), (9, .p), (10, .p)] (fun W => W.cell? ⟨q8, 0, none⟩ = some (.int .u32 ta) ∧ W.cell? ⟨q8, 1, none⟩ = some (.int .u32 tb) ∧ W.cell? ⟨q8, 2, none⟩ = some (.int .u32 tc) ∧ W.cell? ⟨q8, 3, none⟩ = some (.int .u32 td) ∧ W.cell? ⟨q8, 4, none⟩ = some (.int .u32 te) ∧ W.cell? ⟨gb, go + i, none⟩ = some (.int .u32 x)) (by kernel_rfl) (by kernel_rfl) (fun _ _ _ _ _ h => h) (⟨pw_cell_below (below_drew HB0.out) n0, pw_cell_below (below_drew HB0.out) n1, pw_cell_below (below_drew HB0.out) n2, pw_cell_below (below_drew HB0.out) n3, pw_cell_below (below_drew HB0.out) n4, pw_cell_below (below_drew HB0.out) m3⟩) (fun hHeld => ?_)
                iterate 3 (refine lex_p rfl rfl rfl (by intro w'; go_simp; with_reducible rfl) (by simp only [Act.put, List.setIfInBounds_toArray, List.set_cons_zero, List.set_cons_succ, i64_w, i32_w]; rfl) ?_)
                iterate 2 (refine lex_t rfl rfl rfl (by rintro w' ⟨s1, s2, s3, s4, s5, s6⟩; go_simp; with_reducible rfl) (by simp only [Act.put, List.setIfInBounds_toArray, List.set_cons_zero, List.set_cons_succ, i64_w, i32_w]; rfl) ?_)
                (refine lex_p rfl rfl rfl (by intro w'; go_simp; with_reducible rfl) (by simp only [Act.put, List.setIfInBounds_toArray, List.set_cons_zero, List.set_cons_succ, i64_w, i32_w]; rfl) ?_)
                (refine lex_t rfl rfl rfl (by rintro w' ⟨s1, s2, s3, s4, s5, s6⟩; go_simp; with_reducible rfl) (by simp only [Act.put, List.setIfInBounds_toArray, List.set_cons_zero, List.set_cons_succ, i64_w, i32_w]; rfl) ?_)
                (refine lex_p rfl rfl rfl (by intro w'; go_simp; with_reducible rfl) (by simp only [Act.put, List.setIfInBounds_toArray, List.set_cons_zero, List.set_cons_succ, i64_w, i32_w]; rfl) ?_)
                refine lex_o rfl ?_
                go_wp2_with fail
                refine (pursuivantref01_root.calls 40 10 _ _ root10).mono ?_
                rintro e w1 ⟨rfl, hd⟩
                have HB1 := Aside0.mk ((below_drew HB0.out).trans (hd.below.mono (below_drew HB0.out).size))
                clear hd
                go_wp2_with fail
                refine lex_end (by first | (simp only [Act.put, List.setIfInBounds_toArray, List.set_cons_zero, List.set_cons_succ, i64_w, i32_w]; rfl) | rfl) (⟨pw_cell_below HB1.out n0, pw_cell_below HB1.out n1, pw_cell_below HB1.out n2, pw_cell_below HB1.out n3, pw_cell_below HB1.out n4, pw_cell_below HB1.out m3⟩) (fun hHeld => ?_)
                iterate 2 (refine lex_p rfl rfl rfl (by intro w'; go_simp; with_reducible rfl) (by simp only [Act.put, List.setIfInBounds_toArray, List.set_cons_zero, List.set_cons_succ, i64_w, i32_w]; rfl) ?_)
                refine lex_nil ?_
                clear hHeld
                go_wp2_with fail
                refine region [(0, .p), (2, .p), (5, .p), (8, .p), (1, .t), (3, .t), (4, .p), (6, .t), (7, .p), (9, .t), (10, .p), (11, .p), (12, .o), (13, .p), (14, .p)] (fun W => W.cell? ⟨q8, 0, none⟩ = some (.int .u32 ta) ∧ W.cell? ⟨q8, 1, none⟩ = some (.int .u32 tb) ∧ W.cell? ⟨q8, 2, none⟩ = some (.int .u32 tc) ∧ W.cell? ⟨q8, 3, none⟩ = some (.int .u32 td) ∧ W.cell? ⟨q8, 4, none⟩ = some (.int .u32 te) ∧ W.cell? ⟨gb, go + i, none⟩ = some (.int .u32 x)) (by kernel_rfl) (by kernel_rfl) (fun _ _ _ _ _ h => h) (⟨pw_cell_below (below_drew HB1.out) n0, pw_cell_below (below_drew HB1.out) n1, pw_cell_below (below_drew HB1.out) n2, pw_cell_below (below_drew HB1.out) n3, pw_cell_below (below_drew HB1.out) n4, pw_cell_below (below_drew HB1.out) m3⟩) (fun hHeld => ?_)
                iterate 4 (refine lex_p rfl rfl rfl (by intro w'; go_simp; with_reducible rfl) (by simp only [Act.put, List.setIfInBounds_toArray, List.set_cons_zero, List.set_cons_succ, i64_w, i32_w]; rfl) ?_)
                iterate 2 (refine lex_t rfl rfl rfl (by rintro w' ⟨s1, s2, s3, s4, s5, s6⟩; go_simp; with_reducible rfl) (by simp only [Act.put, List.setIfInBounds_toArray, List.set_cons_zero, List.set_cons_succ, i64_w, i32_w]; rfl) ?_)
                (refine lex_p rfl rfl rfl (by intro w'; go_simp; with_reducible rfl) (by simp only [Act.put, List.setIfInBounds_toArray, List.set_cons_zero, List.set_cons_succ, i64_w, i32_w]; rfl) ?_)
                (refine lex_t rfl rfl rfl (by rintro w' ⟨s1, s2, s3, s4, s5, s6⟩; go_simp; with_reducible rfl) (by simp only [Act.put, List.setIfInBounds_toArray, List.set_cons_zero, List.set_cons_succ, i64_w, i32_w]; rfl) ?_)
                (refine lex_p rfl rfl rfl (by intro w'; go_simp; with_reducible rfl) (by simp only [Act.put, List.setIfInBounds_toArray, List.set_cons_zero, List.set_cons_succ, i64_w, i32_w]; rfl) ?_)
                (refine lex_t rfl rfl rfl (by rintro w' ⟨s1, s2, s3, s4, s5, s6⟩; go_simp; with_reducible rfl) (by simp only [Act.put, List.setIfInBounds_toArray, List.set_cons_zero, List.set_cons_succ, i64_w, i32_w]; rfl) ?_)
                iterate 2 (refine lex_p rfl rfl rfl (by intro w'; go_simp; with_reducible rfl) (by simp only [Act.put, List.setIfInBounds_toArray, List.set_cons_zero, List.set_cons_succ, i64_w, i32_w]; rfl) ?_)
                refine lex_o rfl ?_
                go_wp2_with fail
                refine (pursuivantref01_root.calls 40 2 _ _ root2).mono ?_
                rintro e w2 ⟨rfl, hd⟩
                have HB2 := Aside0.mk ((below_drew HB1.out).trans (hd.below.mono (below_drew HB1.out).size))
                clear hd
                go_wp2_with fail
                refine lex_end (by first | (simp only [Act.put, List.setIfInBounds_toArray, List.set_cons_zero, List.set_cons_succ, i64_w, i32_w]; rfl) | rfl) (⟨pw_cell_below HB2.out n0, pw_cell_below HB2.out n1, pw_cell_below HB2.out n2, pw_cell_below HB2.out n3, pw_cell_below HB2.out n4, pw_cell_below HB2.out m3⟩) (fun hHeld => ?_)
                iterate 2 (refine lex_p rfl rfl rfl (by intro w'; go_simp; with_reducible rfl) (by simp only [Act.put, List.setIfInBounds_toArray, List.set_cons_zero, List.set_cons_succ, i64_w, i32_w]; rfl) ?_)
                refine lex_nil ?_
                clear hHeld
                go_wp2_with fail
                refine region [(0, .p), (3, .p), (5, .p), (8, .p), (10, .p), (11, .p), (12, .p), (1, .t), (6, .t), (13, .t), (2, .o), (4, .p), (7, .p), (9, .p), (14, .p), (15, .p)] (fun W => W.cell? ⟨q8, 0, none⟩ = some (.int .u32 ta) ∧ W.cell? ⟨q8, 1, none⟩ = some (.int .u32 tb) ∧ W.cell? ⟨q8, 2, none⟩ = some (.int .u32 tc) ∧ W.cell? ⟨q8, 3, none⟩ = some (.int .u32 td) ∧ W.cell? ⟨q8, 4, none⟩ = some (.int .u32 te) ∧ W.cell? ⟨gb, go + i, none⟩ = some (.int .u32 x)) (by kernel_rfl) (by kernel_rfl) (fun _ _ _ _ _ h => h) (⟨pw_cell_below (below_drew HB2.out) n0, pw_cell_below (below_drew HB2.out) n1, pw_cell_below (below_drew HB2.out) n2, pw_cell_below (below_drew HB2.out) n3, pw_cell_below (below_drew HB2.out) n4, pw_cell_below (below_drew HB2.out) m3⟩) (fun hHeld => ?_)
                iterate 7 (refine lex_p rfl rfl rfl (by intro w'; go_simp; with_reducible rfl) (by simp only [Act.put, List.setIfInBounds_toArray, List.set_cons_zero, List.set_cons_succ, i64_w, i32_w]; rfl) ?_)
                iterate 3 (refine lex_t rfl rfl rfl (by rintro w' ⟨s1, s2, s3, s4, s5, s6⟩; go_simp; with_reducible rfl) (by simp only [Act.put, List.setIfInBounds_toArray, List.set_cons_zero, List.set_cons_succ, i64_w, i32_w]; rfl) ?_)
                refine lex_o rfl ?_
                go_wp2_with fail
                refine (pursuivantref01_Roll.calls 40 _ 5 _ _ HR5.out).mono ?_
                rintro e w7 ⟨rfl, hd⟩
                have HB7 := Aside0.mk ((below_drew HB2.out).trans (hd.below.mono (below_drew HB2.out).size))
                clear hd
                go_wp2_with fail
                refine lex_end (by first | (simp only [Act.put, List.setIfInBounds_toArray, List.set_cons_zero, List.set_cons_succ, i64_w, i32_w]; rfl) | rfl) (⟨pw_cell_below HB7.out n0, pw_cell_below HB7.out n1, pw_cell_below HB7.out n2, pw_cell_below HB7.out n3, pw_cell_below HB7.out n4, pw_cell_below HB7.out m3⟩) (fun hHeld => ?_)
                iterate 5 (refine lex_p rfl rfl rfl (by intro w'; go_simp; with_reducible rfl) (by simp only [Act.put, List.setIfInBounds_toArray, List.set_cons_zero, List.set_cons_succ, i64_w, i32_w]; rfl) ?_)
                refine lex_nil ?_
                clear hHeld
                go_wp2_with fail
                refine region [(0, .p), (1, .p), (3, .p), (6, .p), (8, .p), (2, .t), (4, .t), (7, .t), (9, .t), (5, .o), (10, .p), (11, .e)] (fun W => W.cell? ⟨q8, 0, none⟩ = some (.int .u32 ta) ∧ W.cell? ⟨q8, 1, none⟩ = some (.int .u32 tb) ∧ W.cell? ⟨q8, 2, none⟩ = some (.int .u32 tc) ∧ W.cell? ⟨q8, 3, none⟩ = some (.int .u32 td) ∧ W.cell? ⟨q8, 4, none⟩ = some (.int .u32 te) ∧ W.cell? ⟨gb, go + i, none⟩ = some (.int .u32 x)) (by kernel_rfl) (by kernel_rfl) (fun _ _ _ _ _ h => h) (⟨pw_cell_below (below_drew HB7.out) n0, pw_cell_below (below_drew HB7.out) n1, pw_cell_below (below_drew HB7.out) n2, pw_cell_below (below_drew HB7.out) n3, pw_cell_below (below_drew HB7.out) n4, pw_cell_below (below_drew HB7.out) m3⟩) (fun hHeld => ?_)
                iterate 5 (refine lex_p rfl rfl rfl (by intro w'; go_simp; with_reducible rfl) (by simp only [Act.put, List.setIfInBounds_toArray, List.set_cons_zero, List.set_cons_succ, i64_w, i32_w]; rfl) ?_)
                iterate 4 (refine lex_t rfl rfl rfl (by rintro w' ⟨s1, s2, s3, s4, s5, s6⟩; go_simp; with_reducible rfl) (by simp only [Act.put, List.setIfInBounds_toArray, List.set_cons_zero, List.set_cons_succ, i64_w, i32_w]; rfl) ?_)
                refine lex_o rfl ?_
                go_wp2_with fail
                refine (pursuivantref01_Roll.calls 40 _ 30 _ _ HR30.out).mono ?_
                rintro e w8 ⟨rfl, hd⟩
                have HB8 := Aside0.mk ((below_drew HB7.out).trans (hd.below.mono (below_drew HB7.out).size))
                clear hd
                go_wp2_with fail
                refine lex_end (by first | (simp only [Act.put, List.setIfInBounds_toArray, List.set_cons_zero, List.set_cons_succ, i64_w, i32_w]; rfl) | rfl) (⟨pw_cell_below HB8.out n0, pw_cell_below HB8.out n1, pw_cell_below HB8.out n2, pw_cell_below HB8.out n3, pw_cell_below HB8.out n4, pw_cell_below HB8.out m3⟩) (fun hHeld => ?_)
                (refine lex_p rfl rfl rfl (by intro w'; go_simp; with_reducible rfl) (by simp only [Act.put, List.setIfInBounds_toArray, List.set_cons_zero, List.set_cons_succ, i64_w, i32_w]; rfl) ?_)
                refine lex_e rfl ?_
                have A8 := Aside0.mk (A8.out.later HB8.out)
                obtain ⟨r0, t0⟩ := A8.out.cell 0 (by simp)
                obtain ⟨r1, t1⟩ := A8.out.cell 1 (by simp)
                obtain ⟨r2, t2⟩ := A8.out.cell 2 (by simp)
                obtain ⟨r3, t3⟩ := A8.out.cell 3 (by simp)
                obtain ⟨r4, t4⟩ := A8.out.cell 4 (by simp)
                go_wp2_with fail
                refine putQ_normal ?_
                go_wp2_with fail
                go_roundg (gk - 1)
                case measure => have := HI.out; omega
                case rel =>
                  have h80 := HI.out
                  refine ⟨i + 1, by omega, by omega, by rw [show ((i + 1 : Nat) : Int) = (i : Int) + 1 by omega], ?_, ?_⟩
                  · rw [HSU.out]
                    have e : (rot 5 ta + (or (and tb tc) (and (4294967295 - tb) td)) + te + 1518500249 + x) % 4294967296 = add (add (add (add (rot 5 ta) (or (and tb tc) (and (4294967295 - tb) td))) te) 1518500249) x := by
                      unfold add
                      simp only [IntKind.wrap_u32]
                      omega
                    rw [e]
                    exact ((((A8.out.put 0 _).put 1 ta).put 2 (rot 30 tb)).put 3 tc).put 4 td
                  · have h6 := B4.out.then HB8.out B4.out.size
                    exact ((((h6.setCell (p := ⟨q8, 0, none⟩) (.inr rfl) _).setCell (p := ⟨q8, 1, none⟩) (.inr rfl) _).setCell (p := ⟨q8, 2, none⟩) (.inr rfl) _).setCell (p := ⟨q8, 3, none⟩) (.inr rfl) _).setCell (p := ⟨q8, 4, none⟩) (.inr rfl) _
              · have hf : fOf i tb tc td = xor (xor tb tc) td := by unfold fOf; rw [if_neg h20, if_pos h40]
                have hk : kOf i = 1859775393 := by unfold kOf; rw [if_neg h20, if_pos h40]
                have z0 : ¬ ((i : Int) < 20) := by omega
                have z1 : (i : Int) < 40 := by omega
                rw [hf, hk] at hsucc
                clear hf hk h20 h40
                have HSU := Aside0.mk hsucc
                clear hsucc
                go_wp2_with fail
                refine region [(0, .p), (2, .p), (5, .p), (1, .t), (3, .t), (4, .p), (6, .t), (7, .p), (8, .o), (9, .p), (10, .p)] (fun W => W.cell? ⟨q8, 0, none⟩ = some (.int .u32 ta) ∧ W.cell? ⟨q8, 1, none⟩ = some (.int .u32 tb) ∧ W.cell? ⟨q8, 2, none⟩ = some (.int .u32 tc) ∧ W.cell? ⟨q8, 3, none⟩ = some (.int .u32 td) ∧ W.cell? ⟨q8, 4, none⟩ = some (.int .u32 te) ∧ W.cell? ⟨gb, go + i, none⟩ = some (.int .u32 x)) (by kernel_rfl) (by kernel_rfl) (fun _ _ _ _ _ h => h) (⟨pw_cell_below (below_drew HB0.out) n0, pw_cell_below (below_drew HB0.out) n1, pw_cell_below (below_drew HB0.out) n2, pw_cell_below (below_drew HB0.out) n3, pw_cell_below (below_drew HB0.out) n4, pw_cell_below (below_drew HB0.out) m3⟩) (fun hHeld => ?_)
                iterate 3 (refine lex_p rfl rfl rfl (by intro w'; go_simp; with_reducible rfl) (by simp only [Act.put, List.setIfInBounds_toArray, List.set_cons_zero, List.set_cons_succ, i64_w, i32_w]; rfl) ?_)
                iterate 2 (refine lex_t rfl rfl rfl (by rintro w' ⟨s1, s2, s3, s4, s5, s6⟩; go_simp; with_reducible rfl) (by simp only [Act.put, List.setIfInBounds_toArray, List.set_cons_zero, List.set_cons_succ, i64_w, i32_w]; rfl) ?_)
                (refine lex_p rfl rfl rfl (by intro w'; go_simp; with_reducible rfl) (by simp only [Act.put, List.setIfInBounds_toArray, List.set_cons_zero, List.set_cons_succ, i64_w, i32_w]; rfl) ?_)
                (refine lex_t rfl rfl rfl (by rintro w' ⟨s1, s2, s3, s4, s5, s6⟩; go_simp; with_reducible rfl) (by simp only [Act.put, List.setIfInBounds_toArray, List.set_cons_zero, List.set_cons_succ, i64_w, i32_w]; rfl) ?_)
                (refine lex_p rfl rfl rfl (by intro w'; go_simp; with_reducible rfl) (by simp only [Act.put, List.setIfInBounds_toArray, List.set_cons_zero, List.set_cons_succ, i64_w, i32_w]; rfl) ?_)
                refine lex_o rfl ?_
                go_wp2_with fail
                refine (pursuivantref01_root.calls 40 10 _ _ root10).mono ?_
                rintro e w1 ⟨rfl, hd⟩
                have HB1 := Aside0.mk ((below_drew HB0.out).trans (hd.below.mono (below_drew HB0.out).size))
                clear hd
                go_wp2_with fail
                refine lex_end (by first | (simp only [Act.put, List.setIfInBounds_toArray, List.set_cons_zero, List.set_cons_succ, i64_w, i32_w]; rfl) | rfl) (⟨pw_cell_below HB1.out n0, pw_cell_below HB1.out n1, pw_cell_below HB1.out n2, pw_cell_below HB1.out n3, pw_cell_below HB1.out n4, pw_cell_below HB1.out m3⟩) (fun hHeld => ?_)
                iterate 2 (refine lex_p rfl rfl rfl (by intro w'; go_simp; with_reducible rfl) (by simp only [Act.put, List.setIfInBounds_toArray, List.set_cons_zero, List.set_cons_succ, i64_w, i32_w]; rfl) ?_)
                refine lex_nil ?_
                clear hHeld
                go_wp2_with fail
                refine (pursuivantref01_root.calls 40 3 _ _ root3).mono ?_
                rintro e w2 ⟨rfl, hd⟩
                have HB2 := Aside0.mk (HB1.out.trans (hd.below.mono HB1.out.size))
                clear hd
                go_wp2_with fail
                refine region [(0, .p), (3, .p), (5, .p), (8, .p), (10, .p), (11, .p), (12, .p), (1, .t), (6, .t), (13, .t), (2, .o), (4, .p), (7, .p), (9, .p), (14, .p), (15, .p)] (fun W => W.cell? ⟨q8, 0, none⟩ = some (.int .u32 ta) ∧ W.cell? ⟨q8, 1, none⟩ = some (.int .u32 tb) ∧ W.cell? ⟨q8, 2, none⟩ = some (.int .u32 tc) ∧ W.cell? ⟨q8, 3, none⟩ = some (.int .u32 td) ∧ W.cell? ⟨q8, 4, none⟩ = some (.int .u32 te) ∧ W.cell? ⟨gb, go + i, none⟩ = some (.int .u32 x)) (by kernel_rfl) (by kernel_rfl) (fun _ _ _ _ _ h => h) (⟨pw_cell_below (below_drew HB2.out) n0, pw_cell_below (below_drew HB2.out) n1, pw_cell_below (below_drew HB2.out) n2, pw_cell_below (below_drew HB2.out) n3, pw_cell_below (below_drew HB2.out) n4, pw_cell_below (below_drew HB2.out) m3⟩) (fun hHeld => ?_)
                iterate 7 (refine lex_p rfl rfl rfl (by intro w'; go_simp; with_reducible rfl) (by simp only [Act.put, List.setIfInBounds_toArray, List.set_cons_zero, List.set_cons_succ, i64_w, i32_w]; rfl) ?_)
                iterate 3 (refine lex_t rfl rfl rfl (by rintro w' ⟨s1, s2, s3, s4, s5, s6⟩; go_simp; with_reducible rfl) (by simp only [Act.put, List.setIfInBounds_toArray, List.set_cons_zero, List.set_cons_succ, i64_w, i32_w]; rfl) ?_)
                refine lex_o rfl ?_
                go_wp2_with fail
                refine (pursuivantref01_Roll.calls 40 _ 5 _ _ HR5.out).mono ?_
                rintro e w7 ⟨rfl, hd⟩
                have HB7 := Aside0.mk ((below_drew HB2.out).trans (hd.below.mono (below_drew HB2.out).size))
                clear hd
                go_wp2_with fail
                refine lex_end (by first | (simp only [Act.put, List.setIfInBounds_toArray, List.set_cons_zero, List.set_cons_succ, i64_w, i32_w]; rfl) | rfl) (⟨pw_cell_below HB7.out n0, pw_cell_below HB7.out n1, pw_cell_below HB7.out n2, pw_cell_below HB7.out n3, pw_cell_below HB7.out n4, pw_cell_below HB7.out m3⟩) (fun hHeld => ?_)
                iterate 5 (refine lex_p rfl rfl rfl (by intro w'; go_simp; with_reducible rfl) (by simp only [Act.put, List.setIfInBounds_toArray, List.set_cons_zero, List.set_cons_succ, i64_w, i32_w]; rfl) ?_)
                refine lex_nil ?_
                clear hHeld
                go_wp2_with fail
                refine region [(0, .p), (1, .p), (3, .p), (6, .p), (8, .p), (2, .t), (4, .t), (7, .t), (9, .t), (5, .o), (10, .p), (11, .e)] (fun W => W.cell? ⟨q8, 0, none⟩ = some (.int .u32 ta) ∧ W.cell? ⟨q8, 1, none⟩ = some (.int .u32 tb) ∧ W.cell? ⟨q8, 2, none⟩ = some (.int .u32 tc) ∧ W.cell? ⟨q8, 3, none⟩ = some (.int .u32 td) ∧ W.cell? ⟨q8, 4, none⟩ = some (.int .u32 te) ∧ W.cell? ⟨gb, go + i, none⟩ = some (.int .u32 x)) (by kernel_rfl) (by kernel_rfl) (fun _ _ _ _ _ h => h) (⟨pw_cell_below (below_drew HB7.out) n0, pw_cell_below (below_drew HB7.out) n1, pw_cell_below (below_drew HB7.out) n2, pw_cell_below (below_drew HB7.out) n3, pw_cell_below (below_drew HB7.out) n4, pw_cell_below (below_drew HB7.out) m3⟩) (fun hHeld => ?_)
                iterate 5 (refine lex_p rfl rfl rfl (by intro w'; go_simp; with_reducible rfl) (by simp only [Act.put, List.setIfInBounds_toArray, List.set_cons_zero, List.set_cons_succ, i64_w, i32_w]; rfl) ?_)
                iterate 4 (refine lex_t rfl rfl rfl (by rintro w' ⟨s1, s2, s3, s4, s5, s6⟩; go_simp; with_reducible rfl) (by simp only [Act.put, List.setIfInBounds_toArray, List.set_cons_zero, List.set_cons_succ, i64_w, i32_w]; rfl) ?_)
                refine lex_o rfl ?_
                go_wp2_with fail
                refine (pursuivantref01_Roll.calls 40 _ 30 _ _ HR30.out).mono ?_
                rintro e w8 ⟨rfl, hd⟩
                have HB8 := Aside0.mk ((below_drew HB7.out).trans (hd.below.mono (below_drew HB7.out).size))
                clear hd
                go_wp2_with fail
                refine lex_end (by first | (simp only [Act.put, List.setIfInBounds_toArray, List.set_cons_zero, List.set_cons_succ, i64_w, i32_w]; rfl) | rfl) (⟨pw_cell_below HB8.out n0, pw_cell_below HB8.out n1, pw_cell_below HB8.out n2, pw_cell_below HB8.out n3, pw_cell_below HB8.out n4, pw_cell_below HB8.out m3⟩) (fun hHeld => ?_)
                (refine lex_p rfl rfl rfl (by intro w'; go_simp; with_reducible rfl) (by simp only [Act.put, List.setIfInBounds_toArray, List.set_cons_zero, List.set_cons_succ, i64_w, i32_w]; rfl) ?_)
                refine lex_e rfl ?_
                have A8 := Aside0.mk (A8.out.later HB8.out)
                obtain ⟨r0, t0⟩ := A8.out.cell 0 (by simp)
                obtain ⟨r1, t1⟩ := A8.out.cell 1 (by simp)
                obtain ⟨r2, t2⟩ := A8.out.cell 2 (by simp)
                obtain ⟨r3, t3⟩ := A8.out.cell 3 (by simp)
                obtain ⟨r4, t4⟩ := A8.out.cell 4 (by simp)
                go_wp2_with fail
                refine putQ_normal ?_
                go_wp2_with fail
                go_roundg (gk - 1)
                case measure => have := HI.out; omega
                case rel =>
                  have h80 := HI.out
                  refine ⟨i + 1, by omega, by omega, by rw [show ((i + 1 : Nat) : Int) = (i : Int) + 1 by omega], ?_, ?_⟩
                  · rw [HSU.out]
                    have e : (rot 5 ta + (xor (xor tb tc) td) + te + 1859775393 + x) % 4294967296 = add (add (add (add (rot 5 ta) (xor (xor tb tc) td)) te) 1859775393) x := by
                      unfold add
                      simp only [IntKind.wrap_u32]
                      omega
                    rw [e]
                    exact ((((A8.out.put 0 _).put 1 ta).put 2 (rot 30 tb)).put 3 tc).put 4 td
                  · have h6 := B4.out.then HB8.out B4.out.size
                    exact ((((h6.setCell (p := ⟨q8, 0, none⟩) (.inr rfl) _).setCell (p := ⟨q8, 1, none⟩) (.inr rfl) _).setCell (p := ⟨q8, 2, none⟩) (.inr rfl) _).setCell (p := ⟨q8, 3, none⟩) (.inr rfl) _).setCell (p := ⟨q8, 4, none⟩) (.inr rfl) _
              · have hf : fOf i tb tc td = or (or (and tb tc) (and tb td)) (and tc td) := by unfold fOf; rw [if_neg h20, if_neg h40, if_pos h60]
                have hk : kOf i = 2400959708 := by unfold kOf; rw [if_neg h20, if_neg h40, if_pos h60]
                have z0 : ¬ ((i : Int) < 20) := by omega
                have z1 : ¬ ((i : Int) < 40) := by omega
                have z2 : (i : Int) < 60 := by omega
                rw [hf, hk] at hsucc
                clear hf hk h20 h40 h60
                have HSU := Aside0.mk hsucc
                clear hsucc
                go_wp2_with fail
                refine region [(0, .p), (2, .p), (5, .p), (1, .t), (3, .t), (4, .p), (6, .t), (7, .p), (8, .o), (9, .p), (10, .p)] (fun W => W.cell? ⟨q8, 0, none⟩ = some (.int .u32 ta) ∧ W.cell? ⟨q8, 1, none⟩ = some (.int .u32 tb) ∧ W.cell? ⟨q8, 2, none⟩ = some (.int .u32 tc) ∧ W.cell? ⟨q8, 3, none⟩ = some (.int .u32 td) ∧ W.cell? ⟨q8, 4, none⟩ = some (.int .u32 te) ∧ W.cell? ⟨gb, go + i, none⟩ = some (.int .u32 x)) (by kernel_rfl) (by kernel_rfl) (fun _ _ _ _ _ h => h) (⟨pw_cell_below (below_drew HB0.out) n0, pw_cell_below (below_drew HB0.out) n1, pw_cell_below (below_drew HB0.out) n2, pw_cell_below (below_drew HB0.out) n3, pw_cell_below (below_drew HB0.out) n4, pw_cell_below (below_drew HB0.out) m3⟩) (fun hHeld => ?_)
                iterate 3 (refine lex_p rfl rfl rfl (by intro w'; go_simp; with_reducible rfl) (by simp only [Act.put, List.setIfInBounds_toArray, List.set_cons_zero, List.set_cons_succ, i64_w, i32_w]; rfl) ?_)
                iterate 2 (refine lex_t rfl rfl rfl (by rintro w' ⟨s1, s2, s3, s4, s5, s6⟩; go_simp; with_reducible rfl) (by simp only [Act.put, List.setIfInBounds_toArray, List.set_cons_zero, List.set_cons_succ, i64_w, i32_w]; rfl) ?_)
                (refine lex_p rfl rfl rfl (by intro w'; go_simp; with_reducible rfl) (by simp only [Act.put, List.setIfInBounds_toArray, List.set_cons_zero, List.set_cons_succ, i64_w, i32_w]; rfl) ?_)
                (refine lex_t rfl rfl rfl (by rintro w' ⟨s1, s2, s3, s4, s5, s6⟩; go_simp; with_reducible rfl) (by simp only [Act.put, List.setIfInBounds_toArray, List.set_cons_zero, List.set_cons_succ, i64_w, i32_w]; rfl) ?_)
                (refine lex_p rfl rfl rfl (by intro w'; go_simp; with_reducible rfl) (by simp only [Act.put, List.setIfInBounds_toArray, List.set_cons_zero, List.set_cons_succ, i64_w, i32_w]; rfl) ?_)
                refine lex_o rfl ?_
                go_wp2_with fail
                refine (pursuivantref01_root.calls 40 10 _ _ root10).mono ?_
                rintro e w1 ⟨rfl, hd⟩
                have HB1 := Aside0.mk ((below_drew HB0.out).trans (hd.below.mono (below_drew HB0.out).size))
                clear hd
                go_wp2_with fail
                refine lex_end (by first | (simp only [Act.put, List.setIfInBounds_toArray, List.set_cons_zero, List.set_cons_succ, i64_w, i32_w]; rfl) | rfl) (⟨pw_cell_below HB1.out n0, pw_cell_below HB1.out n1, pw_cell_below HB1.out n2, pw_cell_below HB1.out n3, pw_cell_below HB1.out n4, pw_cell_below HB1.out m3⟩) (fun hHeld => ?_)
                iterate 2 (refine lex_p rfl rfl rfl (by intro w'; go_simp; with_reducible rfl) (by simp only [Act.put, List.setIfInBounds_toArray, List.set_cons_zero, List.set_cons_succ, i64_w, i32_w]; rfl) ?_)
                refine lex_nil ?_
                clear hHeld
                go_wp2_with fail
                refine region [(0, .p), (2, .p), (5, .p), (7, .p), (11, .p), (13, .p), (1, .t), (3, .t), (4, .p), (6, .t), (8, .t), (9, .p), (10, .p), (12, .t), (14, .t), (15, .p), (16, .p), (17, .o), (18, .p), (19, .p)] (fun W => W.cell? ⟨q8, 0, none⟩ = some (.int .u32 ta) ∧ W.cell? ⟨q8, 1, none⟩ = some (.int .u32 tb) ∧ W.cell? ⟨q8, 2, none⟩ = some (.int .u32 tc) ∧ W.cell? ⟨q8, 3, none⟩ = some (.int .u32 td) ∧ W.cell? ⟨q8, 4, none⟩ = some (.int .u32 te) ∧ W.cell? ⟨gb, go + i, none⟩ = some (.int .u32 x)) (by kernel_rfl) (by kernel_rfl) (fun _ _ _ _ _ h => h) (⟨pw_cell_below (below_drew HB1.out) n0, pw_cell_below (below_drew HB1.out) n1, pw_cell_below (below_drew HB1.out) n2, pw_cell_below (below_drew HB1.out) n3, pw_cell_below (below_drew HB1.out) n4, pw_cell_below (below_drew HB1.out) m3⟩) (fun hHeld => ?_)
                iterate 6 (refine lex_p rfl rfl rfl (by intro w'; go_simp; with_reducible rfl) (by simp only [Act.put, List.setIfInBounds_toArray, List.set_cons_zero, List.set_cons_succ, i64_w, i32_w]; rfl) ?_)
                iterate 2 (refine lex_t rfl rfl rfl (by rintro w' ⟨s1, s2, s3, s4, s5, s6⟩; go_simp; with_reducible rfl) (by simp only [Act.put, List.setIfInBounds_toArray, List.set_cons_zero, List.set_cons_succ, i64_w, i32_w]; rfl) ?_)
                (refine lex_p rfl rfl rfl (by intro w'; go_simp; with_reducible rfl) (by simp only [Act.put, List.setIfInBounds_toArray, List.set_cons_zero, List.set_cons_succ, i64_w, i32_w]; rfl) ?_)
                iterate 2 (refine lex_t rfl rfl rfl (by rintro w' ⟨s1, s2, s3, s4, s5, s6⟩; go_simp; with_reducible rfl) (by simp only [Act.put, List.setIfInBounds_toArray, List.set_cons_zero, List.set_cons_succ, i64_w, i32_w]; rfl) ?_)
                iterate 2 (refine lex_p rfl rfl rfl (by intro w'; go_simp; with_reducible rfl) (by simp only [Act.put, List.setIfInBounds_toArray, List.set_cons_zero, List.set_cons_succ, i64_w, i32_w]; rfl) ?_)
                iterate 2 (refine lex_t rfl rfl rfl (by rintro w' ⟨s1, s2, s3, s4, s5, s6⟩; go_simp; with_reducible rfl) (by simp only [Act.put, List.setIfInBounds_toArray, List.set_cons_zero, List.set_cons_succ, i64_w, i32_w]; rfl) ?_)
                iterate 2 (refine lex_p rfl rfl rfl (by intro w'; go_simp; with_reducible rfl) (by simp only [Act.put, List.setIfInBounds_toArray, List.set_cons_zero, List.set_cons_succ, i64_w, i32_w]; rfl) ?_)
                refine lex_o rfl ?_
                go_wp2_with fail
                refine (pursuivantref01_root.calls 40 5 _ _ root5).mono ?_
                rintro e w2 ⟨rfl, hd⟩
                have HB2 := Aside0.mk ((below_drew HB1.out).trans (hd.below.mono (below_drew HB1.out).size))
                clear hd
                go_wp2_with fail
                refine lex_end (by first | (simp only [Act.put, List.setIfInBounds_toArray, List.set_cons_zero, List.set_cons_succ, i64_w, i32_w]; rfl) | rfl) (⟨pw_cell_below HB2.out n0, pw_cell_below HB2.out n1, pw_cell_below HB2.out n2, pw_cell_below HB2.out n3, pw_cell_below HB2.out n4, pw_cell_below HB2.out m3⟩) (fun hHeld => ?_)
                iterate 2 (refine lex_p rfl rfl rfl (by intro w'; go_simp; with_reducible rfl) (by simp only [Act.put, List.setIfInBounds_toArray, List.set_cons_zero, List.set_cons_succ, i64_w, i32_w]; rfl) ?_)
                refine lex_nil ?_
                clear hHeld
                go_wp2_with fail
                refine region [(0, .p), (3, .p), (5, .p), (8, .p), (10, .p), (11, .p), (12, .p), (1, .t), (6, .t), (13, .t), (2, .o), (4, .p), (7, .p), (9, .p), (14, .p), (15, .p)] (fun W => W.cell? ⟨q8, 0, none⟩ = some (.int .u32 ta) ∧ W.cell? ⟨q8, 1, none⟩ = some (.int .u32 tb) ∧ W.cell? ⟨q8, 2, none⟩ = some (.int .u32 tc) ∧ W.cell? ⟨q8, 3, none⟩ = some (.int .u32 td) ∧ W.cell? ⟨q8, 4, none⟩ = some (.int .u32 te) ∧ W.cell? ⟨gb, go + i, none⟩ = some (.int .u32 x)) (by kernel_rfl) (by kernel_rfl) (fun _ _ _ _ _ h => h) (⟨pw_cell_below (below_drew HB2.out) n0, pw_cell_below (below_drew HB2.out) n1, pw_cell_below (below_drew HB2.out) n2, pw_cell_below (below_drew HB2.out) n3, pw_cell_below (below_drew HB2.out) n4, pw_cell_below (below_drew HB2.out) m3⟩) (fun hHeld => ?_)
                iterate 7 (refine lex_p rfl rfl rfl (by intro w'; go_simp; with_reducible rfl) (by simp only [Act.put, List.setIfInBounds_toArray, List.set_cons_zero, List.set_cons_succ, i64_w, i32_w]; rfl) ?_)
                iterate 3 (refine lex_t rfl rfl rfl (by rintro w' ⟨s1, s2, s3, s4, s5, s6⟩; go_simp; with_reducible rfl) (by simp only [Act.put, List.setIfInBounds_toArray, List.set_cons_zero, List.set_cons_succ, i64_w, i32_w]; rfl) ?_)
                refine lex_o rfl ?_
                go_wp2_with fail
                refine (pursuivantref01_Roll.calls 40 _ 5 _ _ HR5.out).mono ?_
                rintro e w7 ⟨rfl, hd⟩
                have HB7 := Aside0.mk ((below_drew HB2.out).trans (hd.below.mono (below_drew HB2.out).size))
                clear hd
                go_wp2_with fail
                refine lex_end (by first | (simp only [Act.put, List.setIfInBounds_toArray, List.set_cons_zero, List.set_cons_succ, i64_w, i32_w]; rfl) | rfl) (⟨pw_cell_below HB7.out n0, pw_cell_below HB7.out n1, pw_cell_below HB7.out n2, pw_cell_below HB7.out n3, pw_cell_below HB7.out n4, pw_cell_below HB7.out m3⟩) (fun hHeld => ?_)
                iterate 5 (refine lex_p rfl rfl rfl (by intro w'; go_simp; with_reducible rfl) (by simp only [Act.put, List.setIfInBounds_toArray, List.set_cons_zero, List.set_cons_succ, i64_w, i32_w]; rfl) ?_)
                refine lex_nil ?_
                clear hHeld
                go_wp2_with fail
                refine region [(0, .p), (1, .p), (3, .p), (6, .p), (8, .p), (2, .t), (4, .t), (7, .t), (9, .t), (5, .o), (10, .p), (11, .e)] (fun W => W.cell? ⟨q8, 0, none⟩ = some (.int .u32 ta) ∧ W.cell? ⟨q8, 1, none⟩ = some (.int .u32 tb) ∧ W.cell? ⟨q8, 2, none⟩ = some (.int .u32 tc) ∧ W.cell? ⟨q8, 3, none⟩ = some (.int .u32 td) ∧ W.cell? ⟨q8, 4, none⟩ = some (.int .u32 te) ∧ W.cell? ⟨gb, go + i, none⟩ = some (.int .u32 x)) (by kernel_rfl) (by kernel_rfl) (fun _ _ _ _ _ h => h) (⟨pw_cell_below (below_drew HB7.out) n0, pw_cell_below (below_drew HB7.out) n1, pw_cell_below (below_drew HB7.out) n2, pw_cell_below (below_drew HB7.out) n3, pw_cell_below (below_drew HB7.out) n4, pw_cell_below (below_drew HB7.out) m3⟩) (fun hHeld => ?_)
                iterate 5 (refine lex_p rfl rfl rfl (by intro w'; go_simp; with_reducible rfl) (by simp only [Act.put, List.setIfInBounds_toArray, List.set_cons_zero, List.set_cons_succ, i64_w, i32_w]; rfl) ?_)
                iterate 4 (refine lex_t rfl rfl rfl (by rintro w' ⟨s1, s2, s3, s4, s5, s6⟩; go_simp; with_reducible rfl) (by simp only [Act.put, List.setIfInBounds_toArray, List.set_cons_zero, List.set_cons_succ, i64_w, i32_w]; rfl) ?_)
                refine lex_o rfl ?_
                go_wp2_with fail
                refine (pursuivantref01_Roll.calls 40 _ 30 _ _ HR30.out).mono ?_
                rintro e w8 ⟨rfl, hd⟩
                have HB8 := Aside0.mk ((below_drew HB7.out).trans (hd.below.mono (below_drew HB7.out).size))
                clear hd
                go_wp2_with fail
                refine lex_end (by first | (simp only [Act.put, List.setIfInBounds_toArray, List.set_cons_zero, List.set_cons_succ, i64_w, i32_w]; rfl) | rfl) (⟨pw_cell_below HB8.out n0, pw_cell_below HB8.out n1, pw_cell_below HB8.out n2, pw_cell_below HB8.out n3, pw_cell_below HB8.out n4, pw_cell_below HB8.out m3⟩) (fun hHeld => ?_)
                (refine lex_p rfl rfl rfl (by intro w'; go_simp; with_reducible rfl) (by simp only [Act.put, List.setIfInBounds_toArray, List.set_cons_zero, List.set_cons_succ, i64_w, i32_w]; rfl) ?_)
                refine lex_e rfl ?_
                have A8 := Aside0.mk (A8.out.later HB8.out)
                obtain ⟨r0, t0⟩ := A8.out.cell 0 (by simp)
                obtain ⟨r1, t1⟩ := A8.out.cell 1 (by simp)
                obtain ⟨r2, t2⟩ := A8.out.cell 2 (by simp)
                obtain ⟨r3, t3⟩ := A8.out.cell 3 (by simp)
                obtain ⟨r4, t4⟩ := A8.out.cell 4 (by simp)
                go_wp2_with fail
                refine putQ_normal ?_
                go_wp2_with fail
                go_roundg (gk - 1)
                case measure => have := HI.out; omega
                case rel =>
                  have h80 := HI.out
                  refine ⟨i + 1, by omega, by omega, by rw [show ((i + 1 : Nat) : Int) = (i : Int) + 1 by omega], ?_, ?_⟩
                  · rw [HSU.out]
                    have e : (rot 5 ta + (or (or (and tb tc) (and tb td)) (and tc td)) + te + 2400959708 + x) % 4294967296 = add (add (add (add (rot 5 ta) (or (or (and tb tc) (and tb td)) (and tc td))) te) 2400959708) x := by
                      unfold add
                      simp only [IntKind.wrap_u32]
                      omega
                    rw [e]
                    exact ((((A8.out.put 0 _).put 1 ta).put 2 (rot 30 tb)).put 3 tc).put 4 td
                  · have h6 := B4.out.then HB8.out B4.out.size
                    exact ((((h6.setCell (p := ⟨q8, 0, none⟩) (.inr rfl) _).setCell (p := ⟨q8, 1, none⟩) (.inr rfl) _).setCell (p := ⟨q8, 2, none⟩) (.inr rfl) _).setCell (p := ⟨q8, 3, none⟩) (.inr rfl) _).setCell (p := ⟨q8, 4, none⟩) (.inr rfl) _
              · have hf : fOf i tb tc td = xor (xor tb tc) td := by unfold fOf; rw [if_neg h20, if_neg h40, if_neg h60]
                have hk : kOf i = 3395469782 := by unfold kOf; rw [if_neg h20, if_neg h40, if_neg h60]
                have z0 : ¬ ((i : Int) < 20) := by omega
                have z1 : ¬ ((i : Int) < 40) := by omega
                have z2 : ¬ ((i : Int) < 60) := by omega
                rw [hf, hk] at hsucc
                clear hf hk h20 h40 h60
                have HSU := Aside0.mk hsucc
                clear hsucc
                go_wp2_with fail
                refine region [(0, .p), (2, .p), (5, .p), (1, .t), (3, .t), (4, .p), (6, .t), (7, .p), (8, .o), (9, .p), (10, .p)] (fun W => W.cell? ⟨q8, 0, none⟩ = some (.int .u32 ta) ∧ W.cell? ⟨q8, 1, none⟩ = some (.int .u32 tb) ∧ W.cell? ⟨q8, 2, none⟩ = some (.int .u32 tc) ∧ W.cell? ⟨q8, 3, none⟩ = some (.int .u32 td) ∧ W.cell? ⟨q8, 4, none⟩ = some (.int .u32 te) ∧ W.cell? ⟨gb, go + i, none⟩ = some (.int .u32 x)) (by kernel_rfl) (by kernel_rfl) (fun _ _ _ _ _ h => h) (⟨pw_cell_below (below_drew HB0.out) n0, pw_cell_below (below_drew HB0.out) n1, pw_cell_below (below_drew HB0.out) n2, pw_cell_below (below_drew HB0.out) n3, pw_cell_below (below_drew HB0.out) n4, pw_cell_below (below_drew HB0.out) m3⟩) (fun hHeld => ?_)
                iterate 3 (refine lex_p rfl rfl rfl (by intro w'; go_simp; with_reducible rfl) (by simp only [Act.put, List.setIfInBounds_toArray, List.set_cons_zero, List.set_cons_succ, i64_w, i32_w]; rfl) ?_)
                iterate 2 (refine lex_t rfl rfl rfl (by rintro w' ⟨s1, s2, s3, s4, s5, s6⟩; go_simp; with_reducible rfl) (by simp only [Act.put, List.setIfInBounds_toArray, List.set_cons_zero, List.set_cons_succ, i64_w, i32_w]; rfl) ?_)
                (refine lex_p rfl rfl rfl (by intro w'; go_simp; with_reducible rfl) (by simp only [Act.put, List.setIfInBounds_toArray, List.set_cons_zero, List.set_cons_succ, i64_w, i32_w]; rfl) ?_)
                (refine lex_t rfl rfl rfl (by rintro w' ⟨s1, s2, s3, s4, s5, s6⟩; go_simp; with_reducible rfl) (by simp only [Act.put, List.setIfInBounds_toArray, List.set_cons_zero, List.set_cons_succ, i64_w, i32_w]; rfl) ?_)
                (refine lex_p rfl rfl rfl (by intro w'; go_simp; with_reducible rfl) (by simp only [Act.put, List.setIfInBounds_toArray, List.set_cons_zero, List.set_cons_succ, i64_w, i32_w]; rfl) ?_)
                refine lex_o rfl ?_
                go_wp2_with fail
                refine (pursuivantref01_root.calls 40 10 _ _ root10).mono ?_
                rintro e w1 ⟨rfl, hd⟩
                have HB1 := Aside0.mk ((below_drew HB0.out).trans (hd.below.mono (below_drew HB0.out).size))
                clear hd
                go_wp2_with fail
                refine lex_end (by first | (simp only [Act.put, List.setIfInBounds_toArray, List.set_cons_zero, List.set_cons_succ, i64_w, i32_w]; rfl) | rfl) (⟨pw_cell_below HB1.out n0, pw_cell_below HB1.out n1, pw_cell_below HB1.out n2, pw_cell_below HB1.out n3, pw_cell_below HB1.out n4, pw_cell_below HB1.out m3⟩) (fun hHeld => ?_)
                iterate 2 (refine lex_p rfl rfl rfl (by intro w'; go_simp; with_reducible rfl) (by simp only [Act.put, List.setIfInBounds_toArray, List.set_cons_zero, List.set_cons_succ, i64_w, i32_w]; rfl) ?_)
                refine lex_nil ?_
                clear hHeld
                go_wp2_with fail
                refine region [(0, .p), (3, .p), (5, .p), (8, .p), (10, .p), (11, .p), (12, .p), (1, .t), (6, .t), (13, .t), (2, .o), (4, .p), (7, .p), (9, .p), (14, .p), (15, .p)] (fun W => W.cell? ⟨q8, 0, none⟩ = some (.int .u32 ta) ∧ W.cell? ⟨q8, 1, none⟩ = some (.int .u32 tb) ∧ W.cell? ⟨q8, 2, none⟩ = some (.int .u32 tc) ∧ W.cell? ⟨q8, 3, none⟩ = some (.int .u32 td) ∧ W.cell? ⟨q8, 4, none⟩ = some (.int .u32 te) ∧ W.cell? ⟨gb, go + i, none⟩ = some (.int .u32 x)) (by kernel_rfl) (by kernel_rfl) (fun _ _ _ _ _ h => h) (⟨pw_cell_below (below_drew HB1.out) n0, pw_cell_below (below_drew HB1.out) n1, pw_cell_below (below_drew HB1.out) n2, pw_cell_below (below_drew HB1.out) n3, pw_cell_below (below_drew HB1.out) n4, pw_cell_below (below_drew HB1.out) m3⟩) (fun hHeld => ?_)
                iterate 7 (refine lex_p rfl rfl rfl (by intro w'; go_simp; with_reducible rfl) (by simp only [Act.put, List.setIfInBounds_toArray, List.set_cons_zero, List.set_cons_succ, i64_w, i32_w]; rfl) ?_)
                iterate 3 (refine lex_t rfl rfl rfl (by rintro w' ⟨s1, s2, s3, s4, s5, s6⟩; go_simp; with_reducible rfl) (by simp only [Act.put, List.setIfInBounds_toArray, List.set_cons_zero, List.set_cons_succ, i64_w, i32_w]; rfl) ?_)
                refine lex_o rfl ?_
                go_wp2_with fail
                refine (pursuivantref01_Roll.calls 40 _ 5 _ _ HR5.out).mono ?_
                rintro e w7 ⟨rfl, hd⟩
                have HB7 := Aside0.mk ((below_drew HB1.out).trans (hd.below.mono (below_drew HB1.out).size))
                clear hd
                go_wp2_with fail
                refine lex_end (by first | (simp only [Act.put, List.setIfInBounds_toArray, List.set_cons_zero, List.set_cons_succ, i64_w, i32_w]; rfl) | rfl) (⟨pw_cell_below HB7.out n0, pw_cell_below HB7.out n1, pw_cell_below HB7.out n2, pw_cell_below HB7.out n3, pw_cell_below HB7.out n4, pw_cell_below HB7.out m3⟩) (fun hHeld => ?_)
                iterate 5 (refine lex_p rfl rfl rfl (by intro w'; go_simp; with_reducible rfl) (by simp only [Act.put, List.setIfInBounds_toArray, List.set_cons_zero, List.set_cons_succ, i64_w, i32_w]; rfl) ?_)
                refine lex_nil ?_
                clear hHeld
                go_wp2_with fail
                refine region [(0, .p), (1, .p), (3, .p), (6, .p), (8, .p), (2, .t), (4, .t), (7, .t), (9, .t), (5, .o), (10, .p), (11, .e)] (fun W => W.cell? ⟨q8, 0, none⟩ = some (.int .u32 ta) ∧ W.cell? ⟨q8, 1, none⟩ = some (.int .u32 tb) ∧ W.cell? ⟨q8, 2, none⟩ = some (.int .u32 tc) ∧ W.cell? ⟨q8, 3, none⟩ = some (.int .u32 td) ∧ W.cell? ⟨q8, 4, none⟩ = some (.int .u32 te) ∧ W.cell? ⟨gb, go + i, none⟩ = some (.int .u32 x)) (by kernel_rfl) (by kernel_rfl) (fun _ _ _ _ _ h => h) (⟨pw_cell_below (below_drew HB7.out) n0, pw_cell_below (below_drew HB7.out) n1, pw_cell_below (below_drew HB7.out) n2, pw_cell_below (below_drew HB7.out) n3, pw_cell_below (below_drew HB7.out) n4, pw_cell_below (below_drew HB7.out) m3⟩) (fun hHeld => ?_)
                iterate 5 (refine lex_p rfl rfl rfl (by intro w'; go_simp; with_reducible rfl) (by simp only [Act.put, List.setIfInBounds_toArray, List.set_cons_zero, List.set_cons_succ, i64_w, i32_w]; rfl) ?_)
                iterate 4 (refine lex_t rfl rfl rfl (by rintro w' ⟨s1, s2, s3, s4, s5, s6⟩; go_simp; with_reducible rfl) (by simp only [Act.put, List.setIfInBounds_toArray, List.set_cons_zero, List.set_cons_succ, i64_w, i32_w]; rfl) ?_)
                refine lex_o rfl ?_
                go_wp2_with fail
                refine (pursuivantref01_Roll.calls 40 _ 30 _ _ HR30.out).mono ?_
                rintro e w8 ⟨rfl, hd⟩
                have HB8 := Aside0.mk ((below_drew HB7.out).trans (hd.below.mono (below_drew HB7.out).size))
                clear hd
                go_wp2_with fail
                refine lex_end (by first | (simp only [Act.put, List.setIfInBounds_toArray, List.set_cons_zero, List.set_cons_succ, i64_w, i32_w]; rfl) | rfl) (⟨pw_cell_below HB8.out n0, pw_cell_below HB8.out n1, pw_cell_below HB8.out n2, pw_cell_below HB8.out n3, pw_cell_below HB8.out n4, pw_cell_below HB8.out m3⟩) (fun hHeld => ?_)
                (refine lex_p rfl rfl rfl (by intro w'; go_simp; with_reducible rfl) (by simp only [Act.put, List.setIfInBounds_toArray, List.set_cons_zero, List.set_cons_succ, i64_w, i32_w]; rfl) ?_)
                refine lex_e rfl ?_
                have A8 := Aside0.mk (A8.out.later HB8.out)
                obtain ⟨r0, t0⟩ := A8.out.cell 0 (by simp)
                obtain ⟨r1, t1⟩ := A8.out.cell 1 (by simp)
                obtain ⟨r2, t2⟩ := A8.out.cell 2 (by simp)
                obtain ⟨r3, t3⟩ := A8.out.cell 3 (by simp)
                obtain ⟨r4, t4⟩ := A8.out.cell 4 (by simp)
                go_wp2_with fail
                refine putQ_normal ?_
                go_wp2_with fail
                go_roundg (gk - 1)
                case measure => have := HI.out; omega
                case rel =>
                  have h80 := HI.out
                  refine ⟨i + 1, by omega, by omega, by rw [show ((i + 1 : Nat) : Int) = (i : Int) + 1 by omega], ?_, ?_⟩
                  · rw [HSU.out]
                    have e : (rot 5 ta + (xor (xor tb tc) td) + te + 3395469782 + x) % 4294967296 = add (add (add (add (rot 5 ta) (xor (xor tb tc) td)) te) 3395469782) x := by
                      unfold add
                      simp only [IntKind.wrap_u32]
                      omega
                    rw [e]
                    exact ((((A8.out.put 0 _).put 1 ta).put 2 (rot 30 tb)).put 3 tc).put 4 td
                  · have h6 := B4.out.then HB8.out B4.out.size
                    exact ((((h6.setCell (p := ⟨q8, 0, none⟩) (.inr rfl) _).setCell (p := ⟨q8, 1, none⟩) (.inr rfl) _).setCell (p := ⟨q8, 2, none⟩) (.inr rfl) _).setCell (p := ⟨q8, 3, none⟩) (.inr rfl) _).setCell (p := ⟨q8, 4, none⟩) (.inr rfl) _
            · obtain rfl : i = 80 := by omega
              go_wp2_with fail
              have HSZ := Aside0.mk B2.out.size
              have A0V := Aside0.mk (A0.out.below B2.out (by have := HQ.out; omega))
              have A2V := Aside0.mk (A2.out.below B2.out (by have := HQ.out; omega))
              have A8 : Aside0 (Arr .u32 q8 73 wr (fin (rounds ws s 80) s 0)) := A8
              obtain ⟨t, ht⟩ : ∃ t, rounds ws s 80 = t := ⟨_, rfl⟩
              rw [ht] at A8 HW
              clear ht
              obtain ⟨W0, hW0⟩ : ∃ W, W = wr := ⟨_, rfl⟩
              subst hW0
              go_loopg [13] 5 (fun gk s13 w' => ∃ k : Nat, k ≤ 5 ∧ 5 - k ≤ gk ∧ s13 = .int .i64 k ∧ Arr .u32 q8 73 w' (fin t s k) ∧ But V4.heap.size (fun k => k = q8) V4 w')
              case atStart => exact ⟨0, by omega, by omega, rfl, A8.out, B4.out⟩
              case round =>
                clear A8 B4
                obtain ⟨k, hk, hgk2, rfl, hA, hB⟩ := hrel
                have A8 := Aside0.mk hA
                have B4 := Aside0.mk hB
                clear hA hB
                by_cases hlt : k < 5
                · have hl5 : (k : Int) < 5 := by omega
                  obtain ⟨h1, h2⟩ := fin_step t s k hlt
                  have HST := Aside0.mk h2
                  obtain ⟨u0, v0⟩ := A8.out.cell k (by unfold fin; simp; omega)
                  rw [h1] at u0
                  obtain ⟨u1, -⟩ := (A0V.out.same (B4.out.block q0 (by have := HQ.out; have := HV4.out; have := HSZ.out; omega) (by have := HQ.out; have := HV4.out; omega))).cell k (by simp [St.l]; omega)
                  obtain ⟨x, hx⟩ : ∃ x, t.l.getD k 0 = x := ⟨_, rfl⟩
                  obtain ⟨y, hy⟩ : ∃ y, s.l.getD k 0 = y := ⟨_, rfl⟩
                  rw [hx, hy] at HST
                  rw [hx] at u0
                  rw [hy] at u1
                  have HK := Aside0.mk hlt
                  clear h1 h2 hx hy hlt
                  go_wp2_with fail
                  refine region [(0, .p), (1, .p), (2, .p), (4, .p), (5, .p), (3, .t), (6, .t), (7, .p), (8, .p), (9, .e)] (fun W => W.cell? ⟨q8, k, none⟩ = some (.int .u32 x) ∧ W.cell? ⟨q0, k, none⟩ = some (.int .u32 y)) (by kernel_rfl) (by kernel_rfl) (fun _ _ _ _ _ h => h) (⟨u0, u1⟩) (fun hHeld => ?_)
                  iterate 5 (refine lex_p rfl rfl rfl (by intro w'; go_simp; with_reducible rfl) (by simp only [Act.put, List.setIfInBounds_toArray, List.set_cons_zero, List.set_cons_succ, i64_w, i32_w]; rfl) ?_)
                  iterate 2 (refine lex_t rfl rfl rfl (by rintro w' ⟨s1, s2⟩; go_simp; with_reducible rfl) (by simp only [Act.put, List.setIfInBounds_toArray, List.set_cons_zero, List.set_cons_succ, i64_w, i32_w]; rfl) ?_)
                  iterate 2 (refine lex_p rfl rfl rfl (by intro w'; go_simp; with_reducible rfl) (by simp only [Act.put, List.setIfInBounds_toArray, List.set_cons_zero, List.set_cons_succ, i64_w, i32_w]; rfl) ?_)
                  refine lex_e rfl ?_
                  go_wp2_with fail
                  refine putQ_normal ?_
                  go_wp2_with fail
                  go_roundg (gk - 1)
                  case measure => have := HK.out; omega
                  case rel =>
                    have hk5 := HK.out
                    refine ⟨k + 1, by omega, by omega, ?_, ?_, (B4.out.trans (But.of (below_drew (Below.refl wr.heap.size wr)) B4.out.size)).setCell (p := ⟨q8, k, none⟩) (.inr rfl) _⟩
                    · congr 1
                    · have h7 := Arr.put (w := wr.drew) A8.out k (add x y)
                      rw [HST.out] at h7
                      exact h7
                · obtain rfl : k = 5 := by omega
                  rw [fin_five, ← HW.out] at A8
                  have A2 := Aside0.mk (A2V.out.same (B4.out.block q2 (by have := HQ.out; have := HV4.out; have := HSZ.out; omega) (by have := HQ.out; have := HV4.out; omega)))
                  obtain ⟨R, hR⟩ : ∃ R, block s bs = R := ⟨_, rfl⟩
                  rw [hR] at A8
                  have HR := Aside0.mk hR
                  clear hR
                  have k0 : wr.cell? ⟨q8, 0, none⟩ = some (.int .u32 R.a) := (A8.out.cell 0 (by simp [St.l])).1
                  have k1 : wr.cell? ⟨q8, 1, none⟩ = some (.int .u32 R.b) := (A8.out.cell 1 (by simp [St.l])).1
                  have k2 : wr.cell? ⟨q8, 2, none⟩ = some (.int .u32 R.c) := (A8.out.cell 2 (by simp [St.l])).1
                  have k3 : wr.cell? ⟨q8, 3, none⟩ = some (.int .u32 R.d) := (A8.out.cell 3 (by simp [St.l])).1
                  have k4 : wr.cell? ⟨q8, 4, none⟩ = some (.int .u32 R.e) := (A8.out.cell 4 (by simp [St.l])).1
                  obtain ⟨r0, t0⟩ := A2.out.cell 0 (by simp)
                  obtain ⟨r1, t1⟩ := A2.out.cell 1 (by simp)
                  obtain ⟨r2, t2⟩ := A2.out.cell 2 (by simp)
                  obtain ⟨r3, t3⟩ := A2.out.cell 3 (by simp)
                  obtain ⟨r4, t4⟩ := A2.out.cell 4 (by simp)
                  go_wp2_with fail
                  have hA := ((((A2.out.put 0 R.a).put 1 R.b).put 2 R.c).put 3 R.d).put 4 R.e
                  have hq2 : q0 ≤ q2 := by have := HQ.out; omega
                  have hB : Below q0 w wr := (B0.out.trans (B2.out.mono (by have := HQ.out; omega))).trans (B4.out.below (by have := HQ.out; have := HV4.out; have := HSZ.out; omega) (fun k hk hk2 => by have := HQ.out; have := HV4.out; omega))
                  have hB2 := ((((hB.setCell (p := ⟨q2, 0, none⟩) hq2 (.int .u32 R.a)).setCell (p := ⟨q2, 1, none⟩) hq2 (.int .u32 R.b)).setCell (p := ⟨q2, 2, none⟩) hq2 (.int .u32 R.c)).setCell (p := ⟨q2, 3, none⟩) hq2 (.int .u32 R.d)).setCell (p := ⟨q2, 4, none⟩) hq2 (.int .u32 R.e)
                  obtain ⟨V, hV⟩ : ∃ V, ((((wr.setCell ⟨q2, 0, none⟩ (.int .u32 R.a)).setCell ⟨q2, 1, none⟩ (.int .u32 R.b)).setCell ⟨q2, 2, none⟩ (.int .u32 R.c)).setCell ⟨q2, 3, none⟩ (.int .u32 R.d)).setCell ⟨q2, 4, none⟩ (.int .u32 R.e) = V := ⟨_, rfl⟩
                  rw [hV] at hA hB2 ⊢
                  have z0 : V.cell? ⟨q2, 0, none⟩ = some (.int .u32 R.a) := (hA.cell 0 (by simp)).1
                  have z1 : V.cell? ⟨q2, 1, none⟩ = some (.int .u32 R.b) := (hA.cell 1 (by simp)).1
                  have z2 : V.cell? ⟨q2, 2, none⟩ = some (.int .u32 R.c) := (hA.cell 2 (by simp)).1
                  have z3 : V.cell? ⟨q2, 3, none⟩ = some (.int .u32 R.d) := (hA.cell 3 (by simp)).1
                  have z4 : V.cell? ⟨q2, 4, none⟩ = some (.int .u32 R.e) := (hA.cell 4 (by simp)).1
                  refine bodyPost_ret (v := R.v) ?_ rfl ⟨by rw [HR.out], by rw [HQ0.out]; exact hB2⟩
                  simp [results, Try.results35, go_sem, z0, z1, z2, z3, z4]
end Go.Proofs.Ytfeohojpjncgaaa.Sha
