/- Keys: Add of a key that is taken in. -/
import Derived.Test.YtndjhnipahkclaaKe11
set_option linter.unusedSimpArgs false
set_option linter.unusedVariables false
namespace Go.Proofs.Ytndjhnipahkclaa.Ke
open Go.RowKit Go.Proofs.YtndjhnipahkclaaW.PrintWords Go.Proofs.YtndjhnipahkclaaW.PrintLast Go.Proofs.YtndjhnipahkclaaW.PrintMore Go.Proofs.Ytndjhnipahkclaa.PKeysPlay Go.Proofs.Ytndjhnipahkclaa.Lex Go.Proofs.Ytndjhnipahkclaa.Lib
theorem putQ_normal {Q : Exit → Act → World → Prop} {K : Act → World → Prop} {a : Act} {w : World} (h : K a w) : putQ Q K .normal a w := h
section
variable {ops : Array Oper} {rest : List Oper} {o : Oper} {a : Act} {Q : Exit → Act → World → Prop}
theorem ap_key {W : World} (ok : Nat → Prop) (s x : Operand) (hgd : o.guard = none)
    (ho : o.op = .call { callee := .builtin .append, args := #[s, x], argTypes := #[27, 27] })
    {v : Value} {xs : List S36} {y : S36} (HO : Kd.R k36 36 W 0 ok v xs)
    (hs : a.eval s = v) (hx : a.eval x = .slice (some ⟨W.heap.size, 0, none⟩) 1 1) (hfresh : ∀ k, W.heap.size ≤ k → ok k) (hl : xs.length + 1 ≤ 1000000)
    (h : ∀ v1 w1, Kd.R k36 36 w1 0 ok v1 (xs ++ [y]) → W.grownBy w1 v.ownBlock → wpList Try.prog ops Q rest (a.put o.dst v1) w1) :
    wpList Try.prog ops Q (o :: rest) a (W.alloc (.cells #[.int .u32 y.f0, .int .u8 y.f1, .int .u8 y.f2, .int .i64 y.f3, .string y.f4] 36)) :=
  Kd.R_append (w0 := W) k36 0 hgd s x 27 36 (a36 z36) 32 ho Try.underlying27 info36 rfl (by show 0 < 5; decide) (by decide) v xs y (c36 y) ok (fun _ => False) hs hx (k36_mkM _ _ _ _) (fun _ h => h.elim) hfresh HO (Below.refl _ _) (Nat.zero_le _) (by omega) (fun v1 w1 h1 _ h2 _ => h v1 w1 h1 h2)
end
set_option maxHeartbeats 4000000 in
theorem addOK {S : Nat → Prop} (p m n : Nat) (A : Option Addr) (c : Nat) (l : List S36) (f : Int → Option Int) (x : S36) (w : World) (hk : KS S p m n w A c l f) (hok : badP x = false) (htw : l.any (twiceP x) = false) (hroom : l.length < 16) (hS : ∀ k, S k → k < w.heap.size) :
    Calls Try.prog 19 #[ptr p, a36 x] w fun e w' => e = .returned (.int .i64 0) ∧ (∃ A' c', KS (fun k => S k ∨ (w.heap.size ≤ k ∧ k < w'.heap.size)) p m n w' A' c' (l ++ [x]) f) ∧ But w.heap.size S w w' := by
  have h1 := hk.c1
  have hgm : ∀ (W : World), Ob (w.heap.size + 1) W (c36 x) → Calls Try.prog 39 #[ptr (w.heap.size + 1)] W fun e w' => e = .returned (.bool false) ∧ W = w' := fun W hW => by
    have h := badT (w.heap.size + 1) x W hW
    rw [hok] at h
    exact h
  have HG := Aside0.mk hgm
  have HT : Aside0 (∀ (W : World), Below w.heap.size w W → W.cell? ⟨w.heap.size, 0, none⟩ = some (ptr p) → Ob (w.heap.size + 1) W (c36 x) → Calls Try.prog 40 #[ptr w.heap.size, ptr (w.heap.size + 1)] W fun e w' => e = .returned (.bool false) ∧ Below W.heap.size W w') := ⟨fun W hW h5 h6 => by
    have h := twiceC w.heap.size (w.heap.size + 1) p A c l x W h5 (pw_cell_below hW hk.c0) (Kd.C_below hk.row hW) h6
    rw [htw] at h
    exact h⟩
  have HFU : Aside0 (∀ (W : World), Below w.heap.size w W → W.cell? ⟨w.heap.size, 0, none⟩ = some (ptr p) → Calls Try.prog 42 #[ptr w.heap.size] W fun e w' => e = .returned (.bool false) ∧ W = w') := ⟨fun W hW h5 => by
    have h := fullT w.heap.size p m A c l W h5 (pw_cell_below hW hk.c0)
    rw [show decide (16 ≤ (l.length : Int)) = false from decide_eq_false (by omega)] at h
    exact h⟩
  have HK := Aside0.mk hk
  have HS := Aside0.mk hS
  clear hgm hok hk hS
  go_enter Try.func19, Try.ntmps19
  go_wp2_with fail
  obtain ⟨e, he⟩ : ∃ e : Int, e = 0 := ⟨_, rfl⟩
  refine wp_scope_jumps 0 (fun a' w' => False) (fun _ _ => 0) rfl ?_ ?_
  · go_wp2_with fail
    refine (none_some (m := m) ?_).mono ?_
    · exact pw_cell_below (below_alloc (below_alloc (below_alloc (Below.refl _ _) _) _) _) h1
    rintro e' w' ⟨rfl, rfl⟩
    go_wp2_with fail
    have sz1 : (w.alloc (.cells #[ptr p] 25)).heap.size = w.heap.size + 1 := by simp
    have sz2 : ((w.alloc (.cells #[ptr p] 25)).alloc (.cells #[.int .u32 x.f0, .int .u8 x.f1, .int .u8 x.f2, .int .i64 x.f3, .string x.f4] 36)).heap.size = w.heap.size + 2 := by simp
    have hom := Ob.new (w.alloc (.cells #[ptr p] 25)) (c36 x) #[.int .u32 x.f0, .int .u8 x.f1, .int .u8 x.f2, .int .i64 x.f3, .string x.f4] rfl 36
    rw [sz1] at hom
    have hom := hom.below (below_alloc (Below.refl ((w.alloc (.cells #[ptr p] 25)).alloc (.cells #[.int .u32 x.f0, .int .u8 x.f1, .int .u8 x.f2, .int .i64 x.f3, .string x.f4] 36)).heap.size ((w.alloc (.cells #[ptr p] 25)).alloc (.cells #[.int .u32 x.f0, .int .u8 x.f1, .int .u8 x.f2, .int .i64 x.f3, .string x.f4] 36))) (.cells #[.func (.func 39) #[] #[ptr (w.heap.size + 1)], .int .i64 2, .func (.func 40) #[] #[ptr w.heap.size, ptr (w.heap.size + 1)], .int .i64 200, .func (.func 42) #[] #[ptr w.heap.size], .int .i64 3] 69)) (by rw [sz2]; omega)
    have hbv : Below w.heap.size w (((w.alloc (.cells #[ptr p] 25)).alloc (.cells #[.int .u32 x.f0, .int .u8 x.f1, .int .u8 x.f2, .int .i64 x.f3, .string x.f4] 36)).alloc (.cells #[.func (.func 39) #[] #[ptr (w.heap.size + 1)], .int .i64 2, .func (.func 40) #[] #[ptr w.heap.size, ptr (w.heap.size + 1)], .int .i64 200, .func (.func 42) #[] #[ptr w.heap.size], .int .i64 3] 69)) := below_alloc (below_alloc (below_alloc (Below.refl _ _) _) _) _
    have hgk0 := pw_cell_below (below_alloc (below_alloc (Below.refl (w.alloc (.cells #[ptr p] 25)).heap.size (w.alloc (.cells #[ptr p] 25))) (.cells #[.int .u32 x.f0, .int .u8 x.f1, .int .u8 x.f2, .int .i64 x.f3, .string x.f4] 36)) (.cells #[.func (.func 39) #[] #[ptr (w.heap.size + 1)], .int .i64 2, .func (.func 40) #[] #[ptr w.heap.size, ptr (w.heap.size + 1)], .int .i64 200, .func (.func 42) #[] #[ptr w.heap.size], .int .i64 3] 69)) (Ob.new w [ptr p] #[ptr p] rfl 25 0 _ rfl).1
    obtain ⟨V, hV⟩ : ∃ V, (((w.alloc (.cells #[ptr p] 25)).alloc (.cells #[.int .u32 x.f0, .int .u8 x.f1, .int .u8 x.f2, .int .i64 x.f3, .string x.f4] 36)).alloc (.cells #[.func (.func 39) #[] #[ptr (w.heap.size + 1)], .int .i64 2, .func (.func 40) #[] #[ptr w.heap.size, ptr (w.heap.size + 1)], .int .i64 200, .func (.func 42) #[] #[ptr w.heap.size], .int .i64 3] 69)) = V := ⟨_, rfl⟩
    rw [hV] at hom hbv hgk0 ⊢
    have HOM := Aside0.mk hom
    have HGK := Aside0.mk hgk0
    have HBV := Aside0.mk hbv
    clear hV hom hbv sz1 sz2 hgk0
    go_loopg [18] 4 (fun gk s18 W => ∃ k : Nat, k ≤ 3 ∧ 3 - k ≤ gk ∧ s18 = .int .i64 k ∧ Aside0 (Below V.heap.size V W))
    case atStart => exact ⟨0, by omega, by omega, rfl, ⟨Below.refl _ _⟩⟩
    case round =>
      obtain ⟨k, hk3, hgk, rfl, HBW⟩ := hrel
      have hi0 := idx0
      have hi1 := idx1
      have hi2 := idx2
      have HOW := Aside0.mk (HOM.out.below HBW.out HOM.out.lt)
      by_cases e0 : k = 0
      · subst e0
        go_wp2_with fail
        refine (HG.out _ (HOW.out.below (below_alloc (Below.refl _ _) _) HOW.out.lt)).mono ?_
        rintro e' w' ⟨rfl, rfl⟩
        have HB2 := Aside0.mk (below_alloc HBW.out (.cells #[.func (.func 39) #[] #[ptr (w.heap.size + 1)], .int .i64 2] 68))
        go_wp2_with fail
        go_roundg (gk - 1)
        case measure => omega
        case rel => exact ⟨1, by omega, by omega, rfl, HB2⟩
      by_cases e1 : k = 1
      · subst e1
        go_wp2_with fail
        have hb1 := below_alloc HBW.out (.cells #[.func (.func 40) #[] #[ptr w.heap.size, ptr (w.heap.size + 1)], .int .i64 200] 68)
        refine (HT.out _ (HBV.out.trans (hb1.mono HBV.out.size)) (pw_cell_below (HBW.out.trans ((below_alloc (Below.refl _ _) _).mono HBW.out.size)) HGK.out) (HOW.out.below (below_alloc (Below.refl _ _) _) HOW.out.lt)).mono ?_
        rintro e' w2 ⟨rfl, hb2⟩
        have HB2 := Aside0.mk (hb1.trans (hb2.mono hb1.size))
        clear hb1 hb2
        go_wp2_with fail
        go_roundg (gk - 1)
        case measure => omega
        case rel => exact ⟨2, by omega, by omega, rfl, HB2⟩
      by_cases e2 : k = 2
      · subst e2
        go_wp2_with fail
        have hb1 := below_alloc HBW.out (.cells #[.func (.func 42) #[] #[ptr w.heap.size], .int .i64 3] 68)
        refine (HFU.out _ (HBV.out.trans (hb1.mono HBV.out.size)) (pw_cell_below (HBW.out.trans ((below_alloc (Below.refl _ _) _).mono HBW.out.size)) HGK.out)).mono ?_
        rintro e' w' ⟨rfl, rfl⟩
        have HB2 := Aside0.mk hb1
        clear hb1
        go_wp2_with fail
        go_roundg (gk - 1)
        case measure => omega
        case rel => exact ⟨3, by omega, by omega, rfl, HB2⟩
      obtain rfl : k = 3 := by omega
      have HBw := Aside0.mk (HBV.out.trans (HBW.out.mono HBV.out.size))
      have hkw := HK.out.below HBw.out
      have HKW := Aside0.mk hkw
      have g0 := pw_cell_below HBW.out HGK.out
      have hc0 := hkw.c0
      have m0 := (HOW.out 0 _ rfl).1
      have m1 := (HOW.out 1 _ rfl).1
      have m2 := (HOW.out 2 _ rfl).1
      have m3 := (HOW.out 3 _ rfl).1
      have m4 := (HOW.out 4 _ rfl).1
      have HF : Aside0 (∀ U, Below wr.heap.size wr U → U.cell? ⟨w.heap.size, 0, none⟩ = some (ptr p) ∧ U.cell? ⟨p, 0, none⟩ = some (.slice A l.length c) ∧ U.cell? ⟨w.heap.size + 1, 0, none⟩ = some (.int .u32 x.f0) ∧ U.cell? ⟨w.heap.size + 1, 1, none⟩ = some (.int .u8 x.f1) ∧ U.cell? ⟨w.heap.size + 1, 2, none⟩ = some (.int .u8 x.f2) ∧ U.cell? ⟨w.heap.size + 1, 3, none⟩ = some (.int .i64 x.f3) ∧ U.cell? ⟨w.heap.size + 1, 4, none⟩ = some (.string x.f4)) := ⟨fun U hU => ⟨pw_cell_below hU g0, pw_cell_below hU hc0, pw_cell_below hU m0, pw_cell_below hU m1, pw_cell_below hU m2, pw_cell_below hU m3, pw_cell_below hU m4⟩⟩
      clear hkw g0 hc0 m0 m1 m2 m3 m4 hi0 hi1 hi2
      go_wp2_with fail
      refine region [(0, .t), (1, .t), (2, .p), (3, .p), (4, .t), (5, .t), (6, .o), (7, .o), (8, .p), (9, .p), (10, .e)] (fun U => U.cell? ⟨w.heap.size, 0, none⟩ = some (ptr p) ∧ U.cell? ⟨p, 0, none⟩ = some (.slice A l.length c) ∧ U.cell? ⟨w.heap.size + 1, 0, none⟩ = some (.int .u32 x.f0) ∧ U.cell? ⟨w.heap.size + 1, 1, none⟩ = some (.int .u8 x.f1) ∧ U.cell? ⟨w.heap.size + 1, 2, none⟩ = some (.int .u8 x.f2) ∧ U.cell? ⟨w.heap.size + 1, 3, none⟩ = some (.int .i64 x.f3) ∧ U.cell? ⟨w.heap.size + 1, 4, none⟩ = some (.string x.f4)) (by kernel_rfl) (by kernel_rfl) (fun _ _ _ _ _ h => h) (HF.out _ (below_drew (Below.refl _ _))) (fun hHeld => ?_)
      iterate 2 (refine lex_t rfl rfl rfl (by rintro w' ⟨s0, s1, s2, s3, s4, s5, s6⟩; go_simp; with_reducible rfl) (by simp only [Act.put, List.setIfInBounds_toArray, List.set_cons_zero, List.set_cons_succ, i64_w, i32_w]; rfl) ?_)
      iterate 2 (refine lex_p rfl rfl rfl (by intro w'; go_simp; with_reducible rfl) (by simp only [Act.put, List.setIfInBounds_toArray, List.set_cons_zero, List.set_cons_succ, i64_w, i32_w]; rfl) ?_)
      iterate 2 (refine lex_t rfl rfl rfl (by rintro w' ⟨s0, s1, s2, s3, s4, s5, s6⟩; go_simp; with_reducible rfl) (by simp only [Act.put, List.setIfInBounds_toArray, List.set_cons_zero, List.set_cons_succ, i64_w, i32_w]; rfl) ?_)
      refine lex_o rfl ?_
      go_wp2_with fail
      refine lex_end (by first | (simp only [Act.put, List.setIfInBounds_toArray, List.set_cons_zero, List.set_cons_succ, i64_w, i32_w]; rfl) | rfl) (HF.out _ (below_alloc (below_drew (Below.refl _ _)) _)) (fun hHeld => ?_)
      refine lex_o rfl ?_
      rw [show (wr.alloc (.cells #[.int .u32 x.f0, .int .u8 x.f1, .int .u8 x.f2, .int .i64 x.f3, .string x.f4] 36)).drew = wr.drew.alloc (.cells #[.int .u32 x.f0, .int .u8 x.f1, .int .u8 x.f2, .int .i64 x.f3, .string x.f4] 36) from rfl]
      refine ap_key (W := wr.drew) (fun k => (S k ∨ w.heap.size ≤ k) ∧ k ≠ p ∧ k ≠ m) _ _ rfl rfl (Kd.R_mono (HKW.out.below (below_drew (Below.refl _ _))).own (fun k hk => ⟨.inl hk.1, hk.2⟩)) rfl rfl (fun k hk => ⟨.inr (Nat.le_trans HBw.out.size hk), by have := HKW.out.ob.lt; have : wr.heap.size ≤ k := hk; omega, by have := HKW.out.map.lt; have : wr.heap.size ≤ k := hk; omega⟩) (by omega) ?_
      intro v1 w1 ho1 hg1
      obtain ⟨A5, c5, rfl, hc5, hC5⟩ := Kd.R_reads ho1
      have hF0 := HF.out wr (Below.refl _ _)
      have e0 := World.block_lt_of_cell? wr _ hF0.1
      have e1 := World.block_lt_of_cell? wr _ hF0.2.1
      have e2 := World.block_lt_of_cell? wr _ hF0.2.2.1
      have hkeep : ∀ q, q < wr.heap.size → (¬ S q ∨ q = p ∨ q = m) → w1.heap[q]? = wr.heap[q]? := fun q hq hn => hg1.block q hq (fun e => by
        obtain ⟨h1, h2, h3⟩ := HK.out.own.1 q e.symm
        rcases hn with h | h | h
        · exact h h1
        · exact h2 h
        · exact h3 h)
      have hn0 : ¬ S w.heap.size := fun h => by have := HS.out _ h; omega
      have hn1 : ¬ S (w.heap.size + 1) := fun h => by have := HS.out _ h; omega
      have k0 := hkeep w.heap.size e0 (.inl hn0)
      have k1 := hkeep p e1 (.inr (.inl rfl))
      have k2 := hkeep (w.heap.size + 1) e2 (.inl hn1)
      have hS7 : w1.cell? ⟨w.heap.size, 0, none⟩ = some (ptr p) ∧ w1.cell? ⟨p, 0, none⟩ = some (.slice A l.length c) ∧ w1.cell? ⟨w.heap.size + 1, 0, none⟩ = some (.int .u32 x.f0) ∧ w1.cell? ⟨w.heap.size + 1, 1, none⟩ = some (.int .u8 x.f1) ∧ w1.cell? ⟨w.heap.size + 1, 2, none⟩ = some (.int .u8 x.f2) ∧ w1.cell? ⟨w.heap.size + 1, 3, none⟩ = some (.int .i64 x.f3) ∧ w1.cell? ⟨w.heap.size + 1, 4, none⟩ = some (.string x.f4) := ⟨(World.cell?_of_block k0).trans hF0.1, (World.cell?_of_block k1).trans hF0.2.1, (World.cell?_of_block k2).trans hF0.2.2.1, (World.cell?_of_block k2).trans hF0.2.2.2.1, (World.cell?_of_block k2).trans hF0.2.2.2.2.1, (World.cell?_of_block k2).trans hF0.2.2.2.2.2.1, (World.cell?_of_block k2).trans hF0.2.2.2.2.2.2⟩
      have hpo := HKW.out.ob.same k1
      have HPO := Aside0.mk hpo
      have HKEEP := Aside0.mk hkeep
      have HO1 := Aside0.mk ho1
      have HG1 := Aside0.mk hg1
      have E1 := Aside0.mk e1
      clear hkeep k0 k1 k2 hF0 e0 e1 e2 hn0 hn1 hpo ho1 hg1 hC5
      refine lex_end (by first | (simp only [Act.put, List.setIfInBounds_toArray, List.set_cons_zero, List.set_cons_succ, i64_w, i32_w]; rfl) | rfl) (hS7) (fun hHeld => ?_)
      iterate 2 (refine lex_p rfl rfl rfl (by intro w'; go_simp; with_reducible rfl) (by simp only [Act.put, List.setIfInBounds_toArray, List.set_cons_zero, List.set_cons_succ, i64_w, i32_w]; rfl) ?_)
      refine lex_e rfl ?_
      obtain ⟨hc1, hf1⟩ := HPO.out 0 _ rfl
      go_wp2_with fail
      refine putQ_normal ?_
      go_wp2_with fail
      dsimp only [Exit.jump]
      go_ret
      have hm1 := HKW.out.map.lt
      have hne := HK.out.ne
      have hlen : (l ++ [x]).length = l.length + 1 := by simp
      have hSp := HK.out.inS
      have hb8 : But w.heap.size S w w1 := (But.of (HBw.out.trans ((below_drew (Below.refl wr.heap.size wr)).mono HBw.out.size)) (Nat.le_refl _)).trans ⟨HG1.out.os, HG1.out.tape, HG1.out.output, HG1.out.size, fun k hk hs => HG1.out.block k (Nat.lt_of_lt_of_le hk HBw.out.size) (fun e => hs (HK.out.own.1 k e.symm).1)⟩
      have hsz : (w1.setCell ⟨p, 0, none⟩ (.slice A5 (l.length + 1) c5)).heap.size = w1.heap.size := by simp [World.setCell]
      refine ⟨rfl, ⟨A5, c5, ⟨by rw [hlen]; exact HPO.out.set 0 (by simp) _, ?_, (HKW.out.map.same (HKEEP.out m hm1 (.inr (.inr rfl)))).same (Below.heap_setCell _ _ _ _ (Ne.symm hne)), HK.out.ne, ⟨.inl hSp.1, .inl hSp.2⟩⟩⟩, hb8.setCell (p := ⟨p, 0, none⟩) (.inr hSp.1) _⟩
      refine Kd.R_mono (Kd.R_step (Kd.R_bound HO1.out) (fun k hk _ => Below.heap_setCell _ _ _ _ (fun e => hk.1.2.1 e))) (fun k hk => ?_)
      obtain ⟨⟨h1, h2⟩, _, h3, _⟩ := hk
      exact ⟨h1.imp id (fun h => ⟨h, by rw [hsz]; exact h3⟩), h2⟩
  · exact fun _ _ h => h.elim
end Go.Proofs.Ytndjhnipahkclaa.Ke
