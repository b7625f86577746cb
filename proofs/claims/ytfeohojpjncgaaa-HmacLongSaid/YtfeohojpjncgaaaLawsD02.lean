/- The law HmacLong. -/
import Derived.Test.YtfeohojpjncgaaaLawsB02
set_option linter.unusedSimpArgs false
set_option linter.unusedVariables false
namespace Go.Proofs.Ytfeohojpjncgaaa.Sha
open Go.RowKit Go.Proofs.YtfeohojpjncgaaaW.PrintWords Go.Proofs.YtfeohojpjncgaaaW.PrintLast Go.Proofs.YtfeohojpjncgaaaW.PrintMore Go.Proofs.Ytfeohojpjncgaaa.PSha1Plays Go.Proofs.Ytfeohojpjncgaaa.Lex Go.Proofs.Ytfeohojpjncgaaa.Lib
/-- a load of a whole array, guarded, where the guard holds -/
theorem pl_loadG {P : Program} {ops : Array Oper} {rest : List Oper} {a : Act} {Q : Exit → Act → World → Prop} {w : World} {o : Oper} (hg : Region.wanted o (yielded ops a.tmps) = true) (T : TypeId) (x : Operand) (ho : o.op = .load T x) (ad : Addr) (v : Value) (hrun : (loadVar T ad).run P w = .ok v w) (hx : a.eval x = .pointer (some ad)) (h : wpList P ops Q rest (a.put o.dst v) w) : wpList P ops Q (o :: rest) a w := by
  unfold wpList
  rw [if_pos hg]
  refine .inl ?_
  unfold Oper.wp execOp
  simp only [ho, hx, Instr.loadAt, Instr.sureAddr, Sem.run_bind, Sem.run_pure, Result.andThen_ok, hrun]
  exact h
theorem make_bytesN (n : Nat) (hn : n ≤ 100000000) (w : World) : (Instr.makeSlice 22 (.int .i64 (n : Int)) (.int .i64 (n : Int))).run Try.prog w = .ok (.slice (some ⟨w.heap.size, 0, none⟩) n n) (w.alloc (.cells (zc n).toArray 5)) := by
  have h := run_make_row' (P := Try.prog) 22 5 (.int .u8 0) 1 Try.underlying22 info5 rfl .i64 .i64 n (by omega) (by omega) w
  have e : madeCells #[Value.int .u8 0] n = (zc n).toArray := by
    apply Array.ext_getElem?
    intro i
    simp only [madeCells, zc, Array.getElem?_map, List.getElem?_toArray, List.getElem?_replicate, Array.getElem?_range]
    by_cases h : i < n
    · simp [h, Nat.mod_one]
    · simp [h]
  rw [h, e]
theorem block_sum (key : List Int) (h : 64 < key.length) : blockOf (sumOf key) = blockOf key := by
  unfold blockOf
  rw [if_pos h, if_neg (by rw [sumOf_len]; decide)]
theorem tag_sum (key m : List Int) (h : 64 < key.length) : tagOf (sumOf key) m = tagOf key m := by
  unfold tagOf
  rw [block_sum key h]
/-- a row of noughts, by a name -/
theorem long_ex : ∃ K : List Int, K.length = 1048576 ∧ Byt K ∧ ∀ w, ∃ w' : World, (Instr.makeSlice 22 (.int .i64 1048577) (.int .i64 1048577)).run Try.prog w = .ok (.slice (some ⟨w.heap.size, 0, none⟩) 1048577 1048577) w' ∧ Below w.heap.size w w' ∧ Kd.C KB w' (some ⟨w.heap.size, 0, none⟩) 1048576 K := by
  refine ⟨(zs 1048577).take 1048576, by rw [List.length_take, zs_len]; rfl, fun x hx => ?_, fun w => ⟨_, make_bytesN 1048577 (by omega) w, below_alloc (Below.refl _ _) _, ?_⟩⟩
  · have := List.mem_of_mem_take hx
    rw [zs] at this
    rw [(List.mem_replicate.1 this).2]
    omega
  · refine C_take (n := 1048577) ?_ 1048576 (by omega)
    have h := (OB.lit (b := w.heap.size) w (zs 1048577) (zc 1048577) (zs_nums _) 1048577 (by rw [zs_len]) (Nat.le_refl _) (by rw [zs_len]; omega)).readsAt
    exact h
set_option maxRecDepth 100000 in
set_option maxHeartbeats 4000000 in
theorem hmacLong (w : World) : Calls Try.prog 7 #[] w fun e w' => e = .returned (.bool true) ∧ Below w.heap.size w w' := by
  obtain ⟨K, hKL, hKB, hmk⟩ := long_ex
  obtain ⟨w1, hmk, hb1, hC1⟩ := hmk w
  obtain ⟨z2, hz2, HZ2, hz⟩ := z20_ex
  obtain ⟨z1, hz1, HZ1, hzz⟩ := z12_ex
  obtain ⟨z6, hz6, HZ6, hzzz⟩ := z64_ex
  obtain ⟨bd, HBD, HSUM, -⟩ := sum_ex K hKB (by omega)
  obtain ⟨b2, hb2⟩ : ∃ b, ((tagOf K (flat [])).map (Value.int .u8)).toArray = b := ⟨_, rfl⟩
  have HB2 := Aside0.mk hb2.symm
  have HT := Aside0.mk (fun (W : World) A c (h1 : Kd.C KB W A 1048576 K) (h2 : 1048576 ≤ c) => tagC A 1048576 c K none 0 0 0 [] W (by rw [hKL]; exact h1) hKL.symm h2 hKB (by omega) (C_nilB W) rfl (fun z hz => by cases hz) (by decide) (by decide) (by decide))
  have HT2 := Aside0.mk (fun (W : World) A (h1 : Kd.C KB W A 20 (sumOf K)) => tagC A 20 20 (sumOf K) none 0 0 0 [] W (by rw [sumOf_len]; exact h1) (sumOf_len K).symm (Nat.le_refl _) (sumOf_byt K) (by rw [sumOf_len]; decide) (C_nilB W) rfl (fun z hz => by cases hz) (by decide) (by decide) (by decide))
  rw [tag_sum K _ (by omega)] at HT2
  rw [hb2] at HT HT2
  have HTL := Aside0.mk (tagOf_len K (flat []))
  have hbz2 : b2.size = 20 := by rw [← hb2]; simpa using HTL.out
  have hbzd : bd.size = 20 := by rw [HBD.out]; simpa using sumOf_len K
  have heq2 := fun W => eql20 HTL.out HB2.out W
  have HBad := Aside0.mk (fun A W => tagBad A 1048577 1048577 none 0 0 W (by omega) (by omega))
  have HSBad := Aside0.mk (fun A W => shortBad A 1048577 1048577 none 0 0 W (by omega) (by omega))
  have HBBad := Aside0.mk (fun A W => blockBad A 1048577 1048577 W (by omega) (by omega))
  have HNBad := Aside0.mk (fun A W => mNewBad A 1048577 1048577 W (by omega) (by omega))
  rw [← HZ2.out] at HBad
  rw [← HZ1.out] at HSBad
  rw [← HZ6.out] at HBBad
  have hst2 := fun W => new20 HTL.out HB2.out hz2 W
  have hstd := fun W => new20 (sumOf_len K) HBD.out hz2 W
  have hstz := fun W => new20 (ys := List.replicate 20 0) (by simp) HZ2.out hz2 W
  have hsts := fun W => new12 (ys := List.replicate 12 0) (by simp) HZ1.out hz1 W
  have hstb := fun W => new64 (ys := List.replicate 64 0) (by simp) HZ6.out hz6 W
  have HST2 := Aside0.mk hst2
  have HSTD := Aside0.mk hstd
  have HSTZ := Aside0.mk hstz
  have HSTS := Aside0.mk hsts
  have HSTB := Aside0.mk hstb
  have HB1 := Aside0.mk hb1
  have HC1 := Aside0.mk hC1
  have HSL := Aside0.mk (show Kd.C KB w1 (some ⟨w.heap.size, 0, none⟩) K.length K by rw [hKL]; exact hC1)
  clear hst2 hstd hstz hsts hstb hb1 hC1 hb2 hKB
  go_enter Try.func7, Try.ntmps7
  go_wp2_with fail
  refine (HT.out w1 _ _ HC1.out (by decide)).mono ?_
  rintro e v2 ⟨rfl, hb2⟩
  have bel2 := hb2.trans ((below_alloc (Below.refl v2.heap.size v2) (.cells b2 41)).mono hb2.size)
  have hA2 := Arr.new (k := .u8) v2 41 (tagOf K (flat [])) b2 HB2.out
  obtain ⟨V2, hV2⟩ : ∃ V, v2.alloc (.cells b2 41) = V := ⟨_, rfl⟩
  rw [hV2] at bel2 hA2
  have HV2 := Aside0.mk hV2
  have E2 := Aside0.mk bel2
  have HA2 := Aside0.mk hA2
  clear hA2
  clear hb2 bel2 hV2
  go_wp2_with (refine pl_store rfl 41 _ _ rfl _ _ (HST2.out _) rfl rfl ?_; rw [HV2.out])
  refine (HBad.out _ V2).mono ?_
  rintro e v3 ⟨rfl, hb3⟩
  have bel3 := hb3.trans ((below_alloc (Below.refl v3.heap.size v3) (.cells z2 41)).mono hb3.size)
  obtain ⟨V3, hV3⟩ : ∃ V, v3.alloc (.cells z2 41) = V := ⟨_, rfl⟩
  rw [hV3] at bel3
  have HV3 := Aside0.mk hV3
  have E3 := Aside0.mk bel3
  clear hb3 bel3 hV3
  go_wp2_with (refine pl_store rfl 41 _ _ rfl _ _ (HSTZ.out _) rfl rfl ?_; rw [HV3.out])
  refine (HSBad.out _ V3).mono ?_
  rintro e v4 ⟨rfl, hb4⟩
  have bel4 := hb4.trans ((below_alloc (Below.refl v4.heap.size v4) (.cells z1 48)).mono hb4.size)
  obtain ⟨V4, hV4⟩ : ∃ V, v4.alloc (.cells z1 48) = V := ⟨_, rfl⟩
  rw [hV4] at bel4
  have HV4 := Aside0.mk hV4
  have E4 := Aside0.mk bel4
  clear hb4 bel4 hV4
  go_wp2_with (refine pl_store rfl 48 _ _ rfl _ _ (HSTS.out _) rfl rfl ?_; rw [HV4.out])
  refine (HBBad.out _ V4).mono ?_
  rintro e v5 ⟨rfl, hb5⟩
  have bel5 := hb5.trans ((below_alloc (Below.refl v5.heap.size v5) (.cells z6 25)).mono hb5.size)
  obtain ⟨V5, hV5⟩ : ∃ V, v5.alloc (.cells z6 25) = V := ⟨_, rfl⟩
  rw [hV5] at bel5
  have HV5 := Aside0.mk hV5
  have E5 := Aside0.mk bel5
  clear hb5 bel5 hV5
  go_wp2_with (refine pl_store rfl 25 _ _ rfl _ _ (HSTB.out _) rfl rfl ?_; rw [HV5.out])
  refine (HNBad.out _ V5).mono ?_
  rintro e v6 ⟨rfl, hb6⟩
  have F6 := Aside0.mk ((((E2.out.trans (E3.out.mono E2.out.size)).trans (E4.out.mono (Nat.le_trans E2.out.size E3.out.size))).trans (E5.out.mono (Nat.le_trans (Nat.le_trans E2.out.size E3.out.size) E4.out.size))).trans (hb6.mono (Nat.le_trans (Nat.le_trans (Nat.le_trans E2.out.size E3.out.size) E4.out.size) E5.out.size)))
  have G6 := Aside0.mk (((E3.out.trans (E4.out.mono E3.out.size)).trans (E5.out.mono (Nat.le_trans E3.out.size E4.out.size))).trans (hb6.mono (Nat.le_trans (Nat.le_trans E3.out.size E4.out.size) E5.out.size)))
  have HA6 := Aside0.mk (HA2.out.later G6.out)
  have HSL6 := Aside0.mk (Kd.C_below HSL.out F6.out)
  clear hb6 G6 HA2
  have hkc : K.length ≤ 1048577 := by rw [hKL]; decide
  have HSU := Aside0.mk (fun W h => HSUM.out (some ⟨w.heap.size, 0, none⟩) 1048577 W h hkc)
  rw [hKL] at HSU
  go_wp2_with fail
  refine (HSU.out v6 (by have h := HSL6.out; rw [hKL] at h; exact h)).mono ?_
  rintro e v7 ⟨rfl, hb7⟩
  have bel7 := hb7.trans ((below_alloc (Below.refl v7.heap.size v7) (.cells bd 41)).mono hb7.size)
  have hA7 := Arr.new (k := .u8) v7 41 (sumOf K) bd HBD.out
  obtain ⟨V7, hV7⟩ : ∃ V, v7.alloc (.cells bd 41) = V := ⟨_, rfl⟩
  rw [hV7] at bel7 hA7
  have HV7 := Aside0.mk hV7
  have E7 := Aside0.mk bel7
  have HA7 := Aside0.mk hA7
  clear hA7
  clear hb7 bel7 hV7
  go_wp2_with (refine pl_store rfl 41 _ _ rfl _ _ (HSTD.out _) rfl rfl ?_; rw [HV7.out])
  refine (HT2.out V7 _ (row20 HA7.out (sumOf_len K))).mono ?_
  rintro e v8 ⟨rfl, hb8⟩
  have bel8 := hb8.trans ((below_alloc (Below.refl v8.heap.size v8) (.cells b2 41)).mono hb8.size)
  have hA8 := Arr.new (k := .u8) v8 41 (tagOf K (flat [])) b2 HB2.out
  obtain ⟨V8, hV8⟩ : ∃ V, v8.alloc (.cells b2 41) = V := ⟨_, rfl⟩
  rw [hV8] at bel8 hA8
  have HV8 := Aside0.mk hV8
  have E8 := Aside0.mk bel8
  have HA8 := Aside0.mk hA8
  clear hA8
  clear hb8 bel8 hV8
  go_wp2_with (refine pl_store rfl 41 _ _ rfl _ _ (HST2.out _) rfl rfl ?_; rw [HV8.out])
  have h7 := E7.out.trans (E8.out.mono E7.out.size)
  have D8 := Aside0.mk (HB1.out.trans ((F6.out.trans (h7.mono F6.out.size)).mono HB1.out.size))
  have HFF : Aside0 (∀ W, Below V8.heap.size V8 W → (loadVar 41 ⟨v2.heap.size, 0, none⟩).run Try.prog W = .ok (.agg b2) W ∧ (loadVar 41 ⟨v8.heap.size, 0, none⟩).run Try.prog W = .ok (.agg b2) W) := ⟨fun W hW => ⟨load20 ((HA6.out.later h7).later hW) HTL.out HB2.out, load20 (HA8.out.later hW) HTL.out HB2.out⟩⟩
  clear h7
  have wr0 : wrap64 0 = 0 := by unfold wrap64; omega
  go_wp2_with fail
  refine (num _ _).mono ?_
  rintro e w' ⟨rfl, rfl⟩
  go_wp2_with fail
  refine (num _ _).mono ?_
  rintro e w' ⟨rfl, rfl⟩
  go_wp2_with (first | (refine pl_loadG rfl 41 _ rfl _ _ (HFF.out _ (Below.refl _ _)).1 rfl ?_) | (refine pl_loadG rfl 41 _ rfl _ _ (HFF.out _ (Below.refl _ _)).2 rfl ?_))
  refine (num _ _).mono ?_
  rintro e w' ⟨rfl, rfl⟩
  go_wp2_with fail
  refine (num _ _).mono ?_
  rintro e w' ⟨rfl, rfl⟩
  go_wp2_with fail
  refine (num _ _).mono ?_
  rintro e w' ⟨rfl, rfl⟩
  go_wp2_with fail
  refine (num _ _).mono ?_
  rintro e w' ⟨rfl, rfl⟩
  go_wp2_with fail
  refine (works _).mono ?_
  rintro e w9 ⟨rfl, hb9⟩
  go_wp2_with fail
  go_ret
  exact ⟨rfl, D8.out.trans (hb9.mono D8.out.size)⟩
end Go.Proofs.Ytfeohojpjncgaaa.Sha
