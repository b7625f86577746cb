/- The reference's Sum. -/
import Derived.Test.YtfeohojpjncgaaaOf01
set_option linter.unusedSimpArgs false
set_option linter.unusedVariables false
namespace Go.Proofs.Ytfeohojpjncgaaa.Sha
open Go.RowKit Go.Proofs.YtfeohojpjncgaaaW.PrintWords Go.Proofs.YtfeohojpjncgaaaW.PrintLast Go.Proofs.YtfeohojpjncgaaaW.PrintMore Go.Proofs.Ytfeohojpjncgaaa.PSha1Plays Go.Proofs.Ytfeohojpjncgaaa.Lex Go.Proofs.Ytfeohojpjncgaaa.Lib
theorem rtailC (n : Nat) (w : World) (hn : n ≤ 1152921504606846976) : Calls Try.prog 33 #[.int .i64 n] w fun e w' => ∃ v, e = .returned v ∧ OB w.heap.size w' v (tail n) ∧ Below w.heap.size w w' := pursuivantref01_Tail.calls _ _ _ w (rtail n hn)
theorem stOf_take (Z : List Int) (k : Nat) (hb : Byt Z) (hk : k < Z.length / 64) : foldB first ((bls Z).take (k + 1)) = block (foldB first ((bls Z).take k)) (blk Z k) := by
  rw [bls_take Z k hk, foldB_snoc, mkBlk_val (blk_ok hb k hk)]
set_option maxRecDepth 100000 in
set_option maxHeartbeats 2000000 in
theorem rsumC (A : Option Addr) (c : Nat) (xs : List Int) (w : World) (hx : Kd.C KB w A xs.length xs) (hc : xs.length ≤ c) (hb : Byt xs) (hl : xs.length ≤ 3000000) : Calls Try.prog 23 #[.slice A xs.length c] w fun e w' => e = .returned (.agg ((sumOf xs).map (Value.int .u8)).toArray) ∧ Below w.heap.size w w' := by
  obtain ⟨zs, HZS, hz⟩ : ∃ zs, Aside0 (zs = (List.replicate 20 (Value.int .u8 0)).toArray) ∧ ∀ w, (zeroValue 41).run Try.prog w = .ok (.agg zs) w := ⟨_, ⟨rfl⟩, zero20⟩
  obtain ⟨bx, hbx⟩ : ∃ bx, ((sumOf xs).map (Value.int .u8)).toArray = bx := ⟨_, rfl⟩
  rw [hbx]
  have HBX := Aside0.mk hbx
  have HX := Aside0.mk hx
  have HBy := Aside0.mk hb
  clear hx hbx hb
  go_enter Try.func23, Try.ntmps23
  go_wp2_with ((with_reducible refine gate_builtin (b := .append) (xs := #[.tmp 8, .tmp 9]) rfl ?_); refine ap_row (w.heap.size + 1) _ _ rfl rfl (OB.litAt (w.alloc (.cells zs 41)) (w.heap.size + 1) (by simp) [] [] rfl 0 rfl (Nat.le_refl _) (by simp)) (Kd.C_below HX.out (below_alloc (below_alloc (Below.refl _ _) _) _)) rfl rfl (by simp) (by simp; omega) ?_; intro v2 w2 ho hb; have HO : Aside0 (OB (w.heap.size + 1) w2 v2 xs) := ⟨ho⟩; have B2 := Aside0.mk ((below_alloc (below_alloc (Below.refl w.heap.size w) (.cells zs 41)) _).trans (hb.mono (by omega))); have AR2 := Aside0.mk ((Arr.new w 41 (List.replicate 20 0) zs (k := .u8) (by rw [HZS.out]; simp)).below (((Below.refl (w.heap.size + 1) (w.alloc (.cells zs 41))).alloc (by simp) _).trans hb) (by omega)); clear ho hb)
  refine (rtailC xs.length w2 (by omega)).mono ?_
  rintro e w3 ⟨v3, rfl, ho, hb3⟩
  have s2 := B2.out.size
  have hw2 := AR2.out.lt
  have HO3 := Aside0.mk (HO.out.below hb3)
  have AR3 := Aside0.mk (AR2.out.later hb3)
  have B3 := Aside0.mk (B2.out.trans (hb3.mono s2))
  obtain ⟨At, ct, rfl, hct, hCt⟩ := ho.reads
  have HCt := Aside0.mk hCt
  have htl := tail_le xs.length
  have s3 := hb3.size
  clear ho hb3 hCt HO AR2 B2
  go_wp2_with ((with_reducible refine gate_builtin (b := .append) (xs := #[.tmp 10, .tmp 13]) rfl ?_); refine ap_row (w.heap.size + 1) _ _ rfl rfl HO3.out HCt.out rfl rfl (by omega) (by omega) ?_; intro v4 w4 ho hb4; have HO4 : Aside0 (OB (w.heap.size + 1) w4 v4 (xs ++ tail xs.length)) := ⟨ho⟩; have B4 := Aside0.mk (B3.out.trans (hb4.mono (by omega))); have AR4 := Aside0.mk (AR3.out.below hb4 (by omega)); clear ho hb4)
  have hall : (xs ++ tail xs.length).length % 64 = 0 := by rw [List.length_append]; exact tail_all _
  have hbz : Byt (xs ++ tail xs.length) := HBy.out.append (tail_byt _)
  have hzl : (xs ++ tail xs.length).length ≤ 3000100 := by rw [List.length_append]; omega
  have hso : sumOf xs = bytes20 (foldB first (bls (xs ++ tail xs.length))) := rfl
  obtain ⟨Z, hZ⟩ : ∃ Z, xs ++ tail xs.length = Z := ⟨_, rfl⟩
  rw [hZ] at HO4 hall hbz hzl hso
  obtain ⟨A4, c4, rfl, hc4, hC4⟩ := HO4.out.reads
  have HC4 := Aside0.mk hC4
  have HBZ := Aside0.mk hbz
  have HSO := Aside0.mk hso
  have HAL := Aside0.mk hall
  clear HO3 AR3 B3 HCt hct htl hbz hso hall hZ hC4 HO4 HX HBy hc s2 hw2 s3
  refine (rFirst w4).mono ?_
  rintro e w5 ⟨rfl, hb5⟩
  have HC5 := Aside0.mk (Kd.C_below HC4.out hb5)
  have AR5 := Aside0.mk (AR4.out.later hb5)
  have B5 := Aside0.mk (B4.out.trans (hb5.mono B4.out.size))
  clear hb5 HC4 AR4 B4
  go_wp2_with fail
  have AS : Aside0 (Arr .u32 w5.heap.size 73 (w5.alloc (.cells #[.int .u32 first.a, .int .u32 first.b, .int .u32 first.c, .int .u32 first.d, .int .u32 first.e] 73)) first.l) := ⟨Arr.new _ _ _ _ rfl⟩
  have BS : Aside0 (Below w5.heap.size w5 (w5.alloc (.cells #[.int .u32 first.a, .int .u32 first.b, .int .u32 first.c, .int .u32 first.d, .int .u32 first.e] 73))) := ⟨below_alloc (Below.refl _ _) _⟩
  go_loopg [5] (Z.length / 64) (fun gk s5 w' => ∃ k i : Nat, k ≤ Z.length / 64 ∧ Z.length / 64 - k ≤ gk ∧ i = 64 * k ∧ s5 = .int .i64 i ∧ Aside0 (Arr .u32 w5.heap.size 73 w' (foldB first ((bls Z).take k)).l) ∧ Aside0 (Below w5.heap.size w5 w'))
  case atStart => exact ⟨0, 0, by omega, by omega, rfl, rfl, ⟨by simpa [foldB] using AS.out⟩, BS⟩
  case round =>
    clear AS BS
    obtain ⟨k, i, hk, hgk, hik, rfl, AS, BS⟩ := hrel
    have hal := HAL.out
    by_cases hlt : k < Z.length / 64
    · have hst := stOf_take Z k HBZ.out hlt
      have hok := foldB_ok first first_ok ((bls Z).take k)
      obtain ⟨t, ht⟩ : ∃ t, foldB first ((bls Z).take k) = t := ⟨_, rfl⟩
      rw [ht] at AS hst hok
      obtain ⟨hbl, hbb⟩ := blk_ok HBZ.out k hlt
      have hiz : i + 64 ≤ Z.length := by omega
      obtain ⟨AD, hsl, hCD⟩ := mid_bytes HC5.out hc4 i (i + 64) (by omega) hiz
      rw [show i + 64 - i = 64 by omega] at hsl hCD
      have hbk : (Z.take (i + 64)).drop i = blk Z k := by unfold blk; rw [List.drop_take, hik, show 64 * k + 64 - 64 * k = 64 by omega]
      rw [hbk] at hCD
      have hii : ((i + 64 : Nat) : Int) = (i : Int) + 64 := by omega
      rw [hii] at hsl
      have hzi : (i : Int) < (Z.length : Int) := by omega
      have wr1 : IntKind.i64.wrap ((i : Int) + 64) = (i : Int) + 64 := by rw [IntKind.wrap_i64]; omega
      have wr2 : wrap64 ((i : Int) + 64) = (i : Int) + 64 := by unfold wrap64; omega
      have wr3 : (0 : Int) ≤ (i : Int) + 64 := by omega
      have wr4 : ((i : Int) + 64).toNat = i + 64 := by omega
      have HRB := Aside0.mk (fun (W : World) (hW : Below w5.heap.size w5 W) => rblock_ t hok (blk Z k) hbb hbl AD (c4 - i) W (Kd.C_below hCD hW))
      have p0 := (AS.out.cell 0 (by simp [St.l])).1
      have p1 := (AS.out.cell 1 (by simp [St.l])).1
      have p2 := (AS.out.cell 2 (by simp [St.l])).1
      have p3 := (AS.out.cell 3 (by simp [St.l])).1
      have p4 := (AS.out.cell 4 (by simp [St.l])).1
      have p0 : wr.cell? ⟨w5.heap.size, 0, none⟩ = some (.int .u32 t.a) := p0
      have p1 : wr.cell? ⟨w5.heap.size, 1, none⟩ = some (.int .u32 t.b) := p1
      have p2 : wr.cell? ⟨w5.heap.size, 2, none⟩ = some (.int .u32 t.c) := p2
      have p3 : wr.cell? ⟨w5.heap.size, 3, none⟩ = some (.int .u32 t.d) := p3
      have p4 : wr.cell? ⟨w5.heap.size, 4, none⟩ = some (.int .u32 t.e) := p4
      obtain ⟨u, hu⟩ : ∃ u, block t (blk Z k) = u := ⟨_, rfl⟩
      rw [hu] at hst HRB
      have HST := Aside0.mk hst
      have HI := Aside0.mk hik
      clear hst hbl hbb hCD hbk hu ht hik hal hii hok
      go_wp2_with fail
      refine region [(1, .p), (2, .p), (3, .p), (4, .p), (5, .p), (0, .t), (6, .o), (7, .e)] (fun V => V.cell? ⟨w5.heap.size, 0, none⟩ = some (.int .u32 t.a) ∧ V.cell? ⟨w5.heap.size, 1, none⟩ = some (.int .u32 t.b) ∧ V.cell? ⟨w5.heap.size, 2, none⟩ = some (.int .u32 t.c) ∧ V.cell? ⟨w5.heap.size, 3, none⟩ = some (.int .u32 t.d) ∧ V.cell? ⟨w5.heap.size, 4, none⟩ = some (.int .u32 t.e)) (by kernel_rfl) (by kernel_rfl) (fun _ _ _ _ _ h => h) (⟨p0, p1, p2, p3, p4⟩) (fun hHeld => ?_)
      iterate 5 (refine lex_p rfl rfl rfl (by intro w'; go_simp; with_reducible rfl) (by simp only [Act.put, List.setIfInBounds_toArray, List.set_cons_zero, List.set_cons_succ, i64_w, i32_w]; rfl) ?_)
      (refine lex_t rfl rfl rfl (by rintro w' ⟨s0, s1, s2, s3, s4⟩; go_simp; with_reducible rfl) (by simp only [Act.put, List.setIfInBounds_toArray, List.set_cons_zero, List.set_cons_succ, i64_w, i32_w]; rfl) ?_)
      refine lex_o rfl ?_
      go_wp2_with fail
      refine (HRB.out _ (below_drew BS.out)).mono ?_
      rintro e V ⟨rfl, hd⟩
      have HD := Aside0.mk (show Below wr.heap.size wr V from (below_drew (Below.refl _ _)).trans hd)
      have AS2 := Aside0.mk (AS.out.later HD.out)
      have BS2 := Aside0.mk (BS.out.trans (HD.out.mono BS.out.size))
      clear hd AS BS
      go_wp2_with fail
      refine lex_end (by first | (simp only [Act.put, List.setIfInBounds_toArray, List.set_cons_zero, List.set_cons_succ, i64_w, i32_w]; rfl) | rfl) (⟨pw_cell_below HD.out p0, pw_cell_below HD.out p1, pw_cell_below HD.out p2, pw_cell_below HD.out p3, pw_cell_below HD.out p4⟩) (fun hHeld => ?_)
      refine lex_e rfl ?_
      have q0 := AS2.out.cell 0 (by simp [St.l])
      have q1 := AS2.out.cell 1 (by simp [St.l])
      have q2 := AS2.out.cell 2 (by simp [St.l])
      have q3 := AS2.out.cell 3 (by simp [St.l])
      have q4 := AS2.out.cell 4 (by simp [St.l])
      obtain ⟨q0, f0⟩ : V.cell? ⟨w5.heap.size, 0, none⟩ = some (.int .u32 t.a) ∧ V.frozen? ⟨w5.heap.size, 0, none⟩ = false := q0
      obtain ⟨q1, f1⟩ : V.cell? ⟨w5.heap.size, 1, none⟩ = some (.int .u32 t.b) ∧ V.frozen? ⟨w5.heap.size, 1, none⟩ = false := q1
      obtain ⟨q2, f2⟩ : V.cell? ⟨w5.heap.size, 2, none⟩ = some (.int .u32 t.c) ∧ V.frozen? ⟨w5.heap.size, 2, none⟩ = false := q2
      obtain ⟨q3, f3⟩ : V.cell? ⟨w5.heap.size, 3, none⟩ = some (.int .u32 t.d) ∧ V.frozen? ⟨w5.heap.size, 3, none⟩ = false := q3
      obtain ⟨q4, f4⟩ : V.cell? ⟨w5.heap.size, 4, none⟩ = some (.int .u32 t.e) ∧ V.frozen? ⟨w5.heap.size, 4, none⟩ = false := q4
      go_wp2_with fail
      refine putQ_normal ?_
      clear wr1 wr2 wr3 wr4 hHeld
      go_wp2_with fail
      go_roundg (gk - 1)
      case measure => omega
      case rel =>
        refine ⟨k + 1, i + 64, by omega, by omega, by have := HI.out; omega, by go_num, ⟨?_⟩, ⟨((((BS2.out.setCell (Nat.le_refl _) _).setCell (Nat.le_refl _) _).setCell (Nat.le_refl _) _).setCell (Nat.le_refl _) _).setCell (Nat.le_refl _) _⟩⟩
        rw [HST.out]
        exact ((((AS2.out.put 0 u.a).put 1 u.b).put 2 u.c).put 3 u.d).put 4 u.e
    · obtain rfl : k = Z.length / 64 := by omega
      obtain rfl : i = Z.length := by omega
      have hSfull := AS.out
      rw [List.take_of_length_le (by rw [bls_len]; omega)] at hSfull
      have huo := foldB_ok first first_ok (bls Z)
      have hso := HSO.out
      obtain ⟨u, hu⟩ : ∃ u, foldB first (bls Z) = u := ⟨_, rfl⟩
      rw [hu] at hSfull huo hso
      have AU := Aside0.mk hSfull
      have HSU := Aside0.mk hso
      have s5 := BS.out.size
      obtain ⟨W0, rfl⟩ : ∃ W, W = wr := ⟨_, rfl⟩
      obtain ⟨G, rfl⟩ : ∃ G, G = gk := ⟨_, rfl⟩
      clear hSfull hso hu AS hal hik hk hgk hlt
      go_wp2_with fail
      have hb6 := below_alloc (Below.refl W0.heap.size W0) (.cells zs 41)
      have A6 := Aside0.mk (Arr.new W0 41 (List.replicate 20 0) zs (k := .u8) (by rw [HZS.out]; simp))
      obtain ⟨w6, hw6⟩ : ∃ w6, W0.alloc (.cells zs 41) = w6 := ⟨_, rfl⟩
      rw [hw6] at hb6 A6 ⊢
      have B6 : Aside0 (Below W0.heap.size W0 w6) := ⟨hb6⟩
      clear hb6 hw6
      go_loopg [7] 20 (fun gk s7 w' => ∃ m : Nat, m ≤ 20 ∧ 20 - m ≤ gk ∧ s7 = .int .i64 m ∧ Aside0 (Arr .u8 W0.heap.size 41 w' ((bytes20 u).take m ++ List.replicate (20 - m) 0)) ∧ Aside0 (Below W0.heap.size W0 w'))
      case atStart => exact ⟨0, by omega, by omega, rfl, ⟨by simpa using A6.out⟩, B6⟩
      case round =>
        clear A6 B6
        obtain ⟨m, hm, hgm, rfl, A6, B6⟩ := hrel
        by_cases hmt : m < 20
        · have AUr := AU.out.below B6.out AU.out.lt
          obtain ⟨i, hi⟩ : ∃ i, m / 4 = i := ⟨_, rfl⟩
          obtain ⟨k, hk⟩ : ∃ k, m % 4 = k := ⟨_, rfl⟩
          have cu := (AUr.cell i (by simp [St.l]; omega)).1
          obtain ⟨x, hx⟩ : ∃ x, u.l.getD i 0 = x := ⟨_, rfl⟩
          have hxw := huo.getD i
          rw [hx] at cu hxw
          have hmi : (m : Int) / 4 = (i : Int) := by omega
          have hmk : (m : Int) % 4 = (k : Int) := by omega
          have hi5 : (i : Int) < 5 := by omega
          have hk4 : k < 4 := by omega
          have hlen : ((bytes20 u).take m).length = m := by rw [List.length_take, bytes20_len]; omega
          obtain ⟨cm, fm⟩ := A6.out.cell m (by rw [List.length_append, hlen, List.length_replicate]; omega)
          have hm20 : (m : Int) < 20 := by omega
          have HI := Aside0.mk hi
          have HK := Aside0.mk hk
          have HX := Aside0.mk hx
          have HL := Aside0.mk hlen
          have HXW := Aside0.mk hxw
          clear hi hk hx hlen AUr hxw
          go_wp2_with fail
          go_roundg (gk - 1)
          case measure => omega
          case rel =>
            have hx0 : (0 : Int) ≤ x / 2 ^ (24 - 8 * k) := Int.ediv_nonneg HXW.out.1 (Int.le_of_lt (Int.pow_pos (by decide)))
            have hv : (x / 2 ^ (24 - 8 * k)).tmod 256 % 256 = byteW u m := by
              unfold byteW
              rw [HI.out, HK.out, HX.out, pow256 k hk4]
              generalize x / 2 ^ (24 - 8 * k) = y at hx0 ⊢
              rw [Int.tmod_eq_emod_of_nonneg hx0]
              omega
            refine ⟨m + 1, by omega, by omega, by go_num, ⟨?_⟩, ⟨B6.out.setCell (Nat.le_refl _) _⟩⟩
            rw [hv]
            have h5 := A6.out.put m (byteW u m)
            have h6 := set_end ((bytes20 u).take m) (20 - m) (byteW u m) (by omega)
            rw [HL.out] at h6
            rw [h6, ← bytes20_take u m hmt] at h5
            rw [show 20 - (m + 1) = 20 - m - 1 by omega]
            exact h5
        · obtain rfl : m = 20 := by omega
          have ar := A6.out
          rw [List.take_of_length_le (by rw [bytes20_len]; omega), show 20 - 20 = 0 from rfl, List.replicate_zero, List.append_nil] at ar
          have hld := arr_load ar 41 Try.underlying41 (by rw [bytes20_len]; kernel_rfl)
          have arR := ((AR5.out.later BS.out).below B6.out (by have := AR5.out.lt; omega))
          obtain ⟨W', hst, ar2, hb⟩ := arr_store arR 41 (bytes20 u) (by rw [bytes20_len]; rfl) (by rw [bytes20_len]; kernel_rfl)
          have hbs : (bytes20 u).length = 20 := bytes20_len u
          unfold Arr at ar2
          rw [← HSU.out] at ar2 hld hst hbs
          have hbz : bx.size = 20 := by rw [← HBX.out]; simpa using hbs
          rw [HBX.out] at ar2 hld hst
          have HLD := Aside0.mk hld
          have HST := Aside0.mk hst
          have AR2 := Aside0.mk ar2
          have HB := Aside0.mk hb
          have HBZ := Aside0.mk hbz
          have BF := Aside0.mk ((B5.out.trans (BS.out.mono B5.out.size)).trans (B6.out.mono (by have := B5.out.size; omega)))
          clear ar hld hst ar2 hb hbs hbz hz arR
          go_wp2_with (first | (refine pl_load rfl 41 _ rfl _ _ HLD.out rfl ?_) | (refine pl_store rfl 41 _ _ rfl _ _ HST.out rfl rfl ?_))
          exact bodyPost_ret (results_cell_row rfl _ _ w.heap.size 41 _ (0, 0) (.array 20 5) rfl AR2.out Try.underlying41 rfl (by rw [HBZ.out]; kernel_rfl)) rfl ⟨rfl, BF.out.trans (HB.out.below BF.out.size (fun j hj e => by have : j = w.heap.size := e; omega))⟩
end Go.Proofs.Ytfeohojpjncgaaa.Sha
