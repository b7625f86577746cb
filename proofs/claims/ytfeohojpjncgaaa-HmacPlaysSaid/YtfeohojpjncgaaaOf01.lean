/- sha1.Of, sha1.Sum, the reference's Sum; the calls at none. -/
import Derived.Test.YtfeohojpjncgaaaSum01
import Derived.Test.YtfeohojpjncgaaaRBlock01
import Derived.Test.YtfeohojpjncgaaaParts
set_option linter.unusedSimpArgs false
set_option linter.unusedVariables false
namespace Go.Proofs.Ytfeohojpjncgaaa.Sha
open Go.RowKit Go.Proofs.YtfeohojpjncgaaaW.PrintWords Go.Proofs.YtfeohojpjncgaaaW.PrintLast Go.Proofs.YtfeohojpjncgaaaW.PrintMore Go.Proofs.Ytfeohojpjncgaaa.PSha1Plays Go.Proofs.Ytfeohojpjncgaaa.Lex Go.Proofs.Ytfeohojpjncgaaa.Lib
attribute [local go_sem] Oper.semAt_some
theorem hWrite_nil (A : Option Addr) (n c : Nat) (w : World) : Calls Try.prog 25 #[.pointer none, .slice A n c] w fun e w' => e = .returned (.int .i64 1) ∧ Below w.heap.size w w' := by
  refine (callsIn_wide (n := 5)).1 ?_
  refine callsIn_of_wp_marks Try.func25 rfl trivial ?_ rfl
  simp only [Try.ntmps25, List.size_toArray, List.length_cons, List.length_nil, Nat.reduceAdd, Nat.reduceSub, Array.replicate_succ, Array.replicate_zero, List.push_toArray, List.append_toArray, List.nil_append, List.cons_append]
  gi_wp2_with fail
  refine ⟨trivial, ?_⟩
  refine (callsIn_wide.2 (none_nil _)).mono ?_
  rintro e w' ⟨rfl, rfl⟩
  gi_wp2_with fail
  exact ⟨_, results_tmp rfl _ _ _, rfl, below_alloc (Below.refl _ _) _⟩
theorem hSum_nil (w : World) : Calls Try.prog 29 #[.pointer none] w fun e w' => e = .returned (.agg ((List.replicate 20 (0 : Int)).map (Value.int .u8)).toArray) ∧ Below w.heap.size w w' := by
  obtain ⟨zs, hzs, hz⟩ : ∃ zs, zs = ((List.replicate 20 (0 : Int)).map (Value.int .u8)).toArray ∧ ∀ w, (zeroValue 41).run Try.prog w = .ok (.agg zs) w := ⟨_, rfl, zero20⟩
  have hsz : zs.size = 20 := by rw [hzs]; rfl
  rw [← hzs]
  have HZS := Aside0.mk hzs
  have HSZ := Aside0.mk hsz
  clear hzs hsz
  go_enter Try.func29, Try.ntmps29
  go_wp2_with fail
  have hb0 := below_alloc (Below.refl w.heap.size w) (.cells zs 41)
  have AR := Arr.new w 41 (List.replicate 20 0) zs (k := .u8) HZS.out
  obtain ⟨w1, hw1⟩ : ∃ w1, w.alloc (.cells zs 41) = w1 := ⟨_, rfl⟩
  have hs1 : w1.heap.size = w.heap.size + 1 := by rw [← hw1]; simp
  rw [hw1] at hb0 AR ⊢
  have hld := arr_load AR 41 Try.underlying41 (by kernel_rfl)
  obtain ⟨W', hst, ar2, hb⟩ := arr_store AR 41 (List.replicate 20 0) rfl (by kernel_rfl)
  unfold Arr at ar2
  rw [← HZS.out] at hld hst ar2
  have HLD := Aside0.mk hld
  have HST := Aside0.mk hst
  have AR2 := Aside0.mk ar2
  have HB := Aside0.mk hb
  have B := Aside0.mk hb0
  clear hb0 AR hw1 hld hst ar2 hb hz
  refine (none_nil _).mono ?_
  rintro e _ ⟨rfl, rfl⟩
  go_wp2_with (first | (refine pl_load rfl 41 _ rfl _ _ HLD.out rfl ?_) | (refine pl_store rfl 41 _ _ rfl _ _ HST.out rfl rfl ?_))
  exact bodyPost_ret (results_cell_row rfl _ _ w.heap.size 41 _ (0, 0) (.array 20 5) rfl AR2.out Try.underlying41 rfl (by rw [HSZ.out]; kernel_rfl)) rfl ⟨rfl, B.out.trans (HB.out.below B.out.size (fun j hj e => by have : j = w.heap.size := e; omega))⟩
theorem flat_le3 (ps : List (List Int)) (k : Nat) (hk : k < ps.length) : (flat (ps.take k)).length + (ps.getD k []).length ≤ (flat ps).length := by
  have h := flat_take ps k hk
  have h2 := flat_le ps (k + 1)
  rw [h, List.length_append] at h2
  exact h2
set_option maxRecDepth 100000 in
set_option maxHeartbeats 4000000 in
theorem ofC (A : Option Addr) (c : Nat) (ps : List (List Int)) (w : World) (hx : Kd.C KBB w A ps.length ps) (hb : ∀ z ∈ ps, Byt z) (hl : (flat ps).length ≤ 3000000) (hpl : ps.length ≤ 1000000) : Calls Try.prog 32 #[.slice A ps.length c] w fun e w' => e = .returned (.agg ((sumOf (flat ps)).map (Value.int .u8)).toArray) ∧ Below w.heap.size w w' := by
  have HX := Aside0.mk hx
  obtain ⟨zs, HZS, hz⟩ : ∃ zs, Aside0 (zs = (List.replicate 20 (Value.int .u8 0)).toArray) ∧ ∀ w, (zeroValue 41).run Try.prog w = .ok (.agg zs) w := ⟨_, ⟨rfl⟩, zero20⟩
  obtain ⟨bx, hbx⟩ : ∃ bx, ((sumOf (flat ps)).map (Value.int .u8)).toArray = bx := ⟨_, rfl⟩
  rw [hbx]
  have HBX := Aside0.mk hbx
  have HBy := Aside0.mk hb
  clear hx hbx hb
  go_enter Try.func32, Try.ntmps32
  go_wp2_with fail
  have hb0 := below_alloc (Below.refl w.heap.size w) (.cells zs 41)
  have AR := Aside0.mk (Arr.new w 41 (List.replicate 20 0) zs (k := .u8) (by rw [HZS.out]; simp))
  obtain ⟨w1, hw1⟩ : ∃ w1, w.alloc (.cells zs 41) = w1 := ⟨_, rfl⟩
  have hs1 : w1.heap.size = w.heap.size + 1 := by rw [← hw1]; simp
  rw [hw1] at AR hb0 ⊢
  have B1 := Aside0.mk hb0
  clear hb0 hw1
  refine (dNew _).mono ?_
  rintro e w2 ⟨p, rfl, h2, hp, hb2⟩
  have H2 := Aside0.mk h2
  have AR2 := Aside0.mk (AR.out.later hb2)
  have B2 := Aside0.mk (B1.out.trans (hb2.mono B1.out.size))
  clear h2 hb2 B1 AR
  go_wp2_with fail
  go_loopg [9, 5] ps.length (fun gk s9 s5 w' => ∃ k : Nat, k ≤ ps.length ∧ ps.length - k ≤ gk ∧ s9 = .int .i64 k ∧ Aside0 (HD (SB w.heap.size w'.heap.size) p w' (flat (ps.take k))) ∧ Aside0 (Arr .u8 w.heap.size 41 w' (List.replicate 20 0)) ∧ Aside0 (Below w.heap.size w w'))
  case atStart => exact ⟨0, by omega, by omega, rfl, ⟨by simpa [flat] using H2.out.mono (fun k h => h.elim)⟩, AR2, B2⟩
  case round =>
    clear H2 AR2 B2
    obtain ⟨k, hk, hgk, rfl, H, AR, B⟩ := hrel
    by_cases hlt : k < ps.length
    · obtain ⟨b, o, A0, c0, rfl, hcell, hlc, hC⟩ := C_row (Kd.C_below HX.out B.out) k hlt
      have hfl := flat_le3 ps k hlt
      have hft := flat_take ps k hlt
      have hby : Byt (ps.getD k []) := HBy.out _ (by rw [List.getD_eq_getElem?_getD, List.getElem?_eq_getElem hlt]; exact List.getElem_mem hlt)
      obtain ⟨z, hzz⟩ : ∃ z, ps.getD k [] = z := ⟨_, rfl⟩
      rw [hzz] at hcell hlc hC hfl hft hby
      have hfb : Byt (flat (ps.take k)) := fun x hx => by
        obtain ⟨l, h1, h2⟩ := List.mem_flatten.1 hx
        exact HBy.out l (List.mem_of_mem_take h1) x h2
      have HW := Aside0.mk (dWrite A0 c0 z wr H.out hC hlc hfb hby (by omega) (by omega))
      have HFT := Aside0.mk hft
      clear hC hzz hft hby hfb
      go_wp2_with fail
      refine HW.out.mono ?_
      rintro e w3 ⟨rfl, h3, hb3⟩
      have H3 := Aside0.mk h3
      have hpw := H.out.lt
      have AR3 := Aside0.mk (AR.out.same (hb3.block w.heap.size AR.out.lt (by show ¬ w.heap.size = p; omega)))
      have B3 : Aside0 (Below w.heap.size w w3) := ⟨B.out.trans (hb3.below B.out.size (fun j hj e => by have : j = p := e; omega))⟩
      have hs3 := B.out.size
      clear h3 hb3 HW
      go_wp2_with fail
      go_roundg (gk - 1)
      case measure => omega
      case rel => exact ⟨k + 1, by omega, by omega, by go_num, ⟨by rw [HFT.out]; exact H3.out.mono (fun j hj => ⟨by have := hj.1; omega, hj.2⟩)⟩, AR3, B3⟩
    · obtain rfl : k = ps.length := by omega
      have h4 := H.out
      rw [List.take_length] at h4
      have hfb : Byt (flat ps) := fun x hx => by
        obtain ⟨l, h1, h2⟩ := List.mem_flatten.1 hx
        exact HBy.out l h1 x h2
      have HS := Aside0.mk (hSum h4 hfb (fun j hj => hj.2) (by omega))
      rw [HBX.out] at HS
      clear h4 hfb
      go_wp2_with fail
      refine HS.out.mono ?_
      rintro e w3 ⟨rfl, hb3⟩
      have AR3 := AR.out.later hb3
      obtain ⟨W', hst, ar2, hb⟩ := arr_store AR3 41 (sumOf (flat ps)) (by unfold sumOf; rw [bytes20_len]; rfl) (by unfold sumOf; rw [bytes20_len]; kernel_rfl)
      have hbz : bx.size = 20 := by rw [← HBX.out]; simp [sumOf, bytes20_len]
      unfold Arr at ar2
      rw [HBX.out] at hst ar2
      have HST := Aside0.mk hst
      have AR2 := Aside0.mk ar2
      have HB := Aside0.mk hb
      have HBZ := Aside0.mk hbz
      have B3 := Aside0.mk (B.out.trans (hb3.mono B.out.size))
      clear AR3 hst ar2 hb hbz hb3 hz
      go_wp2_with (refine pl_store rfl 41 _ _ rfl _ _ HST.out rfl rfl ?_)
      exact bodyPost_ret (results_cell_row rfl _ _ w.heap.size 41 _ (0, 0) (.array 20 5) rfl AR2.out Try.underlying41 rfl (by rw [HBZ.out]; kernel_rfl)) rfl ⟨rfl, B3.out.trans (HB.out.below B3.out.size (fun j hj e => by have : j = w.heap.size := e; omega))⟩
set_option maxRecDepth 100000 in
set_option maxHeartbeats 4000000 in
theorem sumC (A : Option Addr) (c : Nat) (xs : List Int) (w : World) (hx : Kd.C KB w A xs.length xs) (hc : xs.length ≤ c) (hb : Byt xs) (hl : xs.length ≤ 3000000) : Calls Try.prog 22 #[.slice A xs.length c] w fun e w' => e = .returned (.agg ((sumOf xs).map (Value.int .u8)).toArray) ∧ Below w.heap.size w w' := by
  obtain ⟨zs, HZS, hz⟩ : ∃ zs, Aside0 (zs = (List.replicate 20 (Value.int .u8 0)).toArray) ∧ ∀ w, (zeroValue 41).run Try.prog w = .ok (.agg zs) w := ⟨_, ⟨rfl⟩, zero20⟩
  obtain ⟨bx, hbx⟩ : ∃ bx, ((sumOf xs).map (Value.int .u8)).toArray = bx := ⟨_, rfl⟩
  rw [hbx]
  have HBX := Aside0.mk hbx
  have HX := Aside0.mk hx
  have HBy := Aside0.mk hb
  clear hx hbx hb
  go_enter Try.func22, Try.ntmps22
  go_wp2_with fail
  have hb0 := below_alloc (Below.refl w.heap.size w) (.cells zs 41)
  have AR := Aside0.mk (Arr.new w 41 (List.replicate 20 0) zs (k := .u8) (by rw [HZS.out]; simp))
  have HC1 : Aside0 (Kd.C KBB ((w.alloc (.cells zs 41)).alloc (.cells #[.slice A xs.length c] 22)) (some ⟨w.heap.size + 1, 0, none⟩) 1 [xs]) := ⟨by
    refine CBB_alloc (by simp) _ rfl (by simp) ?_
    intro j ys hj
    match j, hj with
    | 0, hj =>
      injection hj with hj
      subst hj
      exact ⟨_, _, rfl, hc, Kd.C_below HX.out (below_alloc hb0 _)⟩
    | j + 1, hj => simp at hj⟩
  have hb1 := below_alloc hb0 (.cells #[.slice A xs.length c] 22)
  have AR1 := Aside0.mk (AR.out.later (below_alloc (Below.refl _ _) (.cells #[.slice A xs.length c] 22)))
  obtain ⟨w1, hw1⟩ : ∃ w1, (w.alloc (.cells zs 41)).alloc (.cells #[.slice A xs.length c] 22) = w1 := ⟨_, rfl⟩
  rw [hw1] at AR1 HC1 hb1 ⊢
  have B1 := Aside0.mk hb1
  clear hb0 hb1 hw1 AR
  have HO := Aside0.mk (ofC _ 1 [xs] w1 HC1.out (fun z hz2 => by rw [List.mem_singleton.1 hz2]; exact HBy.out) (by simpa [flat] using hl) (by simp))
  rw [show flat [xs] = xs by simp [flat], HBX.out] at HO
  refine HO.out.mono ?_
  rintro e w3 ⟨rfl, hb3⟩
  have AR3 := AR1.out.later hb3
  obtain ⟨W', hst, ar2, hb⟩ := arr_store AR3 41 (sumOf xs) (by unfold sumOf; rw [bytes20_len]; rfl) (by unfold sumOf; rw [bytes20_len]; kernel_rfl)
  have hbz : bx.size = 20 := by rw [← HBX.out]; simp [sumOf, bytes20_len]
  unfold Arr at ar2
  rw [HBX.out] at hst ar2
  have HST := Aside0.mk hst
  have AR2 := Aside0.mk ar2
  have HB := Aside0.mk hb
  have HBZ := Aside0.mk hbz
  have B3 := Aside0.mk (B1.out.trans (hb3.mono B1.out.size))
  clear AR3 hst ar2 hb hbz hb3 hz
  go_wp2_with (refine pl_store rfl 41 _ _ rfl _ _ HST.out rfl rfl ?_)
  exact bodyPost_ret (results_cell_row rfl _ _ w.heap.size 41 _ (0, 0) (.array 20 5) rfl AR2.out Try.underlying41 rfl (by rw [HBZ.out]; kernel_rfl)) rfl ⟨rfl, B3.out.trans (HB.out.below B3.out.size (fun j hj e => by have : j = w.heap.size := e; omega))⟩
end Go.Proofs.Ytfeohojpjncgaaa.Sha
