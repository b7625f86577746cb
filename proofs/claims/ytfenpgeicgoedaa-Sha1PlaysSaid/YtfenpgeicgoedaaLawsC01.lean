/- The laws Sha1Lasts, Sha1Parts. -/
import Derived.Test.YtfenpgeicgoedaaLawsA01
import Derived.Test.YtfenpgeicgoedaaMake
import Derived.Test.YtfenpgeicgoedaaOpen
set_option linter.unusedSimpArgs false
set_option linter.unusedVariables false
namespace Go.Proofs.Ytfenpgeicgoedaa.Sha
open Go.RowKit Go.Proofs.YtfenpgeicgoedaaW.PrintWords Go.Proofs.YtfenpgeicgoedaaW.PrintLast Go.Proofs.YtfenpgeicgoedaaW.PrintMore Go.Proofs.Ytfenpgeicgoedaa.PSha1Plays Go.Proofs.Ytfenpgeicgoedaa.Lex Go.Proofs.Ytfenpgeicgoedaa.Lib
theorem zs_byt (n : Nat) : Byt (zs n) := fun x hx => by obtain ⟨_, rfl⟩ := List.mem_replicate.1 hx; omega
set_option maxHeartbeats 2000000 in
theorem sha1Lasts (n : Int) (A : Option Addr) (c : Nat) (xs : List Int) (w : World) (hn : (Lit.int .i64 n).wf = true) (hx : Kd.C KB w A xs.length xs) (hc : xs.length ≤ c) (hw : ∀ n ∈ xs, (Lit.int .u8 n).wf = true) (hr : xs.length * 1 ≤ 140737488351232) :
    Calls Try.prog 7 #[.int .i64 n, .slice A xs.length c] w fun e w' => e = .returned (.bool true) ∧ Below w.heap.size w w' := by
  clear hn
  rcases Int.lt_or_le n 0 with h0 | h0
  · clear hx
    go_enter Try.func7, Try.ntmps7
    go_wp2_with fail
    refine (works _).mono ?_
    rintro e w' ⟨rfl, hb⟩
    go_wp2_with fail
    go_ret
    exact ⟨rfl, hb⟩
  · have h0' : decide (n < 0) = false := by simpa using h0
    by_cases h1 : 200 < n
    · clear hx
      go_enter Try.func7, Try.ntmps7
      go_wp2_with fail
      refine (works _).mono ?_
      rintro e w' ⟨rfl, hb⟩
      go_wp2_with fail
      go_ret
      exact ⟨rfl, hb⟩
    · have h1' : decide (200 < n) = false := by simpa using h1
      by_cases h2 : 130 < xs.length
      · clear hx
        go_enter Try.func7, Try.ntmps7
        go_wp2_with fail
        refine (works _).mono ?_
        rintro e w' ⟨rfl, hb⟩
        go_wp2_with fail
        go_ret
        exact ⟨rfl, hb⟩
      · obtain ⟨n, rfl⟩ := Int.eq_ofNat_of_zero_le h0
        have hn2 : n ≤ 200 := by omega
        have hZl : (zs n ++ xs).length ≤ 330 := by rw [List.length_append, zs_len]; omega
        obtain ⟨bx, heq, HS, HR, HO, -⟩ := sums_ex (zs n ++ xs) ((zs_byt n).append (byt hw)) (by omega)
        have hfl : flat [zs n, xs] = zs n ++ xs := by simp [flat]
        have HOF := Aside0.mk (fun A c W => HO.out A c [zs n, xs] W hfl (by simp))
        obtain ⟨Z, hZ⟩ : ∃ Z, zs n ++ xs = Z := ⟨_, rfl⟩
        rw [hZ] at HS HR hZl
        have HX := Aside0.mk hx
        have HZ := Aside0.mk hZ
        have hmk := make_bytes n (by omega)
        clear hx hZ hfl HO
        go_enter Try.func7, Try.ntmps7
        go_wp2_with ((with_reducible refine gate_builtin (b := .append) (xs := #[.tmp 19, .tmp 20]) rfl ?_); refine ap_row w.heap.size _ _ rfl rfl (OB.lit w (zs n) (zc n) (zs_nums n) n (zs_len n).symm (Nat.le_refl _) (by rw [zs_len]; omega)) (Kd.C_below HX.out (below_alloc (Below.refl _ _) _)) rfl rfl (by simp) (by rw [zs_len]; omega) ?_; intro v1 w1 ho hb; have HO1 : Aside0 (OB w.heap.size w1 v1 Z) := ⟨by rw [← HZ.out]; exact ho⟩; have B1 := Aside0.mk ((below_alloc (Below.refl w.heap.size w) _).trans hb); clear ho hb; obtain ⟨A1, c1, rfl, hc1, _⟩ := HO1.out.reads)
        refine (HS.out A1 c1 w1 HO1.out.readsAt hc1).mono ?_
        rintro e w2 ⟨rfl, hb⟩
        have HO2 := Aside0.mk (HO1.out.below hb)
        have B2 := Aside0.mk (B1.out.trans (hb.mono B1.out.size))
        clear hb HO1 B1 HS
        go_wp2_with fail
        refine (HR.out A1 c1 w2 HO2.out.readsAt hc1).mono ?_
        rintro e w3 ⟨rfl, hb⟩
        have HO3 := Aside0.mk (HO2.out.below hb)
        have B3 := Aside0.mk (B2.out.trans (hb.mono B2.out.size))
        clear hb HO2 B2
        go_wp2_with fail
        have hC : Kd.C KBB ((w3.alloc (.cells (zc n).toArray 5)).alloc (.cells #[.slice (some ⟨w3.heap.size, 0, none⟩) n n, .slice A xs.length c] 22)) (some ⟨w3.heap.size + 1, 0, none⟩) 2 [zs n, xs] := by
          refine CBB_alloc (by simp) _ rfl (by simp) ?_
          intro j ys hj
          match j, hj with
          | 0, hj =>
            injection hj with hj
            subst hj
            exact ⟨some ⟨w3.heap.size, 0, none⟩, n, by rw [zs_len]; rfl, by rw [zs_len]; omega, by rw [zs_len]; exact Kd.C_below (OB.lit (b := w3.heap.size) w3 (zs n) (zc n) (zs_nums n) n (zs_len n).symm (Nat.le_refl _) (by rw [zs_len]; omega)).readsAt (below_alloc (Below.refl _ _) _)⟩
          | 1, hj =>
            injection hj with hj
            subst hj
            exact ⟨_, _, rfl, hc, Kd.C_below HX.out (B3.out.trans ((below_alloc (below_alloc (Below.refl _ _) _) _).mono B3.out.size))⟩
          | j + 2, hj => simp at hj
        refine (HOF.out _ 2 _ hC).mono ?_
        rintro e w4 ⟨rfl, hb⟩
        have hb4 : Below w3.heap.size w3 w4 := (below_alloc (below_alloc (Below.refl w3.heap.size w3) _) _).trans (hb.mono (by simp; omega))
        have HO4 := Aside0.mk (HO3.out.below hb4)
        have B4 := Aside0.mk (B3.out.trans (hb4.mono B3.out.size))
        clear hb hb4 HO3 B3 HOF hC
        go_wp2_with fail
        refine (HR.out A1 c1 w4 HO4.out.readsAt hc1).mono ?_
        rintro e w5 ⟨rfl, hb⟩
        have B5 := Aside0.mk (B4.out.trans (hb.mono B4.out.size))
        clear hb HO4 B4 HR
        go_wp2_with fail
        refine (works _).mono ?_
        rintro e w' ⟨rfl, hbw⟩
        go_wp2_with fail
        go_ret
        exact ⟨rfl, B5.out.trans (hbw.mono B5.out.size)⟩
/-- parts that are no more than are looked at: at most 30, of 300 bytes -/
def bad (ps : List (List Int)) : Prop := ∃ k, k < ps.length ∧ 300 < (ps.getD k []).length
set_option maxRecDepth 100000 in
set_option maxHeartbeats 2000000 in
theorem sha1Parts (A : Option Addr) (c : Nat) (ps : List (List Int)) (w : World) (hx : Kd.C KBB w A ps.length ps) (hc : ps.length ≤ c) (ho : ∀ xs ∈ ps, ∀ n ∈ xs, (Lit.int .u8 n).wf = true) :
    Calls Try.prog 4 #[.slice A ps.length c] w fun e w' => e = .returned (.bool true) ∧ Below w.heap.size w w' := by
  by_cases h30 : 30 < ps.length
  · clear hx
    go_enter Try.func4, Try.ntmps4
    go_wp2_with fail
    refine (works _).mono ?_
    rintro e w' ⟨rfl, hb⟩
    go_wp2_with fail
    go_ret
    exact ⟨rfl, hb⟩
  · have HX := Aside0.mk hx
    have HBy : Aside0 (Byt (flat ps)) := ⟨fun x hx => by
      obtain ⟨l, h1, h2⟩ := List.mem_flatten.1 hx
      exact wf_u8 (ho l h1 x h2)⟩
    clear hx ho
    go_enter Try.func4, Try.ntmps4
    go_wp2_with fail
    go_loopg [3, 4] ps.length (fun gk s3 s4 w' => ∃ k : Nat, k ≤ ps.length ∧ ps.length - k ≤ gk ∧ s4 = .int .i64 k ∧ (flat (ps.take k)).length ≤ 300 * k ∧ Aside0 (OB w.heap.size w' s3 (flat (ps.take k))) ∧ Aside0 (Below w.heap.size w w'))
    case atStart => exact ⟨0, by omega, by omega, rfl, by simp [flat], ⟨OB.nil _ _⟩, ⟨Below.refl _ _⟩⟩
    case round =>
      obtain ⟨k, hk, hgk, rfl, hfl, HO, B⟩ := hrel
      by_cases hlt : k < ps.length
      · obtain ⟨b, o, A0, c0, rfl, hcell, hlc, hC⟩ := C_row (Kd.C_below HX.out B.out) k hlt
        have hft := flat_take ps k hlt
        obtain ⟨z, hzz⟩ : ∃ z, ps.getD k [] = z := ⟨_, rfl⟩
        rw [hzz] at hcell hlc hC hft
        have HFT := Aside0.mk hft
        have HC := Aside0.mk hC
        clear hft hzz hC
        by_cases hz : 300 < z.length
        · go_wp2_with fail
          refine (works _).mono ?_
          rintro e w' ⟨rfl, hbw⟩
          go_wp2_with fail
          go_ret
          exact ⟨rfl, B.out.trans (hbw.mono B.out.size)⟩
        · have hsz := B.out.size
          go_wp2_with ((with_reducible refine gate_builtin (b := .append) (xs := #[.tmp 22, .tmp 26]) rfl ?_); refine ap_row w.heap.size _ _ rfl rfl HO.out HC.out rfl rfl hsz (by omega) ?_; intro v1 w1 ho hb; have HO1 := Aside0.mk ho; have B1 := Aside0.mk (B.out.trans hb); clear ho hb)
          go_roundg (gk - 1)
          case measure => omega
          case rel => exact ⟨k + 1, by omega, by omega, by go_num, by rw [HFT.out, List.length_append]; omega, ⟨by rw [HFT.out]; exact HO1.out⟩, B1⟩
      · obtain rfl : k = ps.length := by omega
        have hO := HO.out
        rw [List.take_length] at hO hfl
        obtain ⟨bx, heq, -, HR, HOF, -⟩ := sums_ex (flat ps) HBy.out (by omega)
        have HP := Aside0.mk (HOF.out A c ps wr rfl (by omega) (Kd.C_below HX.out B.out))
        obtain ⟨Z, hZ⟩ : ∃ Z, flat ps = Z := ⟨_, rfl⟩
        rw [hZ] at HR hfl hO
        have HOZ := Aside0.mk hO
        obtain ⟨A1, c1, rfl, hc1, _⟩ := hO.reads
        clear hO HO HOF hZ
        go_wp2_with fail
        refine HP.out.mono ?_
        rintro e w2 ⟨rfl, hb⟩
        have HO2 := Aside0.mk (HOZ.out.below hb)
        have B2 := Aside0.mk (B.out.trans (hb.mono B.out.size))
        clear hb HOZ B HP
        go_wp2_with fail
        refine (HR.out A1 c1 w2 HO2.out.readsAt hc1).mono ?_
        rintro e w3 ⟨rfl, hb⟩
        have B3 := Aside0.mk (B2.out.trans (hb.mono B2.out.size))
        clear hb HO2 B2 HR
        go_wp2_with fail
        refine (works _).mono ?_
        rintro e w' ⟨rfl, hbw⟩
        go_wp2_with fail
        go_ret
        exact ⟨rfl, B3.out.trans (hbw.mono B3.out.size)⟩
end Go.Proofs.Ytfenpgeicgoedaa.Sha
namespace Go.Proofs.Ytfenpgeicgoedaa.Row
open Go.RowKit Go.Proofs.YtfenpgeicgoedaaW.PrintWords Go.Proofs.Ytfenpgeicgoedaa.Lib
theorem opens_bytes : Opens Lib.KBB 22 (fun xs => ∀ n ∈ xs, (Lit.int .u8 n).wf = true) :=
  opens_slice Try.underlying22 (by kernel_rfl) (opens_int Try.underlying5 (by kernel_rfl))
theorem opens_parts : Opens (Kd.slice 22 Lib.KBB) 27 (fun l => ∀ xs ∈ l, ∀ n ∈ xs, (Lit.int .u8 n).wf = true) :=
  opens_slice Try.underlying27 (by kernel_rfl) opens_bytes
end Go.Proofs.Ytfenpgeicgoedaa.Row
