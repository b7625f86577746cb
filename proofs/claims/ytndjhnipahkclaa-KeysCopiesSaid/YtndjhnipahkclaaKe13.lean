/- Keys: slices.IndexFunc, slices.DeleteFunc over rows of keys; the builtin clear. -/
import Derived.Test.YtndjhnipahkclaaKe12
import Derived.Lib.SliceRun
import Derived.Laws.IdiomCopy
set_option linter.unusedSimpArgs false
set_option linter.unusedVariables false
namespace Go.Proofs.Ytndjhnipahkclaa.Ke
open Go.RowKit Go.Proofs.YtndjhnipahkclaaW.PrintWords Go.Proofs.YtndjhnipahkclaaW.PrintLast Go.Proofs.YtndjhnipahkclaaW.PrintMore Go.Proofs.Ytndjhnipahkclaa.PKeysPlay Go.Proofs.Ytndjhnipahkclaa.Lex Go.Proofs.Ytndjhnipahkclaa.Lib
set_option maxHeartbeats 2000000 in
theorem indexK (g : Nat) (lb : Array Value) (eg : ∀ args w, (callFunc g args).run Try.prog w = .ok (.enter g args) w) (p : S36 → Bool) (A : Option Addr) (c : Nat) (l : List S36) (w : World) (hp : PredK g lb l p w) (hx : Kd.C k36 w A l.length l) :
    Calls Try.prog 46 #[.slice A l.length c, .func (.func g) #[] lb] w fun e w' => ∃ r : Int, e = .returned (.int .i64 r) ∧ Below w.heap.size w w' ∧ ((r = -1 ∧ ∀ j, j < l.length → p (l.getD j z36) = false) ∨ ∃ k : Nat, r = (k : Int) ∧ k < l.length ∧ p (l.getD k z36) = true ∧ ∀ j, j < k → p (l.getD j z36) = false) := by
  have hl := hx.2.1
  have HP := Aside0.mk hp
  have HX := Aside0.mk hx
  clear hp hx
  go_enter Try.func46, Try.ntmps46
  go_wp2_with fail
  go_loopg [8] l.length (fun gk s8 W => ∃ k : Nat, k ≤ l.length ∧ l.length - k ≤ gk ∧ s8 = .int .i64 k ∧ Aside0 (∀ j, j < k → p (l.getD j z36) = false) ∧ Aside0 (Below w.heap.size w W))
  case atStart => exact ⟨0, by omega, by omega, rfl, ⟨fun j hj => by omega⟩, ⟨Below.refl _ _⟩⟩
  case round =>
    obtain ⟨k, hk, hgk, rfl, HN, HB⟩ := hrel
    by_cases hlt : k < l.length
    · obtain ⟨b, o, rfl, q0, q1, q2, q3, q4⟩ := C_key (Kd.C_below HX.out HB.out) k hlt
      obtain ⟨x, hxe⟩ : ∃ x, l.getD k z36 = x := ⟨_, rfl⟩
      have hmem : x ∈ l := by rw [← hxe, List.getD_eq_getElem?_getD, List.getElem?_eq_getElem hlt]; exact List.getElem_mem _
      rw [hxe] at q0 q1 q2 q3 q4
      have HXE := Aside0.mk hxe
      have HC := HP.out wr x HB.out hmem
      clear hxe hmem
      cases hq : p x with
      | true =>
        rw [hq] at HC
        have HQ := Aside0.mk hq
        clear hq
        go_wp2_with fail
        refine HC.mono ?_
        rintro e w2 ⟨rfl, hb2⟩
        have HB3 := Aside0.mk (HB.out.trans (hb2.mono HB.out.size))
        clear hb2 HC
        go_wp2_with fail
        go_ret
        exact ⟨_, rfl, HB3.out, .inr ⟨k, rfl, hlt, by rw [HXE.out]; exact HQ.out, HN.out⟩⟩
      | false =>
        rw [hq] at HC
        have HQ := Aside0.mk hq
        clear hq
        go_wp2_with fail
        refine HC.mono ?_
        rintro e w2 ⟨rfl, hb2⟩
        have HB2 := Aside0.mk (HB.out.trans (hb2.mono HB.out.size))
        clear hb2 HC
        go_wp2_with fail
        go_roundg (gk - 1)
        case measure => omega
        case rel => exact ⟨k + 1, by omega, by omega, by go_num, ⟨fun j hj => by
          by_cases e : j = k
          · rw [e, HXE.out]
            exact HQ.out
          · exact HN.out j (by omega)⟩, HB2⟩
    · obtain rfl : k = l.length := by omega
      have hlI : ¬ ((l.length : Int) < (l.length : Int)) := by omega
      go_wp2_with fail
      go_ret
      exact ⟨_, rfl, HB.out, .inl ⟨rfl, HN.out⟩⟩
/-! Stores into a row of keys. -/
section
variable {w : World} {b g n c : Nat} {ok : Nat → Prop} {l : List S36}
theorem R36_cell (h : Kd.R k36 36 w b ok (.slice (some ⟨g, 0, none⟩) n c) l) (q : Nat) (hq : q < n * 5) : (w.cell? ⟨g, q, none⟩).isSome = true ∧ w.frozen? ⟨g, q, none⟩ = false := by
  obtain ⟨hn, _, _⟩ := Kd.R_reads' h
  obtain ⟨_, inner, ⟨ho1, ho2⟩, hr⟩ := h
  rcases ho2 with ⟨hv, _⟩ | ⟨g', cap', cur, hv, hb, hh, hnc', hcm, hcs, ht⟩
  · cases hv
  injection hv with ha _ hc
  injection ha with ha
  injection ha with hg
  subst hg; subst hc
  have hsz : k36.sz = 5 := rfl
  rw [hsz] at hcs
  have : n * 5 ≤ c * 5 := Nat.mul_le_mul_right _ (by omega)
  refine ⟨?_, blk_frozen hh _⟩
  rw [cell_of_row w g _ cur _ (0, 0) hh, Array.getElem?_eq_getElem (by omega)]
  rfl
/-- cells behind a row's last element are written -/
theorem R36_far (h : Kd.R k36 36 w b ok (.slice (some ⟨g, 0, none⟩) n c) l) (off : Nat) (vs : List Value) (h1 : n * 5 ≤ off) (h2 : off + vs.length ≤ c * 5) : Kd.R k36 36 (w.setCells g off vs) b ok (.slice (some ⟨g, 0, none⟩) n c) l := by
  obtain ⟨hn, _, _⟩ := Kd.R_reads' h
  obtain ⟨hok, inner, ⟨ho1, ho2⟩, hr⟩ := h
  rcases ho2 with ⟨hv, _⟩ | ⟨g', cap', cur, hv, hb, hh, hnc', hcm, hcs, ht⟩
  · cases hv
  injection hv with ha _ hc
  injection ha with ha
  injection ha with hg
  subst hg; subst hc
  have hsz : k36.sz = 5 := rfl
  rw [hsz] at hcs ht ho1
  obtain ⟨cur', h3, h4, h5⟩ := setCells_row vs off w cur hh (by omega)
  refine ⟨hok, inner, ⟨by rw [hsz]; exact ho1, .inr ⟨g, c, cur', by rw [hn], hb, h3, hnc', hcm, by rw [h4, hcs, hsz], ?_⟩⟩, hr.imp_ (fun _ _ hp => k36.M_move (fun k hk => ?_) hp)⟩
  · have e9 : cur.toList.length = cur.size := Array.length_toList
    have e8 : (cur.toList.take off).length = off := by rw [List.length_take]; omega
    rw [hsz, ← ht, h5, List.append_assoc, List.take_append_of_le_length (by rw [e8]; omega), List.take_take, Nat.min_eq_left (by omega)]
  · exact setCells_far vs off k (fun e => hk.2 (by rw [e]; simp [Value.ownBlock]))
/-- a key stored at a place of a row -/
theorem R36_put (h : Kd.R k36 36 w b ok (.slice (some ⟨g, 0, none⟩) n c) l) (i : Nat) (hi : i < n) (x : S36) : ∃ W', (storeVar 36 ⟨g, i * 5, none⟩ (.agg (c36 x).toArray)).run Try.prog w = .ok () W' ∧ Kd.R k36 36 W' b ok (.slice (some ⟨g, 0, none⟩) n c) (l.set i x) ∧ w.grownBy W' (some g) := by
  obtain ⟨c0, hcl, hM, hcc, hf⟩ := Kd.R_elem h z36 (i : Int) (by omega) (by omega)
  have hcl5 : c0.length = 5 := hcl
  have hsz : k36.sz = 5 := rfl
  have h5 : (c36 x).length = 5 := rfl
  obtain ⟨h1, h2⟩ := Kd.R_seg h (i : Int) (by omega) (by omega) (c := c0) (seg := c36 x) (j := 0) (okp := fun k => ok k ∧ k ≠ g) (x' := x) hcl hcc (by rw [h5, hsz]; decide) (by
    have : c0.take 0 ++ c36 x ++ c0.drop (0 + (c36 x).length) = c36 x := by rw [h5, List.drop_of_length_le (by omega)]; simp
    rw [this]
    exact k36_mkM _ _ _ _) (fun k hk => hk)
  simp only [Int.toNat_natCast, hsz, Nat.add_zero] at h1 h2
  refine ⟨_, run_storeVar_mid w g (i * 5) 36 (c36 x).toArray (fun j hj => ?_) (by simpa using hi36 x) (one36 x), h1, h2⟩
  have hj5 : j < 5 := by simpa [c36] using hj
  exact R36_cell h (i * 5 + j) (by have : (i + 1) * 5 ≤ n * 5 := Nat.mul_le_mul_right _ hi; omega)
theorem zero_cells (m : Nat) : (Builtin.zeroCells (a36 z36).cells m).toList.length = m * 5 ∧ ∀ v ∈ (Builtin.zeroCells (a36 z36).cells m).toList, v.oneCell' = true := by
  refine ⟨by simp [Builtin.zeroCells, Value.cells], fun v hv => ?_⟩
  simp only [Builtin.zeroCells, Value.cells, Array.toList_map, List.mem_map] at hv
  obtain ⟨i, _, rfl⟩ := hv
  have : (#[Value.int .u32 z36.f0, .int .u8 z36.f1, .int .u8 z36.f2, .int .i64 z36.f3, .string z36.f4] : Array Value).size = 5 := rfl
  rw [this]
  have h5 : i % 5 < 5 := Nat.mod_lt _ (by decide)
  rcases (by omega : i % 5 = 0 ∨ i % 5 = 1 ∨ i % 5 = 2 ∨ i % 5 = 3 ∨ i % 5 = 4) with e | e | e | e | e <;> rw [e] <;> rfl
/-- the builtin clear, of keys behind a row's first ones -/
theorem clear36 (h : Kd.R k36 36 w b ok (.slice (some ⟨g, 0, none⟩) n c) l) (i : Nat) (hi : i < n) (c' : Nat) : ∃ W', (∀ ty, (Builtin.clear_ #[27] ty #[.slice (some ⟨g, i * 5, none⟩) (n - i) c']).run Try.prog w = .ok (.tuple #[]) W') ∧ Kd.R k36 36 W' b ok (.slice (some ⟨g, 0, none⟩) i c) (l.take i) ∧ w.grownBy W' (some g) := by
  obtain ⟨hn, hnc, _⟩ := Kd.R_reads' h
  obtain ⟨m, hm⟩ : ∃ m, n - i = m + 1 := ⟨n - i - 1, by omega⟩
  obtain ⟨hz1, hz2⟩ := zero_cells (m + 1)
  obtain ⟨Z, hZ⟩ : ∃ Z, (Builtin.zeroCells (a36 z36).cells (m + 1)).toList = Z := ⟨_, rfl⟩
  rw [hZ] at hz1 hz2
  have hfit : i * 5 + Z.length = n * 5 := by rw [hz1]; omega
  have hst := run_storeCells_cells (P := Try.prog) g (i * 5) Z 0 w (fun j hj => (R36_cell h (i * 5 + 0 + j) (by omega)).1) (fun j hj => (R36_cell h (i * 5 + 0 + j) (by omega)).2) hz2
  have hzv := zero36
  obtain ⟨s1, s2, s3, s4⟩ := setCells_same g Z (i * 5) w
  have hc5 : n * 5 ≤ c * 5 := Nat.mul_le_mul_right _ hnc
  refine ⟨w.setCells g (i * 5) Z, fun ty => ?_, R36_far (Kd.R_take h (by omega)) (i * 5) Z (Nat.le_refl _) (by omega), ⟨s1, s2, s3, by rw [s4]; exact Nat.le_refl _, fun k _ hk => setCells_far Z _ k (fun he => hk (by rw [he]))⟩⟩
  rw [Nat.add_zero] at hst
  rw [hm]
  simp [Builtin.clear_, run_underlying Try.underlying27, hzv w, hZ, hst]
end
/-- what stands when i of the first j are kept -/
def Del (p : S36 → Bool) (l : List S36) (i j : Nat) (M : List S36) : Prop := M.length = l.length ∧ M.take i = (l.take j).filter (fun x => !p x) ∧ M.drop j = l.drop j
theorem Del.at {p : S36 → Bool} {l M : List S36} {i j : Nat} (h : Del p l i j M) (hj : j < l.length) : M.getD j z36 = l.getD j z36 := by
  obtain ⟨h1, _, h3⟩ := h
  have h4 := congrArg (fun q => q.getD 0 z36) h3
  simpa [List.getD_eq_getElem?_getD, List.getElem?_drop] using h4
theorem take_getD {l : List S36} {j : Nat} (hj : j < l.length) : l.take (j + 1) = l.take j ++ [l.getD j z36] := by
  rw [List.take_succ_eq_append_getElem hj, List.getD_eq_getElem?_getD, List.getElem?_eq_getElem hj]
  rfl
theorem drop_getD {l : List S36} {j : Nat} (hj : j < l.length) : l.drop j = l.getD j z36 :: l.drop (j + 1) := by
  rw [List.drop_eq_getElem_cons hj, List.getD_eq_getElem?_getD, List.getElem?_eq_getElem hj]
  rfl
theorem Del.tail {p : S36 → Bool} {l M : List S36} {i j : Nat} (h : Del p l i j M) (hj : j < l.length) : M.drop (j + 1) = l.drop (j + 1) := by
  obtain ⟨h1, _, h3⟩ := h
  rw [drop_getD hj, drop_getD (by omega)] at h3
  injection h3
theorem Del.no {p : S36 → Bool} {l M : List S36} {i j : Nat} (h : Del p l i j M) (hj : j < l.length) (hp : p (l.getD j z36) = true) : Del p l i (j + 1) M := by
  refine ⟨h.1, ?_, h.tail hj⟩
  rw [take_getD hj, List.filter_append, ← h.2.1, List.filter_cons_of_neg (by rw [hp]; decide), List.filter_nil, List.append_nil]
theorem Del.yes {p : S36 → Bool} {l M : List S36} {i j : Nat} (h : Del p l i j M) (hij : i < j) (hj : j < l.length) (hp : p (l.getD j z36) = false) : Del p l (i + 1) (j + 1) (M.set i (l.getD j z36)) := by
  have h1 := h.1
  refine ⟨by rw [List.length_set]; exact h.1, ?_, ?_⟩
  · rw [take_getD hj, List.filter_append, ← h.2.1, take_getD (by rw [List.length_set]; omega)]
    congr 1
    · rw [List.take_set, List.set_eq_of_length_le (by rw [List.length_take]; omega)]
    · simp only [List.filter, hp, Bool.not_false]
      rw [List.getD_eq_getElem?_getD, List.getElem?_set_self (by omega)]
      rfl
  · rw [List.drop_set_of_lt (by omega)]
    exact h.tail hj
set_option maxHeartbeats 4000000 in
theorem deleteK (gf : Nat) (lb : Array Value) (eg : ∀ args w, (callFunc gf args).run Try.prog w = .ok (.enter gf args) w) (p : S36 → Bool) (g b c : Nat) (ok : Nat → Prop) (l : List S36) (w : World) (hR : Kd.R k36 36 w b ok (.slice (some ⟨g, 0, none⟩) l.length c) l)
    (hp : ∀ (W : World) (x : S36), But w.heap.size (fun k => k = g) w W → x ∈ l → Calls Try.prog gf (#[a36 x] ++ lb) W fun e W' => e = .returned (.bool (p x)) ∧ Below W.heap.size W W') (hex : l.any p = true) (hl : l.length ≤ 100000) :
    Calls Try.prog 43 #[.slice (some ⟨g, 0, none⟩) l.length c, .func (.func gf) #[] lb] w fun e w' => e = .returned (.slice (some ⟨g, 0, none⟩) (l.filter (fun x => !p x)).length c) ∧ Kd.R k36 36 w' b ok (.slice (some ⟨g, 0, none⟩) (l.filter (fun x => !p x)).length c) (l.filter (fun x => !p x)) ∧ But w.heap.size (fun k => k = g) w w' := by
  obtain ⟨_, hlc, hC⟩ := Kd.R_reads' hR
  have hgw := Kd.R_lt hR g (by simp [Value.ownBlock])
  have HI := Aside0.mk (indexK gf lb eg p (some ⟨g, 0, none⟩) c l w (fun W x hW hx => hp W x (But.of hW (Nat.le_refl _)) hx) hC)
  have HR := Aside0.mk hR
  have HP := Aside0.mk hp
  have HEX := Aside0.mk hex
  clear hC hR hp hex
  go_enter Try.func43, Try.ntmps43
  go_wp2_with fail
  refine HI.out.mono ?_
  rintro e w1 ⟨r, rfl, hb1, hr⟩
  rcases hr with ⟨_, hn⟩ | ⟨k, rfl, hk, hpk, hn⟩
  · have h1 := (find_none hn).2
    rw [HEX.out] at h1
    cases h1
  have HD0 : Aside0 (Del p l k (k + 1) l) := ⟨rfl, by
    rw [take_getD hk, List.filter_append, List.filter_cons_of_neg (by rw [hpk]; decide), List.filter_nil, List.append_nil]
    refine (List.filter_eq_self.2 (fun x hx => ?_)).symm
    obtain ⟨j, hj, rfl⟩ := List.mem_iff_getElem.1 hx
    rw [List.length_take] at hj
    have h2 := hn j (by omega)
    rw [List.getD_eq_getElem?_getD, List.getElem?_eq_getElem (by omega)] at h2
    rw [List.getElem_take]
    show (!p _) = true
    have h3 : p l[j] = false := h2
    rw [h3]
    rfl, rfl⟩
  have HR1 := Aside0.mk (Kd.R_below HR.out hb1)
  have HB1 : Aside0 (But w.heap.size (fun k => k = g) w w1) := ⟨But.of hb1 (Nat.le_refl _)⟩
  clear hb1 hpk hn
  go_wp2_with fail
  go_loopg [5, 6] l.length (fun gk s5 s6 W => ∃ (i j : Nat) (M : List S36), i < j ∧ j ≤ l.length ∧ l.length - j ≤ gk ∧ s5 = .int .i64 i ∧ s6 = .int .i64 j ∧ Aside0 (Del p l i j M) ∧ Aside0 (Kd.R k36 36 W b ok (.slice (some ⟨g, 0, none⟩) l.length c) M) ∧ Aside0 (But w.heap.size (fun k => k = g) w W))
  case atStart => exact ⟨k, k + 1, l, by omega, by omega, by omega, rfl, by go_num, HD0, HR1, HB1⟩
  case round =>
    clear HD0 HR1 HB1
    obtain ⟨i, j, M, hij, hj, hgk, rfl, rfl, HD, HRW, HB⟩ := hrel
    by_cases hlt : j < l.length
    · have hCM := (Kd.R_reads' HRW.out).2.2
      have hML := HD.out.1
      rw [hML] at hCM
      obtain ⟨b', o', e', q0, q1, q2, q3, q4⟩ := C_key hCM j hlt
      injection e' with e'
      injection e' with e1 e2
      subst e1 e2
      obtain ⟨x, hxe⟩ : ∃ x, l.getD j z36 = x := ⟨_, rfl⟩
      rw [HD.out.at hlt, hxe] at q0 q1 q2 q3 q4
      simp only [Nat.zero_add] at q0 q1 q2 q3 q4
      have hmem : x ∈ l := by rw [← hxe, List.getD_eq_getElem?_getD, List.getElem?_eq_getElem hlt]; exact List.getElem_mem _
      have hgr : g < wr.heap.size := Kd.R_lt HRW.out g (by simp [Value.ownBlock])
      have hb1 := below_alloc (Below.refl wr.heap.size wr) (.cells #[.int .u32 x.f0, .int .u8 x.f1, .int .u8 x.f2, .int .i64 x.f3, .string x.f4] 36)
      have HC := HP.out _ x (HB.out.then hb1 HB.out.size) hmem
      have HOX := Aside0.mk (Ob.new wr (c36 x) #[.int .u32 x.f0, .int .u8 x.f1, .int .u8 x.f2, .int .i64 x.f3, .string x.f4] rfl 36)
      have HRV := Aside0.mk (Kd.R_below HRW.out hb1)
      have HBV := Aside0.mk (HB.out.then hb1 HB.out.size)
      have HXE := Aside0.mk hxe
      clear hxe hmem hCM hML hb1
      cases hq : p x with
      | true =>
        rw [hq] at HC
        have HQ := Aside0.mk hq
        clear hq
        go_wp2_with fail
        refine HC.mono ?_
        rintro e w2 ⟨rfl, hb2⟩
        have HR2 := Aside0.mk (Kd.R_below HRV.out hb2)
        have HB2 := Aside0.mk (HBV.out.then hb2 HBV.out.size)
        have HD2 := Aside0.mk (HD.out.no hlt (by rw [HXE.out]; exact HQ.out))
        clear hb2 HC
        go_wp2_with fail
        go_roundg (gk - 1)
        case measure => omega
        case rel => exact ⟨i, j + 1, M, by omega, by omega, by omega, rfl, by go_num, HD2, HR2, HB2⟩
      | false =>
        rw [hq] at HC
        have HQ := Aside0.mk hq
        clear hq
        go_wp2_with fail
        refine HC.mono ?_
        rintro e w2 ⟨rfl, hb2⟩
        have HL7 := Aside0.mk (load36 (HOX.out.below hb2 HOX.out.lt))
        obtain ⟨W3, hst, hR3, hg3⟩ := R36_put (Kd.R_below HRV.out hb2) i (by omega) x
        have HST := Aside0.mk hst
        have HR3 := Aside0.mk hR3
        have HB3 : Aside0 (But w.heap.size (fun k => k = g) w W3) := ⟨(HBV.out.then hb2 HBV.out.size).trans ⟨hg3.os, hg3.tape, hg3.output, hg3.size, fun k hk hs => hg3.block k (Nat.lt_of_lt_of_le hk (HBV.out.then hb2 HBV.out.size).size) (fun e => hs (by injection e))⟩⟩
        have HD3 := Aside0.mk (HD.out.yes hij hlt (by rw [HXE.out]; exact HQ.out))
        rw [HXE.out] at HD3
        clear hb2 HC hst hR3 hg3
        go_wp2_with (first | (refine pl_load rfl 36 _ rfl _ _ HL7.out rfl ?_) | (refine pl_store rfl 36 _ _ rfl _ _ HST.out rfl rfl ?_))
        go_roundg (gk - 1)
        case measure => omega
        case rel => exact ⟨i + 1, j + 1, M.set i x, by omega, by omega, by omega, by go_num, by go_num, HD3, HR3, HB3⟩
    · obtain rfl : j = l.length := by omega
      have hlI : ¬ ((l.length : Int) < (l.length : Int)) := by omega
      obtain ⟨W3, hcl, hR3, hg3⟩ := clear36 HRW.out i hij (c - i)
      have hT : M.take i = l.filter (fun x => !p x) := by rw [HD.out.2.1, List.take_length]
      have hTL : (l.filter (fun x => !p x)).length = i := by rw [← hT, List.length_take, HD.out.1]; omega
      have HB3 : Aside0 (But w.heap.size (fun k => k = g) w W3) := ⟨HB.out.trans ⟨hg3.os, hg3.tape, hg3.output, hg3.size, fun k hk hs => hg3.block k (Nat.lt_of_lt_of_le hk HB.out.size) (fun e => hs (by injection e))⟩⟩
      rw [hT] at hR3
      have HR3 := Aside0.mk hR3
      have HTL := Aside0.mk hTL
      clear hT hTL hR3 hg3
      go_wp2_with fail
      go_ret
      rw [HTL.out]
      exact ⟨rfl, HR3.out, HB3.out⟩
end Go.Proofs.Ytndjhnipahkclaa.Ke
