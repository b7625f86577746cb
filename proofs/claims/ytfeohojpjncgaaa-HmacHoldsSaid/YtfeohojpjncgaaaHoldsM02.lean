/- The law HmacHolds. · The law HmacHolds: the walk. · The law HmacHolds: its two ways joined. -/
import Derived.Test.YtfeohojpjncgaaaLawsB02
import Derived.Deep.Cut
set_option linter.unusedSimpArgs false
set_option linter.unusedVariables false
namespace Go.Proofs.Ytfeohojpjncgaaa.Sha
open Go.RowKit Go.Proofs.YtfeohojpjncgaaaW.PrintWords Go.Proofs.YtfeohojpjncgaaaW.PrintLast Go.Proofs.YtfeohojpjncgaaaW.PrintMore Go.Proofs.Ytfeohojpjncgaaa.PSha1Plays Go.Proofs.Ytfeohojpjncgaaa.Lex Go.Proofs.Ytfeohojpjncgaaa.Lib
theorem block_sum (key : List Int) (h : 64 < key.length) : blockOf (sumOf key) = blockOf key := by
  unfold blockOf
  rw [if_pos h, if_neg (by rw [sumOf_len]; decide)]
theorem tag_sum (key m : List Int) (h : 64 < key.length) : tagOf (sumOf key) m = tagOf key m := by
  unfold tagOf
  rw [block_sum key h]
theorem block_zeros (key : List Int) (n : Nat) (h : key.length + n ≤ 64) : blockOf (key ++ List.replicate n 0) = blockOf key := by
  unfold blockOf
  rw [if_neg (by rw [List.length_append, List.length_replicate]; omega), if_neg (by omega), List.append_assoc, List.replicate_append_replicate, List.length_append, List.length_replicate]
  congr 2
  omega
theorem tag_zeros (key m : List Int) (n : Nat) (h : key.length + n ≤ 64) : tagOf (key ++ List.replicate n 0) m = tagOf key m := by
  unfold tagOf
  rw [block_zeros key n h]
/-- what stands of two tags to be compared: the tag and the short one, by names; the walk's facts about them -/
theorem two_names (xs ys : List Int) : ∃ b2 b1 : Array Value, b2 = ((tagOf xs ys).map (Value.int .u8)).toArray ∧ b1 = (((tagOf xs ys).take 12).map (Value.int .u8)).toArray ∧ b2.size = 20 ∧ b1.size = 12 ∧ (∀ W, (binOp .eql 41 (.agg b2) (.agg b2)).run Try.prog W = .ok (.bool true) W) ∧ (∀ W, (binOp .eql 48 (.agg b1) (.agg b1)).run Try.prog W = .ok (.bool true) W) :=
  ⟨_, _, rfl, rfl, by simpa using tagOf_len xs ys, by simpa using take12 xs ys, fun W => eql20 (tagOf_len xs ys) rfl W, fun W => eql12 (take12 xs ys) rfl W⟩
/-- a write of the bytes from one cut to another -/
theorem mWrite_cut {w W : World} {key xs : List Int} (hb : Byt xs) (hl : xs.length ≤ 2000000) (f t c p h : Nat) (h1 : f ≤ t) (h2 : t ≤ xs.length) {AD : Option Addr} (hCD : Kd.C KB w AD (t - f) ((xs.take t).drop f)) (hc : t - f ≤ c) (hW : Below w.heap.size w W) {S : Nat → Prop} (hA : MD S p h W key (xs.take f)) :
    Calls Try.prog 15 #[ptr p, .slice AD (t - f) c] W fun e w' => e = .returned (.int .i64 0) ∧ MD (SB W.heap.size w'.heap.size) p h w' key (xs.take t) ∧ But W.heap.size (at1 h) W w' := by
  have hz : ((xs.take t).drop f).length = t - f := by rw [List.length_drop, List.length_take]; omega
  have hh := mWrite (S := S) (p := p) (h := h) (D := xs.take f) AD (t - f) c ((xs.take t).drop f) W hA (by rw [hz]; exact Kd.C_below hCD hW) hz.symm (by rw [hz]; exact hc) (hb.take f) ((hb.take t).drop f) (by omega) (by rw [List.length_take]; omega)
  rw [take_cut xs f t h1] at hh
  exact hh
set_option maxRecDepth 100000 in
set_option maxHeartbeats 4000000 in
theorem holds_bad (A : Option Addr) (c : Nat) (xs : List Int) (A2 : Option Addr) (c2 : Nat) (ys : List Int) (B : Option Addr) (d : Nat) (cs : List Int) (n : Int) (w : World) (hx : Kd.C KB w A xs.length xs) (hc : xs.length ≤ c)
    (hx2 : Kd.C KB w A2 ys.length ys) (hc2 : ys.length ≤ c2) (hy : Kd.C (Kd.int .i64) w B cs.length cs)
    (hbad : (500 < xs.length ∨ 500 < ys.length) ∨ 20 < cs.length ∨ n < 0 ∨ 64 < n) :
    Calls Try.prog 8 #[.slice A xs.length c, .slice A2 ys.length c2, .slice B cs.length d, .int .i64 n] w fun e w' => e = .returned (.bool true) ∧ Below w.heap.size w w' := by
  by_cases hl : 500 < xs.length ∨ 500 < ys.length
  · have hl2 : ∃ j : Nat, j < [xs, ys].length ∧ 500 < ([xs, ys].getD j []).length := by
      rcases hl with h | h
      · exact ⟨0, by simp, by simpa using h⟩
      · exact ⟨1, by simp, by simpa using h⟩
    have HF := Aside0.mk (few_neg [xs, ys] (some ⟨w.heap.size, 0, none⟩) 2 _ (two_part hx hc hx2 hc2) hl2)
    clear hl hl2 hbad
    clear hx hx2 hy
    go_enter Try.func8, Try.ntmps8
    go_wp2_with fail
    refine HF.out.mono ?_
    rintro e w1 ⟨rfl, hw1⟩
    have HB1 := Aside0.mk (show Below w.heap.size w w1 by rw [← hw1]; exact below_alloc (Below.refl _ _) _)
    clear hw1 HF
    go_wp2_with fail
    refine (works _).mono ?_
    rintro e w' ⟨rfl, hb⟩
    go_wp2_with fail
    go_ret
    exact ⟨rfl, HB1.out.trans (hb.mono HB1.out.size)⟩
  have HF := Aside0.mk (few_pos [xs, ys] (some ⟨w.heap.size, 0, none⟩) 2 _ (two_part hx hc hx2 hc2) (fun z hz => by
      simp only [List.mem_cons, List.not_mem_nil, or_false] at hz
      rcases hz with rfl | rfl <;> omega))
  by_cases h20 : 20 < cs.length
  · clear hbad hl
    clear hx hx2 hy
    go_enter Try.func8, Try.ntmps8
    go_wp2_with fail
    refine HF.out.mono ?_
    rintro e w1 ⟨rfl, hw1⟩
    have HB1 := Aside0.mk (show Below w.heap.size w w1 by rw [← hw1]; exact below_alloc (Below.refl _ _) _)
    clear hw1 HF
    go_wp2_with fail
    refine (works _).mono ?_
    rintro e w' ⟨rfl, hb⟩
    go_wp2_with fail
    go_ret
    exact ⟨rfl, HB1.out.trans (hb.mono HB1.out.size)⟩
  by_cases h0 : n < 0
  · clear hbad hl
    clear hx hx2 hy
    go_enter Try.func8, Try.ntmps8
    go_wp2_with fail
    refine HF.out.mono ?_
    rintro e w1 ⟨rfl, hw1⟩
    have HB1 := Aside0.mk (show Below w.heap.size w w1 by rw [← hw1]; exact below_alloc (Below.refl _ _) _)
    clear hw1 HF
    go_wp2_with fail
    refine (works _).mono ?_
    rintro e w' ⟨rfl, hb⟩
    go_wp2_with fail
    go_ret
    exact ⟨rfl, HB1.out.trans (hb.mono HB1.out.size)⟩
  have h64 : 64 < n := by omega
  clear hbad hl
  · skip
    clear hx hx2 hy
    go_enter Try.func8, Try.ntmps8
    go_wp2_with fail
    refine HF.out.mono ?_
    rintro e w1 ⟨rfl, hw1⟩
    have HB1 := Aside0.mk (show Below w.heap.size w w1 by rw [← hw1]; exact below_alloc (Below.refl _ _) _)
    clear hw1 HF
    go_wp2_with fail
    refine (works _).mono ?_
    rintro e w' ⟨rfl, hb⟩
    go_wp2_with fail
    go_ret
    exact ⟨rfl, HB1.out.trans (hb.mono HB1.out.size)⟩
end Go.Proofs.Ytfeohojpjncgaaa.Sha

set_option linter.unusedSimpArgs false
set_option linter.unusedVariables false
namespace Go.Proofs.Ytfeohojpjncgaaa.Sha
open Go.RowKit Go.Proofs.YtfeohojpjncgaaaW.PrintWords Go.Proofs.YtfeohojpjncgaaaW.PrintLast Go.Proofs.YtfeohojpjncgaaaW.PrintMore Go.Proofs.Ytfeohojpjncgaaa.PSha1Plays Go.Proofs.Ytfeohojpjncgaaa.Lex Go.Proofs.Ytfeohojpjncgaaa.Lib
theorem row12 {V : World} {p : Nat} {ds : List Int} {t : TypeId} (h : Arr .u8 p t V ds) (hd : ds.length = 12) : Kd.C KB V (some ⟨p, 0, none⟩) ds.length ds := by
  have h := h.seg (by rw [hd]; decide) 0 12 (by omega) (by omega)
  rw [List.drop_zero, Nat.sub_zero, List.take_of_length_le (by omega)] at h
  rw [hd]
  exact h
set_option maxRecDepth 100000 in
set_option maxHeartbeats 4000000 in
theorem holds_main (A : Option Addr) (c : Nat) (xs : List Int) (A2 : Option Addr) (c2 : Nat) (ys : List Int) (B : Option Addr) (d : Nat) (cs : List Int) (n : Nat) (w : World) (hx : Kd.C KB w A xs.length xs) (hc : xs.length ≤ c) (hbx : Byt xs) (hlx : xs.length ≤ 500)
    (hx2 : Kd.C KB w A2 ys.length ys) (hc2 : ys.length ≤ c2) (hby : Byt ys) (hly : ys.length ≤ 500) (hy : Kd.C (Kd.int .i64) w B cs.length cs) (hcl : cs.length ≤ 20) (hn : n ≤ 64) :
    Calls Try.prog 8 #[.slice A xs.length c, .slice A2 ys.length c2, .slice B cs.length d, .int .i64 n] w fun e w' => e = .returned (.bool true) ∧ Below w.heap.size w w' := by
  have HF := Aside0.mk (few_pos [xs, ys] (some ⟨w.heap.size, 0, none⟩) 2 _ (two_part hx hc hx2 hc2) (fun z hz => by
      simp only [List.mem_cons, List.not_mem_nil, or_false] at hz
      rcases hz with rfl | rfl <;> omega))
  have HX := Aside0.mk hx
  have HX2 := Aside0.mk hx2
  have HY := Aside0.mk hy
  have HBX := Aside0.mk hbx
  have HBY := Aside0.mk hby
  obtain ⟨z2, hz2, HZ2, hz⟩ := z20_ex
  obtain ⟨z1, hz1, HZ1, hzz⟩ := z12_ex
  obtain ⟨b2, b1, hb2, hb1, hbz2, hbz1, heq2, heq1⟩ := two_names xs ys
  have hTG := Aside0.mk (fun (K : List Int) A c A2 c2 W (hK : Byt K) (hKl : K.length ≤ 500) h1 h2 h3 => tagC A K.length c K A2 1 c2 500 [ys] W h1 rfl h2 hK (by omega) h3 rfl (fun z hz => by rw [List.mem_singleton.1 hz]; exact ⟨hby, hly⟩) (by decide) (by simp) (by simp))
  have HS := Aside0.mk (fun A c A2 c2 W h1 h2 h3 => shortC A xs.length c xs A2 1 c2 500 [ys] W h1 rfl h2 hbx (by omega) h3 rfl (fun z hz => by rw [List.mem_singleton.1 hz]; exact ⟨hby, hly⟩) (by decide) (by simp) (by simp))
  rw [flat_one] at hTG HS
  have HT := Aside0.mk (fun A c A2 c2 W h1 h2 h3 => hTG.out xs A c A2 c2 W hbx hlx h1 h2 h3)
  have HTO : Aside0 (∀ (K : List Int) A c A2 c2 W (hK : Byt K) (hKl : K.length ≤ 500) (hKT : tagOf K ys = tagOf xs ys) (h1 : Kd.C KB W A K.length K) (h2 : K.length ≤ c) (h3 : Kd.C KBB W A2 1 [ys]), Calls Try.prog 19 #[.slice A K.length c, .slice A2 1 c2] W fun e w' => e = .returned (.tuple #[.agg b2, .int .i64 0]) ∧ Below W.heap.size W w') := ⟨fun K A c A2 c2 W hK hKl hKT h1 h2 h3 => by
    have h := hTG.out K A c A2 c2 W hK hKl h1 h2 h3
    rw [hKT, ← hb2] at h
    exact h⟩
  have HMT : Aside0 (∀ (S : Nat → Prop) (p h : Nat) (W : World), MD S p h W xs ys → (∀ k, S k → k < W.heap.size) → Calls Try.prog 16 #[ptr p] W fun e w' => e = .returned (.tuple #[.agg b2, .int .i64 0]) ∧ Below W.heap.size W w') := ⟨fun S p h W h1 h2 => by
    have h := mTag W h1 h2 hbx hby (by omega)
    rw [← hb2] at h
    exact h⟩
  rw [← hb2] at HT
  rw [← hb1] at HS
  have HTL := Aside0.mk (tagOf_len xs ys)
  have HTS := Aside0.mk (take12 xs ys)
  have HB2 := Aside0.mk hb2
  have HB1 := Aside0.mk hb1
  have hst2 := Aside0.mk (new20 HTL.out HB2.out hz2)
  have hst1 := Aside0.mk (new12 HTS.out HB1.out hz1)
  have h1 : ¬ 20 < cs.length := by omega
  have h2 : ¬ (n : Int) < 0 := by omega
  have h3 : ¬ 64 < (n : Int) := by omega
  clear hx hx2 hy hbx hby hTG hb2 hb1
  go_enter Try.func8, Try.ntmps8
  go_wp2_with fail
  refine HF.out.mono ?_
  rintro e w0 ⟨rfl, hw0⟩
  have B0 := Aside0.mk (show Below w.heap.size w w0 by rw [← hw0]; exact below_alloc (Below.refl _ _) _)
  clear hw0 HF
  go_wp2_with fail
  refine (HT.out A c _ _ _ (Kd.C_below HX.out (B0.out.trans ((below_alloc (Below.refl w0.heap.size w0) _).mono B0.out.size))) hc (one_part (Kd.C_below HX2.out B0.out) hc2)).mono ?_
  rintro e v3 ⟨rfl, hb3⟩
  have a3 := (below_alloc (Below.refl w0.heap.size w0) (.cells #[.slice A2 ys.length c2] 22)).trans (hb3.mono (by simp))
  have b3 := a3.trans ((below_alloc (Below.refl v3.heap.size v3) (.cells b2 41)).mono a3.size)
  have hA3 := Arr.new (k := .u8) v3 41 (tagOf xs ys) b2 HB2.out
  obtain ⟨V3, hV3⟩ : ∃ V, v3.alloc (.cells b2 41) = V := ⟨_, rfl⟩
  rw [hV3] at b3 hA3
  have HV3 := Aside0.mk hV3
  have D3 := Aside0.mk (B0.out.trans (b3.mono B0.out.size))
  have HA3 := Aside0.mk hA3
  clear hb3 a3 b3 hA3 hV3 HT B0
  go_wp2_with (refine pl_store rfl 41 _ _ rfl _ _ (hst2.out _) rfl rfl ?_; rw [HV3.out])
  refine (mNew A xs.length c xs V3 (Kd.C_below HX.out D3.out) rfl hc HBX.out (by omega)).mono ?_
  rintro e w4 ⟨p, h, rfl, hm, hp, hh, hb4⟩
  have HM : Aside0 (∃ S, MD S p h w4 xs (ys.take 0) ∧ ∀ k, S k → k < w4.heap.size) := ⟨_, hm, fun k hk => hk.2.1⟩
  have E4 := Aside0.mk hb4
  clear hm hb4
  go_wp2_with fail
  go_loopg [13, 14, 15] cs.length (fun gk s13 s14 s15 W => ∃ k f : Nat, k ≤ cs.length ∧ cs.length - k ≤ gk ∧ f ≤ ys.length ∧ s14 = .int .i64 k ∧ s13 = .int .i64 f ∧ Aside0 (∃ S, MD S p h W xs (ys.take f) ∧ ∀ k, S k → k < W.heap.size) ∧ Aside0 (Below V3.heap.size V3 W))
  case atStart => exact ⟨0, 0, by omega, by omega, by omega, rfl, rfl, HM, E4⟩
  case round =>
    clear HM E4
    obtain ⟨k, f, hk, hgk, hf, rfl, rfl, HM, E4⟩ := hrel
    have HB := Aside0.mk (D3.out.trans (E4.out.mono D3.out.size))
    by_cases hlt : k < cs.length
    · obtain ⟨b, o, rfl, hcellw⟩ := C_num HY.out k hlt
      have hcell := pw_cell_below HB.out hcellw
      obtain ⟨y, hy⟩ : ∃ y, cs.getD k 0 = y := ⟨_, rfl⟩
      rw [hy] at hcell
      obtain ⟨t, ht⟩ : ∃ t : Nat, max (f : Int) (min (ys.length : Int) y) = (t : Int) := ⟨(max (f : Int) (min (ys.length : Int) y)).toNat, by omega⟩
      obtain ⟨m, hm⟩ : ∃ m, min (ys.length : Int) y = m := ⟨_, rfl⟩
      have hmn := run_min2 (ys.length : Int) y m hm
      have hmx := run_max2 (f : Int) m (t : Int) (by omega)
      have ht1 : f ≤ t := by omega
      have ht2 : t ≤ ys.length := by omega
      obtain ⟨AD, hsl, hCD⟩ := mid_bytes HX2.out hc2 f t ht1 ht2
      have HCD := Aside0.mk hCD
      clear hcellw hy hCD ht hm
      go_wp2_with fail
      obtain ⟨S, hM, hS⟩ := HM.out
      refine (mWrite_cut HBY.out (by omega) f t (c2 - f) p h ht1 ht2 HCD.out (by omega) HB.out hM).mono ?_
      rintro e w5 ⟨rfl, hm5, hb5⟩
      have HM5 : Aside0 (∃ S, MD S p h w5 xs (ys.take t) ∧ ∀ k, S k → k < w5.heap.size) := ⟨_, hm5, fun k hk => hk.2⟩
      have E5 := Aside0.mk (E4.out.trans (hb5.below E4.out.size (fun j hj e => by have : j = h := e; omega)))
      clear hM hS hm5 hb5 HM HB E4
      go_wp2_with fail
      go_roundg (gk - 1)
      case measure => omega
      case rel => exact ⟨k + 1, t, by omega, by omega, by omega, by go_num, rfl, HM5, E5⟩
    · obtain rfl : k = cs.length := by omega
      obtain ⟨AD, hsl, hCD0⟩ := from_bytes HX2.out hc2 f hf
      have hCD : Kd.C KB w AD (ys.length - f) ((ys.take ys.length).drop f) := by rw [List.take_length]; exact hCD0
      have HCD := Aside0.mk hCD
      clear hCD hCD0
      go_wp2_with fail
      obtain ⟨S, hM, hS⟩ := HM.out
      refine (mWrite_cut HBY.out (by omega) f ys.length (c2 - f) p h hf (Nat.le_refl _) HCD.out (by omega) HB.out hM).mono ?_
      rintro e w5 ⟨rfl, hm5, hb5⟩
      rw [List.take_length] at hm5
      have HM5 : Aside0 (∃ S, MD S p h w5 xs ys ∧ ∀ k, S k → k < w5.heap.size) := ⟨_, hm5, fun k hk => hk.2⟩
      have E5 := Aside0.mk (E4.out.trans (hb5.below E4.out.size (fun j hj e => by have : j = h := e; omega)))
      clear hM hS hm5 hb5 HM HB E4
      go_wp2_with fail
      obtain ⟨S, hM, hS⟩ := HM5.out
      refine (HMT.out S p h w5 hM hS).mono ?_
      rintro e v6 ⟨rfl, hb6⟩
      have b6 := hb6.trans ((below_alloc (Below.refl v6.heap.size v6) (.cells b2 41)).mono hb6.size)
      have hA6 := Arr.new (k := .u8) v6 41 (tagOf xs ys) b2 HB2.out
      obtain ⟨V6, hV6⟩ : ∃ V, v6.alloc (.cells b2 41) = V := ⟨_, rfl⟩
      rw [hV6] at b6 hA6
      have HV6 := Aside0.mk hV6
      have E6 := Aside0.mk (E5.out.trans (b6.mono E5.out.size))
      have HA6 := Aside0.mk hA6
      clear hb6 b6 hA6 hV6 HMT hM hS HM5 E5
      have D6 := Aside0.mk (D3.out.trans (E6.out.mono D3.out.size))
      have HA36 := Aside0.mk (HA3.out.later E6.out)
      clear HA3 E6
      have HX6 := Aside0.mk (Kd.C_below HX.out D6.out)
      have wr1 : IntKind.i64.wrap (64 - (xs.length : Int)) = 64 - (xs.length : Int) := by rw [IntKind.wrap_i64]; omega
      have wr2 : wrap64 (64 - (xs.length : Int)) = 64 - (xs.length : Int) := by unfold wrap64; omega
      obtain ⟨m, hm⟩ : ∃ m, min (n : Int) (64 - (xs.length : Int)) = m := ⟨_, rfl⟩
      obtain ⟨q, hq⟩ : ∃ q : Nat, max 0 m = (q : Int) := ⟨(max 0 m).toNat, by omega⟩
      have hmn2 := run_min2 (n : Int) (64 - (xs.length : Int)) m hm
      have hmx2 := run_max2 0 m (q : Int) hq
      have hq64 : q ≤ 64 := by omega
      have hqx : xs.length ≤ 64 → xs.length + q ≤ 64 := fun _ => by omega
      have HQX := Aside0.mk hqx
      clear hm hq hqx
      go_upto_if 99 with (first | (refine pl_store rfl 41 _ _ rfl _ _ (hst2.out _) rfl rfl ?_; rw [HV6.out]) | ((with_reducible refine gate_builtin (b := .append) (xs := #[.tmp 87, .tmp 88]) rfl ?_); refine ap_row V6.heap.size _ _ rfl rfl (OB.lit V6 [] [] rfl 0 rfl (Nat.le_refl _) (by simp)) (Kd.C_below HX6.out (below_alloc (Below.refl _ _) _)) rfl rfl (by simp) (by simp; omega) ?_; intro v7 w7 ho hb; have HO7 := Aside0.mk ho; have E7 := Aside0.mk ((below_alloc (Below.refl V6.heap.size V6) _).trans hb); clear ho hb) | ((with_reducible refine gate_builtin (b := .append) (xs := #[.tmp 89, .tmp 95]) rfl ?_); refine ap_zeros V6.heap.size _ _ rfl rfl HO7.out rfl rfl (by omega) E7.out.size (by simp; omega) ?_; intro v8 w8 ho hb; have HO8 := Aside0.mk ho; have E8 := Aside0.mk (E7.out.trans hb); clear ho hb HO7 E7))
      go_cut [18] from 19 (fun s18 wx => ∃ (Ko : List Int) (Ao : Option Addr) (co : Nat), s18 = .slice Ao Ko.length co ∧ Ko.length ≤ co ∧ Ko.length ≤ 500 ∧ Aside0 (Byt Ko) ∧ Aside0 (tagOf Ko ys = tagOf xs ys) ∧ Aside0 (Kd.C KB wx Ao Ko.length Ko) ∧ Aside0 (Below V6.heap.size V6 wx))
      case first =>
        by_cases h64 : 64 < xs.length
        · obtain ⟨bd, HBD, HSUM, -⟩ := sum_ex xs HBX.out (by omega)
          have hbzd : bd.size = 20 := by rw [HBD.out]; simpa using sumOf_len xs
          have hstd := Aside0.mk (new20 (sumOf_len xs) HBD.out hz2)
          go_wp2_with fail
          refine (HSUM.out A c _ (Kd.C_below HX6.out E8.out) hc).mono ?_
          rintro e v9 ⟨rfl, hb9⟩
          have b9 := hb9.trans ((below_alloc (Below.refl v9.heap.size v9) (.cells bd 41)).mono hb9.size)
          have hA9 := Arr.new (k := .u8) v9 41 (sumOf xs) bd HBD.out
          obtain ⟨V9, hV9⟩ : ∃ V, v9.alloc (.cells bd 41) = V := ⟨_, rfl⟩
          rw [hV9] at b9 hA9
          have HV9 := Aside0.mk hV9
          have E9 := Aside0.mk (E8.out.trans (b9.mono E8.out.size))
          have HA9 := Aside0.mk hA9
          clear hb9 b9 hA9 hV9 HO8 E8 HSUM
          obtain ⟨Ko, hKo⟩ : ∃ K, [] ++ sumOf xs = K := ⟨_, rfl⟩
          have HKB : Byt Ko := by rw [← hKo]; exact sumOf_byt xs
          have hKL : Ko.length ≤ 500 := by rw [← hKo]; simp [sumOf_len]
          have HKT := Aside0.mk (show tagOf Ko ys = tagOf xs ys by rw [← hKo]; exact tag_sum xs ys h64)
          have HKN := Aside0.mk hKo
          clear hKo
          go_wp2_with (first | (refine pl_store rfl 41 _ _ rfl _ _ (hstd.out _) rfl rfl ?_; rw [HV9.out]) | ((with_reducible refine gate_builtin (b := .append) (xs := #[.tmp 102, .tmp 103]) rfl ?_); refine ap_row V9.heap.size _ _ rfl rfl (OB.lit V9 [] [] rfl 0 rfl (Nat.le_refl _) (by simp)) (row20 (HA9.out.later (below_alloc (Below.refl _ _) _)) (sumOf_len xs)) rfl rfl (by simp) (by simp) ?_; intro v10 w9 ho hb; rw [HKN.out] at ho; obtain ⟨Ao, co, rfl, hco, hCo⟩ := ho.reads; have HKo := Aside0.mk hCo; have E10 := Aside0.mk (E9.out.trans (((below_alloc (Below.refl V9.heap.size V9) _).trans hb).mono E9.out.size)); clear ho hb hCo E9 HA9))
          go_meet
          case rel => exact ⟨Ko, Ao, co, rfl, hco, hKL, ⟨HKB⟩, HKT, HKo, E10⟩
        · obtain ⟨Ko, hKo⟩ : ∃ K, [] ++ xs ++ List.replicate q 0 = K := ⟨_, rfl⟩
          have HKB : Byt Ko := by rw [← hKo]; exact HBX.out.append (zeros_byt q)
          have hKL : Ko.length ≤ 500 := by rw [← hKo]; simp; omega
          have HKT := Aside0.mk (show tagOf Ko ys = tagOf xs ys by rw [← hKo]; exact tag_zeros xs ys q (HQX.out (by omega)))
          have HKN := Aside0.mk hKo
          clear hKo
          go_wp2_with fail
          obtain ⟨w9, hw9⟩ : ∃ W, w8 = W := ⟨_, rfl⟩
          have hO8 := HO8.out
          rw [Int.toNat_natCast, HKN.out] at hO8
          rw [hw9] at hO8 E8 ⊢
          obtain ⟨Ao, co, rfl, hco, hCo⟩ := hO8.reads
          have HKo := Aside0.mk hCo
          have E10 := Aside0.mk E8.out
          clear hO8 hCo E8 HO8 hw9
          go_meet
          case rel => exact ⟨Ko, Ao, co, rfl, hco, hKL, ⟨HKB⟩, HKT, HKo, E10⟩
      case rest =>
        obtain ⟨Ko, Ao, co, rfl, hco, hKL, HKB, HKT, HKo, E10⟩ := hcut
        clear HO8 E8 HX6 hmn2 hmx2 wr1 wr2 HQX
        obtain ⟨w9, hw9⟩ : ∃ W, wc = W := ⟨_, rfl⟩
        rw [hw9] at HKo E10 ⊢
        clear hw9
        go_wp2_with fail
        have D9 := Aside0.mk (D6.out.trans (E10.out.mono D6.out.size))
        refine (HTO.out Ko Ao co _ _ _ HKB.out hKL HKT.out (Kd.C_below HKo.out (below_alloc (Below.refl _ _) _)) hco (one_part (Kd.C_below HX2.out D9.out) hc2)).mono ?_
        rintro e v11 ⟨rfl, hb11⟩
        have a11 := (below_alloc (Below.refl w9.heap.size w9) (.cells #[.slice A2 ys.length c2] 22)).trans (hb11.mono (by simp))
        have b11 := a11.trans ((below_alloc (Below.refl v11.heap.size v11) (.cells b2 41)).mono a11.size)
        have hA11 := Arr.new (k := .u8) v11 41 (tagOf xs ys) b2 HB2.out
        obtain ⟨V11, hV11⟩ : ∃ V, v11.alloc (.cells b2 41) = V := ⟨_, rfl⟩
        rw [hV11] at b11 hA11
        have HV11 := Aside0.mk hV11
        have E11 := Aside0.mk (E10.out.trans (b11.mono E10.out.size))
        have HA11 := Aside0.mk hA11
        clear hb11 a11 b11 hA11 hV11 HTO HKo E10
        go_wp2_with (refine pl_store rfl 41 _ _ rfl _ _ (hst2.out _) rfl rfl ?_; rw [HV11.out])
        have D11 := Aside0.mk (D6.out.trans (E11.out.mono D6.out.size))
        refine (HS.out A c _ _ _ (Kd.C_below HX.out (D11.out.trans ((below_alloc (Below.refl V11.heap.size V11) _).mono D11.out.size))) hc (one_part (Kd.C_below HX2.out D11.out) hc2)).mono ?_
        rintro e v12 ⟨rfl, hb12⟩
        have a12 := (below_alloc (Below.refl V11.heap.size V11) (.cells #[.slice A2 ys.length c2] 22)).trans (hb12.mono (by simp))
        have b12 := a12.trans ((below_alloc (Below.refl v12.heap.size v12) (.cells b1 48)).mono a12.size)
        have hA12 := Arr.new (k := .u8) v12 48 ((tagOf xs ys).take 12) b1 HB1.out
        obtain ⟨U, hU⟩ : ∃ V, v12.alloc (.cells b1 48) = V := ⟨_, rfl⟩
        rw [hU] at b12 hA12
        have HU := Aside0.mk hU
        have HFF : Aside0 (∀ W, Below U.heap.size U W → (loadVar 41 ⟨v3.heap.size, 0, none⟩).run Try.prog W = .ok (.agg b2) W ∧ (loadVar 41 ⟨v6.heap.size, 0, none⟩).run Try.prog W = .ok (.agg b2) W ∧ (loadVar 41 ⟨v11.heap.size, 0, none⟩).run Try.prog W = .ok (.agg b2) W ∧ (convert 22 9 (.slice (some ⟨v12.heap.size, 0, none⟩) 12 12)).run Try.prog W = .ok (.string (strOfNums ((tagOf xs ys).take 12))) W ∧ (convert 22 9 (.slice (some ⟨v3.heap.size, 0, none⟩) 12 20)).run Try.prog W = .ok (.string (strOfNums ((tagOf xs ys).take 12))) W) := ⟨fun W hW => by
          have h11 := b12.trans (hW.mono b12.size)
          have h6 := E11.out.trans (h11.mono E11.out.size)
          have hA36 := HA36.out.later h6
          have h0 := conv W (some ⟨v12.heap.size, 0, none⟩) 12 ((tagOf xs ys).take 12) (row12 (hA12.later hW) HTS.out)
          have h00 := conv W (some ⟨v3.heap.size, 0, none⟩) 20 ((tagOf xs ys).take 12) (by rw [HTS.out]; exact C_take (row20 hA36 HTL.out) 12 (by decide))
          rw [HTS.out] at h0 h00
          exact ⟨load20 hA36 HTL.out HB2.out, load20 (HA6.out.later h6) HTL.out HB2.out, load20 (HA11.out.later h11) HTL.out HB2.out, h0, h00⟩⟩
        have D12 := Aside0.mk (D11.out.trans (b12.mono D11.out.size))
        clear hb12 a12 b12 hA12 hU HS D9 HA36
        go_wp2_with (refine pl_store rfl 48 _ _ rfl _ _ (hst1.out _) rfl rfl ?_; rw [HU.out])
        have wr0 : wrap64 0 = 0 := by unfold wrap64; omega
        obtain ⟨T12, hT12⟩ : ∃ T, strOfNums ((tagOf xs ys).take 12) = T := ⟨_, rfl⟩
        rw [hT12] at HFF
        clear hT12
        refine region [(0, .p), (2, .p), (5, .p), (8, .p), (11, .p), (1, .o), (3, .o), (4, .p), (6, .o), (7, .p), (9, .o), (10, .p), (12, .o), (13, .p), (14, .p), (15, .p), (16, .t), (17, .t), (18, .p), (19, .p), (20, .p), (21, .t), (22, .t), (23, .p), (24, .p), (25, .p), (26, .p), (28, .p), (27, .t), (29, .t), (30, .p), (31, .p), (32, .p), (33, .q), (34, .p), (35, .p)] (fun W => (loadVar 41 ⟨v3.heap.size, 0, none⟩).run Try.prog W = .ok (.agg b2) W ∧ (loadVar 41 ⟨v6.heap.size, 0, none⟩).run Try.prog W = .ok (.agg b2) W ∧ (loadVar 41 ⟨v11.heap.size, 0, none⟩).run Try.prog W = .ok (.agg b2) W ∧ (convert 22 9 (.slice (some ⟨v12.heap.size, 0, none⟩) 12 12)).run Try.prog W = .ok (.string T12) W ∧ (convert 22 9 (.slice (some ⟨v3.heap.size, 0, none⟩) 12 20)).run Try.prog W = .ok (.string T12) W) (by kernel_rfl) (by kernel_rfl) (fun _ _ _ _ _ h => h) (HFF.out _ (below_drew (Below.refl _ _))) (fun hHeld => ?_)
        iterate 5 (refine lex_p rfl rfl rfl (by intro w'; go_simp; with_reducible rfl) (by simp only [Act.put, List.setIfInBounds_toArray, List.set_cons_zero, List.set_cons_succ, i64_w, i32_w]; rfl) ?_)
        refine lex_o rfl ?_
        go_wp2_with fail
        refine (num _ _).mono ?_
        rintro e w' ⟨rfl, rfl⟩
        go_wp2_with fail
        refine lex_end (by first | (simp only [Act.put, List.setIfInBounds_toArray, List.set_cons_zero, List.set_cons_succ, i64_w, i32_w]; rfl) | rfl) (HFF.out _ (below_drew (Below.refl _ _))) (fun hHeld => ?_)
        refine lex_o rfl ?_
        go_wp2_with fail
        refine (num _ _).mono ?_
        rintro e w' ⟨rfl, rfl⟩
        go_wp2_with fail
        refine lex_end (by first | (simp only [Act.put, List.setIfInBounds_toArray, List.set_cons_zero, List.set_cons_succ, i64_w, i32_w]; rfl) | rfl) (HFF.out _ (below_drew (Below.refl _ _))) (fun hHeld => ?_)
        (refine lex_p rfl rfl rfl (by intro w'; go_simp; with_reducible rfl) (by simp only [Act.put, List.setIfInBounds_toArray, List.set_cons_zero, List.set_cons_succ, i64_w, i32_w]; rfl) ?_)
        refine lex_o rfl ?_
        go_wp2_with fail
        refine (num _ _).mono ?_
        rintro e w' ⟨rfl, rfl⟩
        go_wp2_with fail
        refine lex_end (by first | (simp only [Act.put, List.setIfInBounds_toArray, List.set_cons_zero, List.set_cons_succ, i64_w, i32_w]; rfl) | rfl) (HFF.out _ (below_drew (Below.refl _ _))) (fun hHeld => ?_)
        (refine lex_p rfl rfl rfl (by intro w'; go_simp; with_reducible rfl) (by simp only [Act.put, List.setIfInBounds_toArray, List.set_cons_zero, List.set_cons_succ, i64_w, i32_w]; rfl) ?_)
        refine lex_o rfl ?_
        go_wp2_with fail
        refine (num _ _).mono ?_
        rintro e w' ⟨rfl, rfl⟩
        go_wp2_with fail
        refine lex_end (by first | (simp only [Act.put, List.setIfInBounds_toArray, List.set_cons_zero, List.set_cons_succ, i64_w, i32_w]; rfl) | rfl) (HFF.out _ (below_drew (Below.refl _ _))) (fun hHeld => ?_)
        (refine lex_p rfl rfl rfl (by intro w'; go_simp; with_reducible rfl) (by simp only [Act.put, List.setIfInBounds_toArray, List.set_cons_zero, List.set_cons_succ, i64_w, i32_w]; rfl) ?_)
        refine lex_o rfl ?_
        go_wp2_with fail
        refine (num _ _).mono ?_
        rintro e w' ⟨rfl, rfl⟩
        go_wp2_with fail
        refine lex_end (by first | (simp only [Act.put, List.setIfInBounds_toArray, List.set_cons_zero, List.set_cons_succ, i64_w, i32_w]; rfl) | rfl) (HFF.out _ (below_drew (Below.refl _ _))) (fun hHeld => ?_)
        iterate 3 (refine lex_p rfl rfl rfl (by intro w'; go_simp; with_reducible rfl) (by simp only [Act.put, List.setIfInBounds_toArray, List.set_cons_zero, List.set_cons_succ, i64_w, i32_w]; rfl) ?_)
        (refine lex_t rfl rfl rfl (by rintro w' ⟨s0, s1, s2, s3, s4⟩; exact run_load_arr rfl rfl s0) (by simp only [Act.put, List.setIfInBounds_toArray, List.set_cons_zero, List.set_cons_succ, i64_w, i32_w]; rfl) ?_)
        (refine lex_t rfl rfl rfl (by rintro w' ⟨s0, s1, s2, s3, s4⟩; exact run_load_arr rfl rfl s1) (by simp only [Act.put, List.setIfInBounds_toArray, List.set_cons_zero, List.set_cons_succ, i64_w, i32_w]; rfl) ?_)
        iterate 3 (refine lex_p rfl rfl rfl (by intro w'; go_simp; with_reducible rfl) (by simp only [Act.put, List.setIfInBounds_toArray, List.set_cons_zero, List.set_cons_succ, i64_w, i32_w]; rfl) ?_)
        (refine lex_t rfl rfl rfl (by rintro w' ⟨s0, s1, s2, s3, s4⟩; exact run_load_arr rfl rfl s0) (by simp only [Act.put, List.setIfInBounds_toArray, List.set_cons_zero, List.set_cons_succ, i64_w, i32_w]; rfl) ?_)
        (refine lex_t rfl rfl rfl (by rintro w' ⟨s0, s1, s2, s3, s4⟩; exact run_load_arr rfl rfl s2) (by simp only [Act.put, List.setIfInBounds_toArray, List.set_cons_zero, List.set_cons_succ, i64_w, i32_w]; rfl) ?_)
        iterate 5 (refine lex_p rfl rfl rfl (by intro w'; go_simp; with_reducible rfl) (by simp only [Act.put, List.setIfInBounds_toArray, List.set_cons_zero, List.set_cons_succ, i64_w, i32_w]; rfl) ?_)
        iterate 2 (refine lex_t rfl rfl rfl (by rintro w' ⟨s0, s1, s2, s3, s4⟩; go_simp; with_reducible rfl) (by simp only [Act.put, List.setIfInBounds_toArray, List.set_cons_zero, List.set_cons_succ, i64_w, i32_w]; rfl) ?_)
        iterate 3 (refine lex_p rfl rfl rfl (by intro w'; go_simp; with_reducible rfl) (by simp only [Act.put, List.setIfInBounds_toArray, List.set_cons_zero, List.set_cons_succ, i64_w, i32_w]; rfl) ?_)
        refine lex_q rfl ?_
        go_wp2_with fail
        refine (works _).mono ?_
        rintro e w13 ⟨rfl, hb13⟩
        have B13 := Aside0.mk ((below_drew (Below.refl U.heap.size U)).trans hb13)
        clear hb13
        go_wp2_with fail
        refine lex_endq (by first | (simp only [Act.put, List.setIfInBounds_toArray, List.set_cons_zero, List.set_cons_succ, i64_w, i32_w]; rfl) | rfl) ?_
        iterate 2 (refine lex_p rfl rfl rfl (by intro w'; go_simp; with_reducible rfl) (by simp only [Act.put, List.setIfInBounds_toArray, List.set_cons_zero, List.set_cons_succ, i64_w, i32_w]; rfl) ?_)
        refine lex_nil ?_
        go_wp2_with fail
        go_ret
        exact ⟨rfl, D12.out.trans (B13.out.mono D12.out.size)⟩
end Go.Proofs.Ytfeohojpjncgaaa.Sha

set_option linter.unusedVariables false
namespace Go.Proofs.Ytfeohojpjncgaaa.Sha
open Go.RowKit Go.Proofs.YtfeohojpjncgaaaW.PrintWords Go.Proofs.Ytfeohojpjncgaaa.Lib
theorem hmacHolds (A : Option Addr) (c : Nat) (xs : List Int) (A2 : Option Addr) (c2 : Nat) (ys : List Int) (B : Option Addr) (d : Nat) (cs : List Int) (n : Int) (w : World) (hx : Kd.C KB w A xs.length xs) (hc : xs.length ≤ c) (hw : ∀ n ∈ xs, (Lit.int .u8 n).wf = true) (hr1 : xs.length * 1 ≤ 140737488351232)
    (hx2 : Kd.C KB w A2 ys.length ys) (hc2 : ys.length ≤ c2) (hw2 : ∀ n ∈ ys, (Lit.int .u8 n).wf = true) (hr2 : ys.length * 1 ≤ 140737488351232)
    (hy : Kd.C (Kd.int .i64) w B cs.length cs) (hd : cs.length ≤ d) (hv : ∀ n ∈ cs, (Lit.int .i64 n).wf = true) (hs : cs.length * 8 ≤ 140737488351232) (hn : (Lit.int .i64 n).wf = true) :
    Calls Try.prog 8 #[.slice A xs.length c, .slice A2 ys.length c2, .slice B cs.length d, .int .i64 n] w fun e w' => e = .returned (.bool true) ∧ Below w.heap.size w w' := by
  by_cases hbad : (500 < xs.length ∨ 500 < ys.length) ∨ 20 < cs.length ∨ n < 0 ∨ 64 < n
  · exact holds_bad A c xs A2 c2 ys B d cs n w hx hc hx2 hc2 hy hbad
  · obtain ⟨m, rfl⟩ := Int.eq_ofNat_of_zero_le (show 0 ≤ n by omega)
    exact holds_main A c xs A2 c2 ys B d cs m w hx hc (byt hw) (by omega) hx2 hc2 (byt hw2) (by omega) hy (by omega) (by omega)
end Go.Proofs.Ytfeohojpjncgaaa.Sha
