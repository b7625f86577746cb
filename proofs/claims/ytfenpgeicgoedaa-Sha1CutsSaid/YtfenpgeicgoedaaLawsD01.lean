/- The law Sha1Cuts. -/
import Derived.Test.YtfenpgeicgoedaaLawsA01
import Derived.Test.YtfenpgeicgoedaaRSum01
import Derived.Test.YtfenpgeicgoedaaCopyA
set_option linter.unusedSimpArgs false
set_option linter.unusedVariables false
namespace Go.Proofs.Ytfenpgeicgoedaa.Sha
open Go.RowKit Go.Proofs.YtfenpgeicgoedaaW.PrintWords Go.Proofs.YtfenpgeicgoedaaW.PrintLast Go.Proofs.YtfenpgeicgoedaaW.PrintMore Go.Proofs.Ytfenpgeicgoedaa.PSha1Plays Go.Proofs.Ytfenpgeicgoedaa.Lex Go.Proofs.Ytfenpgeicgoedaa.Lib
/-- blocks from one number to another, but for one -/
def SX (a b : Nat) (r : Option Nat) (k : Nat) : Prop := a ≤ k ∧ k < b ∧ some k ≠ r
theorem PR.lt {w0 : World} {b : Nat} {w : World} {v : Value} {l : List (List Int)} (h : PR w0 b w v l) (k : Nat) (hk : v.ownBlock = some k) : b ≤ k ∧ k < w.heap.size := by
  obtain ⟨_, h2, h3, _⟩ := (Kd.R_bound h).1 k hk
  exact ⟨h2, h3⟩
section
variable {ops : Array Oper} {rest : List Oper} {o : Oper} {a : Act} {Q : Exit → Act → World → Prop}
/-- an append to a row of parts; a hash beside it stays -/
theorem ap_partH {w W : World} (base : Nat) (s x : Operand) (hgd : o.guard = none)
    (ho : o.op = .call { callee := .builtin .append, args := #[s, x], argTypes := #[27, 27] })
    {v : Value} {l : List (List Int)} {A : Option Addr} {c n : Nat} {y : List Int} (HO : PR w base W v l) (hy : Kd.C KB w A y.length y) (hn : n = y.length) (hc : y.length ≤ c)
    (hs : a.eval s = v) (hx : a.eval x = .slice (some ⟨W.heap.size, 0, none⟩) 1 1) (hb : base ≤ W.heap.size) (hl : l.length ≤ 100000)
    {p : Nat} {D : List Int} {b0 : Nat} (hp : p < base) (HH : HD (SX b0 W.heap.size v.ownBlock) p W D)
    (h : ∀ v1 w1, PR w base w1 v1 (l ++ [y]) → Below base W w1 → HD (SX b0 w1.heap.size v1.ownBlock) p w1 D → wpList Try.prog ops Q rest (a.put o.dst v1) w1) :
    wpList Try.prog ops Q (o :: rest) a (W.alloc (.cells #[.slice A n c] 22)) := by
  subst hn
  refine Kd.R_append (w0 := W) (Kd.fixed KBB w) base hgd s x 27 22 (.slice none 0 0) 24 ho Try.underlying27 info22 rfl (by show 0 < 1; decide) (by decide) v l y [.slice A y.length c] (fun _ => True) (fun _ => False) hs hx ⟨A, c, rfl, hc, hy⟩ (fun _ h => h.elim) (fun _ _ => trivial) HO (Below.refl _ _) hb (by omega) (fun v1 w1 h1 h2 hg ho1 => h v1 w1 h1 h2 ?_)
  have hown : ∀ k, v.ownBlock = some k → base ≤ k := fun k hk => (PR.lt HO k hk).1
  have h3 := HH.same (w' := w1) (hg.block p HH.lt (fun e => by have := hown p e.symm; omega)) (fun k hk => hg.block k hk.2.1 hk.2.2)
  refine h3.mono (fun k hk => ⟨hk.1, Nat.lt_of_lt_of_le hk.2.1 hg.size, fun e => ?_⟩)
  rcases ho1 with e1 | ⟨b, e1, e2⟩
  · exact hk.2.2 (by rw [e, e1])
  · rw [e1] at e
    injection e with e
    have := hk.2.1
    omega
end
theorem take_byt {xs : List Int} (hb : Byt xs) (f t : Nat) : Byt ((xs.take t).drop f) := (hb.take t).drop f
theorem write_cut {w W : World} {xs : List Int} (hb : Byt xs) (hl : xs.length ≤ 2000000) (f t c p : Nat) (h1 : f ≤ t) (h2 : t ≤ xs.length) {AD : Option Addr} (hCD : Kd.C KB w AD (t - f) ((xs.take t).drop f)) (hc : t - f ≤ c) (hW : Below w.heap.size w W) {S : Nat → Prop} (hA : HD S p W (xs.take f)) :
    Calls Try.prog 22 #[ptr p, .slice AD (t - f) c] W fun e w' => e = .returned (.int .i64 0) ∧ HD (SB W.heap.size w'.heap.size) p w' (xs.take t) ∧ But W.heap.size (at1 p) W w' := by
  have hz : ((xs.take t).drop f).length = t - f := by rw [List.length_drop, List.length_take]; omega
  have h := dWrite (S := S) (p := p) (D := xs.take f) AD c ((xs.take t).drop f) W hA (by rw [hz]; exact Kd.C_below hCD hW) (by rw [hz]; exact hc) (hb.take f) (take_byt hb f t) (by omega) (by rw [List.length_take]; omega)
  rw [hz, take_cut xs f t h1] at h
  exact h
theorem tmod_zero (n : Nat) (h : n % 64 = 0) : (n : Int).tmod 64 = 0 := by rw [Int.tmod_eq_emod_of_nonneg (by omega)]; omega
theorem emod_zero (n : Nat) (h : n % 64 = 0) : (n : Int) % 64 = 0 := by omega
/-- the byte at a place: word, place in it, and what the walk wants to know -/
theorem byte_idx (m : Nat) (hm : m < 20) : ∃ i k : Nat, m / 4 = i ∧ m % 4 = k ∧ i < 5 ∧ k < 4 ∧ (m : Int) / 4 = (i : Int) ∧ (m : Int) % 4 = (k : Int) ∧ (m : Int).tdiv 4 = (i : Int) ∧ (m : Int).tmod 4 = (k : Int) ∧ (i : Int) < 5 ∧ (m : Int) < 20 ∧
    IntKind.i64.wrap (i : Int) = (i : Int) ∧ wrap64 (i : Int) = (i : Int) ∧ IntKind.i64.wrap (8 * (k : Int)) = 8 * (k : Int) ∧ wrap64 (8 * (k : Int)) = 8 * (k : Int) ∧ IntKind.i64.wrap (24 - 8 * (k : Int)) = 24 - 8 * (k : Int) ∧ wrap64 (24 - 8 * (k : Int)) = 24 - 8 * (k : Int) ∧ IntKind.u64.wrap (24 - 8 * (k : Int)) = 24 - 8 * (k : Int) ∧ (0 : Int) ≤ 24 - 8 * (k : Int) ∧
    (∀ x : Int, Op.shift .shr .u32 x .u64 (24 - 8 * (k : Int)) = pure (.int .u32 (x / 2 ^ (24 - 8 * k)))) := by
  refine ⟨m / 4, m % 4, rfl, rfl, by omega, by omega, by omega, by omega, by rw [Int.tdiv_eq_ediv_of_nonneg (by omega)]; omega, by rw [Int.tmod_eq_emod_of_nonneg (by omega)]; omega, by omega, by omega, by rw [IntKind.wrap_i64]; omega, by unfold wrap64; omega, by rw [IntKind.wrap_i64]; omega, by unfold wrap64; omega, by rw [IntKind.wrap_i64]; omega, by unfold wrap64; omega, by rw [IntKind.wrap_u64]; omega, by omega, fun x => ?_⟩
  have h := shift_shr_any .u32 .u64 x (24 - 8 * ((m % 4 : Nat) : Int)) (by omega)
  rw [h]
  congr 3
  have : (24 - 8 * ((m % 4 : Nat) : Int)).toNat = 24 - 8 * (m % 4) := by omega
  rw [this, Nat.min_eq_left (by show _ ≤ 32; omega)]
theorem byteW_spell (u : St) (hu : u.ok) (m i k : Nat) (x : Int) (hi : m / 4 = i) (hk : m % 4 = k) (hk4 : k < 4) (hx : u.l.getD i 0 = x) : (x / 2 ^ (24 - 8 * k)).tmod 256 % 256 = byteW u m := by
  have hxw := hu.getD i
  rw [hx] at hxw
  have hx0 : (0 : Int) ≤ x / 2 ^ (24 - 8 * k) := Int.ediv_nonneg hxw.1 (Int.le_of_lt (Int.pow_pos (by decide)))
  unfold byteW
  rw [hi, hk, hx, pow256 k hk4]
  generalize x / 2 ^ (24 - 8 * k) = y at hx0 ⊢
  rw [Int.tmod_eq_emod_of_nonneg hx0]
  omega
theorem byteW_spell2 (u : St) (hu : u.ok) (m i k : Nat) (x : Int) (hi : m / 4 = i) (hk : m % 4 = k) (hk4 : k < 4) (hx : u.l.getD i 0 = x) : IntKind.u8.wrap ((x / 2 ^ (24 - 8 * (k : Int)).toNat).tmod 256) = byteW u m := by
  rw [IntKind.wrap_u8, show (24 - 8 * (k : Int)).toNat = 24 - 8 * k by omega]
  exact byteW_spell u hu m i k x hi hk hk4 hx
set_option maxHeartbeats 4000000 in
set_option maxRecDepth 100000 in
theorem cuts_main (A : Option Addr) (c : Nat) (xs : List Int) (B : Option Addr) (d : Nat) (cs : List Int) (w : World) (hx : Kd.C KB w A xs.length xs) (hc : xs.length ≤ c) (hb : Byt xs) (hl : xs.length ≤ 2000) (hy : Kd.C (Kd.int .i64) w B cs.length cs) (hcl : cs.length ≤ 30) :
    Calls Try.prog 9 #[.slice A xs.length c, .slice B cs.length d] w fun e w' => e = .returned (.bool true) ∧ Below w.heap.size w w' := by
  have HX := Aside0.mk hx
  have HBy := Aside0.mk hb
  have HY := Aside0.mk hy
  have hl1 : ¬ 2000 < xs.length := by omega
  have hl2 : ¬ 30 < cs.length := by omega
  clear hx hb hy
  go_enter Try.func9, Try.ntmps9
  go_wp2_with fail
  refine (dNew _).mono ?_
  rintro e w1 ⟨p, rfl, ha, hp, hb1⟩
  have HA : Aside0 (HD (SX w.heap.size w1.heap.size none) p w1 (xs.take 0)) := ⟨ha.mono (fun k h => h.elim)⟩
  have hpl := ha.lt
  have HB := Aside0.mk hb1
  clear ha hb1
  go_wp2_with fail
  go_loopg [6, 7, 8] cs.length (fun gk s6 s7 s8 w' => ∃ (k f : Nat) (ps : List (List Int)), k ≤ cs.length ∧ cs.length - k ≤ gk ∧ f ≤ xs.length ∧ s8 = .int .i64 k ∧ s7 = .int .i64 f ∧ Aside0 (ps.length = k) ∧ Aside0 (PR w w1.heap.size w' s6 ps) ∧ Aside0 (flat ps = xs.take f) ∧ Aside0 (HD (SX w.heap.size w'.heap.size s6.ownBlock) p w' (xs.take f)) ∧ Aside0 (Below w.heap.size w w') ∧ w1.heap.size ≤ w'.heap.size)
  case atStart => exact ⟨0, 0, [], by omega, by omega, by omega, rfl, rfl, ⟨rfl⟩, ⟨PR.nil _ _ _⟩, ⟨by simp [flat]⟩, HA, HB, Nat.le_refl _⟩
  case round =>
    clear HA HB
    obtain ⟨k, f, ps, hk, hgk, hf, rfl, rfl, HN, HP, HFl, HA, HB, hs1⟩ := hrel
    by_cases hlt : k < cs.length
    · obtain ⟨b, o, rfl, hcellw⟩ := C_num HY.out k hlt
      have hcell := pw_cell_below HB.out hcellw
      obtain ⟨y, hy⟩ : ∃ y, cs.getD k 0 = y := ⟨_, rfl⟩
      rw [hy] at hcell
      obtain ⟨t, ht⟩ : ∃ t : Nat, max (f : Int) (min (xs.length : Int) y) = (t : Int) := ⟨(max (f : Int) (min (xs.length : Int) y)).toNat, by omega⟩
      obtain ⟨m, hm⟩ : ∃ m, min (xs.length : Int) y = m := ⟨_, rfl⟩
      have hmn := run_min2 (xs.length : Int) y m hm
      have hmx := run_max2 (f : Int) m (t : Int) (by omega)
      have ht1 : f ≤ t := by omega
      have ht2 : t ≤ xs.length := by omega
      obtain ⟨AD, hsl, hCD⟩ := mid_bytes HX.out hc f t ht1 ht2
      have HCD := Aside0.mk hCD
      have hzl : ((xs.take t).drop f).length = t - f := by rw [List.length_drop, List.length_take]; omega
      have HZ := Aside0.mk hzl
      clear hcellw hy hCD hzl ht hm
      go_wp2_with ((with_reducible refine gate_builtin (b := .append) (xs := #[.tmp 43, .tmp 48]) rfl ?_); refine ap_partH (w := w) w1.heap.size _ _ rfl rfl HP.out (by rw [HZ.out]; exact HCD.out) HZ.out.symm (by have := HZ.out; omega) rfl rfl hs1 (by have := HN.out; omega) hpl HA.out ?_; intro v1 w2 ho hb hd; have HP1 := Aside0.mk ho; have HB1 := Aside0.mk hb; have HA1 := Aside0.mk hd; clear ho hb hd)
      have hs2 := HB1.out.size
      have HBW := Aside0.mk (HB.out.trans (HB1.out.mono (by have := HB.out.size; omega)))
      have HW := Aside0.mk (write_cut HBy.out (by omega) f t (c - f) p ht1 ht2 HCD.out (by omega) HBW.out HA1.out)
      refine HW.out.mono ?_
      rintro e w3 ⟨rfl, ha, hbt⟩
      have HA2 : Aside0 (HD (SX w.heap.size w3.heap.size v1.ownBlock) p w3 (xs.take t)) := ⟨ha.mono (fun j hj => ⟨by have := hj.1; have := HBW.out.size; omega, hj.2, fun e => by have := (PR.lt HP1.out j e.symm).2; have := hj.1; omega⟩)⟩
      have HP2 := Aside0.mk (HP1.out.but hbt (fun j hj e => by have : j = p := e; omega))
      have HB2 : Aside0 (Below w.heap.size w w3) := ⟨HBW.out.trans (hbt.below HBW.out.size (fun j hj e => by have : j = p := e; omega))⟩
      have hs3 := hbt.size
      clear ha hbt HW HA HP HP1 HB HBW HB1 HA1
      go_wp2_with fail
      go_roundg (gk - 1)
      case measure => omega
      case rel => exact ⟨k + 1, t, ps ++ [(xs.take t).drop f], by omega, by omega, by omega, by go_num, rfl, ⟨by rw [List.length_append, HN.out]; rfl⟩, HP2, ⟨by rw [show flat (ps ++ [(xs.take t).drop f]) = flat ps ++ (xs.take t).drop f by simp [flat], HFl.out, take_cut xs f t ht1]⟩, HA2, HB2, by omega⟩
    · obtain rfl : k = cs.length := by omega
      obtain ⟨AD, hsl, hCD0⟩ := from_bytes HX.out hc f hf
      have hCD : Kd.C KB w AD (xs.length - f) ((xs.take xs.length).drop f) := by rw [List.take_length]; exact hCD0
      have HCD := Aside0.mk hCD
      have hzl : ((xs.take xs.length).drop f).length = xs.length - f := by rw [List.length_drop, List.length_take, Nat.min_self]
      have HZ := Aside0.mk hzl
      clear hCD hzl hCD0
      go_wp2_with ((with_reducible refine gate_builtin (b := .append) (xs := #[.tmp 57, .tmp 61]) rfl ?_); refine ap_partH (w := w) w1.heap.size _ _ rfl rfl HP.out (by rw [HZ.out]; exact HCD.out) HZ.out.symm (by have := HZ.out; omega) rfl rfl hs1 (by have := HN.out; omega) hpl HA.out ?_; intro v1 w2 ho hb hd; have HP1 := Aside0.mk ho; have HB1 := Aside0.mk hb; have HA1 := Aside0.mk hd; clear ho hb hd)
      have hs2 := HB1.out.size
      have HBW := Aside0.mk (HB.out.trans (HB1.out.mono (by have := HB.out.size; omega)))
      have hW := write_cut HBy.out (by omega) f xs.length (c - f) p hf (Nat.le_refl _) HCD.out (by omega) HBW.out HA1.out
      rw [List.take_length] at hW
      have HW := Aside0.mk hW
      have HFP : Aside0 (flat (ps ++ [(xs.take xs.length).drop f]) = xs) := ⟨by rw [show flat (ps ++ [(xs.take xs.length).drop f]) = flat ps ++ (xs.take xs.length).drop f by simp [flat], HFl.out, take_cut xs f _ hf, List.take_length]⟩
      have hPl : (ps ++ [(xs.take xs.length).drop f]).length ≤ 31 := by rw [List.length_append, HN.out]; simp; omega
      obtain ⟨P, hP⟩ : ∃ P, ps ++ [(xs.take xs.length).drop f] = P := ⟨_, rfl⟩
      rw [hP] at HP1 HFP hPl
      clear hP hW
      refine HW.out.mono ?_
      rintro e w3 ⟨rfl, ha, hbt⟩
      have HA2 := Aside0.mk ha
      have HP2 := Aside0.mk (HP1.out.but hbt (fun j hj e => by have : j = p := e; omega))
      have HB2 : Aside0 (Below w.heap.size w w3) := ⟨HBW.out.trans (hbt.below HBW.out.size (fun j hj e => by have : j = p := e; omega))⟩
      obtain ⟨Ap, cp, rfl, hcp, hCp⟩ := HP2.out.reads HB2.out
      have HCp := Aside0.mk hCp
      clear ha hbt HW HA HP HP1 HB HBW HB1 HA1 hCp hsl HCD HZ HFl HN hs1 hs2 hk hgk hlt hf HP2
      go_wp2_with fail
      refine (tailC xs.length w3 (by omega)).mono ?_
      rintro e w4 ⟨vt, rfl, ho, hb4⟩
      have HOt := Aside0.mk ho
      obtain ⟨At, ct, rfl, hct, _⟩ := ho.reads
      have B4 := Aside0.mk hb4
      have htl := tail_le xs.length
      clear ho hb4
      have s4 := B4.out.size
      go_wp2_with (first | ((with_reducible refine gate_builtin (b := .append) (xs := #[.tmp 74, .tmp 75]) rfl ?_); refine ap_row w4.heap.size _ _ rfl rfl (OB.lit w4 [] [] rfl 0 rfl (Nat.le_refl _) (by simp)) (Kd.C_below HX.out (below_alloc (HB2.out.trans (B4.out.mono HB2.out.size)) _)) rfl rfl (by simp) (by simp; omega) ?_; intro v5 w5 ho hb; have HO5 : Aside0 (OB w4.heap.size w5 v5 xs) := ⟨ho⟩; have B5 := Aside0.mk ((below_alloc (Below.refl w4.heap.size w4) _).trans hb); clear ho hb) | ((with_reducible refine gate_builtin (b := .append) (xs := #[.tmp 76, .tmp 77]) rfl ?_); refine ap_row w4.heap.size _ _ rfl rfl HO5.out (HOt.out.below B5.out).readsAt rfl rfl B5.out.size (by omega) ?_; intro v6 w6 ho hb; have HO6 : Aside0 (OB w4.heap.size w6 v6 (xs ++ tail xs.length)) := ⟨ho⟩; have B6 := Aside0.mk (B4.out.trans ((B5.out.trans hb).mono s4)); clear ho hb HO5))
      have hall : (xs ++ tail xs.length).length % 64 = 0 := by rw [List.length_append]; exact tail_all _
      have hbz : Byt (xs ++ tail xs.length) := HBy.out.append (tail_byt _)
      have hzl : (xs ++ tail xs.length).length ≤ 2100 := by rw [List.length_append]; omega
      have hso : sumOf xs = bytes20 (foldB first (bls (xs ++ tail xs.length))) := rfl
      obtain ⟨Z, hZ⟩ : ∃ Z, xs ++ tail xs.length = Z := ⟨_, rfl⟩
      rw [hZ] at HO6 hall hbz hzl hso
      obtain ⟨A6, c6, rfl, hc6, hC6⟩ := HO6.out.reads
      have HC6 := Aside0.mk hC6
      have HBZ := Aside0.mk hbz
      have HSO := Aside0.mk hso
      have HAL := Aside0.mk hall
      clear B5 HOt hbz hso hall hZ hC6 HO6 hct htl
      refine (pFirst w6).mono ?_
      rintro e w7 ⟨rfl, hb7⟩
      have HC7 := Aside0.mk (Kd.C_below HC6.out hb7)
      have B7 := Aside0.mk (B6.out.trans (hb7.mono B6.out.size))
      clear hb7 HC6 B6 B4 s4
      go_wp2_with fail
      have AS : Aside0 (Arr .u32 w7.heap.size 31 (w7.alloc (.cells #[.int .u32 first.a, .int .u32 first.b, .int .u32 first.c, .int .u32 first.d, .int .u32 first.e] 31)) first.l) := ⟨Arr.new _ _ _ _ rfl⟩
      have BS : Aside0 (Below w7.heap.size w7 (w7.alloc (.cells #[.int .u32 first.a, .int .u32 first.b, .int .u32 first.c, .int .u32 first.d, .int .u32 first.e] 31))) := ⟨below_alloc (Below.refl _ _) _⟩
      obtain ⟨zs, HZS, hz⟩ : ∃ zs, Aside0 (zs = ((List.replicate 64 (0 : Int)).map (Value.int .u8)).toArray) ∧ ∀ w, (zeroValue 32).run Try.prog w = .ok (.agg zs) w := ⟨_, ⟨by simp⟩, zero64⟩
      go_loopg [14, 15] (Z.length / 64) (fun gk s14 s15 w' => ∃ k i : Nat, k ≤ Z.length / 64 ∧ Z.length / 64 - k ≤ gk ∧ i = 64 * k ∧ s14 = .int .i64 i ∧ Aside0 (Arr .u32 w7.heap.size 31 w' (foldB first ((bls Z).take k)).l) ∧ Aside0 (Below w7.heap.size w7 w'))
      case atStart => exact ⟨0, 0, by omega, by omega, rfl, rfl, ⟨by simpa [foldB] using AS.out⟩, BS⟩
      case round =>
        clear AS BS
        obtain ⟨k, i, hk, hgk, hik, rfl, AS, BS⟩ := hrel
        have hal := HAL.out
        by_cases hlt : k < Z.length / 64
        · have hst := stOf_take Z k HBZ.out hlt
          have hok := foldB_ok first first_ok ((bls Z).take k)
          obtain ⟨t, ht⟩ : ∃ t, foldB first ((bls Z).take k) = t := ⟨_, rfl⟩
          rw [ht] at AS hst hok
          obtain ⟨hbl, hbb⟩ := blk_ok HBZ.out k hlt
          have hiz : i + 64 ≤ Z.length := by omega
          have hiz' : (i : Int) + 64 ≤ (Z.length : Int) := by omega
          obtain ⟨AD, hsl, hCD⟩ := mid_bytes HC7.out hc6 i (i + 64) (by omega) hiz
          rw [show i + 64 - i = 64 by omega] at hsl hCD
          have hbk : (Z.take (i + 64)).drop i = blk Z k := by unfold blk; rw [List.drop_take, hik, show 64 * k + 64 - 64 * k = 64 by omega]
          rw [hbk] at hCD
          rw [show ((i + 64 : Nat) : Int) = (i : Int) + 64 by omega] at hsl
          have HBK := Aside0.mk (fun (W : World) => block_ t hok (blk Z k) hbb hbl W)
          obtain ⟨bx, hbx⟩ : ∃ bx, ((blk Z k).map (Value.int .u8)).toArray = bx := ⟨_, rfl⟩
          have hbxs : bx.size = 64 := by rw [← hbx]; simpa using hbl
          rw [hbx] at HBK
          have HBX := Aside0.mk hbx
          have HBL := Aside0.mk hbl
          have HCD := Aside0.mk hCD
          have HI := Aside0.mk hik
          have HST := Aside0.mk hst
          have wr1 : IntKind.i64.wrap ((i : Int) + 64) = (i : Int) + 64 := by rw [IntKind.wrap_i64]; omega
          have wr2 : wrap64 ((i : Int) + 64) = (i : Int) + 64 := by unfold wrap64; omega
          have wr3 : (0 : Int) ≤ (i : Int) + 64 := by omega
          have wr4 : ((i : Int) + 64).toNat = i + 64 := by omega
          clear hst hbl hbb hCD hbk ht hik hal hok hbx
          go_wp2_with fail
          refine region [(0, .p), (1, .p), (2, .p), (3, .p), (4, .p), (5, .p), (6, .e)] (fun _ => True) (by kernel_rfl) (by kernel_rfl) (fun _ _ _ _ _ h => h) (trivial) (fun hHeld => ?_)
          iterate 6 (refine lex_p rfl rfl rfl (by intro w'; go_simp; with_reducible rfl) (by simp only [Act.put, List.setIfInBounds_toArray, List.set_cons_zero, List.set_cons_succ, i64_w, i32_w]; rfl) ?_)
          refine lex_e rfl ?_
          refine ap_copyA (W := (wr.alloc (.cells zs 32)).drew) (g := wr.heap.size) (t := 32) (xs := List.replicate 64 0) (ys := blk Z k) _ _ rfl rfl (Arr.new wr 32 (List.replicate 64 0) zs HZS.out) (by rw [HBL.out]; exact Kd.C_below HCD.out (below_drew (below_alloc BS.out _))) (by simp) HBL.out.symm rfl rfl (B := wr.heap.size) (w0 := wr) (below_drew (below_alloc (Below.refl _ _) _)) (Nat.le_refl _) ?_
          intro w8 ha8 hb8
          refine putQ_normal ?_
          have ha8 : Arr .u8 wr.heap.size 32 w8 (blk Z k) := by
            have h2 := ha8
            rw [List.length_replicate, List.take_of_length_le (by rw [HBL.out]; decide), List.drop_of_length_le (by rw [HBL.out]; simp), List.append_nil] at h2
            exact h2
          have hld : (loadVar 32 ⟨wr.heap.size, 0, none⟩).run Try.prog w8 = .ok (.agg bx) w8 := by
            have h2 := arr_load ha8 32 Try.underlying32 (by rw [HBL.out]; kernel_rfl)
            rw [HBX.out] at h2
            exact h2
          have HLD := Aside0.mk hld
          have AS8 := Aside0.mk (AS.out.later hb8)
          have BS8 := Aside0.mk (BS.out.trans (hb8.mono BS.out.size))
          have p0 : w8.cell? ⟨w7.heap.size, 0, none⟩ = some (.int .u32 t.a) := (AS8.out.cell 0 (by simp [St.l])).1
          have p1 : w8.cell? ⟨w7.heap.size, 1, none⟩ = some (.int .u32 t.b) := (AS8.out.cell 1 (by simp [St.l])).1
          have p2 : w8.cell? ⟨w7.heap.size, 2, none⟩ = some (.int .u32 t.c) := (AS8.out.cell 2 (by simp [St.l])).1
          have p3 : w8.cell? ⟨w7.heap.size, 3, none⟩ = some (.int .u32 t.d) := (AS8.out.cell 3 (by simp [St.l])).1
          have p4 : w8.cell? ⟨w7.heap.size, 4, none⟩ = some (.int .u32 t.e) := (AS8.out.cell 4 (by simp [St.l])).1
          clear ha8 hb8 hld AS BS wr1 wr2 wr3 wr4 hHeld hsl
          go_wp2_with (refine pl_load rfl 32 _ rfl _ _ HLD.out rfl ?_)
          refine (HBK.out _).mono ?_
          rintro e w9 ⟨rfl, hb9⟩
          have AS9 := Aside0.mk (AS8.out.later hb9)
          have BS9 := Aside0.mk (BS8.out.trans (hb9.mono BS8.out.size))
          obtain ⟨q0, f0⟩ : w9.cell? ⟨w7.heap.size, 0, none⟩ = some (.int .u32 t.a) ∧ w9.frozen? ⟨w7.heap.size, 0, none⟩ = false := AS9.out.cell 0 (by simp [St.l])
          obtain ⟨q1, f1⟩ : w9.cell? ⟨w7.heap.size, 1, none⟩ = some (.int .u32 t.b) ∧ w9.frozen? ⟨w7.heap.size, 1, none⟩ = false := AS9.out.cell 1 (by simp [St.l])
          obtain ⟨q2, f2⟩ : w9.cell? ⟨w7.heap.size, 2, none⟩ = some (.int .u32 t.c) ∧ w9.frozen? ⟨w7.heap.size, 2, none⟩ = false := AS9.out.cell 2 (by simp [St.l])
          obtain ⟨q3, f3⟩ : w9.cell? ⟨w7.heap.size, 3, none⟩ = some (.int .u32 t.d) ∧ w9.frozen? ⟨w7.heap.size, 3, none⟩ = false := AS9.out.cell 3 (by simp [St.l])
          obtain ⟨q4, f4⟩ : w9.cell? ⟨w7.heap.size, 4, none⟩ = some (.int .u32 t.e) ∧ w9.frozen? ⟨w7.heap.size, 4, none⟩ = false := AS9.out.cell 4 (by simp [St.l])
          obtain ⟨u, hu⟩ : ∃ u, block t (blk Z k) = u := ⟨_, rfl⟩
          rw [hu]
          have HU := Aside0.mk hu
          clear hb9 AS8 BS8 hu HBK
          go_wp2_with fail
          go_roundg (gk - 1)
          case measure => omega
          case rel =>
            refine ⟨k + 1, i + 64, by omega, by omega, by have := HI.out; omega, by go_num, ⟨?_⟩, ⟨((((BS9.out.setCell (Nat.le_refl _) _).setCell (Nat.le_refl _) _).setCell (Nat.le_refl _) _).setCell (Nat.le_refl _) _).setCell (Nat.le_refl _) _⟩⟩
            rw [HST.out, HU.out]
            exact ((((AS9.out.put 0 u.a).put 1 u.b).put 2 u.c).put 3 u.d).put 4 u.e
        · obtain rfl : k = Z.length / 64 := by omega
          obtain rfl : i = Z.length := by omega
          have hSfull := AS.out
          rw [List.take_of_length_le (by rw [bls_len]; omega)] at hSfull
          have huo := foldB_ok first first_ok (bls Z)
          have hso := HSO.out
          obtain ⟨u, hu⟩ : ∃ u, foldB first (bls Z) = u := ⟨_, rfl⟩
          rw [hu] at hSfull huo hso
          have AU := Aside0.mk hSfull
          have HSU := Aside0.mk hso
          have hz' : ¬ ((Z.length : Int) + 64 ≤ (Z.length : Int)) := by omega
          obtain ⟨W0, rfl⟩ : ∃ W, W = wr := ⟨_, rfl⟩
          obtain ⟨G, rfl⟩ : ∃ G, G = gk := ⟨_, rfl⟩
          clear hSfull hso hu AS hal hik hk hgk hlt HBZ HC7 hz
          go_wp2_with fail
          obtain ⟨bx, heq, HS, -, HOF, HHS, HBXX⟩ := sums_ex xs HBy.out (by omega)
          obtain ⟨z2, HZ2, hz2⟩ : ∃ zs, Aside0 (zs = ((List.replicate 20 (0 : Int)).map (Value.int .u8)).toArray) ∧ ∀ w, (zeroValue 24).run Try.prog w = .ok (.agg zs) w := ⟨_, ⟨zeros20⟩, zero20⟩
          have B0 := Aside0.mk (B7.out.trans (BS.out.mono B7.out.size))
          refine (HS.out A c W0 (Kd.C_below HX.out (HB2.out.trans (B0.out.mono HB2.out.size))) hc).mono ?_
          rintro e w8 ⟨rfl, hb8⟩
          have B8 := Aside0.mk (B0.out.trans (hb8.mono B0.out.size))
          have AU8 := Aside0.mk (AU.out.later hb8)
          have hst : Aside0 (∀ W : World, (storeVar 24 ⟨W.heap.size, 0, none⟩ (.agg bx)).run Try.prog (W.alloc (.cells z2 24)) = .ok () (W.alloc (.cells bx 24))) := ⟨fun W =>
            run_storeVar_new W _ _ _ (by rw [HBXX.out]; simpa using hi20 (sumOf_len xs)) (by rw [HBXX.out, HZ2.out]; simp [sumOf_len]) (by rw [HBXX.out]; simp [Value.oneCell'])⟩
          clear hb8 HS AU B0 BS hz'
          go_wp2_with (refine pl_store rfl 24 _ _ rfl _ _ (hst.out _) rfl rfl ?_)
          have AD := Aside0.mk (Arr.new (k := .u8) w8 24 (sumOf xs) bx HBXX.out)
          have hb9 := below_alloc (Below.refl w8.heap.size w8) (.cells bx 24)
          have AU9 := Aside0.mk (AU8.out.later hb9)
          have B9 := Aside0.mk (below_alloc B8.out (.cells bx 24))
          obtain ⟨w9, hw9⟩ : ∃ W, w8.alloc (.cells bx 24) = W := ⟨_, rfl⟩
          rw [hw9] at AD AU9 B9 ⊢
          have s9 : w3.heap.size ≤ w9.heap.size := B9.out.size
          clear hb9 hw9 AU8 B8 hst hz2
          go_loopg [17] 20 (fun gk s17 w' => ∃ m : Nat, m ≤ 20 ∧ 20 - m ≤ gk ∧ s17 = .int .i64 m ∧ Aside0 (Below w9.heap.size w9 w'))
          case atStart => exact ⟨0, by omega, by omega, rfl, ⟨Below.refl _ _⟩⟩
          case round =>
            obtain ⟨m, hm, hgm, rfl, BR⟩ := hrel
            by_cases hmt : m < 20
            · obtain ⟨i, k, hi, hk, hi5n, hk4, e1, e2, e3, e4, e5, e6, e7, e8, e9, e10, e11, e12, e13, e14, e15⟩ := byte_idx m hmt
              have cu := ((AU9.out.later BR.out).cell i hi5n).1
              have cd := ((AD.out.later BR.out).cell m (by rw [sumOf_len]; exact hmt)).1
              have hbw : (sumOf xs).getD m 0 = byteW u m := by rw [HSU.out]; simp [bytes20, hmt, List.getD]
              obtain ⟨x, hx⟩ : ∃ x, u.l.getD i 0 = x := ⟨_, rfl⟩
              have hv := byteW_spell2 u huo m i k x hi hk hk4 hx
              rw [hx] at cu
              rw [hbw] at cd
              obtain ⟨y, hy⟩ : ∃ y, byteW u m = y := ⟨_, rfl⟩
              rw [hy] at cd hv
              clear hi hk hx hbw hy hk4 hi5n
              go_wp2_with fail
              refine region [(0, .p), (1, .p), (3, .p), (4, .p), (5, .p), (7, .p), (8, .p), (9, .p), (10, .p), (11, .p), (2, .t), (6, .t), (12, .p), (13, .p), (14, .p), (15, .p)] (fun V => V.cell? ⟨w8.heap.size, m, none⟩ = some (.int .u8 y) ∧ V.cell? ⟨w7.heap.size, i, none⟩ = some (.int .u32 x)) (by kernel_rfl) (by kernel_rfl) (fun _ _ _ _ _ h => h) (⟨cd, cu⟩) (fun hHeld => ?_)
              iterate 10 (refine lex_p rfl rfl rfl (by intro w'; go_simp; with_reducible rfl) (by simp only [Act.put, List.setIfInBounds_toArray, List.set_cons_zero, List.set_cons_succ, i64_w, i32_w]; rfl) ?_)
              iterate 2 (refine lex_t rfl rfl rfl (by rintro w' ⟨s1, s2⟩; go_simp; with_reducible rfl) (by simp only [Act.put, List.setIfInBounds_toArray, List.set_cons_zero, List.set_cons_succ, i64_w, i32_w]; rfl) ?_)
              iterate 4 (refine lex_p rfl rfl rfl (by intro w'; go_simp; with_reducible rfl) (by simp only [Act.put, List.setIfInBounds_toArray, List.set_cons_zero, List.set_cons_succ, i64_w, i32_w]; rfl) ?_)
              refine lex_nil ?_
              clear e1 e2 e3 e4 e5 e7 e8 e9 e10 e11 e12 e13 e14 e15 hHeld cu cd
              go_wp2_with fail
              go_roundg (gk - 1)
              case measure => omega
              case rel => exact ⟨m + 1, by omega, by omega, by go_num, ⟨below_drew BR.out⟩⟩
            · obtain rfl : m = 20 := by omega
              go_wp2_with fail
              have hld : ∀ V : World, Below w9.heap.size w9 V → (loadVar 24 ⟨w8.heap.size, 0, none⟩).run Try.prog V = .ok (.agg bx) V := fun V hV => by
                have h2 := arr_load (AD.out.later hV) 24 Try.underlying24 (by rw [sumOf_len]; kernel_rfl)
                rw [← HBXX.out] at h2
                exact h2
              have HLD := Aside0.mk hld
              have hz64 : (Z.length : Int).tmod 64 = 0 := tmod_zero _ HAL.out
              have hz65 : (Z.length : Int) % 64 = 0 := emod_zero _ HAL.out
              have hw64 : IntKind.i64.wrap 0 = 0 := by decide
              have hHD := Aside0.mk (fun (V : World) (hV : Below w9.heap.size w9 V) => HA2.out.below (B9.out.trans (hV.mono s9)) (fun k hk => hk.2) HA2.out.lt)
              have HO2 := Aside0.mk (fun (V : World) (hV : Below w9.heap.size w9 V) => HOF.out Ap cp P V HFP.out (by omega) (Kd.C_below HCp.out (B9.out.trans (hV.mono s9))))
              have hp3 : p < w3.heap.size := HA2.out.lt
              clear hld
              refine region [(0, .p), (1, .o), (2, .p), (3, .p), (4, .p), (5, .p), (6, .p), (7, .p), (8, .p), (9, .p), (10, .p), (12, .t), (11, .o), (13, .p), (14, .p), (15, .p), (16, .p), (18, .t), (17, .o), (19, .p), (20, .p), (21, .p), (22, .p), (24, .p), (25, .p), (23, .o), (26, .p), (27, .p), (28, .p), (29, .q), (30, .p), (31, .p)] (fun V => (loadVar 24 ⟨w8.heap.size, 0, none⟩).run Try.prog V = .ok (.agg bx) V) (by kernel_rfl) (by kernel_rfl) (fun _ _ _ _ _ h => h) (HLD.out _ (below_drew BR.out)) (fun hHeld => ?_)
              (refine lex_p rfl rfl rfl (by intro w'; go_simp; with_reducible rfl) (by simp only [Act.put, List.setIfInBounds_toArray, List.set_cons_zero, List.set_cons_succ, i64_w, i32_w]; rfl) ?_)
              refine lex_o rfl ?_
              go_wp2_with fail
              refine (num _ _).mono ?_
              rintro e w' ⟨rfl, rfl⟩
              go_wp2_with fail
              refine lex_end (by first | (simp only [Act.put, List.setIfInBounds_toArray, List.set_cons_zero, List.set_cons_succ, i64_w, i32_w]; rfl) | rfl) (HLD.out _ (below_drew BR.out)) (fun hHeld => ?_)
              iterate 9 (refine lex_p rfl rfl rfl (by intro w'; go_simp; with_reducible rfl) (by simp only [Act.put, List.setIfInBounds_toArray, List.set_cons_zero, List.set_cons_succ, i64_w, i32_w]; rfl) ?_)
              (refine lex_t rfl rfl rfl (by rintro w' s1; exact run_load_arr rfl rfl (by assumption)) (by simp only [Act.put, List.setIfInBounds_toArray, List.set_cons_zero, List.set_cons_succ, i64_w, i32_w]; rfl) ?_)
              refine lex_o rfl ?_
              go_wp2_with fail
              refine (HO2.out _ (below_drew BR.out)).mono ?_
              rintro e w10 ⟨rfl, hb⟩
              have B10 := Aside0.mk (BR.out.trans (((below_drew (Below.refl _ _)).trans hb).mono BR.out.size))
              clear hb
              go_wp2_with fail
              refine lex_end (by first | (simp only [Act.put, List.setIfInBounds_toArray, List.set_cons_zero, List.set_cons_succ, i64_w, i32_w]; rfl) | rfl) (HLD.out _ B10.out) (fun hHeld => ?_)
              iterate 4 (refine lex_p rfl rfl rfl (by intro w'; go_simp; with_reducible rfl) (by simp only [Act.put, List.setIfInBounds_toArray, List.set_cons_zero, List.set_cons_succ, i64_w, i32_w]; rfl) ?_)
              (refine lex_t rfl rfl rfl (by rintro w' s1; exact run_load_arr rfl rfl (by assumption)) (by simp only [Act.put, List.setIfInBounds_toArray, List.set_cons_zero, List.set_cons_succ, i64_w, i32_w]; rfl) ?_)
              refine lex_o rfl ?_
              go_wp2_with fail
              refine (HHS.out (hHD.out _ B10.out) (fun k hk => by have := hk.2; have := B10.out.size; omega)).mono ?_
              rintro e w11 ⟨rfl, hb⟩
              have B11 := Aside0.mk (B10.out.trans (hb.mono B10.out.size))
              clear hb
              go_wp2_with fail
              refine lex_end (by first | (simp only [Act.put, List.setIfInBounds_toArray, List.set_cons_zero, List.set_cons_succ, i64_w, i32_w]; rfl) | rfl) (HLD.out _ B11.out) (fun hHeld => ?_)
              iterate 6 (refine lex_p rfl rfl rfl (by intro w'; go_simp; with_reducible rfl) (by simp only [Act.put, List.setIfInBounds_toArray, List.set_cons_zero, List.set_cons_succ, i64_w, i32_w]; rfl) ?_)
              refine lex_o rfl ?_
              go_wp2_with fail
              refine (dLen (hHD.out _ B11.out)).mono ?_
              rintro e w12 ⟨rfl, rfl⟩
              go_wp2_with fail
              refine lex_end (by first | (simp only [Act.put, List.setIfInBounds_toArray, List.set_cons_zero, List.set_cons_succ, i64_w, i32_w]; rfl) | rfl) (HLD.out _ B11.out) (fun hHeld => ?_)
              iterate 3 (refine lex_p rfl rfl rfl (by intro w'; go_simp; with_reducible rfl) (by simp only [Act.put, List.setIfInBounds_toArray, List.set_cons_zero, List.set_cons_succ, i64_w, i32_w]; rfl) ?_)
              refine lex_q rfl ?_
              go_wp2_with fail
              refine (works _).mono ?_
              rintro e w12 ⟨rfl, hb⟩
              have B12 := Aside0.mk (B11.out.trans (hb.mono B11.out.size))
              clear hb
              go_wp2_with fail
              refine lex_endq (by first | (simp only [Act.put, List.setIfInBounds_toArray, List.set_cons_zero, List.set_cons_succ, i64_w, i32_w]; rfl) | rfl) ?_
              iterate 2 (refine lex_p rfl rfl rfl (by intro w'; go_simp; with_reducible rfl) (by simp only [Act.put, List.setIfInBounds_toArray, List.set_cons_zero, List.set_cons_succ, i64_w, i32_w]; rfl) ?_)
              refine lex_nil ?_
              go_wp2_with fail
              go_ret
              exact ⟨rfl, HB2.out.trans ((B9.out.trans (B12.out.mono s9)).mono HB2.out.size)⟩
set_option maxRecDepth 100000 in
theorem sha1Cuts (A : Option Addr) (c : Nat) (xs : List Int) (B : Option Addr) (d : Nat) (cs : List Int) (w : World) (hx : Kd.C KB w A xs.length xs) (hc : xs.length ≤ c) (hw : ∀ n ∈ xs, (Lit.int .u8 n).wf = true) (hr : xs.length * 1 ≤ 140737488351232)
    (hy : Kd.C (Kd.int .i64) w B cs.length cs) (hd : cs.length ≤ d) (hv : ∀ n ∈ cs, (Lit.int .i64 n).wf = true) (hs : cs.length * 8 ≤ 140737488351232) :
    Calls Try.prog 9 #[.slice A xs.length c, .slice B cs.length d] w fun e w' => e = .returned (.bool true) ∧ Below w.heap.size w w' := by
  by_cases h1 : 2000 < xs.length
  · clear hx hy
    go_enter Try.func9, Try.ntmps9
    go_wp2_with fail
    refine (works _).mono ?_
    rintro e w' ⟨rfl, hb⟩
    go_wp2_with fail
    go_ret
    exact ⟨rfl, hb⟩
  · by_cases h2 : 30 < cs.length
    · clear hx hy
      go_enter Try.func9, Try.ntmps9
      go_wp2_with fail
      refine (works _).mono ?_
      rintro e w' ⟨rfl, hb⟩
      go_wp2_with fail
      go_ret
      exact ⟨rfl, hb⟩
    · exact cuts_main A c xs B d cs w hx hc (byt hw) (by omega) hy (by omega)
end Go.Proofs.Ytfenpgeicgoedaa.Sha
