/- Hash.Sum: the data under way, cut into blocks; contracts of Write, Len, Copy, Sum over the data. -/
import Derived.Test.YtfeohojpjncgaaaWrite01
import Derived.Test.YtfeohojpjncgaaaArr2
set_option linter.unusedSimpArgs false
set_option linter.unusedVariables false
namespace Go.Proofs.Ytfeohojpjncgaaa.Sha
open Go.RowKit Go.Proofs.YtfeohojpjncgaaaW.PrintWords Go.Proofs.YtfeohojpjncgaaaW.PrintLast Go.Proofs.YtfeohojpjncgaaaW.PrintMore Go.Proofs.Ytfeohojpjncgaaa.PSha1Plays Go.Proofs.Ytfeohojpjncgaaa.Lex Go.Proofs.Ytfeohojpjncgaaa.Lib
theorem blks_append (P Z : List Int) (h : P.length % 64 = 0) : blks (P ++ Z) = blks P ++ blks Z := by
  have hq : (P ++ Z).length / 64 = P.length / 64 + Z.length / 64 := by rw [List.length_append]; omega
  unfold blks
  rw [hq, List.range_add, List.map_append, List.map_map]
  congr 1
  · refine List.map_congr_left (fun k hk => ?_)
    have hk := List.mem_range.1 hk
    unfold blk
    rw [List.drop_append_of_le_length (by omega), List.take_append_of_le_length (by rw [List.length_drop]; omega)]
  · refine List.map_congr_left (fun k hk => ?_)
    unfold blk
    show List.take 64 (List.drop (64 * (P.length / 64 + k)) (P ++ Z)) = _
    rw [show 64 * (P.length / 64 + k) = P.length + 64 * k by omega, List.drop_append]
    congr 1
    rw [List.drop_of_length_le (by omega), List.nil_append, show P.length + 64 * k - P.length = 64 * k by omega]
theorem rest_append (P Z : List Int) (h : P.length % 64 = 0) : rest (P ++ Z) = rest Z := by
  unfold rest
  rw [List.length_append, show 64 * ((P.length + Z.length) / 64) = P.length + 64 * (Z.length / 64) by omega, List.drop_append, List.drop_of_length_le (by omega), List.nil_append]
  congr 1
  omega
theorem rest_len (Z : List Int) : (rest Z).length = Z.length % 64 := by unfold rest; rw [List.length_drop]; omega
theorem blks_rest (Z : List Int) : blks (rest Z) = [] := by unfold blks; rw [rest_len, show Z.length % 64 / 64 = 0 by omega]; rfl
theorem cut64 (D : List Int) : D = D.take (64 * (D.length / 64)) ++ rest D := (List.take_append_drop _ _).symm
theorem cut64_len (D : List Int) : (D.take (64 * (D.length / 64))).length % 64 = 0 := by rw [List.length_take]; omega
theorem bls_append (P Z : List Int) (h : P.length % 64 = 0) : bls (P ++ Z) = bls P ++ bls Z := by unfold bls; rw [blks_append P Z h, List.map_append]
theorem bls_on (D ys : List Int) : bls (D ++ ys) = bls D ++ bls (rest D ++ ys) := by
  have h1 : bls D = bls (D.take (64 * (D.length / 64))) := by
    have h2 := bls_append (D.take (64 * (D.length / 64))) (rest D) (cut64_len D)
    rw [← cut64 D] at h2
    rw [h2]
    unfold bls
    rw [blks_rest]
    simp
  rw [h1, ← bls_append _ _ (cut64_len D), ← List.append_assoc, ← cut64 D]
theorem rest_on (D ys : List Int) : rest (D ++ ys) = rest (rest D ++ ys) := by
  have := rest_append (D.take (64 * (D.length / 64))) (rest D ++ ys) (cut64_len D)
  rw [← List.append_assoc, ← cut64 D] at this
  exact this
theorem foldB_append (s : St) (a b : List Blk) : foldB s (a ++ b) = foldB (foldB s a) b := by simp [foldB]
/-- the state behind bytes -/
def stOf (D : List Int) : St := foldB first (bls D)
theorem stOf_on (D ys : List Int) : stOf (D ++ ys) = foldB (stOf D) (bls (rest D ++ ys)) := by unfold stOf; rw [bls_on, foldB_append]
theorem stOf_ok (D : List Int) : (stOf D).ok := foldB_ok _ first_ok _
theorem Byt.append {a b : List Int} (ha : Byt a) (hb : Byt b) : Byt (a ++ b) := fun x hx => (List.mem_append.1 hx).elim (ha x) (hb x)
theorem Byt.rest {a : List Int} (ha : Byt a) : Byt (rest a) := ha.drop _

/-- A hash under way of bytes D. -/
def HD (S : Nat → Prop) (p : Nat) (w : World) (D : List Int) : Prop := Hs S p w (rest D) (stOf D) D.length
theorem HD.lt {S : Nat → Prop} {p : Nat} {w : World} {D : List Int} (h : HD S p w D) : p < w.heap.size := Hs.lt h
theorem HD.below {S : Nat → Prop} {m p : Nat} {w w' : World} {D : List Int} (h : HD S p w D) (hb : Below m w w') (hS : ∀ k, S k → k < m) (hp : p < m) : HD S p w' D := Hs.below h hb hS hp
theorem HD.mono {S S' : Nat → Prop} {p : Nat} {w : World} {D : List Int} (h : HD S p w D) (hs : ∀ k, S k → S' k) : HD S' p w D := Hs.mono h hs
theorem HD.same {S : Nat → Prop} {p : Nat} {w w' : World} {D : List Int} (h : HD S p w D) (hp : w'.heap[p]? = w.heap[p]?) (hS : ∀ k, S k → w'.heap[k]? = w.heap[k]?) : HD S p w' D := Hs.same h hp hS
theorem dNew (w : World) : Calls Try.prog 24 #[] w fun e w' => ∃ p, e = .returned (ptr p) ∧ HD (fun _ => False) p w' [] ∧ w.heap.size ≤ p ∧ Below w.heap.size w w' := hNew w
theorem dWrite {S : Nat → Prop} {p : Nat} {D : List Int} (A : Option Addr) (c : Nat) (ys : List Int) (w : World) (h : HD S p w D) (hx : Kd.C KB w A ys.length ys) (hc : ys.length ≤ c) (hD : Byt D) (hb : Byt ys) (hl : ys.length ≤ 3000000) (hn : D.length ≤ 100000000) :
    Calls Try.prog 25 #[ptr p, .slice A ys.length c] w fun e w' => e = .returned (.int .i64 0) ∧ HD (SB w.heap.size w'.heap.size) p w' (D ++ ys) ∧ But w.heap.size (at1 p) w w' := by
  have h2 := hWrite A c ys w h (stOf_ok D) hx hc (hD.rest.append hb) (by have := rest_len D; omega) hn
  rw [← rest_on, ← stOf_on, ← List.length_append] at h2
  exact h2
theorem dCopy {S : Nat → Prop} {p : Nat} {w : World} {D : List Int} (h : HD S p w D) : Calls Try.prog 30 #[ptr p] w fun e w' => ∃ q, e = .returned (ptr q) ∧ HD (SB w.heap.size q) q w' D ∧ w.heap.size ≤ q ∧ Below w.heap.size w w' := hCopy h (by have := rest_len D; omega)
theorem tailC (n : Nat) (w : World) (hn : n ≤ 1152921504606846976) : Calls Try.prog 41 #[.int .i64 n] w fun e w' => ∃ v, e = .returned (.tuple #[v, .int .i64 0]) ∧ OB w.heap.size w' v (tail n) ∧ Below w.heap.size w w' := sha1_Tail.calls 10 _ _ _ w (tail_prog 0 n hn)
theorem tail_le (n : Nat) : (tail n).length ≤ 72 := by have := tail_len n; have : tailZ n < 64 := Nat.mod_lt _ (by decide); omega
theorem tail_byt (n : Nat) : Byt (tail n) := by
  intro x hx
  unfold tail lenB at hx
  rcases List.mem_append.1 hx with hx | hx
  · rcases List.mem_cons.1 hx with rfl | hx
    · omega
    · obtain ⟨_, rfl⟩ := List.mem_replicate.1 hx
      omega
  · simp only [List.mem_cons, List.not_mem_nil, or_false] at hx
    rcases hx with rfl | rfl | rfl | rfl | rfl | rfl | rfl | rfl <;> omega
/-- a state's bytes -/
def byteW (s : St) (j : Nat) : Int := s.l.getD (j / 4) 0 / 256 ^ (3 - j % 4) % 256
def bytes20 (s : St) : List Int := (List.range 20).map (byteW s)
theorem bytes20_len (s : St) : (bytes20 s).length = 20 := by simp [bytes20]
theorem bytes20_take (s : St) (j : Nat) (hj : j < 20) : (bytes20 s).take (j + 1) = (bytes20 s).take j ++ [byteW s j] := by
  rw [List.take_succ_eq_append_getElem (by rw [bytes20_len]; exact hj)]
  simp [bytes20]
/-- the sum of bytes -/
def sumOf (D : List Int) : List Int := bytes20 (stOf (D ++ tail D.length))
theorem shr_word (x : Int) (hx : W32 x) (k : Nat) (hk : k < 4) : shr .u32 x (24 - 8 * (k : Int)) % 256 = x / 256 ^ (3 - k) % 256 := by
  unfold W32 at hx
  obtain ⟨x, rfl⟩ := Int.eq_ofNat_of_zero_le hx.1
  match k, hk with
  | 0, _ => rfl
  | 1, _ => rfl
  | 2, _ => rfl
  | 3, _ => simp [shr]
theorem pow256 (k : Nat) (hk : k < 4) : (256 : Int) ^ (3 - k) = 2 ^ (24 - 8 * k) := by
  match k, hk with
  | 0, _ => rfl
  | 1, _ => rfl
  | 2, _ => rfl
  | 3, _ => rfl
theorem zero20 (w : World) : (zeroValue 41).run Try.prog w = .ok (.agg (List.replicate 20 (.int .u8 0)).toArray) w := by kernel_rfl
set_option maxRecDepth 100000 in
theorem idx5 (s : St) (i : Nat) (hi : i < 5) (w : World) : (Instr.index 73 s.v (.int .i64 (i : Int))).run Try.prog w = .ok (.int .u32 (s.l.getD i 0)) w := by
  match i, hi with
  | 0, _ => show _ = _; rfl
  | 1, _ => show _ = _; rfl
  | 2, _ => show _ = _; rfl
  | 3, _ => show _ = _; rfl
  | 4, _ => show _ = _; rfl
theorem St.ok.getD {s : St} (h : s.ok) (i : Nat) : W32 (s.l.getD i 0) := by
  match i with
  | 0 => exact h.a
  | 1 => exact h.b
  | 2 => exact h.c
  | 3 => exact h.d
  | 4 => exact h.e
  | i + 5 =>
    have e : s.l.getD (i + 5) 0 = 0 := by simp [St.l, List.getD]
    rw [e]
    exact ⟨by decide, by decide⟩
set_option maxRecDepth 100000 in
set_option maxHeartbeats 4000000 in
theorem hSum {S : Nat → Prop} {p : Nat} {w : World} {D : List Int} (h : HD S p w D) (hD : Byt D) (hS : ∀ k, S k → k < w.heap.size) (hn : D.length ≤ 100000000) : Calls Try.prog 29 #[ptr p] w fun e w' => e = .returned (.agg ((sumOf D).map (Value.int .u8)).toArray) ∧ Below w.heap.size w w' := by
  have hp := h.lt
  have H := Aside0.mk h
  obtain ⟨zs, HZS, hz⟩ : ∃ zs, Aside0 (zs = (List.replicate 20 (Value.int .u8 0)).toArray) ∧ ∀ w, (zeroValue 41).run Try.prog w = .ok (.agg zs) w := ⟨_, ⟨rfl⟩, zero20⟩
  obtain ⟨bx, hbx⟩ : ∃ bx, ((sumOf D).map (Value.int .u8)).toArray = bx := ⟨_, rfl⟩
  rw [hbx]
  have HBX := Aside0.mk hbx
  clear h hbx
  go_enter Try.func29, Try.ntmps29
  go_wp2_with fail
  have hb0 := below_alloc (Below.refl w.heap.size w) (.cells zs 41)
  have H1 := Aside0.mk (H.out.below hb0 hS hp)
  have HB1 := Aside0.mk hb0
  have AR := Aside0.mk (Arr.new w 41 (List.replicate 20 0) zs (k := .u8) (by rw [HZS.out]; simp))
  obtain ⟨w1, hw1⟩ : ∃ w1, w.alloc (.cells zs 41) = w1 := ⟨_, rfl⟩
  have hs1 : w1.heap.size = w.heap.size + 1 := by rw [← hw1]; simp
  rw [hw1] at H1 HB1 AR ⊢
  clear hb0 H hw1
  refine (none_ H1.out).mono ?_
  rintro e _ ⟨rfl, rfl⟩
  go_wp2_with fail
  refine (dCopy H1.out).mono ?_
  rintro e w2 ⟨q, rfl, h2, hq, hb2⟩
  have H2 := Aside0.mk h2
  have HB2 := Aside0.mk hb2
  have AR2 := Aside0.mk (AR.out.later hb2)
  have c6 : w2.cell? ⟨p, 6, none⟩ = some (.int .i64 D.length) := by
    obtain ⟨v, h3, _⟩ := H1.out
    exact (h3.below hb2 (by omega) 6 _ rfl).1
  clear h2 hb2 H1 AR
  go_wp2_with fail
  refine (tailC D.length w2 (by omega)).mono ?_
  rintro e w3 ⟨v, rfl, ho, hb3⟩
  have hbt := H2.out.lt
  have H3 := Aside0.mk (H2.out.below hb3 (fun k hk => by have := hk.2; omega) hbt)
  have HB3 := Aside0.mk hb3
  have HO := Aside0.mk ho
  have AR3 := Aside0.mk (AR2.out.later hb3)
  obtain ⟨A, c, rfl, hc, hC⟩ := HO.out.reads
  have HC := Aside0.mk hC
  clear ho hb3 H2 AR2 c6 hC
  go_wp2_with fail
  have HW := Aside0.mk (dWrite A c (tail D.length) w3 H3.out HC.out hc hD (tail_byt _) (by have := tail_le D.length; omega) hn)
  refine HW.out.mono ?_
  rintro e w4 ⟨rfl, h4, hb4⟩
  have z2 := HB2.out.size
  have z3 := HB3.out.size
  have AR4 := Aside0.mk (AR3.out.same (hb4.block w.heap.size (by omega) (by show ¬ w.heap.size = q; omega)))
  have B4 : Aside0 (Below w.heap.size w w4) := ⟨((HB1.out.trans (HB2.out.mono (by omega))).trans (HB3.out.mono (by omega))).trans (hb4.below (by omega) (fun j hj e => by have : j = q := e; omega))⟩
  have hso : sumOf D = bytes20 (stOf (D ++ tail D.length)) := rfl
  have huo := stOf_ok (D ++ tail D.length)
  obtain ⟨u, hu⟩ : ∃ u, stOf (D ++ tail D.length) = u := ⟨_, rfl⟩
  unfold HD at h4
  rw [hu] at h4 hso huo
  obtain ⟨v4, o4, _⟩ := h4
  have p1 := (o4 1 _ rfl).1
  have p2 := (o4 2 _ rfl).1
  have p3 := (o4 3 _ rfl).1
  have p4 := (o4 4 _ rfl).1
  have p5 := (o4 5 _ rfl).1
  have HSO := Aside0.mk hso
  clear hb4 AR3 H3 HC HO HB1 HB2 HB3 o4 hu HW hso
  go_wp2_with fail
  clear p1 p2 p3 p4 p5
  go_loopg [29] 5 (fun gk s29 w' => ∃ i : Nat, i ≤ 5 ∧ 5 - i ≤ gk ∧ s29 = .int .i64 i ∧ Aside0 (Arr .u8 w.heap.size 41 w' ((bytes20 u).take (4 * i) ++ List.replicate (20 - 4 * i) 0)) ∧ Aside0 (Below w.heap.size w w'))
  case atStart => exact ⟨0, by omega, by omega, rfl, AR4, B4⟩
  case round =>
    clear AR4 B4
    obtain ⟨i, hi, hgi, rfl, AR, B⟩ := hrel
    by_cases hlt : i < 5
    · have hidx := idx5 u i hlt
      have hxw := huo.getD i
      obtain ⟨x, hx⟩ : ∃ x, u.l.getD i 0 = x := ⟨_, rfl⟩
      rw [hx] at hidx hxw
      have HX := Aside0.mk hx
      obtain ⟨W0, rfl⟩ : ∃ W, W = wr := ⟨_, rfl⟩
      obtain ⟨G, rfl⟩ : ∃ G, G = gk := ⟨_, rfl⟩
      clear hx
      go_wp2_with fail
      go_loopg [33] 4 (fun gk s33 w' => ∃ k : Nat, k ≤ 4 ∧ 4 - k ≤ gk ∧ s33 = .int .i64 k ∧ Aside0 (Arr .u8 w.heap.size 41 w' ((bytes20 u).take (4 * i + k) ++ List.replicate (20 - (4 * i + k)) 0)) ∧ Aside0 (Below w.heap.size w w'))
      case atStart => exact ⟨0, by omega, by omega, rfl, AR, B⟩
      case round =>
        clear AR B
        obtain ⟨k, hk, hgk, rfl, AR, B⟩ := hrel
        by_cases hkt : k < 4
        · have HSH := Aside0.mk (shr_word x hxw k hkt)
          obtain ⟨m, hm⟩ : ∃ m : Nat, 4 * i + k = m := ⟨_, rfl⟩
          rw [hm] at AR
          have hmi : 4 * (i : Int) + (k : Int) = (m : Int) := by omega
          have hm20 : m < 20 := by omega
          have hm20' : (m : Int) < 20 := by omega
          have hlen : ((bytes20 u).take m).length = m := by rw [List.length_take, bytes20_len]; omega
          obtain ⟨cm, fm⟩ := AR.out.cell m (by rw [List.length_append, hlen, List.length_replicate]; omega)
          have HM := Aside0.mk hm
          have HLEN := Aside0.mk hlen
          clear hm hlen
          go_wp2_with fail
          go_roundg (gk - 1)
          case measure => omega
          case rel =>
            refine ⟨k + 1, by omega, by omega, by go_num, ⟨?_⟩, ⟨B.out.setCell (Nat.le_refl _) _⟩⟩
            have h5 := AR.out.put m (x / 2 ^ (24 - 8 * k) % 256)
            have h6 := set_end ((bytes20 u).take m) (20 - m) (x / 2 ^ (24 - 8 * k) % 256) (by omega)
            rw [HLEN.out] at h6
            have hbw : byteW u m = x / 2 ^ (24 - 8 * k) % 256 := by
              unfold byteW
              rw [show m / 4 = i by have := HM.out; omega, show m % 4 = k by have := HM.out; omega, HX.out, pow256 k hkt]
            rw [h6, ← hbw, ← bytes20_take u m hm20] at h5
            rw [show 4 * i + (k + 1) = m + 1 by have := HM.out; omega, show 20 - (m + 1) = 20 - m - 1 by omega]
            rw [hbw] at h5
            exact h5
        · obtain rfl : k = 4 := by omega
          go_wp2_with fail
          go_roundg (G - 1)
          case measure => omega
          case rel => exact ⟨i + 1, by omega, by omega, by go_num, AR, B⟩
    · obtain rfl : i = 5 := by omega
      have ar := AR.out
      rw [show 4 * 5 = 20 from rfl, List.take_of_length_le (by rw [bytes20_len]; omega), show 20 - 20 = 0 from rfl, List.replicate_zero, List.append_nil] at ar
      have hld := arr_load ar 41 Try.underlying41 (by rw [bytes20_len]; kernel_rfl)
      obtain ⟨W', hst, ar2, hb⟩ := arr_store ar 41 (bytes20 u) rfl (by rw [bytes20_len]; kernel_rfl)
      have hbs : (bytes20 u).length = 20 := bytes20_len u
      unfold Arr at ar2
      rw [← HSO.out] at ar2 hld hst hbs
      have hbz : bx.size = 20 := by rw [← HBX.out]; simpa using hbs
      rw [HBX.out] at ar2 hld hst
      have HLD := Aside0.mk hld
      have HST := Aside0.mk hst
      have AR2 := Aside0.mk ar2
      have HB := Aside0.mk hb
      have HBZ := Aside0.mk hbz
      clear ar hld hst ar2 hb hbs hbz hz
      go_wp2_with (first | (refine pl_load rfl 41 _ rfl _ _ HLD.out rfl ?_) | (refine pl_store rfl 41 _ _ rfl _ _ HST.out rfl rfl ?_))
      exact bodyPost_ret (results_cell_row rfl _ _ w.heap.size 41 _ (0, 0) (.array 20 5) rfl AR2.out Try.underlying41 rfl (by rw [HBZ.out]; kernel_rfl)) rfl ⟨rfl, B.out.trans (HB.out.below B.out.size (fun j hj e => by have : j = w.heap.size := e; omega))⟩
end Go.Proofs.Ytfeohojpjncgaaa.Sha
