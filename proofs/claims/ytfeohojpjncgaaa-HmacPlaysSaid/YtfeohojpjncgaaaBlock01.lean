/- Contract of Block. -/
import Derived.Test.YtfeohojpjncgaaaWord01
import Derived.Test.YtfeohojpjncgaaaArr
import Derived.Test.YtfeohojpjncgaaaLex
set_option linter.unusedSimpArgs false
set_option linter.unusedVariables false
namespace Go.Proofs.Ytfeohojpjncgaaa.Sha
open Go.RowKit Go.Proofs.YtfeohojpjncgaaaW.PrintWords Go.Proofs.YtfeohojpjncgaaaW.PrintLast Go.Proofs.YtfeohojpjncgaaaW.PrintMore Go.Proofs.Ytfeohojpjncgaaa.PSha1Plays Go.Proofs.Ytfeohojpjncgaaa.Lex Go.Proofs.Ytfeohojpjncgaaa.Lib
theorem putQ_normal {Q : Exit → Act → World → Prop} {K : Act → World → Prop} {a : Act} {w : World} (h : K a w) : putQ Q K .normal a w := h
theorem zero80 (w : World) : (zeroValue 97).run Try.prog w = .ok (.agg (List.replicate 80 (.int .u32 0)).toArray) w := by kernel_rfl
theorem sl64 (q k : Nat) (hk : k < 16) (W : World) : (Instr.sliceAt 25 (.pointer (some ⟨q, 0, none⟩)) (some (.int .i64 (4 * (k : Int)))) none none).run Try.prog W = .ok (.slice (some ⟨q, 4 * k, none⟩) (64 - 4 * k) (64 - 4 * k)) W := by
  have ha : Try.prog.arrayLen 25 = 64 := by kernel_rfl
  rw [run_sliceAt_array_l W _ _ (by kernel_rfl) .i64 _ (by omega) (by rw [ha]; omega), ha]
  have hs : (sizeOf (Try.prog.elem 25)).run Try.prog W = .ok 1 W := by kernel_rfl
  rw [hs]
  show Result.ok (slicedAt ⟨q, 0, none⟩ (4 * (k : Int)).toNat 64 64 1) W = _
  have e : (4 * (k : Int)).toNat = 4 * k := by omega
  rw [e]
  unfold slicedAt
  rw [if_neg (by omega), Nat.mul_one, add_none, Nat.zero_add]
theorem getD_seg (bs : List Int) (a b i : Nat) (h : a + i < b) : ((bs.take b).drop a).getD i 0 = bs.getD (a + i) 0 := by
  rw [List.getD_eq_getElem?_getD, List.getD_eq_getElem?_getD, List.getElem?_drop, List.getElem?_take, if_pos h]
theorem word_seg (bs : List Int) (k : Nat) : word ((bs.take (4 * k + 4)).drop (4 * k)) 0 = word bs (4 * k) := by
  unfold word
  rw [getD_seg _ _ _ _ (by omega), getD_seg _ _ _ _ (by omega), getD_seg _ _ _ _ (by omega), getD_seg _ _ _ _ (by omega)]
  rfl
theorem words_succ (bs : List Int) (k : Nat) : words bs (k + 1) = words bs k ++ [word bs (4 * k)] := by
  simp [words, List.range_succ]
theorem sched_getD (ws : List Int) (n i : Nat) (rest : List Int) (hi : i < (sched ws n).length) : (sched ws n ++ rest).getD i 0 = (sched ws n).getD i 0 := by
  rw [List.getD_eq_getElem?_getD, List.getD_eq_getElem?_getD, List.getElem?_append_left hi]
theorem wrapm (i k : Nat) (hk : k ≤ i) (hi : i < 1000000) : wrap64 ((i : Int) - (k : Int)) = ((i - k : Nat) : Int) := by
  unfold wrap64
  omega
abbrev pcells : Array Value := #[.int .i64 20, .func (.func 55) #[] #[], .int .u32 1518500249, .int .i64 40, .func (.func 54) #[] #[], .int .u32 1859775393, .int .i64 60, .func (.func 56) #[] #[], .int .u32 2400959708, .int .i64 80, .func (.func 54) #[] #[], .int .u32 3395469782]
structure Part (j g : Nat) (K : Int) : Prop where
  e : ∀ args w, (callFunc g args).run Try.prog w = .ok (.enter g args) w
  k : ∀ i, 20 * j ≤ i → i < 20 * (j + 1) → kOf i = K
  f : ∀ i, 20 * j ≤ i → i < 20 * (j + 1) → ∀ b c d W, W32 b → Calls Try.prog g #[.int .u32 b, .int .u32 c, .int .u32 d] W fun e W' => e = .returned (.int .u32 (fOf i b c d)) ∧ W = W'
theorem part_ (j P : Nat) (hj : j < 4) (W : World) (h : W.heap[P]? = some (.cells pcells 103 (0, 0))) : ∃ g K, Part j g K ∧ W.cell? ⟨P, j * 3, none⟩ = some (.int .i64 ((20 * (j + 1) : Nat) : Int)) ∧ W.cell? ⟨P, j * 3 + 1, none⟩ = some (.func (.func g) #[] #[]) ∧ W.cell? ⟨P, j * 3 + 2, none⟩ = some (.int .u32 K) := by
  have hc := fun i => cell_of_row W P i pcells _ _ h
  rcases (by omega : j = 0 ∨ j = 1 ∨ j = 2 ∨ j = 3) with rfl | rfl | rfl | rfl
  · refine ⟨_, _, ⟨fun args w => by kernel_rfl, fun i h1 h2 => ?_, fun i h1 h2 b c d W hb => ?_⟩, (hc _).trans rfl, (hc _).trans rfl, (hc _).trans rfl⟩
    · unfold kOf; rw [if_pos (by omega)]
    · rw [show fOf i b c d = _ by unfold fOf; rw [if_pos (by omega)]]; exact do2 b c d W hb
  · refine ⟨_, _, ⟨fun args w => by kernel_rfl, fun i h1 h2 => ?_, fun i h1 h2 b c d W hb => ?_⟩, (hc _).trans rfl, (hc _).trans rfl, (hc _).trans rfl⟩
    · unfold kOf; rw [if_neg (by omega), if_pos (by omega)]
    · rw [show fOf i b c d = _ by unfold fOf; rw [if_neg (by omega), if_pos (by omega)]]; exact do1 b c d W
  · refine ⟨_, _, ⟨fun args w => by kernel_rfl, fun i h1 h2 => ?_, fun i h1 h2 b c d W hb => ?_⟩, (hc _).trans rfl, (hc _).trans rfl, (hc _).trans rfl⟩
    · unfold kOf; rw [if_neg (by omega), if_neg (by omega), if_pos (by omega)]
    · rw [show fOf i b c d = _ by unfold fOf; rw [if_neg (by omega), if_neg (by omega), if_pos (by omega)]]; exact do3 b c d W
  · refine ⟨_, _, ⟨fun args w => by kernel_rfl, fun i h1 h2 => ?_, fun i h1 h2 b c d W hb => ?_⟩, (hc _).trans rfl, (hc _).trans rfl, (hc _).trans rfl⟩
    · unfold kOf; rw [if_neg (by omega), if_neg (by omega), if_neg (by omega)]
    · rw [show fOf i b c d = _ by unfold fOf; rw [if_neg (by omega), if_neg (by omega), if_neg (by omega)]]; exact do1 b c d W
def fin (t s : St) (k : Nat) : List Int := (List.range 5).map fun i => if i < k then add (t.l.getD i 0) (s.l.getD i 0) else t.l.getD i 0
theorem fin_zero (t s : St) : fin t s 0 = t.l := rfl
theorem fin_five (t s : St) : fin t s 5 = (final t s).l := rfl
theorem fin_step (t s : St) (k : Nat) (hk : k < 5) : (fin t s k).getD k 0 = t.l.getD k 0 ∧ (fin t s k).set k (add (t.l.getD k 0) (s.l.getD k 0)) = fin t s (k + 1) := by
  rcases (by omega : k = 0 ∨ k = 1 ∨ k = 2 ∨ k = 3 ∨ k = 4) with rfl | rfl | rfl | rfl | rfl <;> exact ⟨rfl, rfl⟩
set_option maxHeartbeats 6000000 in
theorem block_ (s : St) (hs : s.ok) (bs : List Int) (hb : Byt bs) (hl : bs.length = 64) (w : World) : Calls Try.prog 39 #[s.v, .agg (bs.map (Value.int .u8)).toArray] w fun e w' => e = .returned (block s bs).v ∧ Below w.heap.size w w' := by
  have HS := Aside0.mk hs
  have HB := Aside0.mk hb
  have HL := Aside0.mk hl
  clear hs hb hl
  obtain ⟨zs, HZ, hz⟩ : ∃ zs, Aside0 (zs = ((List.replicate 80 (0 : Int)).map (Value.int .u32)).toArray) ∧ ∀ w, (zeroValue 97).run Try.prog w = .ok (.agg zs) w := ⟨_, ⟨rfl⟩, zero80⟩
  obtain ⟨xs, HX, hx⟩ : ∃ xs, Aside0 (xs = (bs.map (Value.int .u8)).toArray) ∧ (bs.map (Value.int .u8)).toArray = xs := ⟨_, ⟨rfl⟩, rfl⟩
  rw [hx]
  clear hx
  go_enter Try.func39, Try.ntmps39
  go_wp2_with fail
  have hszx : (w.alloc (.cells #[.int .u32 s.a, .int .u32 s.b, .int .u32 s.c, .int .u32 s.d, .int .u32 s.e] 73)).heap.size = w.heap.size + 1 := by rw [World.size_alloc]
  have A0 : Arr .u32 w.heap.size 73 (w.alloc (.cells #[.int .u32 s.a, .int .u32 s.b, .int .u32 s.c, .int .u32 s.d, .int .u32 s.e] 73)) s.l := Arr.new _ _ _ _ rfl
  have B0 := below_alloc (Below.refl w.heap.size w) (.cells #[.int .u32 s.a, .int .u32 s.b, .int .u32 s.c, .int .u32 s.d, .int .u32 s.e] 73)
  obtain ⟨V0, hV0⟩ : ∃ W, w.alloc (.cells #[.int .u32 s.a, .int .u32 s.b, .int .u32 s.c, .int .u32 s.d, .int .u32 s.e] 73) = W := ⟨_, rfl⟩
  rw [hV0] at hszx A0 B0 ⊢
  have A1 : Arr .u8 (w.heap.size + 1) 25 (V0.alloc (.cells xs 25)) bs := Arr.newAt _ _ _ hszx _ _ HX.out
  have A0 := A0.later (below_alloc (Below.refl V0.heap.size V0) (.cells xs 25))
  have B0 := below_alloc B0 (.cells xs 25)
  have hszy : (V0.alloc (.cells xs 25)).heap.size = w.heap.size + 1 + 1 := by rw [World.size_alloc, hszx]
  obtain ⟨V1, hV1⟩ : ∃ W, V0.alloc (.cells xs 25) = W := ⟨_, rfl⟩
  rw [hV1] at hszy A0 A1 B0 ⊢
  clear hV0 hV1 hszx
  have A2 : Arr .u32 (w.heap.size + 1 + 1) 73 (V1.alloc (.cells #[.int .u32 0, .int .u32 0, .int .u32 0, .int .u32 0, .int .u32 0] 73)) [0, 0, 0, 0, 0] := Arr.newAt _ _ _ hszy _ _ rfl
  have A0 := A0.later (below_alloc (Below.refl V1.heap.size V1) (.cells #[.int .u32 0, .int .u32 0, .int .u32 0, .int .u32 0, .int .u32 0] 73))
  have A1 := A1.later (below_alloc (Below.refl V1.heap.size V1) (.cells #[.int .u32 0, .int .u32 0, .int .u32 0, .int .u32 0, .int .u32 0] 73))
  have B0 := below_alloc B0 (.cells #[.int .u32 0, .int .u32 0, .int .u32 0, .int .u32 0, .int .u32 0] 73)
  have hszz : (V1.alloc (.cells #[.int .u32 0, .int .u32 0, .int .u32 0, .int .u32 0, .int .u32 0] 73)).heap.size = w.heap.size + 1 + 1 + 1 := by rw [World.size_alloc, hszy]
  obtain ⟨V2, hV2⟩ : ∃ W, V1.alloc (.cells #[.int .u32 0, .int .u32 0, .int .u32 0, .int .u32 0, .int .u32 0] 73) = W := ⟨_, rfl⟩
  rw [hV2] at hszz A0 A1 A2 B0 ⊢
  clear hV2 hszy
  have A3 : Arr .u32 (w.heap.size + 1 + 1 + 1) 97 (V2.alloc (.cells zs 97)) (List.replicate 80 0) := Arr.newAt _ _ _ hszz _ _ HZ.out
  have A0 := A0.later (below_alloc (Below.refl V2.heap.size V2) (.cells zs 97))
  have A1 := A1.later (below_alloc (Below.refl V2.heap.size V2) (.cells zs 97))
  have A2 := A2.later (below_alloc (Below.refl V2.heap.size V2) (.cells zs 97))
  have B0 := below_alloc B0 (.cells zs 97)
  have hszw : (V2.alloc (.cells zs 97)).heap.size = w.heap.size + 1 + 1 + 1 + 1 := by rw [World.size_alloc, hszz]
  obtain ⟨V3, hV3⟩ : ∃ W, V2.alloc (.cells zs 97) = W := ⟨_, rfl⟩
  rw [hV3] at hszw A0 A1 A2 A3 B0 ⊢
  clear hV3 hszz
  obtain ⟨q3, hq3⟩ : ∃ q, w.heap.size + 1 + 1 + 1 = q := ⟨_, rfl⟩
  rw [hq3] at hszw A3 ⊢
  obtain ⟨q2, hq2⟩ : ∃ q, w.heap.size + 1 + 1 = q := ⟨_, rfl⟩
  rw [hq2] at A2 ⊢
  obtain ⟨q1, hq1⟩ : ∃ q, w.heap.size + 1 = q := ⟨_, rfl⟩
  rw [hq1] at A1 ⊢
  obtain ⟨q0, hq0⟩ : ∃ q, w.heap.size = q := ⟨_, rfl⟩
  rw [hq0] at A0 B0 ⊢
  have HQ0 := Aside0.mk hq0
  have HQ := Aside0.mk (show q1 = q0 + 1 ∧ q2 = q0 + 2 ∧ q3 = q0 + 3 ∧ V3.heap.size = q0 + 4 by omega)
  have A0 := Aside0.mk A0
  have A1 := Aside0.mk A1
  have A2 := Aside0.mk A2
  have B0 := Aside0.mk B0
  have A3 := Aside0.mk A3
  clear hszw hq3 hq2 hq1 hq0 hz
  go_loopg [14] 16 (fun gk s14 w' => ∃ k : Nat, k ≤ 16 ∧ 16 - k ≤ gk ∧ s14 = .int .i64 k ∧ Arr .u32 q3 97 w' (words bs k ++ List.replicate (80 - k) 0) ∧ Below q3 V3 w')
  case atStart => exact ⟨0, by omega, by omega, rfl, A3.out, Below.refl _ _⟩
  case round =>
    obtain ⟨k, hk, hgk, rfl, hA, hB⟩ := hrel
    have A3 := Aside0.mk hA
    have B1 := Aside0.mk hB
    clear hA hB
    by_cases hlt : k < 16
    · have h4 : wrap64 (4 * (k : Int)) = ((4 * k : Nat) : Int) := by unfold wrap64; omega
      obtain ⟨f1, f2⟩ := A3.out.cell k (by simp [words_len]; omega)
      have hsl := sl64 q1 k hlt
      go_wp2_with fail
      refine (word_ _ _ _ ((bs.take (4 * k + 4)).drop (4 * k)) _ (by have := Arr.seg (A1.out.below B1.out (by have := HQ.out; omega)) (by rw [HL.out]; decide) (4 * k) (4 * k + 4) (by omega) (by rw [HL.out]; omega); rw [Nat.add_sub_cancel_left] at this; exact this) ((HB.out.take _).drop _) (by omega) (Nat.le_refl _)).mono ?_
      rintro e _ ⟨rfl, rfl⟩
      rw [word_seg]
      go_wp2_with fail
      go_roundg (gk - 1)
      case measure => omega
      case rel =>
        refine ⟨k + 1, by omega, by omega, by go_num, ?_, B1.out.setCell (Nat.le_refl _) _⟩
        have h5 := A3.out.put k (word bs (4 * k))
        have h6 := set_end (words bs k) (80 - k) (word bs (4 * k)) (by omega)
        rw [words_len] at h6
        rw [h6] at h5
        rw [words_succ, show 80 - (k + 1) = 80 - k - 1 by omega]
        exact h5
    · obtain rfl : k = 16 := by omega
      go_wp2_with fail
      rw [show words bs 16 ++ List.replicate (80 - 16) 0 = sched (words bs 16) 0 ++ List.replicate (64 - 0) 0 from rfl] at A3
      go_loopg [7] 64 (fun gk s7 w' => ∃ n : Nat, n ≤ 64 ∧ 64 - n ≤ gk ∧ s7 = .int .i64 ((16 + n : Nat) : Int) ∧ Arr .u32 q3 97 w' (sched (words bs 16) n ++ List.replicate (64 - n) 0) ∧ Below q3 V3 w')
      case atStart => exact ⟨0, by omega, by omega, rfl, A3.out, B1.out⟩
      case round =>
        clear A3 B1
        obtain ⟨n, hk, hgk, rfl, hA, hB⟩ := hrel
        have A3 := Aside0.mk hA
        have B1 := Aside0.mk hB
        clear hA hB
        have hsl : (sched (words bs 16) n).length = 16 + n := by rw [sched_len, words_len]
        by_cases hlt : n < 64
        · have e3 : wrap64 (((16 + n : Nat) : Int) - 3) = ((16 + n - 3 : Nat) : Int) := wrapm (16 + n) 3 (by omega) (by omega)
          have e8 : wrap64 (((16 + n : Nat) : Int) - 8) = ((16 + n - 8 : Nat) : Int) := wrapm (16 + n) 8 (by omega) (by omega)
          have e14 : wrap64 (((16 + n : Nat) : Int) - 14) = ((16 + n - 14 : Nat) : Int) := wrapm (16 + n) 14 (by omega) (by omega)
          have e16 : wrap64 (((16 + n : Nat) : Int) - 16) = ((16 + n - 16 : Nat) : Int) := wrapm (16 + n) 16 (by omega) (by omega)
          obtain ⟨c3, f3⟩ := A3.out.cell (16 + n - 3) (by simp [hsl]; omega)
          obtain ⟨c8, f8⟩ := A3.out.cell (16 + n - 8) (by simp [hsl]; omega)
          obtain ⟨c14, f14⟩ := A3.out.cell (16 + n - 14) (by simp [hsl]; omega)
          obtain ⟨c16, f16⟩ := A3.out.cell (16 + n - 16) (by simp [hsl]; omega)
          rw [sched_getD _ _ _ _ (by rw [hsl]; omega)] at c3 c8 c14 c16
          have hN : nextW (sched (words bs 16) n) = rot 1 (xor (xor (xor ((sched (words bs 16) n).getD (16 + n - 3) 0) ((sched (words bs 16) n).getD (16 + n - 8) 0)) ((sched (words bs 16) n).getD (16 + n - 14) 0)) ((sched (words bs 16) n).getD (16 + n - 16) 0)) := by unfold nextW; rw [hsl]
          have h9 : (sched (words bs 16) n ++ List.replicate (64 - n) 0).set (16 + n) (nextW (sched (words bs 16) n)) = sched (words bs 16) (n + 1) ++ List.replicate (64 - (n + 1)) 0 := by
            have h6 := set_end (sched (words bs 16) n) (64 - n) (nextW (sched (words bs 16) n)) (by omega)
            rw [hsl] at h6
            exact h6
          obtain ⟨i, hi⟩ : ∃ i, 16 + n = i := ⟨_, rfl⟩
          obtain ⟨x3, hx3⟩ : ∃ x, (sched (words bs 16) n).getD (16 + n - 3) 0 = x := ⟨_, rfl⟩
          obtain ⟨x8, hx8⟩ : ∃ x, (sched (words bs 16) n).getD (16 + n - 8) 0 = x := ⟨_, rfl⟩
          obtain ⟨x14, hx14⟩ : ∃ x, (sched (words bs 16) n).getD (16 + n - 14) 0 = x := ⟨_, rfl⟩
          obtain ⟨x16, hx16⟩ : ∃ x, (sched (words bs 16) n).getD (16 + n - 16) 0 = x := ⟨_, rfl⟩
          rw [hx3] at c3 hN
          rw [hx8] at c8 hN
          rw [hx14] at c14 hN
          rw [hx16] at c16 hN
          rw [hi] at e3 e8 e14 e16 c3 c8 c14 c16 h9
          obtain ⟨a3, ha3⟩ : ∃ a, i - 3 = a := ⟨_, rfl⟩
          obtain ⟨a8, ha8⟩ : ∃ a, i - 8 = a := ⟨_, rfl⟩
          obtain ⟨a14, ha14⟩ : ∃ a, i - 14 = a := ⟨_, rfl⟩
          obtain ⟨a16, ha16⟩ : ∃ a, i - 16 = a := ⟨_, rfl⟩
          rw [ha3] at e3 c3
          rw [ha8] at e8 c8
          rw [ha14] at e14 c14
          rw [ha16] at e16 c16
          have hi80 : (i : Int) < 80 := by omega
          have hb3 : (a3 : Int) < 80 := by omega
          have hb8 : (a8 : Int) < 80 := by omega
          have hb14 : (a14 : Int) < 80 := by omega
          have hb16 : (a16 : Int) < 80 := by omega
          have HR := Aside0.mk (rot_lib 1 (.inl rfl) (xor (xor (xor x3 x8) x14) x16) (bits_w _ _ _))
          have HN := Aside0.mk hN
          have H9 := Aside0.mk h9
          have HI := Aside0.mk (show 16 + n = i from hi)
          have H24 := Aside0.mk hlt
          obtain ⟨ci, fi⟩ := A3.out.cell i (by simp [hsl]; omega)
          rw [hi]
          clear hx3 hx8 hx14 hx16 hN h9 ha3 ha8 ha14 ha16 f3 f8 f14 f16 hi hsl hlt
          go_wp2_with fail
          refine region [(0, .p), (1, .p), (2, .p), (3, .p), (5, .p), (6, .p), (7, .p), (10, .p), (11, .p), (12, .p), (15, .p), (16, .p), (17, .p), (4, .t), (8, .t), (9, .p), (13, .t), (14, .p), (18, .t), (19, .p), (20, .o), (21, .p), (22, .e)] (fun W => W.cell? ⟨q3, a3, none⟩ = some (.int .u32 x3) ∧ W.cell? ⟨q3, a8, none⟩ = some (.int .u32 x8) ∧ W.cell? ⟨q3, a14, none⟩ = some (.int .u32 x14) ∧ W.cell? ⟨q3, a16, none⟩ = some (.int .u32 x16)) (by kernel_rfl) (by kernel_rfl) (fun _ _ _ _ _ h => h) (⟨c3, c8, c14, c16⟩) (fun hHeld => ?_)
          iterate 13 (refine lex_p rfl rfl rfl (by intro w'; go_simp; with_reducible rfl) (by simp only [Act.put, List.setIfInBounds_toArray, List.set_cons_zero, List.set_cons_succ, i64_w, i32_w]; rfl) ?_)
          iterate 2 (refine lex_t rfl rfl rfl (by rintro w' ⟨s1, s2, s3, s4⟩; go_simp; with_reducible rfl) (by simp only [Act.put, List.setIfInBounds_toArray, List.set_cons_zero, List.set_cons_succ, i64_w, i32_w]; rfl) ?_)
          (refine lex_p rfl rfl rfl (by intro w'; go_simp; with_reducible rfl) (by simp only [Act.put, List.setIfInBounds_toArray, List.set_cons_zero, List.set_cons_succ, i64_w, i32_w]; rfl) ?_)
          (refine lex_t rfl rfl rfl (by rintro w' ⟨s1, s2, s3, s4⟩; go_simp; with_reducible rfl) (by simp only [Act.put, List.setIfInBounds_toArray, List.set_cons_zero, List.set_cons_succ, i64_w, i32_w]; rfl) ?_)
          (refine lex_p rfl rfl rfl (by intro w'; go_simp; with_reducible rfl) (by simp only [Act.put, List.setIfInBounds_toArray, List.set_cons_zero, List.set_cons_succ, i64_w, i32_w]; rfl) ?_)
          (refine lex_t rfl rfl rfl (by rintro w' ⟨s1, s2, s3, s4⟩; go_simp; with_reducible rfl) (by simp only [Act.put, List.setIfInBounds_toArray, List.set_cons_zero, List.set_cons_succ, i64_w, i32_w]; rfl) ?_)
          (refine lex_p rfl rfl rfl (by intro w'; go_simp; with_reducible rfl) (by simp only [Act.put, List.setIfInBounds_toArray, List.set_cons_zero, List.set_cons_succ, i64_w, i32_w]; rfl) ?_)
          refine lex_o rfl ?_
          go_wp2_with fail
          refine (bits_RotateLeft32.calls _ 1 _ _ HR.out).mono ?_
          rintro e w2 ⟨rfl, hd⟩
          have HD := Aside0.mk hd
          clear hd
          go_wp2_with fail
          refine lex_end (by first | (simp only [Act.put, List.setIfInBounds_toArray, List.set_cons_zero, List.set_cons_succ, i64_w, i32_w]; rfl) | rfl) (⟨pw_cell_below HD.out.below c3, pw_cell_below HD.out.below c8, pw_cell_below HD.out.below c14, pw_cell_below HD.out.below c16⟩) (fun hHeld => ?_)
          (refine lex_p rfl rfl rfl (by intro w'; go_simp; with_reducible rfl) (by simp only [Act.put, List.setIfInBounds_toArray, List.set_cons_zero, List.set_cons_succ, i64_w, i32_w]; rfl) ?_)
          refine lex_e rfl ?_
          have ci2 := pw_cell_below HD.out.below ci
          have fi2 : w2.frozen? ⟨q3, i, none⟩ = false := (World.frozen?_of_block (w := wr) (a := ⟨q3, i, none⟩) (HD.out.below.block _ A3.out.lt)).trans fi
          go_wp2_with fail
          refine putQ_normal ?_
          go_wp2_with fail
          go_roundg (gk - 1)
          case measure => have := HI.out; omega
          case rel =>
            refine ⟨n + 1, by have := H24.out; omega, by have := H24.out; omega, by rw [show ((16 + (n + 1) : Nat) : Int) = (i : Int) + 1 by have := HI.out; omega], ?_, ((below_drew B1.out).trans (HD.out.below.mono (show q3 ≤ wr.heap.size by have := A3.out.lt; omega))).setCell (Nat.le_refl _) _⟩
            have h5 := (Arr.later (w := wr.drew) A3.out HD.out.below).put i (rot 1 (xor (xor (xor x3 x8) x14) x16))
            rw [← HN.out, H9.out, HN.out] at h5
            exact h5
        · obtain rfl : n = 64 := by omega
          have k0 : wr.cell? ⟨q0, 0, none⟩ = some (.int .u32 s.a) := ((A0.out.below B1.out (by have := HQ.out; omega)).cell 0 (by simp [St.l])).1
          have k1 : wr.cell? ⟨q0, 1, none⟩ = some (.int .u32 s.b) := ((A0.out.below B1.out (by have := HQ.out; omega)).cell 1 (by simp [St.l])).1
          have k2 : wr.cell? ⟨q0, 2, none⟩ = some (.int .u32 s.c) := ((A0.out.below B1.out (by have := HQ.out; omega)).cell 2 (by simp [St.l])).1
          have k3 : wr.cell? ⟨q0, 3, none⟩ = some (.int .u32 s.d) := ((A0.out.below B1.out (by have := HQ.out; omega)).cell 3 (by simp [St.l])).1
          have k4 : wr.cell? ⟨q0, 4, none⟩ = some (.int .u32 s.e) := ((A0.out.below B1.out (by have := HQ.out; omega)).cell 4 (by simp [St.l])).1
          go_wp2_with fail
          clear k0 k1 k2 k3 k4
          have hp8 : Arr .u32 wr.heap.size 73 (wr.alloc (.cells #[.int .u32 s.a, .int .u32 s.b, .int .u32 s.c, .int .u32 s.d, .int .u32 s.e] 73)) s.l := Arr.new _ _ _ _ rfl
          have hsz : (wr.alloc (.cells #[.int .u32 s.a, .int .u32 s.b, .int .u32 s.c, .int .u32 s.d, .int .u32 s.e] 73)).heap.size = wr.heap.size + 1 := by rw [World.size_alloc]
          have hb8 := below_alloc (Below.refl wr.heap.size wr) (.cells #[.int .u32 s.a, .int .u32 s.b, .int .u32 s.c, .int .u32 s.d, .int .u32 s.e] 73)
          have B2 := Aside0.mk (B1.out.trans (hb8.mono (by have := A3.out.lt; omega)))
          have A3 := Aside0.mk (A3.out.later hb8)
          obtain ⟨V4, hV4⟩ : ∃ W, wr.alloc (.cells #[.int .u32 s.a, .int .u32 s.b, .int .u32 s.c, .int .u32 s.d, .int .u32 s.e] 73) = W := ⟨_, rfl⟩
          rw [hV4] at hp8 hsz B2 A3 ⊢
          have hq8 : q3 < wr.heap.size := by have := B1.out.size; have := HQ.out; omega
          obtain ⟨q8, h8⟩ : ∃ q, wr.heap.size = q := ⟨_, rfl⟩
          rw [h8] at hp8 hsz hq8 ⊢
          clear hV4 h8 hb8 B1
          refine (parts V4).mono ?_
          rintro e V5 ⟨rfl, hV5⟩
          have hP : V5.heap[V4.heap.size]? = some (.cells pcells 103 (0, 0)) := by rw [← hV5]; exact heap_alloc_new V4 _
          have hb5 : Below V4.heap.size V4 V5 := by rw [← hV5]; exact below_alloc (Below.refl _ _) _
          have hsz5 : V5.heap.size = q8 + 2 := by rw [← hV5, World.size_alloc, hsz]
          clear hV5
          rw [hsz] at hP hb5 ⊢
          have A8 := Aside0.mk (hp8.below hb5 (by omega))
          have A3 := Aside0.mk (A3.out.below hb5 (by omega))
          have B3 := Aside0.mk (B2.out.trans (hb5.mono (by omega)))
          have HP := Aside0.mk hP
          have HV5 := Aside0.mk (show q3 < q8 ∧ V5.heap.size = q8 + 2 from ⟨hq8, hsz5⟩)
          clear hp8 hsz hb5 hP hsz5 hq8 B2
          go_wp2_with fail
          have hwl : (sched (words bs 16) 64 ++ List.replicate (64 - 64) 0).length = 80 := by simp [sched_len, words_len]
          have hwe : sched (words bs 16) 64 ++ List.replicate (64 - 64) 0 = sched (words bs 16) 64 := by simp
          rw [hwe] at A3 hwl
          have HW := Aside0.mk (show block s bs = final (rounds (sched (words bs 16) 64) s 80) s from rfl)
          obtain ⟨ws, hws⟩ : ∃ ws, sched (words bs 16) 64 = ws := ⟨_, rfl⟩
          rw [hws] at A3 hwl HW
          have HWL := Aside0.mk hwl
          clear hwl hwe hws
          go_loopg [9, 53] 4 (fun gk s9 s53 w' => ∃ j : Nat, j ≤ 4 ∧ 4 - j ≤ gk ∧ s53 = .int .i64 j ∧ s9 = .int .i64 ((20 * j : Nat) : Int) ∧ Arr .u32 q8 73 w' (rounds ws s (20 * j)).l ∧ But V5.heap.size (fun k => k = q8) V5 w')
          case atStart => exact ⟨0, by omega, by omega, rfl, rfl, A8.out, But.refl _ _ _⟩
          case round =>
            obtain ⟨j, hk, hgk, rfl, rfl, hA, hB⟩ := hrel
            clear A8
            have A8 := Aside0.mk hA
            have B4 := Aside0.mk hB
            clear hA hB
            by_cases hlt : j < 4
            · obtain ⟨g, K, hpart, c0, c1, c2⟩ := part_ j (q8 + 1) hlt wr ((B4.out.block (q8 + 1) (by have := HV5.out; omega) (by omega)).trans HP.out)
              have HPT := Aside0.mk hpart
              have HJ := Aside0.mk hlt
              obtain ⟨bd, hbd⟩ : ∃ b, 20 * (j + 1) = b := ⟨_, rfl⟩
              rw [hbd] at c0
              have HBD := Aside0.mk hbd
              have hl4 : (j : Int) < 4 := by omega
              clear hpart hbd hlt
              go_wp2_with fail
              go_step3
              go_wp2_with fail
              go_step3
              go_wp2_with fail
              clear c0 c1 c2
              have hbs := below_alloc (Below.refl wr.heap.size wr) (.cells #[.int .i64 bd, .func (.func g) #[] #[], .int .u32 K] 103)
              have hO := Ob.new wr [.int .i64 bd, .func (.func g) #[] #[], .int .u32 K] _ rfl 103
              have hbB := B4.out.size
              have h11 : V5.heap.size ≤ wr.heap.size := B4.out.size
              have A8 := Aside0.mk (A8.out.later hbs)
              have B4 := Aside0.mk (B4.out.then hbs h11)
              obtain ⟨V6, hV6⟩ : ∃ W, wr.alloc (.cells #[.int .i64 bd, .func (.func g) #[] #[], .int .u32 K] 103) = W := ⟨_, rfl⟩
              rw [hV6] at hO A8 B4 ⊢
              obtain ⟨q11, hq11⟩ : ∃ q, wr.heap.size = q := ⟨_, rfl⟩
              rw [hq11] at hO h11 ⊢
              have HO := Aside0.mk hO
              have H11 := Aside0.mk h11
              have A3 := Aside0.mk (A3.out.same (B4.out.block q3 (by have := HV5.out; omega) (by have := HV5.out; omega)))
              clear hO h11 hV6 hq11 hbB hbs
              obtain ⟨G, rfl⟩ : ∃ G, G = gk := ⟨_, rfl⟩
              go_loopg [9] 81 (fun gk s9 w' => ∃ i : Nat, 20 * j ≤ i ∧ i ≤ bd ∧ bd - i ≤ gk ∧ s9 = .int .i64 i ∧ Arr .u32 q8 73 w' (rounds ws s i).l ∧ But V6.heap.size (fun k => k = q8) V6 w')
              case atStart => exact ⟨20 * j, by omega, by have := HBD.out; omega, by have := HBD.out; omega, rfl, A8.out, But.refl _ _ _⟩
              case round =>
                clear A8
                obtain ⟨i, hi1, hi2, hgk2, rfl, hA, hB⟩ := hrel
                have A8 := Aside0.mk hA
                have B5 := Aside0.mk hB
                clear hA hB
                have HOw := Aside0.mk (HO.out.but B5.out HO.out.lt (by have := HV5.out; have := H11.out; omega))
                obtain ⟨m0, -⟩ := HOw.out 0 _ rfl
                by_cases hlt : i < bd
                · have hi80 : (i : Int) < 80 := by have := HBD.out; have := HJ.out; omega
                  obtain ⟨m1, -⟩ := HOw.out 1 _ rfl
                  obtain ⟨m2, -⟩ := HOw.out 2 _ rfl
                  have A3w := Aside0.mk (A3.out.same (B5.out.block q3 A3.out.lt (by have := HV5.out; omega)))
                  obtain ⟨m3, -⟩ := A3w.out.cell i (by rw [HWL.out]; omega)
                  have hsucc : rounds ws s (i + 1) = round i (ws.getD i 0) (rounds ws s i) := rfl
                  have hok := rounds_ok ws s HS.out i
                  have hK : kOf i = K := HPT.out.k i hi1 (by have := HBD.out; omega)
                  have hF := HPT.out.f i hi1 (by have := HBD.out; omega)
                  unfold round at hsucc
                  rw [hK] at hsucc
                  have hA8 := A8.out
                  clear A8
                  obtain ⟨t, ht⟩ : ∃ t, rounds ws s i = t := ⟨_, rfl⟩
                  obtain ⟨x, hx⟩ : ∃ x, ws.getD i 0 = x := ⟨_, rfl⟩
                  rw [ht] at hsucc hok hA8
                  rw [hx] at hsucc m3
                  obtain ⟨ta, tb, tc, td, te⟩ := t
                  have A8 : Aside0 (Arr .u32 q8 73 wr [ta, tb, tc, td, te]) := ⟨hA8⟩
                  have n0 : wr.cell? ⟨q8, 0, none⟩ = some (.int .u32 ta) := (A8.out.cell 0 (by simp)).1
                  have n1 : wr.cell? ⟨q8, 1, none⟩ = some (.int .u32 tb) := (A8.out.cell 1 (by simp)).1
                  have n2 : wr.cell? ⟨q8, 2, none⟩ = some (.int .u32 tc) := (A8.out.cell 2 (by simp)).1
                  have n3 : wr.cell? ⟨q8, 3, none⟩ = some (.int .u32 td) := (A8.out.cell 3 (by simp)).1
                  have n4 : wr.cell? ⟨q8, 4, none⟩ = some (.int .u32 te) := (A8.out.cell 4 (by simp)).1
                  have HR5 := Aside0.mk (rot_lib 5 (.inr (.inl rfl)) ta hok.a)
                  have HR30 := Aside0.mk (rot_lib 30 (.inr (.inr rfl)) tb hok.b)
                  have HSU := Aside0.mk hsucc
                  have eg := HPT.out.e
                  have HF := Aside0.mk (fun W => hF tb tc td W hok.b)
                  obtain ⟨y, hy⟩ : ∃ y, fOf i tb tc td = y := ⟨_, rfl⟩
                  have HY := Aside0.mk hy
                  rw [hy] at HF
                  have HI := Aside0.mk (show 20 * j ≤ i ∧ i < bd ∧ bd - i ≤ gk from ⟨hi1, hlt, hgk2⟩)
                  clear hsucc hok hK hF ht hx hA8 hi1 hi2 hgk2 hy
                  have hge : ¬ ((bd : Int) ≤ (i : Int)) := by omega
                  go_wp2_with fail
                  refine region [(0, .p), (3, .p), (5, .p), (7, .p), (9, .p), (13, .p), (16, .p), (19, .p), (20, .p), (1, .t), (4, .t), (6, .t), (8, .t), (10, .t), (14, .t), (17, .t), (21, .t), (2, .o), (11, .o), (12, .p), (15, .p), (18, .p), (22, .p), (23, .p)] (fun W => W.cell? ⟨q8, 0, none⟩ = some (.int .u32 ta) ∧ W.cell? ⟨q8, 1, none⟩ = some (.int .u32 tb) ∧ W.cell? ⟨q8, 2, none⟩ = some (.int .u32 tc) ∧ W.cell? ⟨q8, 3, none⟩ = some (.int .u32 td) ∧ W.cell? ⟨q8, 4, none⟩ = some (.int .u32 te) ∧ W.cell? ⟨q11, 1, none⟩ = some (.func (.func g) #[] #[]) ∧ W.cell? ⟨q11, 2, none⟩ = some (.int .u32 K) ∧ W.cell? ⟨q3, i, none⟩ = some (.int .u32 x)) (by kernel_rfl) (by kernel_rfl) (fun _ _ _ _ _ h => h) (⟨n0, n1, n2, n3, n4, m1, m2, m3⟩) (fun hHeld => ?_)
                  iterate 9 (refine lex_p rfl rfl rfl (by intro w'; go_simp; with_reducible rfl) (by simp only [Act.put, List.setIfInBounds_toArray, List.set_cons_zero, List.set_cons_succ, i64_w, i32_w]; rfl) ?_)
                  iterate 8 (refine lex_t rfl rfl rfl (by rintro w' ⟨s1, s2, s3, s4, s5, s6, s7, s8⟩; go_simp; with_reducible rfl) (by simp only [Act.put, List.setIfInBounds_toArray, List.set_cons_zero, List.set_cons_succ, i64_w, i32_w]; rfl) ?_)
                  refine lex_o rfl ?_
                  go_wp2_with fail
                  refine (bits_RotateLeft32.calls _ 5 _ _ HR5.out).mono ?_
                  rintro e w2 ⟨rfl, hd⟩
                  have HD := Aside0.mk hd
                  clear hd
                  go_wp2_with fail
                  refine lex_end (by first | (simp only [Act.put, List.setIfInBounds_toArray, List.set_cons_zero, List.set_cons_succ, i64_w, i32_w]; rfl) | rfl) (⟨pw_cell_below HD.out.below n0, pw_cell_below HD.out.below n1, pw_cell_below HD.out.below n2, pw_cell_below HD.out.below n3, pw_cell_below HD.out.below n4, pw_cell_below HD.out.below m1, pw_cell_below HD.out.below m2, pw_cell_below HD.out.below m3⟩) (fun hHeld => ?_)
                  refine lex_o rfl ?_
                  go_wp2_with fail
                  refine (HF.out w2).mono ?_
                  rintro e _ ⟨rfl, rfl⟩
                  go_wp2_with fail
                  refine lex_end (by first | (simp only [Act.put, List.setIfInBounds_toArray, List.set_cons_zero, List.set_cons_succ, i64_w, i32_w]; rfl) | rfl) (⟨pw_cell_below HD.out.below n0, pw_cell_below HD.out.below n1, pw_cell_below HD.out.below n2, pw_cell_below HD.out.below n3, pw_cell_below HD.out.below n4, pw_cell_below HD.out.below m1, pw_cell_below HD.out.below m2, pw_cell_below HD.out.below m3⟩) (fun hHeld => ?_)
                  iterate 5 (refine lex_p rfl rfl rfl (by intro w'; go_simp; with_reducible rfl) (by simp only [Act.put, List.setIfInBounds_toArray, List.set_cons_zero, List.set_cons_succ, i64_w, i32_w]; rfl) ?_)
                  refine lex_nil ?_
                  have A8 := Aside0.mk (Arr.later (w := wr.drew) A8.out HD.out.below)
                  have B5 := Aside0.mk ((B5.out.trans (But.of (below_drew (Below.refl wr.heap.size wr)) B5.out.size)).then HD.out.below B5.out.size)
                  have p0 := pw_cell_below HD.out.below n0
                  have p1 := pw_cell_below HD.out.below n1
                  have p2 := pw_cell_below HD.out.below n2
                  have p3 := pw_cell_below HD.out.below n3
                  clear n0 n1 n2 n3 n4 m1 m2 m3 hHeld eg hlt hge hi80
                  have HSU : Aside0 (rounds ws s (i + 1) = ⟨add (add (add (add (rot 5 ta) y) te) K) x, ta, rot 30 tb, tc, td⟩) := ⟨by rw [HSU.out, ← HY.out]⟩
                  clear HD
                  go_wp2_with fail
                  refine region [(0, .p), (1, .p), (3, .p), (6, .p), (8, .p), (2, .t), (4, .t), (7, .t), (9, .t), (5, .o), (10, .p), (11, .e)] (fun W => W.cell? ⟨q8, 0, none⟩ = some (.int .u32 ta) ∧ W.cell? ⟨q8, 1, none⟩ = some (.int .u32 tb) ∧ W.cell? ⟨q8, 2, none⟩ = some (.int .u32 tc) ∧ W.cell? ⟨q8, 3, none⟩ = some (.int .u32 td)) (by kernel_rfl) (by kernel_rfl) (fun _ _ _ _ _ h => h) (⟨p0, p1, p2, p3⟩) (fun hHeld => ?_)
                  iterate 5 (refine lex_p rfl rfl rfl (by intro w'; go_simp; with_reducible rfl) (by simp only [Act.put, List.setIfInBounds_toArray, List.set_cons_zero, List.set_cons_succ, i64_w, i32_w]; rfl) ?_)
                  iterate 4 (refine lex_t rfl rfl rfl (by rintro w' ⟨s1, s2, s3, s4⟩; go_simp; with_reducible rfl) (by simp only [Act.put, List.setIfInBounds_toArray, List.set_cons_zero, List.set_cons_succ, i64_w, i32_w]; rfl) ?_)
                  refine lex_o rfl ?_
                  go_wp2_with fail
                  refine (bits_RotateLeft32.calls _ 30 _ _ HR30.out).mono ?_
                  rintro e w3 ⟨rfl, hd⟩
                  have HD := Aside0.mk hd
                  clear hd
                  go_wp2_with fail
                  refine lex_end (by first | (simp only [Act.put, List.setIfInBounds_toArray, List.set_cons_zero, List.set_cons_succ, i64_w, i32_w]; rfl) | rfl) (⟨pw_cell_below HD.out.below p0, pw_cell_below HD.out.below p1, pw_cell_below HD.out.below p2, pw_cell_below HD.out.below p3⟩) (fun hHeld => ?_)
                  (refine lex_p rfl rfl rfl (by intro w'; go_simp; with_reducible rfl) (by simp only [Act.put, List.setIfInBounds_toArray, List.set_cons_zero, List.set_cons_succ, i64_w, i32_w]; rfl) ?_)
                  refine lex_e rfl ?_
                  have A8 := Aside0.mk (Arr.later (w := w2.drew) A8.out HD.out.below)
                  obtain ⟨r0, t0⟩ := A8.out.cell 0 (by simp)
                  obtain ⟨r1, t1⟩ := A8.out.cell 1 (by simp)
                  obtain ⟨r2, t2⟩ := A8.out.cell 2 (by simp)
                  obtain ⟨r3, t3⟩ := A8.out.cell 3 (by simp)
                  obtain ⟨r4, t4⟩ := A8.out.cell 4 (by simp)
                  go_wp2_with fail
                  refine putQ_normal ?_
                  go_wp2_with fail
                  go_roundg (gk - 1)
                  case measure => have := HI.out; omega
                  case rel =>
                    have h80 := HI.out
                    have hbd := HBD.out
                    have hj := HJ.out
                    have hq := A8.out.lt
                    refine ⟨i + 1, by omega, by omega, by omega, by rw [show wrap64 ((i : Int) + 1) = ((i + 1 : Nat) : Int) by unfold wrap64; omega], ?_, ?_⟩
                    · rw [HSU.out]
                      have e : (rot 5 ta + y + te + K + x) % 4294967296 = add (add (add (add (rot 5 ta) y) te) K) x := by
                        unfold add
                        simp only [IntKind.wrap_u32]
                        omega
                      rw [e]
                      exact ((((A8.out.put 0 _).put 1 ta).put 2 (rot 30 tb)).put 3 tc).put 4 td
                    · have h6 := (B5.out.trans (But.of (below_drew (Below.refl w2.heap.size w2)) B5.out.size)).then HD.out.below B5.out.size
                      exact ((((h6.setCell (p := ⟨q8, 0, none⟩) (.inr rfl) _).setCell (p := ⟨q8, 1, none⟩) (.inr rfl) _).setCell (p := ⟨q8, 2, none⟩) (.inr rfl) _).setCell (p := ⟨q8, 3, none⟩) (.inr rfl) _).setCell (p := ⟨q8, 4, none⟩) (.inr rfl) _
                · obtain rfl : i = bd := by omega
                  go_wp2_with fail
                  rw [Exit.noGoto_normal]
                  go_wp2_with fail
                  go_roundg (G - 1)
                  case measure => have := HJ.out; omega
                  case rel =>
                    have hj := HJ.out
                    have hbd := HBD.out
                    have hA := A8.out
                    have hB := B4.out.trans (B5.out.mono B4.out.size (fun _ _ h => h))
                    refine ⟨j + 1, by omega, by omega, ?_, ?_, ?_, hB⟩
                    · congr 1
                    · rw [hbd]
                    · rw [hbd]
                      exact hA
            · obtain rfl : j = 4 := by omega
              go_wp2_with fail
              have A0 := Aside0.mk ((A0.out.below B3.out (by have := HQ.out; omega)).same (B4.out.block q0 (by have := HQ.out; have := HV5.out; omega) (by have := HQ.out; have := HV5.out; omega)))
              have A2 := Aside0.mk (A2.out.below B3.out (by have := HQ.out; omega))
              have A8 : Aside0 (Arr .u32 q8 73 wr (fin (rounds ws s 80) s 0)) := A8
              obtain ⟨t, ht⟩ : ∃ t, rounds ws s 80 = t := ⟨_, rfl⟩
              rw [ht] at A8 HW
              clear ht
              obtain ⟨W0, hW0⟩ : ∃ W, W = wr := ⟨_, rfl⟩
              subst hW0
              go_loopg [98] 5 (fun gk s98 w' => ∃ k : Nat, k ≤ 5 ∧ 5 - k ≤ gk ∧ s98 = .int .i64 k ∧ Arr .u32 q8 73 w' (fin t s k) ∧ But V5.heap.size (fun k => k = q8) V5 w')
              case atStart => exact ⟨0, by omega, by omega, rfl, A8.out, B4.out⟩
              case round =>
                have B40 := Aside0.mk B4.out
                clear A8 B4
                obtain ⟨k, hk, hgk2, rfl, hA, hB⟩ := hrel
                have A8 := Aside0.mk hA
                have B4 := Aside0.mk hB
                clear hA hB
                by_cases hlt : k < 5
                · have hl5 : (k : Int) < 5 := by omega
                  obtain ⟨h1, h2⟩ := fin_step t s k hlt
                  have HST := Aside0.mk h2
                  obtain ⟨u0, v0⟩ := A8.out.cell k (by unfold fin; simp; omega)
                  rw [h1] at u0
                  obtain ⟨u1, -⟩ := (A0.out.same (B4.out.block q0 (by have := HQ.out; have := HV5.out; omega) (by have := HQ.out; have := HV5.out; omega) |>.trans (B40.out.block q0 (by have := HQ.out; have := HV5.out; omega) (by have := HQ.out; have := HV5.out; omega)).symm)).cell k (by simp [St.l]; omega)
                  obtain ⟨x, hx⟩ : ∃ x, t.l.getD k 0 = x := ⟨_, rfl⟩
                  obtain ⟨y, hy⟩ : ∃ y, s.l.getD k 0 = y := ⟨_, rfl⟩
                  rw [hx, hy] at HST
                  rw [hx] at u0
                  rw [hy] at u1
                  have HK := Aside0.mk hlt
                  clear h1 h2 hx hy hlt
                  go_wp2_with fail
                  refine region [(0, .p), (1, .p), (3, .p), (4, .p), (2, .t), (5, .t), (6, .p), (7, .p), (8, .e)] (fun W => W.cell? ⟨q8, k, none⟩ = some (.int .u32 x) ∧ W.cell? ⟨q0, k, none⟩ = some (.int .u32 y)) (by kernel_rfl) (by kernel_rfl) (fun _ _ _ _ _ h => h) (⟨u0, u1⟩) (fun hHeld => ?_)
                  iterate 4 (refine lex_p rfl rfl rfl (by intro w'; go_simp; with_reducible rfl) (by simp only [Act.put, List.setIfInBounds_toArray, List.set_cons_zero, List.set_cons_succ, i64_w, i32_w]; rfl) ?_)
                  iterate 2 (refine lex_t rfl rfl rfl (by rintro w' ⟨s1, s2⟩; go_simp; with_reducible rfl) (by simp only [Act.put, List.setIfInBounds_toArray, List.set_cons_zero, List.set_cons_succ, i64_w, i32_w]; rfl) ?_)
                  iterate 2 (refine lex_p rfl rfl rfl (by intro w'; go_simp; with_reducible rfl) (by simp only [Act.put, List.setIfInBounds_toArray, List.set_cons_zero, List.set_cons_succ, i64_w, i32_w]; rfl) ?_)
                  refine lex_e rfl ?_
                  go_wp2_with fail
                  refine putQ_normal ?_
                  go_wp2_with fail
                  go_roundg (gk - 1)
                  case measure => have := HK.out; omega
                  case rel =>
                    have hk5 := HK.out
                    refine ⟨k + 1, by omega, by omega, ?_, ?_, (B4.out.trans (But.of (below_drew (Below.refl wr.heap.size wr)) B4.out.size)).setCell (p := ⟨q8, k, none⟩) (.inr rfl) _⟩
                    · congr 1
                    · have h7 := Arr.put (w := wr.drew) A8.out k (add x y)
                      rw [HST.out] at h7
                      exact h7
                · obtain rfl : k = 5 := by omega
                  rw [fin_five, ← HW.out] at A8
                  have A2 := Aside0.mk (A2.out.same (B4.out.block q2 (by have := HQ.out; have := HV5.out; omega) (by have := HQ.out; have := HV5.out; omega)))
                  obtain ⟨R, hR⟩ : ∃ R, block s bs = R := ⟨_, rfl⟩
                  rw [hR] at A8
                  have HR := Aside0.mk hR
                  clear hR
                  have k0 : wr.cell? ⟨q8, 0, none⟩ = some (.int .u32 R.a) := (A8.out.cell 0 (by simp [St.l])).1
                  have k1 : wr.cell? ⟨q8, 1, none⟩ = some (.int .u32 R.b) := (A8.out.cell 1 (by simp [St.l])).1
                  have k2 : wr.cell? ⟨q8, 2, none⟩ = some (.int .u32 R.c) := (A8.out.cell 2 (by simp [St.l])).1
                  have k3 : wr.cell? ⟨q8, 3, none⟩ = some (.int .u32 R.d) := (A8.out.cell 3 (by simp [St.l])).1
                  have k4 : wr.cell? ⟨q8, 4, none⟩ = some (.int .u32 R.e) := (A8.out.cell 4 (by simp [St.l])).1
                  obtain ⟨r0, t0⟩ := A2.out.cell 0 (by simp)
                  obtain ⟨r1, t1⟩ := A2.out.cell 1 (by simp)
                  obtain ⟨r2, t2⟩ := A2.out.cell 2 (by simp)
                  obtain ⟨r3, t3⟩ := A2.out.cell 3 (by simp)
                  obtain ⟨r4, t4⟩ := A2.out.cell 4 (by simp)
                  go_wp2_with fail
                  have hA := ((((A2.out.put 0 R.a).put 1 R.b).put 2 R.c).put 3 R.d).put 4 R.e
                  have hq2 : q0 ≤ q2 := by have := HQ.out; omega
                  have hB : Below q0 w wr := (B0.out.trans (B3.out.mono (by have := HQ.out; omega))).trans (B4.out.below (by have := HQ.out; have := HV5.out; omega) (fun k hk hk2 => by have := HQ.out; have := HV5.out; omega))
                  have hB2 := ((((hB.setCell (p := ⟨q2, 0, none⟩) hq2 (.int .u32 R.a)).setCell (p := ⟨q2, 1, none⟩) hq2 (.int .u32 R.b)).setCell (p := ⟨q2, 2, none⟩) hq2 (.int .u32 R.c)).setCell (p := ⟨q2, 3, none⟩) hq2 (.int .u32 R.d)).setCell (p := ⟨q2, 4, none⟩) hq2 (.int .u32 R.e)
                  obtain ⟨V, hV⟩ : ∃ V, ((((wr.setCell ⟨q2, 0, none⟩ (.int .u32 R.a)).setCell ⟨q2, 1, none⟩ (.int .u32 R.b)).setCell ⟨q2, 2, none⟩ (.int .u32 R.c)).setCell ⟨q2, 3, none⟩ (.int .u32 R.d)).setCell ⟨q2, 4, none⟩ (.int .u32 R.e) = V := ⟨_, rfl⟩
                  rw [hV] at hA hB2 ⊢
                  have z0 : V.cell? ⟨q2, 0, none⟩ = some (.int .u32 R.a) := (hA.cell 0 (by simp)).1
                  have z1 : V.cell? ⟨q2, 1, none⟩ = some (.int .u32 R.b) := (hA.cell 1 (by simp)).1
                  have z2 : V.cell? ⟨q2, 2, none⟩ = some (.int .u32 R.c) := (hA.cell 2 (by simp)).1
                  have z3 : V.cell? ⟨q2, 3, none⟩ = some (.int .u32 R.d) := (hA.cell 3 (by simp)).1
                  have z4 : V.cell? ⟨q2, 4, none⟩ = some (.int .u32 R.e) := (hA.cell 4 (by simp)).1
                  refine bodyPost_ret (v := R.v) ?_ rfl ⟨by rw [HR.out], by rw [HQ0.out]; exact hB2⟩
                  simp [results, Try.results39, go_sem, z0, z1, z2, z3, z4]
end Go.Proofs.Ytfeohojpjncgaaa.Sha
