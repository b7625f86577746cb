/- Contracts of package frame: in, joined, wrongs and its closures, size, Raw, Cut. -/
import Derived.Test.YteakiaedlfhceaaLibB
import Derived.Outline
set_option linter.unusedSimpArgs false
set_option linter.unusedVariables false
namespace Go.Proofs.Yteakiaedlfhceaa.Frame
open Go.RowKit Go.Proofs.YteakiaedlfhceaaW.PrintWords Go.Proofs.YteakiaedlfhceaaW.PrintLast Go.Proofs.YteakiaedlfhceaaW.PrintMore Go.Proofs.Yteakiaedlfhceaa.Lex Go.Proofs.Yteakiaedlfhceaa.Lib

theorem in_int (n a b : Int) (w : World) : Calls Try.prog 27 #[.int .i64 n, .int .i64 a, .int .i64 b] w fun e w' => e = .returned (.bool (decide (a ≤ n) && decide (n ≤ b))) ∧ w = w' := by
  by_cases h : a ≤ n
  · have h1 : decide (a ≤ n) = true := by simpa using h
    go_enter Try.func27, Try.ntmps27
    go_wp2
    go_ret
    exact ⟨by simp [h], rfl⟩
  · have h1 : decide (a ≤ n) = false := by simpa using h
    go_enter Try.func27, Try.ntmps27
    go_wp2
    go_ret
    exact ⟨by simp [h], rfl⟩
theorem in_byte (n a b : Int) (w : World) : Calls Try.prog 44 #[.int .u8 n, .int .u8 a, .int .u8 b] w fun e w' => e = .returned (.bool (decide (a ≤ n) && decide (n ≤ b))) ∧ w = w' := by
  by_cases h : a ≤ n
  · have h1 : decide (a ≤ n) = true := by simpa using h
    go_enter Try.func44, Try.ntmps44
    go_wp2
    go_ret
    exact ⟨by simp [h], rfl⟩
  · have h1 : decide (a ≤ n) = false := by simpa using h
    go_enter Try.func44, Try.ntmps44
    go_wp2
    go_ret
    exact ⟨by simp [h], rfl⟩
theorem joined (A : Option Addr) (c : Nat) (l : List (List Int)) (w : World) (hx : Kd.C KBB w A l.length l) (hl : (flat l).length ≤ 140737488355328) :
   Calls Try.prog 28 #[.slice A l.length c] w fun e w' => ∃ v, e = .returned v ∧ OB w.heap.size w' v (flat l) ∧ Below w.heap.size w w' := by
  have HC := Aside0.mk (concat A c l w hx hl)
  clear hx hl
  go_enter Try.func28, Try.ntmps28
  go_wp2_with fail
  refine HC.out.mono ?_
  rintro e w1 ⟨v, rfl, ho, hb⟩
  go_wp2_with fail
  go_ret
  exact ⟨_, rfl, ho, hb⟩
theorem wrongs (w : World) : Calls Try.prog 30 #[] w fun e w' => e = .returned (.slice (some ⟨w.heap.size, 0, none⟩) 3 3) ∧ w.alloc (.cells #[.func (.func 39) #[] #[], .int .i64 270, .func (.func 42) #[] #[], .int .i64 271, .func (.func 43) #[] #[], .int .i64 272] 72) = w' := by
  go_enter Try.func30, Try.ntmps30
  go_wp2
  go_ret
  exact ⟨rfl, rfl⟩

/-- All are bytes. -/
def Byt (xs : List Int) : Prop := ∀ x ∈ xs, 0 ≤ x ∧ x ≤ 255
instance (xs : List Int) : Decidable (Byt xs) := by unfold Byt; infer_instance
theorem Byt.at {xs : List Int} (h : Byt xs) (k : Nat) : 0 ≤ xs.getD k 0 ∧ xs.getD k 0 ≤ 255 := by
  rcases Nat.lt_or_ge k xs.length with hk | hk
  · rw [List.getD_eq_getElem?_getD, List.getElem?_eq_getElem hk]
    exact h _ (List.getElem_mem hk)
  · rw [List.getD_eq_getElem?_getD, List.getElem?_eq_none hk]
    exact ⟨Int.le_refl _, by decide⟩
def two (xs : List Int) (k : Nat) : Int := xs.getD k 0 * 256 + xs.getD (k + 1) 0
theorem wraps_i64 (n : Int) (h₀ : 0 ≤ n) (h₁ : n < 2 ^ 63) : IntKind.i64.wrap n = n := by rw [IntKind.wrap_i64]; omega
theorem or_bytes (a b : Int) (ha : 0 ≤ a ∧ a ≤ 255) (hb : 0 ≤ b ∧ b ≤ 255) : bits .or .i64 (a * 256) b = a * 256 + b :=
  bits_join .i64 63 (by decide) wraps_i64 8 (a * 256) b (by omega) (by omega) (by omega) (by omega) (by omega) (by omega)
theorem w64 (n : Int) (h : -1000000 ≤ n) (h2 : n ≤ 1000000) : wrap64 n = n := by unfold wrap64; omega
theorem size (A : Option Addr) (c : Nat) (xs : List Int) (w : World) (hx : Kd.C KB w A xs.length xs) (hl : 18 ≤ xs.length) (hb : Byt xs) :
    Calls Try.prog 31 #[.slice A xs.length c] w fun e w' => e = .returned (.int .i64 (two xs 16)) ∧ w.drew = w' := by
  have h6 := hb.at 16
  have h7 := hb.at 17
  obtain ⟨b, o, rfl, c6⟩ := C_byte hx 16 (by omega)
  obtain ⟨b2, o2, e2, c7⟩ := C_byte hx 17 (by omega)
  simp only [Option.some.injEq, Addr.mk.injEq, and_true] at e2
  obtain ⟨rfl, rfl⟩ := e2
  obtain ⟨x, hx6⟩ : ∃ x, xs.getD 16 0 = x := ⟨_, rfl⟩
  obtain ⟨y, hx7⟩ : ∃ x, xs.getD 17 0 = x := ⟨_, rfl⟩
  unfold two
  rw [hx6] at c6 h6
  rw [hx7] at c7 h7
  rw [hx6, hx7]
  have HO := Aside0.mk (or_bytes x y h6 h7)
  clear hx hx6 hx7 hb
  have h16 : (16 : Int) < (xs.length : Int) := by omega
  have h17 : (17 : Int) < (xs.length : Int) := by omega
  go_enter Try.func31, Try.ntmps31
  go_wp2
  refine region [(0, .p), (1, .p), (2, .t), (3, .p), (4, .p), (5, .p), (6, .p), (7, .t), (8, .p), (9, .p), (10, .p)] (fun W => W.cell? ⟨b, o + 16, none⟩ = some (.int .u8 x) ∧ W.cell? ⟨b, o + 17, none⟩ = some (.int .u8 y)) (by kernel_rfl) (by kernel_rfl) (fun _ _ _ _ _ h => h) (⟨c6, c7⟩) (fun hHeld => ?_)
  iterate 2 (refine lex_p rfl rfl rfl (by intro w'; go_simp; with_reducible rfl) (by simp only [Act.put, List.setIfInBounds_toArray, List.set_cons_zero, List.set_cons_succ, i64_w, i32_w]; rfl) ?_)
  (refine lex_t rfl rfl rfl (by rintro w' ⟨s1, s2⟩; go_simp; with_reducible rfl) (by simp only [Act.put, List.setIfInBounds_toArray, List.set_cons_zero, List.set_cons_succ, i64_w, i32_w]; rfl) ?_)
  iterate 4 (refine lex_p rfl rfl rfl (by intro w'; go_simp; with_reducible rfl) (by simp only [Act.put, List.setIfInBounds_toArray, List.set_cons_zero, List.set_cons_succ, i64_w, i32_w]; rfl) ?_)
  (refine lex_t rfl rfl rfl (by rintro w' ⟨s1, s2⟩; go_simp; with_reducible rfl) (by simp only [Act.put, List.setIfInBounds_toArray, List.set_cons_zero, List.set_cons_succ, i64_w, i32_w]; rfl) ?_)
  iterate 3 (refine lex_p rfl rfl rfl (by intro w'; go_simp; with_reducible rfl) (by simp only [Act.put, List.setIfInBounds_toArray, List.set_cons_zero, List.set_cons_succ, i64_w, i32_w]; rfl) ?_)
  refine lex_nil ?_
  go_wp2
  go_ret
  refine ⟨?_, rfl⟩
  show Ending.returned (Value.int .i64 (bits .or .i64 (wrap64 (wrap64 x * 256)) (wrap64 y))) = _
  rw [w64 x (by omega) (by omega), w64 y (by omega) (by omega), w64 (x * 256) (by omega) (by omega), HO.out]

/-! ### The closures -/
theorem eg (g : Nat) {fn : Func} {c : Code} (hf : Try.prog.funcs[g]? = some fn) (hname : (fn.name == "runtime.NumGoroutine") = false) (hb : fn.body = some c) : ∀ args w, (callFunc g args).run Try.prog w = .ok (.enter g args) w :=
  fun args w => enters_ hf hname (by rw [hb]; rfl) args w
theorem not255 (x : Int) (w : World) : Calls Try.prog 41 #[.int .u8 x] w fun e w' => e = .returned (.bool (x != 255)) ∧ Below w.heap.size w w' := by
  go_enter Try.func41, Try.ntmps41
  go_wp2
  go_ret
  exact ⟨rfl, Below.refl _ _⟩
theorem C_take {α : Type} {d : Kd α} {w : World} {A : Option Addr} {n : Nat} {xs : List α} (h : Kd.C d w A n xs) (m : Nat) (hm : m ≤ n) : Kd.C d w A m (xs.take m) := by
  obtain ⟨h1, h2, h3⟩ := h
  refine ⟨by rw [List.length_take]; omega, by omega, fun hp => ?_⟩
  obtain ⟨ad, e, hc⟩ := h3 (by omega)
  refine ⟨ad, e, fun j p hj => hc j p ?_⟩
  rw [List.getElem?_take] at hj
  split at hj
  · exact hj
  · cases hj
theorem is_mark (A : Option Addr) (c : Nat) (xs : List Int) (w : World) (hx : Kd.C KB w A xs.length xs) (hl : 19 ≤ xs.length) (hc : xs.length ≤ c) :
    Calls Try.prog 39 #[.slice A xs.length c] w fun e w' => e = .returned (.bool ((xs.take 16).any fun x => x != 255)) ∧ Below w.heap.size w w' := by
  have hlen : (xs.take 16).length = 16 := by rw [List.length_take]; omega
  have hC : Kd.C KB w A (xs.take 16).length (xs.take 16) := by rw [hlen]; exact C_take hx 16 (by omega)
  have HC := Aside0.mk (containsFunc 41 #[] (eg 41 Try.func41 (by kernel_rfl) rfl) (fun x => x != 255) A c (xs.take 16) w (fun W x _ _ => not255 x W) hC)
  rw [hlen] at HC
  have hc2 : (16 : Int) ≤ (c : Int) := by omega
  clear hx hC hlen
  go_enter Try.func39, Try.ntmps39
  go_wp2_with fail
  refine HC.out.mono ?_
  rintro e w' ⟨rfl, hb⟩
  go_wp2_with fail
  go_ret
  exact ⟨rfl, hb⟩
theorem is_size (A : Option Addr) (c : Nat) (xs : List Int) (w : World) (hx : Kd.C KB w A xs.length xs) (hl : 19 ≤ xs.length) (hb : Byt xs) :
    Calls Try.prog 42 #[.slice A xs.length c] w fun e w' => e = .returned (.bool (!(decide (19 ≤ two xs 16) && decide (two xs 16 ≤ 512)))) ∧ Below w.heap.size w w' := by
  have HC := Aside0.mk (size A c xs w hx (by omega) hb)
  obtain ⟨n, hn⟩ : ∃ n, two xs 16 = n := ⟨_, rfl⟩
  rw [hn] at HC ⊢
  clear hx hn
  go_enter Try.func42, Try.ntmps42
  go_wp2_with fail
  refine HC.out.mono ?_
  rintro e w' ⟨rfl, rfl⟩
  go_wp2_with fail
  refine (in_int n 19 512 _).mono ?_
  rintro e w' ⟨rfl, rfl⟩
  go_wp2_with fail
  go_ret
  exact ⟨by rw [Bool.not_and]; rfl, (Below.refl _ _).drew⟩
theorem is_kind (A : Option Addr) (c : Nat) (xs : List Int) (w : World) (hx : Kd.C KB w A xs.length xs) (hl : 19 ≤ xs.length) :
    Calls Try.prog 43 #[.slice A xs.length c] w fun e w' => e = .returned (.bool (!(decide (1 ≤ xs.getD 18 0) && decide (xs.getD 18 0 ≤ 4)))) ∧ Below w.heap.size w w' := by
  obtain ⟨b, o, rfl, c8⟩ := C_byte hx 18 (by omega)
  obtain ⟨n, hn⟩ : ∃ n, xs.getD 18 0 = n := ⟨_, rfl⟩
  rw [hn] at c8 ⊢
  have h18 : (18 : Int) < (xs.length : Int) := by omega
  clear hx hn
  go_enter Try.func43, Try.ntmps43
  go_wp2_with fail
  refine (in_byte n 1 4 _).mono ?_
  rintro e w' ⟨rfl, rfl⟩
  go_wp2_with fail
  go_ret
  exact ⟨by rw [Bool.not_and]; rfl, Below.refl _ _⟩

/-! ### Raw -/
def rawOf (kind : Int) (body : List Int) : List Int := List.replicate 16 255 ++ ([(19 + (body.length : Int)) / 256, (19 + (body.length : Int)) % 256, kind] ++ body)
theorem raw (kind : Int) (A : Option Addr) (c : Nat) (xs : List Int) (w : World) (hx : Kd.C KB w A xs.length xs) (hc : xs.length ≤ c) (hl : xs.length ≤ 140737488350000) (hk : (Lit.int .i64 kind).wf = true) :
    Calls Try.prog 10 #[.int .i64 kind, .slice A xs.length c] w fun e w' =>
      ∃ v, e = .returned (.tuple #[v, .int .i64 (if 1 ≤ kind ∧ kind ≤ 4 then (if 493 < xs.length then 3 else 0) else 2)]) ∧
        OB w.heap.size w' v (if 1 ≤ kind ∧ kind ≤ 4 then (if 493 < xs.length then [] else rawOf kind xs) else []) ∧ Below w.heap.size w w' := by
  have HX := Aside0.mk hx
  clear hx hk
  by_cases hk : 1 ≤ kind ∧ kind ≤ 4
  · by_cases hlong : 493 < xs.length
    · rw [if_pos hk, if_pos hlong, if_pos hk, if_pos hlong]
      have h1 : (decide (1 ≤ kind) && decide (kind ≤ 4)) = true := by simp [hk]
      go_enter Try.func10, Try.ntmps10
      go_wp2_with fail
      refine (in_int kind 1 4 _).mono ?_
      rw [h1]
      rintro e w' ⟨rfl, rfl⟩
      go_wp2_with fail
      go_ret2
      exact ⟨_, rfl, OB.nil _ _, Below.refl _ _⟩
    · rw [if_pos hk, if_neg hlong, if_pos hk, if_neg hlong]
      have h1 : (decide (1 ≤ kind) && decide (kind ≤ 4)) = true := by simp [hk]
      go_enter Try.func10, Try.ntmps10
      go_wp2_with fail
      refine (in_int kind 1 4 _).mono ?_
      rw [h1]
      rintro e w' ⟨rfl, rfl⟩
      go_wp2_with fail
      refine (repeat16 _ _ _ (OB.lit w [255] [.int .u8 255] rfl 1 rfl (Nat.le_refl _) (by decide)).readsAt).mono ?_
      rintro e w1 ⟨rfl, hg, hb⟩
      have HG := Aside0.mk hg
      have HB := Aside0.mk ((below_alloc (Below.refl w.heap.size w) _).trans (hb.mono (by simp)))
      clear hg hb
      go_wp2_with fail
      obtain ⟨h1, hh1⟩ : ∃ h : List Int, h = [(19 + (xs.length : Int)) / 256, (19 + (xs.length : Int)) % 256, kind] := ⟨_, rfl⟩
      have hS := HB.out.size
      have HJ := fun (W : World) hC hl => joined (some ⟨w1.heap.size + 1, 0, none⟩) 3 [List.replicate 16 255, h1, xs] W hC hl
      have c1 : Kd.C KB w1 (some ⟨w.heap.size + 1, 0, none⟩) 16 (List.replicate 16 255) := C_block (cs := fillN 16) (by simpa using HG.out) (List.replicate 16 255) [] rfl (by decide)
      have c3 : Kd.C KB w1 A xs.length xs := Kd.C_below HX.out HB.out
      have C1 := Aside0.mk c1
      have C3 := Aside0.mk c3
      clear c1 c3
      refine (HJ _ (CBB_alloc (by simp) _ rfl ?hm ?hrows) ?hlen).mono ?_
      case hm => simp
      case hrows =>
        intro j ys hj
        match j, hj with
        | 0, hj =>
          injection hj with hj
          subst hj
          exact ⟨_, _, rfl, by decide, Kd.C_below C1.out (below_alloc (below_alloc (Below.refl _ _) _) _)⟩
        | 1, hj =>
          injection hj with hj
          subst hj hh1
          exact ⟨_, _, rfl, by simp, Kd.C_below (OB.lit w1 _ _ rfl 3 rfl (Nat.le_refl _) (by simp)).readsAt (below_alloc (Below.refl _ _) _)⟩
        | 2, hj =>
          injection hj with hj
          subst hj
          exact ⟨_, _, rfl, hc, Kd.C_below C3.out (below_alloc (below_alloc (Below.refl _ _) _) _)⟩
        | j + 3, hj => simp at hj
      case hlen => subst hh1; simp [flat]; omega
      rintro e w2 ⟨v, rfl, ho, hb⟩
      have HO := Aside0.mk ho
      have HB2 := Aside0.mk hb
      clear ho hb
      go_wp2_with fail
      go_ret2
      refine ⟨_, rfl, ?_, ?_⟩
      · subst hh1
        have h2 := HO.out.lower (b' := w.heap.size) (by simp; omega)
        simpa [flat, rawOf] using h2
      · exact HB.out.trans ((below_alloc (below_alloc (Below.refl _ _) _) _).mono hS |>.trans (HB2.out.mono (by simp; omega)))
  · rw [if_neg hk, if_neg hk]
    have h1 : (decide (1 ≤ kind) && decide (kind ≤ 4)) = false := by simpa using hk
    go_enter Try.func10, Try.ntmps10
    go_wp2_with fail
    refine (in_int kind 1 4 _).mono ?_
    rw [h1]
    rintro e w' ⟨rfl, rfl⟩
    go_wp2_with fail
    go_ret2
    exact ⟨_, rfl, OB.nil _ _, Below.refl _ _⟩
end Go.Proofs.Yteakiaedlfhceaa.Frame
