/- Contract of frame.Cut. -/
import Derived.Test.YteakiaedlfhceaaFrame
import Derived.WalkMore
import Derived.Laws.EntriesVeiled
set_option linter.unusedSimpArgs false
set_option linter.unusedVariables false
namespace Go.Proofs.Yteakiaedlfhceaa.Frame
open Go.RowKit Go.Proofs.YteakiaedlfhceaaW.PrintWords Go.Proofs.YteakiaedlfhceaaW.PrintLast Go.Proofs.YteakiaedlfhceaaW.PrintMore Go.Proofs.Yteakiaedlfhceaa.Lex Go.Proofs.Yteakiaedlfhceaa.Lib

/-- the block of the three faults -/
def WB : Obj := .cells #[.func (.func 39) #[] #[], .int .i64 270, .func (.func 42) #[] #[], .int .i64 271, .func (.func 43) #[] #[], .int .i64 272] 72 (0, 0)
def tests (xs : List Int) (k : Nat) : Bool :=
  match k with
  | 0 => (xs.take 16).any (fun x => x != 255)
  | 1 => !(decide (19 ≤ two xs 16) && decide (two xs 16 ≤ 512))
  | _ => !(decide (1 ≤ xs.getD 18 0) && decide (xs.getD 18 0 ≤ 4))
/-- which error, if any -/
def flawOf (xs : List Int) : Int := if tests xs 0 then 270 else if tests xs 1 then 271 else if tests xs 2 then 272 else 0
def codes (k : Nat) : Int := match k with | 0 => 270 | 1 => 271 | _ => 272
def fnOf (k : Nat) : Nat := match k with | 0 => 39 | 1 => 42 | _ => 43
theorem test_k (k : Nat) (A : Option Addr) (c : Nat) (xs : List Int) (w : World) (hx : Kd.C KB w A xs.length xs) (hc : xs.length ≤ c) (hl : 19 ≤ xs.length) (hb : Byt xs) :
    Calls Try.prog (fnOf k) #[.slice A xs.length c] w fun e w' => e = .returned (.bool (tests xs k)) ∧ Below w.heap.size w w' := by
  match k with
  | 0 => exact is_mark A c xs w hx hl hc
  | 1 => exact is_size A c xs w hx hl hb
  | k + 2 => exact is_kind A c xs w hx hl
theorem eg_k (k : Nat) : ∀ args w, (callFunc (fnOf k) args).run Try.prog w = .ok (.enter (fnOf k) args) w := by
  match k with
  | 0 => exact eg 39 Try.func39 (by kernel_rfl) rfl
  | 1 => exact eg 42 Try.func42 (by kernel_rfl) rfl
  | k + 2 => exact eg 43 Try.func43 (by kernel_rfl) rfl
theorem wb_cells {w : World} {g : Nat} (hg : w.heap[g]? = some WB) (k : Nat) (hk : k < 3) :
    w.cell? ⟨g, k * 2, none⟩ = some (.func (.func (fnOf k)) #[] #[]) ∧ w.cell? ⟨g, k * 2 + 1, none⟩ = some (.int .i64 (codes k)) := by
  rw [cell_of_row w _ _ _ _ _ hg, cell_of_row w _ _ _ _ _ hg]
  match k, hk with
  | 0, _ => exact ⟨rfl, rfl⟩
  | 1, _ => exact ⟨rfl, rfl⟩
  | 2, _ => exact ⟨rfl, rfl⟩

theorem codes_ne (k : Nat) : ¬ codes k = 0 := by
  match k with
  | 0 => exact (by decide : ¬ (270 : Int) = 0)
  | 1 => exact (by decide : ¬ (271 : Int) = 0)
  | k + 2 => exact (by decide : ¬ (272 : Int) = 0)
theorem flaw_t {xs : List Int} {k : Nat} (hk : k < 3) (h : ∀ j, j < k → tests xs j = false) (ht : tests xs k = true) : flawOf xs = codes k := by
  unfold flawOf
  match k, hk with
  | 0, _ => rw [if_pos ht]; rfl
  | 1, _ => rw [h 0 (by omega), if_neg (by decide), if_pos ht]; rfl
  | 2, _ => rw [h 0 (by omega), h 1 (by omega), if_neg (by decide), if_neg (by decide), if_pos ht]; rfl
theorem flaw_f {xs : List Int} (h : ∀ j, j < 3 → tests xs j = false) : flawOf xs = 0 := by
  unfold flawOf
  rw [h 0 (by omega), h 1 (by omega), h 2 (by omega), if_neg (by decide), if_neg (by decide), if_neg (by decide)]
theorem size_of {xs : List Int} (h : tests xs 1 = false) : 19 ≤ two xs 16 ∧ two xs 16 ≤ 512 := by
  simpa [tests] using h
theorem two_nat (xs : List Int) (hb : Byt xs) (k : Nat) : ∃ m : Nat, two xs k = m := by
  have h1 := hb.at k
  have h2 := hb.at (k + 1)
  exact ⟨(two xs k).toNat, by unfold two at *; omega⟩

/-- what Cut tells of 19 bytes or more -/
def CutR (xs : List Int) (w : World) (e : Ending) (w' : World) : Prop :=
  if flawOf xs = 0 ∧ two xs 16 ≤ xs.length then
    ∃ v, e = .returned (.tuple #[.int .i64 (xs.getD 18 0), v, .int .i64 (two xs 16), .int .i64 0]) ∧ OB w.heap.size w' v ((xs.take (two xs 16).toNat).drop 19) ∧ Below w.heap.size w w'
  else e = .returned (.tuple #[.int .i64 0, .slice none 0 0, .int .i64 0, .int .i64 (flawOf xs)]) ∧ Below w.heap.size w w'

set_option maxHeartbeats 2000000 in
theorem cut_long (A : Option Addr) (c : Nat) (xs : List Int) (w : World) (hx : Kd.C KB w A xs.length xs) (hc : xs.length ≤ c) (hl : 19 ≤ xs.length) (hb : Byt xs) :
    Calls Try.prog 13 #[.slice A xs.length c] w (CutR xs w) := by
  have HX := Aside0.mk hx
  clear hx
  have hd : decide ((xs.length : Int) < 19) = false := by simp; omega
  go_enter Try.func13, Try.ntmps13
  go_wp2_with fail
  go_step3
  go_wp2_with fail
  go_step3
  go_wp2_with fail
  refine (wrongs _).mono ?_
  rintro e w' ⟨rfl, rfl⟩
  go_wp2_with fail
  have HG := Aside0.mk (heap_alloc_new w WB)
  have HB := Aside0.mk (below_alloc (Below.refl w.heap.size w) WB)
  go_loopg [5, 7, 13] 3 (fun gk s5 s7 s13 w' => ∃ k : Nat, k ≤ 3 ∧ 3 - k ≤ gk ∧ s13 = .int .i64 k ∧ s5 = .int .i64 0 ∧ Aside0 (w'.heap[w.heap.size]? = some WB) ∧ Aside0 (Below w.heap.size w w') ∧ Aside0 (∀ j, j < k → tests xs j = false))
  case atStart => exact ⟨0, by omega, by omega, rfl, rfl, HG, HB, ⟨fun j hj => by omega⟩⟩
  case round =>
    clear HG HB
    obtain ⟨k, hk, hgk, rfl, rfl, HG, HB, HT⟩ := hrel
    by_cases hlt : k < 3
    · obtain ⟨hc1, hc2⟩ := wb_cells HG.out k hlt
      have he := eg_k k
      have C1 := Aside0.mk (Kd.C_below HX.out (HB.out.alloc HB.out.size (.cells #[Value.func (Fn.func (fnOf k)) #[] #[], Value.int IntKind.i64 (codes k)] 72)))
      have HC := Aside0.mk (test_k k A c xs _ C1.out hc hl hb)
      go_wp2_with fail
      refine HC.out.mono ?_
      rintro e w2 ⟨rfl, hb2⟩
      have hsz := hb2.size
      have hcell : w2.cell? ⟨wr.heap.size, 1, none⟩ = some (.int .i64 (codes k)) := pw_cell_below hb2 (by simp)
      have HB2 := Aside0.mk ((HB.out.alloc HB.out.size _).trans (hb2.mono (by have := HB.out.size; simp; omega)))
      have HG2 := Aside0.mk ((hb2.block w.heap.size (by have := (Array.getElem?_eq_some_iff.1 HG.out).1; simp; omega)).trans ((Below.heap_alloc wr _ _ (Array.getElem?_eq_some_iff.1 HG.out).1).trans HG.out))
      have C2 := Aside0.mk (Kd.C_below C1.out hb2)
      clear hb2 HB HG C1 HC hc1 hc2
      cases htk : tests xs k with
      | true =>
        have hcz : ((codes k) != 0) = true := by match k with | 0 => rfl | 1 => rfl | k + 2 => rfl
        have HF : Aside0 (flawOf xs = codes k) := ⟨flaw_t hlt HT.out htk⟩
        clear htk
        go_wp2_with fail
        refine (size A c xs _ C2.out (by omega) hb).mono ?_
        rintro e w3 ⟨rfl, rfl⟩
        obtain ⟨n, hn⟩ : ∃ n, two xs 16 = n := ⟨_, rfl⟩
        rw [hn]
        go_wp2_with fail
        rw [Exit.noGoto_ret]
        refine bodyPost_ret (v := .tuple #[.int .i64 0, .slice none 0 0, .int .i64 0, .int .i64 (codes k)]) (by simp [results, Try.results13, go_sem]) rfl ?_
        unfold CutR
        rw [if_neg (by rw [HF.out]; exact fun h => codes_ne k h.1), HF.out]
        exact ⟨rfl, HB2.out.drew⟩
      | false =>
        have HT2 : Aside0 (∀ j, j < k + 1 → tests xs j = false) := ⟨fun j hj => by
          rcases Nat.lt_or_ge j k with h | h
          · exact HT.out j h
          · obtain rfl : j = k := by omega
            exact htk⟩
        clear htk HT
        go_wp2_with fail
        go_roundg (gk - 1)
        case measure => omega
        case rel => exact ⟨k + 1, by omega, by omega, by go_num, rfl, HG2, HB2, HT2⟩
    · obtain rfl : k = 3 := by omega
      have HF : Aside0 (flawOf xs = 0) := ⟨flaw_f HT.out⟩
      have C2 := Aside0.mk (Kd.C_below HX.out HB.out)
      obtain ⟨m, hm⟩ := two_nat xs hb 16
      by_cases hml : (xs.length : Int) < m
      · go_wp2_with fail
        refine (size A c xs _ C2.out (by omega) hb).mono ?_
        rintro e w3 ⟨rfl, rfl⟩
        rw [hm]
        have hM := Aside0.mk hm
        clear hm
        have hml2 : xs.length < m := by omega
        go_wp2_with fail
        rw [Exit.noGoto_ret]
        refine bodyPost_ret (v := .tuple #[.int .i64 0, .slice none 0 0, .int .i64 0, .int .i64 0]) (by simp [results, Try.results13, go_sem]) rfl ?_
        unfold CutR
        rw [if_neg (by rw [HF.out, hM.out]; omega), HF.out]
        exact ⟨rfl, HB.out.drew⟩
      · obtain ⟨b, o, rfl, c8⟩ := C_byte C2.out 18 (by omega)
        obtain ⟨y, hy⟩ : ∃ y, xs.getD 18 0 = y := ⟨_, rfl⟩
        rw [hy] at c8
        have h19 : 19 ≤ m := by have := (size_of (HT.out 1 (by omega))).1; omega
        go_wp2_with fail
        refine (size (some ⟨b, o, none⟩) c xs _ C2.out (by omega) hb).mono ?_
        rintro e w3 ⟨rfl, rfl⟩
        rw [hm]
        have hM := Aside0.mk hm
        have hY := Aside0.mk hy
        clear hm hy
        have hml2 : m ≤ xs.length := by omega
        have hml3 : ¬ xs.length < m := by omega
        go_wp2_with fail
        have f1 : (18 : Int) < (xs.length : Int) := by omega
        have f2 : (19 : Int) ≤ (m : Int) := by omega
        have f3 : (m : Int) ≤ (c : Int) := by omega
        have hlen : ((xs.take m).drop 19).length = m - 19 := by rw [List.length_drop, List.length_take]; omega
        obtain ⟨AD, hAD⟩ : ∃ AD : Option Addr, (if c = 19 then some ⟨b, o, none⟩ else some ⟨b, o + 19, none⟩) = AD := ⟨_, rfl⟩
        have hCS := C_seg C2.out 19 m h19 hml2 AD (fun h => by rw [← hAD, if_neg (by omega)])
        rw [← hlen] at hCS
        have h512 := (size_of (HT.out 1 (by omega))).2
        rw [hM.out] at h512
        have HCL := fun W (hW : Below wr.heap.size wr W) => clone AD (c - 19) _ W (Kd.C_below hCS hW) (by omega)
        rw [hlen] at HCL
        have HCL := Aside0.mk HCL
        have HLEN := Aside0.mk hlen
        clear hlen hCS h512
        refine region [(0, .p), (1, .p), (4, .p), (5, .p), (6, .p), (8, .p), (2, .t), (3, .p), (7, .o), (9, .p), (10, .p), (11, .p), (12, .p)] (fun W => W.cell? ⟨b, o + 18, none⟩ = some (.int .u8 y)) (by kernel_rfl) (by kernel_rfl) (fun _ _ _ _ _ h => h) (c8) (fun hHeld => ?_)
        iterate 6 (refine lex_p rfl rfl rfl (by intro w'; go_simp; with_reducible rfl) (by simp only [Act.put, List.setIfInBounds_toArray, List.set_cons_zero, List.set_cons_succ, i64_w, i32_w]; rfl) ?_)
        (refine lex_t rfl rfl rfl (by rintro w' s1; go_simp; with_reducible rfl) (by simp only [Act.put, List.setIfInBounds_toArray, List.set_cons_zero, List.set_cons_succ, i64_w, i32_w]; rfl) ?_)
        (refine lex_p rfl rfl rfl (by intro w'; go_simp; with_reducible rfl) (by simp only [Act.put, List.setIfInBounds_toArray, List.set_cons_zero, List.set_cons_succ, i64_w, i32_w]; rfl) ?_)
        refine lex_o rfl ?_
        go_wp2_with fail
        refine (HCL.out _ ((Below.refl _ _).drew.drew)).mono ?_
        rintro e w4 ⟨v, rfl, ho, hb4⟩
        have HO := Aside0.mk ho
        have HB4 := Aside0.mk hb4
        have HS : w4.cell? ⟨b, o + 18, none⟩ = some (.int .u8 y) := pw_cell_below hb4 c8
        clear ho hb4
        go_wp2_with fail
        refine lex_end rfl HS (fun hHeld => ?_)
        iterate 4 (refine lex_p rfl rfl rfl (by intro w'; go_simp; with_reducible rfl) (by simp only [Act.put, List.setIfInBounds_toArray, List.set_cons_zero, List.set_cons_succ, i64_w, i32_w]; rfl) ?_)
        refine lex_nil ?_
        go_wp2_with fail
        rw [Exit.noGoto_ret]
        have hyb := hb.at 18
        rw [hY.out] at hyb
        refine bodyPost_ret (v := .tuple #[.int .i64 y, v, .int .i64 m, .int .i64 0]) (by simp [results, Try.results13, go_sem]; exact w64 y (by omega) (by omega)) rfl ?_
        unfold CutR
        rw [if_pos ⟨HF.out, by rw [hM.out]; omega⟩, hM.out, hY.out]
        refine ⟨v, rfl, ?_, HB.out.trans ((Below.refl _ _).drew.drew.trans (HB4.out.mono HB.out.size))⟩
        exact HO.out.lower HB.out.size

/-- what Cut tells: the kind, the body, how many bytes, the error -/
def cutOf (xs : List Int) : Int × List Int × Int × Int :=
  if xs.length < 19 then (0, [], 0, 0)
  else if flawOf xs = 0 ∧ two xs 16 ≤ xs.length then (xs.getD 18 0, (xs.take (two xs 16).toNat).drop 19, two xs 16, 0)
  else (0, [], 0, flawOf xs)
theorem cut (A : Option Addr) (c : Nat) (xs : List Int) (w : World) (hx : Kd.C KB w A xs.length xs) (hc : xs.length ≤ c) (hb : Byt xs) :
    Calls Try.prog 13 #[.slice A xs.length c] w fun e w' =>
      ∃ v, e = .returned (.tuple #[.int .i64 (cutOf xs).1, v, .int .i64 (cutOf xs).2.2.1, .int .i64 (cutOf xs).2.2.2]) ∧ OB w.heap.size w' v (cutOf xs).2.1 ∧ Below w.heap.size w w' := by
  by_cases hl : xs.length < 19
  · unfold cutOf
    rw [if_pos hl]
    have hd : decide ((xs.length : Int) < 19) = true := by simp; omega
    clear hx
    go_enter Try.func13, Try.ntmps13
    go_wp2_with fail
    go_step3
    go_wp2_with fail
    rw [Exit.noGoto_ret]
    exact bodyPost_ret (v := .tuple #[.int .i64 0, .slice none 0 0, .int .i64 0, .int .i64 0]) (by simp [results, Try.results13, go_sem]) rfl ⟨_, rfl, OB.nil _ _, Below.refl _ _⟩
  · refine (cut_long A c xs w hx hc (by omega) hb).mono ?_
    intro e w' h
    unfold CutR at h
    unfold cutOf
    rw [if_neg hl]
    by_cases hq : flawOf xs = 0 ∧ two xs 16 ≤ xs.length
    · rw [if_pos hq] at h ⊢
      exact h
    · rw [if_neg hq] at h ⊢
      exact ⟨_, h.1, OB.nil _ _, h.2⟩
end Go.Proofs.Yteakiaedlfhceaa.Frame
