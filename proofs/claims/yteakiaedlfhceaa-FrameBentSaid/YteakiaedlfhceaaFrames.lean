/- Contracts of frames under way: New, Flaw, Write, Next, Left, Copy. -/
import Derived.Test.YteakiaedlfhceaaObj
import Derived.Test.YteakiaedlfhceaaCut
set_option linter.unusedSimpArgs false
set_option linter.unusedVariables false
namespace Go.Proofs.Yteakiaedlfhceaa.Frame
open Go.RowKit Go.Proofs.YteakiaedlfhceaaW.PrintWords Go.Proofs.YteakiaedlfhceaaW.PrintLast Go.Proofs.YteakiaedlfhceaaW.PrintMore Go.Proofs.Yteakiaedlfhceaa.Lex Go.Proofs.Yteakiaedlfhceaa.Lib

/-- Frames under way, at a block: the bytes that were not taken lie in blocks of S. -/
def Fr (S : Nat → Prop) (p : Nat) (w : World) (xs : List Int) (fl : Int) : Prop := ∃ v, Ob p w [v, .int .i64 fl, .bool true] ∧ Sl S w v xs
abbrev at1 (p : Nat) : Nat → Prop := fun k => k = p
abbrev ptr (p : Nat) : Value := .pointer (some ⟨p, 0, none⟩)
theorem Fr.lt {S : Nat → Prop} {p : Nat} {w : World} {xs : List Int} {fl : Int} (h : Fr S p w xs fl) : p < w.heap.size := by
  obtain ⟨v, h1, _⟩ := h
  exact h1.lt
theorem Fr.mono {S S' : Nat → Prop} {p : Nat} {w : World} {xs : List Int} {fl : Int} (h : Fr S p w xs fl) (hn : ∀ k, S k → S' k) : Fr S' p w xs fl := by
  obtain ⟨v, h1, h2⟩ := h
  exact ⟨v, h1, h2.mono hn⟩
theorem Fr.same {S : Nat → Prop} {p : Nat} {w w' : World} {xs : List Int} {fl : Int} (h : Fr S p w xs fl) (hp : w'.heap[p]? = w.heap[p]?) (hS : ∀ k, S k → w'.heap[k]? = w.heap[k]?) : Fr S p w' xs fl := by
  obtain ⟨v, h1, h2⟩ := h
  exact ⟨v, h1.same hp, h2.same hS⟩
theorem Fr.below {S : Nat → Prop} {m p : Nat} {w w' : World} {xs : List Int} {fl : Int} (h : Fr S p w xs fl) (hb : Below m w w') (hS : ∀ k, S k → k < m) (hp : p < m) : Fr S p w' xs fl :=
  h.same (hb.block p hp) (fun k hk => hb.block k (hS k hk))

theorem new (w : World) : Calls Try.prog 15 #[] w fun e w' => e = .returned (ptr w.heap.size) ∧ Fr (fun _ => False) w.heap.size w' [] 0 ∧ Below w.heap.size w w' := by
  go_enter Try.func15, Try.ntmps15
  go_wp2
  go_ret
  exact ⟨rfl, ⟨_, Ob.new w _ _ rfl _, Sl.nil _ _⟩, below_alloc (Below.refl _ _) _⟩

theorem flaw {S : Nat → Prop} {p : Nat} {w : World} {xs : List Int} {fl : Int} (h : Fr S p w xs fl) : Calls Try.prog 18 #[ptr p] w fun e w' => e = .returned (.int .i64 fl) ∧ w = w' := by
  obtain ⟨v, h1, _⟩ := h
  have c1 := (h1 1 _ rfl).1
  have c2 := (h1 2 _ rfl).1
  clear h1
  go_enter Try.func18, Try.ntmps18
  go_wp2
  go_ret
  exact ⟨rfl, rfl⟩

theorem add {S : Nat → Prop} {p : Nat} {w : World} {xs ys : List Int} {fl : Int} {B : Option Addr} {c : Nat} (h : Fr S p w xs fl) (hy : Kd.C KB w B ys.length ys) (hc : ys.length ≤ c) (hl : xs.length + ys.length ≤ 140737488355328) :
    Calls Try.prog 33 #[ptr p, .slice B ys.length c] w fun e w' => e = .returned (.tuple #[]) ∧ Fr (fun k => w.heap.size ≤ k ∧ k < w'.heap.size) p w' (xs ++ ys) fl ∧ But w.heap.size (at1 p) w w' := by
  obtain ⟨v, h1, A, cx, rfl, hcx, hC, hA⟩ := h
  have hp := h1.lt
  have c0 := (h1 0 _ rfl).1
  have OB0 := Aside0.mk h1
  have HX := Aside0.mk hC
  have HY := Aside0.mk hy
  clear h1 hC hy hA
  go_enter Try.func33, Try.ntmps33
  go_wp2_with fail
  refine (joined (some ⟨w.heap.size, 0, none⟩) 2 [xs, ys] _ (CBB_alloc (by simp) _ rfl ?hm ?hrows) ?hlen).mono ?_
  case hm => simp
  case hrows =>
    intro j zs hj
    match j, hj with
    | 0, hj =>
      injection hj with hj
      subst hj
      exact ⟨_, _, rfl, hcx, Kd.C_below HX.out (below_alloc (Below.refl _ _) _)⟩
    | 1, hj =>
      injection hj with hj
      subst hj
      exact ⟨_, _, rfl, hc, Kd.C_below HY.out (below_alloc (Below.refl _ _) _)⟩
    | j + 2, hj => simp at hj
  case hlen => simp [flat]; omega
  rintro e w1 ⟨v, rfl, ho, hb⟩
  have hB1 : Below w.heap.size w w1 := (below_alloc (Below.refl _ _) _).trans (hb.mono (by simp))
  have hO1 := OB0.out.below hB1 hp
  obtain ⟨q0, q1⟩ := hO1 0 _ rfl
  have OB1 := Aside0.mk hO1
  have HO := Aside0.mk ho
  have HB1 := Aside0.mk hB1
  obtain ⟨Av, cv, rfl, _, _⟩ := ho.reads
  clear hO1 ho hb hB1 c0 OB0
  go_wp2_with fail
  go_end0
  refine ⟨rfl, ⟨_, by simpa using OB1.out.set 0 (by simp) _, ?_⟩, ?_⟩
  · have h2 : flat [xs, ys] = xs ++ ys := by simp [flat]
    rw [← h2]
    exact (HO.out.sl (S := fun k => w.heap.size ≤ k ∧ k < w1.heap.size) (fun k h3 h4 => ⟨by simp at h3; omega, h4⟩)).same (fun k hk => Below.heap_setCell _ _ _ _ (by show k ≠ p; omega)) |>.mono (fun k hk => ⟨hk.1, by simp [World.setCell]; exact hk.2⟩)
  · exact (But.of (S := at1 p) HB1.out (Nat.le_refl _)).setCell (p := ⟨p, 0, none⟩) (.inr rfl) _

theorem write {S : Nat → Prop} {p : Nat} {w : World} {xs ys : List Int} {B : Option Addr} {c : Nat} (h : Fr S p w xs 0) (hy : Kd.C KB w B ys.length ys) (hc : ys.length ≤ c) (hl : xs.length + ys.length ≤ 140737488355328) :
    Calls Try.prog 16 #[ptr p, .slice B ys.length c] w fun e w' => e = .returned (.int .i64 0) ∧ Fr (fun k => w.heap.size ≤ k ∧ k < w'.heap.size) p w' (xs ++ ys) 0 ∧ But w.heap.size (at1 p) w w' := by
  have HF := Aside0.mk (flaw h)
  have HA := Aside0.mk (add h hy hc hl)
  clear h hy
  go_enter Try.func16, Try.ntmps16
  go_wp2_with fail
  refine HF.out.mono ?_
  rintro e w' ⟨rfl, rfl⟩
  go_wp2_with fail
  refine HA.out.mono ?_
  rintro e w' ⟨rfl, hf, hb⟩
  go_wp2_with fail
  go_ret
  exact ⟨rfl, hf, hb⟩
theorem write_bad {S : Nat → Prop} {p : Nat} {w : World} {xs : List Int} {fl : Int} {B : Option Addr} {m c : Nat} (h : Fr S p w xs fl) (hf : fl ≠ 0) :
    Calls Try.prog 16 #[ptr p, .slice B m c] w fun e w' => e = .returned (.int .i64 fl) ∧ w = w' := by
  have HF := Aside0.mk (flaw h)
  have hd : decide (fl = 0) = false := by simpa using hf
  have hd2 : (fl == 0) = false := by simpa using hf
  clear h
  go_enter Try.func16, Try.ntmps16
  go_wp2_with fail
  refine HF.out.mono ?_
  rintro e w' ⟨rfl, rfl⟩
  go_wp2_with fail
  go_ret
  exact ⟨rfl, rfl⟩
theorem left {S : Nat → Prop} {p : Nat} {w : World} {xs : List Int} {fl : Int} (h : Fr S p w xs fl) (hl : xs.length ≤ 140737488355328) :
    Calls Try.prog 24 #[ptr p] w fun e w' => ∃ v, e = .returned v ∧ OB w.heap.size w' v xs ∧ Below w.heap.size w w' := by
  obtain ⟨v, h1, A, cx, rfl, hcx, hC, hA⟩ := h
  have c0 := (h1 0 _ rfl).1
  have HC := Aside0.mk (clone A cx xs w hC hl)
  clear h1 hC hA
  go_enter Try.func24, Try.ntmps24
  go_wp2_with fail
  refine HC.out.mono ?_
  rintro e w' ⟨v, rfl, ho, hb⟩
  go_wp2_with fail
  go_ret
  exact ⟨_, rfl, ho, hb⟩

theorem cutOf_n (xs : List Int) (hb : Byt xs) : 0 ≤ (cutOf xs).2.2.1 ∧ (cutOf xs).2.2.1 ≤ xs.length := by
  unfold cutOf
  split
  · simp
  · split
    · rename_i h1 h2
      have h3 := hb.at 16
      have h4 := hb.at 17
      refine ⟨?_, h2.2⟩
      show 0 ≤ two xs 16
      unfold two
      have h5 : xs.getD (16 + 1) 0 = xs.getD 17 0 := rfl
      omega
    · simp
theorem next_bad {S : Nat → Prop} {p : Nat} {w : World} {xs : List Int} {fl : Int} (h : Fr S p w xs fl) (hf : fl ≠ 0) :
    Calls Try.prog 17 #[ptr p] w fun e w' => e = .returned (.tuple #[.int .i64 0, .slice none 0 0, .bool false, .int .i64 fl]) ∧ w = w' := by
  have HF := Aside0.mk (flaw h)
  have hd : decide (fl = 0) = false := by simpa using hf
  have hd2 : (fl == 0) = false := by simpa using hf
  clear h
  go_enter Try.func17, Try.ntmps17
  go_wp2_with fail
  refine HF.out.mono ?_
  rintro e w' ⟨rfl, rfl⟩
  go_wp2_with fail
  exact bodyPost_ret (v := .tuple #[.int .i64 0, .slice none 0 0, .bool false, .int .i64 fl]) (by simp [results, Try.results17, go_sem]) rfl ⟨rfl, rfl⟩
theorem fr_next {S : Nat → Prop} {p : Nat} {w w1 : World} {xs : List Int} {A : Option Addr} {cx m : Nat} {e0 e1 : Int} (hn : ∀ k, S k → k < w.heap.size ∧ k ≠ p) (hS : Sl S w (.slice A xs.length cx) xs) (hO : Ob p w1 [.slice A xs.length cx, .int .i64 e0, .bool true]) (hb : Below w.heap.size w w1) (hm : m ≤ xs.length) (AD : Option Addr) (C : Nat) (hC : C = cx - m)
    (hA : ∀ b o, A = some ⟨b, o, none⟩ → m < xs.length → AD = some ⟨b, o + m, none⟩) (hB : ∀ a, AD = some a → ∃ a0, A = some a0 ∧ a0.block = a.block) :
    Fr S p ((w1.setCell ⟨p, 1, none⟩ (.int .i64 e1)).setCell ⟨p, 0, none⟩ (.slice AD (xs.length - m) C)) (xs.drop m) e1 := by
  subst hC
  refine ⟨.slice AD (xs.length - m) (cx - m), ?_, ?_⟩
  · have h1 := (hO.set 1 (by simp) (.int .i64 e1)).set 0 (by simp) (.slice AD (xs.length - m) (cx - m))
    simpa using h1
  · refine (hS.drop m hm AD hA hB).same (fun k hk => ?_)
    rw [Below.heap_setCell _ _ _ _ (by exact (hn k hk).2), Below.heap_setCell _ _ _ _ (by exact (hn k hk).2)]
    exact hb.block k (hn k hk).1
theorem fr_but {p n : Nat} {w w1 : World} (hb : Below w.heap.size w w1) (u v : Value) : But w.heap.size (at1 p) w ((w1.setCell ⟨p, 1, none⟩ u).setCell ⟨p, 0, none⟩ v) :=
  ((But.of (S := at1 p) hb (Nat.le_refl _)).setCell (p := ⟨p, 1, none⟩) (.inr rfl) _).setCell (p := ⟨p, 0, none⟩) (.inr rfl) _
set_option maxHeartbeats 1000000 in
theorem next {S : Nat → Prop} {p : Nat} {w : World} {xs : List Int} (h : Fr S p w xs 0) (hb : Byt xs) (hn : ∀ k, S k → k < w.heap.size ∧ k ≠ p) :
    Calls Try.prog 17 #[ptr p] w fun e w' => ∃ v, e = .returned (.tuple #[.int .i64 (cutOf xs).1, v, .bool (decide (0 < (cutOf xs).2.2.1)), .int .i64 (cutOf xs).2.2.2]) ∧
      OB w.heap.size w' v (cutOf xs).2.1 ∧ Fr S p w' (xs.drop (cutOf xs).2.2.1.toNat) (cutOf xs).2.2.2 ∧ But w.heap.size (at1 p) w w' := by
  have HF := Aside0.mk (flaw h)
  have hp := h.lt
  have hN := cutOf_n xs hb
  obtain ⟨v, h1, hS⟩ := h
  obtain ⟨A, cx, rfl, hcx, hC, hA⟩ := hS
  have c0 := (h1 0 _ rfl).1
  have HC := Aside0.mk (cut A cx xs w hC hcx hb)
  have HS : Aside0 (Sl S w (.slice A xs.length cx) xs) := ⟨A, cx, rfl, hcx, hC, hA⟩
  have HOB := Aside0.mk h1
  have HAd : Aside0 (0 < xs.length → ∃ b o, A = some ⟨b, o, none⟩) := ⟨fun hq => C_addr (by decide) hC hq⟩
  obtain ⟨⟨k1, bd, n1, e1⟩, hq⟩ : ∃ q, cutOf xs = q := ⟨_, rfl⟩
  simp only [hq] at HC hN ⊢
  obtain ⟨m, rfl⟩ : ∃ m : Nat, n1 = m := ⟨n1.toNat, by omega⟩
  rw [Int.toNat_natCast]
  have hm : m ≤ xs.length := by omega
  clear h1 hC hA hq hN
  go_enter Try.func17, Try.ntmps17
  go_wp2_with fail
  refine HF.out.mono ?_
  rintro e w' ⟨rfl, rfl⟩
  go_wp2_with fail
  refine HC.out.mono ?_
  rintro e w1 ⟨v, rfl, ho, hb1⟩
  have hO1 := HOB.out.below hb1 hp
  obtain ⟨q0, q1⟩ := hO1 0 _ rfl
  obtain ⟨q2, q3⟩ := hO1 1 _ rfl
  have HO1 := Aside0.mk hO1
  have HO := Aside0.mk ho
  have HB1 := Aside0.mk hb1
  have hmc : (m : Int) ≤ (cx : Int) := by omega
  have hmx : (m : Int) ≤ (xs.length : Int) := by omega
  clear hO1 ho hb1 c0 HOB HC HF
  cases A with
  | none =>
    have hx0 : xs.length = 0 := by
      rcases Nat.eq_zero_or_pos xs.length with h0 | h0
      · exact h0
      · obtain ⟨b, o, e⟩ := HAd.out h0
        cases e
    go_wp2_with fail
    refine bodyPost_ret (v := .tuple #[.int .i64 k1, v, .bool (decide (0 < m)), .int .i64 e1]) (by simp [results, Try.results17, go_sem]) rfl ⟨v, by simp, ?_, ?_, fr_but (n := 0) HB1.out _ _⟩
    · exact (HO.out.far (by exact hp) _).far (by exact hp) _
    · have h3 := fr_next (e1 := e1) hn HS.out HO1.out HB1.out hm none (cx - m) rfl (fun b o e => by cases e) (fun a e => by cases e)
      rw [hx0] at h3
      have h4 : m = 0 := by omega
      subst h4
      exact h3
  | some ad =>
    go_wp2_with fail
    · refine bodyPost_ret (v := .tuple #[.int .i64 k1, v, .bool (decide (0 < m)), .int .i64 e1]) (by simp [results, Try.results17, go_sem]) rfl ⟨v, by simp, ?_, ?_, fr_but (n := 0) HB1.out _ _⟩
      · exact (HO.out.far (by exact hp) _).far (by exact hp) _
      · exact fr_next (e1 := e1) hn HS.out HO1.out HB1.out hm (some ad) 0 (by omega) (fun b o e hlt => by omega) (fun a e => ⟨a, e, rfl⟩)
    · refine bodyPost_ret (v := .tuple #[.int .i64 k1, v, .bool (decide (0 < m)), .int .i64 e1]) (by simp [results, Try.results17, go_sem]) rfl ⟨v, by simp, ?_, ?_, fr_but (n := 0) HB1.out _ _⟩
      · exact (HO.out.far (by exact hp) _).far (by exact hp) _
      · exact fr_next (e1 := e1) hn HS.out HO1.out HB1.out hm (some (ad.add m)) (cx - m) rfl (fun b o e hlt => by injection e with e; subst e; rw [add_none]) (fun a e => by injection e with e; subst e; exact ⟨ad, rfl, (add_block ad m).symm⟩)

/-- what Next tells: the kind, the body, how many bytes are taken, the error -/
def nxt (xs : List Int) (fl : Int) : Int × List Int × Int × Int := if fl = 0 then cutOf xs else (0, [], 0, fl)
theorem nxt_n (xs : List Int) (fl : Int) (hb : Byt xs) : 0 ≤ (nxt xs fl).2.2.1 ∧ (nxt xs fl).2.2.1 ≤ xs.length := by
  unfold nxt
  split
  · exact cutOf_n xs hb
  · simp
theorem nextU {S : Nat → Prop} {p : Nat} {w : World} {xs : List Int} {fl : Int} (h : Fr S p w xs fl) (hb : Byt xs) (hn : ∀ k, S k → k < w.heap.size ∧ k ≠ p) :
    Calls Try.prog 17 #[ptr p] w fun e w' => ∃ v, e = .returned (.tuple #[.int .i64 (nxt xs fl).1, v, .bool (decide (0 < (nxt xs fl).2.2.1)), .int .i64 (nxt xs fl).2.2.2]) ∧
      OB w.heap.size w' v (nxt xs fl).2.1 ∧ Fr S p w' (xs.drop (nxt xs fl).2.2.1.toNat) (nxt xs fl).2.2.2 ∧ But w.heap.size (at1 p) w w' := by
  by_cases hf : fl = 0
  · subst hf
    exact next h hb hn
  · refine (next_bad h hf).mono ?_
    rintro e w' ⟨rfl, rfl⟩
    unfold nxt
    rw [if_neg hf]
    exact ⟨_, rfl, OB.nil _ _, h, But.refl _ _ _⟩
theorem Byt.drop {xs : List Int} (h : Byt xs) (m : Nat) : Byt (xs.drop m) := fun x hx => h x (List.mem_of_mem_drop hx)
end Go.Proofs.Yteakiaedlfhceaa.Frame
