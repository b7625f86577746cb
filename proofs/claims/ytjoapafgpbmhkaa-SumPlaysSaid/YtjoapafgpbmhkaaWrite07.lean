/- Contract of Adder.Write. -/
import Derived.Test.YtjoapafgpbmhkaaSum07
set_option linter.unusedSimpArgs false
set_option linter.unusedVariables false
namespace Go.Proofs.Ytjoapafgpbmhkaa.Sum
open Go.RowKit Go.Shelf Go.Proofs.YtjoapafgpbmhkaaW.PrintWords Go.Proofs.YtjoapafgpbmhkaaW.PrintLast Go.Proofs.YtjoapafgpbmhkaaW.PrintMore Go.Proofs.Ytjoapafgpbmhkaa.Lex Go.Proofs.Ytjoapafgpbmhkaa.Lib
attribute [local go_sem] Oper.semAt_some

def addW (s : Int) (pre : List Int) : Int := pre.foldl (fun a x => IntKind.u64.wrap (a + x)) s
theorem addW_snoc (s : Int) (pre : List Int) (x : Int) : addW s (pre ++ [x]) = IntKind.u64.wrap (addW s pre + x) := by simp [addW]
def sumW (low : Bool) (xs : List Int) : Nat := ((wordsOf low xs).map Int.toNat).sum
theorem addW_sum (l : List Int) (s B : Nat) (h : ∀ x ∈ l, 0 ≤ x ∧ x ≤ 65535) (hB : s + 65535 * l.length ≤ 18446744073709551615) : addW s l = ((s + (l.map Int.toNat).sum : Nat) : Int) := by
  induction l generalizing s with
  | nil => simp [addW]
  | cons x r ih =>
    have hx := h x (by simp)
    have h1 : addW (s : Int) (x :: r) = addW (IntKind.u64.wrap ((s : Int) + x)) r := rfl
    have h2 : IntKind.u64.wrap ((s : Int) + x) = ((s + x.toNat : Nat) : Int) := by rw [IntKind.wrap_u64]; simp only [List.length_cons] at hB; omega
    rw [h1, h2, ih (s + x.toNat) (fun y hy => h y (by simp [hy])) (by simp only [List.length_cons] at hB; omega)]
    simp only [List.map_cons, List.sum_cons]
    omega
theorem wordsOf_bound (low : Bool) (xs : List Int) (hb : ∀ x ∈ xs, 0 ≤ x ∧ x ≤ 255) : ∀ x ∈ wordsOf low xs, 0 ≤ x ∧ x ≤ 65535 := by
  induction xs generalizing low with
  | nil => intro x hx; cases hx
  | cons c r ih =>
    intro x hx
    have hc := hb c (by simp)
    rcases List.mem_cons.1 hx with hx | hx
    · subst hx
      unfold next1
      split <;> omega
    · exact ih (!low) (fun y hy => hb y (by simp [hy])) x hx
abbrev at1 (p : Nat) : Nat → Prop := fun k => k = p

set_option maxRecDepth 100000 in
set_option maxHeartbeats 4000000 in
theorem aWrite (p s k : Nat) (A : Option Addr) (c : Nat) (xs : List Int) (w : World) (h : Ad p w s k) (hs : s ≤ 65535) (hx : Kd.C KB w A xs.length xs) (hb : ∀ x ∈ xs, 0 ≤ x ∧ x ≤ 255) (hA : 0 < xs.length → ∀ a, A = some a → a.block ≠ p) (hk : k ≤ 1099511627776) (hl : xs.length ≤ 1099511627776) :
    Calls Try.prog 27 #[ptr p, .slice A xs.length c] w fun e w' => e = .returned (.int .i64 0) ∧ Ad p w' (carry (s + sumW (k % 2 == 1) xs)) (k + xs.length) ∧ But w.heap.size (at1 p) w w' := by
  have hp := h.lt
  have H := Aside0.mk h
  have HX := Aside0.mk hx
  have c0 := (h 0 _ rfl).1
  have c1 := (h 1 _ rfl).1
  have hodd : ((k : Int) % 2 == 1) = (k % 2 == 1) := by
    rcases Nat.mod_two_eq_zero_or_one k with h | h
    · rw [h, show (k : Int) % 2 = 0 by omega]; rfl
    · rw [h, show (k : Int) % 2 = 1 by omega]; rfl
  obtain ⟨odd, hodd2⟩ : ∃ o, (k % 2 == 1) = o := ⟨_, rfl⟩
  rw [hodd2] at hodd
  rw [hodd2]
  have H65 := Aside0.mk (wordsOf_bound odd xs hb)
  obtain ⟨T, hT0⟩ : ∃ T, s + sumW odd xs = T := ⟨_, rfl⟩
  rw [hT0]
  have HT := Aside0.mk hT0
  clear h hx hodd2 hT0
  refine (callsIn_wide (n := 5)).1 ?_
  refine callsIn_of_wp_marks Try.func27 rfl trivial ?_ rfl
  simp only [Try.ntmps27, List.size_toArray, List.length_cons, List.length_nil, Nat.reduceAdd, Nat.reduceSub, Array.replicate_succ, Array.replicate_zero, List.push_toArray, List.append_toArray, List.nil_append, List.cons_append]
  gi_wp2_with fail
  have hbox := Ob.new w [ptr p] #[ptr p] rfl 48
  have hbb : Below w.heap.size w (w.alloc (.cells #[ptr p] 48)) := below_alloc (Below.refl _ _) _
  have hAd := H.out.below hbb hp
  refine ⟨trivial, ?_⟩
  refine (callsIn_wide.2 (none_ p s k _ hAd)).mono ?_
  rintro e w' ⟨rfl, rfl⟩
  gi_wp2_with fail
  refine ⟨trivial, ?_⟩
  refine (callsIn_wide.2 (words A xs.length c odd _)).mono ?_
  rintro e w2 ⟨rfl, o1, o2, hb2, hsz⟩
  have hbs : (w.alloc (.cells #[ptr p] 48)).heap.size = w.heap.size + 1 := by simp
  rw [hbs] at o1 o2 hb2 hsz ⊢
  have hB2 : Below w.heap.size w w2 := hbb.trans (hb2.mono (by omega))
  have hAd2 := H.out.below hB2 hp
  have hbox2 := hbox.below hb2 (by omega)
  have hX2 := Kd.C_below HX.out hB2
  gi_wp2_with fail
  refine rangeB (F := Fence.wide) rfl (by decide) (gf := 43) (lb := #[ptr (w.heap.size + 1 + 1), ptr (w.heap.size + 1)]) rfl trivial (enters_of Try.func43 (by kernel_rfl) rfl)
    (words_seq (S := at1 p) (n := 4) (by decide) (w.heap.size + 1 + 1) (w.heap.size + 1) odd A c xs w2 (o2 0 _ rfl).1 (o1 0 _ rfl).1 hX2 hb (by show ¬ (w.heap.size + 1 = p); omega) (fun h0 a ha => hA h0 a ha) (fun k hk => by have : k = p := hk; omega))
    (fun h A B hk k o hkh hA hc => (hk.block k (by have := (Array.getElem?_eq_some_iff.1 hA).1; omega) (by omega)).trans hA)
    (fun h k => h.trans k) (fun W l o o' _ hl ho => Kept.turn hl ho o') (fun _ => rfl)
    (fun pre W => Ob p W [.int .u64 (addW s pre), .int .i64 k, .bool true] ∧ Ob w.heap.size W [ptr p] ∧ But w.heap.size (at1 p) w W ∧ w.heap.size + 3 ≤ W.heap.size)
    (fun _ _ _ => False) ?hI (fun _ _ _ _ h _ => h.elim) ?tI (fun _ _ _ _ _ _ h _ _ _ => h.elim) (fun _ _ _ _ _ h _ _ _ => h) (fun _ _ _ _ _ h _ _ _ => h) ?h0 ?a1 ?assign ?body ?done ?stop
  case assign =>
    intro l x W K hK
    gi_wp2
    exact hK
  case hI =>
    rintro pre U V ⟨a1, a2, a3, a4⟩ hk
    rw [hsz] at hk
    exact ⟨a1.but hk a1.lt (by omega), a2.but hk a2.lt (by omega), a3.trans (hk.mono (by omega) (fun j hj e => by omega)), Nat.le_trans a4 hk.size⟩
  case tI =>
    rintro pre W l o o' ⟨a1, a2, a3, a4⟩ hl hlo ho
    exact ⟨a1.turn hlo ho o', a2.turn hlo ho o', a3.turn (by omega) o', by simp; exact a4⟩
  case h0 =>
    intro W hW hWs
    exact ⟨hAd2.below hW (by omega), hbox2.below hW (by omega), But.of (hB2.trans (hW.mono (by omega))) (Nat.le_refl _), by omega⟩
  case body =>
    rintro l pre x W ⟨a1, a2, a3, a4⟩ _ _
    obtain ⟨q0, f0⟩ := a1 0 _ rfl
    obtain ⟨q1, _⟩ := a2 0 _ rfl
    gi_wp2
    exact ⟨KeepsOthers.setCell _ _ _, Kept.but (But.setCell (But.refl W.heap.size (at1 p) W) (p := ⟨p, 0, none⟩) (.inr rfl) _) (Nat.le_refl _), by rw [addW_snoc]; exact a1.set 0 (by simp) _, a2.far (by show w.heap.size ≠ p; omega) _, a3.setCell (p := ⟨p, 0, none⟩) (.inr rfl) _, by simp [World.setCell]; exact a4⟩
  case done =>
    rintro D ys W hD rfl ⟨a1, a2, a3, a4⟩ hK
    have hlen := wordsOf_len odd xs
    have hsum := addW_sum (wordsOf odd xs) s 0 H65.out (by rw [hlen]; omega)
    have hT : s + ((wordsOf odd xs).map Int.toNat).sum = T := HT.out
    have hTb : T ≤ s + 65535 * xs.length := by
      rw [← hT]
      have : ∀ l : List Int, (∀ x ∈ l, 0 ≤ x ∧ x ≤ 65535) → (l.map Int.toNat).sum ≤ 65535 * l.length := fun l => by
        induction l with
        | nil => simp
        | cons x r ih =>
          intro h
          have h1 := h x (by simp)
          have h2 := ih (fun y hy => h y (by simp [hy]))
          simp only [List.map_cons, List.sum_cons, List.length_cons]
          omega
      have := this _ H65.out
      rw [hlen] at this
      omega
    rw [hT] at hsum
    rw [hsum] at a1
    obtain ⟨q0, f0⟩ := a1 0 _ rfl
    obtain ⟨q1, f1⟩ := a1 1 _ rfl
    obtain ⟨p0, _⟩ := a2 0 _ rfl
    have A1 := Aside0.mk a1
    have A2 := Aside0.mk a2
    have A3 := Aside0.mk a3
    have HK := Aside0.mk hK
    clear a1 a2 a3 hK hsum hT hAd hbox hbox2 hAd2 hX2 c0 c1 o1 o2
    gi_wp2_with fail
    refine (wpIn_wide (n := 5)).2 ?_
    refine regionN [(0, .t), (1, .t), (2, .p), (3, .p), (4, .t), (5, .o), (6, .p), (7, .p), (8, .p), (9, .p), (10, .e)] (fun V => V.cell? ⟨w.heap.size, 0, none⟩ = some (ptr p) ∧ V.cell? ⟨p, 0, none⟩ = some (.int .u64 T)) (by kernel_rfl) (by kernel_rfl) ⟨p0, q0⟩ (fun hHeld => ?_)
    iterate 2 (refine lex_t rfl rfl rfl (by rintro w' ⟨s1, s2⟩; go_simp; with_reducible rfl) (by simp only [Act.put, List.setIfInBounds_toArray, List.set_cons_zero, List.set_cons_succ, i64_w, i32_w]; rfl) ?_)
    iterate 2 (refine lex_p rfl rfl rfl (by intro w'; go_simp; with_reducible rfl) (by simp only [Act.put, List.setIfInBounds_toArray, List.set_cons_zero, List.set_cons_succ, i64_w, i32_w]; rfl) ?_)
    (refine lex_t rfl rfl rfl (by rintro w' ⟨s1, s2⟩; go_simp; with_reducible rfl) (by simp only [Act.put, List.setIfInBounds_toArray, List.set_cons_zero, List.set_cons_succ, i64_w, i32_w]; rfl) ?_)
    refine lex_o rfl ?_
    go_wp2_with fail
    refine (raw T _ (by omega)).mono ?_
    rintro e W2 ⟨rfl, hb3⟩
    have hb4 : Below W.heap.size W W2 := (Below.refl _ _).drew.trans hb3
    have q2 := A1.out.below hb4 A1.out.lt
    have p2 := A2.out.below hb4 A2.out.lt
    obtain ⟨q0', f0'⟩ := q2 0 _ rfl
    obtain ⟨q1', f1'⟩ := q2 1 _ rfl
    obtain ⟨p0', _⟩ := p2 0 _ rfl
    have Q2 := Aside0.mk q2
    have P2 := Aside0.mk p2
    have B4 := Aside0.mk hb4
    clear q0 f0 q1 f1 p0 hb3 hb4 hHeld q2 p2
    go_wp2_with fail
    refine lex_end rfl ⟨p0', q0'⟩ (fun hHeld => ?_)
    iterate 4 (refine lex_p rfl rfl rfl (by intro w'; go_simp; with_reducible rfl) (by simp only [Act.put, List.setIfInBounds_toArray, List.set_cons_zero, List.set_cons_succ, i64_w, i32_w]; rfl) ?_)
    refine lex_e rfl ?_
    go_wp2_with fail
    refine outN ?_
    have hwr : IntKind.u64.wrap ((carry T : Nat) : Int) = ((carry T : Nat) : Int) := by have := carry_le T; rw [IntKind.wrap_u64]; omega
    rw [hwr]
    have B5 := Aside0.mk (Q2.out.set 0 (by simp) (.int .u64 (carry T)))
    obtain ⟨r1, g1⟩ := B5.out 1 _ rfl
    have P5 := (P2.out.far (q := ⟨p, 0, none⟩) (by show w.heap.size ≠ p; omega) (.int .u64 (carry T)))
    obtain ⟨r0, _⟩ := P5 0 _ rfl
    have HD2 : (W2.setCell ⟨p, 0, none⟩ (.int .u64 (carry T))).heap[D]? = some (.deferred (some [])) := by
      rw [Below.heap_setCell _ _ _ _ (by show D ≠ p; rw [hD, hsz]; omega)]
      exact (B4.out.block D (Array.getElem?_eq_some_iff.1 HK.out).1).trans HK.out
    obtain ⟨W5, hW5⟩ : ∃ W5, W2.setCell ⟨p, 0, none⟩ (.int .u64 (carry T)) = W5 := ⟨_, rfl⟩
    rw [hW5] at B5 r1 g1 r0 HD2 ⊢
    have B6 : Aside0 (But w.heap.size (at1 p) w W5) := ⟨by rw [← hW5]; exact ((A3.out.then B4.out (by omega)).setCell (p := ⟨p, 0, none⟩) (.inr rfl) _)⟩
    have HD3 := Aside0.mk HD2
    clear P5 hW5 hwr q0' f0' q1' f1' p0' hHeld Q2 P2 B4 A1 A2 A3 HK HD2
    gi_wp2_with fail
    have hK2 : (W5.setCell ⟨p, 1, none⟩ (.int .i64 ((k : Int) + (xs.length : Int)))).heap[D]? = some (.deferred (some [])) := by
      rw [Below.heap_setCell _ _ _ _ (by show D ≠ p; rw [hD, hsz]; omega)]
      exact HD3.out
    rw [hD, hsz] at hK2
    refine ⟨by simp, .inl ⟨_, _, rfl, run_takeDeferred hK2, ?_⟩⟩
    have a5 := B5.out.set 1 (by simp) (.int .i64 ((k + xs.length : Nat) : Int))
    rw [show (((k + xs.length : Nat) : Int)) = (k : Int) + (xs.length : Int) by omega] at a5
    refine ⟨_, results_tmp rfl _ _ _, rfl, ?_, ?_⟩
    · have a6 := Ob.turn a5 hK2 rfl (.deferred none)
      show Ob p _ [.int .u64 ((carry T : Nat) : Int), .int .i64 ((k + xs.length : Nat) : Int), .bool true]
      rw [show (((k + xs.length : Nat) : Int)) = (k : Int) + (xs.length : Int) by omega]
      exact a6
    · exact (B6.out.setCell (p := ⟨p, 1, none⟩) (.inr rfl) _).turn (by omega) _
  case stop =>
    rintro D c pre W _ _ h _
    exact h.elim
end Go.Proofs.Ytjoapafgpbmhkaa.Sum
