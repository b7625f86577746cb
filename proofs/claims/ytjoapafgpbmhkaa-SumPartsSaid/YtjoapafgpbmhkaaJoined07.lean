/- The law's joined; the walk of SumParts. -/
import Derived.Test.YtjoapafgpbmhkaaLawsL07
set_option linter.unusedSimpArgs false
set_option linter.unusedVariables false
namespace Go.Proofs.Ytjoapafgpbmhkaa.Sum
open Go.RowKit Go.Proofs.YtjoapafgpbmhkaaW.PrintWords Go.Proofs.YtjoapafgpbmhkaaW.PrintLast Go.Proofs.YtjoapafgpbmhkaaW.PrintMore Go.Proofs.Ytjoapafgpbmhkaa.Lex Go.Proofs.Ytjoapafgpbmhkaa.Lib Go.Proofs.Ytjoapafgpbmhkaa.High
/-- parts that are few and short -/
def few (l : List (List Int)) : Prop := l.length ≤ 30 ∧ ∀ i, i < l.length → (l.getD i []).length ≤ 300
def JoinPost (l : List (List Int)) (w : World) (e : Ending) (w' : World) : Prop := Below w.heap.size w w' ∧ ((few l ∧ ∃ v, e = .returned (.tuple #[v, .bool true]) ∧ OB w.heap.size w' v (flat l)) ∨ (¬ few l ∧ e = .returned (.tuple #[.slice none 0 0, .bool false])))
set_option maxHeartbeats 2000000 in
theorem joined (A : Option Addr) (c : Nat) (l : List (List Int)) (w : World) (hx : Kd.C KBB w A l.length l) : Calls Try.prog 10 #[.slice A l.length c] w (JoinPost l w) := by
  by_cases h30 : 30 < l.length
  · have hd : (30 : Int) < (l.length : Int) := by omega
    clear hx
    go_enter Try.func10, Try.ntmps10
    go_wp2_with fail
    go_ret2
    exact ⟨Below.refl _ _, .inr ⟨fun h => by have := h.1; omega, rfl⟩⟩
  · have HX := Aside0.mk hx
    have hd : ¬ (30 : Int) < (l.length : Int) := by omega
    have hm := hx.2.1
    clear hx
    go_enter Try.func10, Try.ntmps10
    go_wp2_with fail
    go_loopg [4, 5] l.length (fun gk s4 s5 w' => ∃ k : Nat, k ≤ l.length ∧ l.length - k ≤ gk ∧ s5 = .int .i64 k ∧ Aside0 (∀ i, i < k → (l.getD i []).length ≤ 300) ∧ Aside0 ((flat (l.take k)).length ≤ 300 * k) ∧ Aside0 (OB w.heap.size w' s4 (flat (l.take k))) ∧ Aside0 (Below w.heap.size w w'))
    case atStart => exact ⟨0, by omega, by omega, rfl, ⟨fun i hi => by omega⟩, ⟨by simp [flat]⟩, ⟨by simpa [flat] using OB.nil _ _⟩, ⟨Below.refl _ _⟩⟩
    case round =>
      obtain ⟨k, hk, hgk, rfl, HS, HL, HO, HB⟩ := hrel
      by_cases hlt : k < l.length
      · obtain ⟨b, o, A0, c0, rfl, hcellw, hc0, hCw⟩ := C_row HX.out k hlt
        have hcell := pw_cell_below HB.out hcellw
        have HC := Aside0.mk (Kd.C_below hCw HB.out)
        have hft := flat_take l k hlt
        have HSk : Aside0 ((l.getD k []).length ≤ 300 → ∀ i, i < k + 1 → (l.getD i []).length ≤ 300) := ⟨fun h i hi => by
          rcases Nat.lt_or_ge i k with h2 | h2
          · exact HS.out i h2
          · rw [show i = k by omega]; exact h⟩
        have HW : Aside0 (300 < (l.getD k []).length → ¬ few l) := ⟨fun h h2 => by have := h2.2 k hlt; omega⟩
        obtain ⟨y, hy⟩ : ∃ y, l.getD k [] = y := ⟨_, rfl⟩
        rw [hy] at hcell hc0 HC hft HSk HW
        have HF := Aside0.mk hft
        by_cases hbig : 300 < y.length
        · have hb2 : (300 : Int) < (y.length : Int) := by omega
          clear hCw hcellw hy hft
          go_wp2_with fail
          go_ret2
          exact ⟨HB.out, .inr ⟨HW.out hbig, rfl⟩⟩
        · have hb2 : ¬ (300 : Int) < (y.length : Int) := by omega
          have hs := HB.out.size
          clear hCw hcellw hy hft
          go_wp2_with ((with_reducible refine gate_builtin (b := .append) (xs := #[.tmp 21, .tmp 25]) rfl ?_); refine ap_row w.heap.size _ _ rfl rfl HO.out HC.out rfl rfl hs (by have := HL.out; omega) ?_; intro v1 w1 ho hb; have HO1 := Aside0.mk ho; have HB1 := Aside0.mk (HB.out.trans hb); clear ho hb)
          go_roundg (gk - 1)
          case measure => omega
          case rel => exact ⟨k + 1, by omega, by omega, by go_num, ⟨HSk.out (by omega)⟩, ⟨by have := HL.out; rw [HF.out, List.length_append]; omega⟩, ⟨by rw [HF.out]; exact HO1.out⟩, HB1⟩
      · obtain rfl : k = l.length := by omega
        rw [List.take_length] at HO
        have HFew : Aside0 (few l) := ⟨by omega, HS.out⟩
        go_wp2_with fail
        go_ret2
        exact ⟨HB.out, .inl ⟨HFew.out, _, rfl, HO.out⟩⟩
theorem few_flat (l : List (List Int)) (h : few l) : (flat l).length ≤ 9000 := by
  have h2 : ∀ k, k ≤ l.length → (flat (l.take k)).length ≤ 300 * k := fun k => by
    induction k with
    | zero => simp [flat]
    | succ k ih =>
      intro hk
      have h3 := h.2 k (by omega)
      rw [flat_take l k (by omega), List.length_append]
      have := ih (by omega)
      omega
  have h4 := h2 l.length (Nat.le_refl _)
  rw [List.take_length] at h4
  have := h.1
  omega
theorem byt_flat {l : List (List Int)} (h : ∀ xs ∈ l, Byt xs) : Byt (flat l) := fun x hx => by
  obtain ⟨xs, h1, h2⟩ := List.mem_flatten.1 hx
  exact h xs h1 x h2
set_option maxHeartbeats 2000000 in
theorem sumParts (A : Option Addr) (c : Nat) (l : List (List Int)) (w : World) (hx : Kd.C KBB w A l.length l) (hc : l.length ≤ c) (ho : ∀ xs ∈ l, ∀ n ∈ xs, (Lit.int .u8 n).wf = true) :
    Calls Try.prog 3 #[.slice A l.length c] w fun e w' => e = .returned (.bool true) ∧ Below w.heap.size w w' := by
  have HJ := Aside0.mk (joined A c l w hx)
  have hb : ∀ xs ∈ l, Byt xs := fun xs h => byt (ho xs h)
  by_cases hf : few l
  · have hfl := few_flat l hf
    have HF := Aside0.mk hf
    have HR := Aside0.mk (fun W (hW : Below w.heap.size w W) => sRaw A c l W (Kd.C_below hx hW) hb (by omega))
    have HS := Aside0.mk (fun W (hW : Below w.heap.size w W) => sSum A c l W (Kd.C_below hx hW) hb (by omega))
    have HK := Aside0.mk (fun W (hW : Below w.heap.size w W) => sCheck A c l W (Kd.C_below hx hW) hb (by omega))
    have HRR := Aside0.mk (fun W B d (h : Kd.C KB W B (flat l).length (flat l)) => rRaw B d (flat l) W h (byt_flat hb) (by omega))
    have HRS := Aside0.mk (fun W B d (h : Kd.C KB W B (flat l).length (flat l)) => rSum B d (flat l) W h (byt_flat hb) (by omega))
    have e1 : decide (rawS (flat l) = 65535) = ((rawS (flat l) : Int) == 65535) := by
      by_cases h : rawS (flat l) = 65535
      · rw [h]; rfl
      · rw [decide_eq_false h]; symm; simpa using (by omega : ¬ (rawS (flat l) : Int) = 65535)
    rw [e1] at HK
    obtain ⟨F, hF⟩ : ∃ F, flat l = F := ⟨_, rfl⟩
    obtain ⟨r, hr⟩ : ∃ r, rawS (flat l) = r := ⟨_, rfl⟩
    have hrle := rawS_le (flat l)
    rw [hr] at HR HS HK HRR HRS hrle
    simp only [hF] at HRR HRS
    have HFF := Aside0.mk hF
    clear hx ho hb e1 hr hF hfl
    go_enter Try.func3, Try.ntmps3
    go_wp2_with fail
    refine HJ.out.mono ?_
    rintro e w1 ⟨b1, ⟨_, v, rfl, o1⟩ | ⟨hn, _⟩⟩
    · rw [HFF.out] at o1
      have O1 := Aside0.mk o1
      have B1 := Aside0.mk b1
      obtain ⟨Av, cv, rfl, _, _⟩ := o1.reads
      clear o1 b1 HFF HJ
      go_wp2_with fail
      refine (HR.out _ B1.out).mono ?_
      rintro e w2 ⟨rfl, b2⟩
      have B2 := Aside0.mk (B1.out.trans (b2.mono B1.out.size))
      have O2 := Aside0.mk (O1.out.below b2)
      clear b2 O1 B1
      go_wp2_with fail
      refine (HRR.out _ _ _ O2.out.readsAt).mono ?_
      rintro e w3 ⟨rfl, rfl⟩
      go_wp2_with fail
      refine (HS.out _ B2.out).mono ?_
      rintro e w3 ⟨rfl, b3⟩
      have B3 := Aside0.mk (B2.out.trans (b3.mono B2.out.size))
      have O3 := Aside0.mk (O2.out.below b3)
      clear b3 O2 B2
      go_wp2_with fail
      refine (HRS.out _ _ _ O3.out.readsAt).mono ?_
      rintro e w4 ⟨rfl, rfl⟩
      go_wp2_with fail
      refine (HK.out _ B3.out).mono ?_
      rintro e w4 ⟨rfl, b4⟩
      have B4 := Aside0.mk (B3.out.trans (b4.mono B3.out.size))
      have O4 := Aside0.mk (O3.out.below b4)
      clear b4 O3 B3
      go_wp2_with fail
      refine (HRR.out _ _ _ O4.out.readsAt).mono ?_
      rintro e w5 ⟨rfl, rfl⟩
      go_wp2_with fail
      refine (works _).mono ?_
      rintro e w' ⟨rfl, hbw⟩
      go_wp2_with fail
      go_ret
      exact ⟨rfl, B4.out.trans (hbw.mono B4.out.size)⟩
    · exact absurd HF.out hn
  · have HF := Aside0.mk hf
    clear hx ho hb hf
    go_enter Try.func3, Try.ntmps3
    go_wp2_with fail
    refine HJ.out.mono ?_
    rintro e w1 ⟨b1, ⟨hn, _⟩ | ⟨_, rfl⟩⟩
    · exact absurd hn HF.out
    · have B1 := Aside0.mk b1
      clear b1 HJ
      go_wp2_with fail
      refine (works _).mono ?_
      rintro e w' ⟨rfl, hbw⟩
      go_wp2_with fail
      go_ret
      exact ⟨rfl, B1.out.trans (hbw.mono B1.out.size)⟩
end Go.Proofs.Ytjoapafgpbmhkaa.Sum
