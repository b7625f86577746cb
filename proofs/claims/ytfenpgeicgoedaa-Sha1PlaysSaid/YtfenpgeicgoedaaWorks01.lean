/- The chapter's rows (works). -/
import Derived.Test.YtfenpgeicgoedaaRSum01
import Derived.Lib.SlBytesConst
set_option linter.unusedSimpArgs false
set_option linter.unusedVariables false
namespace Go.Proofs.Ytfenpgeicgoedaa.Sha
open Go.RowKit Go.Proofs.YtfenpgeicgoedaaW.PrintWords Go.Proofs.YtfenpgeicgoedaaW.PrintLast Go.Proofs.YtfenpgeicgoedaaW.PrintMore Go.Proofs.Ytfenpgeicgoedaa.PSha1Plays Go.Proofs.Ytfenpgeicgoedaa.Lex Go.Proofs.Ytfenpgeicgoedaa.Lib
theorem abc4 : (sumOf [97, 98, 99]).take 4 = [169, 153, 62, 54] := by decide +kernel
theorem nil4 : (sumOf []).take 4 = [218, 57, 163, 238] := by decide +kernel
theorem num (e : Int) (w : World) : Calls Try.prog 19 #[.int .i64 e] w fun x w' => x = .returned (.int .i64 e) ∧ w = w' := by
  go_enter Try.func19, Try.ntmps19
  go_wp2
  go_ret
  exact ⟨rfl, rfl⟩
theorem conv (W : World) (A : Option Addr) (c : Nat) (xs : List Int) (h : Kd.C KB W A xs.length xs) : (convert 22 9 (.slice A xs.length c)).run Try.prog W = .ok (.string (strOfNums xs)) W :=
  Kd.C_string (dst := 9) Try.underlying22 Try.underlying5 Try.underlying9 h
theorem badTail (n : Int) (w : World) (hn : n < 0 ∨ 1152921504606846976 < n) : Calls Try.prog 18 #[.int .i64 n] w fun e w' => ∃ v, e = .returned (.tuple #[v, .int .i64 2]) ∧ OB w.heap.size w' v [] ∧ Below w.heap.size w w' := sha1_Tail.calls 1 _ _ _ w (tail_bad 0 n hn)
/-- the contract of Sum, the value by a name -/
theorem sum_ex (A : Option Addr) (c : Nat) (xs : List Int) (w : World) (hx : Kd.C KB w A xs.length xs) (hc : xs.length ≤ c) (hb : Byt xs) (hl : xs.length ≤ 3000000) : ∃ bx : Array Value, Aside0 (bx = ((sumOf xs).map (Value.int .u8)).toArray) ∧ Calls Try.prog 11 #[.slice A xs.length c] w fun e w' => e = .returned (.agg bx) ∧ Below w.heap.size w w' := ⟨_, ⟨rfl⟩, sumC A c xs w hx hc hb hl⟩
theorem sumOf_len (xs : List Int) : (sumOf xs).length = 20 := by unfold sumOf; exact bytes20_len _
theorem zeros20 : (List.replicate 20 (Value.int .u8 0)).toArray = ((List.replicate 20 (0 : Int)).map (Value.int .u8)).toArray := by simp
theorem hi20 {xs : List Int} (h : xs.length = 20) : (Try.prog.info? 24).map (·.size) = some xs.length := by rw [h]; kernel_rfl
/-- bytes of a constant: a block with a mark -/
theorem C_blockF {w : World} {g t : Nat} {fr : Nat × Nat} {cs : List Value} (hg : w.heap[g]? = some (.cells cs.toArray t fr)) (xs : List Int) (h : cs = nums .u8 xs) (hm : xs.length ≤ 9223372036854775807) : Kd.C KB w (some ⟨g, 0, none⟩) xs.length xs := by
  subst h
  refine ⟨rfl, hm, fun _ => ⟨_, rfl, fun j x hj => ⟨[.int .u8 x], rfl, rfl, fun i u hi => ?_⟩⟩⟩
  match i, hi with
  | 0, hi =>
    simp only [List.getElem?_cons_zero, Option.some.injEq] at hi
    subst hi
    rw [add_plain, cell_of_row w _ _ _ _ _ hg]
    show (nums .u8 xs).toArray[j * 1 + 0]? = _
    rw [Nat.mul_one, Nat.add_zero, List.getElem?_toArray]
    simp [nums, hj]
set_option maxRecDepth 100000 in
set_option maxHeartbeats 2000000 in
theorem works (w : World) : Calls Try.prog 10 #[] w fun e w' => e = .returned (.bool true) ∧ Below w.heap.size w w' := by
  obtain ⟨zs, HZS, hz⟩ : ∃ zs, Aside0 (zs = ((List.replicate 20 (0 : Int)).map (Value.int .u8)).toArray) ∧ ∀ w, (zeroValue 24).run Try.prog w = .ok (.agg zs) w := ⟨_, ⟨zeros20⟩, zero20⟩
  have kc := fun (w : World) (C : Array Value) (n c : Nat) => Lib.run_convert_bytes_const (P := Try.prog) w 22 5 C n c Try.underlying22 Try.underlying5
  go_enter Try.func10, Try.ntmps10
  go_wp2_with fail
  have hO : Kd.C KB (w.alloc (.cells #[.int .u8 97, .int .u8 98, .int .u8 99] 5 (3, 4))) (some ⟨w.heap.size, 0, none⟩) 3 [97, 98, 99] := C_blockF (cs := [.int .u8 97, .int .u8 98, .int .u8 99]) (heap_alloc_new w _) [97, 98, 99] rfl (by decide)
  obtain ⟨b1, HB1, hS1⟩ := sum_ex _ 3 [97, 98, 99] _ hO (by decide) (by unfold Byt; decide) (by decide)
  clear hO
  refine hS1.mono ?_
  rintro e w1 ⟨rfl, hb1⟩
  have B1 := Aside0.mk ((below_alloc (Below.refl w.heap.size w) _).trans (hb1.mono (by simp)))
  clear hb1 hS1
  go_wp2_with fail
  obtain ⟨b2, HB2, hS2⟩ := sum_ex none 0 [] w1 ⟨rfl, by decide, fun h => absurd h (by decide)⟩ (by decide) (by unfold Byt; decide) (by decide)
  refine hS2.mono ?_
  rintro e w2 ⟨rfl, hb2⟩
  have B2 := Aside0.mk (B1.out.trans (hb2.mono B1.out.size))
  clear hb2 B1 hS2
  have hA1 : Arr .u8 w2.heap.size 24 ((w2.alloc (.cells zs 24)).alloc (.cells zs 24)) (List.replicate 20 0) := (Arr.new w2 24 (List.replicate 20 0) zs HZS.out).later (below_alloc (Below.refl _ _) _)
  have hA2 : Arr .u8 (w2.heap.size + 1) 24 ((w2.alloc (.cells zs 24)).alloc (.cells zs 24)) (List.replicate 20 0) := Arr.newAt _ _ 24 (by simp) (List.replicate 20 0) zs HZS.out
  have hBB : Below w2.heap.size w2 ((w2.alloc (.cells zs 24)).alloc (.cells zs 24)) := below_alloc (below_alloc (Below.refl _ _) _) _
  obtain ⟨W1, hs1, hA1, hbt1⟩ := arr_store hA1 24 (sumOf [97, 98, 99]) (by rw [sumOf_len]; rfl) (hi20 (sumOf_len _))
  have hA2 := hA2.same (hbt1.block _ (by simp) (by show ¬ w2.heap.size + 1 = w2.heap.size; omega))
  obtain ⟨W2, hs2, hA2, hbt2⟩ := arr_store hA2 24 (sumOf []) (by rw [sumOf_len]; rfl) (hi20 (sumOf_len _))
  have hz1 := hbt1.size
  simp at hz1
  have hA1 := hA1.same (hbt2.block _ (by omega) (by show ¬ w2.heap.size = w2.heap.size + 1; omega))
  have hBW : Below w2.heap.size w2 W2 := hBB.trans ((hbt1.below (by simp; omega) (fun j hj e => by have : j = w2.heap.size := e; omega)).trans (hbt2.below (by omega) (fun j hj e => by have : j = w2.heap.size + 1 := e; omega)))
  rw [← HB1.out] at hs1
  rw [← HB2.out] at hs2
  have HS1 := Aside0.mk hs1
  have HS2 := Aside0.mk hs2
  have HA1 := Aside0.mk hA1
  have HA2 := Aside0.mk hA2
  have B3 := Aside0.mk (B2.out.trans (hBW.mono B2.out.size))
  clear hs1 hs2 hA1 hA2 hbt1 hbt2 hBB hBW B2 hz1
  go_wp2_with (first | (refine pl_store rfl 24 _ _ rfl _ _ HS1.out rfl rfl ?_) | (refine pl_store rfl 24 _ _ rfl _ _ HS2.out rfl rfl ?_))
  clear hz
  refine (tailC 55 W2 (by decide)).mono ?_
  rintro e w3 ⟨v3, rfl, ho3, hb3⟩
  rw [show (tail 55) = tail 55 from rfl] at ho3
  obtain ⟨A3, c3, rfl, _, _⟩ := ho3.reads
  have HA1 := Aside0.mk (HA1.out.later hb3)
  have HA2 := Aside0.mk (HA2.out.later hb3)
  have B4 := Aside0.mk (B3.out.trans (hb3.mono B3.out.size))
  rw [show (tail 55).length = 9 by decide +kernel]
  clear ho3 hb3 B3
  go_wp2_with fail
  refine (badTail (-1) w3 (by decide)).mono ?_
  rintro e w4 ⟨v4, rfl, ho4, hb4⟩
  have hA1 := HA1.out.later hb4
  have hA2 := HA2.out.later hb4
  have B5 := Aside0.mk (B4.out.trans (hb4.mono B4.out.size))
  have hk1 := conv w4 (some ⟨w2.heap.size, 0, none⟩) 20 ((sumOf [97, 98, 99]).take 4) (by
    have h := hA1.seg (by rw [sumOf_len]; decide) 0 4 (by decide) (by rw [sumOf_len]; decide)
    rw [abc4] at h ⊢
    exact h)
  have hk2 := conv w4 (some ⟨w2.heap.size + 1, 0, none⟩) 20 ((sumOf []).take 4) (by
    have h := hA2.seg (by rw [sumOf_len]; decide) 0 4 (by decide) (by rw [sumOf_len]; decide)
    rw [nil4] at h ⊢
    exact h)
  rw [abc4] at hk1
  rw [nil4] at hk2
  have hk1 : (convert 22 9 (.slice (some ⟨w2.heap.size, 0, none⟩) 4 20)).run Try.prog w4 = .ok (.string ⟨#[169, 153, 62, 54]⟩) w4 := hk1
  have hk2 : (convert 22 9 (.slice (some ⟨w2.heap.size + 1, 0, none⟩) 4 20)).run Try.prog w4 = .ok (.string ⟨#[218, 57, 163, 238]⟩) w4 := hk2
  obtain ⟨A5, c5, rfl, _, _⟩ := ho4.reads
  clear ho4 hb4 hA1 hA2 B4
  go_wp2_with (go_at_call 19; refine (num _ _).mono ?_; rintro e w' ⟨rfl, rfl⟩)
  go_ret
  exact ⟨rfl, B5.out⟩
end Go.Proofs.Ytfenpgeicgoedaa.Sha
