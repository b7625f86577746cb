/- The walk of FrameLong. -/
import Derived.Test.YteakiaedlfhceaaFrames
import Derived.Test.YteakiaedlfhceaaWorks17
import Derived.Deep.OwnRows
set_option linter.unusedSimpArgs false
set_option linter.unusedVariables false
namespace Go.Proofs.Yteakiaedlfhceaa.Frame
open Go.RowKit Go.Proofs.YteakiaedlfhceaaW.PrintWords Go.Proofs.YteakiaedlfhceaaW.PrintLast Go.Proofs.YteakiaedlfhceaaW.PrintMore Go.Proofs.Yteakiaedlfhceaa.Lex Go.Proofs.Yteakiaedlfhceaa.Lib

def zs (n : Nat) : List Int := List.replicate n 0
def zc (n : Nat) : List Value := List.replicate n (Value.int .u8 0)
theorem zs_nums (n : Nat) : zc n = nums .u8 (zs n) := by simp [zc, zs, nums]
theorem make_bytes (n : Nat) (hn : n ≤ 1000000) (w : World) : (Instr.makeSlice 22 (.int .i64 (n : Int)) (.int .i64 (n : Int))).run Try.prog w = .ok (.slice (some ⟨w.heap.size, 0, none⟩) n n) (w.alloc (.cells (zc n).toArray 5)) := by
  have h := run_make_row' (P := Try.prog) 22 5 (.int .u8 0) 1 Try.underlying22 info5 rfl .i64 .i64 n (by omega) (by omega) w
  rw [h]
  congr 3
  apply Array.ext_getElem?
  intro i
  simp only [madeCells, zc, Array.getElem?_map, List.getElem?_toArray, List.getElem?_replicate, Array.getElem?_range, Nat.mod_one]
  by_cases h : i < n
  · simp [h, Nat.mod_one]
  · simp [h]
theorem zs_len (n : Nat) : (zs n).length = n := by simp [zs]
def R0 : List Int := rawOf 2 (zs 493)
theorem r0_cut : cutOf R0 = (2, zs 493, 512, 0) := by decide +kernel
theorem r1_cut : cutOf (R0.set 17 1) = (0, [], 0, 271) := by decide +kernel
theorem r0_len : R0.length = 512 := by decide +kernel
theorem r0_byt : Byt R0 := by decide +kernel
theorem r1_byt : Byt (R0.set 17 1) := by decide +kernel
theorem r0_at : R0.getD 17 0 = 0 := by decide +kernel
theorem raw_long (w : World) (v : Value) (n : Nat) (hn : n = 493 ∨ n = 494) (A : Option Addr) (c : Nat) (hx : Kd.C KB w A n (zs n)) (hc : n ≤ c) : Calls Try.prog 10 #[.int .i64 2, .slice A n c] w fun e w' =>
      ∃ v, e = .returned (.tuple #[v, .int .i64 (if n = 493 then 0 else 3)]) ∧ OB w.heap.size w' v (if n = 493 then R0 else []) ∧ Below w.heap.size w w' := by
  have hlen : (zs n).length = n := by simp [zs]
  have h := raw 2 A c (zs n) w (by rw [hlen]; exact hx) (by omega) (by omega) (by decide)
  rw [hlen] at h
  rcases hn with rfl | rfl
  · exact h
  · exact h
set_option maxHeartbeats 2000000 in
theorem frameLong (w : World) : Calls Try.prog 5 #[] w fun e w' => e = .returned (.bool true) ∧ Below w.heap.size w w' := by
  have hmk : ∀ w, (Instr.makeSlice 22 (.int .i64 493) (.int .i64 493)).run Try.prog w = .ok (.slice (some ⟨w.heap.size, 0, none⟩) 493 493) (w.alloc (.cells (zc 493).toArray 5)) := make_bytes 493 (by decide)
  have hmk2 : ∀ w, (Instr.makeSlice 22 (.int .i64 494) (.int .i64 494)).run Try.prog w = .ok (.slice (some ⟨w.heap.size, 0, none⟩) 494 494) (w.alloc (.cells (zc 494).toArray 5)) := make_bytes 494 (by decide)
  go_enter Try.func5, Try.ntmps5
  go_wp2_with fail
  refine (raw_long _ (.bool true) 493 (.inl rfl) _ _ (OB.lit w (zs 493) _ (zs_nums 493) 493 (zs_len 493).symm (Nat.le_refl _) (by rw [zs_len]; decide)).readsAt (Nat.le_refl _)).mono ?_
  rintro e w1 ⟨vb, rfl, ho, hb⟩
  rw [if_pos rfl] at ho
  have HO1 := Aside0.mk (ho.lower (b' := w.heap.size) (by simp))
  have HB1 : Aside0 (Below w.heap.size w w1) := ⟨(below_alloc (Below.refl _ _) _).trans (hb.mono (by simp))⟩
  clear ho hb
  go_wp2_with fail
  refine (raw_long _ (.bool true) 494 (.inr rfl) _ _ (OB.lit w1 (zs 494) _ (zs_nums 494) 494 (zs_len 494).symm (Nat.le_refl _) (by rw [zs_len]; decide)).readsAt (Nat.le_refl _)).mono ?_
  rintro e w2 ⟨vc, rfl, ho, hb⟩
  have hB2 : Below w1.heap.size w1 w2 := (below_alloc (Below.refl _ _) _).trans (hb.mono (by simp))
  have HO2 := Aside0.mk (HO1.out.below hB2)
  have HB2 : Aside0 (Below w.heap.size w w2) := ⟨HB1.out.trans (hB2.mono HB1.out.size)⟩
  obtain ⟨g, cb, rfl, hg1, hg2, hcb⟩ := HO2.out.form (by rw [r0_len]; decide)
  rw [r0_len] at HO2 hcb ⊢
  clear ho hb HO1 HB1 hB2
  go_wp2_with fail
  refine (new w2).mono ?_
  rintro e w3 ⟨rfl, hf, hb⟩
  have HF3 := Aside0.mk hf
  have HO3 := Aside0.mk (HO2.out.below hb)
  have HB3 := Aside0.mk (HB2.out.trans (hb.mono HB2.out.size))
  have hs3 : g < w3.heap.size := by have := hb.size; omega
  obtain ⟨px, hpx⟩ : ∃ p, w2.heap.size = p := ⟨_, rfl⟩
  rw [hpx] at hg2 HF3 ⊢
  have hpx2 : w.heap.size ≤ px := by rw [← hpx]; exact HB2.out.size
  clear hf hb HO2 HB2 hpx
  go_wp2_with fail
  have hW := write (B := some ⟨g, 0, none⟩) (c := cb) HF3.out (ys := R0) (by rw [r0_len]; exact HO3.out.readsAt) (by rw [r0_len]; exact hcb) (Nat.zero_le _) (by rw [r0_len]; decide)
  rw [r0_len] at hW
  refine hW.mono ?_
  rintro e w4 ⟨rfl, hf, hb⟩
  have HF4 := Aside0.mk hf
  have HO4 := Aside0.mk (HO3.out.at (hb.block g hs3 (by show ¬ g = px; omega)))
  have HB4 : Aside0 (Below w.heap.size w w4) := ⟨HB3.out.trans (hb.below HB3.out.size (fun k hk e => by have : k = px := e; omega))⟩
  have hs4 : g < w4.heap.size := by have := hb.size; omega
  clear hf hb HF3 HO3 HB3 hs3 hW
  go_wp2_with fail
  have hN := next HF4.out r0_byt (Nat.le_refl _)
  rw [List.nil_append, r0_cut] at hN
  refine hN.mono ?_
  rintro e w5 ⟨vd, rfl, ho, hf, hb⟩
  have HO5 := Aside0.mk (HO4.out.at (hb.block g hs4 (by show ¬ g = px; omega)))
  have HB5 : Aside0 (Below w.heap.size w w5) := ⟨HB4.out.trans (hb.below HB4.out.size (fun k hk e => by have : k = px := e; omega))⟩
  obtain ⟨Ad, cd, rfl, _, _⟩ := ho.reads
  have hld : ((zs 493).length : Int) = 493 := by rw [zs_len]; rfl
  obtain ⟨hcell, hfr⟩ := HO5.out.cell 17 (by decide)
  rw [r0_at] at hcell
  have hs5 : g < w5.heap.size := by have := hb.size; omega
  clear ho hf hb HF4 HO4 HB4 hs4 hN
  go_wp2_with fail
  refine (new _).mono ?_
  rintro e w6 ⟨rfl, hf, hb⟩
  have hO6 := (HO5.out.put 17 1).below hb
  have HF6 := Aside0.mk hf
  have HO6 := Aside0.mk hO6
  have HB6 : Aside0 (Below w.heap.size w w6) := ⟨HB5.out.setCell (p := ⟨g, 17, none⟩) hg1 _ |>.trans (hb.mono (by simp [World.setCell]; exact HB5.out.size))⟩
  obtain ⟨py, hpy⟩ : ∃ p, (w5.setCell ⟨g, 17, none⟩ (.int .u8 1)).heap.size = p := ⟨_, rfl⟩
  have hpy2 : w.heap.size ≤ py := by rw [← hpy]; simp [World.setCell]; exact HB5.out.size
  have hgy : g < py := by rw [← hpy]; simp [World.setCell]; exact hs5
  have hs6 : g < w6.heap.size := by have := hb.size; omega
  rw [hpy] at HF6 ⊢
  clear hf hb HO5 HB5 hpy hO6 hcell hfr hs5
  go_wp2_with fail
  have hl1 : (R0.set 17 1).length = 512 := by rw [List.length_set]; exact r0_len
  have hW := write (B := some ⟨g, 0, none⟩) (c := cb) HF6.out (ys := R0.set 17 1) (by rw [hl1]; exact HO6.out.readsAt) (by rw [hl1]; exact hcb) (Nat.zero_le _) (by rw [hl1]; decide)
  rw [hl1] at hW
  refine hW.mono ?_
  rintro e w7 ⟨rfl, hf, hb⟩
  have HF7 := Aside0.mk hf
  have HB7 : Aside0 (Below w.heap.size w w7) := ⟨HB6.out.trans (hb.below HB6.out.size (fun k hk e => by have : k = py := e; omega))⟩
  clear hf hb HF6 HO6 HB6 hW
  go_wp2_with fail
  have hN := next HF7.out r1_byt (Nat.le_refl _)
  rw [List.nil_append, r1_cut] at hN
  refine hN.mono ?_
  rintro e w8 ⟨vd, rfl, ho, hf, hb⟩
  have HF8 := Aside0.mk hf
  have HB8 : Aside0 (Below w.heap.size w w8) := ⟨HB7.out.trans (hb.below HB7.out.size (fun k hk e => by have : k = py := e; omega))⟩
  clear ho hf hb HF7 HB7 hN
  have HL := Aside0.mk (flaw HF8.out)
  have HW := Aside0.mk (write_bad (B := none) (m := 0) (c := 0) HF8.out (by decide))
  go_wp2_with (first | (go_at_call 12; refine (num _ _).mono ?_; rintro e w' ⟨rfl, rfl⟩) | (go_at_call 18; refine HL.out.mono ?_; rintro e w' ⟨rfl, rfl⟩) | (go_at_call 16; refine HW.out.mono ?_; rintro e w' ⟨rfl, rfl⟩) | (go_at_call 9; refine (works _).mono ?_; rintro e w' ⟨rfl, hbw⟩))
  go_ret
  exact ⟨rfl, HB8.out.trans (hbw.mono HB8.out.size)⟩
end Go.Proofs.Yteakiaedlfhceaa.Frame
