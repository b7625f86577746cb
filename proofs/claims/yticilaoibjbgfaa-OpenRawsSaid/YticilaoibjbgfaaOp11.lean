/- Openings: works. -/
import Derived.Test.YticilaoibjbgfaaOp10
import Derived.WalkMore
set_option linter.unusedSimpArgs false
set_option linter.unusedVariables false
namespace Go.Proofs.Yticilaoibjbgfaa.Op
open Go.RowKit Go.Proofs.YticilaoibjbgfaaW.PrintWords Go.Proofs.YticilaoibjbgfaaW.PrintLast Go.Proofs.YticilaoibjbgfaaW.PrintMore Go.Proofs.Yticilaoibjbgfaa.POpenRaws Go.Proofs.Yticilaoibjbgfaa.Lib Go.Proofs.Yticilaoibjbgfaa.High Go.Proofs.Yticilaoibjbgfaa.Lex
theorem num (e : Int) (w : World) : Calls Try.prog 14 #[.int .i64 e] w fun x w' => x = .returned (.int .i64 e) ∧ w = w' := by
  go_enter Try.func14, Try.ntmps14
  go_wp2
  go_ret
  exact ⟨rfl, rfl⟩
set_option maxRecDepth 100000 in
set_option maxHeartbeats 4000000 in
theorem parseShort (A : Option Addr) (c : Nat) (b : List Int) (hb : b.length < 10) (w : World) :
    Calls Try.prog 18 #[.slice A b.length c] w fun e w' => e = .returned (.tuple #[aO zo none 0, .int .i64 280]) ∧ Below w.heap.size w w' := by
  obtain ⟨p, hp⟩ : ∃ p, w.heap.size = p := ⟨_, rfl⟩
  have hob1 := Ob.new w [.slice A b.length c] _ rfl 30
  have hb1 := below_alloc (Below.refl w.heap.size w) (.cells #[.slice A b.length c] 30)
  obtain ⟨w1, hw1⟩ : ∃ W, w.alloc (.cells #[.slice A b.length c] 30) = W := ⟨_, rfl⟩
  have hs1 : w1.heap.size = p + 1 := by rw [← hw1, ← hp]; simp
  rw [hw1] at hob1 hb1
  rw [hp] at hob1
  have hob2 := Ob.new w1 (cO zo none 0) _ rfl 26
  have hb2 := below_alloc (Below.refl w1.heap.size w1) (.cells (cO zo none 0).toArray 26)
  obtain ⟨V, hV⟩ : ∃ W, w1.alloc (.cells (cO zo none 0).toArray 26) = W := ⟨_, rfl⟩
  rw [hV, hs1] at hob2
  rw [hV] at hb2
  have o1 := hob1.below hb2 (by omega)
  have q0 := (o1 0 _ rfl).1
  obtain ⟨W', hst, hO', hbut⟩ := storeS (cO zo none 0) 26 hob2 rfl (size26 _ _ _) (by simp [Value.oneCell'])
  have HLD := Aside0.mk (loadS 26 hob2 Try.underlying26 (size26 zo none 0))
  have HLE := Aside0.mk (loadS 26 hO' Try.underlying26 (size26 zo none 0))
  have HST := Aside0.mk hst
  have hbV := hb1.trans (hb2.mono hb1.size)
  have HBF := Aside0.mk (hbV.trans (hbut.below hbV.size (fun k hk e => by have : k = p + 1 := e; omega)))
  have HW1 := Aside0.mk hw1
  have HV : Aside0 (w1.alloc (.cells #[.int .u32 0, .int .u16 0, .int .u32 0, .slice none 0 0] 26) = V) := ⟨hV⟩
  have hlI : (b.length : Int) < 10 := by omega
  clear hst hO' hbut hob1 hob2 hb1 hb2 hw1 hV hs1 hbV o1
  go_enter Try.func18, Try.ntmps18
  go_wp2_with fail
  rw [HW1.out, HV.out]
  go_step3
  go_wp2_with (first | (refine pl_load rfl 26 _ rfl _ _ HLD.out rfl ?_) | (refine pl_store rfl 26 _ _ rfl _ _ HST.out rfl rfl ?_))
  rw [Exit.noGoto_ret]
  refine bodyPost_ret (results_cell_tmp rfl _ _ (p + 1) _ rfl HLE.out) rfl ?_
  exact ⟨rfl, HBF.out⟩
def o1 : Opn := ⟨1, 3, 9, []⟩
def o2 : Opn := ⟨1, 30, 9, []⟩
def o3 : Opn := ⟨1, 90, 8, []⟩
def o4 : Opn := ⟨1, 2, 9, []⟩
theorem wf1 : o1.Wf := ⟨by decide, by decide, by decide, fun x h => by cases h⟩
theorem wf2 : o2.Wf := ⟨by decide, by decide, by decide, fun x h => by cases h⟩
theorem wf3 : o3.Wf := ⟨by decide, by decide, by decide, fun x h => by cases h⟩
theorem wf4 : o4.Wf := ⟨by decide, by decide, by decide, fun x h => by cases h⟩
theorem chk1 : checkN o1 = 0 := by decide
theorem chk4 : checkN o4 = 2 := by decide
theorem raw1 : rawS o1 = [4, 0, 1, 0, 3, 0, 0, 0, 9, 8, 2, 6, 65, 4, 0, 0, 0, 1] := by decide
theorem mt23 : meetN o2 o3 = 0 ∧ meetH o2 o3 = 30 ∧ meetI o2 o3 = true ∧ meetL o2 o3 = [] := by decide
theorem str1 : strOfNums [4, 0, 1, 0, 3, 0, 0, 0, 9, 8, 2, 6, 65, 4, 0, 0, 0, 1] = ⟨#[4, 0, 1, 0, 3, 0, 0, 0, 9, 8, 2, 6, 65, 4, 0, 0, 0, 1]⟩ := rfl
theorem nilC (w : World) : Kd.C k54 w none 0 [] := ⟨rfl, by decide, fun h => absurd h (by decide)⟩
set_option maxRecDepth 100000 in
set_option maxHeartbeats 8000000 in
theorem worksC (w : World) : Calls Try.prog 10 #[] w fun e w' => e = .returned (.bool true) ∧ Below w.heap.size w w' := by
  go_enter Try.func10, Try.ntmps10
  go_wp2_with fail
  refine (rawC o1 wf1 none 0 _ (nilC _) (Nat.le_refl _) (by decide) (by decide)).mono ?_
  rintro e w1 ⟨v1, rfl, ho1, hb1⟩
  rw [raw1] at ho1
  rw [chk1]
  obtain ⟨A1, c1, rfl, _, hC1⟩ := ho1.reads
  have HC1 := Aside0.mk hC1
  have HB1 := Aside0.mk hb1
  clear ho1 hb1 hC1
  go_wp2_with fail
  refine (parseShort none 0 [] (by decide) _).mono ?_
  rintro e w2 ⟨rfl, hb2⟩
  have HB2 := Aside0.mk (HB1.out.trans (hb2.mono HB1.out.size))
  have HC2 := Aside0.mk (Kd.C_below HC1.out hb2)
  clear hb2
  go_wp2_with fail
  have hob3 := Ob.new w2 (cO zo none 0) _ rfl 26
  have hb3 := below_alloc (Below.refl w2.heap.size w2) (.cells (cO zo none 0).toArray 26)
  obtain ⟨w3, hw3⟩ : ∃ W, w2.alloc (.cells (cO zo none 0).toArray 26) = W := ⟨_, rfl⟩
  rw [hw3] at hb3
  have HB3 := Aside0.mk (HB2.out.trans (hb3.mono HB2.out.size))
  have HC3 := Aside0.mk (Kd.C_below HC2.out hb3)
  have HW3 := Aside0.mk hw3
  clear hob3 hb3 hw3
  obtain ⟨m1, m2, m3, m4⟩ := mt23
  have hmeet := meetC o2 o3 wf2 wf3 none 0 none 0 w3 (nilC _) (Nat.le_refl _) (nilC _) (Nat.le_refl _) (by decide) (by decide) (by decide) (by decide) (fun x h => by cases h)
  rw [m1, m2, m3, m4] at hmeet
  clear m1 m2 m3 m4
  first | rw [HW3.out] | skip
  refine hmeet.mono ?_
  rintro e w4 ⟨v4, rfl, ⟨u4, rfl, ho4⟩, hb4⟩
  have HB4 := Aside0.mk (HB3.out.trans (hb4.mono HB3.out.size))
  have HC4 := Aside0.mk (Kd.C_below HC3.out hb4)
  clear hb4 hmeet
  obtain ⟨A4, c4, e4, _, _⟩ := ho4.reads
  have e4 : u4 = .slice A4 0 c4 := e4
  subst e4
  clear ho4
  have hob5 := Ob.new w4 (cS 30 true (.slice A4 0 c4)) _ rfl 45
  have hb5 := below_alloc (Below.refl w4.heap.size w4) (.cells (cS 30 true (.slice A4 0 c4)).toArray 45)
  obtain ⟨w5, hw5⟩ : ∃ W, w4.alloc (.cells (cS 30 true (.slice A4 0 c4)).toArray 45) = W := ⟨_, rfl⟩
  rw [hw5] at hob5 hb5
  have HB5 := Aside0.mk (HB4.out.trans (hb5.mono HB4.out.size))
  have hconv : (convert 30 9 (.slice A1 18 c1)).run Try.prog w5 = .ok (.string ⟨#[4, 0, 1, 0, 3, 0, 0, 0, 9, 8, 2, 6, 65, 4, 0, 0, 0, 1]⟩) w5 := by
    rw [← str1]
    exact conv w5 A1 c1 _ (Kd.C_below HC4.out hb5)
  have HW5 := Aside0.mk hw5
  have HO5 := Aside0.mk hob5
  have HB45 := Aside0.mk hb5
  clear hob5 hb5 hw5
  go_wp2_with fail
  rw [HW5.out]
  refine (num _ _).mono ?_
  rintro e y1 ⟨rfl, rfl⟩
  go_wp2_with fail
  refine (num _ _).mono ?_
  rintro e y2 ⟨rfl, rfl⟩
  go_wp2_with fail
  refine (num _ _).mono ?_
  rintro e y3 ⟨rfl, rfl⟩
  go_wp2_with fail
  have hchk := checkC o4 wf4 none 0 w5 (nilC _) (Nat.le_refl _) (by decide) (by decide)
  rw [chk4] at hchk
  refine hchk.mono ?_
  rintro e w6 ⟨rfl, hb6⟩
  have h6 := HO5.out.below hb6 HO5.out.lt
  have s0 := (h6 0 _ rfl).1
  have s1 := (h6 1 _ rfl).1
  have HB6 := Aside0.mk (HB5.out.trans (hb6.mono HB5.out.size))
  clear hchk hb6 h6
  go_wp2_with fail
  refine (num _ _).mono ?_
  rintro e y4 ⟨rfl, rfl⟩
  go_wp2_with fail
  go_ret
  exact ⟨rfl, HB6.out⟩
end Go.Proofs.Yticilaoibjbgfaa.Op
