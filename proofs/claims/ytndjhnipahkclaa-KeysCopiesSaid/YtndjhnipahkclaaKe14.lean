/- Keys: Remove. -/
import Derived.Test.YtndjhnipahkclaaKe13
set_option linter.unusedSimpArgs false
set_option linter.unusedVariables false
namespace Go.Proofs.Ytndjhnipahkclaa.Ke
open Go.RowKit Go.Proofs.YtndjhnipahkclaaW.PrintWords Go.Proofs.YtndjhnipahkclaaW.PrintLast Go.Proofs.YtndjhnipahkclaaW.PrintMore Go.Proofs.Ytndjhnipahkclaa.PKeysPlay Go.Proofs.Ytndjhnipahkclaa.Lex Go.Proofs.Ytndjhnipahkclaa.Lib
attribute [local go_sem high] eqA36
/-- are two keys equal? -/
def eqB (x y : S36) : Bool := x.f0 == y.f0 && (x.f1 == y.f1 && (x.f2 == y.f2 && (x.f3 == y.f3 && (x.f4.toList == y.f4.toList))))
theorem eqB_refl (x : S36) : eqB x x = true := by simp [eqB]
theorem eqT (g : Nat) (m x : S36) (w : World) (hm : Ob g w (c36 m)) :
    Calls Try.prog 44 (#[a36 x] ++ #[ptr g]) w fun e w' => e = .returned (.bool (eqB x m)) ∧ Below w.heap.size w w' := by
  have HB := Aside0.mk (below_alloc (Below.refl w.heap.size w) (.cells #[.int .u32 x.f0, .int .u8 x.f1, .int .u8 x.f2, .int .i64 x.f3, .string x.f4] 36))
  have HL : Aside0 ((loadVar 36 ⟨g, 0, none⟩).run Try.prog (w.alloc (.cells #[.int .u32 x.f0, .int .u8 x.f1, .int .u8 x.f2, .int .i64 x.f3, .string x.f4] 36)) = .ok (.agg #[.int .u32 m.f0, .int .u8 m.f1, .int .u8 m.f2, .int .i64 m.f3, .string m.f4]) (w.alloc (.cells #[.int .u32 x.f0, .int .u8 x.f1, .int .u8 x.f2, .int .i64 x.f3, .string x.f4] 36))) := ⟨load36 (hm.below HB.out hm.lt)⟩
  have HQ : Aside0 (eqB x m = (x.f0 == m.f0 && (x.f1 == m.f1 && (x.f2 == m.f2 && (x.f3 == m.f3 && (x.f4.toList == m.f4.toList)))))) := ⟨rfl⟩
  obtain ⟨q, hq⟩ : ∃ q, eqB x m = q := ⟨_, rfl⟩
  rw [hq] at HQ ⊢
  clear hm hq
  go_enter Try.func44, Try.ntmps44
  go_wp2_with (refine pl_load rfl 36 (.tmp 1) rfl _ _ HL.out rfl ?_)
  go_ret
  exact ⟨by rw [HQ.out]; rfl, HB.out⟩
set_option maxHeartbeats 2000000 in
theorem removeNo {S : Nat → Prop} (p m n : Nat) (A : Option Addr) (c : Nat) (l : List S36) (f : Int → Option Int) (peer send : Int) (w : World) (hk : KS S p m n w A c l f) (hno : l.any (sendP peer send) = false) :
    Calls Try.prog 20 #[ptr p, .int .u32 peer, .int .u8 send] w fun e w' => e = .returned (.int .i64 5) ∧ Below w.heap.size w w' := by
  have hz := zero36
  have h1 := hk.c1
  have HS := Aside0.mk (bySendC p m A c l peer send w hk.c0 hk.c1 hk.row)
  rw [show l.any (fun x => x.f0 == peer && x.f1 == send) = false from hno] at HS
  obtain ⟨y, hy⟩ : ∃ y, (l.find? (fun x => x.f0 == peer && x.f1 == send)).getD z36 = y := ⟨_, rfl⟩
  rw [hy] at HS
  clear hk hno hy
  go_enter Try.func20, Try.ntmps20
  go_wp2_with fail
  refine (none_some h1).mono ?_
  rintro e w' ⟨rfl, rfl⟩
  go_wp2_with fail
  refine HS.out.mono ?_
  rintro e w2 ⟨rfl, hb2⟩
  have hb3 := hb2.trans ((below_alloc (Below.refl w2.heap.size w2) (.cells #[.int .u32 y.f0, .int .u8 y.f1, .int .u8 y.f2, .int .i64 y.f3, .string y.f4] 36)).mono hb2.size)
  have HB3 := Aside0.mk hb3
  clear hb2 hb3
  go_wp2_with fail
  go_ret
  exact ⟨rfl, HB3.out⟩
theorem removeNil (peer send : Int) (w : World) : Calls Try.prog 20 #[.pointer none, .int .u32 peer, .int .u8 send] w fun e w' => e = .returned (.int .i64 1) ∧ Below w.heap.size w w' := by
  go_enter Try.func20, Try.ntmps20
  go_wp2_with fail
  refine (none_nil w).mono ?_
  rintro e _ ⟨rfl, rfl⟩
  go_wp2_with fail
  go_ret
  exact ⟨rfl, Below.refl _ _⟩
theorem removeZero {p : Nat} (peer send : Int) (w : World) (c1 : w.cell? ⟨p, 1, none⟩ = some (.map none)) : Calls Try.prog 20 #[ptr p, .int .u32 peer, .int .u8 send] w fun e w' => e = .returned (.int .i64 1) ∧ Below w.heap.size w w' := by
  go_enter Try.func20, Try.ntmps20
  go_wp2_with fail
  refine (none_zero c1).mono ?_
  rintro e _ ⟨rfl, rfl⟩
  go_wp2_with fail
  go_ret
  exact ⟨rfl, Below.refl _ _⟩
set_option maxHeartbeats 4000000 in
theorem removeWanted {S : Nat → Prop} (p m n : Nat) (A : Option Addr) (c : Nat) (l : List S36) (f : Int → Option Int) (peer send : Int) (w : World) (hk : KS S p m n w A c l f) (hyes : l.any (sendP peer send) = true) (hp : (kl peer).wf = true) (y z : S36) (hy : (l.find? (sendP peer send)).getD z36 = y) (hz : (l.find? (prefP f peer)).getD z36 = z) (heq : eqB z y = true) :
    Calls Try.prog 20 #[ptr p, .int .u32 peer, .int .u8 send] w fun e w' => e = .returned (.int .i64 201) ∧ Below w.heap.size w w' := by
  have hz0 := zero36
  have h1 := hk.c1
  have HS := Aside0.mk (bySendC p m A c l peer send w hk.c0 hk.c1 hk.row)
  rw [show l.any (fun x => x.f0 == peer && x.f1 == send) = true from hyes, show (l.find? (fun x => x.f0 == peer && x.f1 == send)).getD z36 = y from hy] at HS
  have HK := Aside0.mk hk
  have HZ := Aside0.mk hz
  obtain ⟨q, hq⟩ : ∃ q, l.any (prefP f peer) = q := ⟨_, rfl⟩
  have HQQ := Aside0.mk hq
  have HEQ : Aside0 ((z.f0 == y.f0 && (z.f1 == y.f1 && (z.f2 == y.f2 && (z.f3 == y.f3 && (z.f4.toList == y.f4.toList))))) = true) := ⟨heq⟩
  clear hk hyes hy hz hq heq
  go_enter Try.func20, Try.ntmps20
  go_wp2_with fail
  refine (none_some h1).mono ?_
  rintro e w' ⟨rfl, rfl⟩
  go_wp2_with fail
  refine HS.out.mono ?_
  rintro e w2 ⟨rfl, hb2⟩
  have hb3 := hb2.trans ((below_alloc (Below.refl w2.heap.size w2) (.cells #[.int .u32 y.f0, .int .u8 y.f1, .int .u8 y.f2, .int .i64 y.f3, .string y.f4] 36)).mono hb2.size)
  have HOY := Aside0.mk (Ob.new w2 (c36 y) #[.int .u32 y.f0, .int .u8 y.f1, .int .u8 y.f2, .int .i64 y.f3, .string y.f4] rfl 36)
  have HP := Aside0.mk (preferredC p m n A c l f peer _ (HK.out.below hb3) hp)
  rw [HQQ.out, HZ.out] at HP
  have HB3 := Aside0.mk hb3
  clear hb2 hb3
  go_wp2_with fail
  refine HP.out.mono ?_
  rintro e w4 ⟨rfl, hb4⟩
  have hb5 := (HB3.out.trans (hb4.mono HB3.out.size))
  have HB6 := Aside0.mk (hb5.trans ((below_alloc (Below.refl w4.heap.size w4) (.cells #[.int .u32 z.f0, .int .u8 z.f1, .int .u8 z.f2, .int .i64 z.f3, .string z.f4] 36)).mono hb5.size))
  have HOY4 := HOY.out.below hb4 HOY.out.lt
  have HLY : Aside0 ((loadVar 36 ⟨w2.heap.size, 0, none⟩).run Try.prog (w4.alloc (.cells #[.int .u32 z.f0, .int .u8 z.f1, .int .u8 z.f2, .int .i64 z.f3, .string z.f4] 36)) = .ok (.agg #[.int .u32 y.f0, .int .u8 y.f1, .int .u8 y.f2, .int .i64 y.f3, .string y.f4]) (w4.alloc (.cells #[.int .u32 z.f0, .int .u8 z.f1, .int .u8 z.f2, .int .i64 z.f3, .string z.f4] 36))) := ⟨load36 (HOY4.below (below_alloc (Below.refl w4.heap.size w4) (.cells #[.int .u32 z.f0, .int .u8 z.f1, .int .u8 z.f2, .int .i64 z.f3, .string z.f4] 36)) HOY4.lt)⟩
  have hEQ := HEQ.out
  clear hb4 hb5 HOY4
  go_wp2_with (refine pl_load rfl 36 (.tmp 7) rfl _ _ HLY.out rfl ?_)
  go_ret
  exact ⟨rfl, HB6.out⟩
set_option maxHeartbeats 4000000 in
theorem removeOK {S : Nat → Prop} (p m n : Nat) (A : Option Addr) (c : Nat) (l : List S36) (f : Int → Option Int) (peer send : Int) (w : World) (hk : KS S p m n w A c l f) (hyes : l.any (sendP peer send) = true) (hp : (kl peer).wf = true) (y z : S36) (hy : (l.find? (sendP peer send)).getD z36 = y) (hz : (l.find? (prefP f peer)).getD z36 = z) (hym : y ∈ l) (hne : eqB z y = false) (hl : l.length ≤ 100000) :
    Calls Try.prog 20 #[ptr p, .int .u32 peer, .int .u8 send] w fun e w' => e = .returned (.int .i64 0) ∧ (∃ A' c', KS (fun k => S k ∨ (w.heap.size ≤ k ∧ k < w'.heap.size)) p m n w' A' c' (l.filter (fun x => !eqB x y)) f) ∧ But w.heap.size S w w' := by
  have hz0 := zero36
  have h1 := hk.c1
  have HS := Aside0.mk (bySendC p m A c l peer send w hk.c0 hk.c1 hk.row)
  rw [show l.any (fun x => x.f0 == peer && x.f1 == send) = true from hyes, show (l.find? (fun x => x.f0 == peer && x.f1 == send)).getD z36 = y from hy] at HS
  have HK := Aside0.mk hk
  have HZ := Aside0.mk hz
  have HYM := Aside0.mk hym
  obtain ⟨q, hq⟩ : ∃ q, l.any (prefP f peer) = q := ⟨_, rfl⟩
  have HQQ := Aside0.mk hq
  have HNE : Aside0 ((z.f0 == y.f0 && (z.f1 == y.f1 && (z.f2 == y.f2 && (z.f3 == y.f3 && (z.f4.toList == y.f4.toList))))) = false) := ⟨hne⟩
  obtain ⟨l', hl'⟩ : ∃ l', l.filter (fun x => !eqB x y) = l' := ⟨_, rfl⟩
  rw [hl']
  have HLF := Aside0.mk hl'
  clear hk hyes hy hz hq hne hym hl'
  go_enter Try.func20, Try.ntmps20
  go_wp2_with fail
  refine (none_some h1).mono ?_
  rintro e w' ⟨rfl, rfl⟩
  go_wp2_with fail
  refine HS.out.mono ?_
  rintro e w2 ⟨rfl, hb2⟩
  have hb3 := hb2.trans ((below_alloc (Below.refl w2.heap.size w2) (.cells #[.int .u32 y.f0, .int .u8 y.f1, .int .u8 y.f2, .int .i64 y.f3, .string y.f4] 36)).mono hb2.size)
  have HOY := Aside0.mk (Ob.new w2 (c36 y) #[.int .u32 y.f0, .int .u8 y.f1, .int .u8 y.f2, .int .i64 y.f3, .string y.f4] rfl 36)
  have HP := Aside0.mk (preferredC p m n A c l f peer _ (HK.out.below hb3) hp)
  rw [HQQ.out, HZ.out] at HP
  have HB3 := Aside0.mk hb3
  clear hb2 hb3
  go_wp2_with fail
  refine HP.out.mono ?_
  rintro e w4 ⟨rfl, hb4⟩
  have hb5 := (HB3.out.trans (hb4.mono HB3.out.size))
  have hb6 := hb5.trans ((below_alloc (Below.refl w4.heap.size w4) (.cells #[.int .u32 z.f0, .int .u8 z.f1, .int .u8 z.f2, .int .i64 z.f3, .string z.f4] 36)).mono hb5.size)
  have HOY4 := HOY.out.below hb4 HOY.out.lt
  have HOY6 := Aside0.mk (HOY4.below (below_alloc (Below.refl w4.heap.size w4) (.cells #[.int .u32 z.f0, .int .u8 z.f1, .int .u8 z.f2, .int .i64 z.f3, .string z.f4] 36)) HOY4.lt)
  have HLY : Aside0 ((loadVar 36 ⟨w2.heap.size, 0, none⟩).run Try.prog (w4.alloc (.cells #[.int .u32 z.f0, .int .u8 z.f1, .int .u8 z.f2, .int .i64 z.f3, .string z.f4] 36)) = .ok (.agg #[.int .u32 y.f0, .int .u8 y.f1, .int .u8 y.f2, .int .i64 y.f3, .string y.f4]) (w4.alloc (.cells #[.int .u32 z.f0, .int .u8 z.f1, .int .u8 z.f2, .int .i64 z.f3, .string z.f4] 36))) := ⟨load36 HOY6.out⟩
  have HB6 := Aside0.mk hb6
  have hk6 := HK.out.below hb6
  have HK6 := Aside0.mk hk6
  have h60 := hk6.c0
  have HCL := Aside0.mk (cloneK A c l _ hk6.row hl)
  have hNE := HNE.out
  obtain ⟨V, hV⟩ : ∃ V, w4.alloc (.cells #[.int .u32 z.f0, .int .u8 z.f1, .int .u8 z.f2, .int .i64 z.f3, .string z.f4] 36) = V := ⟨_, rfl⟩
  have HV := Aside0.mk hV
  clear hb4 hb5 HOY4 hb6 hk6 hV
  go_wp2_with (refine pl_load rfl 36 (.tmp 7) rfl _ _ HLY.out rfl ?_)
  rw [HV.out] at HCL HB6 HK6 HOY6 ⊢
  refine HCL.out.mono ?_
  rintro e w7 ⟨v, rfl, ho7, hb7⟩
  obtain ⟨g, c7, rfl, hbg, hgl, _⟩ := Kd.R_form ho7 (List.length_pos_of_mem HYM.out)
  have HOY7 := Aside0.mk (HOY6.out.below hb7 HOY6.out.lt)
  have HDL := Aside0.mk (deleteK 44 #[ptr w2.heap.size] (eg 44 Try.func44 (by kernel_rfl) rfl) (fun x => eqB x y) g _ c7 _ l w7 ho7
    (fun W x hW _ => eqT w2.heap.size y x W (HOY7.out.but hW HOY7.out.lt (fun e => by have := HOY6.out.lt; omega))) (List.any_eq_true.2 ⟨y, HYM.out, eqB_refl y⟩) hl)
  rw [HLF.out] at HDL
  have HK7 := Aside0.mk (HK6.out.below hb7)
  have HB7 := Aside0.mk (HB6.out.trans (hb7.mono HB6.out.size))
  have HG := Aside0.mk hbg
  clear hb7 ho7 hbg hgl
  go_wp2_with fail
  refine HDL.out.mono ?_
  rintro e w8 ⟨rfl, hR8, hbt8⟩
  have lp : p < V.heap.size := HK6.out.ob.lt
  have lm : m < V.heap.size := HK6.out.map.lt
  have hbv := HB6.out.size
  have h78 := HB7.out.size
  have hgV : V.heap.size ≤ g := HG.out
  have hkp : w8.heap[p]? = w7.heap[p]? := hbt8.block p (by have := HK7.out.ob.lt; omega) (by omega)
  have hkm : w8.heap[m]? = w7.heap[m]? := hbt8.block m (by have := HK7.out.map.lt; omega) (by omega)
  have hob8 := HK7.out.ob.same hkp
  obtain ⟨hc8, hf8⟩ := hob8 0 _ rfl
  have HOB8 := Aside0.mk hob8
  have HM8 := Aside0.mk (HK7.out.map.same hkm)
  have HR8 := Aside0.mk hR8
  have HBT := Aside0.mk ((But.of HB7.out (Nat.le_refl w.heap.size) : But w.heap.size S w w7).trans (hbt8.mono h78 (fun k hk e => by have : k = g := e; omega)))
  clear hob8 hR8 hbt8 hkp hkm
  go_wp2_with fail
  go_ret
  have hne := HK.out.ne
  have hSp := HK.out.inS
  have hsz : (w8.setCell ⟨p, 0, none⟩ (.slice (some ⟨g, 0, none⟩) l'.length c7)).heap.size = w8.heap.size := by simp [World.setCell]
  refine ⟨rfl, ⟨some ⟨g, 0, none⟩, c7, ⟨HOB8.out.set 0 (by simp) _, ?_, HM8.out.same (Below.heap_setCell _ _ _ _ (Ne.symm hne)), hne, ⟨.inl hSp.1, .inl hSp.2⟩⟩⟩, HBT.out.setCell (p := ⟨p, 0, none⟩) (.inr hSp.1) _⟩
  have hR9 := Kd.R_step (Kd.R_lower (Kd.R_bound HR8.out) (Nat.zero_le _)) (w1 := w8.setCell ⟨p, 0, none⟩ (.slice (some ⟨g, 0, none⟩) l'.length c7)) (fun k hk _ => Below.heap_setCell _ _ _ _ (by have := hk.2.1; show k ≠ p; omega))
  exact Kd.R_mono hR9 (fun k hk => by
    obtain ⟨_, h1, h2, _⟩ := hk
    exact ⟨.inr ⟨by omega, by rw [hsz]; exact h2⟩, by omega, by omega⟩)
end Go.Proofs.Ytndjhnipahkclaa.Ke
