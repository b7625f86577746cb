/- Keys: BySend, ByRecv; more tests. -/
import Derived.Test.YtndjhnipahkclaaKe2
import Derived.Test.YtndjhnipahkclaaPKeysPlayx1
set_option linter.unusedSimpArgs false
set_option linter.unusedVariables false
namespace Go.Proofs.Ytndjhnipahkclaa.Ke
open Go.RowKit Go.Proofs.YtndjhnipahkclaaW.PrintWords Go.Proofs.YtndjhnipahkclaaW.PrintLast Go.Proofs.YtndjhnipahkclaaW.PrintMore Go.Proofs.Ytndjhnipahkclaa.PKeysPlay Go.Proofs.Ytndjhnipahkclaa.Lex Go.Proofs.Ytndjhnipahkclaa.Lib
attribute [local go_sem high] eqA36
theorem eg (g : Nat) {fn : Func} {c : Code} (hf : Try.prog.funcs[g]? = some fn) (hname : (fn.name == "runtime.NumGoroutine") = false) (hb : fn.body = some c) : ∀ args w, (callFunc g args).run Try.prog w = .ok (.enter g args) w :=
  fun args w => enters_ hf hname (by rw [hb]; rfl) args w
set_option maxHeartbeats 2000000 in
theorem bySendC (p m : Nat) (A : Option Addr) (c : Nat) (l : List S36) (peer n : Int) (w : World) (h0 : w.cell? ⟨p, 0, none⟩ = some (.slice A l.length c)) (h1 : w.cell? ⟨p, 1, none⟩ = some (.map (some m))) (hx : Kd.C k36 w A l.length l) :
    Calls Try.prog 17 #[ptr p, .int .u32 peer, .int .u8 n] w fun e w' => e = .returned (.tuple #[a36 ((l.find? (fun x => x.f0 == peer && x.f1 == n)).getD z36), .bool (l.any (fun x => x.f0 == peer && x.f1 == n))]) ∧ Below w.heap.size w w' := by
  have hz := zero36
  have hb1 := below_alloc (Below.refl w.heap.size w) (.cells #[.int .u32 peer] 33)
  have hb2 := below_alloc hb1 (.cells #[.int .u8 n] 5)
  have hb3 := below_alloc hb2 (.cells #[.int .u32 z36.f0, .int .u8 z36.f1, .int .u8 z36.f2, .int .i64 z36.f3, .string z36.f4] 36)
  have s1 : (w.alloc (.cells #[.int .u32 peer] 33)).heap.size = w.heap.size + 1 := by simp
  have s2 : ((w.alloc (.cells #[.int .u32 peer] 33)).alloc (.cells #[.int .u8 n] 5)).heap.size = w.heap.size + 1 + 1 := by simp
  have o1 : Ob w.heap.size (w.alloc (.cells #[.int .u32 peer] 33)) [.int .u32 peer] := Ob.new w _ _ rfl _
  have o2 := Ob.new (w.alloc (.cells #[.int .u32 peer] 33)) [.int .u8 n] _ rfl 5
  have o3 := Ob.new ((w.alloc (.cells #[.int .u32 peer] 33)).alloc (.cells #[.int .u8 n] 5)) (c36 z36) #[.int .u32 z36.f0, .int .u8 z36.f1, .int .u8 z36.f2, .int .i64 z36.f3, .string z36.f4] rfl 36
  rw [s1] at o2
  rw [s2] at o3
  have o1 := (o1.below (below_alloc (Below.refl _ _) (.cells #[.int .u8 n] 5)) (by rw [s1]; omega)).below (below_alloc (Below.refl _ _) (.cells #[.int .u32 z36.f0, .int .u8 z36.f1, .int .u8 z36.f2, .int .i64 z36.f3, .string z36.f4] 36)) (by rw [s2]; omega)
  have o2 := o2.below (below_alloc (Below.refl _ _) (.cells #[.int .u32 z36.f0, .int .u8 z36.f1, .int .u8 z36.f2, .int .i64 z36.f3, .string z36.f4] 36)) (by rw [s2]; omega)
  have s3 : (((w.alloc (.cells #[.int .u32 peer] 33)).alloc (.cells #[.int .u8 n] 5)).alloc (.cells #[.int .u32 z36.f0, .int .u8 z36.f1, .int .u8 z36.f2, .int .i64 z36.f3, .string z36.f4] 36)).heap.size = w.heap.size + 1 + 1 + 1 := by simp
  obtain ⟨V, hV⟩ : ∃ V, ((w.alloc (.cells #[.int .u32 peer] 33)).alloc (.cells #[.int .u8 n] 5)).alloc (.cells #[.int .u32 z36.f0, .int .u8 z36.f1, .int .u8 z36.f2, .int .i64 z36.f3, .string z36.f4] 36) = V := ⟨_, rfl⟩
  rw [hV] at hb3 o1 o2 o3 s3
  have h0' := pw_cell_below hb3 h0
  have h1' := pw_cell_below hb3 h1
  have HV := Aside0.mk hV
  have HB3 := Aside0.mk hb3
  have HO3 := Aside0.mk o3
  have HF := Aside0.mk (findC 37 #[ptr w.heap.size, ptr (w.heap.size + 1)] (eg 37 Try.func37 (by kernel_rfl) rfl) (fun x => x.f0 == peer && x.f1 == n) A c l V
    (fun W x hW _ => sendT w.heap.size (w.heap.size + 1) peer n x W (pw_cell_below hW (o1 0 _ rfl).1) (pw_cell_below hW (o2 0 _ rfl).1)) (Kd.C_below hx hb3))
  obtain ⟨y, hy⟩ : ∃ y, (l.find? (fun x => x.f0 == peer && x.f1 == n)).getD z36 = y := ⟨_, rfl⟩
  obtain ⟨q, hq⟩ : ∃ q, l.any (fun x => x.f0 == peer && x.f1 == n) = q := ⟨_, rfl⟩
  rw [hy, hq] at HF
  rw [hy, hq]
  clear h0 h1 hx hb1 hb2 hb3 o1 o2 o3 s1 s2 hV hy hq
  go_enter Try.func17, Try.ntmps17
  go_wp2_with fail
  rw [HV.out]
  refine (none_some h1').mono ?_
  rintro e w' ⟨rfl, rfl⟩
  go_wp2_with fail
  refine HF.out.mono ?_
  rintro e w2 ⟨rfl, hb2⟩
  obtain ⟨W3, hst, ho3, hb3⟩ := store36 (x := y) (HO3.out.below hb2 (by omega))
  have HST := Aside0.mk hst
  have HLD := Aside0.mk (load36 ho3)
  have B2 := HB3.out.trans (hb2.mono HB3.out.size)
  have HBE := Aside0.mk (B2.trans (hb3.below B2.size (fun j hj e => by have : j = w.heap.size + 1 + 1 := e; omega)))
  clear hb2 hst ho3 hb3 B2
  go_wp2_with (refine pl_store rfl 36 _ _ rfl _ _ HST.out rfl rfl ?_)
  refine bodyPost_ret (results_row_tmp rfl _ _ (w.heap.size + 1 + 1) _ rfl HLD.out) rfl ?_
  exact ⟨rfl, HBE.out⟩
set_option maxHeartbeats 2000000 in
theorem byRecvC (p m : Nat) (A : Option Addr) (c : Nat) (l : List S36) (peer n : Int) (w : World) (h0 : w.cell? ⟨p, 0, none⟩ = some (.slice A l.length c)) (h1 : w.cell? ⟨p, 1, none⟩ = some (.map (some m))) (hx : Kd.C k36 w A l.length l) :
    Calls Try.prog 18 #[ptr p, .int .u32 peer, .int .u8 n] w fun e w' => e = .returned (.tuple #[a36 ((l.find? (fun x => x.f0 == peer && x.f2 == n)).getD z36), .bool (l.any (fun x => x.f0 == peer && x.f2 == n))]) ∧ Below w.heap.size w w' := by
  have hz := zero36
  have hb1 := below_alloc (Below.refl w.heap.size w) (.cells #[.int .u32 peer] 33)
  have hb2 := below_alloc hb1 (.cells #[.int .u8 n] 5)
  have hb3 := below_alloc hb2 (.cells #[.int .u32 z36.f0, .int .u8 z36.f1, .int .u8 z36.f2, .int .i64 z36.f3, .string z36.f4] 36)
  have s1 : (w.alloc (.cells #[.int .u32 peer] 33)).heap.size = w.heap.size + 1 := by simp
  have s2 : ((w.alloc (.cells #[.int .u32 peer] 33)).alloc (.cells #[.int .u8 n] 5)).heap.size = w.heap.size + 1 + 1 := by simp
  have o1 : Ob w.heap.size (w.alloc (.cells #[.int .u32 peer] 33)) [.int .u32 peer] := Ob.new w _ _ rfl _
  have o2 := Ob.new (w.alloc (.cells #[.int .u32 peer] 33)) [.int .u8 n] _ rfl 5
  have o3 := Ob.new ((w.alloc (.cells #[.int .u32 peer] 33)).alloc (.cells #[.int .u8 n] 5)) (c36 z36) #[.int .u32 z36.f0, .int .u8 z36.f1, .int .u8 z36.f2, .int .i64 z36.f3, .string z36.f4] rfl 36
  rw [s1] at o2
  rw [s2] at o3
  have o1 := (o1.below (below_alloc (Below.refl _ _) (.cells #[.int .u8 n] 5)) (by rw [s1]; omega)).below (below_alloc (Below.refl _ _) (.cells #[.int .u32 z36.f0, .int .u8 z36.f1, .int .u8 z36.f2, .int .i64 z36.f3, .string z36.f4] 36)) (by rw [s2]; omega)
  have o2 := o2.below (below_alloc (Below.refl _ _) (.cells #[.int .u32 z36.f0, .int .u8 z36.f1, .int .u8 z36.f2, .int .i64 z36.f3, .string z36.f4] 36)) (by rw [s2]; omega)
  have s3 : (((w.alloc (.cells #[.int .u32 peer] 33)).alloc (.cells #[.int .u8 n] 5)).alloc (.cells #[.int .u32 z36.f0, .int .u8 z36.f1, .int .u8 z36.f2, .int .i64 z36.f3, .string z36.f4] 36)).heap.size = w.heap.size + 1 + 1 + 1 := by simp
  obtain ⟨V, hV⟩ : ∃ V, ((w.alloc (.cells #[.int .u32 peer] 33)).alloc (.cells #[.int .u8 n] 5)).alloc (.cells #[.int .u32 z36.f0, .int .u8 z36.f1, .int .u8 z36.f2, .int .i64 z36.f3, .string z36.f4] 36) = V := ⟨_, rfl⟩
  rw [hV] at hb3 o1 o2 o3 s3
  have h0' := pw_cell_below hb3 h0
  have h1' := pw_cell_below hb3 h1
  have HV := Aside0.mk hV
  have HB3 := Aside0.mk hb3
  have HO3 := Aside0.mk o3
  have HF := Aside0.mk (findC 38 #[ptr w.heap.size, ptr (w.heap.size + 1)] (eg 38 Try.func38 (by kernel_rfl) rfl) (fun x => x.f0 == peer && x.f2 == n) A c l V
    (fun W x hW _ => recvT w.heap.size (w.heap.size + 1) peer n x W (pw_cell_below hW (o1 0 _ rfl).1) (pw_cell_below hW (o2 0 _ rfl).1)) (Kd.C_below hx hb3))
  obtain ⟨y, hy⟩ : ∃ y, (l.find? (fun x => x.f0 == peer && x.f2 == n)).getD z36 = y := ⟨_, rfl⟩
  obtain ⟨q, hq⟩ : ∃ q, l.any (fun x => x.f0 == peer && x.f2 == n) = q := ⟨_, rfl⟩
  rw [hy, hq] at HF
  rw [hy, hq]
  clear h0 h1 hx hb1 hb2 hb3 o1 o2 o3 s1 s2 hV hy hq
  go_enter Try.func18, Try.ntmps18
  go_wp2_with fail
  rw [HV.out]
  refine (none_some h1').mono ?_
  rintro e w' ⟨rfl, rfl⟩
  go_wp2_with fail
  refine HF.out.mono ?_
  rintro e w2 ⟨rfl, hb2⟩
  obtain ⟨W3, hst, ho3, hb3⟩ := store36 (x := y) (HO3.out.below hb2 (by omega))
  have HST := Aside0.mk hst
  have HLD := Aside0.mk (load36 ho3)
  have B2 := HB3.out.trans (hb2.mono HB3.out.size)
  have HBE := Aside0.mk (B2.trans (hb3.below B2.size (fun j hj e => by have : j = w.heap.size + 1 + 1 := e; omega)))
  clear hb2 hst ho3 hb3 B2
  go_wp2_with (refine pl_store rfl 36 _ _ rfl _ _ HST.out rfl rfl ?_)
  refine bodyPost_ret (results_row_tmp rfl _ _ (w.heap.size + 1 + 1) _ rfl HLD.out) rfl ?_
  exact ⟨rfl, HBE.out⟩
end Go.Proofs.Ytndjhnipahkclaa.Ke
