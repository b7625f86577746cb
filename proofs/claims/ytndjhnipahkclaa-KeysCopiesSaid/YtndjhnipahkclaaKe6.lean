/- Keys: Prefer, and the nil forms. -/
import Derived.Test.YtndjhnipahkclaaKe5
set_option linter.unusedSimpArgs false
set_option linter.unusedVariables false
namespace Go.Proofs.Ytndjhnipahkclaa.Ke
open Go.RowKit Go.Proofs.YtndjhnipahkclaaW.PrintWords Go.Proofs.YtndjhnipahkclaaW.PrintLast Go.Proofs.YtndjhnipahkclaaW.PrintMore Go.Proofs.Ytndjhnipahkclaa.PKeysPlay Go.Proofs.Ytndjhnipahkclaa.Lex Go.Proofs.Ytndjhnipahkclaa.Lib
/-- a number's test, by the number of sending -/
abbrev sendP (peer send : Int) : S36 → Bool := fun x => x.f0 == peer && x.f1 == send
set_option maxHeartbeats 2000000 in
theorem preferNo {S : Nat → Prop} (p m n : Nat) (A : Option Addr) (c : Nat) (l : List S36) (f : Int → Option Int) (peer send : Int) (w : World) (hk : KS S p m n w A c l f) (hno : l.any (sendP peer send) = false) :
    Calls Try.prog 21 #[ptr p, .int .u32 peer, .int .u8 send] w fun e w' => e = .returned (.int .i64 5) ∧ Below w.heap.size w w' := by
  have hz := zero36
  have h1 := hk.c1
  have HS := Aside0.mk (bySendC p m A c l peer send w hk.c0 hk.c1 hk.row)
  rw [show l.any (fun x => x.f0 == peer && x.f1 == send) = false from hno] at HS
  obtain ⟨y, hy⟩ : ∃ y, (l.find? (fun x => x.f0 == peer && x.f1 == send)).getD z36 = y := ⟨_, rfl⟩
  rw [hy] at HS
  clear hk hno hy
  go_enter Try.func21, Try.ntmps21
  go_wp2_with fail
  refine (none_some h1).mono ?_
  rintro e w' ⟨rfl, rfl⟩
  go_wp2_with fail
  refine HS.out.mono ?_
  rintro e w2 ⟨rfl, hb2⟩
  have hb3 := hb2.trans ((below_alloc (Below.refl w2.heap.size w2) (.cells #[.int .u32 y.f0, .int .u8 y.f1, .int .u8 y.f2, .int .i64 y.f3, .string y.f4] 36)).mono hb2.size)
  have HB3 := Aside0.mk hb3
  clear hb2 hb3
  go_wp2_with fail
  go_ret
  exact ⟨rfl, HB3.out⟩
set_option maxHeartbeats 2000000 in
theorem preferYes {S : Nat → Prop} (p m n : Nat) (A : Option Addr) (c : Nat) (l : List S36) (f : Int → Option Int) (peer send : Int) (w : World) (hk : KS S p m n w A c l f) (hyes : l.any (sendP peer send) = true) (hp : (kl peer).wf = true) (hs : (Lit.int .u8 send).wf = true) (hn : n < 1000000) :
    Calls Try.prog 21 #[ptr p, .int .u32 peer, .int .u8 send] w fun e w' => e = .returned (.int .i64 0) ∧ KS S p m (n + 1) w' A c l (fun j => if j = peer then some send else f j) ∧ But w.heap.size (fun k => k = m) w w' := by
  have hz := zero36
  have h1 := hk.c1
  have HS := Aside0.mk (bySendC p m A c l peer send w hk.c0 hk.c1 hk.row)
  rw [show l.any (fun x => x.f0 == peer && x.f1 == send) = true from hyes] at HS
  obtain ⟨y, hy⟩ : ∃ y, (l.find? (fun x => x.f0 == peer && x.f1 == send)).getD z36 = y := ⟨_, rfl⟩
  rw [hy] at HS
  have HK := Aside0.mk hk
  clear hk hyes hy
  go_enter Try.func21, Try.ntmps21
  go_wp2_with fail
  refine (none_some h1).mono ?_
  rintro e w' ⟨rfl, rfl⟩
  go_wp2_with fail
  refine HS.out.mono ?_
  rintro e w2 ⟨rfl, hb2⟩
  have hb3 := hb2.trans ((below_alloc (Below.refl w2.heap.size w2) (.cells #[.int .u32 y.f0, .int .u8 y.f1, .int .u8 y.f2, .int .i64 y.f3, .string y.f4] 36)).mono hb2.size)
  obtain ⟨V, hV⟩ : ∃ V, w2.alloc (.cells #[.int .u32 y.f0, .int .u8 y.f1, .int .u8 y.f2, .int .i64 y.f3, .string y.f4] 36) = V := ⟨_, rfl⟩
  rw [hV] at hb3
  have HV := Aside0.mk hV
  have hkV := HK.out.below hb3
  have h1V := hkV.c1
  obtain ⟨W3, hr, hm3, hbt⟩ := hkV.map.store peer send hp hs hn
  have HR := Aside0.mk hr
  have HM3 := Aside0.mk hm3
  have HBT := Aside0.mk hbt
  have HKV := Aside0.mk hkV
  have HB3 := Aside0.mk hb3
  clear hb2 hV hkV hr hm3 hbt hb3
  have h1A : (w2.alloc (.cells #[.int .u32 y.f0, .int .u8 y.f1, .int .u8 y.f2, .int .i64 y.f3, .string y.f4] 36)).cell? ⟨p, 1, none⟩ = some (.map (some m)) := by rw [HV.out]; exact h1V
  have hrA : (Instr.mapUpdate 47 (.map (some m)) (.int .u32 peer) (.int .u8 send)).run Try.prog (w2.alloc (.cells #[.int .u32 y.f0, .int .u8 y.f1, .int .u8 y.f2, .int .i64 y.f3, .string y.f4] 36)) = .ok () W3 := by rw [HV.out]; exact HR.out
  go_wp2_with fail
  go_ret
  have s3 := HB3.out.size
  refine ⟨rfl, ?_, ⟨HBT.out.os.trans HB3.out.os, HBT.out.tape.trans HB3.out.tape, HBT.out.output.trans HB3.out.output, Nat.le_trans s3 HBT.out.size, fun k hk hkm => (HBT.out.block k (by omega) hkm).trans (HB3.out.block k hk)⟩⟩
  have kv := HKV.out
  have lp := kv.ob.lt
  have lm := kv.map.lt
  exact ⟨kv.ob.same (HBT.out.block p lp kv.ne), R36_same kv.own (fun k hk hlt => HBT.out.block k hlt hk.2.2), HM3.out, kv.ne, kv.inS⟩
theorem preferNil (peer send : Int) (w : World) : Calls Try.prog 21 #[.pointer none, .int .u32 peer, .int .u8 send] w fun e w' => e = .returned (.int .i64 1) ∧ Below w.heap.size w w' := by
  go_enter Try.func21, Try.ntmps21
  go_wp2_with fail
  refine (none_nil w).mono ?_
  rintro e _ ⟨rfl, rfl⟩
  go_wp2_with fail
  go_ret
  exact ⟨rfl, Below.refl _ _⟩
end Go.Proofs.Ytndjhnipahkclaa.Ke
