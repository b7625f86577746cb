/- HMAC: the blocks of keys, in plain Lean and in both programs; with, of. · HMAC: the reference's Block; with, of. · HMAC: with (the block, each byte xored), of. · HMAC: of; a tag under way: the object; none, Write, Tag. · HMAC: New, Copy. · HMAC: the range over parts; Tag of parts. · HMAC: the chapter's rows (works); few. · A region that draws its order, walked along a TREE of orders: as XLex's, but where two operations that are walked alone are ready at once, both ways are walked. Conditions: the kernel's check 'lexTOK' of the tree. · HMAC: the reference's Tag. · HMAC: Short. · HMAC: Copy of a tag under way; nil forms. · HMAC: Tag of no tag under way. · HMAC: Tag with a key past the bound. · HMAC: the reference's Short; Short with a key past the bound. · The law HmacBlocks. -/
import Derived.Test.YtfeohojpjncgaaaOf01
import Derived.Test.YtfeohojpjncgaaaRSum01
import Derived.Test.YtfeohojpjncgaaaCopyA
import Derived.Test.YtfeohojpjncgaaaMake
import Derived.Great.FillDense
import Derived.Laws.Tables
import Derived.Lib.SlBytesConst
import Derived.Test.YtfeohojpjncgaaaLex
set_option linter.unusedSimpArgs false
set_option linter.unusedVariables false
namespace Go.Proofs.Ytfeohojpjncgaaa.Sha
open Go.RowKit Go.Proofs.YtfeohojpjncgaaaW.PrintWords Go.Proofs.YtfeohojpjncgaaaW.PrintLast Go.Proofs.YtfeohojpjncgaaaW.PrintMore Go.Proofs.Ytfeohojpjncgaaa.PSha1Plays Go.Proofs.Ytfeohojpjncgaaa.Lex Go.Proofs.Ytfeohojpjncgaaa.Lib
theorem sumOf_len (xs : List Int) : (sumOf xs).length = 20 := by unfold sumOf; exact bytes20_len _
theorem byteW_byt (s : St) (j : Nat) : 0 ≤ byteW s j ∧ byteW s j ≤ 255 := by unfold byteW; omega
theorem sumOf_byt (xs : List Int) : Byt (sumOf xs) := fun x hx => by
  unfold sumOf bytes20 at hx
  obtain ⟨j, _, rfl⟩ := List.mem_map.1 hx
  exact byteW_byt _ j
/-- a key's block -/
def blockOf (key : List Int) : List Int := (if 64 < key.length then sumOf key else key) ++ List.replicate (64 - (if 64 < key.length then sumOf key else key).length) 0
def xorB (x : Int) (bs : List Int) : List Int := bs.map (fun b => Go.bits .xor .u8 b x)
/-- the tag of a key and a message -/
def tagOf (key msg : List Int) : List Int := sumOf (xorB 92 (blockOf key) ++ sumOf (xorB 54 (blockOf key) ++ msg))
theorem key64 (key : List Int) : (if 64 < key.length then sumOf key else key).length ≤ 64 := by
  split
  · rw [sumOf_len]; decide
  · omega
theorem blockOf_len (key : List Int) : (blockOf key).length = 64 := by
  unfold blockOf
  have := key64 key
  rw [List.length_append, List.length_replicate]
  omega
theorem zeros_byt (n : Nat) : Byt (List.replicate n 0) := fun x hx => by obtain ⟨_, rfl⟩ := List.mem_replicate.1 hx; omega
theorem blockOf_byt {key : List Int} (h : Byt key) : Byt (blockOf key) := by
  unfold blockOf
  refine Byt.append ?_ (zeros_byt _)
  split
  · exact sumOf_byt _
  · exact h
theorem xorB_byt (x : Int) (bs : List Int) : Byt (xorB x bs) := fun y hy => by
  obtain ⟨b, _, rfl⟩ := List.mem_map.1 hy
  exact ⟨bits_lo_u8 _ _ _, bits_hi_u8 _ _ _⟩
theorem xorB_len (x : Int) (bs : List Int) : (xorB x bs).length = bs.length := by simp [xorB]
theorem zeros64 : (List.replicate 64 (Value.int .u8 0)).toArray = ((List.replicate 64 (0 : Int)).map (Value.int .u8)).toArray := by simp
theorem zeros20 : (List.replicate 20 (Value.int .u8 0)).toArray = ((List.replicate 20 (0 : Int)).map (Value.int .u8)).toArray := by simp
theorem hi20 {xs : List Int} (h : xs.length = 20) : (Try.prog.info? 41).map (·.size) = some xs.length := by rw [h]; kernel_rfl
theorem hi64 {xs : List Int} (h : xs.length = 64) : (Try.prog.info? 25).map (·.size) = some xs.length := by rw [h]; kernel_rfl
section
variable {P : Program}
/-- results: an array in a cell, and a slot -/
theorem results_row_tmp {fn : Func} {p t : Tmp} {ty : TypeId} (h : fn.results = #[.cell p ty, .tmp t]) (tmps : Array Value) (w : World) (g : Nat) (cs : Array Value)
    (hp : tmps.getD p undef = .pointer (some ⟨g, 0, none⟩)) (hl : (loadVar ty ⟨g, 0, none⟩).run P w = .ok (.agg cs) w) :
    (results fn tmps).run P w = .ok (.tuple #[.agg cs, tmps.getD t undef]) w := by
  have hp' : tmps[p]?.getD undef = .pointer (some ⟨g, 0, none⟩) := by simpa using hp
  simp [results, h, hp', asAddr, hl]
theorem results_row {fn : Func} {p : Tmp} {ty : TypeId} (h : fn.results = #[.cell p ty]) (tmps : Array Value) (w : World) (g : Nat) (cs : Array Value)
    (hp : tmps.getD p undef = .pointer (some ⟨g, 0, none⟩)) (hl : (loadVar ty ⟨g, 0, none⟩).run P w = .ok (.agg cs) w) :
    (results fn tmps).run P w = .ok (.agg cs) w := by
  have hp' : tmps[p]?.getD undef = .pointer (some ⟨g, 0, none⟩) := by simpa using hp
  simp [results, h, hp', asAddr, hl]
end
/-- an array of bytes, stored over another, by a name -/
theorem store64 {g : Nat} {w : World} {xs ys : List Int} (h : Arr .u8 g 25 w xs) (hx : xs.length = 64) (hy : ys.length = 64) {bx : Array Value} (hb : bx = (ys.map (Value.int .u8)).toArray) :
    ∃ W', (storeVar 25 ⟨g, 0, none⟩ (.agg bx)).run Try.prog w = .ok () W' ∧ Arr .u8 g 25 W' ys ∧ But w.heap.size (fun j => j = g) w W' := by
  subst hb
  exact arr_store h 25 ys (by rw [hy, hx]) (hi64 hy)
theorem store20 {g : Nat} {w : World} {xs ys : List Int} (h : Arr .u8 g 41 w xs) (hx : xs.length = 20) (hy : ys.length = 20) {bx : Array Value} (hb : bx = (ys.map (Value.int .u8)).toArray) :
    ∃ W', (storeVar 41 ⟨g, 0, none⟩ (.agg bx)).run Try.prog w = .ok () W' ∧ Arr .u8 g 41 W' ys ∧ But w.heap.size (fun j => j = g) w W' := by
  subst hb
  exact arr_store h 41 ys (by rw [hy, hx]) (hi20 hy)
theorem load64 {g : Nat} {w : World} {ys : List Int} (h : Arr .u8 g 25 w ys) (hy : ys.length = 64) {bx : Array Value} (hb : bx = (ys.map (Value.int .u8)).toArray) : (loadVar 25 ⟨g, 0, none⟩).run Try.prog w = .ok (.agg bx) w := by
  subst hb
  exact arr_load h 25 Try.underlying25 (hi64 hy)
theorem load20 {g : Nat} {w : World} {ys : List Int} (h : Arr .u8 g 41 w ys) (hy : ys.length = 20) {bx : Array Value} (hb : bx = (ys.map (Value.int .u8)).toArray) : (loadVar 41 ⟨g, 0, none⟩).run Try.prog w = .ok (.agg bx) w := by
  subst hb
  exact arr_load h 41 Try.underlying41 (hi20 hy)
/-- an array of bytes, stored into a new block -/
theorem new20 {ys : List Int} (hy : ys.length = 20) {bx zs : Array Value} (hb : bx = (ys.map (Value.int .u8)).toArray) (hz : zs.size = 20) (W : World) : (storeVar 41 ⟨W.heap.size, 0, none⟩ (.agg bx)).run Try.prog (W.alloc (.cells zs 41)) = .ok () (W.alloc (.cells bx 41)) :=
  run_storeVar_new W _ _ _ (by rw [hb]; simpa using hi20 hy) (by rw [hb, hz]; simp [hy]) (by rw [hb]; simp [Value.oneCell'])
theorem new64 {ys : List Int} (hy : ys.length = 64) {bx zs : Array Value} (hb : bx = (ys.map (Value.int .u8)).toArray) (hz : zs.size = 64) (W : World) : (storeVar 25 ⟨W.heap.size, 0, none⟩ (.agg bx)).run Try.prog (W.alloc (.cells zs 25)) = .ok () (W.alloc (.cells bx 25)) :=
  run_storeVar_new W _ _ _ (by rw [hb]; simpa using hi64 hy) (by rw [hb, hz]; simp [hy]) (by rw [hb]; simp [Value.oneCell'])
theorem z64_ex : ∃ zs : Array Value, zs.size = 64 ∧ Aside0 (zs = ((List.replicate 64 (0 : Int)).map (Value.int .u8)).toArray) ∧ ∀ w, (zeroValue 25).run Try.prog w = .ok (.agg zs) w := ⟨_, by simp, ⟨zeros64⟩, zero64⟩
theorem z20_ex : ∃ zs : Array Value, zs.size = 20 ∧ Aside0 (zs = ((List.replicate 20 (0 : Int)).map (Value.int .u8)).toArray) ∧ ∀ w, (zeroValue 41).run Try.prog w = .ok (.agg zs) w := ⟨_, by simp, ⟨zeros20⟩, zero20⟩
/-- the contract of sha1.Sum, the value by a name -/
theorem sum_ex (xs : List Int) (hb : Byt xs) (hl : xs.length ≤ 3000000) : ∃ bx : Array Value, Aside0 (bx = ((sumOf xs).map (Value.int .u8)).toArray) ∧
    Aside0 (∀ (A : Option Addr) (c : Nat) (w : World), Kd.C KB w A xs.length xs → xs.length ≤ c → Calls Try.prog 22 #[.slice A xs.length c] w fun e w' => e = .returned (.agg bx) ∧ Below w.heap.size w w') ∧
    Aside0 (∀ (A : Option Addr) (c : Nat) (w : World), Kd.C KB w A xs.length xs → xs.length ≤ c → Calls Try.prog 23 #[.slice A xs.length c] w fun e w' => e = .returned (.agg bx) ∧ Below w.heap.size w w') :=
  ⟨_, ⟨rfl⟩, ⟨fun A c w h1 h2 => sumC A c xs w h1 h2 hb hl⟩, ⟨fun A c w h1 h2 => rsumC A c xs w h1 h2 hb hl⟩⟩
set_option maxRecDepth 100000 in
set_option maxHeartbeats 2000000 in
theorem blockC (A : Option Addr) (c : Nat) (key : List Int) (w : World) (hx : Kd.C KB w A key.length key) (hc : key.length ≤ c) (hb : Byt key) (hl : key.length ≤ 1048576) :
    Calls Try.prog 11 #[.slice A key.length c] w fun e w' => e = .returned (.tuple #[.agg ((blockOf key).map (Value.int .u8)).toArray, .int .i64 0]) ∧ Below w.heap.size w w' := by
  obtain ⟨z6, hz6, HZ6, hz⟩ := z64_ex
  obtain ⟨z2, hz2, HZ2, hzz⟩ := z20_ex
  have HX := Aside0.mk hx
  obtain ⟨bx, hbx⟩ : ∃ bx, ((blockOf key).map (Value.int .u8)).toArray = bx := ⟨_, rfl⟩
  rw [hbx]
  have HBX := Aside0.mk hbx.symm
  clear hx hbx
  have hl' : ¬ 1048576 < key.length := by omega
  by_cases h64 : 64 < key.length
  · obtain ⟨dx, HDX, HS, -⟩ := sum_ex key hb (by omega)
    have hst := Aside0.mk (new20 (sumOf_len key) HDX.out hz2)
    have hbo : blockOf key = sumOf key ++ List.replicate 44 0 := by unfold blockOf; rw [if_pos h64, sumOf_len]
    have HBO := Aside0.mk hbo
    clear hb hbo
    go_enter Try.func11, Try.ntmps11
    go_wp2_with fail
    have hb0 := below_alloc (Below.refl w.heap.size w) (.cells z6 25)
    have AR := Aside0.mk (Arr.new w 25 (List.replicate 64 0) z6 (k := .u8) HZ6.out)
    obtain ⟨w1, hw1⟩ : ∃ w1, w.alloc (.cells z6 25) = w1 := ⟨_, rfl⟩
    have hs1 : w1.heap.size = w.heap.size + 1 := by rw [← hw1]; simp
    rw [hw1] at AR hb0 ⊢
    have B1 := Aside0.mk hb0
    clear hw1 hb0
    refine (HS.out A c w1 (Kd.C_below HX.out B1.out) hc).mono ?_
    rintro e w2 ⟨rfl, hb2⟩
    have AR2 := AR.out.later hb2
    have B2 := B1.out.trans (hb2.mono (by omega))
    have s2 := hb2.size
    have hAD := Arr.new (k := .u8) w2 41 (sumOf key) dx HDX.out
    have hb3 := below_alloc (Below.refl w2.heap.size w2) (.cells dx 41)
    have hCD : Kd.C KB (w2.alloc (.cells dx 41)) (some ⟨w2.heap.size, 0, none⟩) (sumOf key).length (sumOf key) := by
      have h := hAD.seg (by rw [sumOf_len]; decide) 0 (sumOf key).length (by omega) (Nat.le_refl _)
      rw [List.take_length, List.drop_zero, Nat.sub_zero] at h
      exact h
    have AR3 := AR2.later hb3
    have B3 := B2.trans (hb3.mono (by omega))
    obtain ⟨w4, hcp, hA, hb4⟩ := run_copyA AR3 hCD (n := 64) (m := 20) (by simp) (sumOf_len key).symm 64 20
    have B4 := B3.trans (hb4.below B3.size (fun j hj e => by have : j = w.heap.size := e; omega))
    have hA2 : Arr .u8 w.heap.size 25 w4 (blockOf key) := by
      rw [HBO.out]
      rw [List.length_replicate, List.take_of_length_le (by rw [sumOf_len]; decide), sumOf_len, List.drop_replicate] at hA
      exact hA
    obtain ⟨W5, hst5, ha5, hb5⟩ := store64 hA2 (blockOf_len key) (blockOf_len key) HBX.out
    have HLD := Aside0.mk (load64 hA2 (blockOf_len key) HBX.out)
    have HST5 := Aside0.mk hst5
    have HLD5 := Aside0.mk (load64 ha5 (blockOf_len key) HBX.out)
    have HB5 := Aside0.mk (B4.trans (hb5.below B4.size (fun j hj e => by have : j = w.heap.size := e; omega)))
    clear hb2 AR B1 HS AR2 B2 hAD hb3 hCD AR3 B3 hA hb4 B4 hA2 hst5 ha5 hb5 hz
    go_wp2_with (first | (refine pl_store rfl 41 _ _ rfl _ _ (hst.out _) rfl rfl ?_) | (refine pl_load rfl 25 _ rfl _ _ HLD.out rfl ?_) | (refine pl_store rfl 25 _ _ rfl _ _ HST5.out rfl rfl ?_))
    refine bodyPost_ret (results_row_tmp rfl _ _ w.heap.size bx rfl HLD5.out) rfl ?_
    exact ⟨rfl, HB5.out⟩
  · have hbo : blockOf key = key ++ List.replicate (64 - key.length) 0 := by unfold blockOf; rw [if_neg h64]
    have hb0 := below_alloc (Below.refl w.heap.size w) (.cells z6 25)
    have AR := Arr.new w 25 (List.replicate 64 0) z6 (k := .u8) HZ6.out
    obtain ⟨w4, hcp, hA, hb4⟩ := run_copyA AR (Kd.C_below HX.out hb0) (n := 64) (m := key.length) (by simp) rfl 64 c
    have B4 := hb0.trans (hb4.below hb0.size (fun j hj e => by have : j = w.heap.size := e; omega))
    have hA2 : Arr .u8 w.heap.size 25 w4 (blockOf key) := by
      rw [hbo]
      rw [List.length_replicate, List.take_of_length_le (by omega), List.drop_replicate] at hA
      exact hA
    obtain ⟨W5, hst5, ha5, hb5⟩ := store64 hA2 (blockOf_len key) (blockOf_len key) HBX.out
    have HLD := Aside0.mk (load64 hA2 (blockOf_len key) HBX.out)
    have HST5 := Aside0.mk hst5
    have HLD5 := Aside0.mk (load64 ha5 (blockOf_len key) HBX.out)
    have HB5 := Aside0.mk (B4.trans (hb5.below B4.size (fun j hj e => by have : j = w.heap.size := e; omega)))
    clear hb hbo hb0 AR hA hb4 B4 hA2 hst5 ha5 hb5 hzz
    go_enter Try.func11, Try.ntmps11
    go_wp2_with (first | (refine pl_load rfl 25 _ rfl _ _ HLD.out rfl ?_) | (refine pl_store rfl 25 _ _ rfl _ _ HST5.out rfl rfl ?_))
    refine bodyPost_ret (results_row_tmp rfl _ _ w.heap.size bx rfl HLD5.out) rfl ?_
    exact ⟨rfl, HB5.out⟩
set_option maxRecDepth 100000 in
set_option maxHeartbeats 2000000 in
theorem blockBad (A : Option Addr) (c : Nat) (n : Nat) (w : World) (hl : 1048576 < n) (hm : n ≤ 1000000000) :
    Calls Try.prog 11 #[.slice A n c] w fun e w' => e = .returned (.tuple #[.agg ((List.replicate 64 (0 : Int)).map (Value.int .u8)).toArray, .int .i64 3]) ∧ Below w.heap.size w w' := by
  obtain ⟨z6, hz6, HZ6, hz⟩ := z64_ex
  rw [← HZ6.out]
  have hl' : (1048576 : Int) < (n : Int) := by omega
  have hb0 := below_alloc (Below.refl w.heap.size w) (.cells z6 25)
  have hA2 := Arr.new w 25 (List.replicate 64 0) z6 (k := .u8) HZ6.out
  obtain ⟨W5, hst5, ha5, hb5⟩ := store64 hA2 (by simp) (by simp) HZ6.out
  have HLD := Aside0.mk (load64 hA2 (by simp) HZ6.out)
  have HST5 := Aside0.mk hst5
  have HLD5 := Aside0.mk (load64 ha5 (by simp) HZ6.out)
  have HB5 := Aside0.mk (hb0.trans (hb5.below hb0.size (fun j hj e => by have : j = w.heap.size := e; omega)))
  clear hA2 hst5 ha5 hb5 hb0
  go_enter Try.func11, Try.ntmps11
  go_wp2_with (first | (refine pl_load rfl 25 _ rfl _ _ HLD.out rfl ?_) | (refine pl_store rfl 25 _ _ rfl _ _ HST5.out rfl rfl ?_))
  refine bodyPost_ret (results_row_tmp rfl _ _ w.heap.size z6 rfl HLD5.out) rfl ?_
  exact ⟨rfl, HB5.out⟩
end Go.Proofs.Ytfeohojpjncgaaa.Sha

set_option linter.unusedSimpArgs false
set_option linter.unusedVariables false
namespace Go.Proofs.Ytfeohojpjncgaaa.Sha
open Go.RowKit Go.Proofs.YtfeohojpjncgaaaW.PrintWords Go.Proofs.YtfeohojpjncgaaaW.PrintLast Go.Proofs.YtfeohojpjncgaaaW.PrintMore Go.Proofs.Ytfeohojpjncgaaa.PSha1Plays Go.Proofs.Ytfeohojpjncgaaa.Lex Go.Proofs.Ytfeohojpjncgaaa.Lib
theorem take_one (xs : List Int) (k : Nat) (hk : k < xs.length) : xs.take (k + 1) = xs.take k ++ [xs.getD k 0] := by
  rw [List.take_succ_eq_append_getElem hk, List.getD_eq_getElem?_getD, List.getElem?_eq_getElem hk]
  rfl
theorem set_take (xs : List Int) (n k : Nat) (hk : k < xs.length) (hn : xs.length ≤ n) : (xs.take k ++ List.replicate (n - k) 0).set k (xs.getD k 0) = xs.take (k + 1) ++ List.replicate (n - (k + 1)) 0 := by
  have h := set_end (xs.take k) (n - k) (xs.getD k 0) (by omega)
  rw [List.length_take, Nat.min_eq_left (by omega)] at h
  rw [h, take_one xs k hk, show n - k - 1 = n - (k + 1) by omega]
/-- the loop that lays a row of bytes into an array, and what follows it -/
def LOOPB (w V : World) (A : Option Addr) (c : Nat) (K : List Int) : Prop := K.length ≤ 64 ∧ K.length ≤ c ∧ Kd.C KB V A K.length K ∧ (0 < K.length → ∀ a, A = some a → a.block ≠ w.heap.size + 1) ∧ Arr .u8 w.heap.size 25 V (List.replicate 64 0) ∧ Arr .u8 (w.heap.size + 1) 25 V (List.replicate 64 0) ∧ Below w.heap.size w V
set_option maxRecDepth 100000 in
set_option maxHeartbeats 2000000 in
theorem rblockC (A : Option Addr) (c : Nat) (key : List Int) (w : World) (hx : Kd.C KB w A key.length key) (hc : key.length ≤ c) (hb : Byt key) (hl : key.length ≤ 1048576) :
    Calls Try.prog 13 #[.slice A key.length c] w fun e w' => e = .returned (.agg ((blockOf key).map (Value.int .u8)).toArray) ∧ Below w.heap.size w w' := by
  obtain ⟨z6, hz6, HZ6, hz⟩ := z64_ex
  obtain ⟨z2, hz2, HZ2, hzz⟩ := z20_ex
  have HX := Aside0.mk hx
  obtain ⟨bx, hbx⟩ : ∃ bx, ((blockOf key).map (Value.int .u8)).toArray = bx := ⟨_, rfl⟩
  rw [hbx]
  have HBX := Aside0.mk hbx.symm
  have hb0 := below_alloc (below_alloc (Below.refl w.heap.size w) (.cells z6 25)) (.cells z6 25)
  have AR0 := (Arr.new w 25 (List.replicate 64 0) z6 (k := .u8) HZ6.out).later (below_alloc (Below.refl _ _) (.cells z6 25))
  have AR1 := Arr.newAt (w.alloc (.cells z6 25)) (w.heap.size + 1) 25 (by simp) (List.replicate 64 0) z6 (k := .u8) HZ6.out
  clear hx hbx
  by_cases h64 : 64 < key.length
  · obtain ⟨dx, HDX, -, HS⟩ := sum_ex key hb (by omega)
    have hst := Aside0.mk (new20 (sumOf_len key) HDX.out hz2)
    have hbo : blockOf key = sumOf key ++ List.replicate (64 - (sumOf key).length) 0 := by unfold blockOf; rw [if_pos h64]
    have HBO := Aside0.mk hbo
    have HB0 := Aside0.mk hb0
    have HA0 := Aside0.mk AR0
    have HA1 := Aside0.mk AR1
    clear hb hbo hb0 AR0 AR1
    go_enter Try.func13, Try.ntmps13
    go_wp2_with fail
    refine (HS.out A c _ (Kd.C_below HX.out HB0.out) hc).mono ?_
    rintro e w2 ⟨rfl, hb2⟩
    have s0 : ((w.alloc (.cells z6 25)).alloc (.cells z6 25)).heap.size = w.heap.size + 2 := by simp
    have s2 := hb2.size
    rw [s0] at s2
    have hAD := Arr.new (k := .u8) w2 41 (sumOf key) dx HDX.out
    have hb3 := below_alloc (Below.refl w2.heap.size w2) (.cells dx 41)
    have hCD : Kd.C KB (w2.alloc (.cells dx 41)) (some ⟨w2.heap.size, 0, none⟩) (sumOf key).length (sumOf key) := by
      have h := hAD.seg (by rw [sumOf_len]; decide) 0 (sumOf key).length (by omega) (Nat.le_refl _)
      rw [List.take_length, List.drop_zero, Nat.sub_zero] at h
      exact h
    have HL : Aside0 (LOOPB w (w2.alloc (.cells dx 41)) (some ⟨w2.heap.size, 0, none⟩) 20 (sumOf key)) := ⟨by rw [sumOf_len]; decide, by rw [sumOf_len]; decide, hCD, fun _ a ha => by injection ha with ha; rw [← ha]; show w2.heap.size ≠ _; omega, (HA0.out.later hb2).later hb3, (HA1.out.later hb2).later hb3, HB0.out.trans ((hb2.trans (hb3.mono hb2.size)).mono (by rw [s0]; omega))⟩
    clear hAD hb3 hCD hb2 HA0 HA1 HB0 HS
    have hK20 := sumOf_len key
    obtain ⟨K, hK⟩ : ∃ K, sumOf key = K := ⟨_, rfl⟩
    rw [hK] at HL HBO hK20
    clear hK
    go_wp2_with (refine pl_store rfl 41 _ _ rfl _ _ (hst.out _) rfl rfl ?_)
    obtain ⟨V, hV⟩ : ∃ V, w2.alloc (.cells dx 41) = V := ⟨_, rfl⟩
    rw [hV] at HL ⊢
    obtain ⟨AK, hAK⟩ : ∃ a, some (⟨w2.heap.size, 0, none⟩ : Addr) = a := ⟨_, rfl⟩
    rw [hAK] at HL ⊢
    obtain ⟨cK, hcK⟩ : ∃ a, 20 = a := ⟨_, rfl⟩
    rw [show (Value.slice AK 20 20) = Value.slice AK K.length 20 by rw [hK20]]
    clear hV hAK hz hzz hst s2 s0 hcK hK20
    go_loopg [5] 64 (fun gk s5 W' => ∃ k : Nat, k ≤ K.length ∧ K.length - k ≤ gk ∧ s5 = .int .i64 k ∧ Arr .u8 (w.heap.size + 1) 25 W' (K.take k ++ List.replicate (64 - k) 0) ∧ But V.heap.size (fun j => j = w.heap.size + 1) V W')
    case atStart => exact ⟨0, by omega, by have := HL.out.1; omega, rfl, HL.out.2.2.2.2.2.1, But.refl _ _ _⟩
    case round =>
      obtain ⟨k, hk, hgk, rfl, hA, hB⟩ := hrel
      have HA := Aside0.mk hA
      have HB := Aside0.mk hB
      clear hA hB
      by_cases hlt : k < K.length
      · have hlI : (k : Int) < (K.length : Int) := by omega
        have hk64 : k < 64 := by have := HL.out.1; omega
        have hk64I : (k : Int) < 64 := by omega
        have hCK : Kd.C KB wr AK K.length K := C_kept (Kept.but HB.out (Nat.le_refl _)) HL.out.2.2.1 (fun p hp => HL.out.2.2.2.1 (by omega) p hp)
        obtain ⟨ab, ao, rfl, g0⟩ := C_byte hCK k hlt
        have hlen : (K.take k ++ List.replicate (64 - k) 0).length = 64 := by rw [List.length_append, List.length_take, List.length_replicate]; omega
        have hcl := HA.out.cell k (by rw [hlen]; exact hk64)
        obtain ⟨g1, g2⟩ := hcl
        obtain ⟨y, hy⟩ : ∃ y, (K.take k ++ List.replicate (64 - k) 0).getD k 0 = y := ⟨_, rfl⟩
        obtain ⟨x, hx⟩ : ∃ x, K.getD k 0 = x := ⟨_, rfl⟩
        rw [hy] at g1
        rw [hx] at g0
        have HXX := Aside0.mk hx
        have HK := Aside0.mk hlt
        have HK64 := Aside0.mk hk64
        clear hCK hlen hy hx hlt hk64
        go_wp2_with fail
        go_roundg (gk - 1)
        case measure => have := HK.out; omega
        case rel =>
          have hk := HK.out
          refine ⟨k + 1, by omega, by omega, ?_, ?_, ?_⟩
          · congr 1
          · have h := HA.out.put k x
            rw [← HXX.out, set_take K 64 k hk HL.out.1, HXX.out] at h
            exact h
          · exact HB.out.setCell (.inr rfl) _
      · obtain rfl : k = K.length := by omega
        have hlI : ¬ ((K.length : Int) < (K.length : Int)) := by omega
        have hA2 : Arr .u8 (w.heap.size + 1) 25 wr (blockOf key) := by
          rw [HBO.out]
          have h := HA.out
          rw [List.take_length] at h
          exact h
        have hA0 : Arr .u8 w.heap.size 25 wr (List.replicate 64 0) := HL.out.2.2.2.2.1.same (HB.out.block _ HL.out.2.2.2.2.1.lt (by show ¬ w.heap.size = w.heap.size + 1; omega))
        obtain ⟨W5, hst5, ha5, hb5⟩ := store64 hA0 (by simp) (blockOf_len key) HBX.out
        have HLD := Aside0.mk (load64 hA2 (blockOf_len key) HBX.out)
        have HST5 := Aside0.mk hst5
        have HLD5 := Aside0.mk (load64 ha5 (blockOf_len key) HBX.out)
        have B5 := HL.out.2.2.2.2.2.2.trans ((HB.out.below HL.out.2.2.2.2.2.2.size (fun j hj e => by have : j = w.heap.size + 1 := e; omega)).trans (hb5.below (Nat.le_trans HL.out.2.2.2.2.2.2.size HB.out.size) (fun j hj e => by have : j = w.heap.size := e; omega)))
        have HB5 := Aside0.mk B5
        clear hA2 hA0 hst5 ha5 hb5 B5
        go_wp2_with (first | (refine pl_load rfl 25 _ rfl _ _ HLD.out rfl ?_) | (refine pl_store rfl 25 _ _ rfl _ _ HST5.out rfl rfl ?_))
        refine bodyPost_ret (results_row rfl _ _ w.heap.size bx rfl HLD5.out) rfl ?_
        exact ⟨rfl, HB5.out⟩
  · have hbo : blockOf key = key ++ List.replicate (64 - key.length) 0 := by unfold blockOf; rw [if_neg h64]
    have HBO := Aside0.mk hbo
    have HL : Aside0 (LOOPB w ((w.alloc (.cells z6 25)).alloc (.cells z6 25)) A c key) := ⟨by omega, hc, Kd.C_below HX.out hb0, fun h0 a ha => by have := C_lt HX.out h0 a ha; omega, AR0, AR1, hb0⟩
    clear hb hbo hb0 AR0 AR1
    go_enter Try.func13, Try.ntmps13
    go_wp2_with fail
    obtain ⟨V, hV⟩ : ∃ V, (w.alloc (.cells z6 25)).alloc (.cells z6 25) = V := ⟨_, rfl⟩
    rw [hV] at HL ⊢
    obtain ⟨K, hK, HBO⟩ : ∃ K, K = key ∧ Aside0 (blockOf key = K ++ List.replicate (64 - K.length) 0) := ⟨_, rfl, HBO⟩
    obtain ⟨AK, hAK⟩ : ∃ a, A = a := ⟨_, rfl⟩
    obtain ⟨cK, hcK⟩ : ∃ a, c = a := ⟨_, rfl⟩
    rw [hAK, hcK] at HL ⊢
    rw [← hK] at HL ⊢
    clear hV hAK hz hzz hcK hK
    go_loopg [5] 64 (fun gk s5 W' => ∃ k : Nat, k ≤ K.length ∧ K.length - k ≤ gk ∧ s5 = .int .i64 k ∧ Arr .u8 (w.heap.size + 1) 25 W' (K.take k ++ List.replicate (64 - k) 0) ∧ But V.heap.size (fun j => j = w.heap.size + 1) V W')
    case atStart => exact ⟨0, by omega, by have := HL.out.1; omega, rfl, HL.out.2.2.2.2.2.1, But.refl _ _ _⟩
    case round =>
      obtain ⟨k, hk, hgk, rfl, hA, hB⟩ := hrel
      have HA := Aside0.mk hA
      have HB := Aside0.mk hB
      clear hA hB
      by_cases hlt : k < K.length
      · have hlI : (k : Int) < (K.length : Int) := by omega
        have hk64 : k < 64 := by have := HL.out.1; omega
        have hk64I : (k : Int) < 64 := by omega
        have hCK : Kd.C KB wr AK K.length K := C_kept (Kept.but HB.out (Nat.le_refl _)) HL.out.2.2.1 (fun p hp => HL.out.2.2.2.1 (by omega) p hp)
        obtain ⟨ab, ao, rfl, g0⟩ := C_byte hCK k hlt
        have hlen : (K.take k ++ List.replicate (64 - k) 0).length = 64 := by rw [List.length_append, List.length_take, List.length_replicate]; omega
        have hcl := HA.out.cell k (by rw [hlen]; exact hk64)
        obtain ⟨g1, g2⟩ := hcl
        obtain ⟨y, hy⟩ : ∃ y, (K.take k ++ List.replicate (64 - k) 0).getD k 0 = y := ⟨_, rfl⟩
        obtain ⟨x, hx⟩ : ∃ x, K.getD k 0 = x := ⟨_, rfl⟩
        rw [hy] at g1
        rw [hx] at g0
        have HXX := Aside0.mk hx
        have HK := Aside0.mk hlt
        have HK64 := Aside0.mk hk64
        clear hCK hlen hy hx hlt hk64
        go_wp2_with fail
        go_roundg (gk - 1)
        case measure => have := HK.out; omega
        case rel =>
          have hk := HK.out
          refine ⟨k + 1, by omega, by omega, ?_, ?_, ?_⟩
          · congr 1
          · have h := HA.out.put k x
            rw [← HXX.out, set_take K 64 k hk HL.out.1, HXX.out] at h
            exact h
          · exact HB.out.setCell (.inr rfl) _
      · obtain rfl : k = K.length := by omega
        have hlI : ¬ ((K.length : Int) < (K.length : Int)) := by omega
        have hA2 : Arr .u8 (w.heap.size + 1) 25 wr (blockOf key) := by
          rw [HBO.out]
          have h := HA.out
          rw [List.take_length] at h
          exact h
        have hA0 : Arr .u8 w.heap.size 25 wr (List.replicate 64 0) := HL.out.2.2.2.2.1.same (HB.out.block _ HL.out.2.2.2.2.1.lt (by show ¬ w.heap.size = w.heap.size + 1; omega))
        obtain ⟨W5, hst5, ha5, hb5⟩ := store64 hA0 (by simp) (blockOf_len key) HBX.out
        have HLD := Aside0.mk (load64 hA2 (blockOf_len key) HBX.out)
        have HST5 := Aside0.mk hst5
        have HLD5 := Aside0.mk (load64 ha5 (blockOf_len key) HBX.out)
        have B5 := HL.out.2.2.2.2.2.2.trans ((HB.out.below HL.out.2.2.2.2.2.2.size (fun j hj e => by have : j = w.heap.size + 1 := e; omega)).trans (hb5.below (Nat.le_trans HL.out.2.2.2.2.2.2.size HB.out.size) (fun j hj e => by have : j = w.heap.size := e; omega)))
        have HB5 := Aside0.mk B5
        clear hA2 hA0 hst5 ha5 hb5 B5
        go_wp2_with (first | (refine pl_load rfl 25 _ rfl _ _ HLD.out rfl ?_) | (refine pl_store rfl 25 _ _ rfl _ _ HST5.out rfl rfl ?_))
        refine bodyPost_ret (results_row rfl _ _ w.heap.size bx rfl HLD5.out) rfl ?_
        exact ⟨rfl, HB5.out⟩
end Go.Proofs.Ytfeohojpjncgaaa.Sha

set_option linter.unusedSimpArgs false
set_option linter.unusedVariables false
namespace Go.Proofs.Ytfeohojpjncgaaa.Sha
open Go.RowKit Go.Proofs.YtfeohojpjncgaaaW.PrintWords Go.Proofs.YtfeohojpjncgaaaW.PrintLast Go.Proofs.YtfeohojpjncgaaaW.PrintMore Go.Proofs.Ytfeohojpjncgaaa.PSha1Plays Go.Proofs.Ytfeohojpjncgaaa.Lex Go.Proofs.Ytfeohojpjncgaaa.Lib
/-- a byte of the block, xored -/
theorem eachC (i : Nat) (hi : i < 64) (p q1 q2 : Nat) (x y : Int) (w : World) (h1 : w.cell? ⟨q1, 0, none⟩ = some (ptr p)) (h2 : w.cell? ⟨q2, 0, none⟩ = some (.int .u8 x)) (h3 : w.cell? ⟨p, 1 + i, none⟩ = some (.int .u8 y)) :
    Calls Try.prog 40 #[.int .i64 i, ptr q1, ptr q2] w fun e w' => e = .returned (.int .u8 (Go.bits .xor .u8 y x)) ∧ Below w.heap.size w w' := by
  have hiI : (i : Int) < 64 := by omega
  go_enter Try.func40, Try.ntmps40
  go_wp2_with fail
  refine region [(1, .p), (0, .t), (2, .p), (3, .p), (4, .p), (5, .t), (6, .t), (7, .p), (8, .p)] (fun W => W.cell? ⟨q1, 0, none⟩ = some (ptr p) ∧ W.cell? ⟨q2, 0, none⟩ = some (.int .u8 x) ∧ W.cell? ⟨p, 1 + i, none⟩ = some (.int .u8 y)) (by kernel_rfl) (by kernel_rfl) (fun _ _ _ _ _ h => h) (⟨h1, h2, h3⟩) (fun hHeld => ?_)
  (refine lex_p rfl rfl rfl (by intro w'; go_simp; with_reducible rfl) (by simp only [Act.put, List.setIfInBounds_toArray, List.set_cons_zero, List.set_cons_succ, i64_w, i32_w]; rfl) ?_)
  (refine lex_t rfl rfl rfl (by rintro w' ⟨s1, s2, s3⟩; go_simp; with_reducible rfl) (by simp only [Act.put, List.setIfInBounds_toArray, List.set_cons_zero, List.set_cons_succ, i64_w, i32_w]; rfl) ?_)
  iterate 3 (refine lex_p rfl rfl rfl (by intro w'; go_simp; with_reducible rfl) (by simp only [Act.put, List.setIfInBounds_toArray, List.set_cons_zero, List.set_cons_succ, i64_w, i32_w]; rfl) ?_)
  iterate 2 (refine lex_t rfl rfl rfl (by rintro w' ⟨s1, s2, s3⟩; go_simp; with_reducible rfl) (by simp only [Act.put, List.setIfInBounds_toArray, List.set_cons_zero, List.set_cons_succ, i64_w, i32_w]; rfl) ?_)
  iterate 2 (refine lex_p rfl rfl rfl (by intro w'; go_simp; with_reducible rfl) (by simp only [Act.put, List.setIfInBounds_toArray, List.set_cons_zero, List.set_cons_succ, i64_w, i32_w]; rfl) ?_)
  refine lex_nil ?_
  go_wp2_with fail
  go_ret
  exact ⟨rfl, below_drew (Below.refl _ _)⟩
theorem xorB_take (x : Int) (bs : List Int) (k : Nat) (hk : k < bs.length) : (xorB x bs).getD k 0 = Go.bits .xor .u8 (bs.getD k 0) x := by
  unfold xorB
  rw [List.getD_eq_getElem?_getD, List.getElem?_map, List.getD_eq_getElem?_getD, List.getElem?_eq_getElem hk]
  rfl
set_option maxRecDepth 100000 in
set_option maxHeartbeats 2000000 in
theorem withC (p : Nat) (bs : List Int) (hbs : bs.length = 64) (x : Int) (w : World) (hM : ∀ i, i < 64 → w.cell? ⟨p, 1 + i, none⟩ = some (.int .u8 (bs.getD i 0))) (hp : p < w.heap.size) :
    Calls Try.prog 26 #[ptr p, .int .u8 x] w fun e w' => ∃ q, e = .returned (.slice (some ⟨q, 0, none⟩) 64 64) ∧ w.heap.size ≤ q ∧ Arr .u8 q 5 w' (xorB x bs) ∧ Below w.heap.size w w' := by
  obtain ⟨zz, hzz, hmk⟩ : ∃ zz : Array Value, zz = ((List.replicate 64 (0 : Int)).map (.int .u8)).toArray ∧ ∀ w, (Instr.makeSlice 22 (.int .i64 64) (.int .i64 64)).run Try.prog w = .ok (.slice (some ⟨w.heap.size, 0, none⟩) 64 64) (w.alloc (.cells zz 5)) := ⟨_, rfl, fun w => by have h := make_bytes 64 (by decide) w; rw [zs_nums] at h; exact h⟩
  have HZZ := Aside0.mk hzz
  have HM := Aside0.mk hM
  have HP := Aside0.mk hp
  have HBS := Aside0.mk hbs
  clear hM hp hbs hzz
  go_enter Try.func26, Try.ntmps26
  go_wp2_with fail
  have hs2 : ((w.alloc (.cells #[ptr p] 34)).alloc (.cells #[.int .u8 x] 5)).heap.size = w.heap.size + 2 := by simp
  have O1 := ((Ob.new w [ptr p] #[ptr p] rfl 34).below (below_alloc (Below.refl _ _) (.cells #[.int .u8 x] 5)) (by simp)).below (below_alloc (Below.refl _ _) (.cells zz 5)) (by simp; omega)
  have O2 := (Ob.new (w.alloc (.cells #[ptr p] 34)) [.int .u8 x] #[.int .u8 x] rfl 5).below (below_alloc (Below.refl _ _) (.cells zz 5)) (by simp)
  have hA := Arr.newAt (k := .u8) ((w.alloc (.cells #[ptr p] 34)).alloc (.cells #[.int .u8 x] 5)) (w.heap.size + 2) 5 hs2 (List.replicate 64 0) zz HZZ.out
  have hb := below_alloc (below_alloc (below_alloc (Below.refl w.heap.size w) (.cells #[ptr p] 34)) (.cells #[.int .u8 x] 5)) (.cells zz 5)
  have hsV : (((w.alloc (.cells #[ptr p] 34)).alloc (.cells #[.int .u8 x] 5)).alloc (.cells zz 5)).heap.size = w.heap.size + 3 := by simp
  rw [World.size_alloc] at O2
  obtain ⟨V, hV⟩ : ∃ V, ((w.alloc (.cells #[ptr p] 34)).alloc (.cells #[.int .u8 x] 5)).alloc (.cells zz 5) = V := ⟨_, rfl⟩
  rw [hV] at O1 O2 hA hb hsV ⊢
  have O1 := Aside0.mk O1
  have O2 := Aside0.mk O2
  have HA0 := Aside0.mk hA
  have HB0 := Aside0.mk hb
  have HSV := Aside0.mk hsV
  clear hs2 hA hb hsV hV hmk
  go_loopg [7, 12] 64 (fun gk s7 s12 W' => ∃ k : Nat, k ≤ 64 ∧ 64 - k ≤ gk ∧ s12 = .int .i64 k ∧ Arr .u8 (w.heap.size + 2) 5 W' ((xorB x bs).take k ++ List.replicate (64 - k) 0) ∧ But V.heap.size (fun j => j = w.heap.size + 2) V W')
  case atStart => exact ⟨0, by omega, by omega, rfl, HA0.out, But.refl _ _ _⟩
  case round =>
    obtain ⟨k, hk, hgk, rfl, hA, hB⟩ := hrel
    have HA := Aside0.mk hA
    have HB := Aside0.mk hB
    clear hA hB
    by_cases hlt : k < 64
    · have hlI : (k : Int) < 64 := by omega
      have hsame : ∀ {j : Nat} {v : Value} (hj : j < w.heap.size + 2) {o : Nat}, V.cell? ⟨j, o, none⟩ = some v → wr.cell? ⟨j, o, none⟩ = some v := fun {j v} hj {o} h => (Kept.but HB.out (Nat.le_refl _)).cell h (by show ¬ j = w.heap.size + 2; omega)
      have e1 := hsame (by omega) (O1.out 0 _ rfl).1
      have e2 := hsame (by omega) (O2.out 0 _ rfl).1
      have e3 : wr.cell? ⟨p, 1 + k, none⟩ = some (.int .u8 (bs.getD k 0)) := hsame (by have := HP.out; omega) (pw_cell_below HB0.out (HM.out k hlt))
      have HE := Aside0.mk (eachC k hlt p _ _ x _ wr e1 e2 e3)
      have HK := Aside0.mk hlt
      clear hsame e1 e2 e3
      go_wp2_with fail
      refine (HE.out).mono ?_
      rintro e w1 ⟨rfl, hb1⟩
      have hA1 := HA.out.later hb1
      have HX := Aside0.mk (xorB_take x bs k (by rw [HBS.out]; exact HK.out))
      rw [← HX.out]
      have hxl : (xorB x bs).length = 64 := by rw [xorB_len]; exact HBS.out
      have hlen : ((xorB x bs).take k ++ List.replicate (64 - k) 0).length = 64 := by rw [List.length_append, List.length_take, List.length_replicate]; omega
      obtain ⟨g1, g2⟩ := hA1.cell k (by rw [hlen]; exact HK.out)
      obtain ⟨y, hy⟩ : ∃ y, ((xorB x bs).take k ++ List.replicate (64 - k) 0).getD k 0 = y := ⟨_, rfl⟩
      rw [hy] at g1
      obtain ⟨u, hu⟩ : ∃ y, (xorB x bs).getD k 0 = y := ⟨_, rfl⟩
      rw [hu]
      have HU := Aside0.mk hu
      have HA1 := Aside0.mk hA1
      have HXL := Aside0.mk hxl
      have HB1 := Aside0.mk (HB.out.trans ((But.of hb1 (Nat.le_refl _)).mono HB.out.size (fun _ _ e => e)))
      clear hA1 hxl hlen hy hu hb1 HX HE
      go_wp2_with fail
      go_roundg (gk - 1)
      case measure => have := HK.out; omega
      case rel =>
        have hk := HK.out
        refine ⟨k + 1, by omega, by omega, ?_, ?_, ?_⟩
        · congr 1
        · have h := HA1.out.put k u
          rw [← HU.out, set_take (xorB x bs) 64 k (by rw [HXL.out]; exact hk) (by rw [HXL.out]; exact Nat.le_refl _), HU.out] at h
          exact h
        · exact HB1.out.setCell (.inr rfl) _
    · obtain rfl : k = 64 := by omega
      go_wp2_with fail
      go_ret
      have hxl : (xorB x bs).length = 64 := by rw [xorB_len]; exact HBS.out
      refine ⟨w.heap.size + 2, rfl, by omega, ?_, HB0.out.trans (HB.out.below HB0.out.size (fun j hj e => by have : j = w.heap.size + 2 := e; omega))⟩
      have h := HA.out
      rw [Nat.sub_self, List.replicate_zero, List.append_nil, List.take_of_length_le (by omega)] at h
      exact h
end Go.Proofs.Ytfeohojpjncgaaa.Sha

set_option linter.unusedSimpArgs false
set_option linter.unusedVariables false
namespace Go.Proofs.Ytfeohojpjncgaaa.Sha
open Go.RowKit Go.Proofs.YtfeohojpjncgaaaW.PrintWords Go.Proofs.YtfeohojpjncgaaaW.PrintLast Go.Proofs.YtfeohojpjncgaaaW.PrintMore Go.Proofs.Ytfeohojpjncgaaa.PSha1Plays Go.Proofs.Ytfeohojpjncgaaa.Lex Go.Proofs.Ytfeohojpjncgaaa.Lib
theorem row20 {V : World} {p : Nat} {ds : List Int} {t : TypeId} (h : Arr .u8 p t V ds) (hd : ds.length = 20) : Kd.C KB V (some ⟨p, 0, none⟩) 20 ds := by
  have h := h.seg (by rw [hd]; decide) 0 20 (by omega) (by omega)
  rw [List.drop_zero, Nat.sub_zero, List.take_of_length_le (by omega)] at h
  exact h
theorem new20At {ys : List Int} (hy : ys.length = 20) {bx zs : Array Value} (hb : bx = (ys.map (Value.int .u8)).toArray) (hz : zs.size = 20) (W : World) (g : Nat) (hg : W.heap.size = g) : (storeVar 41 ⟨g, 0, none⟩ (.agg bx)).run Try.prog (W.alloc (.cells zs 41)) = .ok () (W.alloc (.cells bx 41)) := by
  subst hg
  exact new20 hy hb hz W
set_option maxRecDepth 100000 in
set_option maxHeartbeats 2000000 in
theorem ofT (A : Option Addr) (n c : Nat) (ahead ds : List Int) (dx : Array Value) (hdx : dx = (ds.map (Value.int .u8)).toArray) (w : World) (hx : Kd.C KB w A ahead.length ahead) (hn : n = ahead.length) (hc : n ≤ c) (hb : Byt ahead) (hbd : Byt ds) (hd : ds.length = 20) (hl : ahead.length ≤ 1000000) :
    Calls Try.prog 28 #[.slice A n c, .agg dx] w fun e w' => e = .returned (.agg ((sumOf (ahead ++ ds)).map (Value.int .u8)).toArray) ∧ Below w.heap.size w w' := by
  obtain ⟨z2, hz2, HZ2, hz⟩ := z20_ex
  have HDX := Aside0.mk hdx
  have HX := Aside0.mk hx
  have HN := Aside0.mk hn
  have HC := Aside0.mk hc
  have HD := Aside0.mk hd
  have hOf : ∀ (A : Option Addr) (W : World), Kd.C KBB W A 2 [ahead, ds] → Calls Try.prog 32 #[.slice A 2 2] W fun e w' => e = .returned (.agg ((sumOf (ahead ++ ds)).map (Value.int .u8)).toArray) ∧ Below W.heap.size W w' := fun A W h => by
    have h2 := ofC A 2 [ahead, ds] W h (fun z hz => by rcases List.mem_cons.1 hz with e | e; exact e ▸ hb; rw [List.mem_singleton.1 e]; exact hbd) (by simp [flat, hd]; omega) (by simp)
    have e : flat [ahead, ds] = ahead ++ ds := by simp [flat]
    rw [e] at h2
    exact h2
  obtain ⟨bx, hbx⟩ : ∃ bx, ((sumOf (ahead ++ ds)).map (Value.int .u8)).toArray = bx := ⟨_, rfl⟩
  rw [hbx] at hOf ⊢
  have HBX := Aside0.mk hbx.symm
  have HOF := Aside0.mk hOf
  have hdz : dx.size = 20 := by rw [hdx]; simpa using hd
  have HDZ := Aside0.mk hdz
  have hst := Aside0.mk (new20At hd HDX.out hz2 ((w.alloc (.cells dx 41)).alloc (.cells z2 41)) (w.heap.size + 1 + 1) (by simp))
  have HLD := Aside0.mk (load20 ((Arr.new w 41 ds dx (k := .u8) HDX.out).later (below_alloc (Below.refl _ _) (.cells z2 41))) hd HDX.out)
  have HA1 := Aside0.mk (Arr.newAt (w.alloc (.cells dx 41)) (w.heap.size + 1) 41 (by simp) (List.replicate 20 0) z2 (k := .u8) HZ2.out)
  clear hx hn hc hb hbd hd hl hOf hbx hdx
  go_enter Try.func28, Try.ntmps28
  go_wp2_with (first | (refine pl_load rfl 41 _ rfl _ _ HLD.out rfl ?_) | (refine pl_store rfl 41 _ _ rfl _ _ hst.out rfl rfl ?_))
  have b1 := below_alloc (below_alloc (below_alloc (Below.refl w.heap.size w) (.cells dx 41)) (.cells z2 41)) (.cells dx 41)
  have hA2 := Arr.newAt ((w.alloc (.cells dx 41)).alloc (.cells z2 41)) (w.heap.size + 1 + 1) 41 (by simp) ds dx (k := .u8) HDX.out
  have hA1 := HA1.out.later (below_alloc (Below.refl _ _) (.cells dx 41))
  have s1 : (((w.alloc (.cells dx 41)).alloc (.cells z2 41)).alloc (.cells dx 41)).heap.size = w.heap.size + 1 + 1 + 1 := by simp
  obtain ⟨V, hV⟩ : ∃ V, ((w.alloc (.cells dx 41)).alloc (.cells z2 41)).alloc (.cells dx 41) = V := ⟨_, rfl⟩
  rw [hV] at b1 hA2 hA1 s1 ⊢
  have hCC : Kd.C KBB (V.alloc (.cells #[.slice A n c, .slice (some ⟨w.heap.size + 1 + 1, 0, none⟩) 20 20] 22)) (some ⟨w.heap.size + 1 + 1 + 1, 0, none⟩) 2 [ahead, ds] := by
    refine CBB_alloc (W := V) (g := w.heap.size + 1 + 1 + 1) (cs := [.slice A n c, .slice (some ⟨w.heap.size + 1 + 1, 0, none⟩) 20 20]) (t := 22) s1.symm [ahead, ds] rfl (by simp) ?_
    intro j zs hj
    match j, hj with
    | 0, hj =>
      injection hj with hj
      subst hj
      exact ⟨A, c, by rw [HN.out]; rfl, by have := HN.out; have := HC.out; omega, Kd.C_below HX.out (below_alloc b1 _)⟩
    | 1, hj =>
      injection hj with hj
      subst hj
      refine ⟨some ⟨w.heap.size + 1 + 1, 0, none⟩, 20, by rw [HD.out]; rfl, by rw [HD.out]; exact Nat.le_refl _, ?_⟩
      have h := row20 (hA2.later (below_alloc (Below.refl V.heap.size V) (.cells #[.slice A n c, .slice (some ⟨w.heap.size + 1 + 1, 0, none⟩) 20 20] 22))) HD.out
      rw [HD.out]
      exact h
  refine (HOF.out _ _ hCC).mono ?_
  rintro e w5 ⟨rfl, hb5⟩
  have bA := below_alloc b1 (.cells #[.slice A n c, .slice (some ⟨w.heap.size + 1 + 1, 0, none⟩) 20 20] 22)
  have b5 := bA.trans (hb5.mono bA.size)
  have hA5 := (hA1.later (below_alloc (Below.refl V.heap.size V) (.cells #[.slice A n c, .slice (some ⟨w.heap.size + 1 + 1, 0, none⟩) 20 20] 22))).later hb5
  obtain ⟨W6, hst6, ha6, hb6⟩ := store20 hA5 (by simp) (sumOf_len _) HBX.out
  have HST6 := Aside0.mk hst6
  have HLD6 := Aside0.mk (load20 ha6 (sumOf_len _) HBX.out)
  have HB6 := Aside0.mk (b5.trans (hb6.below b5.size (fun j hj e => by have : j = w.heap.size + 1 := e; omega)))
  clear b1 hA2 hA1 s1 hV hCC hb5 bA b5 hA5 hst6 ha6 hb6 hz
  go_wp2_with (refine pl_store rfl 41 _ _ rfl _ _ HST6.out rfl rfl ?_)
  refine bodyPost_ret (results_row rfl _ _ (w.heap.size + 1) bx rfl HLD6.out) rfl ?_
  exact ⟨rfl, HB6.out⟩
/-- A tag under way, at a block: its hash lies at another. -/
def MO (p h : Nat) (w : World) (bs : List Int) : Prop := Ob p w (ptr h :: bs.map (Value.int .u8))
theorem MO.lt {p h : Nat} {w : World} {bs : List Int} (h1 : MO p h w bs) : p < w.heap.size := Ob.lt h1
theorem MO.same {p h : Nat} {w w' : World} {bs : List Int} (h1 : MO p h w bs) (hb : w'.heap[p]? = w.heap[p]?) : MO p h w' bs := Ob.same h1 hb
theorem MO.below {p h n : Nat} {w w' : World} {bs : List Int} (h1 : MO p h w bs) (hb : Below n w w') (hp : p < n) : MO p h w' bs := Ob.below h1 hb hp
theorem MO.ptr {p h : Nat} {w : World} {bs : List Int} (h1 : MO p h w bs) : w.cell? ⟨p, 0, none⟩ = some (ptr h) := (h1 0 _ rfl).1
theorem MO.row {p h : Nat} {w : World} {bs : List Int} (h1 : MO p h w bs) (i : Nat) (hi : i < bs.length) : w.cell? ⟨p, 1 + i, none⟩ = some (.int .u8 (bs.getD i 0)) := by
  have h2 := (h1 (1 + i) (.int .u8 (bs.getD i 0)) (by rw [Nat.add_comm, List.getElem?_cons_succ, List.getElem?_map, List.getD_eq_getElem?_getD, List.getElem?_eq_getElem hi]; rfl)).1
  exact h2
theorem mNone {p h : Nat} {w : World} (c0 : w.cell? ⟨p, 0, none⟩ = some (ptr h)) : Calls Try.prog 27 #[ptr p] w fun e w' => e = .returned (.bool false) ∧ w = w' := by
  go_enter Try.func27, Try.ntmps27
  go_wp2
  go_ret
  exact ⟨rfl, rfl⟩
theorem mNone_nil (w : World) : Calls Try.prog 27 #[.pointer none] w fun e w' => e = .returned (.bool true) ∧ w = w' := by
  go_enter Try.func27, Try.ntmps27
  go_wp2
  go_ret
  exact ⟨rfl, rfl⟩
/-- the bytes of the inner sum under way -/
def inn (key D : List Int) : List Int := xorB 54 (blockOf key) ++ D
theorem inn_byt (key : List Int) {D : List Int} (h : Byt D) : Byt (inn key D) := (xorB_byt _ _).append h
theorem inn_len (key D : List Int) : (inn key D).length = 64 + D.length := by unfold inn; rw [List.length_append, xorB_len, blockOf_len]
theorem inn_on (key D ys : List Int) : inn key D ++ ys = inn key (D ++ ys) := by unfold inn; rw [List.append_assoc]
/-- a tag under way of a key and bytes -/
def MD (S : Nat → Prop) (p h : Nat) (w : World) (key D : List Int) : Prop := MO p h w (blockOf key) ∧ HD S h w (inn key D) ∧ p ≠ h
theorem mWrite {S : Nat → Prop} {p h : Nat} {key D : List Int} (A : Option Addr) (n c : Nat) (ys : List Int) (w : World) (hM : MD S p h w key D) (hx : Kd.C KB w A ys.length ys) (hn : n = ys.length) (hc : ys.length ≤ c) (hD : Byt D) (hb : Byt ys) (hl : ys.length ≤ 3000000) (hL : D.length ≤ 10000000) :
    Calls Try.prog 15 #[ptr p, .slice A n c] w fun e w' => e = .returned (.int .i64 0) ∧ MD (SB w.heap.size w'.heap.size) p h w' key (D ++ ys) ∧ But w.heap.size (at1 h) w w' := by
  subst hn
  have c0 := hM.1.ptr
  have HM := Aside0.mk hM
  have HW := Aside0.mk (dWrite A c ys w hM.2.1 hx hc (inn_byt key hD) hb hl (by rw [inn_len]; omega))
  clear hM hx hc hD hb hl hL
  go_enter Try.func15, Try.ntmps15
  go_wp2_with fail
  refine (mNone c0).mono ?_
  rintro e _ ⟨rfl, rfl⟩
  go_wp2_with fail
  refine (HW.out).mono ?_
  rintro e w1 ⟨rfl, h1, hb1⟩
  have H1 := Aside0.mk h1
  have HB1 := Aside0.mk hb1
  clear h1 hb1
  go_wp2_with fail
  go_ret
  exact ⟨rfl, ⟨HM.out.1.same (HB1.out.block p HM.out.1.lt HM.out.2.2), by rw [← inn_on]; exact H1.out, HM.out.2.2⟩, HB1.out⟩
theorem mWrite_nil (A : Option Addr) (n c : Nat) (w : World) : Calls Try.prog 15 #[.pointer none, .slice A n c] w fun e w' => e = .returned (.int .i64 1) ∧ Below w.heap.size w w' := by
  go_enter Try.func15, Try.ntmps15
  go_wp2_with fail
  refine (mNone_nil w).mono ?_
  rintro e _ ⟨rfl, rfl⟩
  go_wp2_with fail
  go_ret
  exact ⟨rfl, Below.refl _ _⟩
theorem mTag {S : Nat → Prop} {p h : Nat} {key D : List Int} (w : World) (hM : MD S p h w key D) (hS : ∀ k, S k → k < w.heap.size) (hk : Byt key) (hD : Byt D) (hL : D.length ≤ 10000000) :
    Calls Try.prog 16 #[ptr p] w fun e w' => e = .returned (.tuple #[.agg ((tagOf key D).map (Value.int .u8)).toArray, .int .i64 0]) ∧ Below w.heap.size w w' := by
  obtain ⟨z2, hz2, HZ2, hz⟩ := z20_ex
  have HM := Aside0.mk hM
  have HS := Aside0.mk hS
  have HDB := Aside0.mk (inn_byt key hD)
  have HDL := Aside0.mk (show (inn key D).length ≤ 100000000 by rw [inn_len]; omega)
  obtain ⟨dx, hdx⟩ : ∃ dx, ((sumOf (inn key D)).map (Value.int .u8)).toArray = dx := ⟨_, rfl⟩
  have HDX := Aside0.mk hdx
  have hdz : dx.size = 20 := by rw [← hdx]; simpa using sumOf_len _
  obtain ⟨bx, hbx⟩ : ∃ bx, ((tagOf key D).map (Value.int .u8)).toArray = bx := ⟨_, rfl⟩
  rw [hbx]
  have HBX := Aside0.mk hbx.symm
  have HAR := Aside0.mk (Arr.new w 41 (List.replicate 20 0) z2 (k := .u8) HZ2.out)
  have HB1 := Aside0.mk (below_alloc (Below.refl w.heap.size w) (.cells z2 41))
  have c0 := (hM.1.below HB1.out hM.1.lt).ptr
  have HBK := Aside0.mk (blockOf_byt hk)
  clear hM hS hD hL hdx hbx hk
  go_enter Try.func16, Try.ntmps16
  go_wp2_with fail
  refine (mNone c0).mono ?_
  rintro e _ ⟨rfl, rfl⟩
  go_wp2_with fail
  obtain ⟨w1, hw1⟩ : ∃ w1, w.alloc (.cells z2 41) = w1 := ⟨_, rfl⟩
  rw [hw1] at c0 HAR HB1 ⊢
  have HH1 := Aside0.mk (HM.out.1.below HB1.out HM.out.1.lt)
  have HH2 := Aside0.mk (HM.out.2.1.below HB1.out HS.out HM.out.2.1.lt)
  have hs1 : w1.heap.size = w.heap.size + 1 := by rw [← hw1]; simp
  clear hw1 hz
  refine region [(0, .p), (2, .p), (3, .p), (4, .p), (5, .p), (6, .t), (1, .o), (7, .o), (8, .o), (9, .q), (10, .p)] (fun W => W.cell? ⟨p, 0, none⟩ = some (ptr h)) (by kernel_rfl) (by kernel_rfl) (fun _ _ _ _ _ h => h) (c0) (fun hHeld => ?_)
  iterate 5 (refine lex_p rfl rfl rfl (by intro w'; go_simp; with_reducible rfl) (by simp only [Act.put, List.setIfInBounds_toArray, List.set_cons_zero, List.set_cons_succ, i64_w, i32_w]; rfl) ?_)
  (refine lex_t rfl rfl rfl (by rintro w' s1; go_simp; with_reducible rfl) (by simp only [Act.put, List.setIfInBounds_toArray, List.set_cons_zero, List.set_cons_succ, i64_w, i32_w]; rfl) ?_)
  refine lex_o rfl ?_
  go_wp2_with fail
  refine (withC p (blockOf key) (blockOf_len key) 92 w1.drew (fun i hi => ?_) HH1.out.lt).mono ?_
  · exact (HH1.out.below (below_drew (Below.refl w1.heap.size w1)) HH1.out.lt).row i (by rw [blockOf_len]; exact hi)
  rintro e w2 ⟨q, rfl, hq, hA2, hb2⟩
  have HQ := Aside0.mk hA2
  have HB2 := Aside0.mk ((below_drew (Below.refl w1.heap.size w1)).trans hb2)
  clear hA2 hb2 hq
  go_wp2_with fail
  refine lex_end (by first | (simp only [Act.put, List.setIfInBounds_toArray, List.set_cons_zero, List.set_cons_succ, i64_w, i32_w]; rfl) | rfl) (pw_cell_below HB2.out c0) (fun hHeld => ?_)
  refine lex_o rfl ?_
  go_wp2_with fail
  refine (hSum (HH2.out.below HB2.out (fun k hk => by have := HS.out k hk; omega) HH2.out.lt) HDB.out (fun k hk => by have := HS.out k hk; have := HB2.out.size; omega) HDL.out).mono ?_
  rintro e w3 ⟨rfl, hb3⟩
  rw [HDX.out]
  have HB3 := Aside0.mk hb3
  clear hb3
  go_wp2_with fail
  refine lex_end (by first | (simp only [Act.put, List.setIfInBounds_toArray, List.set_cons_zero, List.set_cons_succ, i64_w, i32_w]; rfl) | rfl) (pw_cell_below HB3.out (pw_cell_below HB2.out c0)) (fun hHeld => ?_)
  refine lex_o rfl ?_
  go_wp2_with fail
  have hq3 := HQ.out.later HB3.out
  have hC3 : Kd.C KB w3 (some ⟨q, 0, none⟩) (xorB 92 (blockOf key)).length (xorB 92 (blockOf key)) := by
    have h := hq3.seg (by rw [xorB_len, blockOf_len]; decide) 0 _ (Nat.zero_le _) (Nat.le_refl _)
    rw [List.drop_zero, Nat.sub_zero, List.take_length] at h
    exact h
  refine (ofT _ 64 64 _ (sumOf (inn key D)) dx HDX.out.symm w3 hC3 (by rw [xorB_len, blockOf_len]) (Nat.le_refl _) (xorB_byt _ _) (sumOf_byt _) (sumOf_len _) (by rw [xorB_len, blockOf_len]; decide)).mono ?_
  rintro e w4 ⟨rfl, hb4⟩
  rw [show sumOf (xorB 92 (blockOf key) ++ sumOf (inn key D)) = tagOf key D from rfl, ← HBX.out]
  have HB4 := Aside0.mk hb4
  clear hb4 hq3 hC3
  go_wp2_with fail
  refine lex_end (by first | (simp only [Act.put, List.setIfInBounds_toArray, List.set_cons_zero, List.set_cons_succ, i64_w, i32_w]; rfl) | rfl) (pw_cell_below HB4.out (pw_cell_below HB3.out (pw_cell_below HB2.out c0))) (fun hHeld => ?_)
  refine lex_q rfl ?_
  obtain ⟨W6, hst6, ha6, hb6⟩ := store20 (((HAR.out.later HB2.out).later HB3.out).later HB4.out) (by simp) (sumOf_len _) HBX.out
  have HST6 := Aside0.mk hst6
  have HLD6 := Aside0.mk (load20 ha6 (sumOf_len _) HBX.out)
  have b4 := HB1.out.trans ((HB2.out.trans ((HB3.out.trans (HB4.out.mono HB3.out.size)).mono HB2.out.size)).mono HB1.out.size)
  have HB6 := Aside0.mk (b4.trans (hb6.below b4.size (fun j hj e => by have : j = w.heap.size := e; omega)))
  clear hst6 ha6 hb6 b4
  go_wp2_with (refine pl_store rfl 41 _ _ rfl _ _ HST6.out rfl rfl ?_)
  refine lex_endq (by first | (simp only [Act.put, List.setIfInBounds_toArray, List.set_cons_zero, List.set_cons_succ, i64_w, i32_w]; rfl) | rfl) ?_
  (refine lex_p rfl rfl rfl (by intro w'; go_simp; with_reducible rfl) (by simp only [Act.put, List.setIfInBounds_toArray, List.set_cons_zero, List.set_cons_succ, i64_w, i32_w]; rfl) ?_)
  refine lex_nil ?_
  go_wp2_with fail
  refine bodyPost_ret (results_row_tmp rfl _ _ w.heap.size bx rfl HLD6.out) rfl ?_
  exact ⟨rfl, HB6.out⟩
end Go.Proofs.Ytfeohojpjncgaaa.Sha

set_option linter.unusedSimpArgs false
set_option linter.unusedVariables false
namespace Go.Proofs.Ytfeohojpjncgaaa.Sha
open Go.RowKit Go.Proofs.YtfeohojpjncgaaaW.PrintWords Go.Proofs.YtfeohojpjncgaaaW.PrintLast Go.Proofs.YtfeohojpjncgaaaW.PrintMore Go.Proofs.Ytfeohojpjncgaaa.PSha1Plays Go.Proofs.Ytfeohojpjncgaaa.Lex Go.Proofs.Ytfeohojpjncgaaa.Lib
section
variable {P : Program} {a : Act}
theorem run_build_two {oi : Oper} {T : TypeId} {i j : Nat} {x y : Operand} {u v : Value} {r : Value} {w' : World} (hop : oi.op = .build T #[(i, x), (j, y)]) (hx : a.eval x = u) (hy : a.eval y = v) (hb : (Instr.build T #[(i, u), (j, v)]).run P w' = .ok r w') : (execOp a.eval oi).run P w' = .ok (.value r) w' := by
  subst hx hy
  simp [execOp, hop, hb, Result.andThen]
end
theorem fill_two (place : Nat → Option (Nat × Nat)) (c0 : Value) (zs : Array Value) (u : Value) (bx : Array Value) (n : Nat) (h0 : place 0 = some (0, 1)) (h1 : place 1 = some (1, n)) (hz : zs.size = n + 1) (hb : bx.size = n) (v0 : Value) (hv : v0.cells = #[u]) :
    Instr.fill place zs [(0, v0), (1, .agg bx)] = some (#[u] ++ bx) := by
  have hbl : bx.toList.length = n := by simpa using hb
  have e1 : Instr.fill place zs [(0, v0), (1, .agg bx)] = some (bx.zipIdx.foldl (fun cs (x : Value × Nat) => cs.setIfInBounds (1 + x.2) x.1) (zs.setIfInBounds 0 u)) := by
    have hs : (zs.setIfInBounds 0 u).size = n + 1 := by simpa using hz
    have c1 : (Value.agg bx).cells = bx := rfl
    have k1 : (#[u] : Array Value).zipIdx.foldl (fun cs (x : Value × Nat) => cs.setIfInBounds (0 + x.2) x.1) zs = zs.setIfInBounds 0 u := by simp [Array.zipIdx]
    simp [Instr.fill, h0, h1, hv, c1, hb, hz, hs]
    omega
  rw [e1]
  congr 1
  have h := (Go.Great.foldl_set 1 bx.toList 0 (zs.setIfInBounds 0 u))
  have e2 : bx.zipIdx.foldl (fun cs (x : Value × Nat) => cs.setIfInBounds (1 + x.2) x.1) (zs.setIfInBounds 0 u) = (bx.toList.zipIdx 0).foldl (fun cs (x : Value × Nat) => cs.setIfInBounds (1 + x.2) x.1) (zs.setIfInBounds 0 u) := by
    rw [← Array.foldl_toList, Array.toList_zipIdx]
  rw [e2]
  apply Array.ext_getElem?
  intro k
  rw [h.2 k]
  match k with
  | 0 =>
    rw [if_neg (by omega), Array.getElem?_append_left (by simp)]
    simp [hz]
  | k + 1 =>
    by_cases hk : k < n
    · rw [if_pos (by simp [hz, hb]; omega)]
      rw [show k + 1 - (1 + 0) = k by omega, Array.getElem?_append_right (by simp)]
      simp
    · rw [if_neg (by simp [hb]; omega), Array.getElem?_eq_none (by simp; omega), Array.getElem?_eq_none (by simp; omega)]
set_option maxRecDepth 100000 in
theorem run_mac (h : Nat) (bx : Array Value) (hb : bx.size = 64) (w : World) : (Instr.build 63 #[(0, .agg #[ptr h]), (1, .agg bx)]).run Try.prog w = .ok (.agg (#[ptr h] ++ bx)) w := by
  refine run_build w _ _ _ ?_
  have e : Try.prog.built 63 [(0, .agg #[ptr h]), (1, .agg bx)] = Instr.fill (fun i => (#[(0, 1), (1, 64)] : Array (Nat × Nat))[i]?) (Value.pointer none :: List.replicate 64 (.int .u8 0)).toArray [(0, .agg #[ptr h]), (1, .agg bx)] := by kernel_rfl
  show Try.prog.built 63 [(0, .agg #[ptr h]), (1, .agg bx)] = _
  rw [e]
  exact fill_two _ (.pointer none) _ (ptr h) bx 64 rfl rfl (by simp) hb _ rfl
set_option maxRecDepth 100000 in
set_option maxHeartbeats 2000000 in
theorem mNew (A : Option Addr) (n c : Nat) (key : List Int) (w : World) (hx : Kd.C KB w A key.length key) (hn : n = key.length) (hc : n ≤ c) (hb : Byt key) (hl : key.length ≤ 1048576) :
    Calls Try.prog 14 #[.slice A n c] w fun e w' => ∃ p h, e = .returned (.tuple #[ptr p, .int .i64 0]) ∧ MD (fun k => w.heap.size ≤ k ∧ k < w'.heap.size ∧ k ≠ p) p h w' key [] ∧ w.heap.size ≤ p ∧ w.heap.size ≤ h ∧ Below w.heap.size w w' := by
  subst hn
  obtain ⟨z6, hz6, HZ6, hz⟩ := z64_ex
  have HB := Aside0.mk (blockC A c key w hx hc hb hl)
  obtain ⟨bx, hbx⟩ : ∃ bx, ((blockOf key).map (Value.int .u8)).toArray = bx := ⟨_, rfl⟩
  rw [hbx] at HB
  have HBX := Aside0.mk hbx.symm
  have hbz : bx.size = 64 := by rw [← hbx]; simpa using blockOf_len key
  have hst := Aside0.mk (new64 (blockOf_len key) HBX.out hz6)
  have HBY := Aside0.mk hb
  clear hx hc hb hl hbx
  go_enter Try.func14, Try.ntmps14
  go_wp2_with fail
  refine (HB.out).mono ?_
  rintro e w1 ⟨rfl, hb1⟩
  have HB1 := Aside0.mk hb1
  clear HB hb1
  go_wp2_with (refine pl_store rfl 25 _ _ rfl _ _ (hst.out _) rfl rfl ?_)
  have HA := Aside0.mk (Arr.new w1 25 (blockOf key) bx (k := .u8) HBX.out)
  have BV := Aside0.mk (below_alloc HB1.out (.cells bx 25))
  have hsV : (w1.alloc (.cells bx 25)).heap.size = w1.heap.size + 1 := by simp
  obtain ⟨V, hV⟩ : ∃ V, w1.alloc (.cells bx 25) = V := ⟨_, rfl⟩
  rw [hV] at HA BV hsV ⊢
  have HLD : Aside0 (∀ W, Below V.heap.size V W → (loadVar 25 ⟨w1.heap.size, 0, none⟩).run Try.prog W = .ok (.agg bx) W) := ⟨fun W hW => load64 (HA.out.later hW) (blockOf_len key) HBX.out⟩
  clear hV hz hst
  have HBM := Aside0.mk (fun h => run_mac h bx hbz)
  refine region [(2, .t), (0, .o), (1, .p), (3, .p), (4, .q), (5, .p)] (fun W => (loadVar 25 ⟨w1.heap.size, 0, none⟩).run Try.prog W = .ok (.agg bx) W) (by kernel_rfl) (by kernel_rfl) (fun _ _ _ _ _ h => h) (HLD.out _ (below_drew (Below.refl _ _))) (fun hHeld => ?_)
  (refine lex_t rfl rfl rfl (by rintro w' s1; exact run_load_arr rfl rfl (by assumption)) (by simp only [Act.put, List.setIfInBounds_toArray, List.set_cons_zero, List.set_cons_succ, i64_w, i32_w]; rfl) ?_)
  refine lex_o rfl ?_
  go_wp2_with fail
  refine (dNew _).mono ?_
  rintro e w2 ⟨h, rfl, h2, hh, hb2⟩
  have H2 := Aside0.mk h2
  have HH := Aside0.mk hh
  have B2 := Aside0.mk ((below_drew (Below.refl V.heap.size V)).trans hb2)
  clear h2 hh hb2
  go_wp2_with fail
  refine lex_end (by first | (simp only [Act.put, List.setIfInBounds_toArray, List.set_cons_zero, List.set_cons_succ, i64_w, i32_w]; rfl) | rfl) (HLD.out _ B2.out) (fun hHeld => ?_)
  (refine lex_p rfl rfl rfl (by intro w'; go_simp; with_reducible rfl) (by simp only [Act.put, List.setIfInBounds_toArray, List.set_cons_zero, List.set_cons_succ, i64_w, i32_w]; rfl) ?_)
  (refine lex_p rfl rfl rfl (by intro w'; exact run_build_two rfl rfl rfl (HBM.out h _)) (by simp only [Act.put, List.setIfInBounds_toArray, List.set_cons_zero, List.set_cons_succ, i64_w, i32_w]; rfl) ?_)
  refine lex_q rfl ?_
  go_wp2_with fail
  refine lex_endq (by first | (simp only [Act.put, List.setIfInBounds_toArray, List.set_cons_zero, List.set_cons_succ, i64_w, i32_w]; rfl) | rfl) ?_
  (refine lex_p rfl rfl rfl (by intro w'; go_simp; with_reducible rfl) (by simp only [Act.put, List.setIfInBounds_toArray, List.set_cons_zero, List.set_cons_succ, i64_w, i32_w]; rfl) ?_)
  refine lex_nil ?_
  have hh : V.heap.size ≤ h := HH.out
  have hMO : MO w2.heap.size h (w2.alloc (.cells (#[ptr h] ++ bx) 63)) (blockOf key) := Ob.new w2 _ _ (by rw [HBX.out]; simp) _
  have B3 := (BV.out.trans (B2.out.mono BV.out.size))
  have hs2 : V.heap.size ≤ w2.heap.size := B2.out.size
  have hH3 := H2.out.below (below_alloc (Below.refl w2.heap.size w2) (.cells (#[ptr h] ++ bx) 63)) (fun k hk => hk.elim) H2.out.lt
  have hlt := H2.out.lt
  have B3 := below_alloc B3 (.cells (#[ptr h] ++ bx) 63)
  have hs3 : (w2.alloc (.cells (#[ptr h] ++ bx) 63)).heap.size = w2.heap.size + 1 := by simp
  obtain ⟨w3, hw3⟩ : ∃ W, w2.alloc (.cells (#[ptr h] ++ bx) 63) = W := ⟨_, rfl⟩
  rw [hw3] at hMO B3 hH3 hs3 ⊢
  obtain ⟨p, hp⟩ : ∃ p, w2.heap.size = p := ⟨_, rfl⟩
  rw [hp] at hMO hs3 hs2 hlt ⊢
  have HMO := Aside0.mk hMO
  have B3 := Aside0.mk B3
  have HH3 := Aside0.mk hH3
  have HN := Aside0.mk (show w.heap.size ≤ h ∧ h < p ∧ w.heap.size ≤ p ∧ w3.heap.size = p + 1 by have := BV.out.size; exact ⟨by omega, by omega, by omega, by omega⟩)
  have c0 := hMO.ptr
  clear hw3 hp hMO hH3 hs3 hs2 hlt hh hHeld HBM HLD HA hsV BV H2 HH B2
  go_wp2_with fail
  refine region [(0, .p), (1, .p), (2, .p), (3, .p), (5, .p), (4, .t), (6, .o), (7, .q)] (fun W => W.cell? ⟨p, 0, none⟩ = some (ptr h)) (by kernel_rfl) (by kernel_rfl) (fun _ _ _ _ _ h => h) (c0) (fun hHeld => ?_)
  iterate 5 (refine lex_p rfl rfl rfl (by intro w'; go_simp; with_reducible rfl) (by simp only [Act.put, List.setIfInBounds_toArray, List.set_cons_zero, List.set_cons_succ, i64_w, i32_w]; rfl) ?_)
  (refine lex_t rfl rfl rfl (by rintro w' s1; go_simp; with_reducible rfl) (by simp only [Act.put, List.setIfInBounds_toArray, List.set_cons_zero, List.set_cons_succ, i64_w, i32_w]; rfl) ?_)
  refine lex_o rfl ?_
  go_wp2_with fail
  refine (withC p (blockOf key) (blockOf_len key) 54 w3.drew (fun i hi => ?_) HMO.out.lt).mono ?_
  · exact (HMO.out.below (below_drew (Below.refl w3.heap.size w3)) HMO.out.lt).row i (by rw [blockOf_len]; exact hi)
  rintro e w4 ⟨q, rfl, hq, hA2, hb2⟩
  have HQ := Aside0.mk hA2
  have HB4 := Aside0.mk ((below_drew (Below.refl w3.heap.size w3)).trans hb2)
  clear hA2 hb2 hq
  go_wp2_with fail
  refine lex_end (by first | (simp only [Act.put, List.setIfInBounds_toArray, List.set_cons_zero, List.set_cons_succ, i64_w, i32_w]; rfl) | rfl) (pw_cell_below HB4.out c0) (fun hHeld => ?_)
  refine lex_q rfl ?_
  go_wp2_with fail
  have hC4 : Kd.C KB w4 (some ⟨q, 0, none⟩) (xorB 54 (blockOf key)).length (xorB 54 (blockOf key)) := by
    have h := HQ.out.seg (by rw [xorB_len, blockOf_len]; decide) 0 _ (Nat.zero_le _) (Nat.le_refl _)
    rw [List.drop_zero, Nat.sub_zero, List.take_length] at h
    exact h
  have hl64 : (xorB 54 (blockOf key)).length = 64 := by rw [xorB_len, blockOf_len]
  have hW := dWrite (some ⟨q, 0, none⟩) 64 (xorB 54 (blockOf key)) w4 (HH3.out.below HB4.out (fun k hk => hk.elim) HH3.out.lt) hC4 (by rw [hl64]; exact Nat.le_refl _) (fun x hx => by cases hx) (xorB_byt _ _) (by rw [hl64]; decide) (by simp)
  rw [hl64] at hW
  refine hW.mono ?_
  rintro e w5 ⟨rfl, h5, hb5⟩
  have H5 := Aside0.mk h5
  have HB5 := Aside0.mk hb5
  clear h5 hb5 hW hC4 hl64
  go_wp2_with fail
  refine lex_endq (by first | (simp only [Act.put, List.setIfInBounds_toArray, List.set_cons_zero, List.set_cons_succ, i64_w, i32_w]; rfl) | rfl) ?_
  refine lex_nil ?_
  go_wp2_with fail
  refine bodyPost_ret (v := .tuple #[ptr p, .int .i64 0]) (by simp [results, Try.results14, go_sem]) rfl ?_
  have hn := HN.out
  have h4 := HB4.out.size
  have h5 := HB5.out.size
  refine ⟨p, h, rfl, ⟨?_, ?_, by omega⟩, by omega, by omega, B3.out.trans ((HB4.out.mono B3.out.size).trans (HB5.out.below (by omega) (fun j hj e => by have : j = h := e; omega)))⟩
  · exact (HMO.out.below HB4.out HMO.out.lt).same (HB5.out.block p (by omega) (by show ¬ p = h; omega))
  · have h6 := H5.out.mono (S' := fun k => w.heap.size ≤ k ∧ k < w5.heap.size ∧ k ≠ p) (fun k hk => ⟨by have := hk.1; omega, hk.2, by have := hk.1; omega⟩)
    rw [List.nil_append] at h6
    unfold inn
    rw [List.append_nil]
    exact h6
set_option maxRecDepth 100000 in
set_option maxHeartbeats 2000000 in
theorem mNewBad (A : Option Addr) (n c : Nat) (w : World) (hl : 1048576 < n) (hm : n ≤ 1000000000) :
    Calls Try.prog 14 #[.slice A n c] w fun e w' => e = .returned (.tuple #[.pointer none, .int .i64 3]) ∧ Below w.heap.size w w' := by
  obtain ⟨z6, hz6, HZ6, hz⟩ := z64_ex
  have HB := Aside0.mk (blockBad A c n w hl hm)
  rw [← HZ6.out] at HB
  have hst := Aside0.mk (new64 (by simp) HZ6.out hz6)
  clear hl hm
  go_enter Try.func14, Try.ntmps14
  go_wp2_with fail
  refine (HB.out).mono ?_
  rintro e w1 ⟨rfl, hb1⟩
  have HB1 := Aside0.mk hb1
  clear HB hb1
  go_wp2_with (refine pl_store rfl 25 _ _ rfl _ _ (hst.out _) rfl rfl ?_)
  refine bodyPost_ret (v := .tuple #[.pointer none, .int .i64 3]) (by simp [results, Try.results14, go_sem]) rfl ?_
  exact ⟨rfl, below_alloc HB1.out _⟩
end Go.Proofs.Ytfeohojpjncgaaa.Sha

set_option linter.unusedSimpArgs false
set_option linter.unusedVariables false
namespace Go.Proofs.Ytfeohojpjncgaaa.Sha
open Go.RowKit Go.Proofs.YtfeohojpjncgaaaW.PrintWords Go.Proofs.YtfeohojpjncgaaaW.PrintLast Go.Proofs.YtfeohojpjncgaaaW.PrintMore Go.Proofs.Ytfeohojpjncgaaa.PSha1Plays Go.Proofs.Ytfeohojpjncgaaa.Lex Go.Proofs.Ytfeohojpjncgaaa.Lib
attribute [local go_sem] Oper.semAt_some
/-- a part, as it lies in a world -/
structure Prt (w0 : World) (M : Nat) where
  z : List Int
  A : Option Addr
  c : Nat
  hC : Kd.C KB w0 A z.length z
  hc : z.length ≤ c
  hb : Byt z
  hl : z.length ≤ M
theorem valuesC (A : Option Addr) (n c : Nat) (w : World) : Calls Try.prog 43 #[.slice A n c] w fun e w' => e = .returned (.func (.func 51) #[] #[ptr w.heap.size]) ∧ w.alloc (.cells #[.slice A n c] 53) = w' := by
  go_enter Try.func43, Try.ntmps43
  go_wp2_with fail
  go_ret
  exact ⟨rfl, rfl⟩
theorem allC (A : Option Addr) (n c : Nat) (w : World) : Calls Try.prog 31 #[.slice A n c] w fun e w' => e = .returned (.func (.func 51) #[] #[ptr w.heap.size]) ∧ w.alloc (.cells #[.slice A n c] 53) = w' := by
  go_enter Try.func31, Try.ntmps31
  go_wp2_with fail
  refine (valuesC _ _ _ _).mono ?_
  rintro e _ ⟨rfl, rfl⟩
  go_wp2_with fail
  go_ret
  exact ⟨rfl, rfl⟩
set_option maxRecDepth 100000 in
set_option maxHeartbeats 2000000 in
theorem values_seq {S : Nat → Prop} {n : Nat} (hn : 2 ≤ n) (Bs : Nat) (A : Option Addr) (c M : Nat) (ps : List (List Int)) (w0 w : World) (hX : Kd.C KBB w0 A ps.length ps) (hby : ∀ z ∈ ps, Byt z ∧ z.length ≤ M) (h0w : Below w0.heap.size w0 w) (hmx : ps.length ≤ 1000000)
    (hBs : w.cell? ⟨Bs, 0, none⟩ = some (.slice A ps.length c)) (hS : ∀ k, S k → w0.heap.size ≤ k) (sBs : ¬ S Bs) :
    SeqB Fence.wide n Try.prog 51 #[ptr Bs] (fun x : Prt w0 M => #[.slice x.A x.z.length x.c]) (Kept S) (fun _ A B => A = B) (fun xs _ => xs.map (fun x => x.z) = ps) (fun _ _ => True) 0 ps.length w := by
  intro l J Jx W hW hJ hJx hY h0
  have c1 := pw_cell_below hW hBs
  have HX := Aside0.mk hX
  have HW := Aside0.mk (h0w.trans (hW.mono h0w.size))
  have HBY := Aside0.mk hby
  have HY := Aside0.mk hY
  clear hY hJ hJx hW hBs hX hby h0w
  refine callsIn_of_wp Try.func51 rfl trivial ?_ rfl
  simp only [Try.ntmps51, List.size_toArray, List.length_cons, List.length_nil, Nat.reduceAdd, Nat.reduceSub, Array.replicate_succ, Array.replicate_zero, List.push_toArray, List.append_toArray, List.nil_append, List.cons_append]
  gi_wp2
  gi_loopw [7] (fun s7 wr => ∃ (k : Nat) (pre : List (Prt w0 M)), k ≤ ps.length ∧ s7 = .int .i64 k ∧ pre.length = k ∧ pre.map (fun x => x.z) = ps.take k ∧ J pre wr ∧ Aside0 (Kept S W wr)) (fun s7 _ => ps.length - (intOf s7).toNat)
  case atStart => exact ⟨0, [], Nat.zero_le _, rfl, rfl, rfl, h0, ⟨Kept.refl _ _⟩⟩
  case round =>
    obtain ⟨k, pre, hk, rfl, hpl, hpm, hJs, HK⟩ := hrel
    by_cases hlt2 : k < ps.length
    · obtain ⟨b, o, A0, c0, rfl, hcell, hlc, hC⟩ := C_row HX.out k hlt2
      have hbw : b < w0.heap.size := World.block_lt_of_cell? w0 _ hcell
      have hcr := HK.out.cell (pw_cell_below HW.out hcell) (fun q => by have := hS b q; omega)
      have htk : ps.take (k + 1) = ps.take k ++ [ps.getD k []] := by
        rw [List.take_succ_eq_append_getElem hlt2, List.getD_eq_getElem?_getD, List.getElem?_eq_getElem hlt2]
        rfl
      have hbb := HBY.out (ps.getD k []) (by rw [List.getD_eq_getElem?_getD, List.getElem?_eq_getElem hlt2]; exact List.getElem_mem hlt2)
      obtain ⟨z, hz⟩ : ∃ z, ps.getD k [] = z := ⟨_, rfl⟩
      rw [hz] at hcr hlc hC hbb htk
      have hsz : W.heap.size ≤ wr.heap.size := HK.out.size
      obtain ⟨fn, tmps, assign, body, hyy, hR⟩ := HY.out pre ⟨z, A0, c0, hC, hlc, hbb.1, hbb.2⟩ wr hJs (by omega) (by omega)
      have HT := Aside0.mk htk
      have HPM := Aside0.mk hpm
      clear hcell hz htk hpm
      gi_wp2
      refine ⟨fun hd => (by cases hd), ?_⟩
      refine hR.mono ?_
      rintro e W3 (⟨rfl, hJ3, hk3⟩ | ⟨rfl, hJx3⟩)
      · gi_wp2
        go_roundw
        case rel => exact ⟨k + 1, _, by omega, by go_num, by rw [List.length_append, hpl]; rfl, by rw [List.map_append, HPM.out, HT.out]; rfl, hJ3, ⟨HK.out.trans hk3⟩⟩
        case measure => simp [intOf]; omega
      · gi_wp2
        refine bodyPost_ret (results_none rfl _ _ _) rfl ?_
        exact ⟨⟨_, rfl⟩, .inr ⟨_, trivial, hJx3⟩⟩
    · obtain rfl : k = ps.length := by omega
      gi_wp2
      go_end0
      exact ⟨⟨_, rfl⟩, .inl ⟨_, by rw [hpm, List.take_length], hJs⟩⟩
theorem HD.turn {S : Nat → Prop} {p l : Nat} {W : World} {D : List Int} {o : Obj} (h : HD S p W D) (hl : W.heap[l]? = some o) (ho : o.isCells = false) (o' : Obj) : HD S p (W.putObj l o') D := by
  obtain ⟨v, h1, h2⟩ := h
  exact ⟨v, h1.turn hl ho o', (Kept.turn (S := fun _ => False) hl ho o').sl h2 (fun _ _ h => h)⟩
theorem MD.turn {S : Nat → Prop} {p h l : Nat} {W : World} {key D : List Int} {o : Obj} (hM : MD S p h W key D) (hl : W.heap[l]? = some o) (ho : o.isCells = false) (o' : Obj) : MD S p h (W.putObj l o') key D :=
  ⟨Ob.turn hM.1 hl ho o', hM.2.1.turn hl ho o', hM.2.2⟩
theorem Arr.turn {k : IntKind} {g t l : Nat} {W : World} {xs : List Int} {o : Obj} (h : Arr k g t W xs) (hl : W.heap[l]? = some o) (ho : o.isCells = false) (o' : Obj) : Arr k g t (W.putObj l o') xs :=
  (turn_block hl ho o' h rfl).trans h
theorem flat_byt (l : List (List Int)) (h : ∀ z ∈ l, Byt z) : Byt (flat l) := fun x hx => by
  obtain ⟨z, h1, h2⟩ := List.mem_flatten.1 hx
  exact h z h1 x h2
theorem flat_lenM (M : Nat) : ∀ (l : List (List Int)), (∀ z ∈ l, z.length ≤ M) → (flat l).length ≤ l.length * M
  | [], _ => by simp [flat]
  | z :: l, h => by
    have h1 := flat_lenM M l (fun y hy => h y (by simp [hy]))
    have h2 := h z (by simp)
    have e : flat (z :: l) = z ++ flat l := by simp [flat]
    rw [e, List.length_append, List.length_cons, Nat.add_mul]
    omega
theorem flat_snoc (l : List (List Int)) (z : List Int) : flat (l ++ [z]) = flat l ++ z := by simp [flat]
set_option maxRecDepth 100000 in
set_option maxHeartbeats 4000000 in
theorem tagC (A : Option Addr) (n c : Nat) (key : List Int) (A2 : Option Addr) (n2 c2 M : Nat) (ps : List (List Int)) (w : World) (hx : Kd.C KB w A key.length key) (hn : n = key.length) (hc : n ≤ c) (hk : Byt key) (hl : key.length ≤ 1048576)
    (hX : Kd.C KBB w A2 ps.length ps) (hn2 : n2 = ps.length) (hby : ∀ z ∈ ps, Byt z ∧ z.length ≤ M) (hM : M ≤ 3000000) (hpM : ps.length * M ≤ 10000000) (hpl : ps.length ≤ 1000000) :
    Calls Try.prog 19 #[.slice A n c, .slice A2 n2 c2] w fun e w' => e = .returned (.tuple #[.agg ((tagOf key (flat ps)).map (Value.int .u8)).toArray, .int .i64 0]) ∧ Below w.heap.size w w' := by
  subst hn2
  obtain ⟨z2, hz2, HZ2, hz⟩ := z20_ex
  obtain ⟨bx, hbx⟩ : ∃ bx, ((tagOf key (flat ps)).map (Value.int .u8)).toArray = bx := ⟨_, rfl⟩
  rw [hbx]
  have HBX := Aside0.mk hbx.symm
  have HX := Aside0.mk hX
  have HBY := Aside0.mk hby
  have HKB := Aside0.mk hk
  have HAR := Aside0.mk (Arr.new w 41 (List.replicate 20 0) z2 (k := .u8) HZ2.out)
  have HB1 := Aside0.mk (below_alloc (Below.refl w.heap.size w) (.cells z2 41))
  have HNEW := Aside0.mk (mNew A n c key (w.alloc (.cells z2 41)) (Kd.C_below hx HB1.out) hn hc hk hl)
  have HPM := Aside0.mk hpM
  clear hx hn hc hk hl hX hby hbx hpM
  refine (callsIn_wide (n := 5)).1 ?_
  refine callsIn_of_wp_marks Try.func19 rfl trivial ?_ rfl
  simp only [Try.ntmps19, List.size_toArray, List.length_cons, List.length_nil, Nat.reduceAdd, Nat.reduceSub, Array.replicate_succ, Array.replicate_zero, List.push_toArray, List.append_toArray, List.nil_append, List.cons_append]
  gi_wp2_with fail
  obtain ⟨w1, hw1⟩ : ∃ w1, w.alloc (.cells z2 41) = w1 := ⟨_, rfl⟩
  have hs1 : w1.heap.size = w.heap.size + 1 := by rw [← hw1]; simp
  rw [hw1] at HAR HB1 HNEW ⊢
  clear hw1
  refine ⟨trivial, ?_⟩
  refine (callsIn_wide.2 HNEW.out).mono ?_
  rintro e w2 ⟨p, h, rfl, hMD, hp, hh, hb2⟩
  have HMD := Aside0.mk hMD
  have HB2 := Aside0.mk hb2
  have HPH := Aside0.mk (And.intro hp hh)
  clear hMD hb2 hp hh HNEW hz
  gi_wp2_with fail
  refine ⟨trivial, ?_⟩
  refine (callsIn_wide.2 (allC _ _ _ _)).mono ?_
  rintro e w4 ⟨rfl, hw4⟩
  have oB := (Ob.new w2 [ptr p] #[ptr p] rfl 34).below (below_alloc (Below.refl _ _) (.cells #[.slice A2 ps.length c2] 53)) (by simp)
  have oS := Ob.new (w2.alloc (.cells #[ptr p] 34)) [.slice A2 ps.length c2] #[.slice A2 ps.length c2] rfl 53
  have hb4 : Below w2.heap.size w2 w4 := by rw [← hw4]; exact below_alloc (below_alloc (Below.refl _ _) _) _
  have hs4 : w4.heap.size = w2.heap.size + 2 := by rw [← hw4]; simp
  have hsx : (w2.alloc (.cells #[ptr p] 34)).heap.size = w2.heap.size + 1 := by simp
  have hw4' : (w2.alloc (.cells #[ptr p] 34)).alloc (.cells #[.slice A2 ps.length c2] 53) = w4 := hw4
  rw [hsx] at oS
  rw [hw4'] at oB oS
  rw [hsx]
  have hs2 := HB2.out.size
  obtain ⟨hp, hh⟩ := HPH.out
  have hpl2 := HMD.out.1.lt
  have hhl2 := HMD.out.2.1.lt
  have hB4 : Below w.heap.size w w4 := HB1.out.trans ((HB2.out.mono HB1.out.size).trans (hb4.mono (by omega)))
  have hMD4 : MD (fun k => w.heap.size ≤ k ∧ k < w4.heap.size) p h w4 key [] := ⟨HMD.out.1.below hb4 hpl2, (HMD.out.2.1.below hb4 (fun k hk => hk.2.1) hhl2).mono (fun k hk => ⟨by have := hk.1; omega, by have := hk.2.1; omega⟩), HMD.out.2.2⟩
  have hAR4 := (HAR.out.later HB2.out).later hb4
  have hph := HMD.out.2.2
  clear hw4 hw4' HB2 HMD HAR HB1 HPH hb4
  gi_wp2_with fail
  refine rangeB (F := Fence.wide) rfl (by decide) (gf := 51) (lb := #[ptr (w2.heap.size + 1)]) rfl trivial (enters_of Try.func51 (by kernel_rfl) rfl)
    (values_seq (S := at1 h) (n := 4) (by decide) (w2.heap.size + 1) A2 c2 M ps w w4 HX.out HBY.out hB4 hpl (oS 0 _ rfl).1 (fun k hk => by have : k = h := hk; omega) (by show ¬ w2.heap.size + 1 = h; omega))
    (fun h A B hk k o hkh hA hc => by subst hk; exact hA) (fun h k => h.trans k) (fun W l o o' _ hl ho => Kept.turn hl ho o') (fun _ => rfl)
    (fun pre W => MD (fun k => w.heap.size ≤ k ∧ k < W.heap.size) p h W key (flat (pre.map (fun x => x.z))) ∧ Arr .u8 w.heap.size 41 W (List.replicate 20 0) ∧ Ob w2.heap.size W [ptr p] ∧ Below w.heap.size w W ∧ w4.heap.size ≤ W.heap.size)
    (fun _ _ _ => False) ?hI (fun _ _ _ _ h _ => h.elim) ?tI (fun _ _ _ _ _ _ h _ _ _ => h.elim) (fun _ _ _ _ _ h _ _ _ => h) (fun _ _ _ _ _ h _ _ _ => h) ?h0 (fun x => { tmps := #[.slice A n c, .slice A2 ps.length c2, undef, undef, ptr w.heap.size, .int .i64 0, ptr w2.heap.size, .int .i64 0, .slice x.A x.z.length x.c, .tuple #[ptr p, .int .i64 0], .slice A n c, .tuple #[ptr p, .int .i64 0], ptr p, .int .i64 0, .int .i64 0, .bool false, undef, undef, .slice A2 ps.length c2, .func (.func 51) #[] #[ptr (w2.heap.size + 1)], .slice x.A x.z.length x.c, undef, undef, undef, undef, undef, undef, undef], defers := [] }) ?assign ?body ?done ?stop
  case assign =>
    intro l x W K hK
    obtain ⟨z0, A0, c0, q1, q2, q3, q4⟩ := x
    obtain ⟨m0, hm0⟩ : ∃ m0, z0.length = m0 := ⟨_, rfl⟩
    simp only [hm0] at hK ⊢
    clear oB oS hB4 hMD4 hAR4 hs4 hsx hs2 hp hh hpl2 hhl2 hs1 hph q1 q2 q3 q4 hm0
    have HK := Aside0.mk hK
    clear hK
    gi_wp2_with fail
    exact HK.out
  case hI =>
    rintro pre U V hh rfl
    exact hh
  case tI =>
    rintro pre W l o o' ⟨a1, a2, a3, a4, a5⟩ hl hlo ho
    exact ⟨by rw [show (W.putObj l o').heap.size = W.heap.size by simp]; exact a1.turn hlo ho o', Arr.turn a2 hlo ho o', a3.turn hlo ho o', Go.Proofs.Ytfeohojpjncgaaa.Lib.Below.turn a4 (by omega) o', by simp; exact a5⟩
  case h0 =>
    intro W hW hWs
    refine ⟨⟨hMD4.1.below hW (by omega), (hMD4.2.1.below hW (fun k hk => hk.2) (by omega)).mono (fun k hk => ⟨hk.1, by have := hk.2; omega⟩), hph⟩, hAR4.later hW, oB.below hW (by omega), hB4.trans (hW.mono (by omega)), by omega⟩
  case body =>
    rintro l pre x W ⟨a1, a2, a3, a4, a5⟩ hpre hsz
    have hzb : ∀ z ∈ pre.map (fun x => x.z), Byt z ∧ z.length ≤ M := fun z hz => by obtain ⟨y, _, rfl⟩ := List.mem_map.1 hz; exact ⟨y.hb, y.hl⟩
    have hfl := flat_lenM M (pre.map (fun x => x.z)) (fun z hz => (hzb z hz).2)
    rw [List.length_map] at hfl
    have hmm : pre.length * M ≤ ps.length * M := Nat.mul_le_mul_right _ (by omega)
    have hpm := HPM.out
    have HWR := Aside0.mk (mWrite x.A x.z.length x.c x.z W a1 (Kd.C_below x.hC a4) rfl x.hc (flat_byt _ (fun z hz => (hzb z hz).1)) x.hb (by have := x.hl; omega) (by omega))
    have e0 := (a3 0 _ rfl).1
    have A1 := Aside0.mk a1
    have A2' := Aside0.mk a2
    have A3 := Aside0.mk a3
    have A4 := Aside0.mk a4
    clear a1 a2 a3 a4 hzb hfl hmm hpm
    gi_wp2_with fail
    refine ⟨trivial, ?_⟩
    refine (calls_round HWR.out).mono ?_
    rintro e W2 ⟨rfl, h2, hb2⟩
    have H2 := Aside0.mk h2
    have HB2 := Aside0.mk hb2
    clear h2 hb2
    gi_wp2_with fail
    have hs2' := HB2.out.size
    have hw2 : w.heap.size < h := by omega
    refine ⟨keeps_but HB2.out ?_, Kept.but HB2.out (Nat.le_refl _), ⟨H2.out.1, ?_, hph⟩, A2'.out.same (HB2.out.block _ A2'.out.lt (by show ¬ w.heap.size = h; omega)), A3.out.but HB2.out A3.out.lt (by show ¬ w2.heap.size = h; omega), A4.out.trans (HB2.out.below A4.out.size (fun j hj e => by have : j = h := e; omega)), by omega⟩
    · intro o ho hn0
      obtain ⟨v, hv1, _⟩ := A1.out.2.1
      obtain ⟨q, h1, h2⟩ := block_of_cell (hv1 0 _ rfl).1
      have h4 : q = o := Option.some.inj (h1.symm.trans ho)
      rw [h4, hn0] at h2
      exact absurd h2 (by decide)
    · rw [List.map_append]
      show HD _ h W2 (inn key (flat (pre.map (fun x => x.z) ++ [x.z])))
      rw [flat_snoc]
      exact H2.out.2.1.mono (fun k hk => ⟨by have := hk.1; have := A4.out.size; omega, hk.2⟩)
  case done =>
    rintro D xs W hD hxs ⟨a1, a2, a3, a4, a5⟩ hK
    rw [hxs] at a1
    have hfl := flat_lenM M ps (fun z hz => (HBY.out z hz).2)
    have HT := Aside0.mk (mTag W a1 (fun k hk => hk.2) HKB.out (flat_byt _ (fun z hz => (HBY.out z hz).1)) (by have := HPM.out; omega))
    rw [HBX.out.symm] at HT
    have e0 := (a3 0 _ rfl).1
    have A2' := Aside0.mk a2
    have A4 := Aside0.mk a4
    have HK := Aside0.mk hK
    clear a1 a2 a3 a4 hK hfl
    gi_wp2_with fail
    refine ⟨trivial, ?_⟩
    refine (callsIn_wide.2 HT.out).mono ?_
    rintro e W3 ⟨rfl, hb3⟩
    have hA3 := A2'.out.later hb3
    obtain ⟨W6, hst6, ha6, hb6⟩ := store20 hA3 (by simp) (sumOf_len _) HBX.out
    have HST6 := Aside0.mk hst6
    have HA6 := Aside0.mk ha6
    have B3 := A4.out.trans (hb3.mono A4.out.size)
    have HB6 := Aside0.mk (B3.trans (hb6.below B3.size (fun j hj e => by have : j = w.heap.size := e; omega)))
    have hK3 := (hb3.block D (Array.getElem?_eq_some_iff.1 HK.out).1).trans HK.out
    have hK6 := (hb6.block D (Array.getElem?_eq_some_iff.1 hK3).1 (by show ¬ D = w.heap.size; omega)).trans hK3
    have HK6 := Aside0.mk hK6
    clear hA3 hst6 ha6 hb6 B3 hK3 hK6 hb3 HT
    gi_wp2_with (refine in_store rfl 41 _ _ rfl _ _ HST6.out rfl rfl ?_)
    have hK2 := HK6.out
    rw [hD, hs4] at hK2
    refine ⟨by simp, .inl ⟨_, _, rfl, run_takeDeferred hK2, ?_⟩⟩
    exact ⟨_, results_row_tmp rfl _ _ w.heap.size bx rfl (load20 (Arr.turn HA6.out hK2 rfl (.deferred none)) (sumOf_len _) HBX.out), rfl, Go.Proofs.Ytfeohojpjncgaaa.Lib.Below.turn HB6.out (by omega) _⟩
  case stop =>
    rintro D c pre W _ _ h _
    exact h.elim
end Go.Proofs.Ytfeohojpjncgaaa.Sha

set_option linter.unusedSimpArgs false
set_option linter.unusedVariables false
namespace Go.Proofs.Ytfeohojpjncgaaa.Sha
open Go.RowKit Go.Proofs.YtfeohojpjncgaaaW.PrintWords Go.Proofs.YtfeohojpjncgaaaW.PrintLast Go.Proofs.YtfeohojpjncgaaaW.PrintMore Go.Proofs.Ytfeohojpjncgaaa.PSha1Plays Go.Proofs.Ytfeohojpjncgaaa.Lex Go.Proofs.Ytfeohojpjncgaaa.Lib
theorem num (e : Int) (w : World) : Calls Try.prog 12 #[.int .i64 e] w fun x w' => x = .returned (.int .i64 e) ∧ w = w' := by
  go_enter Try.func12, Try.ntmps12
  go_wp2
  go_ret
  exact ⟨rfl, rfl⟩
theorem conv (W : World) (A : Option Addr) (c : Nat) (xs : List Int) (h : Kd.C KB W A xs.length xs) : (convert 22 9 (.slice A xs.length c)).run Try.prog W = .ok (.string (strOfNums xs)) W :=
  Kd.C_string (dst := 9) Try.underlying22 Try.underlying5 Try.underlying9 h
theorem C_blockF {w : World} {g t : Nat} {fr : Nat × Nat} {cs : List Value} (hg : w.heap[g]? = some (.cells cs.toArray t fr)) (xs : List Int) (h : cs = nums .u8 xs) (hm : xs.length ≤ 9223372036854775807) : Kd.C KB w (some ⟨g, 0, none⟩) xs.length xs := by
  subst h
  refine ⟨rfl, hm, fun _ => ⟨_, rfl, fun j x hj => ⟨[.int .u8 x], rfl, rfl, fun i u hi => ?_⟩⟩⟩
  match i, hi with
  | 0, hi =>
    simp only [List.getElem?_cons_zero, Option.some.injEq] at hi
    subst hi
    rw [add_plain, cell_of_row w _ _ _ _ _ hg]
    show (nums .u8 xs).toArray[j * 1 + 0]? = _
    rw [Nat.mul_one, Nat.add_zero, List.getElem?_toArray]
    simp [nums, hj]
def rowK : List Int := [107, 101, 121]
def rowA : List Int := [84, 104, 101, 32, 113, 117, 105, 99, 107, 32, 98, 114, 111, 119, 110, 32, 102, 111, 120, 32]
def rowB : List Int := [106, 117, 109, 112, 115, 32, 111, 118, 101, 114, 32, 116, 104, 101, 32, 108, 97, 122, 121, 32, 100, 111, 103]
theorem tag0 : (tagOf [] (flat [])).take 4 = [251, 219, 29, 27] := by decide +kernel
theorem tag1 : (tagOf rowK (flat [rowA, rowB])).take 4 = [222, 124, 155, 133] := by decide +kernel
theorem tagOf_len (k m : List Int) : (tagOf k m).length = 20 := sumOf_len _
theorem C_nil (w : World) : Kd.C KB w none 0 [] := ⟨rfl, by decide, fun h => absurd h (by decide)⟩
theorem C_nilB (w : World) : Kd.C KBB w none 0 [] := ⟨rfl, by decide, fun h => absurd h (by decide)⟩
set_option maxRecDepth 100000 in
set_option maxHeartbeats 2000000 in
theorem works (w : World) : Calls Try.prog 10 #[] w fun e w' => e = .returned (.bool true) ∧ Below w.heap.size w w' := by
  obtain ⟨z2, hz2, HZ2, hz⟩ := z20_ex
  have kc : ∀ (w : World) (C : Array Value) (n c g : Nat), w.heap.size = g → (convert 22 22 (.slice (some ⟨g, 0, none⟩) n c)).run Try.prog (w.alloc (.cells C 5)) = .ok (.slice (some ⟨g, 0, none⟩) n c) (w.alloc (.cells C 5 (C.size, C.size + 1))) := fun w C n c g hg => by
    subst hg
    exact Lib.run_convert_bytes_const (P := Try.prog) w 22 5 C n c Try.underlying22 Try.underlying5
  obtain ⟨b1, HB1⟩ : ∃ b, Aside0 (b = ((tagOf [] (flat [])).map (Value.int .u8)).toArray) := ⟨_, ⟨rfl⟩⟩
  obtain ⟨b2, HB2⟩ : ∃ b, Aside0 (b = ((tagOf rowK (flat [rowA, rowB])).map (Value.int .u8)).toArray) := ⟨_, ⟨rfl⟩⟩
  have hT1 := tagC none 0 0 [] none 0 0 0 [] w (C_nil w) rfl (Nat.le_refl _) (fun x hx => by cases hx) (by decide) (C_nilB w) rfl (fun z hz => by cases hz) (by decide) (by decide) (by decide)
  rw [← HB1.out] at hT1
  have hbz1 : b1.size = 20 := by rw [HB1.out]; simpa using tagOf_len _ _
  have hbz2 : b2.size = 20 := by rw [HB2.out]; simpa using tagOf_len _ _
  have hst1 := Aside0.mk (new20 (tagOf_len [] (flat [])) HB1.out hz2)
  have hst2 := Aside0.mk (new20 (tagOf_len rowK (flat [rowA, rowB])) HB2.out hz2)
  go_enter Try.func10, Try.ntmps10
  go_wp2_with fail
  refine hT1.mono ?_
  rintro e w1 ⟨rfl, hb1⟩
  have B1 := Aside0.mk hb1
  clear hb1 hT1
  go_wp2_with (refine pl_store rfl 41 _ _ rfl _ _ (hst1.out _) rfl rfl ?_)
  obtain ⟨V1, hV1⟩ : ∃ V, w1.alloc (.cells b1 41) = V := ⟨_, rfl⟩
  have hA1 : Arr .u8 w1.heap.size 41 V1 (tagOf [] (flat [])) := by rw [← hV1]; exact Arr.new w1 _ _ b1 HB1.out
  have c1 : Below w1.heap.size w1 V1 := by rw [← hV1]; exact below_alloc (Below.refl _ _) _
  have s1 : V1.heap.size = w1.heap.size + 1 := by rw [← hV1]; simp
  obtain ⟨V2, hV2⟩ : ∃ V, V1.alloc (.cells #[.int .u8 107, .int .u8 101, .int .u8 121] 5 (3, 4)) = V := ⟨_, rfl⟩
  have k2 : Kd.C KB V2 (some ⟨w1.heap.size + 1, 0, none⟩) 3 rowK := by rw [← hV2, ← s1]; exact C_blockF (heap_alloc_new V1 _) rowK rfl (by decide)
  have c2 : Below V1.heap.size V1 V2 := by rw [← hV2]; exact below_alloc (Below.refl _ _) _
  have s2 : V2.heap.size = w1.heap.size + 1 + 1 := by rw [← hV2, World.size_alloc, s1]
  obtain ⟨V3, hV3⟩ : ∃ V, V2.alloc (.cells #[.int .u8 84, .int .u8 104, .int .u8 101, .int .u8 32, .int .u8 113, .int .u8 117, .int .u8 105, .int .u8 99, .int .u8 107, .int .u8 32, .int .u8 98, .int .u8 114, .int .u8 111, .int .u8 119, .int .u8 110, .int .u8 32, .int .u8 102, .int .u8 111, .int .u8 120, .int .u8 32] 5 (20, 21)) = V := ⟨_, rfl⟩
  have k3 : Kd.C KB V3 (some ⟨w1.heap.size + 1 + 1, 0, none⟩) 20 rowA := by rw [← hV3, ← s2]; exact C_blockF (heap_alloc_new V2 _) rowA rfl (by decide)
  have c3 : Below V2.heap.size V2 V3 := by rw [← hV3]; exact below_alloc (Below.refl _ _) _
  have s3 : V3.heap.size = w1.heap.size + 1 + 1 + 1 := by rw [← hV3, World.size_alloc, s2]
  obtain ⟨V4, hV4⟩ : ∃ V, V3.alloc (.cells #[.int .u8 106, .int .u8 117, .int .u8 109, .int .u8 112, .int .u8 115, .int .u8 32, .int .u8 111, .int .u8 118, .int .u8 101, .int .u8 114, .int .u8 32, .int .u8 116, .int .u8 104, .int .u8 101, .int .u8 32, .int .u8 108, .int .u8 97, .int .u8 122, .int .u8 121, .int .u8 32, .int .u8 100, .int .u8 111, .int .u8 103] 5 (23, 24)) = V := ⟨_, rfl⟩
  have k4 : Kd.C KB V4 (some ⟨w1.heap.size + 1 + 1 + 1, 0, none⟩) 23 rowB := by rw [← hV4, ← s3]; exact C_blockF (heap_alloc_new V3 _) rowB rfl (by decide)
  have c4 : Below V3.heap.size V3 V4 := by rw [← hV4]; exact below_alloc (Below.refl _ _) _
  have s4 : V4.heap.size = w1.heap.size + 1 + 1 + 1 + 1 := by rw [← hV4, World.size_alloc, s3]
  rw [hV1, hV2, hV3, hV4]
  have c5 := below_alloc (Below.refl V4.heap.size V4) (.cells #[.slice (some ⟨w1.heap.size + 1 + 1, 0, none⟩) 20 20, .slice (some ⟨w1.heap.size + 1 + 1 + 1, 0, none⟩) 23 23] 22)
  have kk : Kd.C KBB (V4.alloc (.cells #[.slice (some ⟨w1.heap.size + 1 + 1, 0, none⟩) 20 20, .slice (some ⟨w1.heap.size + 1 + 1 + 1, 0, none⟩) 23 23] 22)) (some ⟨w1.heap.size + 1 + 1 + 1 + 1, 0, none⟩) 2 [rowA, rowB] := by
    refine CBB_alloc (W := V4) (cs := [.slice (some ⟨w1.heap.size + 1 + 1, 0, none⟩) 20 20, .slice (some ⟨w1.heap.size + 1 + 1 + 1, 0, none⟩) 23 23]) (t := 22) s4.symm [rowA, rowB] rfl (by simp) ?_
    intro j zs hj
    match j, hj with
    | 0, hj =>
      injection hj with hj
      subst hj
      exact ⟨_, 20, rfl, by decide, Kd.C_below (Kd.C_below k3 c4) c5⟩
    | 1, hj =>
      injection hj with hj
      subst hj
      exact ⟨_, 23, rfl, by decide, Kd.C_below k4 c5⟩
  obtain ⟨V5, hV5⟩ : ∃ V, V4.alloc (.cells #[.slice (some ⟨w1.heap.size + 1 + 1, 0, none⟩) 20 20, .slice (some ⟨w1.heap.size + 1 + 1 + 1, 0, none⟩) 23 23] 22) = V := ⟨_, rfl⟩
  rw [hV5] at c5 kk ⊢
  have hby : ∀ z ∈ [rowA, rowB], Byt z ∧ z.length ≤ 23 := fun z hz => by
    rcases List.mem_cons.1 hz with e | e
    · subst e; exact ⟨by unfold Byt; decide, by decide⟩
    · rw [List.mem_singleton.1 e]; exact ⟨by unfold Byt; decide, by decide⟩
  have hT2 := tagC (some ⟨w1.heap.size + 1, 0, none⟩) 3 3 rowK (some ⟨w1.heap.size + 1 + 1 + 1 + 1, 0, none⟩) 2 2 23 [rowA, rowB] V5 (Kd.C_below (Kd.C_below (Kd.C_below k2 c3) c4) c5) rfl (Nat.le_refl _) (by unfold Byt; decide) (by decide) kk rfl hby (by decide) (by decide) (by decide)
  rw [← HB2.out] at hT2
  have hA5 := (((hA1.later c2).later c3).later c4).later c5
  have c15 : Below w1.heap.size w1 V5 := c1.trans ((c2.trans ((c3.trans ((c4.trans (c5.mono c4.size)).mono c3.size)).mono c2.size)).mono c1.size)
  have HA5 := Aside0.mk hA5
  have HT2 := Aside0.mk hT2
  have B5 := Aside0.mk (B1.out.trans (c15.mono B1.out.size))
  clear hV1 hV2 hV3 hV4 hV5 k2 k3 k4 kk c1 c2 c3 c4 c5 c15 s1 s2 s3 s4 hA1 hA5 hT2 hby B1 kc
  refine HT2.out.mono ?_
  rintro e w6 ⟨rfl, hb6⟩
  have b7 := below_alloc (Below.refl w6.heap.size w6) (.cells b2 41)
  have hA7 := (HA5.out.later hb6).later b7
  have hB7 := Arr.new (k := .u8) w6 41 (tagOf rowK (flat [rowA, rowB])) b2 HB2.out
  have B7 := Aside0.mk ((B5.out.trans (hb6.mono B5.out.size)).trans (b7.mono (B5.out.trans (hb6.mono B5.out.size)).size))
  have hk1 := conv (w6.alloc (.cells b2 41)) (some ⟨w1.heap.size, 0, none⟩) 20 ((tagOf [] (flat [])).take 4) (by
    have h := hA7.seg (by rw [tagOf_len]; decide) 0 4 (by decide) (by rw [tagOf_len]; decide)
    rw [tag0] at h ⊢
    exact h)
  have hk2 := conv (w6.alloc (.cells b2 41)) (some ⟨w6.heap.size, 0, none⟩) 20 ((tagOf rowK (flat [rowA, rowB])).take 4) (by
    have h := hB7.seg (by rw [tagOf_len]; decide) 0 4 (by decide) (by rw [tagOf_len]; decide)
    rw [tag1] at h ⊢
    exact h)
  rw [tag0] at hk1
  rw [tag1] at hk2
  have hk1 : (convert 22 9 (.slice (some ⟨w1.heap.size, 0, none⟩) 4 20)).run Try.prog (w6.alloc (.cells b2 41)) = .ok (.string ⟨#[251, 219, 29, 27]⟩) (w6.alloc (.cells b2 41)) := hk1
  have hk2 : (convert 22 9 (.slice (some ⟨w6.heap.size, 0, none⟩) 4 20)).run Try.prog (w6.alloc (.cells b2 41)) = .ok (.string ⟨#[222, 124, 155, 133]⟩) (w6.alloc (.cells b2 41)) := hk2
  clear hb6 b7 hA7 hB7 HT2 HA5 B5
  go_wp2_with (first | (refine pl_store rfl 41 _ _ rfl _ _ (hst2.out _) rfl rfl ?_) | (go_at_call 12; refine (num _ _).mono ?_; rintro e w' ⟨rfl, rfl⟩))
  go_ret
  exact ⟨rfl, B7.out⟩
theorem few_pos (ls : List (List Int)) (A : Option Addr) (c : Nat) (w : World) (hX : Kd.C KBB w A ls.length ls) (h : ∀ z ∈ ls, z.length ≤ 500) : Calls Try.prog 9 #[.slice A ls.length c] w fun e w' => e = .returned (.bool true) ∧ w = w' := by
  have HX := Aside0.mk hX
  have HH := Aside0.mk h
  clear hX h
  go_enter Try.func9, Try.ntmps9
  go_wp2_with fail
  go_loopg [3] ls.length (fun gk s3 W => ∃ k : Nat, k ≤ ls.length ∧ ls.length - k ≤ gk ∧ s3 = .int .i64 k ∧ w = W)
  case atStart => exact ⟨0, by omega, by omega, rfl, rfl⟩
  case round =>
    obtain ⟨k, hk, hgk, rfl, rfl⟩ := hrel
    have hmx : ls.length ≤ 9223372036854775807 := HX.out.2.1
    by_cases hlt : k < ls.length
    · obtain ⟨b, o, A0, c0, rfl, hcell, -, -⟩ := C_row HX.out k hlt
      have hl := HH.out (ls.getD k []) (by rw [List.getD_eq_getElem?_getD, List.getElem?_eq_getElem hlt]; exact List.getElem_mem hlt)
      obtain ⟨m, hm⟩ : ∃ m, (ls.getD k []).length = m := ⟨_, rfl⟩
      rw [hm] at hcell hl
      have hlI : ¬ (500 : Int) < (m : Int) := by omega
      go_wp2_with fail
      go_roundg (gk - 1)
      case measure => omega
      case rel => exact ⟨k + 1, by omega, by omega, by go_num, rfl⟩
    · obtain rfl : k = ls.length := by omega
      go_wp2_with fail
      go_ret
      exact ⟨rfl, rfl⟩
theorem few_neg (ls : List (List Int)) (A : Option Addr) (c : Nat) (w : World) (hX : Kd.C KBB w A ls.length ls) (h : ∃ k, k < ls.length ∧ 500 < (ls.getD k []).length) : Calls Try.prog 9 #[.slice A ls.length c] w fun e w' => e = .returned (.bool false) ∧ w = w' := by
  have HX := Aside0.mk hX
  have HH := Aside0.mk h
  clear hX h
  go_enter Try.func9, Try.ntmps9
  go_wp2_with fail
  go_loopg [3] ls.length (fun gk s3 W => ∃ k : Nat, k ≤ ls.length ∧ ls.length - k ≤ gk ∧ s3 = .int .i64 k ∧ w = W ∧ ∀ j, j < k → (ls.getD j []).length ≤ 500)
  case atStart => exact ⟨0, by omega, by omega, rfl, rfl, fun j hj => by omega⟩
  case round =>
    obtain ⟨k, hk, hgk, rfl, rfl, hall⟩ := hrel
    have HAL := Aside0.mk hall
    have hmx : ls.length ≤ 9223372036854775807 := HX.out.2.1
    clear hall
    have hlt : k < ls.length := by
      obtain ⟨j, h1, h2⟩ := HH.out
      rcases Nat.lt_or_ge k ls.length with h | h
      · exact h
      · have := HAL.out j (by omega); omega
    obtain ⟨b, o, A0, c0, rfl, hcell, -, -⟩ := C_row HX.out k hlt
    obtain ⟨m, hm⟩ : ∃ m, (ls.getD k []).length = m := ⟨_, rfl⟩
    rw [hm] at hcell
    have HM := Aside0.mk hm
    clear hm
    by_cases hlI : (500 : Int) < (m : Int)
    · go_wp2_with fail
      go_ret
      exact ⟨rfl, rfl⟩
    · have HLI := Aside0.mk hlI
      go_wp2_with fail
      go_roundg (gk - 1)
      case measure => omega
      case rel => exact ⟨k + 1, by omega, by omega, by go_num, rfl, fun j hj => by
        rcases Nat.lt_or_ge j k with h | h
        · exact HAL.out j h
        · obtain rfl : j = k := by omega
          rw [HM.out]; have := HLI.out; omega⟩
end Go.Proofs.Ytfeohojpjncgaaa.Sha

namespace Go.Proofs.Ytfeohojpjncgaaa.Lex
open Go.RowKit Go.Proofs.YtfeohojpjncgaaaW.PrintLast

/-- a tree of orders -/
inductive LT where
  | nil
  | one (i : Nat) (k : LK) (r : LT)
  | two (i : Nat) (r : LT) (j : Nat) (s : LT)
def LT.len : LT → Nat
  | .nil => 0
  | .one _ _ r => r.len + 1
  | .two _ r _ _ => r.len + 1

def lexTOK (md : Region.Mode) (ops : Array Oper) : LT → Array Bool → Bool
  | .nil, l => Region.ready md ops l == []
  | .one i ⟨0⟩ r, l => anyB md ops l (l.setIfInBounds i true) i && lexTOK md ops r (l.setIfInBounds i true)
  | .one i ⟨1⟩ r, l => takeB md ops [] l (l.setIfInBounds i true) i && lexTOK md ops r (l.setIfInBounds i true)
  | .one i ⟨_ + 2⟩ r, l => readyB md ops l (l.setIfInBounds i true) i && lexTOK md ops r (l.setIfInBounds i true)
  | .two i r j s, l => (Region.ready md ops l == [i, j] && r.len == s.len) && (lexTOK md ops r (l.setIfInBounds i true) && lexTOK md ops s (l.setIfInBounds j true))

def wpLexT (P : Program) (ops : Array Oper) (Q : Exit → Act → World → Prop) (S : World → Prop) : LT → Act → World → Prop
  | .nil, a, w => Q .normal a w
  | .one i ⟨0⟩ r, a, w => ∃ oi v, ops[i]? = some oi ∧ Yields P ops oi v a ∧ wpLexT P ops Q S r (a.put oi.dst v) w
  | .one i ⟨1⟩ r, a, w => ∃ oi v, ops[i]? = some oi ∧ YieldsIf P ops S oi v a ∧ wpLexT P ops Q S r (a.put oi.dst v) w
  | .one i ⟨_ + 2⟩ r, a, w => ∃ oi, ops[i]? = some oi ∧ wpList P ops (putQ Q (fun a' w' => S w' ∧ (S w' → wpLexT P ops Q S r a' w'))) [oi] a w
  | .two i r j s, a, w => (∃ oi, ops[i]? = some oi ∧ wpList P ops (putQ Q (fun a' w' => S w' ∧ (S w' → wpLexT P ops Q S r a' w'))) [oi] a w) ∧ (∃ oi, ops[j]? = some oi ∧ wpList P ops (putQ Q (fun a' w' => S w' ∧ (S w' → wpLexT P ops Q S s a' w'))) [oi] a w)

section
variable {P : Program} {ops : Array Oper} {Q : Exit → Act → World → Prop} {S : World → Prop} {md : Region.Mode} {a : Act} {w : World} {i : Nat} {oi : Oper} {v : Value} {r : LT}

theorem lexT_any (hQ : ∀ c a (N : Tmp) v w, Q (.panic c) { a with tmps := a.tmps.setIfInBounds N v } w → Q (.panic c) a w) :
    ∀ (t : LT) (l : Array Bool) (a : Act) (w : World), lexTOK md ops t l = true → S w → wpLexT P ops Q S t a w → wpAnyLast P md ops Q S [] t.len l a w
  | .nil, l, a, w, hc, _, h => done_ (by simpa [lexTOK] using hc) h
  | .one i ⟨0⟩ r, l, a, w, hc, hS, h => by
    obtain ⟨oi, v, hi, hy, h⟩ := h
    simp only [lexTOK, Bool.and_eq_true] at hc
    refine pure_ (i := i) (N := oi.dst) _ hi rfl hc.1 ?_ hy rfl (lexT_any hQ r _ _ _ hc.2 hS h)
    intro c a w hq
    cases hd : oi.dst with
    | none => rw [hd] at hq; exact hq
    | some N => rw [hd] at hq; exact hQ c a N v w hq
  | .one i ⟨1⟩ r, l, a, w, hc, hS, h => by
    obtain ⟨oi, v, hi, hy, h⟩ := h
    simp only [lexTOK, Bool.and_eq_true] at hc
    refine take_ (i := i) (N := oi.dst) _ hi rfl hc.1 ?_ hy hS rfl (lexT_any hQ r _ _ _ hc.2 hS h)
    intro c a w hq
    cases hd : oi.dst with
    | none => rw [hd] at hq; exact hq
    | some N => rw [hd] at hq; exact hQ c a N v w hq
  | .one i ⟨_ + 2⟩ r, l, a, w, hc, hS, h => by
    obtain ⟨oi, hi, h⟩ := h
    simp only [lexTOK, Bool.and_eq_true, readyB, beq_iff_eq] at hc
    refine wpAnyLast_all hc.1.1 (by simp) ?_
    intro j hj
    obtain rfl := List.mem_singleton.1 hj
    have h2 := wp_of_putQ h
    refine wpOp_mono (K := fun a' w' => S w' ∧ (S w' → wpLexT P ops Q S r a' w')) (fun a' w' h6 => ⟨fun _ _ => h6.1, lexT_any hQ r _ _ _ hc.2 h6.1 (h6.2 h6.1)⟩) ?_
    unfold wpOp
    simp only [hi]
    exact h2
  | .two i r j s, l, a, w, hc, hS, h => by
    obtain ⟨⟨oi, hi, h⟩, ⟨oj, hj, g⟩⟩ := h
    simp only [lexTOK, Bool.and_eq_true, beq_iff_eq] at hc
    obtain ⟨⟨hc1, hc2⟩, hc3, hc4⟩ := hc
    refine wpAnyLast_all hc1 (by simp) ?_
    intro k hk
    simp only [List.mem_cons, List.not_mem_nil, or_false] at hk
    rcases hk with rfl | rfl
    · have h2 := wp_of_putQ h
      refine wpOp_mono (K := fun a' w' => S w' ∧ (S w' → wpLexT P ops Q S r a' w')) (fun a' w' h6 => ⟨fun _ _ => h6.1, lexT_any hQ r _ _ _ hc3 h6.1 (h6.2 h6.1)⟩) ?_
      unfold wpOp
      simp only [hi]
      exact h2
    · have h2 := wp_of_putQ g
      refine wpOp_mono (K := fun a' w' => S w' ∧ (S w' → wpLexT P ops Q S s a' w')) (fun a' w' h6 => ⟨fun _ _ => h6.1, ?_⟩) ?_
      · have := lexT_any hQ s _ _ _ hc4 h6.1 (h6.2 h6.1)
        rw [hc2]
        exact this
      · unfold wpOp
        simp only [hj]
        exact h2

/-- THE REGION, along the tree that is chosen. -/
theorem regionT {id : Nat} (t : LT) (S : World → Prop) (hm : P.follows .mixedOrders = true)
    (hc : (t.len == ops.size && lexTOK .any ops t (Array.replicate ops.size false)) = true)
    (hQ : ∀ c a (N : Tmp) v w, Q (.panic c) { a with tmps := a.tmps.setIfInBounds N v } w → Q (.panic c) a w)
    (hS : S w.drew) (h : S w.drew → wpLexT P ops Q S t a w.drew) : (Code.region id ops true).wp P Q a w := by
  simp only [Bool.and_eq_true, beq_iff_eq] at hc
  refine wp_region_last (S := S) (ds := []) hm ?_
  have := lexT_any hQ t _ a w.drew hc.2 hS (h hS)
  rw [hc.1] at this
  exact this
theorem lt_nil (h : Q .normal a w) : wpLexT P ops Q S .nil a w := h
theorem lt_p {a' : Act} {N : Option Tmp} {rs : List Oper} (hi : ops.toList.drop i = oi :: rs) (hN : oi.dst = N) (hw : Region.wanted oi (yielded ops a.tmps) = true) (hv : ∀ w', (execOp a.eval oi).run P w' = .ok (.value v) w') (ha : a.put N v = a')
    (h : wpLexT P ops Q S r a' w) : wpLexT P ops Q S (.one i .p r) a w := by
  subst ha hN
  exact ⟨oi, v, at_drop hi, .inl ⟨hw, hv⟩, h⟩
theorem lt_off {a' : Act} {N : Option Tmp} {rs : List Oper} (hi : ops.toList.drop i = oi :: rs) (hN : oi.dst = N) (hw : Region.wanted oi (yielded ops a.tmps) = false) (ha : a.put N undef = a')
    (h : wpLexT P ops Q S r a' w) : wpLexT P ops Q S (.one i .p r) a w := by
  subst ha hN
  exact ⟨oi, undef, at_drop hi, .inr ⟨hw, rfl⟩, h⟩
theorem lt_t {a' : Act} {N : Option Tmp} {rs : List Oper} (hi : ops.toList.drop i = oi :: rs) (hN : oi.dst = N) (hw : Region.wanted oi (yielded ops a.tmps) = true) (hv : ∀ w', S w' → (execOp a.eval oi).run P w' = .ok (.value v) w') (ha : a.put N v = a')
    (h : wpLexT P ops Q S r a' w) : wpLexT P ops Q S (.one i .t r) a w := by
  subst ha hN
  exact ⟨oi, v, at_drop hi, .inl ⟨hw, hv⟩, h⟩
theorem lt_o {rs : List Oper} (hi : ops.toList.drop i = oi :: rs) (h : wpList P ops (putQ Q (fun a' w' => S w' ∧ (S w' → wpLexT P ops Q S r a' w'))) [oi] a w) :
    wpLexT P ops Q S (.one i .o r) a w := ⟨oi, at_drop hi, h⟩
theorem lt_two {j : Nat} {oj : Oper} {s : LT} {rs rs2 : List Oper} (hi : ops.toList.drop i = oi :: rs) (hj : ops.toList.drop j = oj :: rs2)
    (h : wpList P ops (putQ Q (fun a' w' => S w' ∧ (S w' → wpLexT P ops Q S r a' w'))) [oi] a w) (g : wpList P ops (putQ Q (fun a' w' => S w' ∧ (S w' → wpLexT P ops Q S s a' w'))) [oj] a w) :
    wpLexT P ops Q S (.two i r j s) a w := ⟨⟨oi, at_drop hi, h⟩, ⟨oj, at_drop hj, g⟩⟩
/-- the end of a list of one operation -/
theorem lt_end {a' : Act} (ha : a = a') (hS : S w) (h : S w → wpLexT P ops Q S r a' w) : wpList P ops (putQ Q (fun a' w' => S w' ∧ (S w' → wpLexT P ops Q S r a' w'))) [] a w := by
  subst ha
  exact ⟨hS, h⟩
end
end Go.Proofs.Ytfeohojpjncgaaa.Lex

set_option linter.unusedSimpArgs false
set_option linter.unusedVariables false
namespace Go.Proofs.Ytfeohojpjncgaaa.Sha
open Go.RowKit Go.Proofs.YtfeohojpjncgaaaW.PrintWords Go.Proofs.YtfeohojpjncgaaaW.PrintLast Go.Proofs.YtfeohojpjncgaaaW.PrintMore Go.Proofs.Ytfeohojpjncgaaa.PSha1Plays Go.Proofs.Ytfeohojpjncgaaa.Lex Go.Proofs.Ytfeohojpjncgaaa.Lib
theorem OB.ltB {b : Nat} {w : World} {v : Value} {xs : List Int} (h : OB b w v xs) (k : Nat) (hk : v.ownBlock = some k) : b ≤ k ∧ k < w.heap.size := by
  obtain ⟨_, h2, h3, _⟩ := (Kd.R_bound h).1 k hk
  exact ⟨h2, h3⟩
theorem bsz {b : Nat} {w w' : World} (h : Below b w w') (hb : b ≤ w.heap.size) : b ≤ w'.heap.size := Nat.le_trans hb h.size
/-- rows of bytes beside each other, each in a block of its own -/
def Rws (b : Nat) (w : World) (l : List (Value × List Int)) : Prop := (∀ p ∈ l, OB b w p.1 p.2) ∧ l.Pairwise (fun p q => ∀ k, p.1.ownBlock = some k → q.1.ownBlock ≠ some k)
section
variable {b : Nat} {w : World} {p q : Value × List Int} {l : List (Value × List Int)} {v : Value} {xs : List Int}
theorem Rws.hd (h : Rws b w ((v, xs) :: l)) : OB b w v xs := h.1 _ (List.mem_cons_self ..)
theorem Rws.tl (h : Rws b w (p :: l)) : Rws b w l := ⟨fun x hx => h.1 x (List.mem_cons_of_mem _ hx), (List.pairwise_cons.1 h.2).2⟩
theorem Rws.swap (h : Rws b w (p :: q :: l)) : Rws b w (q :: p :: l) := by
  obtain ⟨h1, h2⟩ := h
  refine ⟨fun x hx => h1 x (by simp only [List.mem_cons] at hx ⊢; rcases hx with h | h | h <;> simp [h]), ?_⟩
  rw [List.pairwise_cons] at h2 ⊢
  obtain ⟨h2, h3⟩ := h2
  rw [List.pairwise_cons] at h3 ⊢
  refine ⟨fun x hx => ?_, fun x hx => h2 x (List.mem_cons_of_mem _ hx), h3.2⟩
  rcases List.mem_cons.1 hx with rfl | hx
  · intro k h4 h5
    exact h2 q (List.mem_cons_self ..) k h5 h4
  · exact h3.1 x hx
theorem Rws.below {w1 : World} (h : Rws b w l) (hb : Below w.heap.size w w1) : Rws b w1 l := ⟨fun p hp => (h.1 p hp).below hb, h.2⟩
theorem Rws.lit (h : Rws b w l) (y : Int) (hb : b ≤ w.heap.size) {g : Nat} (hg : w.heap.size = g) : Rws b (w.alloc (.cells #[.int .u8 y] 5)) ((.slice (some ⟨g, 0, none⟩) 1 1, [y]) :: l) := by
  subst hg
  refine ⟨fun p hp => ?_, List.pairwise_cons.2 ⟨fun p hp k h1 h2 => ?_, h.2⟩⟩
  · rcases List.mem_cons.1 hp with rfl | hp
    · exact OB.lit w [y] _ rfl 1 rfl hb (by simp)
    · exact (h.1 p hp).below (below_alloc (Below.refl _ _) _)
  · have h3 := (OB.ltB (h.1 p hp) k h2).2
    injection h1 with h1
    rw [← h1] at h3
    exact Nat.lt_irrefl _ h3
end
section
variable {ops : Array Oper} {rest : List Oper} {o : Oper} {a : Act} {Q : Exit → Act → World → Prop}
/-- an append to the first row; the others stay -/
theorem ap_rws {W : World} {b : Nat} (s x : Operand) (hgd : o.guard = none)
    (ho : o.op = .call { callee := .builtin .append, args := #[s, x], argTypes := #[22, 22] })
    {v : Value} {xs ys : List Int} {l : List (Value × List Int)} {A : Option Addr} {m c : Nat} (HO : Rws b W ((v, xs) :: l)) (HR : Kd.C KB W A m ys)
    (hs : a.eval s = v) (hx : a.eval x = .slice A m c) (hb : b ≤ W.heap.size) (hl : xs.length + m ≤ 140737488355328)
    (h : ∀ v1 w1, Rws b w1 ((v1, xs ++ ys) :: l) → Below b W w1 → wpList Try.prog ops Q rest (a.put o.dst v1) w1) :
    wpList Try.prog ops Q (o :: rest) a W :=
  Kd.R_append_row (w0 := W) (Value.int .u8) 0 b hgd s x 22 5 (.int .u8 0) 1 ho Try.underlying22 info5 rfl (by decide) v xs ys A m c (fun _ => True) hs hx (fun _ _ => trivial) HO.hd HR (Below.refl _ _) hb (by omega) (fun v1 w1 h1 h2 hg ho1 => h v1 w1 (by
    refine ⟨fun p hp => ?_, List.pairwise_cons.2 ⟨fun p hp k h3 h4 => ?_, HO.tl.2⟩⟩
    · rcases List.mem_cons.1 hp with rfl | hp
      · exact h1
      · have HU := HO.tl.1 p hp
        exact OB.step HU (fun k hk => hg.block k (OB.ltB HU k hk).2 (fun e => (List.pairwise_cons.1 HO.2).1 p hp k (by rw [← e]) hk))
    · rcases ho1 with e1 | ⟨b', e1, e2⟩
      · exact (List.pairwise_cons.1 HO.2).1 p hp k (by rw [← e1]; exact h3) h4
      · rw [e1] at h3
        injection h3 with h3
        have := (OB.ltB (HO.tl.1 p hp) k h4).2
        omega) h2)
end
theorem xorB_succ (x : Int) (bs : List Int) (k : Nat) (hk : k < bs.length) : (xorB x bs).take (k + 1) = (xorB x bs).take k ++ [Go.bits .xor .u8 (bs.getD k 0) x] := by
  rw [take_one _ _ (by rw [xorB_len]; exact hk), xorB_take x bs k hk]
set_option maxRecDepth 100000 in
set_option maxHeartbeats 4000000 in
theorem rtagC (A : Option Addr) (c : Nat) (key : List Int) (A2 : Option Addr) (c2 : Nat) (msg : List Int) (w : World) (hx : Kd.C KB w A key.length key) (hc : key.length ≤ c) (hk : Byt key) (hl : key.length ≤ 1048576)
    (hx2 : Kd.C KB w A2 msg.length msg) (hc2 : msg.length ≤ c2) (hk2 : Byt msg) (hl2 : msg.length ≤ 1000000) :
    Calls Try.prog 17 #[.slice A key.length c, .slice A2 msg.length c2] w fun e w' => e = .returned (.agg ((tagOf key msg).map (Value.int .u8)).toArray) ∧ Below w.heap.size w w' := by
  obtain ⟨z2, hz2, HZ2, hz⟩ := z20_ex
  obtain ⟨z6, hz6, HZ6, hzz⟩ := z64_ex
  have HX2 := Aside0.mk hx2
  have HK2 := Aside0.mk hk2
  have HAR := Aside0.mk (Arr.new w 41 (List.replicate 20 0) z2 (k := .u8) HZ2.out)
  have HB1 := Aside0.mk (below_alloc (Below.refl w.heap.size w) (.cells z2 41))
  have HBK := Aside0.mk (rblockC A c key _ (Kd.C_below hx HB1.out) hc hk hl)
  obtain ⟨b6, hb6⟩ : ∃ b, ((blockOf key).map (Value.int .u8)).toArray = b := ⟨_, rfl⟩
  rw [hb6] at HBK
  have HB6 := Aside0.mk hb6.symm
  have hbz : b6.size = 64 := by rw [← hb6]; simpa using blockOf_len key
  have hst := Aside0.mk (new64 (blockOf_len key) HB6.out hz6)
  obtain ⟨bx, hbx⟩ : ∃ bx, ((tagOf key msg).map (Value.int .u8)).toArray = bx := ⟨_, rfl⟩
  rw [hbx]
  have HBX := Aside0.mk hbx.symm
  have HKB := Aside0.mk (blockOf_byt hk)
  obtain ⟨bs, hbs⟩ : ∃ bs, blockOf key = bs := ⟨_, rfl⟩
  have HBS := Aside0.mk hbs
  have HBL := Aside0.mk (show bs.length = 64 by rw [← hbs]; exact blockOf_len key)
  clear hx hk hl hx2 hk2 hb6 hbx hbs
  go_enter Try.func17, Try.ntmps17
  go_wp2_with fail
  refine HBK.out.mono ?_
  rintro e w2 ⟨rfl, hb2⟩
  have hA4 := Arr.new (k := .u8) w2 25 (blockOf key) b6 HB6.out
  have hb3 := below_alloc (Below.refl w2.heap.size w2) (.cells b6 25)
  have hAR3 := (HAR.out.later hb2).later hb3
  have hB3 := HB1.out.trans ((hb2.trans (hb3.mono hb2.size)).mono HB1.out.size)
  have hs3 : (w2.alloc (.cells b6 25)).heap.size = w2.heap.size + 1 := by simp
  obtain ⟨V, hV⟩ : ∃ V, w2.alloc (.cells b6 25) = V := ⟨_, rfl⟩
  rw [hV] at hA4 hAR3 hB3 hs3
  have HV := Aside0.mk hV
  rw [HBS.out] at hA4
  have HA4 := Aside0.mk hA4
  have HAR3 := Aside0.mk hAR3
  have HB3 := Aside0.mk hB3
  have HS3 := Aside0.mk hs3
  clear hV hA4 hAR3 hB3 hs3 hb2 hb3 HAR HB1 HBK
  go_wp2_with (refine pl_store rfl 25 _ _ rfl _ _ (hst.out _) rfl rfl ?_)
  rw [HV.out]
  obtain ⟨q, hq⟩ : ∃ q, w2.heap.size = q := ⟨_, rfl⟩
  rw [hq] at HA4 HS3 ⊢
  clear hq HV hst hzz
  go_loopg [6, 7, 8] 64 (fun gk s6 s7 s8 W => ∃ k : Nat, k ≤ 64 ∧ 64 - k ≤ gk ∧ s8 = .int .i64 k ∧ Aside0 (Rws V.heap.size W [(s6, (xorB 54 bs).take k), (s7, (xorB 92 bs).take k)]) ∧ Aside0 (Below V.heap.size V W))
  case atStart => exact ⟨0, by omega, by omega, rfl, ⟨by
    refine ⟨fun p hp => ?_, by simp [Value.ownBlock]⟩
    simp only [List.mem_cons, List.not_mem_nil, or_false] at hp
    rcases hp with rfl | rfl <;> exact OB.nil _ _⟩, ⟨Below.refl _ _⟩⟩
  case round =>
    obtain ⟨k, hk, hgk, rfl, HR, HBV⟩ := hrel
    by_cases hlt : k < 64
    · have hlI : (k : Int) < 64 := by omega
      have HK := Aside0.mk hlt
      have g0 := ((HA4.out.later HBV.out).cell k (by rw [HBL.out]; exact hlt)).1
      have HS6 := Aside0.mk (xorB_succ 54 bs k (by rw [HBL.out]; exact hlt))
      have HS7 := Aside0.mk (xorB_succ 92 bs k (by rw [HBL.out]; exact hlt))
      have hcell0 : ∀ W, Below V.heap.size wr W → W.cell? ⟨q, k, none⟩ = some (.int .u8 (bs.getD k 0)) := fun W hW => ((HA4.out.later (HBV.out.trans hW)).cell k (by rw [HBL.out]; exact hlt)).1
      obtain ⟨y, hy⟩ : ∃ y, bs.getD k 0 = y := ⟨_, rfl⟩
      rw [hy] at g0 HS6 HS7 hcell0
      have HC0 := Aside0.mk hcell0
      clear hcell0
      have h6 : ((xorB 54 bs).take k).length ≤ 64 := by rw [List.length_take]; omega
      have h7 : ((xorB 92 bs).take k).length ≤ 64 := by rw [List.length_take]; omega
      obtain ⟨X6, hX6⟩ : ∃ X, (xorB 54 bs).take k = X := ⟨_, rfl⟩
      obtain ⟨X7, hX7⟩ : ∃ X, (xorB 92 bs).take k = X := ⟨_, rfl⟩
      rw [hX6] at HS6 HR h6
      rw [hX7] at HS7 HR h7
      clear hX6 hX7 hy hlt
      have hbs := HBV.out.size
      go_wp2_with fail
      refine regionT (.one 0 .p (.one 1 .p (.one 2 .p (.one 7 .p (.one 8 .p (.one 9 .p (.one 3 .t (.one 4 .p (.one 10 .t (.one 11 .p (.two 5 (.two 6 (.one 12 .o (.one 13 .o (.one 14 .p (.one 15 .p .nil)))) 12 (.one 6 .o (.one 13 .o (.one 14 .p (.one 15 .p .nil))))) 12 (.one 5 .o (.one 6 .o (.one 13 .o (.one 14 .p (.one 15 .p .nil)))))))))))))))) (fun W => W.cell? ⟨q, k, none⟩ = some (.int .u8 y)) (by kernel_rfl) (by kernel_rfl) (fun _ _ _ _ _ h => h) (g0) (fun hHeld => ?_)
      iterate 6 (refine lt_p rfl rfl rfl (by intro w'; go_simp; with_reducible rfl) (by simp only [Act.put, List.setIfInBounds_toArray, List.set_cons_zero, List.set_cons_succ, i64_w, i32_w]; rfl) ?_)
      (refine lt_t rfl rfl rfl (by rintro w' s0; go_simp; with_reducible rfl) (by simp only [Act.put, List.setIfInBounds_toArray, List.set_cons_zero, List.set_cons_succ, i64_w, i32_w]; rfl) ?_)
      (refine lt_p rfl rfl rfl (by intro w'; go_simp; with_reducible rfl) (by simp only [Act.put, List.setIfInBounds_toArray, List.set_cons_zero, List.set_cons_succ, i64_w, i32_w]; rfl) ?_)
      (refine lt_t rfl rfl rfl (by rintro w' s0; go_simp; with_reducible rfl) (by simp only [Act.put, List.setIfInBounds_toArray, List.set_cons_zero, List.set_cons_succ, i64_w, i32_w]; rfl) ?_)
      (refine lt_p rfl rfl rfl (by intro w'; go_simp; with_reducible rfl) (by simp only [Act.put, List.setIfInBounds_toArray, List.set_cons_zero, List.set_cons_succ, i64_w, i32_w]; rfl) ?_)
      refine lt_two rfl rfl ?_ ?_
      · go_wp2_with fail
        have HBa := Aside0.mk ((below_alloc (below_drew (Below.refl wr.heap.size wr)) (.cells #[.int .u8 (Go.bits .xor .u8 y 54)] 5)).mono hbs)
        have HRa := Aside0.mk ((HR.out.below (below_drew (Below.refl wr.heap.size wr))).lit (Go.bits .xor .u8 y 54) hbs (g := wr.heap.size) rfl)
        refine lt_end (by first | (simp only [Act.put, List.setIfInBounds_toArray, List.set_cons_zero, List.set_cons_succ, i64_w, i32_w]; rfl) | rfl) (HC0.out _ HBa.out) (fun hHeld => ?_)
        refine lt_two rfl rfl ?_ ?_
        · refine ap_rws _ _ rfl rfl HRa.out.tl HRa.out.hd.readsAt rfl rfl (bsz HBa.out hbs) (by omega) ?_
          intro v1 w1 hr hb
          have HRb := Aside0.mk hr
          have HBb := Aside0.mk (HBa.out.trans hb)
          clear hr hb
          refine lt_end (by first | (simp only [Act.put, List.setIfInBounds_toArray, List.set_cons_zero, List.set_cons_succ, i64_w, i32_w]; rfl) | rfl) (HC0.out _ HBb.out) (fun hHeld => ?_)
          refine lt_o rfl ?_
          go_wp2_with fail
          have HBc := Aside0.mk (HBb.out.trans ((below_alloc (Below.refl w1.heap.size w1) (.cells #[.int .u8 (Go.bits .xor .u8 y 92)] 5)).mono (Nat.le_trans hbs HBb.out.size)))
          have HRc := Aside0.mk (HRb.out.lit (Go.bits .xor .u8 y 92) (Nat.le_trans hbs HBb.out.size) (g := w1.heap.size) rfl)
          refine lt_end (by first | (simp only [Act.put, List.setIfInBounds_toArray, List.set_cons_zero, List.set_cons_succ, i64_w, i32_w]; rfl) | rfl) (HC0.out _ HBc.out) (fun hHeld => ?_)
          refine lt_o rfl ?_
          refine ap_rws _ _ rfl rfl HRc.out.tl.swap HRc.out.hd.readsAt rfl rfl (bsz HBc.out hbs) (by omega) ?_
          intro v2 w3 hr hb
          have HRe := Aside0.mk hr
          have HBe := Aside0.mk (HBc.out.trans hb)
          clear hr hb
          refine lt_end (by first | (simp only [Act.put, List.setIfInBounds_toArray, List.set_cons_zero, List.set_cons_succ, i64_w, i32_w]; rfl) | rfl) (HC0.out _ HBe.out) (fun hHeld => ?_)
          iterate 2 (refine lt_p rfl rfl rfl (by intro w'; go_simp; with_reducible rfl) (by simp only [Act.put, List.setIfInBounds_toArray, List.set_cons_zero, List.set_cons_succ, i64_w, i32_w]; rfl) ?_)
          refine lt_nil ?_
          go_wp2_with fail
          go_roundg (gk - 1)
          case measure => have := HK.out; omega
          case rel =>
            have hk := HK.out
            refine ⟨k + 1, by omega, by omega, by go_num, ⟨by rw [HS6.out, HS7.out]; exact HRe.out.swap⟩, ⟨HBV.out.trans HBe.out⟩⟩
        · go_wp2_with fail
          have HBb := Aside0.mk (HBa.out.trans ((below_alloc (Below.refl (wr.drew.alloc (.cells #[.int .u8 (Go.bits .xor .u8 y 54)] 5)).heap.size _) (.cells #[.int .u8 (Go.bits .xor .u8 y 92)] 5)).mono (bsz HBa.out hbs)))
          have HRb := Aside0.mk (HRa.out.lit (Go.bits .xor .u8 y 92) (bsz HBa.out hbs) (g := wr.heap.size + 1) (by simp))
          refine lt_end (by first | (simp only [Act.put, List.setIfInBounds_toArray, List.set_cons_zero, List.set_cons_succ, i64_w, i32_w]; rfl) | rfl) (HC0.out _ HBb.out) (fun hHeld => ?_)
          refine lt_o rfl ?_
          refine ap_rws _ _ rfl rfl HRb.out.swap.tl.swap HRb.out.tl.hd.readsAt rfl rfl (bsz HBb.out hbs) (by omega) ?_
          intro v1 w1 hr hb
          have HRc := Aside0.mk hr
          have HBc := Aside0.mk (HBb.out.trans hb)
          clear hr hb
          refine lt_end (by first | (simp only [Act.put, List.setIfInBounds_toArray, List.set_cons_zero, List.set_cons_succ, i64_w, i32_w]; rfl) | rfl) (HC0.out _ HBc.out) (fun hHeld => ?_)
          refine lt_o rfl ?_
          refine ap_rws _ _ rfl rfl HRc.out.swap.tl.swap HRc.out.tl.hd.readsAt rfl rfl (bsz HBc.out hbs) (by omega) ?_
          intro v2 w3 hr hb
          have HRe := Aside0.mk hr
          have HBe := Aside0.mk (HBc.out.trans hb)
          clear hr hb
          refine lt_end (by first | (simp only [Act.put, List.setIfInBounds_toArray, List.set_cons_zero, List.set_cons_succ, i64_w, i32_w]; rfl) | rfl) (HC0.out _ HBe.out) (fun hHeld => ?_)
          iterate 2 (refine lt_p rfl rfl rfl (by intro w'; go_simp; with_reducible rfl) (by simp only [Act.put, List.setIfInBounds_toArray, List.set_cons_zero, List.set_cons_succ, i64_w, i32_w]; rfl) ?_)
          refine lt_nil ?_
          go_wp2_with fail
          go_roundg (gk - 1)
          case measure => have := HK.out; omega
          case rel =>
            have hk := HK.out
            refine ⟨k + 1, by omega, by omega, by go_num, ⟨by rw [HS6.out, HS7.out]; exact HRe.out.swap⟩, ⟨HBV.out.trans HBe.out⟩⟩
      · go_wp2_with fail
        have HBa := Aside0.mk ((below_alloc (below_drew (Below.refl wr.heap.size wr)) (.cells #[.int .u8 (Go.bits .xor .u8 y 92)] 5)).mono hbs)
        have HRa := Aside0.mk ((HR.out.below (below_drew (Below.refl wr.heap.size wr))).lit (Go.bits .xor .u8 y 92) hbs (g := wr.heap.size) rfl)
        refine lt_end (by first | (simp only [Act.put, List.setIfInBounds_toArray, List.set_cons_zero, List.set_cons_succ, i64_w, i32_w]; rfl) | rfl) (HC0.out _ HBa.out) (fun hHeld => ?_)
        refine lt_o rfl ?_
        go_wp2_with fail
        have HBb := Aside0.mk (HBa.out.trans ((below_alloc (Below.refl (wr.drew.alloc (.cells #[.int .u8 (Go.bits .xor .u8 y 92)] 5)).heap.size _) (.cells #[.int .u8 (Go.bits .xor .u8 y 54)] 5)).mono (bsz HBa.out hbs)))
        have HRb := Aside0.mk (HRa.out.lit (Go.bits .xor .u8 y 54) (bsz HBa.out hbs) (g := wr.heap.size + 1) (by simp))
        refine lt_end (by first | (simp only [Act.put, List.setIfInBounds_toArray, List.set_cons_zero, List.set_cons_succ, i64_w, i32_w]; rfl) | rfl) (HC0.out _ HBb.out) (fun hHeld => ?_)
        refine lt_o rfl ?_
        refine ap_rws _ _ rfl rfl HRb.out.tl.swap HRb.out.hd.readsAt rfl rfl (bsz HBb.out hbs) (by omega) ?_
        intro v1 w1 hr hb
        have HRc := Aside0.mk hr
        have HBc := Aside0.mk (HBb.out.trans hb)
        clear hr hb
        refine lt_end (by first | (simp only [Act.put, List.setIfInBounds_toArray, List.set_cons_zero, List.set_cons_succ, i64_w, i32_w]; rfl) | rfl) (HC0.out _ HBc.out) (fun hHeld => ?_)
        refine lt_o rfl ?_
        refine ap_rws _ _ rfl rfl HRc.out.swap.tl.swap HRc.out.tl.hd.readsAt rfl rfl (bsz HBc.out hbs) (by omega) ?_
        intro v2 w3 hr hb
        have HRe := Aside0.mk hr
        have HBe := Aside0.mk (HBc.out.trans hb)
        clear hr hb
        refine lt_end (by first | (simp only [Act.put, List.setIfInBounds_toArray, List.set_cons_zero, List.set_cons_succ, i64_w, i32_w]; rfl) | rfl) (HC0.out _ HBe.out) (fun hHeld => ?_)
        iterate 2 (refine lt_p rfl rfl rfl (by intro w'; go_simp; with_reducible rfl) (by simp only [Act.put, List.setIfInBounds_toArray, List.set_cons_zero, List.set_cons_succ, i64_w, i32_w]; rfl) ?_)
        refine lt_nil ?_
        go_wp2_with fail
        go_roundg (gk - 1)
        case measure => have := HK.out; omega
        case rel =>
          have hk := HK.out
          refine ⟨k + 1, by omega, by omega, by go_num, ⟨by rw [HS6.out, HS7.out]; exact HRe.out.swap⟩, ⟨HBV.out.trans HBe.out⟩⟩
    · obtain rfl : k = 64 := by omega
      have hB2 := Kd.C_below HX2.out (HB3.out.trans (HBV.out.mono HB3.out.size))
      rw [List.take_of_length_le (by rw [xorB_len, HBL.out]; exact Nat.le_refl _), List.take_of_length_le (by rw [xorB_len, HBL.out]; exact Nat.le_refl _)] at HR
      have h6 : (xorB 54 bs).length = 64 := by rw [xorB_len, HBL.out]
      have h7 : (xorB 92 bs).length = 64 := by rw [xorB_len, HBL.out]
      have hy6 : Byt (xorB 54 bs) := xorB_byt 54 bs
      have hy7 : Byt (xorB 92 bs) := xorB_byt 92 bs
      obtain ⟨X6, hX6⟩ : ∃ X, xorB 54 bs = X := ⟨_, rfl⟩
      obtain ⟨X7, hX7⟩ : ∃ X, xorB 92 bs = X := ⟨_, rfl⟩
      rw [hX6] at HR h6 hy6
      rw [hX7] at HR h7 hy7
      have HX6 := Aside0.mk hX6
      have HX7 := Aside0.mk hX7
      have HC2 := Aside0.mk hB2
      clear hX6 hX7 hB2
      go_wp2_with ((with_reducible refine gate_builtin (b := .append) (xs := #[.tmp 30, .tmp 31]) rfl ?_); refine ap_rws _ _ rfl rfl HR.out HC2.out rfl rfl HBV.out.size (by omega) ?_; intro v1 w1 hr1 hb1; obtain ⟨A1, c1, rfl, hc1, hC1⟩ := hr1.hd.reads; have HR1 := Aside0.mk hr1.tl; have HB1 := Aside0.mk (HBV.out.trans hb1); clear hr1 hb1)
      have hS1 := rsumC A1 c1 (X6 ++ msg) w1 hC1 hc1 (hy6.append HK2.out) (by simp; omega)
      obtain ⟨b7, hb7⟩ : ∃ b, ((sumOf (X6 ++ msg)).map (Value.int .u8)).toArray = b := ⟨_, rfl⟩
      rw [hb7, List.length_append, h6] at hS1
      have HB7 := Aside0.mk hb7.symm
      have hbz7 : b7.size = 20 := by rw [← hb7]; simpa using sumOf_len (X6 ++ msg)
      have hst7 := Aside0.mk (new20 (sumOf_len (X6 ++ msg)) HB7.out hz2)
      have hby7 := sumOf_byt (X6 ++ msg)
      have hln7 := sumOf_len (X6 ++ msg)
      obtain ⟨ds, hds⟩ : ∃ ds, sumOf (X6 ++ msg) = ds := ⟨_, rfl⟩
      rw [hds] at HB7 hby7 hln7
      have HDS := Aside0.mk hds
      clear hb7 hds HR HC2 HBV
      refine hS1.mono ?_
      rintro e w3 ⟨rfl, hb3⟩
      have hR3 := HR1.out.below hb3
      have hB3' := HB1.out.trans (hb3.mono HB1.out.size)
      have hD3 := Arr.new (k := .u8) w3 41 ds b7 HB7.out
      have hb4 := below_alloc (Below.refl w3.heap.size w3) (.cells b7 41)
      have hR4 := hR3.below hb4
      have hB4 := hB3'.trans (hb4.mono hB3'.size)
      obtain ⟨U, hU⟩ : ∃ U, w3.alloc (.cells b7 41) = U := ⟨_, rfl⟩
      rw [hU] at hD3 hR4 hB4
      have HU := Aside0.mk hU
      have HD4 := Aside0.mk hD3
      have HR4 := Aside0.mk hR4
      have HB4 := Aside0.mk hB4
      clear hU hD3 hR3 hR4 hB3' hB4 hb3 hb4 HR1 HB1 hC1 hS1
      go_wp2_with (first | (refine pl_store rfl 41 _ _ rfl _ _ (hst7.out _) rfl rfl ?_; rw [HU.out]) | ((with_reducible refine gate_builtin (b := .append) (xs := #[.tmp 34, .tmp 35]) rfl ?_); refine ap_rws _ _ rfl rfl HR4.out (row20 HD4.out hln7) rfl rfl HB4.out.size (by omega) ?_; intro v5 w5 hr1 hb1; obtain ⟨A5, c5, rfl, hc5, hC5⟩ := hr1.hd.reads; have HB5 := Aside0.mk (HB4.out.trans hb1); clear hr1 hb1))
      have hS5 := rsumC A5 c5 (X7 ++ ds) w5 hC5 hc5 (hy7.append hby7) (by simp; omega)
      have htag : sumOf (X7 ++ ds) = tagOf key msg := by rw [← HDS.out, ← HX6.out, ← HX7.out, ← HBS.out]; rfl
      rw [htag, ← HBX.out, show (X7 ++ ds).length = 84 by simp [h7, hln7]] at hS5
      refine hS5.mono ?_
      rintro e w6 ⟨rfl, hb6⟩
      have hB6 := HB5.out.trans (hb6.mono HB5.out.size)
      obtain ⟨W7, hst8, ha8, hb8⟩ := store20 (HAR3.out.later hB6) (by simp) (tagOf_len key msg) HBX.out
      have HST8 := Aside0.mk hst8
      have HLD8 := Aside0.mk (load20 ha8 (tagOf_len key msg) HBX.out)
      have HB8 := Aside0.mk ((HB3.out.trans (hB6.mono HB3.out.size)).trans (hb8.below (HB3.out.trans (hB6.mono HB3.out.size)).size (fun j hj e => by have : j = w.heap.size := e; omega)))
      clear hb6 hB6 hst8 ha8 hb8 hS5 hC5 HB5
      go_wp2_with (refine pl_store rfl 41 _ _ rfl _ _ HST8.out rfl rfl ?_)
      refine bodyPost_ret (results_row rfl _ _ w.heap.size bx rfl HLD8.out) rfl ?_
      exact ⟨rfl, HB8.out⟩
end Go.Proofs.Ytfeohojpjncgaaa.Sha

set_option linter.unusedSimpArgs false
set_option linter.unusedVariables false
namespace Go.Proofs.Ytfeohojpjncgaaa.Sha
open Go.RowKit Go.Proofs.YtfeohojpjncgaaaW.PrintWords Go.Proofs.YtfeohojpjncgaaaW.PrintLast Go.Proofs.YtfeohojpjncgaaaW.PrintMore Go.Proofs.Ytfeohojpjncgaaa.PSha1Plays Go.Proofs.Ytfeohojpjncgaaa.Lex Go.Proofs.Ytfeohojpjncgaaa.Lib
set_option maxRecDepth 100000 in
theorem zero12 (w : World) : (zeroValue 48).run Try.prog w = .ok (.agg (List.replicate 12 (.int .u8 0)).toArray) w := by kernel_rfl
theorem z12_ex : ∃ zs : Array Value, zs.size = 12 ∧ Aside0 (zs = ((List.replicate 12 (0 : Int)).map (Value.int .u8)).toArray) ∧ ∀ w, (zeroValue 48).run Try.prog w = .ok (.agg zs) w := ⟨_, by simp, ⟨by simp⟩, zero12⟩
theorem hi12 {xs : List Int} (h : xs.length = 12) : (Try.prog.info? 48).map (·.size) = some xs.length := by rw [h]; kernel_rfl
theorem store12 {g : Nat} {w : World} {xs ys : List Int} (h : Arr .u8 g 48 w xs) (hx : xs.length = 12) (hy : ys.length = 12) {bx : Array Value} (hb : bx = (ys.map (Value.int .u8)).toArray) :
    ∃ W', (storeVar 48 ⟨g, 0, none⟩ (.agg bx)).run Try.prog w = .ok () W' ∧ Arr .u8 g 48 W' ys ∧ But w.heap.size (fun j => j = g) w W' := by
  subst hb
  exact arr_store h 48 ys (by rw [hy, hx]) (hi12 hy)
theorem load12 {g : Nat} {w : World} {ys : List Int} (h : Arr .u8 g 48 w ys) (hy : ys.length = 12) {bx : Array Value} (hb : bx = (ys.map (Value.int .u8)).toArray) : (loadVar 48 ⟨g, 0, none⟩).run Try.prog w = .ok (.agg bx) w := by
  subst hb
  exact arr_load h 48 Try.underlying48 (hi12 hy)
theorem take12 (k m : List Int) : ((tagOf k m).take 12).length = 12 := by rw [List.length_take, tagOf_len]; rfl
set_option maxRecDepth 100000 in
set_option maxHeartbeats 4000000 in
theorem shortC (A : Option Addr) (n c : Nat) (key : List Int) (A2 : Option Addr) (n2 c2 M : Nat) (ps : List (List Int)) (w : World) (hx : Kd.C KB w A key.length key) (hn : n = key.length) (hc : n ≤ c) (hk : Byt key) (hl : key.length ≤ 1048576)
    (hX : Kd.C KBB w A2 ps.length ps) (hn2 : n2 = ps.length) (hby : ∀ z ∈ ps, Byt z ∧ z.length ≤ M) (hM : M ≤ 3000000) (hpM : ps.length * M ≤ 10000000) (hpl : ps.length ≤ 1000000) :
    Calls Try.prog 20 #[.slice A n c, .slice A2 n2 c2] w fun e w' => e = .returned (.tuple #[.agg (((tagOf key (flat ps)).take 12).map (Value.int .u8)).toArray, .int .i64 0]) ∧ Below w.heap.size w w' := by
  obtain ⟨z2, hz2, HZ2, hz⟩ := z20_ex
  obtain ⟨z1, hz1, HZ1, hzz⟩ := z12_ex
  have HAR := Aside0.mk (Arr.new w 48 (List.replicate 12 0) z1 (k := .u8) HZ1.out)
  have HB1 := Aside0.mk (below_alloc (Below.refl w.heap.size w) (.cells z1 48))
  have hT := tagC A n c key A2 n2 c2 M ps _ (Kd.C_below hx HB1.out) hn hc hk hl (Kd.C_below hX HB1.out) hn2 hby hM hpM hpl
  obtain ⟨T, hT2⟩ : ∃ T, tagOf key (flat ps) = T := ⟨_, rfl⟩
  have HTL := Aside0.mk (show T.length = 20 by rw [← hT2]; exact tagOf_len _ _)
  rw [hT2] at hT ⊢
  obtain ⟨b2, hb2⟩ : ∃ b, (T.map (Value.int .u8)).toArray = b := ⟨_, rfl⟩
  obtain ⟨bx, hbx⟩ : ∃ b, ((T.take 12).map (Value.int .u8)).toArray = b := ⟨_, rfl⟩
  rw [hb2] at hT
  rw [hbx]
  have HBX := Aside0.mk hbx.symm
  have HB2 := Aside0.mk hb2.symm
  have hbz : b2.size = 20 := by rw [← hb2]; simpa using HTL.out
  have hst := Aside0.mk (new20 HTL.out HB2.out hz2)
  have HT := Aside0.mk hT
  clear hx hn hc hk hl hX hn2 hby hM hpM hpl hT hT2 hb2 hbx
  go_enter Try.func20, Try.ntmps20
  go_wp2_with fail
  refine HT.out.mono ?_
  rintro e w2 ⟨rfl, hb2⟩
  have hA3 := (HAR.out.later hb2).later (below_alloc (Below.refl _ _) (.cells b2 41))
  have hD3 := Arr.new (k := .u8) w2 41 T b2 HB2.out
  have hb3 := hb2.trans ((below_alloc (Below.refl w2.heap.size w2) (.cells b2 41)).mono hb2.size)
  have B3 := HB1.out.trans (hb3.mono HB1.out.size)
  obtain ⟨V, hV⟩ : ∃ V, w2.alloc (.cells b2 41) = V := ⟨_, rfl⟩
  rw [hV] at hA3 hD3 B3
  have HV := Aside0.mk hV
  have HA3 := Aside0.mk hA3
  have HD3 := Aside0.mk hD3
  have HB3 := Aside0.mk B3
  clear hA3 hD3 hb3 B3 hb2 HAR HB1 HT hV
  go_wp2_with (refine pl_store rfl 41 _ _ rfl _ _ (hst.out _) rfl rfl ?_)
  rw [HV.out]
  clear hz hzz hst
  refine region [(0, .p), (1, .p), (2, .e)] (fun _ => True) (by kernel_rfl) (by kernel_rfl) (fun _ _ _ _ _ h => h) (trivial) (fun hHeld => ?_)
  iterate 2 (refine lex_p rfl rfl rfl (by intro w'; go_simp; with_reducible rfl) (by simp only [Act.put, List.setIfInBounds_toArray, List.set_cons_zero, List.set_cons_succ, i64_w, i32_w]; rfl) ?_)
  refine lex_e rfl ?_
  refine ap_copyA (W := V.drew) (g := w.heap.size) (t := 48) (xs := List.replicate 12 0) (ys := T) _ _ rfl rfl (HA3.out.later (below_drew (Below.refl _ _))) (by rw [HTL.out]; exact row20 (HD3.out.later (below_drew (Below.refl _ _))) HTL.out) (by simp) HTL.out.symm rfl rfl (B := w.heap.size) (w0 := w) (HB3.out.trans ((below_drew (Below.refl V.heap.size V)).mono HB3.out.size)) (Nat.le_refl _) ?_
  intro w4 ha4 hb4
  refine putQ_normal ?_
  have ha4 : Arr .u8 w.heap.size 48 w4 (T.take 12) := by
    have h2 := ha4
    rw [List.length_replicate, List.drop_of_length_le (by rw [HTL.out]; simp), List.append_nil] at h2
    exact h2
  have hT12 : (T.take 12).length = 12 := by rw [List.length_take, HTL.out]; rfl
  obtain ⟨W5, hst5, ha5, hb5⟩ := store12 ha4 hT12 hT12 HBX.out
  have HLD := Aside0.mk (load12 ha4 hT12 HBX.out)
  have HST5 := Aside0.mk hst5
  have HLD5 := Aside0.mk (load12 ha5 hT12 HBX.out)
  have HB5 := Aside0.mk (hb4.trans (hb5.below hb4.size (fun j hj e => by have : j = w.heap.size := e; omega)))
  clear ha4 hst5 ha5 hb5 hT12 hb4
  go_wp2_with (first | (refine pl_load rfl 48 _ rfl _ _ HLD.out rfl ?_) | (refine pl_store rfl 48 _ _ rfl _ _ HST5.out rfl rfl ?_))
  refine bodyPost_ret (results_row_tmp rfl _ _ w.heap.size bx rfl HLD5.out) rfl ?_
  exact ⟨rfl, HB5.out⟩
end Go.Proofs.Ytfeohojpjncgaaa.Sha

set_option linter.unusedSimpArgs false
set_option linter.unusedVariables false
namespace Go.Proofs.Ytfeohojpjncgaaa.Sha
open Go.RowKit Go.Proofs.YtfeohojpjncgaaaW.PrintWords Go.Proofs.YtfeohojpjncgaaaW.PrintLast Go.Proofs.YtfeohojpjncgaaaW.PrintMore Go.Proofs.Ytfeohojpjncgaaa.PSha1Plays Go.Proofs.Ytfeohojpjncgaaa.Lex Go.Proofs.Ytfeohojpjncgaaa.Lib
theorem mCopy_nil (w : World) : Calls Try.prog 18 #[.pointer none] w fun e w' => e = .returned (.pointer none) ∧ w = w' := by
  go_enter Try.func18, Try.ntmps18
  go_wp2_with fail
  refine (mNone_nil w).mono ?_
  rintro e _ ⟨rfl, rfl⟩
  go_wp2_with fail
  go_ret
  exact ⟨rfl, rfl⟩
/-- the block of a tag under way, read whole -/
theorem loadMac {p h : Nat} {w : World} {bs : List Int} (hM : MO p h w bs) (hb : bs.length = 64) {bx : Array Value} (hbx : bx = (bs.map (Value.int .u8)).toArray) : (loadVar 25 ⟨p, 1, none⟩).run Try.prog w = .ok (.agg bx) w := by
  subst hbx
  refine run_loadVar_mid w p 1 25 (bs.map (Value.int .u8)) (.array 64 5) (fun j v hj => ?_) Try.underlying25 rfl (by simpa using hi64 hb)
  have h2 := (hM (j + 1) v (by rw [List.getElem?_cons_succ]; exact hj)).1
  rw [Nat.add_comm 1 j]
  exact h2
set_option maxRecDepth 100000 in
set_option maxHeartbeats 2000000 in
theorem mCopy {S : Nat → Prop} {p h : Nat} {key D : List Int} (w : World) (hM : MD S p h w key D) (hS : ∀ k, S k → k < w.heap.size) :
    Calls Try.prog 18 #[ptr p] w fun e w' => ∃ p2 h2, e = .returned (ptr p2) ∧ MD (fun k => w.heap.size ≤ k ∧ k < h2) p2 h2 w' key D ∧ w.heap.size ≤ p2 ∧ w.heap.size ≤ h2 ∧ Below w.heap.size w w' := by
  have c0 := hM.1.ptr
  have HM := Aside0.mk hM
  have HS := Aside0.mk hS
  obtain ⟨bx, hbx⟩ : ∃ bx, ((blockOf key).map (Value.int .u8)).toArray = bx := ⟨_, rfl⟩
  have HBX := Aside0.mk hbx.symm
  have hbz : bx.size = 64 := by rw [← hbx]; simpa using blockOf_len key
  have HBM := Aside0.mk (fun h => run_mac h bx hbz)
  have HLD : Aside0 (∀ W, Below w.heap.size w W → W.cell? ⟨p, 0, none⟩ = some (ptr h) ∧ (loadVar 25 ⟨p, 1, none⟩).run Try.prog W = .ok (.agg bx) W) := ⟨fun W hW => ⟨(HM.out.1.below hW HM.out.1.lt).ptr, loadMac (HM.out.1.below hW HM.out.1.lt) (blockOf_len key) HBX.out⟩⟩
  clear hM hS hbx
  go_enter Try.func18, Try.ntmps18
  go_wp2_with fail
  refine (mNone c0).mono ?_
  rintro e _ ⟨rfl, rfl⟩
  go_wp2_with fail
  refine region [(0, .p), (1, .p), (2, .p), (3, .p), (7, .p), (8, .p), (9, .p), (4, .t), (10, .t), (5, .o), (6, .p), (11, .p), (12, .q), (13, .p)] (fun W => W.cell? ⟨p, 0, none⟩ = some (ptr h) ∧ (loadVar 25 ⟨p, 1, none⟩).run Try.prog W = .ok (.agg bx) W) (by kernel_rfl) (by kernel_rfl) (fun _ _ _ _ _ h => h) (HLD.out _ (below_drew (Below.refl _ _))) (fun hHeld => ?_)
  iterate 7 (refine lex_p rfl rfl rfl (by intro w'; go_simp; with_reducible rfl) (by simp only [Act.put, List.setIfInBounds_toArray, List.set_cons_zero, List.set_cons_succ, i64_w, i32_w]; rfl) ?_)
  (refine lex_t rfl rfl rfl (by rintro w' ⟨s1, s2⟩; go_simp; with_reducible rfl) (by simp only [Act.put, List.setIfInBounds_toArray, List.set_cons_zero, List.set_cons_succ, i64_w, i32_w]; rfl) ?_)
  (refine lex_t rfl rfl rfl (by rintro w' ⟨s1, s2⟩; exact run_load_arr rfl rfl (by assumption)) (by simp only [Act.put, List.setIfInBounds_toArray, List.set_cons_zero, List.set_cons_succ, i64_w, i32_w]; rfl) ?_)
  refine lex_o rfl ?_
  go_wp2_with fail
  refine (dCopy (HM.out.2.1.below (below_drew (Below.refl w.heap.size w)) HS.out HM.out.2.1.lt)).mono ?_
  rintro e w2 ⟨h2, rfl, hd2, hh2, hb2⟩
  have HD2 := Aside0.mk hd2
  have HH2 := Aside0.mk (show w.heap.size ≤ h2 from hh2)
  have B2 := Aside0.mk ((below_drew (Below.refl w.heap.size w)).trans hb2)
  clear hd2 hh2 hb2
  go_wp2_with fail
  refine lex_end (by first | (simp only [Act.put, List.setIfInBounds_toArray, List.set_cons_zero, List.set_cons_succ, i64_w, i32_w]; rfl) | rfl) (HLD.out _ B2.out) (fun hHeld => ?_)
  (refine lex_p rfl rfl rfl (by intro w'; go_simp; with_reducible rfl) (by simp only [Act.put, List.setIfInBounds_toArray, List.set_cons_zero, List.set_cons_succ, i64_w, i32_w]; rfl) ?_)
  (refine lex_p rfl rfl rfl (by intro w'; exact run_build_two rfl rfl rfl (HBM.out h2 _)) (by simp only [Act.put, List.setIfInBounds_toArray, List.set_cons_zero, List.set_cons_succ, i64_w, i32_w]; rfl) ?_)
  refine lex_q rfl ?_
  go_wp2_with fail
  refine lex_endq (by first | (simp only [Act.put, List.setIfInBounds_toArray, List.set_cons_zero, List.set_cons_succ, i64_w, i32_w]; rfl) | rfl) ?_
  (refine lex_p rfl rfl rfl (by intro w'; go_simp; with_reducible rfl) (by simp only [Act.put, List.setIfInBounds_toArray, List.set_cons_zero, List.set_cons_succ, i64_w, i32_w]; rfl) ?_)
  refine lex_nil ?_
  go_wp2_with fail
  go_ret
  have hlt := HD2.out.lt
  have hb := below_alloc (Below.refl w2.heap.size w2) (.cells (#[ptr h2] ++ bx) 63)
  refine ⟨w2.heap.size, h2, rfl, ⟨Ob.new w2 _ _ (by rw [HBX.out]; simp) _, ?_, by omega⟩, B2.out.size, HH2.out, below_alloc B2.out _⟩
  exact (HD2.out.below hb (fun k hk => by have := hk.2; omega) hlt).mono (fun k hk => ⟨by have := hk.1; exact this, hk.2⟩)
end Go.Proofs.Ytfeohojpjncgaaa.Sha

set_option linter.unusedSimpArgs false
set_option linter.unusedVariables false
namespace Go.Proofs.Ytfeohojpjncgaaa.Sha
open Go.RowKit Go.Proofs.YtfeohojpjncgaaaW.PrintWords Go.Proofs.YtfeohojpjncgaaaW.PrintLast Go.Proofs.YtfeohojpjncgaaaW.PrintMore Go.Proofs.Ytfeohojpjncgaaa.PSha1Plays Go.Proofs.Ytfeohojpjncgaaa.Lex Go.Proofs.Ytfeohojpjncgaaa.Lib
set_option maxRecDepth 100000 in
theorem built20 (w : World) : (Instr.build 41 #[]).run Try.prog w = .ok (.agg ((List.replicate 20 (0 : Int)).map (Value.int .u8)).toArray) w := run_build w _ _ _ (by kernel_rfl)
set_option maxRecDepth 100000 in
set_option maxHeartbeats 2000000 in
theorem mTag_nil (w : World) : Calls Try.prog 16 #[.pointer none] w fun e w' => e = .returned (.tuple #[.agg ((List.replicate 20 (0 : Int)).map (Value.int .u8)).toArray, .int .i64 1]) ∧ Below w.heap.size w w' := by
  obtain ⟨z2, hz2, HZ2, hz⟩ := z20_ex
  have hbd := built20
  rw [← HZ2.out] at hbd ⊢
  have HAR := Arr.new w 41 (List.replicate 20 0) z2 (k := .u8) HZ2.out
  have hB1 := below_alloc (Below.refl w.heap.size w) (.cells z2 41)
  obtain ⟨W6, hst6, ha6, hb6⟩ := store20 HAR (by simp) (by simp) HZ2.out
  have HST6 := Aside0.mk hst6
  have HLD6 := Aside0.mk (load20 ha6 (by simp) HZ2.out)
  have HB6 := Aside0.mk (hB1.trans (hb6.below hB1.size (fun j hj e => by have : j = w.heap.size := e; omega)))
  clear HAR hB1 hst6 ha6 hb6
  go_enter Try.func16, Try.ntmps16
  go_wp2_with fail
  refine (mNone_nil _).mono ?_
  rintro e _ ⟨rfl, rfl⟩
  go_wp2_with (refine pl_store rfl 41 _ _ rfl _ _ HST6.out rfl rfl ?_)
  refine bodyPost_ret (results_row_tmp rfl _ _ w.heap.size z2 rfl HLD6.out) rfl ?_
  exact ⟨rfl, HB6.out⟩
end Go.Proofs.Ytfeohojpjncgaaa.Sha

set_option linter.unusedSimpArgs false
set_option linter.unusedVariables false
namespace Go.Proofs.Ytfeohojpjncgaaa.Sha
open Go.RowKit Go.Proofs.YtfeohojpjncgaaaW.PrintWords Go.Proofs.YtfeohojpjncgaaaW.PrintLast Go.Proofs.YtfeohojpjncgaaaW.PrintMore Go.Proofs.Ytfeohojpjncgaaa.PSha1Plays Go.Proofs.Ytfeohojpjncgaaa.Lex Go.Proofs.Ytfeohojpjncgaaa.Lib
set_option maxRecDepth 100000 in
set_option maxHeartbeats 2000000 in
theorem tagBad (A : Option Addr) (n c : Nat) (A2 : Option Addr) (n2 c2 : Nat) (w : World) (hl : 1048576 < n) (hm : n ≤ 1000000000) : Calls Try.prog 19 #[.slice A n c, .slice A2 n2 c2] w fun e w' => e = .returned (.tuple #[.agg ((List.replicate 20 (0 : Int)).map (Value.int .u8)).toArray, .int .i64 3]) ∧ Below w.heap.size w w' := by
  obtain ⟨z2, hz2, HZ2, hz⟩ := z20_ex
  have hbd := built20
  rw [← HZ2.out] at hbd ⊢
  have HAR := Aside0.mk (Arr.new w 41 (List.replicate 20 0) z2 (k := .u8) HZ2.out)
  have HB1 := Aside0.mk (below_alloc (Below.refl w.heap.size w) (.cells z2 41))
  have HN := Aside0.mk (mNewBad A n c (w.alloc (.cells z2 41)) hl hm)
  clear hl hm
  refine (callsIn_wide (n := 5)).1 ?_
  refine callsIn_of_wp_marks Try.func19 rfl trivial ?_ rfl
  simp only [Try.ntmps19, List.size_toArray, List.length_cons, List.length_nil, Nat.reduceAdd, Nat.reduceSub, Array.replicate_succ, Array.replicate_zero, List.push_toArray, List.append_toArray, List.nil_append, List.cons_append]
  gi_wp2_with fail
  refine ⟨trivial, ?_⟩
  refine (callsIn_wide.2 HN.out).mono ?_
  rintro e w2 ⟨rfl, hb2⟩
  have b3 := hb2.trans ((below_alloc (Below.refl w2.heap.size w2) (.cells #[.pointer none] 34)).mono hb2.size)
  obtain ⟨W6, hst6, ha6, hb6⟩ := store20 (HAR.out.later b3) (by simp) (by simp) HZ2.out
  have HST6 := Aside0.mk hst6
  have HLD6 := Aside0.mk (load20 ha6 (by simp) HZ2.out)
  have B3 := HB1.out.trans (b3.mono HB1.out.size)
  have HB6 := Aside0.mk (B3.trans (hb6.below B3.size (fun j hj e => by have : j = w.heap.size := e; omega)))
  clear hst6 ha6 hb6 b3 B3 hb2 HAR HB1 HN
  gi_wp2_with (refine in_store rfl 41 _ _ rfl _ _ HST6.out rfl rfl ?_)
  exact ⟨_, results_row_tmp rfl _ _ w.heap.size z2 rfl HLD6.out, rfl, HB6.out⟩
end Go.Proofs.Ytfeohojpjncgaaa.Sha

set_option linter.unusedSimpArgs false
set_option linter.unusedVariables false
namespace Go.Proofs.Ytfeohojpjncgaaa.Sha
open Go.RowKit Go.Proofs.YtfeohojpjncgaaaW.PrintWords Go.Proofs.YtfeohojpjncgaaaW.PrintLast Go.Proofs.YtfeohojpjncgaaaW.PrintMore Go.Proofs.Ytfeohojpjncgaaa.PSha1Plays Go.Proofs.Ytfeohojpjncgaaa.Lex Go.Proofs.Ytfeohojpjncgaaa.Lib
theorem getD_take12 (T : List Int) (k : Nat) (hk : k < 12) : (T.take 12).getD k 0 = T.getD k 0 := by
  rw [List.getD_eq_getElem?_getD, List.getD_eq_getElem?_getD, List.getElem?_take, if_pos hk]
set_option maxRecDepth 100000 in
set_option maxHeartbeats 4000000 in
theorem rshortC (A : Option Addr) (c : Nat) (key : List Int) (A2 : Option Addr) (c2 : Nat) (msg : List Int) (w : World) (hx : Kd.C KB w A key.length key) (hc : key.length ≤ c) (hk : Byt key) (hl : key.length ≤ 1048576)
    (hx2 : Kd.C KB w A2 msg.length msg) (hc2 : msg.length ≤ c2) (hk2 : Byt msg) (hl2 : msg.length ≤ 1000000) :
    Calls Try.prog 21 #[.slice A key.length c, .slice A2 msg.length c2] w fun e w' => e = .returned (.agg (((tagOf key msg).take 12).map (Value.int .u8)).toArray) ∧ Below w.heap.size w w' := by
  obtain ⟨z2, hz2, HZ2, hz⟩ := z20_ex
  obtain ⟨z1, hz1, HZ1, hzz⟩ := z12_ex
  have HAR := Aside0.mk (Arr.new w 48 (List.replicate 12 0) z1 (k := .u8) HZ1.out)
  have HB1 := Aside0.mk (below_alloc (Below.refl w.heap.size w) (.cells z1 48))
  have hT := rtagC A c key A2 c2 msg _ (Kd.C_below hx HB1.out) hc hk hl (Kd.C_below hx2 HB1.out) hc2 hk2 hl2
  obtain ⟨T, hT2⟩ : ∃ T, tagOf key msg = T := ⟨_, rfl⟩
  have HTL := Aside0.mk (show T.length = 20 by rw [← hT2]; exact tagOf_len _ _)
  rw [hT2] at hT ⊢
  obtain ⟨b2, hb2⟩ : ∃ b, (T.map (Value.int .u8)).toArray = b := ⟨_, rfl⟩
  obtain ⟨bx, hbx⟩ : ∃ b, ((T.take 12).map (Value.int .u8)).toArray = b := ⟨_, rfl⟩
  rw [hb2] at hT
  rw [hbx]
  have HBX := Aside0.mk hbx.symm
  have HB2 := Aside0.mk hb2.symm
  have hbz : b2.size = 20 := by rw [← hb2]; simpa using HTL.out
  have hst := Aside0.mk (new20 HTL.out HB2.out hz2)
  have HT := Aside0.mk hT
  clear hx hc hk hl hx2 hc2 hk2 hl2 hT hT2 hb2 hbx
  go_enter Try.func21, Try.ntmps21
  go_wp2_with fail
  refine HT.out.mono ?_
  rintro e w2 ⟨rfl, hb2⟩
  have hA3 := (HAR.out.later hb2).later (below_alloc (Below.refl _ _) (.cells b2 41))
  have hD3 := Arr.new (k := .u8) w2 41 T b2 HB2.out
  have hb3 := hb2.trans ((below_alloc (Below.refl w2.heap.size w2) (.cells b2 41)).mono hb2.size)
  have B3 := HB1.out.trans (hb3.mono HB1.out.size)
  have hs3 : (w2.alloc (.cells b2 41)).heap.size = w2.heap.size + 1 := by simp
  obtain ⟨V, hV⟩ : ∃ V, w2.alloc (.cells b2 41) = V := ⟨_, rfl⟩
  rw [hV] at hA3 hD3 B3 hs3
  have HV := Aside0.mk hV
  have hb4 := below_alloc (Below.refl V.heap.size V) (.cells z1 48)
  have HA4 := Aside0.mk (hA3.later hb4)
  have HD4 := Aside0.mk (hD3.later hb4)
  have HB4 := Aside0.mk (B3.trans (hb4.mono B3.size))
  have HE4 := Aside0.mk (Arr.newAt V (w2.heap.size + 1) 48 hs3 (List.replicate 12 0) z1 (k := .u8) HZ1.out)
  have HW2 := Aside0.mk (show w.heap.size < w2.heap.size by have := hb2.size; simp at this; omega)
  clear hA3 hD3 hb3 B3 hb2 HAR HB1 HT hV hb4
  go_wp2_with (refine pl_store rfl 41 _ _ rfl _ _ (hst.out _) rfl rfl ?_; rw [HV.out])
  obtain ⟨U, hU⟩ : ∃ U, V.alloc (.cells z1 48) = U := ⟨_, rfl⟩
  rw [hU] at HA4 HD4 HB4 HE4 ⊢
  obtain ⟨q, hq⟩ : ∃ q, w2.heap.size = q := ⟨_, rfl⟩
  have hq2 : V.heap.size = q + 1 := by rw [hs3, hq]
  rw [hq] at HD4 HE4 HW2 ⊢
  clear hst hU hq
  have hK12 : (T.take 12).length = 12 := by rw [List.length_take, HTL.out]; rfl
  obtain ⟨K, hK⟩ : ∃ K, T.take 12 = K := ⟨_, rfl⟩
  have HKT := Aside0.mk (fun k (hk : k < 12) => by rw [← hK]; exact getD_take12 T k hk : ∀ k, k < 12 → K.getD k 0 = T.getD k 0)
  rw [hK] at HBX hK12
  clear hK
  go_loopg [7] 12 (fun gk s7 W' => ∃ k : Nat, k ≤ 12 ∧ 12 - k ≤ gk ∧ s7 = .int .i64 k ∧ Arr .u8 (q + 1) 48 W' (K.take k ++ List.replicate (12 - k) 0) ∧ But U.heap.size (fun j => j = q + 1) U W')
  case atStart => exact ⟨0, by omega, by omega, rfl, HE4.out, But.refl _ _ _⟩
  case round =>
    obtain ⟨k, hk, hgk, rfl, hA, hB⟩ := hrel
    have HA := Aside0.mk hA
    have HB := Aside0.mk hB
    clear hA hB
    by_cases hlt : k < 12
    · have hlI : (k : Int) < 12 := by omega
      have h20 : (k : Int) < 20 := by omega
      have g0 := ((HD4.out.same (HB.out.block _ HD4.out.lt (by show ¬ q = q + 1; omega))).cell k (by rw [HTL.out]; omega)).1
      have hlen : (K.take k ++ List.replicate (12 - k) 0).length = 12 := by rw [List.length_append, List.length_take, List.length_replicate]; omega
      have hcl := HA.out.cell k (by rw [hlen]; exact hlt)
      obtain ⟨g1, g2⟩ := hcl
      obtain ⟨y, hy⟩ : ∃ y, (K.take k ++ List.replicate (12 - k) 0).getD k 0 = y := ⟨_, rfl⟩
      obtain ⟨x, hx⟩ : ∃ x, T.getD k 0 = x := ⟨_, rfl⟩
      rw [hy] at g1
      rw [hx] at g0
      have HXX := Aside0.mk hx
      have HK := Aside0.mk hlt
      clear hlen hy hx hlt
      go_wp2_with fail
      go_roundg (gk - 1)
      case measure => have := HK.out; omega
      case rel =>
        have hk := HK.out
        refine ⟨k + 1, by omega, by omega, ?_, ?_, ?_⟩
        · congr 1
        · have h := HA.out.put k x
          rw [← HXX.out, ← HKT.out k hk, set_take K 12 k (by omega) (by omega), HKT.out k hk, HXX.out] at h
          exact h
        · exact HB.out.setCell (.inr rfl) _
    · obtain rfl : k = 12 := by omega
      have hlI : ¬ ((12 : Int) < 12) := by omega
      have hA2 : Arr .u8 (q + 1) 48 wr K := by
        have h := HA.out
        rw [List.take_of_length_le (by omega)] at h
        simpa using h
      have hA0 : Arr .u8 w.heap.size 48 wr (List.replicate 12 0) := HA4.out.same (HB.out.block _ HA4.out.lt (by have := HW2.out; show ¬ w.heap.size = q + 1; omega))
      obtain ⟨W5, hst5, ha5, hb5⟩ := store12 hA0 (by simp) hK12 HBX.out
      have HLD := Aside0.mk (load12 hA2 hK12 HBX.out)
      have HST5 := Aside0.mk hst5
      have HLD5 := Aside0.mk (load12 ha5 hK12 HBX.out)
      have B5 := HB4.out.trans ((HB.out.below HB4.out.size (fun j hj e => by have h : j = q + 1 := e; have := HW2.out; omega)).trans (hb5.below (Nat.le_trans HB4.out.size HB.out.size) (fun j hj e => by have : j = w.heap.size := e; omega)))
      have HB5 := Aside0.mk B5
      clear hA2 hA0 hst5 ha5 hb5 B5
      go_wp2_with (first | (refine pl_load rfl 48 _ rfl _ _ HLD.out rfl ?_) | (refine pl_store rfl 48 _ _ rfl _ _ HST5.out rfl rfl ?_))
      refine bodyPost_ret (results_row rfl _ _ w.heap.size bx rfl HLD5.out) rfl ?_
      exact ⟨rfl, HB5.out⟩
set_option maxRecDepth 100000 in
set_option maxHeartbeats 4000000 in
/-- Short with a key past the bound: nothing is copied -/
theorem shortBad (A : Option Addr) (n c : Nat) (A2 : Option Addr) (n2 c2 : Nat) (w : World) (hl : 1048576 < n) (hm : n ≤ 1000000000) : Calls Try.prog 20 #[.slice A n c, .slice A2 n2 c2] w fun e w' => e = .returned (.tuple #[.agg ((List.replicate 12 (0 : Int)).map (Value.int .u8)).toArray, .int .i64 3]) ∧ Below w.heap.size w w' := by
  obtain ⟨z2, hz2, HZ2, hz⟩ := z20_ex
  obtain ⟨z1, hz1, HZ1, hzz⟩ := z12_ex
  have HAR := Aside0.mk (Arr.new w 48 (List.replicate 12 0) z1 (k := .u8) HZ1.out)
  have HB1 := Aside0.mk (below_alloc (Below.refl w.heap.size w) (.cells z1 48))
  have hT := tagBad A n c A2 n2 c2 (w.alloc (.cells z1 48)) hl hm
  rw [← HZ2.out] at hT
  rw [← HZ1.out]
  have hst := Aside0.mk (new20 (ys := List.replicate 20 0) (by simp) HZ2.out hz2)
  have HT := Aside0.mk hT
  clear hl hm hT
  go_enter Try.func20, Try.ntmps20
  go_wp2_with fail
  refine HT.out.mono ?_
  rintro e w2 ⟨rfl, hb2⟩
  have hb3 := hb2.trans ((below_alloc (Below.refl w2.heap.size w2) (.cells z2 41)).mono hb2.size)
  obtain ⟨V, hV⟩ : ∃ V, w2.alloc (.cells z2 41) = V := ⟨_, rfl⟩
  rw [hV] at hb3
  have HV := Aside0.mk hV
  have hA3 := HAR.out.later hb3
  have B3 := HB1.out.trans (hb3.mono HB1.out.size)
  obtain ⟨W5, hst5, ha5, hb5⟩ := store12 hA3 (by simp) (by simp) HZ1.out
  have HLD := Aside0.mk (load12 hA3 (by simp) HZ1.out)
  have HST5 := Aside0.mk hst5
  have HLD5 := Aside0.mk (load12 ha5 (by simp) HZ1.out)
  have HB5 := Aside0.mk (B3.trans (hb5.below B3.size (fun j hj e => by have : j = w.heap.size := e; omega)))
  clear hA3 hst5 ha5 hb5 B3 hb3 hb2 hV HT HAR HB1
  go_wp2_with (first | (refine pl_store rfl 41 _ _ rfl _ _ (hst.out _) rfl rfl ?_; rw [HV.out]) | (refine pl_load rfl 48 _ rfl _ _ HLD.out rfl ?_) | (refine pl_store rfl 48 _ _ rfl _ _ HST5.out rfl rfl ?_))
  refine bodyPost_ret (results_row_tmp rfl _ _ w.heap.size z1 rfl HLD5.out) rfl ?_
  exact ⟨rfl, HB5.out⟩
end Go.Proofs.Ytfeohojpjncgaaa.Sha

set_option linter.unusedSimpArgs false
set_option linter.unusedVariables false
namespace Go.Proofs.Ytfeohojpjncgaaa.Sha
open Go.RowKit Go.Proofs.YtfeohojpjncgaaaW.PrintWords Go.Proofs.YtfeohojpjncgaaaW.PrintLast Go.Proofs.YtfeohojpjncgaaaW.PrintMore Go.Proofs.Ytfeohojpjncgaaa.PSha1Plays Go.Proofs.Ytfeohojpjncgaaa.Lex Go.Proofs.Ytfeohojpjncgaaa.Lib
theorem C_take {α : Type} {d : Kd α} {w : World} {A : Option Addr} {n : Nat} {xs : List α} (h : Kd.C d w A n xs) (m : Nat) (hm : m ≤ n) : Kd.C d w A m (xs.take m) := by
  obtain ⟨h1, h2, h3⟩ := h
  refine ⟨by rw [List.length_take]; omega, by omega, fun hp => ?_⟩
  obtain ⟨ad, e, hc⟩ := h3 (by omega)
  refine ⟨ad, e, fun j p hj => hc j p ?_⟩
  rw [List.getElem?_take] at hj
  split at hj
  · exact hj
  · cases hj
theorem wf_u8 {n : Int} (h : (Lit.int .u8 n).wf = true) : 0 ≤ n ∧ n ≤ 255 := by
  have h2 := h
  simp [Lit.wf, IntKind.min, IntKind.max, IntKind.bits, IntKind.signed] at h2
  omega
theorem byt {xs : List Int} (h : ∀ n ∈ xs, (Lit.int .u8 n).wf = true) : Byt xs := fun x hx => wf_u8 (h x hx)
theorem eql64 {bx : Array Value} {xs : List Int} (h : xs.length = 64) (hb : bx = (xs.map (Value.int .u8)).toArray) (W : World) : (binOp .eql 25 (.agg bx) (.agg bx)).run Try.prog W = .ok (.bool true) W := by
  subst hb
  rw [run_eql_arr W 25 5 64 .u8 Try.underlying25 Try.underlying5 (fun _ => by kernel_rfl) xs xs h h]
  simp
theorem one_part {w : World} {A : Option Addr} {c : Nat} {key : List Int} (hx : Kd.C KB w A key.length key) (hc : key.length ≤ c) : Kd.C KBB (w.alloc (.cells #[.slice A key.length c] 22)) (some ⟨w.heap.size, 0, none⟩) 1 [key] := by
  refine CBB_alloc (W := w) (cs := [.slice A key.length c]) (t := 22) rfl [key] rfl (by simp) ?_
  intro j zs hj
  match j, hj with
  | 0, hj =>
    injection hj with hj
    subst hj
    exact ⟨_, _, rfl, hc, Kd.C_below hx (below_alloc (Below.refl _ _) _)⟩
set_option maxRecDepth 100000 in
set_option maxHeartbeats 4000000 in
theorem hmacBlocks (A : Option Addr) (c : Nat) (xs : List Int) (w : World) (hx : Kd.C KB w A xs.length xs) (hc : xs.length ≤ c) (hw : ∀ n ∈ xs, (Lit.int .u8 n).wf = true) (hr : xs.length * 1 ≤ 140737488351232) :
    Calls Try.prog 3 #[.slice A xs.length c] w fun e w' => e = .returned (.bool true) ∧ Below w.heap.size w w' := by
  by_cases hl : 500 < xs.length
  · have HF := Aside0.mk (few_neg [xs] (some ⟨w.heap.size, 0, none⟩) 1 _ (one_part hx hc) ⟨0, by simp, by simpa using hl⟩)
    clear hx
    go_enter Try.func3, Try.ntmps3
    go_wp2_with fail
    refine HF.out.mono ?_
    rintro e w1 ⟨rfl, hw1⟩
    have HB1 := Aside0.mk (show Below w.heap.size w w1 by rw [← hw1]; exact below_alloc (Below.refl _ _) _)
    clear hw1 HF
    go_wp2_with fail
    refine (works _).mono ?_
    rintro e w' ⟨rfl, hb⟩
    go_wp2_with fail
    go_ret
    exact ⟨rfl, HB1.out.trans (hb.mono HB1.out.size)⟩
  · have HF := Aside0.mk (few_pos [xs] (some ⟨w.heap.size, 0, none⟩) 1 _ (one_part hx hc) (fun z hz => by rw [List.mem_singleton.1 hz]; omega))
    have HX := Aside0.mk hx
    obtain ⟨z6, hz6, HZ6, hz⟩ := z64_ex
    have HP := Aside0.mk (fun A c W h1 h2 => blockC A c xs W h1 h2 (byt hw) (by omega))
    have HR := Aside0.mk (fun A c W h1 h2 => rblockC A c xs W h1 h2 (byt hw) (by omega))
    obtain ⟨bx, hbx⟩ : ∃ bx, ((blockOf xs).map (Value.int .u8)).toArray = bx := ⟨_, rfl⟩
    rw [hbx] at HP HR
    have HBX := Aside0.mk hbx.symm
    have hbz : bx.size = 64 := by rw [← hbx]; simpa using blockOf_len xs
    have heq := fun W => eql64 (blockOf_len xs) hbx.symm W
    have hst := Aside0.mk (new64 (blockOf_len xs) HBX.out hz6)
    clear hx hbx hw
    go_enter Try.func3, Try.ntmps3
    go_wp2_with fail
    refine HF.out.mono ?_
    rintro e w0 ⟨rfl, hw0⟩
    have B0 := Aside0.mk (show Below w.heap.size w w0 by rw [← hw0]; exact below_alloc (Below.refl _ _) _)
    have HX0 := Aside0.mk (Kd.C_below HX.out B0.out)
    clear hw0 HF
    go_wp2_with (first | ((with_reducible refine gate_builtin (b := .append) (xs := #[.tmp 11, .tmp 12]) rfl ?_); refine ap_row w0.heap.size _ _ rfl rfl (OB.lit w0 [] [] rfl 0 rfl (Nat.le_refl _) (by simp)) (Kd.C_below HX0.out (below_alloc (Below.refl _ _) _)) rfl rfl (by simp) (by simp; omega) ?_; intro v w1 ho hb; have HO1 := Aside0.mk ho; have HB1 := Aside0.mk ((below_alloc (Below.refl _ _) _).trans hb); clear ho hb) | ((with_reducible refine gate_builtin (b := .append) (xs := #[.tmp 13, .tmp 14]) rfl ?_); refine ap_row w0.heap.size _ _ rfl rfl (HO1.out.below (below_alloc (Below.refl _ _) _)) (OB.lit w1 [77] _ rfl 1 rfl (Nat.le_refl _) (by decide)).readsAt rfl rfl (by have := HB1.out.size; simp; omega) (by simp; omega) ?_; intro v2 w2 ho hb; have HO2 := Aside0.mk ho; have HB2 := Aside0.mk ((below_alloc HB1.out _).trans hb); clear ho hb HO1 HB1; obtain ⟨g, c2, rfl, hg1, hg2, hg3⟩ := HO2.out.form (by simp); have hg4 : (xs.length : Int) ≤ (c2 : Int) := by simp at hg3; omega))
    have hlen : ([] ++ xs ++ [77] : List Int).length = xs.length + 1 := by simp
    have hC2 := HO2.out.readsAt
    have hCm : Kd.C KB w2 (some ⟨g, 0, none⟩) xs.length xs := by
      have h3 := C_take hC2 xs.length (by omega)
      rw [List.nil_append, List.take_left] at h3
      exact h3
    have hcell : w2.cell? ⟨g, xs.length, none⟩ = some (.int .u8 77) := by
      obtain ⟨b', o', e', h⟩ := C_byte hC2 xs.length (by omega)
      simp only [Option.some.injEq, Addr.mk.injEq, and_true] at e'
      obtain ⟨rfl, rfl⟩ := e'
      rw [Nat.zero_add, List.nil_append, List.getD_eq_getElem?_getD, List.getElem?_append_right (Nat.le_refl _), Nat.sub_self] at h
      exact h
    have HCm := Aside0.mk hCm
    have HCELL := Aside0.mk hcell
    clear hC2 hCm hcell
    refine (HP.out _ c2 w2 HCm.out (by omega)).mono ?_
    rintro e w3 ⟨rfl, hb⟩
    have b4 := hb.trans ((below_alloc (Below.refl w3.heap.size w3) (.cells bx 25)).mono hb.size)
    have hg5 : (xs.length : Int) + 1 ≤ (c2 : Int) := by rw [hlen] at hg3; omega
    have hA4 := Arr.new (k := .u8) w3 25 (blockOf xs) bx HBX.out
    have hB4 := B0.out.trans ((HB2.out.trans (b4.mono HB2.out.size)).mono B0.out.size)
    obtain ⟨w4, hw4⟩ : ∃ W, w3.alloc (.cells bx 25) = W := ⟨_, rfl⟩
    rw [hw4] at b4 hA4 hB4
    have hF : ∀ V, Below w4.heap.size w4 V → (loadVar 25 ⟨w3.heap.size, 0, none⟩).run Try.prog V = .ok (.agg bx) V ∧ (convert 22 9 (.slice (some ⟨g, 0, none⟩) xs.length c2)).run Try.prog V = .ok (.string (strOfNums xs)) V ∧ (convert 22 9 (.slice A xs.length c)).run Try.prog V = .ok (.string (strOfNums xs)) V ∧ V.cell? ⟨g, xs.length, none⟩ = some (.int .u8 77) := fun V hV => by
      have b5 := b4.trans (hV.mono b4.size)
      exact ⟨load64 (hA4.later hV) (blockOf_len xs) HBX.out, conv V _ c2 xs (Kd.C_below HCm.out b5), conv V A c xs (Kd.C_below HX.out (hB4.trans (hV.mono hB4.size))), pw_cell_below b5 HCELL.out⟩
    have HFF := Aside0.mk hF
    have HB4 := Aside0.mk hB4
    have HW4 := Aside0.mk hw4
    clear b4 hA4 hB4 hw4 hF hb HB2 B0 HO2 HCm HCELL HX0 HP hg3 hlen
    go_wp2_with (refine pl_store rfl 25 _ _ rfl _ _ (hst.out _) rfl rfl ?_)
    clear hz
    rw [HW4.out]
    have wr2 : wrap64 ((xs.length : Int) + 1) = (xs.length : Int) + 1 := by unfold wrap64; omega
    have wr5 : (xs.length : Int) < (xs.length : Int) + 1 := by omega
    have wr3 : (0 : Int) ≤ (xs.length : Int) + 1 := by omega
    have wr4 : ((xs.length : Int) + 1).toNat = xs.length + 1 := by omega
    refine region [(0, .p), (1, .o), (2, .p), (3, .p), (5, .p), (4, .t), (6, .o), (7, .p), (8, .p), (9, .p), (10, .p), (12, .p), (11, .t), (13, .t), (14, .p), (15, .p), (16, .p), (17, .p), (18, .p), (19, .p), (20, .p), (21, .p), (22, .p), (23, .p), (24, .p), (25, .t), (26, .p), (27, .p), (28, .p), (29, .q), (30, .p), (31, .p)] (fun V => (loadVar 25 ⟨w3.heap.size, 0, none⟩).run Try.prog V = .ok (.agg bx) V ∧ (convert 22 9 (.slice (some ⟨g, 0, none⟩) xs.length c2)).run Try.prog V = .ok (.string (strOfNums xs)) V ∧ (convert 22 9 (.slice A xs.length c)).run Try.prog V = .ok (.string (strOfNums xs)) V ∧ V.cell? ⟨g, xs.length, none⟩ = some (.int .u8 77)) (by kernel_rfl) (by kernel_rfl) (fun _ _ _ _ _ h => h) (HFF.out _ (below_drew (Below.refl _ _))) (fun hHeld => ?_)
    (refine lex_p rfl rfl rfl (by intro w'; go_simp; with_reducible rfl) (by simp only [Act.put, List.setIfInBounds_toArray, List.set_cons_zero, List.set_cons_succ, i64_w, i32_w]; rfl) ?_)
    refine lex_o rfl ?_
    go_wp2_with fail
    refine (num _ _).mono ?_
    rintro e w' ⟨rfl, rfl⟩
    go_wp2_with fail
    refine lex_end (by first | (simp only [Act.put, List.setIfInBounds_toArray, List.set_cons_zero, List.set_cons_succ, i64_w, i32_w]; rfl) | rfl) (HFF.out _ (below_drew (Below.refl _ _))) (fun hHeld => ?_)
    iterate 3 (refine lex_p rfl rfl rfl (by intro w'; go_simp; with_reducible rfl) (by simp only [Act.put, List.setIfInBounds_toArray, List.set_cons_zero, List.set_cons_succ, i64_w, i32_w]; rfl) ?_)
    (refine lex_t rfl rfl rfl (by rintro w' ⟨s0, s1, s2, s3⟩; exact run_load_arr rfl rfl (by assumption)) (by simp only [Act.put, List.setIfInBounds_toArray, List.set_cons_zero, List.set_cons_succ, i64_w, i32_w]; rfl) ?_)
    refine lex_o rfl ?_
    go_wp2_with fail
    refine (HR.out A c _ (Kd.C_below HX.out (HB4.out.trans ((below_drew (Below.refl w4.heap.size w4)).mono HB4.out.size))) hc).mono ?_
    rintro e w5 ⟨rfl, hb5⟩
    have B5 := Aside0.mk ((below_drew (Below.refl w4.heap.size w4)).trans hb5)
    clear hb5
    go_wp2_with fail
    refine lex_end (by first | (simp only [Act.put, List.setIfInBounds_toArray, List.set_cons_zero, List.set_cons_succ, i64_w, i32_w]; rfl) | rfl) (HFF.out _ B5.out) (fun hHeld => ?_)
    iterate 5 (refine lex_p rfl rfl rfl (by intro w'; go_simp; with_reducible rfl) (by simp only [Act.put, List.setIfInBounds_toArray, List.set_cons_zero, List.set_cons_succ, i64_w, i32_w]; rfl) ?_)
    iterate 2 (refine lex_t rfl rfl rfl (by rintro w' ⟨s0, s1, s2, s3⟩; go_simp; with_reducible rfl) (by simp only [Act.put, List.setIfInBounds_toArray, List.set_cons_zero, List.set_cons_succ, i64_w, i32_w]; rfl) ?_)
    iterate 11 (refine lex_p rfl rfl rfl (by intro w'; go_simp; with_reducible rfl) (by simp only [Act.put, List.setIfInBounds_toArray, List.set_cons_zero, List.set_cons_succ, i64_w, i32_w]; rfl) ?_)
    (refine lex_t rfl rfl rfl (by rintro w' ⟨s0, s1, s2, s3⟩; go_simp; with_reducible rfl) (by simp only [Act.put, List.setIfInBounds_toArray, List.set_cons_zero, List.set_cons_succ, i64_w, i32_w]; rfl) ?_)
    iterate 3 (refine lex_p rfl rfl rfl (by intro w'; go_simp; with_reducible rfl) (by simp only [Act.put, List.setIfInBounds_toArray, List.set_cons_zero, List.set_cons_succ, i64_w, i32_w]; rfl) ?_)
    refine lex_q rfl ?_
    go_wp2_with fail
    refine (works _).mono ?_
    rintro e w6 ⟨rfl, hb6⟩
    have B6 := Aside0.mk (B5.out.trans (hb6.mono B5.out.size))
    clear hb6
    go_wp2_with fail
    refine lex_endq (by first | (simp only [Act.put, List.setIfInBounds_toArray, List.set_cons_zero, List.set_cons_succ, i64_w, i32_w]; rfl) | rfl) ?_
    iterate 2 (refine lex_p rfl rfl rfl (by intro w'; go_simp; with_reducible rfl) (by simp only [Act.put, List.setIfInBounds_toArray, List.set_cons_zero, List.set_cons_succ, i64_w, i32_w]; rfl) ?_)
    refine lex_nil ?_
    go_wp2_with fail
    go_ret
    exact ⟨rfl, HB4.out.trans (B6.out.mono HB4.out.size)⟩
end Go.Proofs.Ytfeohojpjncgaaa.Sha
