/- Keys: the reference's Send, Recv, Preferred: where a key stands. -/
import Derived.Test.YtndjhnipahkclaaKe14
import Derived.Test.YtndjhnipahkclaaPrefK
set_option linter.unusedSimpArgs false
set_option linter.unusedVariables false
namespace Go.Proofs.Ytndjhnipahkclaa.Ke
open Go.RowKit Go.Proofs.YtndjhnipahkclaaW.PrintWords Go.Proofs.YtndjhnipahkclaaW.PrintLast Go.Proofs.YtndjhnipahkclaaW.PrintMore Go.Proofs.Ytndjhnipahkclaa.PKeysPlay Go.Proofs.Ytndjhnipahkclaa.Lex Go.Proofs.Ytndjhnipahkclaa.Lib
/-- where the first one stands of which something is so; -1: nowhere -/
def idxFrom (P : S36 → Bool) (l : List S36) (i : Nat) : Int := match (l.drop i).findIdx? P with
  | some j => ((i + j : Nat) : Int)
  | none => -1
def idx (P : S36 → Bool) (l : List S36) : Int := idxFrom P l 0
section
variable {P : S36 → Bool} {l : List S36} {i : Nat}
theorem idxFrom_at (h : i < l.length) (hp : P (l.getD i z36) = true) : idxFrom P l i = i := by
  unfold idxFrom
  rw [drop_getD h, List.findIdx?_cons, if_pos hp]
  rfl
theorem idxFrom_next (h : i < l.length) (hp : P (l.getD i z36) = false) : idxFrom P l i = idxFrom P l (i + 1) := by
  unfold idxFrom
  rw [drop_getD h, List.findIdx?_cons, if_neg (by rw [hp]; decide)]
  cases (l.drop (i + 1)).findIdx? P with
  | none => rfl
  | some j => show ((i + (j + 1) : Nat) : Int) = ((i + 1 + j : Nat) : Int); omega
theorem idxFrom_end (h : l.length ≤ i) : idxFrom P l i = -1 := by
  unfold idxFrom
  rw [List.drop_eq_nil_of_le h]
  rfl
end
theorem wrap_up (i : Nat) (h : i < 1000000) : wrap64 ((i : Int) + 1) = ((i + 1 : Nat) : Int) := by unfold wrap64; omega
theorem send_f (peer send : Int) (l : List S36) (W : List S72) (hl : l.length < 1000000) : ∀ (k i : Nat), i ≤ l.length → l.length - i < k → pursuivantref10_Keys_Send.l0 k peer send (i : Int) l W = some (idxFrom (sendP peer send) l i)
  | 0, i, _, h => absurd h (by omega)
  | k + 1, i, hi, h => by
    rw [pursuivantref10_Keys_Send.l0]
    by_cases hlt : i < l.length
    · rw [if_pos (by omega), if_pos (by omega)]
      have hr : rd_T36 l (i : Int) = l.getD i z36 := by unfold rd_T36; rw [Int.toNat_natCast]
      rw [hr, wrap_up i (by omega)]
      have ih := send_f peer send l W hl k (i + 1) (by omega) (by omega)
      by_cases h0 : (l.getD i z36).f0 = peer
      · rw [if_pos h0]
        by_cases h1 : (l.getD i z36).f1 = send
        · rw [if_pos h1, idxFrom_at hlt (by simp only [sendP, h0, h1]; simp)]
        · rw [if_neg h1, ih, ← idxFrom_next hlt (by simp only [sendP, h0, beq_self_eq_true, Bool.true_and, beq_eq_false_iff_ne]; exact h1)]
      · rw [if_neg h0, ih, ← idxFrom_next hlt (by simp only [sendP, Bool.and_eq_false_iff, beq_eq_false_iff_ne]; exact .inl h0)]
    · rw [if_neg (by omega), idxFrom_end (by omega)]
abbrev recvP (peer recv : Int) : S36 → Bool := fun x => x.f0 == peer && x.f2 == recv
theorem recv_f (peer send : Int) (l : List S36) (W : List S72) (hl : l.length < 1000000) : ∀ (k i : Nat), i ≤ l.length → l.length - i < k → pursuivantref10_Keys_Recv.l0 k peer send (i : Int) l W = some (idxFrom (recvP peer send) l i)
  | 0, i, _, h => absurd h (by omega)
  | k + 1, i, hi, h => by
    rw [pursuivantref10_Keys_Recv.l0]
    by_cases hlt : i < l.length
    · rw [if_pos (by omega), if_pos (by omega)]
      have hr : rd_T36 l (i : Int) = l.getD i z36 := by unfold rd_T36; rw [Int.toNat_natCast]
      rw [hr, wrap_up i (by omega)]
      have ih := recv_f peer send l W hl k (i + 1) (by omega) (by omega)
      by_cases h0 : (l.getD i z36).f0 = peer
      · rw [if_pos h0]
        by_cases h1 : (l.getD i z36).f2 = send
        · rw [if_pos h1, idxFrom_at hlt (by simp only [recvP, h0, h1]; simp)]
        · rw [if_neg h1, ih, ← idxFrom_next hlt (by simp only [recvP, h0, beq_self_eq_true, Bool.true_and, beq_eq_false_iff_ne]; exact h1)]
      · rw [if_neg h0, ih, ← idxFrom_next hlt (by simp only [recvP, Bool.and_eq_false_iff, beq_eq_false_iff_ne]; exact .inl h0)]
    · rw [if_neg (by omega), idxFrom_end (by omega)]
/-- the wishes of a list, the last one counts -/
def fW (W : List S72) (q : Int) : Option Int := (W.reverse.find? (fun x => x.f0 == q)).map (·.f1)
theorem fW_add (W : List S72) (x : S72) (q : Int) : fW (W ++ [x]) q = if q = x.f0 then some x.f1 else fW W q := by
  unfold fW
  rw [List.reverse_append]
  show (List.find? _ (x :: W.reverse)).map _ = _
  by_cases h : q = x.f0
  · rw [if_pos h, List.find?_cons_of_pos (by simp [h])]
    rfl
  · rw [if_neg h, List.find?_cons_of_neg (by simp; exact fun e => h e.symm)]
def peerP (peer : Int) : S36 → Bool := fun x => x.f0 == peer
theorem pref_f1 (peer : Int) (l : List S36) (W : List S72) (hl : l.length < 1000000) : ∀ (k i : Nat), i ≤ l.length → l.length - i < k → pursuivantref10_Keys_Preferred.l1 k peer (i : Int) l W = some (idxFrom (peerP peer) l i)
  | 0, i, _, h => absurd h (by omega)
  | k + 1, i, hi, h => by
    rw [pursuivantref10_Keys_Preferred.l1]
    by_cases hlt : i < l.length
    · rw [if_pos (by omega), if_pos (by omega)]
      have hr : rd_T36 l (i : Int) = l.getD i z36 := by unfold rd_T36; rw [Int.toNat_natCast]
      rw [hr, wrap_up i (by omega)]
      by_cases h0 : (l.getD i z36).f0 = peer
      · rw [if_pos h0, idxFrom_at hlt (by simp only [peerP, h0]; simp)]
      · rw [if_neg h0, pref_f1 peer l W hl k (i + 1) (by omega) (by omega), ← idxFrom_next hlt (by simp only [peerP, beq_eq_false_iff_ne]; exact h0)]
    · rw [if_neg (by omega), idxFrom_end (by omega)]
theorem take_getD72 {W : List S72} {j : Nat} (hj : j < W.length) : W.take (j + 1) = W.take j ++ [W.getD j z72] := by
  rw [List.take_succ_eq_append_getElem hj, List.getD_eq_getElem?_getD, List.getElem?_eq_getElem hj]
  rfl
theorem pref_f0 (peer : Int) (l : List S36) (W : List S72) (hl : l.length < 1000000) (hW : W.length < 1000000) : ∀ (k i : Nat), i ≤ W.length → i + l.length + 1 < k → pursuivantref10_Keys_Preferred.l0 k peer ((i : Int) - 1) l W = some (match fW (W.take i) peer with
    | some s => idx (sendP peer s) l
    | none => idx (peerP peer) l)
  | 0, i, _, h => absurd h (by omega)
  | k + 1, 0, hi, h => by
    rw [pursuivantref10_Keys_Preferred.l0, if_neg (by omega)]
    exact pref_f1 peer l W hl k 0 (by omega) (by omega)
  | k + 1, i + 1, hi, h => by
    rw [pursuivantref10_Keys_Preferred.l0, if_pos (by omega), if_pos (by omega), if_pos (by omega)]
    have e1 : ((i + 1 : Nat) : Int) - 1 = (i : Int) := by omega
    have hr : rd_T72 W (i : Int) = W.getD i z72 := by unfold rd_T72; rw [Int.toNat_natCast]
    have hwr : wrap64 ((i : Int) - 1) = (i : Int) - 1 := by unfold wrap64; omega
    rw [e1, hr, hwr, take_getD72 (by omega), fW_add]
    by_cases h0 : (W.getD i z72).f0 = peer
    · rw [if_pos h0, if_pos h0.symm]
      have h2 := send_f peer (W.getD i z72).f1 l W hl k 0 (by omega) (by omega)
      unfold pursuivantref10_Keys_Send.f
      rw [show ((0 : Int)) = ((0 : Nat) : Int) from rfl, h2]
      rfl
    · rw [if_neg h0, if_neg (fun e => h0 e.symm)]
      exact pref_f0 peer l W hl hW k i (by omega) (by omega)
theorem pref_idx (W : List S72) (peer : Int) (l : List S36) : (match fW W peer with
    | some s => idx (sendP peer s) l
    | none => idx (peerP peer) l) = idx (prefP (fW W) peer) l := by
  cases h : fW W peer with
  | none =>
    have : prefP (fW W) peer = peerP peer := by funext x; simp [prefP, peerP, h]
    rw [this]
  | some s =>
    have : prefP (fW W) peer = sendP peer s := by funext x; simp [prefP, sendP, h]
    rw [this]
/-- S, and the blocks that are new -/
def Gr (S : Nat → Prop) (w w' : World) : Nat → Prop := fun k => S k ∨ (w.heap.size ≤ k ∧ k < w'.heap.size)
/-- the reference's keys as a value: two rows that are read; in blocks of T -/
def GR (T : Nat → Prop) (w : World) (g : Value) (l : List S36) (W : List S72) : Prop := ∃ A c B d, g = .agg #[.slice A l.length c, .slice B W.length d] ∧ l.length ≤ c ∧ Kd.C k36 w A l.length l ∧ W.length ≤ d ∧ Kd.C k72 w B W.length W ∧ (∀ a, A = some a → T a.block) ∧ (∀ a, B = some a → T a.block)
section
variable {T T' : Nat → Prop} {w w' : World} {g : Value} {l : List S36} {W : List S72}
theorem GR.below (h : GR T w g l W) (hb : Below w.heap.size w w') : GR T w' g l W := by
  obtain ⟨A, c, B, d, e, h1, h2, h3, h4, h5, h6⟩ := h
  exact ⟨A, c, B, d, e, h1, Kd.C_below h2 hb, h3, Kd.C_below h4 hb, h5, h6⟩
theorem GR.mono (h : GR T w g l W) (hT : ∀ k, T k → T' k) : GR T' w g l W := by
  obtain ⟨A, c, B, d, e, h1, h2, h3, h4, h5, h6⟩ := h
  exact ⟨A, c, B, d, e, h1, h2, h3, h4, fun a ha => hT _ (h5 a ha), fun a ha => hT _ (h6 a ha)⟩
theorem GR.old (h : GR T w g l W) (hb : Below w.heap.size w w') : GR (Gr T w w') w' g l W := (h.below hb).mono (fun _ => .inl)
theorem C36_blk {A : Option Addr} {n : Nat} (h : Kd.C k36 w A n l) (hA : ∀ a, A = some a → w'.heap[a.block]? = w.heap[a.block]?) : Kd.C k36 w' A n l := by
  obtain ⟨h1, h2, h3⟩ := h
  refine ⟨h1, h2, fun hp => ?_⟩
  obtain ⟨ad, e, hc⟩ := h3 hp
  refine ⟨ad, e, fun j q hj => ?_⟩
  obtain ⟨cs, c1, c2, c3⟩ := hc j q hj
  refine ⟨cs, c1, ?_, fun i u hi => (World.cell?_of_block (w := w) (by rw [add_block]; exact hA ad e)).trans (c3 i u hi)⟩
  have e2 := k36_open c2
  rw [e2]
  exact k36_mk w' q
theorem C72_blk {A : Option Addr} {n : Nat} (h : Kd.C k72 w A n W) (hA : ∀ a, A = some a → w'.heap[a.block]? = w.heap[a.block]?) : Kd.C k72 w' A n W := by
  obtain ⟨h1, h2, h3⟩ := h
  refine ⟨h1, h2, fun hp => ?_⟩
  obtain ⟨ad, e, hc⟩ := h3 hp
  refine ⟨ad, e, fun j q hj => ?_⟩
  obtain ⟨cs, c1, c2, c3⟩ := hc j q hj
  refine ⟨cs, c1, ?_, fun i u hi => (World.cell?_of_block (w := w) (by rw [add_block]; exact hA ad e)).trans (c3 i u hi)⟩
  have e2 := k72_open c2
  rw [e2]
  exact k72_mk w' q
theorem GR.same (h : GR T w g l W) (hT : ∀ k, T k → w'.heap[k]? = w.heap[k]?) : GR T w' g l W := by
  obtain ⟨A, c, B, d, e, h1, h2, h3, h4, h5, h6⟩ := h
  exact ⟨A, c, B, d, e, h1, C36_blk h2 (fun a ha => hT _ (h5 a ha)), h3, C72_blk h4 (fun a ha => hT _ (h6 a ha)), h5, h6⟩
theorem GR.nil (T : Nat → Prop) (w : World) : GR T w (.agg #[.slice none 0 0, .slice none 0 0]) [] [] :=
  ⟨none, 0, none, 0, rfl, Nat.le_refl _, ⟨rfl, by decide, fun h => absurd h (by decide)⟩, Nat.le_refl _, ⟨rfl, by decide, fun h => absurd h (by decide)⟩, (fun _ h => nomatch h), (fun _ h => nomatch h)⟩
end
section
variable {T : Nat → Prop} {w : World} {g : Value} {l : List S36} {W : List S72}
theorem sendR (h : GR T w g l W) (hl : l.length < 1000000) (peer send : Int) : Calls Try.prog 27 #[g, .int .u32 peer, .int .u8 send] w fun e w' => e = .returned (.int .i64 (idx (sendP peer send) l)) ∧ Below w.heap.size w w' := by
  obtain ⟨A, c, B, d, rfl, h1, h2, h3, h4, _, _⟩ := h
  exact pursuivantref10_Keys_Send.calls (l.length + 1) A c l B d W peer send _ w h2 h1 h4 h3 (send_f peer send l W hl (l.length + 1) 0 (by omega) (by omega))
theorem recvR (h : GR T w g l W) (hl : l.length < 1000000) (peer send : Int) : Calls Try.prog 28 #[g, .int .u32 peer, .int .u8 send] w fun e w' => e = .returned (.int .i64 (idx (recvP peer send) l)) ∧ Below w.heap.size w w' := by
  obtain ⟨A, c, B, d, rfl, h1, h2, h3, h4, _, _⟩ := h
  exact pursuivantref10_Keys_Recv.calls (l.length + 1) A c l B d W peer send _ w h2 h1 h4 h3 (recv_f peer send l W hl (l.length + 1) 0 (by omega) (by omega))
theorem prefR (h : GR T w g l W) (hl : l.length < 1000000) (hW : W.length < 1000000) (peer : Int) : Calls Try.prog 26 #[g, .int .u32 peer] w fun e w' => e = .returned (.int .i64 (idx (prefP (fW W) peer) l)) ∧ Below w.heap.size w w' := by
  obtain ⟨A, c, B, d, rfl, h1, h2, h3, h4, _, _⟩ := h
  refine pursuivantref10_Keys_Preferred.calls (W.length + l.length + 2) A c l B d W peer _ w h2 h1 h4 h3 ?_
  have h5 := pref_f0 peer l W hl hW (W.length + l.length + 2) W.length (Nat.le_refl _) (by omega)
  rw [List.take_length, pref_idx] at h5
  unfold pursuivantref10_Keys_Preferred.f
  rw [show wrap64 ((W.length : Int) - 1) = (W.length : Int) - 1 from by unfold wrap64; omega]
  exact h5
end
end Go.Proofs.Ytndjhnipahkclaa.Ke
