/- A region that draws its order, walked operation by operation in NO order: what is so of an operation's value once it has come up (F) stays so whatever else comes up. Conditions: the kernel's check that each operation waits for earlier ones alone. -/
import Derived.Test.YticilaoibjbgfaaLex
namespace Go.Proofs.Yticilaoibjbgfaa.Lex
open Go.RowKit Go.Proofs.YticilaoibjbgfaaW.PrintLast

def upd (x : Nat → Value) (i : Nat) (v : Value) : Nat → Value := fun j => if j = i then v else x j
theorem upd_same (x : Nat → Value) (i : Nat) (v : Value) : upd x i v i = v := if_pos rfl
theorem upd_other (x : Nat → Value) {i j : Nat} (v : Value) (h : j ≠ i) : upd x i v j = x j := if_neg h
/-- does operation i wait for j? -/
def dep (ops : Array Oper) (i j : Nat) : Bool := match ops[i]? with
  | some o => o.after.any (fun e => Region.binds .any e && e.on == j)
  | none => false
/-- each waits for earlier ones alone -/
def earlier (ops : Array Oper) : Bool := (List.range ops.size).all (fun i => match ops[i]? with
  | some o => o.after.all (fun e => !Region.binds .any e || decide (e.on < i))
  | none => true)
/-- what is to be shown of operation i -/
def OpI (P : Program) (ops : Array Oper) (Q : Exit → Act → World → Prop) (mk : (Nat → Value) → Array Value) (d : List Deferred) (F : Nat → Value → World → Prop) (G : World → Prop) (Step : World → World → Prop) (i : Nat) : Prop :=
  ∀ oi rs, ops.toList.drop i = oi :: rs → ∀ (x : Nat → Value) (W : World), (∀ j, dep ops i j = true → F j (x j) W) → G W →
    wpList P ops (putQ Q (fun a' W' => ∃ v, a' = { tmps := mk (upd x i v), defers := d } ∧ F i v W' ∧ G W' ∧ Step W W')) [oi] { tmps := mk x, defers := d } W

section
variable {P : Program} {ops : Array Oper} {Q : Exit → Act → World → Prop} {a : Act} {w : World} {mk : (Nat → Value) → Array Value} {d : List Deferred} {F : Nat → Value → World → Prop} {G : World → Prop} {Step : World → World → Prop}

theorem all_listed {l : Array Bool} (he : earlier ops = true) (hr : Region.ready .any ops l = []) : ∀ i, i < ops.size → l.getD i true = true := by
  intro i
  induction i using Nat.strongRecOn with
  | _ i ih =>
    intro hi
    cases hl : l.getD i true with
    | true => rfl
    | false =>
      obtain ⟨o, ho⟩ : ∃ o, ops[i]? = some o := ⟨ops[i], Array.getElem?_eq_getElem hi⟩
      have h1 : i ∈ Region.ready .any ops l := by
        rw [mem_ready]
        refine ⟨hl, o, ho, fun e hem hb => ?_⟩
        have h2 := List.all_eq_true.1 he i (List.mem_range.2 hi)
        simp only [ho] at h2
        rw [Array.all_eq_true'] at h2
        have h3 := h2 e hem
        rw [hb] at h3
        have h4 : e.on < i := by simpa using h3
        have h5 := ih e.on h4 (by omega)
        rcases Nat.lt_or_ge e.on l.size with h6 | h6
        · simpa [h6] using h5
        · have h7 : l.size ≤ i := by omega
          simp [Nat.not_lt.2 h7] at hl
      rw [hr] at h1
      cases h1
theorem any_inv (he : earlier ops = true) (hst : ∀ i v W W', Step W W' → F i v W → F i v W')
    (hop : ∀ i, i < ops.size → OpI P ops Q mk d F G Step i) (hdone : ∀ x W, (∀ i, i < ops.size → F i (x i) W) → G W → Q .normal { tmps := mk x, defers := d } W) :
    ∀ (n : Nat) (l : Array Bool) (x : Nat → Value) (W : World), l.size = ops.size → l.toList.count false = n → (∀ i, i < ops.size → l.getD i true = true → F i (x i) W) → G W → wpAny P .any ops Q n l { tmps := mk x, defers := d } W := by
  intro n
  induction n with
  | zero =>
    intro l x W hz hn hF hG
    have hall : ∀ i, i < ops.size → l.getD i true = true := fun i hi => by
      cases hl : l.getD i true with
      | true => rfl
      | false =>
        have h1 : false ∈ l.toList := by
          have h2 : i < l.size := by omega
          simp [h2] at hl
          rw [← hl]
          exact Array.getElem_mem_toList h2
        have := List.count_pos_iff.2 h1
        omega
    have hr : Region.ready .any ops l = [] := by
      rw [List.eq_nil_iff_forall_not_mem]
      intro i hi
      obtain ⟨h1, o, ho, _⟩ := mem_ready.1 hi
      rw [hall i (Array.getElem?_eq_some_iff.1 ho).1] at h1
      cases h1
    exact ⟨hr, hdone x W (fun i hi => hF i hi (hall i hi)) hG⟩
  | succ n ih =>
    intro l x W hz hn hF hG
    refine ⟨fun hr => hdone x W (fun i hi => hF i hi (all_listed he hr i hi)) hG, fun i hi => ?_⟩
    obtain ⟨h1, o, ho, hall⟩ := mem_ready.1 hi
    have hlt : i < ops.size := (Array.getElem?_eq_some_iff.1 ho).1
    have hdr : ops.toList.drop i = o :: ops.toList.drop (i + 1) := by
      rw [List.drop_eq_getElem_cons (by simpa using hlt)]
      congr 1
      have := (Array.getElem?_eq_some_iff.1 ho).2
      simpa using this
    have hw := hop i hlt o _ hdr x W (fun j hj => by
      simp only [dep, ho, Array.any_eq_true', Bool.and_eq_true, beq_iff_eq] at hj
      obtain ⟨e, hem, hb, rfl⟩ := hj
      have h5 := hall e hem hb
      have h6 : e.on < l.size := by
        rcases Nat.lt_or_ge e.on l.size with h6 | h6
        · exact h6
        · simp [Nat.not_lt.2 h6] at h5
      exact hF e.on (by omega) (by simpa [h6] using h5)) hG
    have h2 := wp_of_putQ hw
    refine wpOp_mono (K := fun a' W' => ∃ v, a' = { tmps := mk (upd x i v), defers := d } ∧ F i v W' ∧ G W' ∧ Step W W') ?_ (by
      unfold wpOp
      simp only [ho]
      exact h2)
    rintro a' W' ⟨v, rfl, hf, hg, hs⟩
    have hli : i < l.size := by omega
    refine ih (l.setIfInBounds i true) (upd x i v) W' (by simpa using hz) ?_ (fun j hj hlj => ?_) hg
    · have h7 : l[i] = false := by simpa [hli] using h1
      have h8 : l.toList.count false = (l.setIfInBounds i true).toList.count false + 1 := by
        rw [Array.toList_setIfInBounds, List.count_set (by simpa using hli)]
        have h9 : l.toList[i]'(by simpa using hli) = false := by simpa using h7
        rw [h9]
        have h10 : false ∈ l.toList := by rw [← h9]; exact List.getElem_mem _
        have := List.count_pos_iff.2 h10
        rw [if_pos (by rfl), if_neg (by decide)]
        omega
      omega
    · by_cases hji : j = i
      · subst hji
        rw [upd_same]
        exact hf
      · rw [upd_other _ _ hji]
        refine hst j _ W W' hs (hF j hj ?_)
        have h11 : j < l.size := by omega
        simp only [Array.getD_eq_getD_getElem?] at hlj ⊢
        rw [Array.getElem?_setIfInBounds_ne (fun h => hji h.symm)] at hlj
        exact hlj
/-- THE REGION, each operation by itself. -/
theorem regionI {id n : Nat} (mk : (Nat → Value) → Array Value) (d : List Deferred) (F : Nat → Value → World → Prop) (G : World → Prop) (Step : World → World → Prop) (x0 : Nat → Value)
    (hm : P.follows .mixedOrders = true) (hn : ops.size = n) (he : earlier ops = true) (ha : a = { tmps := mk x0, defers := d }) (hG : G w.drew)
    (hst : ∀ i v W W', Step W W' → F i v W → F i v W')
    (hop : ∀ i, i < n → OpI P ops Q mk d F G Step i) (hdone : ∀ x W, (∀ i, i < n → F i (x i) W) → G W → Q .normal { tmps := mk x, defers := d } W) : (Code.region id ops true).wp P Q a w := by
  subst ha
  subst hn
  refine wp_region_any hm ?_
  refine any_inv he hst hop hdone ops.size _ x0 w.drew (by simp) (by simp) (fun i hi hl => ?_) hG
  simp [hi] at hl
theorem opI_of {i : Nat} {oi : Oper} {rs : List Oper} (h : ops.toList.drop i = oi :: rs)
    (H : ∀ (x : Nat → Value) (W : World), (∀ j, dep ops i j = true → F j (x j) W) → G W →
      wpList P ops (putQ Q (fun a' W' => ∃ v, a' = { tmps := mk (upd x i v), defers := d } ∧ F i v W' ∧ G W' ∧ Step W W')) [oi] { tmps := mk x, defers := d } W) : OpI P ops Q mk d F G Step i := by
  intro oi' rs' h'
  rw [h] at h'
  cases h'
  exact H
/-- the end of an operation's list -/
theorem li_end {a' : Act} {i : Nat} {x : Nat → Value} {W W' : World} (v : Value) (ha : a' = { tmps := mk (upd x i v), defers := d }) (hf : F i v W') (hg : G W') (hs : Step W W') :
    wpList P ops (putQ Q (fun a' W' => ∃ v, a' = { tmps := mk (upd x i v), defers := d } ∧ F i v W' ∧ G W' ∧ Step W W')) [] a' W' := ⟨v, ha, hf, hg, hs⟩
end
end Go.Proofs.Yticilaoibjbgfaa.Lex
