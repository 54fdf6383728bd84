/- OwnV. -/
import Derived.Test.YtagplldaooipmaaGreatDoorKa
namespace Go.Proofs.YtagplldaooipmaaGreatDoor
open Go.RowKit
def rowV {α : Type} (f : α → Value → List Value) : List α → List Value → List Value
  | a :: l, v :: vs => f a v ++ rowV f l vs
  | _, _ => []
theorem rowV_len {α : Type} {f : α → Value → List Value} {C : Nat} (hC : ∀ a v, (f a v).length = C) (l : List α) : ∀ vs : List Value, vs.length = l.length → (rowV f l vs).length = l.length * C := by
  induction l with
  | nil => intro vs h; cases vs <;> simp_all [rowV]
  | cons a l ih =>
    intro vs h
    cases vs with
    | nil => simp at h
    | cons v vs => simp [rowV, hC, ih vs (by simpa using h), Nat.succ_mul]; omega
theorem rowV_snoc {α : Type} {f : α → Value → List Value} (l : List α) (a : α) (v : Value) : ∀ vs : List Value, vs.length = l.length → rowV f (l ++ [a]) (vs ++ [v]) = rowV f l vs ++ f a v := by
  induction l with
  | nil => intro vs h; cases vs <;> simp_all [rowV]
  | cons b l ih =>
    intro vs h
    cases vs with
    | nil => simp at h
    | cons u vs => simp [rowV, ih vs (by simpa using h)]
theorem rowV_get {α : Type} {f : α → Value → List Value} {C : Nat} (hC : ∀ a v, (f a v).length = C) (l : List α) : ∀ vs : List Value, vs.length = l.length → ∀ i (hi : i < l.length) j u, (f l[i] (vs.getD i (.slice none 0 0)))[j]? = some u → (rowV f l vs)[i * C + j]? = some u := by
  induction l with
  | nil => intro vs h i hi; simp at hi
  | cons a l ih =>
    intro vs h i hi j u hu
    cases vs with
    | nil => simp at h
    | cons v vs =>
      cases i with
      | zero =>
        simp at hu
        have hj : j < (f a v).length := (List.getElem?_eq_some_iff.1 hu).1
        simp only [rowV, Nat.zero_mul, Nat.zero_add]
        rw [List.getElem?_append_left hj]
        exact hu
      | succ i =>
        simp only [List.getElem_cons_succ, List.getD_cons_succ] at hu
        have := ih vs (by simpa using h) i (by simpa using hi) j u hu
        simp only [rowV]
        rw [List.getElem?_append_right (by rw [hC, Nat.succ_mul]; omega), hC, show (i + 1) * C + j - C = i * C + j by rw [Nat.succ_mul]; omega]
        exact this
theorem rowV_one {α : Type} {f : α → Value → List Value} (l : List α) : ∀ vs : List Value, (∀ a v, v ∈ vs → ∀ u ∈ f a v, u.oneCell' = true) → ∀ u ∈ rowV f l vs, u.oneCell' = true := by
  induction l with
  | nil => intro vs _ u hu; cases vs <;> simp [rowV] at hu
  | cons a l ih =>
    intro vs h u hu
    cases vs with
    | nil => simp [rowV] at hu
    | cons v vs =>
      simp only [rowV, List.mem_append] at hu
      rcases hu with hu | hu
      · exact h a v (by simp) u hu
      · exact ih vs (fun a w hw => h a w (by simp [hw])) u hu
def OwnV {α : Type} (f : α → Value → List Value) (sub : World → (Nat → Prop) → Value → α → Prop) (E : TypeId) (C : Nat) (w : World) (base : Nat) (v : Value) (l : List α) (vs : List Value) : Prop :=
  vs.length = l.length ∧ w.ownsRow base E C v l.length (rowV f l vs) ∧ ∀ i (hi : i < l.length), sub w (fun g => base ≤ g ∧ g < w.heap.size ∧ v.ownBlock ≠ some g) (vs.getD i (.slice none 0 0)) l[i]
section
variable {α : Type} {f : α → Value → List Value} {sub : World → (Nat → Prop) → Value → α → Prop} {E : TypeId} {C : Nat}
theorem OwnV.nil (w : World) (base : Nat) : OwnV f sub E C w base (.slice none 0 0) [] [] := ⟨rfl, ⟨by simp [rowV], .inl ⟨rfl, rfl⟩⟩, fun i hi => absurd hi (by simp)⟩
theorem OwnV.snoc (hkeep : ∀ w w' S S' v a, sub w S v a → (∀ p : Addr, S p.block → w'.cell? p = w.cell? p) → (∀ g, S g → S' g) → sub w' S' v a)
    {w w0 w' : World} {base : Nat} {v v' u : Value} {l : List α} {a : α} {vs : List Value} (h : OwnV f sub E C w base v l vs) (h0 : Below w.heap.size w w0)
    (hs : sub w0 (fun g => base ≤ g ∧ g < w0.heap.size ∧ v.ownBlock ≠ some g) u a)
    (hown : w'.ownsRow base E C v' (l.length + 1) (rowV f l vs ++ f a u)) (hg : w0.grownBy w' v.ownBlock) (hv : v'.ownBlock = v.ownBlock ∨ v'.ownBlock = some w0.heap.size) :
    OwnV f sub E C w' base v' (l ++ [a]) (vs ++ [u]) := by
  obtain ⟨h1, h2, h3⟩ := h
  refine ⟨by simp [h1], by rw [rowV_snoc l a u vs h1]; simpa using hown, fun i hi => ?_⟩
  have hS : ∀ g, (base ≤ g ∧ g < w0.heap.size ∧ v.ownBlock ≠ some g) → (base ≤ g ∧ g < w'.heap.size ∧ v'.ownBlock ≠ some g) := by
    rintro g ⟨g1, g2, g3⟩
    refine ⟨g1, Nat.lt_of_lt_of_le g2 hg.size, ?_⟩
    rcases hv with hv | hv <;> rw [hv]
    · exact g3
    · intro h; injection h with h; omega
  have hK : ∀ p : Addr, (base ≤ p.block ∧ p.block < w0.heap.size ∧ v.ownBlock ≠ some p.block) → w'.cell? p = w0.cell? p := fun p hp => hg.cell_far p hp.2.1 (fun h => hp.2.2 h.symm)
  by_cases hil : i < l.length
  · have e1 : (l ++ [a])[i] = l[i] := List.getElem_append_left hil
    have e2 : (vs ++ [u]).getD i (.slice none 0 0) = vs.getD i (.slice none 0 0) := by
      rw [List.getD_eq_getElem?_getD, List.getD_eq_getElem?_getD, List.getElem?_append_left (by omega)]
    rw [e1, e2]
    have h4 := hkeep w w0 _ (fun g => base ≤ g ∧ g < w0.heap.size ∧ v.ownBlock ≠ some g) _ _ (h3 i hil) (fun p hp => h0.cell hp.2.1) (fun g hg => ⟨hg.1, Nat.lt_of_lt_of_le hg.2.1 h0.size, hg.2.2⟩)
    exact hkeep w0 w' _ _ _ _ h4 hK hS
  · have hie : i = l.length := by simp at hi; omega
    subst hie
    have e1 : (l ++ [a])[l.length] = a := by simp
    have e2 : (vs ++ [u]).getD l.length (.slice none 0 0) = u := by
      rw [List.getD_eq_getElem?_getD, List.getElem?_append_right (by omega)]; simp [h1]
    rw [e1, e2]
    exact hkeep w0 w' _ _ _ _ hs hK hS
theorem OwnV.keep (hkeep : ∀ w w' S S' v a, sub w S v a → (∀ p : Addr, S p.block → w'.cell? p = w.cell? p) → (∀ g, S g → S' g) → sub w' S' v a)
    {w w' : World} {base : Nat} {v : Value} {l : List α} {vs : List Value} (h : OwnV f sub E C w base v l vs) (hb : Below w.heap.size w w') : OwnV f sub E C w' base v l vs := by
  obtain ⟨h1, h2, h3⟩ := h
  refine ⟨h1, ⟨h2.1, ?_⟩, fun i hi => hkeep w w' _ _ _ _ (h3 i hi) (fun p hp => hb.cell hp.2.1) (fun g hg => ⟨hg.1, Nat.lt_of_lt_of_le hg.2.1 hb.size, hg.2.2⟩)⟩
  rcases h2.2 with h4 | ⟨g, cap, cur, h4, h5, h6, h7⟩
  · exact .inl h4
  · exact .inr ⟨g, cap, cur, h4, h5, (hb.block g (lt_of_heap h6)).trans h6, h7⟩
end
theorem wpList_append_to {P : Program} (w : World) {ops : Array Oper} {rest : List Oper} {o : Oper} {a : Act} {Q : Exit → Act → World → Prop} (hw : Region.wanted o (yielded ops a.tmps) = true) (s x : Operand) (t : TypeId)
    (ho : o.op = .call { callee := .builtin .append, args := #[s, x], argTypes := #[t, t] })
    (base : Nat) (e : TypeId) (z : Value) (size bytes : Nat) (ht : P.underlying t = some (.slice e)) (hinfo : (P.info? e).map (fun i => (i.zero, i.size, i.bytes)) = some (some z, size, bytes))
    (hzs : z.cells.size = size) (hsz : 0 < size) {v : Value} {n : Nat} {xs : List Value} (hown : w.ownsRow base e size v n xs) (hs : a.eval s = v)
    {B : Nat} {y : Value} {m : Nat} {news : List Value} (hr : Rd w B y m news) (hx : a.eval x = y) (hl : news.length = m * size) (h1 : ∀ u ∈ news, u.oneCell' = true)
    (hn : n + m ≤ 1000000000) (hby : bytes ≤ 1000) (hbase : base ≤ w.heap.size)
    (h : ∀ v' w', w'.ownsRow base e size v' (n + m) (xs ++ news) → Below base w w' → w.grownBy w' v.ownBlock → (v'.ownBlock = v.ownBlock ∨ v'.ownBlock = some w.heap.size) → wpList P ops Q rest (a.put o.dst v') w') : wpList P ops Q (o :: rest) a w :=
  wpList_step fun K hK => by
    rw [if_pos hw]
    obtain ⟨v', w', hrun, h2, h3, h4⟩ := append_rd (P := P) w base t o.type e z size bytes ht hinfo hzs hsz v n xs hown B y m news hr hl h1 hn hby hbase
    unfold Oper.wp execOp
    simp only [ho, resolve, invoke, builtin, Sem.run_bind, Sem.run_pure, Result.andThen_ok, List.map_toArray, List.map_cons, List.map_nil, hs, hx, hrun]
    exact hK _ _ (h v' w' h2 (below_of_own hown (Below.refl _ _) h3 hbase) h3 h4)
end Go.Proofs.YtagplldaooipmaaGreatDoor
