/- Kb. -/
import Derived.Test.YtagplldaooipmaaGreatDoorKa
namespace Go.Proofs.YtagplldaooipmaaGreatDoor
inductive Ex where
  | mk (op : List UInt8) (n : Nat) (name : List UInt8) (sub : List Ex)
namespace Ex
def op : Ex → List UInt8
  | .mk o _ _ _ => o
def n : Ex → Nat
  | .mk _ n _ _ => n
def name : Ex → List UInt8
  | .mk _ _ m _ => m
def sub : Ex → List Ex
  | .mk _ _ _ s => s
end Ex
theorem Ex.ind {P : Ex → Prop} (h : ∀ o n m s, (∀ e ∈ s, P e) → P (.mk o n m s)) (e : Ex) : P e :=
  Ex.rec (motive_1 := P) (motive_2 := fun l => ∀ e ∈ l, P e) h (by simp) (fun _ _ h1 h2 => by simpa using ⟨h1, h2⟩) e
def ex0 : Ex := .mk [] 0 [] []
abbrev sNum : List UInt8 := [35]
abbrev sN : List UInt8 := [110]
abbrev sHere : List UInt8 := [36]
abbrev sNEG : List UInt8 := [78, 69, 71]
abbrev sNOT : List UInt8 := [78, 79, 84]
abbrev sAND : List UInt8 := [65, 78, 68]
abbrev sOR : List UInt8 := [79, 82]
abbrev sXOR : List UInt8 := [88, 79, 82]
abbrev sMOD : List UInt8 := [77, 79, 68]
abbrev sSHL : List UInt8 := [83, 72, 76]
abbrev sSHR : List UInt8 := [83, 72, 82]
def bindsE (o : List UInt8) : Nat × Nat :=
  if o = sNum ∨ o = sN ∨ o = sHere then (7, 0)
  else if o = sNEG then (6, 1)
  else if o = [42] ∨ o = [47] ∨ o = sMOD ∨ o = sSHL ∨ o = sSHR then (5, 2)
  else if o = [43] ∨ o = [45] then (4, 2)
  else if o = sNOT then (3, 1)
  else if o = sAND then (2, 2)
  else if o = sOR ∨ o = sXOR then (1, 2)
  else (0, 0)
def wordE (o : List UInt8) : Bool := decide (o = sOR ∨ o = sXOR ∨ o = sAND ∨ o = sNOT ∨ o = sMOD ∨ o = sSHL ∨ o = sSHR)
def headE (o : List UInt8) (n : Nat) (m : List UInt8) (k : Nat) : Bool :=
  !((bindsE o).1 == 0) && k == (bindsE o).2 && (n == 0 || o == sNum) && (if o = sN then nameB m && upper m == m && !wordE m else m == [])
mutual
def rightE : Ex → Nat → Bool
  | .mk o n m s, most => !(most == 0) && headE o n m s.length && rightL s (most - 1)
def rightL : List Ex → Nat → Bool
  | [], _ => true
  | e :: r, most => rightE e most && rightL r most
end
mutual
def sameE : Ex → Ex → Bool
  | .mk o n m s, .mk o' n' m' s' => o == o' && n == n' && m == m' && sameL s s'
def sameL : List Ex → List Ex → Bool
  | [], [] => true
  | e :: r, e' :: r' => sameE e e' && sameL r r'
  | _, _ => false
end
mutual
def namesE : Ex → List (List UInt8)
  | .mk o _ m s => (if o = sN then [m] else []) ++ namesL s
def namesL : List Ex → List (List UInt8)
  | [] => []
  | e :: r => namesE e ++ namesL r
end
def parens (s : List UInt8) : List UInt8 := [40, 32] ++ s ++ [32, 41]
def showE : Ex → Nat → List UInt8
  | .mk o n m s, want =>
    if o = sNum then showN n else if o = sN then m else if (bindsE o).2 = 0 then o
    else
      let t := match s with
        | [a] => (if o = sNEG then [45] else o) ++ 32 :: showE a (bindsE o).1
        | [a, b] => showE a (bindsE o).1 ++ 32 :: (o ++ 32 :: showE b ((bindsE o).1 + 1))
        | _ => []
      if (bindsE o).1 < want then parens t else t
def opT (o : List UInt8) : Tok := if wordE o then (1, o, 0) else (4, o, 0)
structure PS where
  ts : List Tok
  k : Nat
  op : Nat
def atT (ts : List Tok) (kind : Int) (ls : List (List UInt8)) : Option (List UInt8) :=
  match ts with
  | [] => none
  | t :: _ => if t.1 = kind ∧ t.2.1 ∈ ls then some t.2.1 else none
def operT (r : Nat) (ts : List Tok) : Option (List UInt8) :=
  if r = 1 then atT ts 1 [sOR, sXOR] else if r = 2 then atT ts 1 [sAND] else if r = 4 then atT ts 4 [[43], [45]]
  else match atT ts 4 [[42], [47]] with
    | some o => some o
    | none => atT ts 1 [sMOD, sSHL, sSHR]
def PS.fail (s : PS) (k : Nat) : PS := if s.k = 0 then { s with k := k } else s
def PS.skip (s : PS) : PS := { s with ts := s.ts.drop 1 }
def wIn (go : PS → Ex × PS) (s : PS) : Ex × PS :=
  let s1 : PS := { s with op := s.op + 1 }
  if 48 < s1.op then (ex0, s1.fail 11) else
    let p := go s1
    (p.1, { p.2 with op := p.2.op - 1 })
def atomP (go : PS → Ex × PS) (s : PS) : Ex × PS :=
  match s.ts with
  | [] => (ex0, s.fail 2)
  | t :: _ =>
    if t.1 = 1 then (if wordE t.2.1 then (ex0, s.skip.fail 2) else (.mk sN 0 t.2.1 [], s.skip))
    else if t.1 = 2 then (.mk sNum t.2.2 [] [], s.skip)
    else if t.1 = 3 then (if (valueL t.2.1).2 = 0 then (.mk sNum (valueL t.2.1).1 [] [], s.skip) else (ex0, s.skip.fail (valueL t.2.1).2))
    else if t.1 = 4 then
      (if t.2.1 = sHere then (.mk sHere 0 [] [], s.skip)
      else if t.2.1 = [40] then
        let p := wIn go s.skip
        if (atT p.2.ts 4 [[41]]).isSome then (p.1, p.2.skip) else (ex0, p.2.fail 2)
      else (ex0, s.skip.fail 2))
    else (ex0, s.skip.fail 2)
mutual
def pP : Nat → Nat → PS → Ex × PS
  | 0, _, s => (ex0, s)
  | f + 1, r, s =>
    if r = 3 then
      (if (atT s.ts 1 [sNOT]).isSome then
        let p := wIn (pP f 3) s.skip
        (.mk sNOT 0 [] [p.1], p.2)
      else pP f 4 s)
    else if r = 6 then
      (if (atT s.ts 4 [[45]]).isSome then
        let p := wIn (pP f 6) s.skip
        (.mk sNEG 0 [] [p.1], p.2)
      else pP f 7 s)
    else if r = 7 then atomP (pP f 1) s
    else
      let p := pP f (r + 1) s
      lP f r p.1 p.2
def lP : Nat → Nat → Ex → PS → Ex × PS
  | 0, _, e, s => (e, s)
  | f + 1, r, e, s =>
    if s.k = 0 then
      match operT r s.ts with
      | none => (e, s)
      | some o =>
        let p := pP f (r + 1) s.skip
        lP f r (.mk o 0 [] [e, p.1]) p.2
    else (e, s)
end
end Go.Proofs.YtagplldaooipmaaGreatDoor
/- Expressions in plain Lean: what is shown is read as it was. -/
namespace Go.Proofs.YtagplldaooipmaaGreatDoor
theorem sameL_iff (s : List Ex) (h : ∀ e ∈ s, ∀ x, sameE e x = true ↔ e = x) : ∀ t, sameL s t = true ↔ s = t := by
  induction s with
  | nil => intro t; cases t <;> simp [sameL]
  | cons a s ih =>
    intro t
    cases t with
    | nil => simp [sameL]
    | cons b t =>
      simp only [sameL, Bool.and_eq_true]
      rw [h a (by simp) b, ih (fun e he => h e (by simp [he])) t]
      simp
theorem sameE_iff (e : Ex) : ∀ x, sameE e x = true ↔ e = x := by
  induction e using Ex.ind with
  | h o n m s ih =>
    intro x
    obtain ⟨o', n', m', s'⟩ := x
    simp only [sameE, Bool.and_eq_true, beq_iff_eq]
    rw [sameL_iff s ih s']
    simp [and_assoc]
theorem sameE_refl (e : Ex) : sameE e e = true := (sameE_iff e e).2 rfl
def Inv (s q : PS) : Prop := q.ts.length ≤ s.ts.length ∧ (s.op ≤ 48 → s.op ≤ q.op ∧ q.op ≤ 49 ∧ (q.k = 0 → q.op = s.op)) ∧ (s.k ≤ 11 → q.k ≤ 11)
theorem Inv.refl (s : PS) : Inv s s := ⟨Nat.le_refl _, fun h => ⟨Nat.le_refl _, by omega, fun _ => rfl⟩, id⟩
theorem Inv.fail {s q : PS} (h : Inv s q) (k : Nat) (hk : k ≠ 0) (hk2 : k ≤ 11) : Inv s (q.fail k) := by
  unfold PS.fail
  split
  · exact ⟨h.1, fun hs => ⟨(h.2.1 hs).1, (h.2.1 hs).2.1, fun h0 => absurd h0 hk⟩, fun _ => hk2⟩
  · exact h
theorem Inv.skip {s q : PS} (h : Inv s q) : Inv s q.skip := ⟨by unfold PS.skip; simp; have := h.1; omega, h.2.1, h.2.2⟩
theorem Inv.then {s q u : PS} (h : Inv s q) (h1 : q.k = 0 → Inv q u) (h2 : q.k ≠ 0 → u = q) : Inv s u := by
  by_cases hk : q.k = 0
  · have g := h1 hk
    refine ⟨Nat.le_trans g.1 h.1, fun hs => ?_, fun hs => g.2.2 (h.2.2 hs)⟩
    have a := h.2.1 hs
    have e := a.2.2 hk
    have b := g.2.1 (by omega)
    exact ⟨by omega, b.2.1, fun hu => (b.2.2 hu).trans e⟩
  · rw [h2 hk]; exact h
theorem Inv.wIn {s : PS} {go : PS → Ex × PS} (h : ∀ q, Inv q (go q).2) : Inv s (wIn go s).2 := by
  unfold Proofs.YtagplldaooipmaaGreatDoor.wIn
  dsimp only
  split
  · rename_i hc
    unfold PS.fail
    dsimp only
    split
    · exact ⟨Nat.le_refl _, fun hs => ⟨by show s.op ≤ s.op + 1; omega, by show s.op + 1 ≤ 49; omega, fun h0 => by simp at h0⟩, fun _ => by show (11 : Nat) ≤ 11; omega⟩
    · rename_i hk
      exact ⟨Nat.le_refl _, fun hs => ⟨by show s.op ≤ s.op + 1; omega, by show s.op + 1 ≤ 49; omega, fun h0 => absurd h0 hk⟩, id⟩
  · rename_i hc
    have g := h { s with op := s.op + 1 }
    refine ⟨g.1, fun hs => ?_, g.2.2⟩
    have a := g.2.1 (by show s.op + 1 ≤ 48; omega)
    dsimp only at a ⊢
    exact ⟨by omega, by omega, fun h0 => by have := a.2.2 h0; omega⟩
theorem pP_succ (f r : Nat) (s : PS) : pP (f + 1) r s = if r = 3 then (if (atT s.ts 1 [sNOT]).isSome then (.mk sNOT 0 [] [(wIn (pP f 3) s.skip).1], (wIn (pP f 3) s.skip).2) else pP f 4 s)
    else if r = 6 then (if (atT s.ts 4 [[45]]).isSome then (.mk sNEG 0 [] [(wIn (pP f 6) s.skip).1], (wIn (pP f 6) s.skip).2) else pP f 7 s)
    else if r = 7 then atomP (pP f 1) s else lP f r (pP f (r + 1) s).1 (pP f (r + 1) s).2 := by rw [pP]
theorem lP_succ (f r : Nat) (e : Ex) (s : PS) : lP (f + 1) r e s = if s.k = 0 then (match operT r s.ts with | none => (e, s) | some o => lP f r (.mk o 0 [] [e, (pP f (r + 1) s.skip).1]) (pP f (r + 1) s.skip).2) else (e, s) := by rw [lP] <;> rfl
theorem lP_none (f r : Nat) (e : Ex) (s : PS) (h : s.k ≠ 0 ∨ operT r s.ts = none) : lP f r e s = (e, s) := by
  cases f with
  | zero => rfl
  | succ f =>
    rw [lP_succ]
    by_cases hk : s.k = 0
    · rcases h with h | h
      · exact absurd hk h
      · rw [if_pos hk, h]
    · rw [if_neg hk]
def stopT (r : Nat) (rest : List Tok) : Prop := ∀ r', r ≤ r' → r' = 1 ∨ r' = 2 ∨ r' = 4 ∨ r' = 5 → operT r' rest = none
theorem stopT.up {r r' : Nat} {rest : List Tok} (h : stopT r rest) (hr : r ≤ r') : stopT r' rest := fun x hx => h x (by omega)
def Pok (r : Nat) (T : List Tok) (e : Ex) (D : Nat) : Prop := ∀ (f : Nat) (s : PS) (rest : List Tok), s.k = 0 → s.ts = T ++ rest → s.op + D ≤ 48 → stopT r rest → 8 * s.ts.length + (8 - r) ≤ f → pP f r s = (e, { s with ts := rest })
def Qok (r : Nat) (T : List Tok) (e : Ex) (D : Nat) : Prop := ∀ (f : Nat) (s : PS) (rest : List Tok), s.k = 0 → s.ts = T ++ rest → s.op + D ≤ 48 → stopT (r + 1) rest → 8 * s.ts.length + (8 - r) ≤ f → ∃ f', 8 * rest.length + (7 - r) ≤ f' ∧ pP f r s = lP f' r e { s with ts := rest }
theorem Pok.more {r : Nat} {T : List Tok} {e : Ex} {D D' : Nat} (h : Pok r T e D) (hD : D ≤ D') : Pok r T e D' := fun f s rest h1 h2 h3 h4 h5 => h f s rest h1 h2 (by omega) h4 h5
theorem Qok.more {r : Nat} {T : List Tok} {e : Ex} {D D' : Nat} (h : Qok r T e D) (hD : D ≤ D') : Qok r T e D' := fun f s rest h1 h2 h3 h4 h5 => h f s rest h1 h2 (by omega) h4 h5
def binR (r : Nat) : Prop := r = 1 ∨ r = 2 ∨ r = 4 ∨ r = 5
theorem Pok.q {r : Nat} {T : List Tok} {e : Ex} {D : Nat} (hr : binR r) (h : Pok (r + 1) T e D) : Qok r T e D := by
  intro f s rest h1 h2 h3 h4 h5
  have hlen : s.ts.length = T.length + rest.length := by rw [h2]; simp
  obtain ⟨g, rfl⟩ : ∃ g, f = g + 1 := ⟨f - 1, by unfold binR at hr; omega⟩
  refine ⟨g, by unfold binR at hr; omega, ?_⟩
  have := h g s rest h1 h2 h3 h4 (by unfold binR at hr; omega)
  rw [pP_succ, if_neg (by unfold binR at hr; omega), if_neg (by unfold binR at hr; omega), if_neg (by unfold binR at hr; omega), this]
theorem Qok.p {r : Nat} {T : List Tok} {e : Ex} {D : Nat} (hr : binR r) (h : Qok r T e D) : Pok r T e D := by
  intro f s rest h1 h2 h3 h4 h5
  obtain ⟨f', _, e'⟩ := h f s rest h1 h2 h3 (h4.up (by omega)) h5
  rw [e', lP_none _ _ _ _ (.inr (h4 r (Nat.le_refl _) hr))]
theorem Qok.two {r : Nat} {T1 T2 : List Tok} {a b : Ex} {D : Nat} {o : List UInt8} {t : Tok} (ha : Qok r T1 a D) (hb : Pok (r + 1) T2 b D) (ho : ∀ X, operT r (t :: X) = some o) (hs : ∀ X, stopT (r + 1) (t :: X)) : Qok r (T1 ++ t :: T2) (.mk o 0 [] [a, b]) D := by
  intro f s rest h1 h2 h3 h4 h5
  have h2' : s.ts = T1 ++ (t :: (T2 ++ rest)) := by rw [h2]; simp
  obtain ⟨f', hf, e'⟩ := ha f s _ h1 h2' h3 (hs _) h5
  simp at hf
  obtain ⟨g, rfl⟩ : ∃ g, f' = g + 1 := ⟨f' - 1, by omega⟩
  refine ⟨g, by omega, ?_⟩
  rw [e', lP_succ, if_pos h1]
  simp only [ho]
  have := hb g ({ s with ts := t :: (T2 ++ rest) } : PS).skip rest h1 (by simp [PS.skip]) h3 h4 (by simp [PS.skip]; omega)
  rw [this]
  rfl
theorem Pok.not {T : List Tok} {e : Ex} {D : Nat} (h : Pok 4 T e D) (hT : ∀ X, atT (T ++ X) 1 [sNOT] = none) : Pok 3 T e D := by
  intro f s rest h1 h2 h3 h4 h5
  obtain ⟨g, rfl⟩ : ∃ g, f = g + 1 := ⟨f - 1, by omega⟩
  rw [pP_succ, if_pos rfl, h2, hT, if_neg (by simp)]
  exact h g s rest h1 h2 h3 (h4.up (by omega)) (by omega)
theorem Pok.neg {T : List Tok} {e : Ex} {D : Nat} (h : Pok 7 T e D) (hT : ∀ X, atT (T ++ X) 4 [[45]] = none) : Pok 6 T e D := by
  intro f s rest h1 h2 h3 h4 h5
  obtain ⟨g, rfl⟩ : ∃ g, f = g + 1 := ⟨f - 1, by omega⟩
  rw [pP_succ, if_neg (by omega), if_pos rfl, h2, hT, if_neg (by simp)]
  exact h g s rest h1 h2 h3 (h4.up (by omega)) (by omega)
end Go.Proofs.YtagplldaooipmaaGreatDoor
/- Expressions in plain Lean: what is shown is read as it was (the induction). -/
namespace Go.Proofs.YtagplldaooipmaaGreatDoor
def binO (o : List UInt8) (r : Nat) : Prop := (r = 5 ∧ (o = [42] ∨ o = [47] ∨ o = sMOD ∨ o = sSHL ∨ o = sSHR)) ∨ (r = 4 ∧ (o = [43] ∨ o = [45])) ∨ (r = 2 ∧ o = sAND) ∨ (r = 1 ∧ (o = sOR ∨ o = sXOR))
theorem binO.binR {o : List UInt8} {r : Nat} (h : binO o r) : binR r := by unfold binO at h; unfold Proofs.YtagplldaooipmaaGreatDoor.binR; omega
theorem binO.binds {o : List UInt8} {r : Nat} (h : binO o r) : bindsE o = (r, 2) ∧ o ≠ sNum ∧ o ≠ sN ∧ o ≠ sNEG ∧ o ≠ sHere ∧ o ≠ sNOT := by
  rcases h with ⟨rfl, rfl | rfl | rfl | rfl | rfl⟩ | ⟨rfl, rfl | rfl⟩ | ⟨rfl, rfl⟩ | ⟨rfl, rfl | rfl⟩ <;> decide
theorem head_cases (o : List UInt8) (n : Nat) (m : List UInt8) (k : Nat) (h : headE o n m k = true) :
    (o = sNum ∧ k = 0 ∧ m = []) ∨ (o = sN ∧ k = 0 ∧ n = 0 ∧ nameB m = true ∧ upper m = m ∧ wordE m = false) ∨ (o = sHere ∧ k = 0 ∧ n = 0 ∧ m = []) ∨ (o = sNEG ∧ k = 1 ∧ n = 0 ∧ m = []) ∨ (o = sNOT ∧ k = 1 ∧ n = 0 ∧ m = []) ∨ (∃ r, binO o r ∧ k = 2 ∧ n = 0 ∧ m = []) := by
  unfold headE at h
  simp only [Bool.and_eq_true, Bool.not_eq_true', beq_eq_false_iff_ne, beq_iff_eq, Bool.or_eq_true] at h
  obtain ⟨⟨⟨h1, h2⟩, h3⟩, h4⟩ := h
  by_cases c1 : o = sNum
  · subst c1
    exact .inl ⟨rfl, h2, by simpa using h4⟩
  have hn : n = 0 := by rcases h3 with h | h; exact h; exact absurd h c1
  by_cases c2 : o = sN
  · subst c2
    simp at h4
    exact .inr (.inl ⟨rfl, h2, hn, h4.1.1, h4.1.2, h4.2⟩)
  rw [if_neg c2] at h4
  have hm : m = [] := by simpa using h4
  by_cases c3 : o = sHere
  · subst c3; exact .inr (.inr (.inl ⟨rfl, h2, hn, hm⟩))
  by_cases c4 : o = sNEG
  · subst c4; exact .inr (.inr (.inr (.inl ⟨rfl, h2, hn, hm⟩)))
  by_cases c5 : o = sNOT
  · subst c5; exact .inr (.inr (.inr (.inr (.inl ⟨rfl, h2, hn, hm⟩))))
  refine .inr (.inr (.inr (.inr (.inr ?_))))
  have hb : ∃ r, binO o r := by
    unfold bindsE at h1
    rw [if_neg (by rintro (h | h | h); exact c1 h; exact c2 h; exact c3 h), if_neg c4] at h1
    by_cases d1 : o = [42] ∨ o = [47] ∨ o = sMOD ∨ o = sSHL ∨ o = sSHR
    · exact ⟨5, .inl ⟨rfl, d1⟩⟩
    rw [if_neg d1] at h1
    by_cases d2 : o = [43] ∨ o = [45]
    · exact ⟨4, .inr (.inl ⟨rfl, d2⟩)⟩
    rw [if_neg d2, if_neg c5] at h1
    by_cases d3 : o = sAND
    · exact ⟨2, .inr (.inr (.inl ⟨rfl, d3⟩))⟩
    rw [if_neg d3] at h1
    by_cases d4 : o = sOR ∨ o = sXOR
    · exact ⟨1, .inr (.inr (.inr ⟨rfl, d4⟩))⟩
    rw [if_neg d4] at h1
    exact absurd rfl h1
  obtain ⟨r, hr⟩ := hb
  exact ⟨r, hr, by rw [h2, hr.binds.1], hn, hm⟩
inductive Form : Ex → Nat → Prop
  | num (n d : Nat) : Form (.mk sNum n [] []) (d + 1)
  | name (m : List UInt8) (d : Nat) (h1 : nameB m = true) (h2 : upper m = m) (h3 : wordE m = false) : Form (.mk sN 0 m []) (d + 1)
  | here (d : Nat) : Form (.mk sHere 0 [] []) (d + 1)
  | neg (a : Ex) (d : Nat) (h : rightE a d = true) : Form (.mk sNEG 0 [] [a]) (d + 1)
  | not (a : Ex) (d : Nat) (h : rightE a d = true) : Form (.mk sNOT 0 [] [a]) (d + 1)
  | two (o : List UInt8) (r : Nat) (a b : Ex) (d : Nat) (ho : binO o r) (h1 : rightE a d = true) (h2 : rightE b d = true) : Form (.mk o 0 [] [a, b]) (d + 1)
theorem rightE.form {e : Ex} {most : Nat} (h : rightE e most = true) : Form e most := by
  obtain ⟨o, n, m, s⟩ := e
  simp only [rightE, Bool.and_eq_true, Bool.not_eq_true', beq_eq_false_iff_ne] at h
  obtain ⟨⟨h0, h1⟩, h2⟩ := h
  obtain ⟨d, rfl⟩ : ∃ d, most = d + 1 := ⟨most - 1, by omega⟩
  rw [Nat.add_sub_cancel] at h2
  rcases head_cases o n m s.length h1 with ⟨rfl, hk, rfl⟩ | ⟨rfl, hk, rfl, g1, g2, g3⟩ | ⟨rfl, hk, rfl, rfl⟩ | ⟨rfl, hk, rfl, rfl⟩ | ⟨rfl, hk, rfl, rfl⟩ | ⟨r, hr, hk, rfl, rfl⟩
  · rw [List.eq_nil_of_length_eq_zero hk]; exact .num n d
  · rw [List.eq_nil_of_length_eq_zero hk]; exact .name m d g1 g2 g3
  · rw [List.eq_nil_of_length_eq_zero hk]; exact .here d
  · match s, hk with
    | [a], _ => simp [rightL] at h2; exact .neg a d h2
  · match s, hk with
    | [a], _ => simp [rightL] at h2; exact .not a d h2
  · match s, hk with
    | [a, b], _ => simp [rightL] at h2; exact .two o r a b d hr h2.1 h2.2
theorem show_num (n w : Nat) : showE (.mk sNum n [] []) w = showN n := rfl
theorem show_name (m : List UInt8) (w : Nat) : showE (.mk sN 0 m []) w = m := rfl
theorem show_here (w : Nat) : showE (.mk sHere 0 [] []) w = sHere := rfl
theorem show_neg (a : Ex) (w : Nat) : showE (.mk sNEG 0 [] [a]) w = if 6 < w then parens ([45] ++ 32 :: showE a 6) else [45] ++ 32 :: showE a 6 := rfl
theorem show_not (a : Ex) (w : Nat) : showE (.mk sNOT 0 [] [a]) w = if 3 < w then parens (sNOT ++ 32 :: showE a 3) else sNOT ++ 32 :: showE a 3 := rfl
theorem show_two {o : List UInt8} {r : Nat} (ho : binO o r) (a b : Ex) (w : Nat) : showE (.mk o 0 [] [a, b]) w = if r < w then parens (showE a r ++ 32 :: (o ++ 32 :: showE b (r + 1))) else showE a r ++ 32 :: (o ++ 32 :: showE b (r + 1)) := by
  rcases ho with ⟨rfl, rfl | rfl | rfl | rfl | rfl⟩ | ⟨rfl, rfl | rfl⟩ | ⟨rfl, rfl⟩ | ⟨rfl, rfl | rfl⟩ <;> rfl
mutual
def fitE : Ex → Bool
  | .mk o n m s => decide (n ≤ 65535) && decide (o.length ≤ 1000) && decide (m.length ≤ 1000) && fitL s
def fitL : List Ex → Bool
  | [] => true
  | e :: r => fitE e && fitL r
end
end Go.Proofs.YtagplldaooipmaaGreatDoor
/- Expressions in plain Lean: what the laws of layer 5 say. -/
namespace Go.Proofs.YtagplldaooipmaaGreatDoor
def numE (n : Nat) : Ex := .mk sNum n [] []
theorem right_num (n d : Nat) : rightE (numE n) (d + 1) = true := by simp [numE, rightE, rightL, headE, bindsE]
end Go.Proofs.YtagplldaooipmaaGreatDoor
/- Tokens in plain Lean: how long they are. -/
namespace Go.Proofs.YtagplldaooipmaaGreatDoor
end Go.Proofs.YtagplldaooipmaaGreatDoor
/- How long an expression's text may be. -/
namespace Go.Proofs.YtagplldaooipmaaGreatDoor
theorem name_len {m : List UInt8} (h : nameB m = true) : m.length ≤ 16 := by
  unfold nameB at h
  simp at h
  omega
theorem bin_len {o : List UInt8} {r : Nat} (ho : binO o r) : o.length ≤ 3 := by
  rcases ho with ⟨rfl, rfl | rfl | rfl | rfl | rfl⟩ | ⟨rfl, rfl | rfl⟩ | ⟨rfl, rfl⟩ | ⟨rfl, rfl | rfl⟩ <;> decide
theorem parens_len (s : List UInt8) : (parens s).length = s.length + 4 := by simp [parens]
theorem show_len (e : Ex) : ∀ d, rightE e d = true → fitE e = true → ∀ w, (showE e w).length + 15 ≤ 30 * 2 ^ d := by
  induction e using Ex.ind with
  | h o n m s ih =>
    intro d h hfit w
    have hf := rightE.form h
    cases hf with
    | num n d =>
      simp [fitE] at hfit
      have h1 := wordT_length (2, [], n) hfit.1
      simp [wordT] at h1
      have h2 : 1 ≤ 2 ^ d := Nat.one_le_two_pow
      rw [show_num, Nat.pow_succ]
      omega
    | name m d g1 g2 g3 =>
      have h1 := name_len g1
      have h2 : 1 ≤ 2 ^ d := Nat.one_le_two_pow
      rw [show_name, Nat.pow_succ]
      omega
    | here d =>
      have h2 : 1 ≤ 2 ^ d := Nat.one_le_two_pow
      rw [show_here, Nat.pow_succ]
      simp
      omega
    | neg a d hA =>
      simp [fitE, fitL] at hfit
      have h1 := ih a (by simp) d hA hfit 6
      have h2 : 1 ≤ 2 ^ d := Nat.one_le_two_pow
      rw [show_neg, Nat.pow_succ]
      split
      · rw [parens_len]; simp; omega
      · simp; omega
    | not a d hA =>
      simp [fitE, fitL] at hfit
      have h1 := ih a (by simp) d hA hfit 3
      have h2 : 1 ≤ 2 ^ d := Nat.one_le_two_pow
      rw [show_not, Nat.pow_succ]
      split
      · rw [parens_len]; simp; omega
      · simp; omega
    | two o r a b d ho h1 h2 =>
      simp [fitE, fitL] at hfit
      have g1 := ih a (by simp) d h1 hfit.2.1 r
      have g2 := ih b (by simp) d h2 hfit.2.2 (r + 1)
      have g3 := bin_len ho
      have g4 : 1 ≤ 2 ^ d := Nat.one_le_two_pow
      rw [show_two ho, Nat.pow_succ]
      split
      · rw [parens_len]; simp; omega
      · simp; omega
theorem show_len9 (e : Ex) (d : Nat) (hd : d ≤ 24) (h : rightE e d = true) (hf : fitE e = true) (w : Nat) : (showE e w).length ≤ 600000000 := by
  have h1 := show_len e d h hf w
  have h2 : 2 ^ d ≤ 2 ^ 24 := Nat.pow_le_pow_right (by omega) hd
  omega
end Go.Proofs.YtagplldaooipmaaGreatDoor
