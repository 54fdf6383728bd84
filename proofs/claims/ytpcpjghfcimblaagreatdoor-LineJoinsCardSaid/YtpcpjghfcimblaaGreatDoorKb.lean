/- Several texts in one: PureEx, PureEx2, PureEx3, PureEx4, PureTok3, ShowLen. -/
import Derived.Test.YtpcpjghfcimblaaGreatDoorKa
namespace Go.Proofs.YtpcpjghfcimblaaGreatDoor

inductive Ex where
  | mk (op : List UInt8) (n : Nat) (name : List UInt8) (sub : List Ex)
namespace Ex
def op : Ex → List UInt8
  | .mk o _ _ _ => o
def n : Ex → Nat
  | .mk _ n _ _ => n
def name : Ex → List UInt8
  | .mk _ _ m _ => m
def sub : Ex → List Ex
  | .mk _ _ _ s => s
end Ex
theorem Ex.ind {P : Ex → Prop} (h : ∀ o n m s, (∀ e ∈ s, P e) → P (.mk o n m s)) (e : Ex) : P e :=
  Ex.rec (motive_1 := P) (motive_2 := fun l => ∀ e ∈ l, P e) h (by simp) (fun _ _ h1 h2 => by simpa using ⟨h1, h2⟩) e
def ex0 : Ex := .mk [] 0 [] []

abbrev sNum : List UInt8 := [35]
abbrev sN : List UInt8 := [110]
abbrev sHere : List UInt8 := [36]
abbrev sNEG : List UInt8 := [78, 69, 71]
abbrev sNOT : List UInt8 := [78, 79, 84]
abbrev sAND : List UInt8 := [65, 78, 68]
abbrev sOR : List UInt8 := [79, 82]
abbrev sXOR : List UInt8 := [88, 79, 82]
abbrev sMOD : List UInt8 := [77, 79, 68]
abbrev sSHL : List UInt8 := [83, 72, 76]
abbrev sSHR : List UInt8 := [83, 72, 82]

def bindsE (o : List UInt8) : Nat × Nat :=
  if o = sNum ∨ o = sN ∨ o = sHere then (7, 0)
  else if o = sNEG then (6, 1)
  else if o = [42] ∨ o = [47] ∨ o = sMOD ∨ o = sSHL ∨ o = sSHR then (5, 2)
  else if o = [43] ∨ o = [45] then (4, 2)
  else if o = sNOT then (3, 1)
  else if o = sAND then (2, 2)
  else if o = sOR ∨ o = sXOR then (1, 2)
  else (0, 0)
def wordE (o : List UInt8) : Bool := decide (o = sOR ∨ o = sXOR ∨ o = sAND ∨ o = sNOT ∨ o = sMOD ∨ o = sSHL ∨ o = sSHR)

mutual
def deepE : Ex → Nat
  | .mk _ _ _ s => deepL s + 1
def deepL : List Ex → Nat
  | [] => 0
  | e :: r => max (deepE e) (deepL r)
end
/-- The head of an expression is right. -/
def headE (o : List UInt8) (n : Nat) (m : List UInt8) (k : Nat) : Bool :=
  !((bindsE o).1 == 0) && k == (bindsE o).2 && (n == 0 || o == sNum) && (if o = sN then nameB m && upper m == m && !wordE m else m == [])
mutual
def rightE : Ex → Nat → Bool
  | .mk o n m s, most => !(most == 0) && headE o n m s.length && rightL s (most - 1)
def rightL : List Ex → Nat → Bool
  | [], _ => true
  | e :: r, most => rightE e most && rightL r most
end
mutual
def sameE : Ex → Ex → Bool
  | .mk o n m s, .mk o' n' m' s' => o == o' && n == n' && m == m' && sameL s s'
def sameL : List Ex → List Ex → Bool
  | [], [] => true
  | e :: r, e' :: r' => sameE e e' && sameL r r'
  | _, _ => false
end
mutual
def namesE : Ex → List (List UInt8)
  | .mk o _ m s => (if o = sN then [m] else []) ++ namesL s
def namesL : List Ex → List (List UInt8)
  | [] => []
  | e :: r => namesE e ++ namesL r
end
mutual
def lightE : Ex → Nat → Bool
  | .mk o _ m s, d => !(d == 0) && decide (s.length ≤ 3) && decide (o.length ≤ 50) && decide (m.length ≤ 50) && lightL s (d - 1)
def lightL : List Ex → Nat → Bool
  | [], _ => true
  | e :: r, d => lightE e d && lightL r d
end
mutual
/-- The parts, counted till there are more than c. -/
def countE (c : Nat) : Ex → Nat
  | .mk _ _ _ s => countL c s 1
def countL (c : Nat) : List Ex → Nat → Nat
  | [], n => n
  | e :: r, n => if n ≤ c then countL c r (n + countE c e) else n
end
def parens (s : List UInt8) : List UInt8 := [40, 32] ++ s ++ [32, 41]
def showE : Ex → Nat → List UInt8
  | .mk o n m s, want =>
    if o = sNum then showN n else if o = sN then m else if (bindsE o).2 = 0 then o
    else
      let t := match s with
        | [a] => (if o = sNEG then [45] else o) ++ 32 :: showE a (bindsE o).1
        | [a, b] => showE a (bindsE o).1 ++ 32 :: (o ++ 32 :: showE b ((bindsE o).1 + 1))
        | _ => []
      if (bindsE o).1 < want then parens t else t
def opT (o : List UInt8) : Tok := if wordE o then (1, o, 0) else (4, o, 0)
/-- The tokens of an expression. -/
def toksE : Ex → Nat → List Tok
  | .mk o n m s, want =>
    if o = sNum then [(2, [], n)] else if o = sN then [(1, m, 0)] else if (bindsE o).2 = 0 then [(4, o, 0)]
    else
      let t := match s with
        | [a] => (if o = sNEG then (4, [45], 0) else opT o) :: toksE a (bindsE o).1
        | [a, b] => toksE a (bindsE o).1 ++ opT o :: toksE b ((bindsE o).1 + 1)
        | _ => []
      if (bindsE o).1 < want then (4, [40], 0) :: (t ++ [(4, [41], 0)]) else t

/-- Two parts. -/
def twoE (o : List UInt8) (a b : Nat) : Nat × Nat :=
  if o = sOR then (a ||| b, 0) else if o = sXOR then (a ^^^ b, 0) else if o = sAND then (a &&& b, 0)
  else if o = [43] then ((a + b) % 65536, 0) else if o = [45] then ((a + 65536 - b) % 65536, 0) else if o = [42] then ((a * b) % 65536, 0)
  else if o = sSHL then ((a * 2 ^ b) % 65536, 0) else if o = sSHR then (a / 2 ^ b, 0)
  else if b = 0 then (0, 5) else if o = [47] then (a / b, 0) else (a % b, 0)
def evalE (here : Nat) (val : List UInt8 → Nat × Nat) : Ex → Nat × Nat
  | .mk o n m s =>
    if o = sNum then (n, 0) else if o = sHere then (here, 0) else if o = sN then val m
    else match s with
      | [a] =>
        let x := evalE here val a
        if x.2 ≠ 0 then (0, x.2) else if o = sNOT then (65535 - x.1, 0) else ((65536 - x.1) % 65536, 0)
      | [a, b] =>
        let x := evalE here val a
        if x.2 ≠ 0 then (0, x.2) else
          let y := evalE here val b
          if y.2 ≠ 0 then (0, y.2) else twoE o x.1 y.1
      | _ => (0, 0)

/-- The parser's state: tokens left, what was wrong, how many are open. -/
structure PS where
  ts : List Tok
  k : Nat
  op : Nat
def atT (ts : List Tok) (kind : Int) (ls : List (List UInt8)) : Option (List UInt8) :=
  match ts with
  | [] => none
  | t :: _ => if t.1 = kind ∧ t.2.1 ∈ ls then some t.2.1 else none
def operT (r : Nat) (ts : List Tok) : Option (List UInt8) :=
  if r = 1 then atT ts 1 [sOR, sXOR] else if r = 2 then atT ts 1 [sAND] else if r = 4 then atT ts 4 [[43], [45]]
  else match atT ts 4 [[42], [47]] with
    | some o => some o
    | none => atT ts 1 [sMOD, sSHL, sSHR]
def PS.fail (s : PS) (k : Nat) : PS := if s.k = 0 then { s with k := k } else s
def PS.skip (s : PS) : PS := { s with ts := s.ts.drop 1 }
/-- One deeper. -/
def wIn (go : PS → Ex × PS) (s : PS) : Ex × PS :=
  let s1 : PS := { s with op := s.op + 1 }
  if 48 < s1.op then (ex0, s1.fail 11) else
    let p := go s1
    (p.1, { p.2 with op := p.2.op - 1 })
def atomP (go : PS → Ex × PS) (s : PS) : Ex × PS :=
  match s.ts with
  | [] => (ex0, s.fail 2)
  | t :: _ =>
    if t.1 = 1 then (if wordE t.2.1 then (ex0, s.skip.fail 2) else (.mk sN 0 t.2.1 [], s.skip))
    else if t.1 = 2 then (.mk sNum t.2.2 [] [], s.skip)
    else if t.1 = 3 then (if (valueL t.2.1).2 = 0 then (.mk sNum (valueL t.2.1).1 [] [], s.skip) else (ex0, s.skip.fail (valueL t.2.1).2))
    else if t.1 = 4 then
      (if t.2.1 = sHere then (.mk sHere 0 [] [], s.skip)
      else if t.2.1 = [40] then
        let p := wIn go s.skip
        if (atT p.2.ts 4 [[41]]).isSome then (p.1, p.2.skip) else (ex0, p.2.fail 2)
      else (ex0, s.skip.fail 2))
    else (ex0, s.skip.fail 2)
mutual
def pP : Nat → Nat → PS → Ex × PS
  | 0, _, s => (ex0, s)
  | f + 1, r, s =>
    if r = 3 then
      (if (atT s.ts 1 [sNOT]).isSome then
        let p := wIn (pP f 3) s.skip
        (.mk sNOT 0 [] [p.1], p.2)
      else pP f 4 s)
    else if r = 6 then
      (if (atT s.ts 4 [[45]]).isSome then
        let p := wIn (pP f 6) s.skip
        (.mk sNEG 0 [] [p.1], p.2)
      else pP f 7 s)
    else if r = 7 then atomP (pP f 1) s
    else
      let p := pP f (r + 1) s
      lP f r p.1 p.2
def lP : Nat → Nat → Ex → PS → Ex × PS
  | 0, _, e, s => (e, s)
  | f + 1, r, e, s =>
    if s.k = 0 then
      match operT r s.ts with
      | none => (e, s)
      | some o =>
        let p := pP f (r + 1) s.skip
        lP f r (.mk o 0 [] [e, p.1]) p.2
    else (e, s)
end
def parseE (ts : List Tok) : Ex × Nat × Nat :=
  let p := pP (8 * ts.length + 7) 1 ⟨ts, 0, 0⟩
  if p.2.k ≠ 0 then (ex0, 0, p.2.k) else if 24 < deepE p.1 then (ex0, 0, 11) else (p.1, ts.length - p.2.ts.length, 0)
def allE (ts : List Tok) : Ex × Nat :=
  let p := parseE ts
  if p.2.2 ≠ 0 then (ex0, p.2.2) else if p.2.1 < ts.length then (ex0, 2) else (p.1, 0)

theorem alive5a : lineL [49, 32, 43, 32, 50, 32, 42, 32, 51] = ([(2, [], 1), (4, [43], 0), (2, [], 2), (4, [42], 0), (2, [], 3)], 0) := by decide +kernel
example : allE [(2, [], 1), (4, [43], 0), (2, [], 2), (4, [42], 0), (2, [], 3)] = (.mk [43] 0 [] [.mk sNum 1 [] [], .mk [42] 0 [] [.mk sNum 2 [] [], .mk sNum 3 [] []]], 0) := by rfl
example : showE (.mk [43] 0 [] [.mk sNum 1 [] [], .mk [42] 0 [] [.mk sNum 2 [] [], .mk sNum 3 [] []]]) 1 = [49, 32, 43, 32, 50, 32, 42, 32, 51] := by rfl
end Go.Proofs.YtpcpjghfcimblaaGreatDoor
/- Expressions in plain Lean: what is shown is read as it was. -/
namespace Go.Proofs.YtpcpjghfcimblaaGreatDoor

theorem sameL_iff (s : List Ex) (h : ∀ e ∈ s, ∀ x, sameE e x = true ↔ e = x) : ∀ t, sameL s t = true ↔ s = t := by
  induction s with
  | nil => intro t; cases t <;> simp [sameL]
  | cons a s ih =>
    intro t
    cases t with
    | nil => simp [sameL]
    | cons b t =>
      simp only [sameL, Bool.and_eq_true]
      rw [h a (by simp) b, ih (fun e he => h e (by simp [he])) t]
      simp
theorem sameE_iff (e : Ex) : ∀ x, sameE e x = true ↔ e = x := by
  induction e using Ex.ind with
  | h o n m s ih =>
    intro x
    obtain ⟨o', n', m', s'⟩ := x
    simp only [sameE, Bool.and_eq_true, beq_iff_eq]
    rw [sameL_iff s ih s']
    simp [and_assoc]
theorem sameE_refl (e : Ex) : sameE e e = true := (sameE_iff e e).2 rfl
theorem sameE_comm (a b : Ex) : sameE a b = sameE b a := by
  rw [Bool.eq_iff_iff, sameE_iff, sameE_iff]; exact eq_comm

/-- What the parser keeps. -/
def Inv (s q : PS) : Prop := q.ts.length ≤ s.ts.length ∧ (s.op ≤ 48 → s.op ≤ q.op ∧ q.op ≤ 49 ∧ (q.k = 0 → q.op = s.op)) ∧ (s.k ≤ 11 → q.k ≤ 11)
theorem Inv.refl (s : PS) : Inv s s := ⟨Nat.le_refl _, fun h => ⟨Nat.le_refl _, by omega, fun _ => rfl⟩, id⟩
theorem Inv.fail {s q : PS} (h : Inv s q) (k : Nat) (hk : k ≠ 0) (hk2 : k ≤ 11) : Inv s (q.fail k) := by
  unfold PS.fail
  split
  · exact ⟨h.1, fun hs => ⟨(h.2.1 hs).1, (h.2.1 hs).2.1, fun h0 => absurd h0 hk⟩, fun _ => hk2⟩
  · exact h
theorem Inv.skip {s q : PS} (h : Inv s q) : Inv s q.skip := ⟨by unfold PS.skip; simp; have := h.1; omega, h.2.1, h.2.2⟩
theorem Inv.then {s q u : PS} (h : Inv s q) (h1 : q.k = 0 → Inv q u) (h2 : q.k ≠ 0 → u = q) : Inv s u := by
  by_cases hk : q.k = 0
  · have g := h1 hk
    refine ⟨Nat.le_trans g.1 h.1, fun hs => ?_, fun hs => g.2.2 (h.2.2 hs)⟩
    have a := h.2.1 hs
    have e := a.2.2 hk
    have b := g.2.1 (by omega)
    exact ⟨by omega, b.2.1, fun hu => (b.2.2 hu).trans e⟩
  · rw [h2 hk]; exact h
theorem Inv.wIn {s : PS} {go : PS → Ex × PS} (h : ∀ q, Inv q (go q).2) : Inv s (wIn go s).2 := by
  unfold Proofs.YtpcpjghfcimblaaGreatDoor.wIn
  dsimp only
  split
  · rename_i hc
    unfold PS.fail
    dsimp only
    split
    · exact ⟨Nat.le_refl _, fun hs => ⟨by show s.op ≤ s.op + 1; omega, by show s.op + 1 ≤ 49; omega, fun h0 => by simp at h0⟩, fun _ => by show (11 : Nat) ≤ 11; omega⟩
    · rename_i hk
      exact ⟨Nat.le_refl _, fun hs => ⟨by show s.op ≤ s.op + 1; omega, by show s.op + 1 ≤ 49; omega, fun h0 => absurd h0 hk⟩, id⟩
  · rename_i hc
    have g := h { s with op := s.op + 1 }
    refine ⟨g.1, fun hs => ?_, g.2.2⟩
    have a := g.2.1 (by show s.op + 1 ≤ 48; omega)
    dsimp only at a ⊢
    exact ⟨by omega, by omega, fun h0 => by have := a.2.2 h0; omega⟩
theorem Inv.of_skip {s u : PS} (h : Inv s.skip u) : Inv s u := ⟨by have := h.1; unfold PS.skip at this; simp at this; omega, h.2.1, h.2.2⟩
theorem valueL_le (l : List UInt8) : (valueL l).2 ≤ 11 ∧ (valueL l).1 ≤ 65535 := by
  unfold valueL
  split
  · rename_i c; have := c.toNat_lt; simp; omega
  · rename_i c d; have := c.toNat_lt; have := d.toNat_lt; simp; omega
  · simp
theorem Inv.atom {s : PS} {go : PS → Ex × PS} (h : ∀ q, Inv q (go q).2) : Inv s (atomP go s).2 := by
  unfold atomP
  have r := Inv.refl s
  split
  · exact r.fail 2 (by omega) (by omega)
  · split
    · split
      · exact r.skip.fail 2 (by omega) (by omega)
      · exact r.skip
    · split
      · exact r.skip
      · split
        · split
          · exact r.skip
          · rename_i hv; exact r.skip.fail _ hv (valueL_le _).1
        · split
          · split
            · exact r.skip
            · split
              · have g : Inv s (Proofs.YtpcpjghfcimblaaGreatDoor.wIn go s.skip).2 := (Inv.wIn h).of_skip
                dsimp only
                split
                · exact g.skip
                · exact g.fail 2 (by omega) (by omega)
              · exact r.skip.fail 2 (by omega) (by omega)
          · exact r.skip.fail 2 (by omega) (by omega)
theorem pP_succ (f r : Nat) (s : PS) : pP (f + 1) r s = if r = 3 then (if (atT s.ts 1 [sNOT]).isSome then (.mk sNOT 0 [] [(wIn (pP f 3) s.skip).1], (wIn (pP f 3) s.skip).2) else pP f 4 s)
    else if r = 6 then (if (atT s.ts 4 [[45]]).isSome then (.mk sNEG 0 [] [(wIn (pP f 6) s.skip).1], (wIn (pP f 6) s.skip).2) else pP f 7 s)
    else if r = 7 then atomP (pP f 1) s else lP f r (pP f (r + 1) s).1 (pP f (r + 1) s).2 := by rw [pP]
theorem lP_succ (f r : Nat) (e : Ex) (s : PS) : lP (f + 1) r e s = if s.k = 0 then (match operT r s.ts with | none => (e, s) | some o => lP f r (.mk o 0 [] [e, (pP f (r + 1) s.skip).1]) (pP f (r + 1) s.skip).2) else (e, s) := by rw [lP] <;> rfl
theorem lP_none (f r : Nat) (e : Ex) (s : PS) (h : s.k ≠ 0 ∨ operT r s.ts = none) : lP f r e s = (e, s) := by
  cases f with
  | zero => rfl
  | succ f =>
    rw [lP_succ]
    by_cases hk : s.k = 0
    · rcases h with h | h
      · exact absurd hk h
      · rw [if_pos hk, h]
    · rw [if_neg hk]
theorem pP_inv : ∀ f, (∀ r s, Inv s (pP f r s).2) ∧ (∀ r e s, Inv s (lP f r e s).2) := by
  intro f
  induction f with
  | zero => exact ⟨fun r s => Inv.refl s, fun r e s => Inv.refl s⟩
  | succ f ih =>
    refine ⟨fun r s => ?_, fun r e s => ?_⟩
    · rw [pP_succ]
      split
      · split
        · exact (Inv.wIn (ih.1 3)).of_skip
        · exact ih.1 4 s
      · split
        · split
          · exact (Inv.wIn (ih.1 6)).of_skip
          · exact ih.1 7 s
        · split
          · exact Inv.atom (ih.1 1)
          · exact (ih.1 (r + 1) s).then (fun _ => ih.2 r _ _) (fun hk => by rw [lP_none _ _ _ _ (.inl hk)])
    · rw [lP_succ]
      split
      · split
        · exact Inv.refl s
        · exact (ih.1 (r + 1) s.skip).of_skip.then (fun _ => ih.2 r _ _) (fun hk => by rw [lP_none _ _ _ _ (.inl hk)])
      · exact Inv.refl s

/-- No operator stands ahead that binds so, or more. -/
def stopT (r : Nat) (rest : List Tok) : Prop := ∀ r', r ≤ r' → r' = 1 ∨ r' = 2 ∨ r' = 4 ∨ r' = 5 → operT r' rest = none
theorem stopT.up {r r' : Nat} {rest : List Tok} (h : stopT r rest) (hr : r ≤ r') : stopT r' rest := fun x hx => h x (by omega)
def Pok (r : Nat) (T : List Tok) (e : Ex) (D : Nat) : Prop := ∀ (f : Nat) (s : PS) (rest : List Tok), s.k = 0 → s.ts = T ++ rest → s.op + D ≤ 48 → stopT r rest → 8 * s.ts.length + (8 - r) ≤ f → pP f r s = (e, { s with ts := rest })
/-- Read up to where it could go on. -/
def Qok (r : Nat) (T : List Tok) (e : Ex) (D : Nat) : Prop := ∀ (f : Nat) (s : PS) (rest : List Tok), s.k = 0 → s.ts = T ++ rest → s.op + D ≤ 48 → stopT (r + 1) rest → 8 * s.ts.length + (8 - r) ≤ f → ∃ f', 8 * rest.length + (7 - r) ≤ f' ∧ pP f r s = lP f' r e { s with ts := rest }
theorem Pok.more {r : Nat} {T : List Tok} {e : Ex} {D D' : Nat} (h : Pok r T e D) (hD : D ≤ D') : Pok r T e D' := fun f s rest h1 h2 h3 h4 h5 => h f s rest h1 h2 (by omega) h4 h5
theorem Qok.more {r : Nat} {T : List Tok} {e : Ex} {D D' : Nat} (h : Qok r T e D) (hD : D ≤ D') : Qok r T e D' := fun f s rest h1 h2 h3 h4 h5 => h f s rest h1 h2 (by omega) h4 h5
def binR (r : Nat) : Prop := r = 1 ∨ r = 2 ∨ r = 4 ∨ r = 5
theorem Pok.q {r : Nat} {T : List Tok} {e : Ex} {D : Nat} (hr : binR r) (h : Pok (r + 1) T e D) : Qok r T e D := by
  intro f s rest h1 h2 h3 h4 h5
  have hlen : s.ts.length = T.length + rest.length := by rw [h2]; simp
  obtain ⟨g, rfl⟩ : ∃ g, f = g + 1 := ⟨f - 1, by unfold binR at hr; omega⟩
  refine ⟨g, by unfold binR at hr; omega, ?_⟩
  have := h g s rest h1 h2 h3 h4 (by unfold binR at hr; omega)
  rw [pP_succ, if_neg (by unfold binR at hr; omega), if_neg (by unfold binR at hr; omega), if_neg (by unfold binR at hr; omega), this]
theorem Qok.p {r : Nat} {T : List Tok} {e : Ex} {D : Nat} (hr : binR r) (h : Qok r T e D) : Pok r T e D := by
  intro f s rest h1 h2 h3 h4 h5
  obtain ⟨f', _, e'⟩ := h f s rest h1 h2 h3 (h4.up (by omega)) h5
  rw [e', lP_none _ _ _ _ (.inr (h4 r (Nat.le_refl _) hr))]
theorem Pok.down {r : Nat} {T : List Tok} {e : Ex} {D : Nat} (hr : binR r) (h : Pok (r + 1) T e D) : Pok r T e D := (h.q hr).p hr
theorem Qok.two {r : Nat} {T1 T2 : List Tok} {a b : Ex} {D : Nat} {o : List UInt8} {t : Tok} (ha : Qok r T1 a D) (hb : Pok (r + 1) T2 b D) (ho : ∀ X, operT r (t :: X) = some o) (hs : ∀ X, stopT (r + 1) (t :: X)) : Qok r (T1 ++ t :: T2) (.mk o 0 [] [a, b]) D := by
  intro f s rest h1 h2 h3 h4 h5
  have h2' : s.ts = T1 ++ (t :: (T2 ++ rest)) := by rw [h2]; simp
  obtain ⟨f', hf, e'⟩ := ha f s _ h1 h2' h3 (hs _) h5
  simp at hf
  obtain ⟨g, rfl⟩ : ∃ g, f' = g + 1 := ⟨f' - 1, by omega⟩
  refine ⟨g, by omega, ?_⟩
  rw [e', lP_succ, if_pos h1]
  simp only [ho]
  have := hb g ({ s with ts := t :: (T2 ++ rest) } : PS).skip rest h1 (by simp [PS.skip]) h3 h4 (by simp [PS.skip]; omega)
  rw [this]
  rfl
theorem atT_cons (t : Tok) (X : List Tok) (k : Int) (ls : List (List UInt8)) : atT (t :: X) k ls = if t.1 = k ∧ t.2.1 ∈ ls then some t.2.1 else none := rfl
theorem Pok.not {T : List Tok} {e : Ex} {D : Nat} (h : Pok 4 T e D) (hT : ∀ X, atT (T ++ X) 1 [sNOT] = none) : Pok 3 T e D := by
  intro f s rest h1 h2 h3 h4 h5
  obtain ⟨g, rfl⟩ : ∃ g, f = g + 1 := ⟨f - 1, by omega⟩
  rw [pP_succ, if_pos rfl, h2, hT, if_neg (by simp)]
  exact h g s rest h1 h2 h3 (h4.up (by omega)) (by omega)
theorem Pok.neg {T : List Tok} {e : Ex} {D : Nat} (h : Pok 7 T e D) (hT : ∀ X, atT (T ++ X) 4 [[45]] = none) : Pok 6 T e D := by
  intro f s rest h1 h2 h3 h4 h5
  obtain ⟨g, rfl⟩ : ∃ g, f = g + 1 := ⟨f - 1, by omega⟩
  rw [pP_succ, if_neg (by omega), if_pos rfl, h2, hT, if_neg (by simp)]
  exact h g s rest h1 h2 h3 (h4.up (by omega)) (by omega)
theorem wIn_ok {r : Nat} {T : List Tok} {e : Ex} {D : Nat} (h : Pok r T e D) (f : Nat) (s : PS) (rest : List Tok) (h1 : s.k = 0) (h2 : s.ts = T ++ rest) (h3 : s.op + (D + 1) ≤ 48) (h4 : stopT r rest) (h5 : 8 * s.ts.length + (8 - r) ≤ f) : wIn (pP f r) s = (e, { s with ts := rest }) := by
  unfold wIn
  dsimp only
  rw [if_neg (by omega), h f { s with op := s.op + 1 } rest h1 h2 (by show s.op + 1 + D ≤ 48; omega) h4 h5]
  simp
theorem Pok.mkNot {T : List Tok} {e : Ex} {D : Nat} (h : Pok 3 T e D) : Pok 3 ((1, sNOT, 0) :: T) (.mk sNOT 0 [] [e]) (D + 1) := by
  intro f s rest h1 h2 h3 h4 h5
  obtain ⟨g, rfl⟩ : ∃ g, f = g + 1 := ⟨f - 1, by omega⟩
  have hl : s.ts.length = T.length + rest.length + 1 := by rw [h2]; simp
  have hw := wIn_ok h g s.skip rest h1 (by simp [PS.skip, h2]) h3 h4 (by simp [PS.skip]; omega)
  rw [pP_succ, if_pos rfl, h2, if_pos (by simp [atT_cons]), hw]
  rfl
theorem Pok.mkNeg {T : List Tok} {e : Ex} {D : Nat} (h : Pok 6 T e D) : Pok 6 ((4, [45], 0) :: T) (.mk sNEG 0 [] [e]) (D + 1) := by
  intro f s rest h1 h2 h3 h4 h5
  obtain ⟨g, rfl⟩ : ∃ g, f = g + 1 := ⟨f - 1, by omega⟩
  have hl : s.ts.length = T.length + rest.length + 1 := by rw [h2]; simp
  have hw := wIn_ok h g s.skip rest h1 (by simp [PS.skip, h2]) h3 h4 (by simp [PS.skip]; omega)
  rw [pP_succ, if_neg (by omega), if_pos rfl, h2, if_pos (by simp [atT_cons]), hw]
  rfl
theorem stop_close (r : Nat) (X : List Tok) : stopT r ((4, [41], 0) :: X) := by
  intro r' _ h
  rcases h with rfl | rfl | rfl | rfl <;> simp [operT, atT_cons]
theorem stop_nil (r : Nat) : stopT r [] := by
  intro r' _ h
  rcases h with rfl | rfl | rfl | rfl <;> simp [operT, atT]
theorem Pok.paren {T : List Tok} {e : Ex} {D : Nat} (h : Pok 1 T e D) : Pok 7 ((4, [40], 0) :: (T ++ [(4, [41], 0)])) e (D + 1) := by
  intro f s rest h1 h2 h3 h4 h5
  obtain ⟨g, rfl⟩ : ∃ g, f = g + 1 := ⟨f - 1, by omega⟩
  have hl : s.ts.length = T.length + rest.length + 2 := by rw [h2]; simp; omega
  have hw := wIn_ok h g s.skip ((4, [41], 0) :: rest) h1 (by simp [PS.skip, h2]) h3 (stop_close _ _) (by simp [PS.skip]; omega)
  rw [pP_succ, if_neg (by omega), if_neg (by omega), if_pos rfl]
  unfold atomP
  rw [h2]
  simp only [List.cons_append]
  rw [if_neg (by decide), if_neg (by decide), if_neg (by decide), if_pos trivial, if_neg (by decide), if_pos trivial, hw]
  simp [atT_cons, PS.skip]
theorem Pok.leaf {t : Tok} {e : Ex} (h : ∀ (g : PS → Ex × PS) (s : PS) (rest : List Tok), s.ts = t :: rest → atomP g s = (e, s.skip)) : Pok 7 [t] e 0 := by
  intro f s rest h1 h2 h3 h4 h5
  obtain ⟨g, rfl⟩ : ∃ g, f = g + 1 := ⟨f - 1, by omega⟩
  rw [pP_succ, if_neg (by omega), if_neg (by omega), if_pos rfl, h _ s rest h2]
  unfold PS.skip
  rw [h2]
  rfl
end Go.Proofs.YtpcpjghfcimblaaGreatDoor
/- Expressions in plain Lean: what is shown is read as it was (the induction). -/
namespace Go.Proofs.YtpcpjghfcimblaaGreatDoor

def binO (o : List UInt8) (r : Nat) : Prop := (r = 5 ∧ (o = [42] ∨ o = [47] ∨ o = sMOD ∨ o = sSHL ∨ o = sSHR)) ∨ (r = 4 ∧ (o = [43] ∨ o = [45])) ∨ (r = 2 ∧ o = sAND) ∨ (r = 1 ∧ (o = sOR ∨ o = sXOR))
theorem binO.binR {o : List UInt8} {r : Nat} (h : binO o r) : binR r := by unfold binO at h; unfold Proofs.YtpcpjghfcimblaaGreatDoor.binR; omega
theorem binO.binds {o : List UInt8} {r : Nat} (h : binO o r) : bindsE o = (r, 2) ∧ o ≠ sNum ∧ o ≠ sN ∧ o ≠ sNEG ∧ o ≠ sHere ∧ o ≠ sNOT := by
  rcases h with ⟨rfl, rfl | rfl | rfl | rfl | rfl⟩ | ⟨rfl, rfl | rfl⟩ | ⟨rfl, rfl⟩ | ⟨rfl, rfl | rfl⟩ <;> decide
theorem binO.oper {o : List UInt8} {r : Nat} (h : binO o r) (X : List Tok) : operT r (opT o :: X) = some o := by
  rcases h with ⟨rfl, rfl | rfl | rfl | rfl | rfl⟩ | ⟨rfl, rfl | rfl⟩ | ⟨rfl, rfl⟩ | ⟨rfl, rfl | rfl⟩ <;> rfl
theorem binO.stop {o : List UInt8} {r : Nat} (h : binO o r) (X : List Tok) : stopT (r + 1) (opT o :: X) := by
  intro r' hr hb
  rcases hb with rfl | rfl | rfl | rfl <;> rcases h with ⟨rfl, rfl | rfl | rfl | rfl | rfl⟩ | ⟨rfl, rfl | rfl⟩ | ⟨rfl, rfl⟩ | ⟨rfl, rfl | rfl⟩ <;> first | omega | rfl
theorem head_cases (o : List UInt8) (n : Nat) (m : List UInt8) (k : Nat) (h : headE o n m k = true) :
    (o = sNum ∧ k = 0 ∧ m = []) ∨ (o = sN ∧ k = 0 ∧ n = 0 ∧ nameB m = true ∧ upper m = m ∧ wordE m = false) ∨ (o = sHere ∧ k = 0 ∧ n = 0 ∧ m = []) ∨ (o = sNEG ∧ k = 1 ∧ n = 0 ∧ m = []) ∨ (o = sNOT ∧ k = 1 ∧ n = 0 ∧ m = []) ∨ (∃ r, binO o r ∧ k = 2 ∧ n = 0 ∧ m = []) := by
  unfold headE at h
  simp only [Bool.and_eq_true, Bool.not_eq_true', beq_eq_false_iff_ne, beq_iff_eq, Bool.or_eq_true] at h
  obtain ⟨⟨⟨h1, h2⟩, h3⟩, h4⟩ := h
  by_cases c1 : o = sNum
  · subst c1
    exact .inl ⟨rfl, h2, by simpa using h4⟩
  have hn : n = 0 := by rcases h3 with h | h; exact h; exact absurd h c1
  by_cases c2 : o = sN
  · subst c2
    simp at h4
    exact .inr (.inl ⟨rfl, h2, hn, h4.1.1, h4.1.2, h4.2⟩)
  rw [if_neg c2] at h4
  have hm : m = [] := by simpa using h4
  by_cases c3 : o = sHere
  · subst c3; exact .inr (.inr (.inl ⟨rfl, h2, hn, hm⟩))
  by_cases c4 : o = sNEG
  · subst c4; exact .inr (.inr (.inr (.inl ⟨rfl, h2, hn, hm⟩)))
  by_cases c5 : o = sNOT
  · subst c5; exact .inr (.inr (.inr (.inr (.inl ⟨rfl, h2, hn, hm⟩))))
  refine .inr (.inr (.inr (.inr (.inr ?_))))
  have hb : ∃ r, binO o r := by
    unfold bindsE at h1
    rw [if_neg (by rintro (h | h | h); exact c1 h; exact c2 h; exact c3 h), if_neg c4] at h1
    by_cases d1 : o = [42] ∨ o = [47] ∨ o = sMOD ∨ o = sSHL ∨ o = sSHR
    · exact ⟨5, .inl ⟨rfl, d1⟩⟩
    rw [if_neg d1] at h1
    by_cases d2 : o = [43] ∨ o = [45]
    · exact ⟨4, .inr (.inl ⟨rfl, d2⟩)⟩
    rw [if_neg d2, if_neg c5] at h1
    by_cases d3 : o = sAND
    · exact ⟨2, .inr (.inr (.inl ⟨rfl, d3⟩))⟩
    rw [if_neg d3] at h1
    by_cases d4 : o = sOR ∨ o = sXOR
    · exact ⟨1, .inr (.inr (.inr ⟨rfl, d4⟩))⟩
    rw [if_neg d4] at h1
    exact absurd rfl h1
  obtain ⟨r, hr⟩ := hb
  exact ⟨r, hr, by rw [h2, hr.binds.1], hn, hm⟩
/-- The forms of a right expression. -/
inductive Form : Ex → Nat → Prop
  | num (n d : Nat) : Form (.mk sNum n [] []) (d + 1)
  | name (m : List UInt8) (d : Nat) (h1 : nameB m = true) (h2 : upper m = m) (h3 : wordE m = false) : Form (.mk sN 0 m []) (d + 1)
  | here (d : Nat) : Form (.mk sHere 0 [] []) (d + 1)
  | neg (a : Ex) (d : Nat) (h : rightE a d = true) : Form (.mk sNEG 0 [] [a]) (d + 1)
  | not (a : Ex) (d : Nat) (h : rightE a d = true) : Form (.mk sNOT 0 [] [a]) (d + 1)
  | two (o : List UInt8) (r : Nat) (a b : Ex) (d : Nat) (ho : binO o r) (h1 : rightE a d = true) (h2 : rightE b d = true) : Form (.mk o 0 [] [a, b]) (d + 1)
theorem rightE.form {e : Ex} {most : Nat} (h : rightE e most = true) : Form e most := by
  obtain ⟨o, n, m, s⟩ := e
  simp only [rightE, Bool.and_eq_true, Bool.not_eq_true', beq_eq_false_iff_ne] at h
  obtain ⟨⟨h0, h1⟩, h2⟩ := h
  obtain ⟨d, rfl⟩ : ∃ d, most = d + 1 := ⟨most - 1, by omega⟩
  rw [Nat.add_sub_cancel] at h2
  rcases head_cases o n m s.length h1 with ⟨rfl, hk, rfl⟩ | ⟨rfl, hk, rfl, g1, g2, g3⟩ | ⟨rfl, hk, rfl, rfl⟩ | ⟨rfl, hk, rfl, rfl⟩ | ⟨rfl, hk, rfl, rfl⟩ | ⟨r, hr, hk, rfl, rfl⟩
  · rw [List.eq_nil_of_length_eq_zero hk]; exact .num n d
  · rw [List.eq_nil_of_length_eq_zero hk]; exact .name m d g1 g2 g3
  · rw [List.eq_nil_of_length_eq_zero hk]; exact .here d
  · match s, hk with
    | [a], _ => simp [rightL] at h2; exact .neg a d h2
  · match s, hk with
    | [a], _ => simp [rightL] at h2; exact .not a d h2
  · match s, hk with
    | [a, b], _ => simp [rightL] at h2; exact .two o r a b d hr h2.1 h2.2
theorem right_deep (e : Ex) : ∀ d, rightE e d = true → deepE e ≤ d := by
  induction e using Ex.ind with
  | h o n m s ih =>
    intro d h
    have hf := rightE.form h
    cases hf with
    | num => simp [deepE, deepL]
    | name => simp [deepE, deepL]
    | here => simp [deepE, deepL]
    | neg a d hA => have := ih a (by simp) d hA; simp [deepE, deepL]; omega
    | not a d hA => have := ih a (by simp) d hA; simp [deepE, deepL]; omega
    | two o r a b d ho h1 h2 => have := ih a (by simp) d h1; have := ih b (by simp) d h2; simp [deepE, deepL]; omega

def coreE : Ex → List Tok
  | .mk o n m s => toksE (.mk o n m s) 0
theorem toks_num (n w : Nat) : toksE (.mk sNum n [] []) w = [(2, [], n)] := rfl
theorem toks_name (m : List UInt8) (w : Nat) : toksE (.mk sN 0 m []) w = [(1, m, 0)] := rfl
theorem toks_here (w : Nat) : toksE (.mk sHere 0 [] []) w = [(4, sHere, 0)] := rfl
theorem toks_neg (a : Ex) (w : Nat) : toksE (.mk sNEG 0 [] [a]) w = if 6 < w then (4, [40], 0) :: (((4, [45], 0) :: toksE a 6) ++ [(4, [41], 0)]) else (4, [45], 0) :: toksE a 6 := rfl
theorem toks_not (a : Ex) (w : Nat) : toksE (.mk sNOT 0 [] [a]) w = if 3 < w then (4, [40], 0) :: (((1, sNOT, 0) :: toksE a 3) ++ [(4, [41], 0)]) else (1, sNOT, 0) :: toksE a 3 := rfl
theorem toks_two {o : List UInt8} {r : Nat} (ho : binO o r) (a b : Ex) (w : Nat) : toksE (.mk o 0 [] [a, b]) w = if r < w then (4, [40], 0) :: ((toksE a r ++ opT o :: toksE b (r + 1)) ++ [(4, [41], 0)]) else toksE a r ++ opT o :: toksE b (r + 1) := by
  rcases ho with ⟨rfl, rfl | rfl | rfl | rfl | rfl⟩ | ⟨rfl, rfl | rfl⟩ | ⟨rfl, rfl⟩ | ⟨rfl, rfl | rfl⟩ <;> rfl
theorem down_all {C : List Tok} {e : Ex} {D : Nat} (rk : Nat) (h : Pok rk C e D) (hk : rk ≤ 7) (hn : 4 ≤ rk → ∀ X, atT (C ++ X) 1 [sNOT] = none) (hm : 7 ≤ rk → ∀ X, atT (C ++ X) 4 [[45]] = none) : ∀ j r, r + j = rk → 1 ≤ r → Pok r C e D := by
  intro j
  induction j with
  | zero => intro r hr _; rw [Nat.add_zero] at hr; subst hr; exact h
  | succ j ih =>
    intro r hr h1
    have g := ih (r + 1) (by omega) (by omega)
    by_cases h3 : r = 3
    · subst h3; exact g.not (hn (by omega))
    by_cases h6 : r = 6
    · subst h6; exact g.neg (hm (by omega))
    exact g.down (by unfold binR; omega)
theorem paren_head (C X : List Tok) : atT ((4, [40], 0) :: C ++ X) 1 [sNOT] = none ∧ atT ((4, [40], 0) :: C ++ X) 4 [[45]] = none := ⟨rfl, rfl⟩
theorem word_not {m : List UInt8} (h : wordE m = false) : m ≠ sNOT := by rintro rfl; simp [wordE] at h
theorem head_toks (e : Ex) : ∀ d, rightE e d = true → ∀ w, 4 ≤ w → w ≤ 7 → ∀ X, atT (toksE e w ++ X) 1 [sNOT] = none ∧ (w = 7 → atT (toksE e w ++ X) 4 [[45]] = none) := by
  induction e using Ex.ind with
  | h o n m s ih =>
    intro d h w h4 h7 X
    have hf := rightE.form h
    cases hf with
    | num => exact ⟨rfl, fun _ => rfl⟩
    | name m d g1 g2 g3 =>
      rw [toks_name]
      have := word_not g3
      refine ⟨?_, fun _ => rfl⟩
      simp [atT_cons, this]
    | here => exact ⟨rfl, fun _ => rfl⟩
    | neg a d hA =>
      rw [toks_neg]
      split
      · exact ⟨rfl, fun _ => rfl⟩
      · exact ⟨rfl, fun _ => by omega⟩
    | not a d hA =>
      rw [toks_not, if_pos (by omega)]
      exact ⟨rfl, fun _ => rfl⟩
    | two o r a b d ho h1 h2 =>
      rw [toks_two ho]
      split
      · exact ⟨rfl, fun _ => rfl⟩
      · rename_i hw
        have hr := ho.binR
        unfold binR at hr
        rw [List.append_assoc]
        exact ⟨(ih a (by simp) d h1 r (by omega) (by omega) _).1, fun _ => by omega⟩
theorem paren_all {C : List Tok} {e : Ex} {D : Nat} (h : Pok 1 C e D) (r : Nat) (h1 : 1 ≤ r) (h7 : r ≤ 7) : Pok r ((4, [40], 0) :: (C ++ [(4, [41], 0)])) e (D + 1) :=
  down_all 7 h.paren (by omega) (fun _ X => rfl) (fun _ X => rfl) (7 - r) r (by omega) h1
theorem read_toks (e : Ex) : ∀ d, rightE e d = true → (∀ r, 1 ≤ r → r ≤ 7 → Pok r (toksE e r) e (2 * deepE e)) ∧ (∀ r, binR r → Qok r (toksE e r) e (2 * deepE e)) := by
  induction e using Ex.ind with
  | h o n m s ih =>
    intro d h
    have hf := rightE.form h
    cases hf with
    | num n d =>
      have g : ∀ r, 1 ≤ r → r ≤ 7 → Pok r [(2, [], n)] (.mk sNum n [] []) 0 := fun r h1 h7 => down_all 7 (Pok.leaf (fun g s rest hs => by unfold atomP; rw [hs]; rfl)) (by omega) (fun _ X => rfl) (fun _ X => rfl) (7 - r) r (by omega) h1
      refine ⟨fun r h1 h7 => ?_, fun r hr => ?_⟩
      · rw [toks_num]; exact (g r h1 h7).more (by omega)
      · rw [toks_num]; exact ((g (r + 1) (by omega) (by unfold binR at hr; omega)).q hr).more (by omega)
    | name m d g1 g2 g3 =>
      have hw := word_not g3
      have g : ∀ r, 1 ≤ r → r ≤ 7 → Pok r [(1, m, 0)] (.mk sN 0 m []) 0 := fun r h1 h7 => down_all 7 (Pok.leaf (fun g s rest hs => by unfold atomP; rw [hs]; simp [g3])) (by omega) (fun _ X => by simp [atT_cons, hw]) (fun _ X => rfl) (7 - r) r (by omega) h1
      refine ⟨fun r h1 h7 => ?_, fun r hr => ?_⟩
      · rw [toks_name]; exact (g r h1 h7).more (by omega)
      · rw [toks_name]; exact ((g (r + 1) (by omega) (by unfold binR at hr; omega)).q hr).more (by omega)
    | here d =>
      have g : ∀ r, 1 ≤ r → r ≤ 7 → Pok r [(4, sHere, 0)] (.mk sHere 0 [] []) 0 := fun r h1 h7 => down_all 7 (Pok.leaf (fun g s rest hs => by unfold atomP; rw [hs]; rfl)) (by omega) (fun _ X => rfl) (fun _ X => rfl) (7 - r) r (by omega) h1
      refine ⟨fun r h1 h7 => ?_, fun r hr => ?_⟩
      · rw [toks_here]; exact (g r h1 h7).more (by omega)
      · rw [toks_here]; exact ((g (r + 1) (by omega) (by unfold binR at hr; omega)).q hr).more (by omega)
    | neg a d hA =>
      have ga := (ih a (by simp) d hA).1 6 (by omega) (by omega)
      have gc := ga.mkNeg
      have gd : ∀ r, 1 ≤ r → r ≤ 6 → Pok r ((4, [45], 0) :: toksE a 6) (.mk sNEG 0 [] [a]) (2 * deepE a + 1) := fun r h1 h7 => down_all 6 gc (by omega) (fun _ X => rfl) (fun h => by omega) (6 - r) r (by omega) h1
      have hd : deepE (.mk sNEG 0 [] [a]) = deepE a + 1 := by simp [deepE, deepL]
      have g : ∀ r, 1 ≤ r → r ≤ 7 → Pok r (toksE (.mk sNEG 0 [] [a]) r) (.mk sNEG 0 [] [a]) (2 * deepE (.mk sNEG 0 [] [a])) := by
        intro r h1 h7
        rw [toks_neg]
        split
        · exact (paren_all (gd 1 (by omega) (by omega)) r h1 h7).more (by omega)
        · exact (gd r h1 (by omega)).more (by omega)
      refine ⟨g, fun r hr => ?_⟩
      have := (g (r + 1) (by omega) (by unfold binR at hr; omega)).q hr
      rw [toks_neg, if_neg (by unfold binR at hr; omega)] at this ⊢
      exact this
    | not a d hA =>
      have ga := (ih a (by simp) d hA).1 3 (by omega) (by omega)
      have gc := ga.mkNot
      have gd : ∀ r, 1 ≤ r → r ≤ 3 → Pok r ((1, sNOT, 0) :: toksE a 3) (.mk sNOT 0 [] [a]) (2 * deepE a + 1) := fun r h1 h7 => down_all 3 gc (by omega) (fun h => by omega) (fun h => by omega) (3 - r) r (by omega) h1
      have hd : deepE (.mk sNOT 0 [] [a]) = deepE a + 1 := by simp [deepE, deepL]
      have g : ∀ r, 1 ≤ r → r ≤ 7 → Pok r (toksE (.mk sNOT 0 [] [a]) r) (.mk sNOT 0 [] [a]) (2 * deepE (.mk sNOT 0 [] [a])) := by
        intro r h1 h7
        rw [toks_not]
        split
        · exact (paren_all (gd 1 (by omega) (by omega)) r h1 h7).more (by omega)
        · exact (gd r h1 (by omega)).more (by omega)
      refine ⟨g, fun r hr => ?_⟩
      have := (g (r + 1) (by omega) (by unfold binR at hr; omega)).q hr
      by_cases hr3 : 3 < r
      · rw [toks_not, if_pos (by omega)] at this ⊢
        exact this
      · rw [toks_not, if_neg (by unfold binR at hr; omega)] at this ⊢
        exact this
    | two o q a b d ho h1 h2 =>
      have hq := ho.binR
      have hq' := hq
      unfold binR at hq'
      have ga := (ih a (by simp) d h1).2 q hq
      have gb := (ih b (by simp) d h2).1 (q + 1) (by omega) (by omega)
      have hd : deepE (.mk o 0 [] [a, b]) = max (deepE a) (deepE b) + 1 := by simp [deepE, deepL]
      have gq : Qok q (toksE a q ++ opT o :: toksE b (q + 1)) (.mk o 0 [] [a, b]) (2 * max (deepE a) (deepE b)) := Qok.two (ga.more (by omega)) (gb.more (by omega)) ho.oper ho.stop
      have gd : ∀ r, 1 ≤ r → r ≤ q → Pok r (toksE a q ++ opT o :: toksE b (q + 1)) (.mk o 0 [] [a, b]) (2 * max (deepE a) (deepE b)) := fun r h1' h7 => down_all q (gq.p hq) (by omega)
        (fun h4 X => by rw [List.append_assoc]; exact (head_toks a d h1 q h4 (by omega) _).1) (fun h => by omega) (q - r) r (by omega) h1'
      have g : ∀ r, 1 ≤ r → r ≤ 7 → Pok r (toksE (.mk o 0 [] [a, b]) r) (.mk o 0 [] [a, b]) (2 * deepE (.mk o 0 [] [a, b])) := by
        intro r h1' h7
        rw [toks_two ho]
        split
        · exact (paren_all (gd 1 (by omega) (by omega)) r h1' h7).more (by omega)
        · exact (gd r h1' (by omega)).more (by omega)
      refine ⟨g, fun r hr => ?_⟩
      have hr' := hr
      unfold binR at hr'
      by_cases hrq : r = q
      · subst hrq
        rw [toks_two ho, if_neg (by omega)]
        exact gq.more (by omega)
      · have := (g (r + 1) (by omega) (by omega)).q hr
        by_cases hlt : q < r
        · rw [toks_two ho, if_pos (by omega)] at this ⊢
          exact this
        · rw [toks_two ho, if_neg (by omega)] at this ⊢
          exact this

theorem toks_pos (e : Ex) : ∀ d, rightE e d = true → ∀ w, toksE e w ≠ [] := by
  intro d h w
  have hf := rightE.form h
  cases hf with
  | num => simp [toks_num]
  | name => simp [toks_name]
  | here => simp [toks_here]
  | neg => rw [toks_neg]; split <;> simp
  | not => rw [toks_not]; split <;> simp
  | two o r a b d ho h1 h2 => rw [toks_two ho]; split <;> simp
theorem showT_cons (t : Tok) (ts : List Tok) (h : ts ≠ []) : showT (t :: ts) = wordT t ++ 32 :: showT ts := by
  cases ts with
  | nil => exact absurd rfl h
  | cons u r => rfl
theorem showT_app (a b : List Tok) (ha : a ≠ []) (hb : b ≠ []) : showT (a ++ b) = showT a ++ 32 :: showT b := by
  induction a with
  | nil => exact absurd rfl ha
  | cons t a ih =>
    cases a with
    | nil => exact showT_cons t b hb
    | cons u a =>
      rw [List.cons_append, showT_cons t _ (by simp), ih (by simp), showT_cons t (u :: a) (by simp)]
      simp
theorem show_num (n w : Nat) : showE (.mk sNum n [] []) w = showN n := rfl
theorem show_name (m : List UInt8) (w : Nat) : showE (.mk sN 0 m []) w = m := rfl
theorem show_here (w : Nat) : showE (.mk sHere 0 [] []) w = sHere := rfl
theorem show_neg (a : Ex) (w : Nat) : showE (.mk sNEG 0 [] [a]) w = if 6 < w then parens ([45] ++ 32 :: showE a 6) else [45] ++ 32 :: showE a 6 := rfl
theorem show_not (a : Ex) (w : Nat) : showE (.mk sNOT 0 [] [a]) w = if 3 < w then parens (sNOT ++ 32 :: showE a 3) else sNOT ++ 32 :: showE a 3 := rfl
theorem show_two {o : List UInt8} {r : Nat} (ho : binO o r) (a b : Ex) (w : Nat) : showE (.mk o 0 [] [a, b]) w = if r < w then parens (showE a r ++ 32 :: (o ++ 32 :: showE b (r + 1))) else showE a r ++ 32 :: (o ++ 32 :: showE b (r + 1)) := by
  rcases ho with ⟨rfl, rfl | rfl | rfl | rfl | rfl⟩ | ⟨rfl, rfl | rfl⟩ | ⟨rfl, rfl⟩ | ⟨rfl, rfl | rfl⟩ <;> rfl
theorem word_opT (o : List UInt8) : wordT (opT o) = o := by unfold opT; split <;> simp [wordT]
theorem showT_paren (T : List Tok) (h : T ≠ []) : showT ((4, [40], 0) :: (T ++ [(4, [41], 0)])) = parens (showT T) := by
  rw [showT_cons _ _ (by simp), showT_app _ _ h (by simp)]
  simp [parens, showT, wordT]
theorem show_toks (e : Ex) : ∀ d, rightE e d = true → ∀ w, showE e w = showT (toksE e w) := by
  induction e using Ex.ind with
  | h o n m s ih =>
    intro d h w
    have hf := rightE.form h
    cases hf with
    | num n d => rfl
    | name m d => rfl
    | here d => rfl
    | neg a d hA =>
      have e1 := ih a (by simp) d hA 6
      have p1 := toks_pos a d hA 6
      have e2 : showT ((4, [45], 0) :: toksE a 6) = [45] ++ 32 :: showE a 6 := by rw [showT_cons _ _ p1, e1]; rfl
      rw [show_neg, toks_neg]
      split
      · rw [showT_paren _ (by simp), e2]
      · rw [e2]
    | not a d hA =>
      have e1 := ih a (by simp) d hA 3
      have p1 := toks_pos a d hA 3
      have e2 : showT ((1, sNOT, 0) :: toksE a 3) = sNOT ++ 32 :: showE a 3 := by rw [showT_cons _ _ p1, e1]; rfl
      rw [show_not, toks_not]
      split
      · rw [showT_paren _ (by simp), e2]
      · rw [e2]
    | two o r a b d ho h1 h2 =>
      have e1 := ih a (by simp) d h1 r
      have e2 := ih b (by simp) d h2 (r + 1)
      have p1 := toks_pos a d h1 r
      have p2 := toks_pos b d h2 (r + 1)
      have e3 : showT (toksE a r ++ opT o :: toksE b (r + 1)) = showE a r ++ 32 :: (o ++ 32 :: showE b (r + 1)) := by
        rw [showT_app _ _ p1 (by simp), showT_cons _ _ p2, word_opT, e1, e2]
      rw [show_two ho, toks_two ho]
      split
      · rw [showT_paren _ (by simp), e3]
      · rw [e3]

mutual
/-- All numbers fit. -/
def fitE : Ex → Bool
  | .mk o n m s => decide (n ≤ 65535) && decide (o.length ≤ 1000) && decide (m.length ≤ 1000) && fitL s
def fitL : List Ex → Bool
  | [] => true
  | e :: r => fitE e && fitL r
end
theorem good_mark (c : UInt8) (h : markB c = true) : goodT (4, [c], 0) := .inr (.inr (.inr ⟨rfl, ⟨c, rfl, h⟩, rfl⟩))
theorem good_op {o : List UInt8} {r : Nat} (ho : binO o r) : goodT (opT o) := by
  rcases ho with ⟨rfl, rfl | rfl | rfl | rfl | rfl⟩ | ⟨rfl, rfl | rfl⟩ | ⟨rfl, rfl⟩ | ⟨rfl, rfl | rfl⟩ <;>
    first | exact good_mark _ (by decide) | exact .inl ⟨by decide, by decide, by decide, by decide⟩
theorem good_paren (T : List Tok) (h : ∀ t ∈ T, goodT t) : ∀ t ∈ ((4, [40], 0) :: (T ++ [(4, [41], 0)]) : List Tok), goodT t := by
  intro t ht
  simp at ht
  rcases ht with rfl | ht | rfl
  · exact good_mark 40 (by decide)
  · exact h t ht
  · exact good_mark 41 (by decide)
theorem toks_good (e : Ex) : ∀ d, rightE e d = true → fitE e = true → ∀ w, ∀ t ∈ toksE e w, goodT t := by
  induction e using Ex.ind with
  | h o n m s ih =>
    intro d h hfit w
    have hf := rightE.form h
    cases hf with
    | num n d =>
      simp [fitE] at hfit
      intro t ht
      rw [toks_num] at ht
      simp at ht
      subst ht
      exact .inr (.inl ⟨rfl, rfl, hfit.1⟩)
    | name m d g1 g2 g3 =>
      intro t ht
      rw [toks_name] at ht
      simp at ht
      subst ht
      exact .inl ⟨rfl, g1, g2, rfl⟩
    | here d =>
      intro t ht
      rw [toks_here] at ht
      simp at ht
      subst ht
      exact good_mark 36 (by decide)
    | neg a d hA =>
      simp [fitE, fitL] at hfit
      have g := ih a (by simp) d hA hfit 6
      have g2 : ∀ t ∈ ((4, [45], 0) :: toksE a 6 : List Tok), goodT t := by
        intro t ht
        rcases List.mem_cons.1 ht with rfl | ht
        · exact good_mark 45 (by decide)
        · exact g t ht
      rw [toks_neg]
      split
      · exact good_paren _ g2
      · exact g2
    | not a d hA =>
      simp [fitE, fitL] at hfit
      have g := ih a (by simp) d hA hfit 3
      have g2 : ∀ t ∈ ((1, sNOT, 0) :: toksE a 3 : List Tok), goodT t := by
        intro t ht
        rcases List.mem_cons.1 ht with rfl | ht
        · exact .inl ⟨rfl, by decide, by decide, rfl⟩
        · exact g t ht
      rw [toks_not]
      split
      · exact good_paren _ g2
      · exact g2
    | two o r a b d ho h1 h2 =>
      simp [fitE, fitL] at hfit
      have ga := ih a (by simp) d h1 hfit.2.1 r
      have gb := ih b (by simp) d h2 hfit.2.2 (r + 1)
      have g2 : ∀ t ∈ (toksE a r ++ opT o :: toksE b (r + 1)), goodT t := by
        intro t ht
        rcases List.mem_append.1 ht with ht | ht
        · exact ga t ht
        · rcases List.mem_cons.1 ht with rfl | ht
          · exact good_op ho
          · exact gb t ht
      rw [toks_two ho]
      split
      · exact good_paren _ g2
      · exact g2
/-- A right expression, shown, is read as it was. -/
theorem all_toks (e : Ex) (h : rightE e 24 = true) : allE (toksE e 1) = (e, 0) := by
  have hd := right_deep e 24 h
  have := (read_toks e 24 h).1 1 (by omega) (by omega) (8 * (toksE e 1).length + 7) ⟨toksE e 1, 0, 0⟩ [] rfl (by simp) (by show 0 + 2 * deepE e ≤ 48; omega) (stop_nil 1) (by simp)
  have hp : parseE (toksE e 1) = (e, (toksE e 1).length, 0) := by
    unfold parseE
    simp only [this]
    rw [if_neg (by simp), if_neg (by omega)]
    simp
  unfold allE
  simp only [hp]
  rw [if_neg (by simp), if_neg (by omega)]
theorem line_expr (e : Ex) (h : rightE e 24 = true) (hf : fitE e = true) (hl : (showE e 1).length ≤ 200) : lineL (showE e 1) = (toksE e 1, 0) := by
  rw [show_toks e 24 h 1] at hl ⊢
  rw [line_shown _ (toks_good e 24 h hf 1), if_neg (by omega)]
end Go.Proofs.YtpcpjghfcimblaaGreatDoor
/- Expressions in plain Lean: what the laws of layer 5 say. -/
namespace Go.Proofs.YtpcpjghfcimblaaGreatDoor

/-- Right expressions of one text are the same. -/
theorem show_inj (a b : Ex) (ha : rightE a 24 = true) (hb : rightE b 24 = true) (fa : fitE a = true) (fb : fitE b = true) (h : showE a 1 = showE b 1) : a = b := by
  have ta := showT_toks _ (toks_good a 24 ha fa 1)
  have tb := showT_toks _ (toks_good b 24 hb fb 1)
  rw [← show_toks a 24 ha 1] at ta
  rw [← show_toks b 24 hb 1, ← h] at tb
  have ea := ta.to_line ((showE a 1).length + 1) [] (by omega)
  have eb := tb.to_line ((showE a 1).length + 1) [] (by omega)
  rw [ea] at eb
  have et : toksE a 1 = toksE b 1 := by simpa using congrArg Prod.fst eb
  have pa := all_toks a ha
  rw [et, all_toks b hb] at pa
  exact (congrArg Prod.fst pa).symm
theorem line_back (e : Ex) (h : rightE e 24 = true) (hf : fitE e = true) (hl : (showE e 1).length ≤ 200) : allE (lineL (showE e 1)).1 = (e, 0) ∧ (lineL (showE e 1)).2 = 0 := by
  rw [line_expr e h hf hl]
  exact ⟨all_toks e h, rfl⟩

def numE (n : Nat) : Ex := .mk sNum n [] []
def und : List UInt8 → Nat × Nat := fun _ => (0, 3)
theorem eval_num (here : Nat) (val : List UInt8 → Nat × Nat) (n : Nat) : evalE here val (numE n) = (n, 0) := by simp [numE, evalE]
theorem eval_two {o : List UInt8} {r : Nat} (ho : binO o r) (here : Nat) (val : List UInt8 → Nat × Nat) (a b : Ex) (x y : Nat) (ha : evalE here val a = (x, 0)) (hb : evalE here val b = (y, 0)) : evalE here val (.mk o 0 [] [a, b]) = twoE o x y := by
  obtain ⟨_, h1, h2, _, h3, _⟩ := ho.binds
  rw [evalE, if_neg h1, if_neg h3, if_neg h2]
  simp only [ha, hb]
  simp
theorem eval_not (here : Nat) (val : List UInt8 → Nat × Nat) (a : Ex) (x : Nat) (ha : evalE here val a = (x, 0)) : evalE here val (.mk sNOT 0 [] [a]) = (65535 - x, 0) := by
  rw [evalE]
  simp [ha]
theorem eval_neg (here : Nat) (val : List UInt8 → Nat × Nat) (a : Ex) (x : Nat) (ha : evalE here val a = (x, 0)) : evalE here val (.mk sNEG 0 [] [a]) = ((65536 - x) % 65536, 0) := by
  rw [evalE]
  simp [ha]
def minus : List UInt8 := [45]
theorem bin_minus : binO [45] 4 := .inr (.inl ⟨rfl, .inr rfl⟩)
theorem bin_plus : binO [43] 4 := .inr (.inl ⟨rfl, .inl rfl⟩)
theorem right_num (n d : Nat) : rightE (numE n) (d + 1) = true := by simp [numE, rightE, rightL, headE, bindsE]
theorem right_two {o : List UInt8} {r : Nat} (ho : binO o r) (a b : Ex) (d : Nat) (ha : rightE a d = true) (hb : rightE b d = true) : rightE (.mk o 0 [] [a, b]) (d + 1) = true := by
  obtain ⟨h0, h1, h2, _, h3, _⟩ := ho.binds
  have hr : r ≠ 0 := by have := ho; unfold binO at this; omega
  simp [rightE, rightL, headE, h0, h2, ha, hb, hr]
theorem right_one {o : List UInt8} (ho : o = sNOT ∨ o = sNEG) (a : Ex) (d : Nat) (ha : rightE a d = true) : rightE (.mk o 0 [] [a]) (d + 1) = true := by
  rcases ho with rfl | rfl <;> simp [rightE, rightL, headE, bindsE, ha]
/-- a - b - c, a - (b + c), NOT NOT a, - - a. -/
def sumD (a b c : Nat) : Ex := .mk [45] 0 [] [.mk [45] 0 [] [numE a, numE b], numE c]
def sumE (a b c : Nat) : Ex := .mk [45] 0 [] [numE a, .mk [43] 0 [] [numE b, numE c]]
def sumF (a : Nat) : Ex := .mk sNOT 0 [] [.mk sNOT 0 [] [numE a]]
def sumG (a : Nat) : Ex := .mk sNEG 0 [] [.mk sNEG 0 [] [numE a]]
theorem sums_right (a b c : Nat) : rightE (sumD a b c) 24 = true ∧ rightE (sumE a b c) 24 = true ∧ rightE (sumF a) 24 = true ∧ rightE (sumG a) 24 = true :=
  ⟨right_two bin_minus _ _ 23 (right_two bin_minus _ _ 22 (right_num a 21) (right_num b 21)) (right_num c 22),
   right_two bin_minus _ _ 23 (right_num a 22) (right_two bin_plus _ _ 22 (right_num b 21) (right_num c 21)),
   right_one (.inl rfl) _ 23 (right_one (.inl rfl) _ 22 (right_num a 21)),
   right_one (.inr rfl) _ 23 (right_one (.inr rfl) _ 22 (right_num a 21))⟩
theorem sums_fit (a b c : Nat) (ha : a ≤ 65535) (hb : b ≤ 65535) (hc : c ≤ 65535) : fitE (sumD a b c) = true ∧ fitE (sumE a b c) = true ∧ fitE (sumF a) = true ∧ fitE (sumG a) = true := by
  simp [sumD, sumE, sumF, sumG, numE, fitE, fitL, ha, hb, hc]
theorem sums_eval (a b c : Nat) (ha : a ≤ 65535) (hb : b ≤ 65535) (hc : c ≤ 65535) (here : Nat) (val : List UInt8 → Nat × Nat) :
    evalE here val (sumD a b c) = ((a + 131072 - b - c) % 65536, 0) ∧ evalE here val (sumE a b c) = ((a + 131072 - b - c) % 65536, 0) ∧ evalE here val (sumF a) = (a, 0) ∧ evalE here val (sumG a) = (a, 0) := by
  have n := eval_num here val
  have tm : ∀ x y, twoE [45] x y = ((x + 65536 - y) % 65536, 0) := fun x y => rfl
  have tp : ∀ x y, twoE [43] x y = ((x + y) % 65536, 0) := fun x y => rfl
  have d1 := eval_two bin_minus here val _ _ a b (n a) (n b)
  rw [tm] at d1
  have d2 := eval_two bin_minus here val _ _ _ c d1 (n c)
  rw [tm] at d2
  have e1 := eval_two bin_plus here val _ _ b c (n b) (n c)
  rw [tp] at e1
  have e2 := eval_two bin_minus here val _ _ a _ (n a) e1
  rw [tm] at e2
  have f2 := eval_not here val _ _ (eval_not here val _ a (n a))
  have g2 := eval_neg here val _ _ (eval_neg here val _ a (n a))
  refine ⟨d2.trans ?_, e2.trans ?_, f2.trans ?_, g2.trans ?_⟩ <;> refine Prod.ext ?_ rfl <;> dsimp only <;> omega
theorem showN_short (n : Nat) (hn : n ≤ 65535) : (showN n).length ≤ 8 := by
  have h := wordT_length (2, [], n) hn
  have e : wordT (2, [], n) = showN n := by simp [wordT]
  rw [e] at h
  simpa using h
theorem sums_short (a b c : Nat) (ha : a ≤ 65535) (hb : b ≤ 65535) (hc : c ≤ 65535) : (showE (sumD a b c) 1).length ≤ 200 := by
  have h1 := showN_short a ha
  have h2 := showN_short b hb
  have h3 := showN_short c hc
  unfold sumD
  rw [show_two bin_minus, show_two bin_minus, if_neg (by omega), if_neg (by omega)]
  simp only [numE, show_num]
  simp
  omega
theorem sums_read (a b c : Nat) (ha : a ≤ 65535) (hb : b ≤ 65535) (hc : c ≤ 65535) : lineL (showE (sumD a b c) 1) = (toksE (sumD a b c) 1, 0) ∧ allE (toksE (sumD a b c) 1) = (sumD a b c, 0) :=
  ⟨line_expr _ (sums_right a b c).1 (sums_fit a b c ha hb hc).1 (sums_short a b c ha hb hc), all_toks _ (sums_right a b c).1⟩
end Go.Proofs.YtpcpjghfcimblaaGreatDoor
/- Tokens in plain Lean: how long they are. -/
namespace Go.Proofs.YtpcpjghfcimblaaGreatDoor

theorem unquote_short (l : List UInt8) : (unquote l).1.length ≤ l.length := by
  unfold unquote
  split
  · simp
  · rw [unq_eq]
    split
    · simp [unqEnd]
    · have h := hal_length _ (inner l) (Nat.le_refl _)
      have h2 : (inner l).length ≤ l.length := by unfold inner; rw [List.length_drop, List.length_take]; omega
      show (hal (inner l)).length ≤ _
      omega
theorem firstT_short (s : List UInt8) (h : s ≠ []) : (firstT s).1.2.1.length ≤ s.length := by
  have h0 : 1 ≤ s.length := List.length_pos_iff.mpr h
  unfold firstT
  simp only
  split
  · split
    · simp [tok0]
    · rw [upper_length, List.length_take]; omega
  · split
    · simp
    · split
      · split
        · simp [tok0]
        · exact Nat.le_trans (unquote_short _) (by rw [List.length_take]; omega)
      · split
        · simpa using h0
        · simp [tok0]
theorem lineF_short (f : Nat) (s : List UInt8) (ts : List Tok) (m : Nat) (h : s.length < f) (hm : s.length ≤ m) (hg : ∀ t ∈ ts, t.2.1.length ≤ m) : ∀ t ∈ (lineF f s ts).1, t.2.1.length ≤ m := by
  induction f generalizing s ts with
  | zero => omega
  | succ f ih =>
    match s with
    | [] => rw [lineF_nil]; exact hg
    | c :: r =>
      simp at h
      by_cases h1 : c = 32 ∨ c = 9
      · rw [lineF_space _ _ _ _ h1]; exact ih r ts (by omega) (by simp at hm; omega) hg
      by_cases h2 : c = 59
      · rw [lineF_note _ _ _ _ h2]; exact hg
      rw [lineF_tok _ _ _ _ (fun e => h1 (.inl e)) (fun e => h1 (.inr e)) h2]
      split
      · rename_i hk
        have hlen := firstT_len (c :: r) (by simp) hk
        refine ih _ _ (by simp at hlen ⊢; omega) (by rw [List.length_drop]; omega) ?_
        intro t ht
        rcases List.mem_append.mp ht with ht | ht
        · exact hg t ht
        · simp only [List.mem_singleton] at ht; subst ht; exact Nat.le_trans (firstT_short _ (by simp)) hm
      · simp
theorem lineF_err (f : Nat) (s : List UInt8) (ts : List Tok) (h : s.length < f) (he : (lineF f s ts).2 ≠ 0) : (lineF f s ts).1 = [] := by
  induction f generalizing s ts with
  | zero => omega
  | succ f ih =>
    match s with
    | [] => rw [lineF_nil] at he; simp at he
    | c :: r =>
      simp at h
      by_cases h1 : c = 32 ∨ c = 9
      · rw [lineF_space _ _ _ _ h1] at he ⊢; exact ih r ts (by omega) he
      by_cases h2 : c = 59
      · rw [lineF_note _ _ _ _ h2] at he; simp at he
      rw [lineF_tok _ _ _ _ (fun e => h1 (.inl e)) (fun e => h1 (.inr e)) h2] at he ⊢
      by_cases hk : (firstT (c :: r)).2.2 = 0
      · rw [if_pos hk] at he ⊢
        have hlen := firstT_len (c :: r) (by simp) hk
        exact ih _ _ (by simp at hlen ⊢; omega) he
      · rw [if_neg hk]
theorem lineL_err (l : List UInt8) (he : (lineL l).2 ≠ 0) : (lineL l).1 = [] := by
  unfold lineL at *
  split at he
  · rename_i h; rw [if_pos h]
  · rename_i h; rw [if_neg h]; exact lineF_err _ _ _ (by omega) he
theorem lineL_small (l : List UInt8) : ∀ t ∈ (lineL l).1, t.2.2 ≤ 65535 ∧ t.2.1.length ≤ 1000 := by
  intro t ht
  refine ⟨?_, ?_⟩
  · rcases lineL_good l t ht with h | h | h | h
    · rw [h.2.2.2]; omega
    · exact h.2.2
    · rw [h.2.2]; omega
    · rw [h.2.2]; omega
  · unfold lineL at ht
    split at ht
    · simp at ht
    · exact lineF_short _ _ _ 1000 (by omega) (by omega) (by simp) t ht
theorem lineF_count (f : Nat) (t : List UInt8) (ts : List Tok) (h : t.length < f) : (lineF f t ts).1.length ≤ ts.length + t.length := by
  induction f generalizing t ts with
  | zero => omega
  | succ f ih =>
    match t with
    | [] => rw [lineF_nil]; simp
    | c :: r =>
      simp at h
      by_cases h1 : c = 32 ∨ c = 9
      · rw [lineF_space _ _ _ _ h1]; have := ih r ts (by omega); simp; omega
      by_cases h2 : c = 59
      · rw [lineF_note _ _ _ _ h2]; simp
      rw [lineF_tok _ _ _ _ (fun e => h1 (.inl e)) (fun e => h1 (.inr e)) h2]
      split
      · rename_i hk
        have hlen := firstT_len (c :: r) (by simp) hk
        have hd : ((c :: r).drop (firstT (c :: r)).2.1).length = (c :: r).length - (firstT (c :: r)).2.1 := List.length_drop
        have := ih ((c :: r).drop (firstT (c :: r)).2.1) (ts ++ [(firstT (c :: r)).1]) (by simp at hd ⊢; omega)
        simp at this hd hlen ⊢
        omega
      · simp
theorem lineL_count (l : List UInt8) : (lineL l).1.length ≤ 200 := by
  unfold lineL
  split
  · simp
  · have := lineF_count (l.length + 1) l [] (by omega)
    simp at this; omega
end Go.Proofs.YtpcpjghfcimblaaGreatDoor
/- How long an expression's text may be. -/
namespace Go.Proofs.YtpcpjghfcimblaaGreatDoor

theorem name_len {m : List UInt8} (h : nameB m = true) : m.length ≤ 16 := by
  unfold nameB at h
  simp at h
  omega
theorem bin_len {o : List UInt8} {r : Nat} (ho : binO o r) : o.length ≤ 3 := by
  rcases ho with ⟨rfl, rfl | rfl | rfl | rfl | rfl⟩ | ⟨rfl, rfl | rfl⟩ | ⟨rfl, rfl⟩ | ⟨rfl, rfl | rfl⟩ <;> decide
theorem parens_len (s : List UInt8) : (parens s).length = s.length + 4 := by simp [parens]
theorem show_len (e : Ex) : ∀ d, rightE e d = true → fitE e = true → ∀ w, (showE e w).length + 15 ≤ 30 * 2 ^ d := by
  induction e using Ex.ind with
  | h o n m s ih =>
    intro d h hfit w
    have hf := rightE.form h
    cases hf with
    | num n d =>
      simp [fitE] at hfit
      have h1 := wordT_length (2, [], n) hfit.1
      simp [wordT] at h1
      have h2 : 1 ≤ 2 ^ d := Nat.one_le_two_pow
      rw [show_num, Nat.pow_succ]
      omega
    | name m d g1 g2 g3 =>
      have h1 := name_len g1
      have h2 : 1 ≤ 2 ^ d := Nat.one_le_two_pow
      rw [show_name, Nat.pow_succ]
      omega
    | here d =>
      have h2 : 1 ≤ 2 ^ d := Nat.one_le_two_pow
      rw [show_here, Nat.pow_succ]
      simp
      omega
    | neg a d hA =>
      simp [fitE, fitL] at hfit
      have h1 := ih a (by simp) d hA hfit 6
      have h2 : 1 ≤ 2 ^ d := Nat.one_le_two_pow
      rw [show_neg, Nat.pow_succ]
      split
      · rw [parens_len]; simp; omega
      · simp; omega
    | not a d hA =>
      simp [fitE, fitL] at hfit
      have h1 := ih a (by simp) d hA hfit 3
      have h2 : 1 ≤ 2 ^ d := Nat.one_le_two_pow
      rw [show_not, Nat.pow_succ]
      split
      · rw [parens_len]; simp; omega
      · simp; omega
    | two o r a b d ho h1 h2 =>
      simp [fitE, fitL] at hfit
      have g1 := ih a (by simp) d h1 hfit.2.1 r
      have g2 := ih b (by simp) d h2 hfit.2.2 (r + 1)
      have g3 := bin_len ho
      have g4 : 1 ≤ 2 ^ d := Nat.one_le_two_pow
      rw [show_two ho, Nat.pow_succ]
      split
      · rw [parens_len]; simp; omega
      · simp; omega
theorem show_len9 (e : Ex) (d : Nat) (hd : d ≤ 24) (h : rightE e d = true) (hf : fitE e = true) (w : Nat) : (showE e w).length ≤ 600000000 := by
  have h1 := show_len e d h hf w
  have h2 : 2 ^ d ≤ 2 ^ 24 := Nat.pow_le_pow_right (by omega) hd
  omega
end Go.Proofs.YtpcpjghfcimblaaGreatDoor
