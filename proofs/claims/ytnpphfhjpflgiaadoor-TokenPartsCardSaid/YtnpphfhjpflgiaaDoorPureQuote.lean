/- Texts in quotes, in plain Lean. -/
import Derived.Lib.Replace
import Derived.Test.YtnpphfhjpflgiaaDoorPureNum
namespace Go.Proofs.YtnpphfhjpflgiaaDoor

/-- Each quote twice. -/
def dbl : List UInt8 → List UInt8
  | [] => []
  | c :: r => if c = 39 then 39 :: 39 :: dbl r else c :: dbl r
/-- Each pair of quotes as one. -/
def hal : List UInt8 → List UInt8
  | [] => []
  | [c] => [c]
  | c :: d :: r => if c = 39 ∧ d = 39 then 39 :: hal r else c :: hal (d :: r)
def quoteL (l : List UInt8) : List UInt8 := 39 :: (dbl l ++ [39])
def oddB (c : UInt8) : Bool := decide (c.toNat < 32) || decide (126 < c.toNat)
/-- What stands between quotes, read. -/
def unq : List UInt8 → Option (List UInt8)
  | [] => some []
  | [c] => if oddB c then none else if c = 39 then none else some [c]
  | c :: d :: r => if oddB c then none else if c = 39 then (if d = 39 then (unq r).map (39 :: ·) else none) else (unq (d :: r)).map (c :: ·)
def unqEnd : Option (List UInt8) → List UInt8 × Nat
  | none => ([], 2)
  | some x => (x, 0)
def inner (l : List UInt8) : List UInt8 := (l.take (l.length - 1)).drop 1
def unquote (l : List UInt8) : List UInt8 × Nat :=
  if l.length < 2 ∨ l.headD 0 ≠ 39 ∨ l.getLastD 0 ≠ 39 then ([], 2) else unqEnd (unq (inner l))
def valueL : List UInt8 → Nat × Nat
  | [c] => (c.toNat, 0)
  | [c, d] => (c.toNat * 256 + d.toNat, 0)
  | _ => (0, 5)

theorem index_cons_no (b : UInt8) (l sub : List UInt8) (h : sub.isPrefixOf (b :: l) = false) : Lib.index (b :: l) sub = if Lib.index l sub = -1 then -1 else Lib.index l sub + 1 := by
  rw [Lib.index, h]; simp
theorem index_cons_yes (b : UInt8) (l sub : List UInt8) (h : sub.isPrefixOf (b :: l) = true) : Lib.index (b :: l) sub = 0 := by
  rw [Lib.index, h]; rfl

/-- What ReplaceAll makes, letter by letter. -/
def repl (old new : List UInt8) (s : List UInt8) : List UInt8 := Lib.replaceK old new (Lib.count s old) s
theorem repl_nil (old new : List UInt8) (ho : old ≠ []) : repl old new [] = [] := by
  have h : Lib.index [] old = -1 := by cases old with | nil => simp at ho | cons c r => rfl
  unfold repl
  rw [Lib.count_miss h]; rfl
theorem repl_no (old new : List UInt8) (b : UInt8) (l : List UInt8) (ho : old ≠ []) (h : old.isPrefixOf (b :: l) = false) : repl old new (b :: l) = b :: repl old new l := by
  have hi := index_cons_no b l old h
  unfold repl
  rcases Lib.index_spec l old with ⟨h1, _⟩ | ⟨i, h1, _⟩
  · rw [h1, if_pos rfl] at hi
    rw [Lib.count_miss hi, Lib.count_miss h1]; rfl
  · rw [h1, if_neg (by omega)] at hi
    have hi' : Lib.index (b :: l) old = ((i + 1 : Nat) : Int) := by rw [hi]; omega
    rw [Lib.count_hit ho hi', Lib.count_hit ho h1, Nat.add_comm 1, Lib.replaceK_hit old new _ _ _ hi', Nat.add_comm 1, Lib.replaceK_hit old new _ _ _ h1]
    have e : (b :: l).drop (i + 1 + old.length) = l.drop (i + old.length) := by rw [show i + 1 + old.length = (i + old.length) + 1 by omega]; rfl
    rw [e]; rfl
theorem repl_yes (old new : List UInt8) (s : List UInt8) (ho : old ≠ []) : repl old new (old ++ s) = new ++ repl old new s := by
  have hi : Lib.index (old ++ s) old = ((0 : Nat) : Int) := by
    cases old with
    | nil => simp at ho
    | cons c r => rw [List.cons_append]; exact index_cons_yes _ _ _ (by rw [← List.cons_append]; simp [List.isPrefixOf_iff_prefix])
  unfold repl
  rw [Lib.count_hit ho hi, Nat.add_comm 1, Lib.replaceK_hit old new _ _ _ hi]
  simp
theorem replaceAll_eq (s old new : List UInt8) (h : old ≠ new) : Lib.replaceAll s old new = repl old new s := by
  unfold Lib.replaceAll Lib.replace repl Lib.replaceNum
  rw [if_neg (by simpa using h), if_pos (.inl (by decide))]
theorem repl_dbl (s : List UInt8) : repl [39] [39, 39] s = dbl s := by
  induction s with
  | nil => exact repl_nil _ _ (by simp)
  | cons c r ih =>
    unfold dbl
    by_cases hc : c = 39
    · subst hc
      rw [if_pos rfl, ← ih]
      exact repl_yes [39] [39, 39] r (by simp)
    · rw [if_neg hc, ← ih]
      exact repl_no _ _ _ _ (by simp) (by simp [List.isPrefixOf, Ne.symm hc])
theorem repl_hal (n : Nat) : ∀ s : List UInt8, s.length ≤ n → repl [39, 39] [39] s = hal s := by
  induction n with
  | zero =>
    intro s h
    obtain rfl : s = [] := List.eq_nil_of_length_eq_zero (by omega)
    exact repl_nil _ _ (by simp)
  | succ n ih =>
    intro s h
    match s, h with
    | [], _ => exact repl_nil _ _ (by simp)
    | [c], _ =>
      rw [repl_no _ _ _ _ (by simp) (by simp [List.isPrefixOf]), repl_nil _ _ (by simp)]; rfl
    | c :: d :: r, h =>
      rw [hal]
      by_cases hc : c = 39 ∧ d = 39
      · obtain ⟨rfl, rfl⟩ := hc
        rw [if_pos ⟨rfl, rfl⟩, ← ih r (by simp at h; omega)]
        exact repl_yes [39, 39] [39] r (by simp)
      · rw [if_neg hc, ← ih (d :: r) (by simp at h ⊢; omega)]
        refine repl_no _ _ _ _ (by simp) ?_
        by_cases h1 : c = 39
        · have h2 : ¬ d = 39 := fun e => hc ⟨h1, e⟩
          simp [List.isPrefixOf, Ne.symm h2]
        · simp [List.isPrefixOf, Ne.symm h1]
theorem replaceAll_dbl (s : List UInt8) : Lib.replaceAll s [39] [39, 39] = dbl s := by rw [replaceAll_eq _ _ _ (by decide), repl_dbl]
theorem replaceAll_hal (s : List UInt8) : Lib.replaceAll s [39, 39] [39] = hal s := by rw [replaceAll_eq _ _ _ (by decide), repl_hal _ s (Nat.le_refl _)]

theorem dbl_length (s : List UInt8) : s.length ≤ (dbl s).length ∧ (dbl s).length ≤ 2 * s.length := by
  induction s with
  | nil => simp [dbl]
  | cons c r ih => unfold dbl; split <;> simp <;> omega
theorem hal_length : ∀ (n : Nat) (s : List UInt8), s.length ≤ n → (hal s).length ≤ s.length := by
  intro n
  induction n with
  | zero => intro s h; obtain rfl : s = [] := List.eq_nil_of_length_eq_zero (by omega); simp [hal]
  | succ n ih =>
    intro s h
    match s, h with
    | [], _ => simp [hal]
    | [c], _ => simp [hal]
    | c :: d :: r, h =>
      rw [hal]; split
      · have := ih r (by simp at h; omega); simp; omega
      · have := ih (d :: r) (by simp at h ⊢; omega); simp at this ⊢; omega

/-- What is right between quotes is what comes back from its halves. -/
theorem unq_iff (n : Nat) : ∀ s : List UInt8, s.length ≤ n → unq s = if (s.any oddB = true) ∨ dbl (hal s) ≠ s then none else some (hal s) := by
  induction n with
  | zero =>
    intro s h
    obtain rfl : s = [] := List.eq_nil_of_length_eq_zero (by omega)
    simp [unq, hal, dbl]
  | succ n ih =>
    intro s h
    match s, h with
    | [], _ => simp [unq, hal, dbl]
    | [c], _ =>
      unfold unq hal dbl
      by_cases ho : oddB c = true
      · simp [ho]
      · by_cases hc : c = 39 <;> simp [ho, hc, dbl]
    | c :: d :: r, h =>
      by_cases ho : oddB c = true
      · have hu : unq (c :: d :: r) = none := by rw [unq, if_pos ho]
        rw [hu, if_pos (.inl (by simp [ho]))]
      by_cases hc : c = 39
      · by_cases hd : d = 39
        · subst hc; subst hd
          have o39 : oddB 39 = false := by decide
          have hu : unq (39 :: 39 :: r) = (unq r).map (39 :: ·) := by rw [unq, if_neg ho, if_pos rfl, if_pos rfl]
          have hh : hal (39 :: 39 :: r) = 39 :: hal r := by rw [hal, if_pos ⟨rfl, rfl⟩]
          have e : dbl (39 :: hal r) = 39 :: 39 :: dbl (hal r) := by rw [dbl, if_pos rfl]
          rw [hu, hh, e, ih r (by simp at h; omega)]
          simp only [List.any_cons, o39, Bool.false_or, ne_eq, List.cons.injEq, true_and]
          by_cases hp : r.any oddB = true ∨ ¬ dbl (hal r) = r
          · rw [if_pos hp, if_pos hp]; rfl
          · rw [if_neg hp, if_neg hp]; rfl
        · subst hc
          have hu : unq (39 :: d :: r) = none := by rw [unq, if_neg ho, if_pos rfl, if_neg hd]
          have hh : hal (39 :: d :: r) = 39 :: hal (d :: r) := by rw [hal, if_neg (fun h => hd h.2)]
          rw [hu, hh, if_pos]
          right
          rw [dbl, if_pos rfl]
          intro e
          injection e with _ e
          injection e with e _
          exact hd e.symm
      · have ho' : oddB c = false := by simpa using ho
        have hu : unq (c :: d :: r) = (unq (d :: r)).map (c :: ·) := by rw [unq, if_neg ho, if_neg hc]
        have hh : hal (c :: d :: r) = c :: hal (d :: r) := by rw [hal, if_neg (fun h => hc h.1)]
        have e : dbl (c :: hal (d :: r)) = c :: dbl (hal (d :: r)) := by rw [dbl, if_neg hc]
        rw [hu, hh, e, ih (d :: r) (by simp at h ⊢; omega)]
        simp only [List.any_cons (a := c), ho', Bool.false_or, ne_eq, List.cons.injEq, true_and]
        by_cases hp : (d :: r).any oddB = true ∨ ¬ dbl (hal (d :: r)) = d :: r
        · rw [if_pos hp, if_pos hp]; rfl
        · rw [if_neg hp, if_neg hp]; rfl
theorem unq_eq (s : List UInt8) : unq s = if (s.any oddB = true) ∨ dbl (hal s) ≠ s then none else some (hal s) := unq_iff _ s (Nat.le_refl _)

theorem hal_dbl (s : List UInt8) : hal (dbl s) = s := by
  induction s with
  | nil => rfl
  | cons c r ih =>
    unfold dbl
    by_cases hc : c = 39
    · rw [if_pos hc, hal, if_pos ⟨rfl, rfl⟩, ih, hc]
    · rw [if_neg hc]
      cases h : dbl r with
      | nil =>
        rw [h] at ih
        rw [hal]; congr 1
      | cons d t => rw [hal, if_neg (fun h => hc h.1), ← h, ih]
theorem dbl_any (s : List UInt8) : (dbl s).any oddB = s.any oddB := by
  induction s with
  | nil => rfl
  | cons c r ih =>
    unfold dbl
    split
    · rename_i h; subst h
      simp only [List.any_cons, ih, show oddB 39 = false by decide, Bool.false_or]
    · simp only [List.any_cons, ih]
/-- What was quoted is unquoted as it was; what may not be in a source is none. -/
theorem quote_back (s : List UInt8) : unquote (quoteL s) = if s.any oddB then ([], 2) else (s, 0) := by
  have hi : inner (quoteL s) = dbl s := by
    unfold inner quoteL
    simp
  unfold unquote
  have hl : (quoteL s).getLastD 0 = 39 := by unfold quoteL; rw [← List.cons_append, List.getLastD_concat]
  rw [if_neg (by rw [hl]; unfold quoteL; simp), hi, unq_eq, dbl_any, hal_dbl]
  by_cases h : s.any oddB = true
  · rw [if_pos (.inl h), if_pos h]; rfl
  · rw [if_neg (by simp [h]), if_neg h]; rfl
end Go.Proofs.YtnpphfhjpflgiaaDoor
