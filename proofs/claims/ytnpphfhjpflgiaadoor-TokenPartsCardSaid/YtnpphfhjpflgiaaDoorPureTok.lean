/- Layer 4 in plain Lean: tokens of a line. -/
import Derived.Test.YtnpphfhjpflgiaaDoorPureQuote
namespace Go.Proofs.YtnpphfhjpflgiaaDoor

/-- A token: its kind, text, number. -/
abbrev Tok := Int × List UInt8 × Nat
def tok0 : Tok := (0, [], 0)
def tailB (c : UInt8) : Bool := letB c || numB c
def alnumB (c : UInt8) : Bool := alphaB c || numB c
def marks : List UInt8 := [44, 40, 41, 91, 93, 43, 45, 42, 47, 58, 36]
def markB (c : UInt8) : Bool := marks.contains c
/-- How many bytes from the begin on. -/
def spanL (p : UInt8 → Bool) : List UInt8 → Nat
  | [] => 0
  | c :: r => if p c then spanL p r + 1 else 0
/-- Where a text in quotes ends, from behind its first quote on; 0: nowhere. -/
def qlen : List UInt8 → Nat → Nat
  | [], _ => 0
  | [c], n => if c = 39 then n + 1 else 0
  | c :: d :: r, n => if c = 39 then (if d = 39 then qlen r (n + 2) else n + 1) else qlen (d :: r) (n + 1)
def quotedL (s : List UInt8) : Nat := qlen (s.drop 1) 1
/-- The first token of a text, how long it is, what is wrong. -/
def firstT (s : List UInt8) : Tok × Nat × Nat :=
  let c := s.headD 0
  if letB c then (if 16 < spanL tailB s then (tok0, 0, 11) else ((1, upper (s.take (spanL tailB s)), 0), spanL tailB s, 0))
  else if numB c then ((2, [], (parse (s.take (spanL alnumB s))).1), spanL alnumB s, (parse (s.take (spanL alnumB s))).2)
  else if c = 39 then (if quotedL s = 0 then (tok0, 0, 2) else ((3, (unquote (s.take (quotedL s))).1, 0), quotedL s, (unquote (s.take (quotedL s))).2))
  else if markB c then ((4, [c], 0), 1, 0)
  else (tok0, 0, 2)
def lineF : Nat → List UInt8 → List Tok → List Tok × Nat
  | 0, _, acc => (acc, 0)
  | _ + 1, [], acc => (acc, 0)
  | f + 1, c :: r, acc =>
    if c = 32 ∨ c = 9 then lineF f r acc
    else if c = 59 then (acc, 0)
    else if (firstT (c :: r)).2.2 = 0 then lineF f ((c :: r).drop (firstT (c :: r)).2.1) (acc ++ [(firstT (c :: r)).1])
    else ([], (firstT (c :: r)).2.2)
def lineL (s : List UInt8) : List Tok × Nat := if 200 < s.length then ([], 11) else lineF (s.length + 1) s []

theorem spanL_le (p : UInt8 → Bool) (s : List UInt8) : spanL p s ≤ s.length := by
  induction s with
  | nil => simp [spanL]
  | cons c r ih => unfold spanL; split <;> simp; omega
theorem spanL_pos (p : UInt8 → Bool) (s : List UInt8) (h : s ≠ []) (hc : p (s.headD 0) = true) : 1 ≤ spanL p s := by
  cases s with
  | nil => simp at h
  | cons c r => unfold spanL; rw [if_pos (by simpa using hc)]; omega
/-- Up to k all are of the kind. -/
theorem spanL_stop (p : UInt8 → Bool) (s : List UInt8) (k : Nat) (hk : k < s.length) (h : ∀ j (hj : j < s.length), j < k → p s[j] = true) (hn : p s[k] = false) : spanL p s = k := by
  induction s generalizing k with
  | nil => simp at hk
  | cons c r ih =>
    unfold spanL
    cases k with
    | zero => rw [if_neg (by have : p c = false := hn; simp [this])]
    | succ k =>
      rw [if_pos (show p c = true from h 0 (by simp) (by omega)), ih k (by simpa using hk) (fun j hj hjk => h (j + 1) (by simpa using hj) (by omega)) hn]
theorem spanL_all (p : UInt8 → Bool) (s : List UInt8) (h : ∀ j (hj : j < s.length), p s[j] = true) : spanL p s = s.length := by
  induction s with
  | nil => rfl
  | cons c r ih =>
    unfold spanL
    rw [if_pos (show p c = true from h 0 (by simp)), ih (fun j hj => h (j + 1) (by simpa using hj))]; simp
theorem qlen_le (n : Nat) : ∀ (s : List UInt8) (k : Nat), s.length ≤ n → qlen s k = 0 ∨ (k + 1 ≤ qlen s k ∧ qlen s k ≤ k + s.length) := by
  induction n with
  | zero => intro s k h; obtain rfl : s = [] := List.eq_nil_of_length_eq_zero (by omega); left; rfl
  | succ n ih =>
    intro s k h
    match s, h with
    | [], _ => left; rfl
    | [c], _ => unfold qlen; split <;> simp
    | c :: d :: r, h =>
      unfold qlen
      split
      · split
        · rcases ih r (k + 2) (by simp at h; omega) with h1 | h1
          · exact .inl h1
          · right; simp; omega
        · right; simp
      · rcases ih (d :: r) (k + 1) (by simp at h ⊢; omega) with h1 | h1
        · exact .inl h1
        · right; simp at h1 ⊢; omega
theorem quotedL_le (s : List UInt8) (h : s ≠ []) : quotedL s = 0 ∨ (2 ≤ quotedL s ∧ quotedL s ≤ s.length) := by
  unfold quotedL
  have hl : 1 ≤ s.length := by cases s with | nil => simp at h | cons c r => simp
  rcases qlen_le _ (s.drop 1) 1 (Nat.le_refl _) with h1 | h1
  · exact .inl h1
  · right; rw [List.length_drop] at h1; omega
theorem firstT_len (s : List UInt8) (h : s ≠ []) (hk : (firstT s).2.2 = 0) : 1 ≤ (firstT s).2.1 ∧ (firstT s).2.1 ≤ s.length := by
  unfold firstT at hk ⊢
  have h1 := spanL_le tailB s
  have h2 := spanL_le alnumB s
  have h3 := quotedL_le s h
  have h0 : 1 ≤ s.length := by cases s with | nil => simp at h | cons c r => simp
  simp only at hk ⊢
  split
  · rename_i hl
    rw [if_pos hl] at hk
    split
    · rename_i h16; rw [if_pos h16] at hk; simp at hk
    · exact ⟨spanL_pos tailB s h (by unfold tailB; rw [hl]; rfl), h1⟩
  · rename_i hl
    rw [if_neg hl] at hk
    split
    · rename_i hn
      exact ⟨spanL_pos alnumB s h (by unfold alnumB; rw [hn, Bool.or_true]), h2⟩
    · rename_i hn
      rw [if_neg hn] at hk
      split
      · rename_i hq
        rw [if_pos hq] at hk
        split
        · rename_i hz; rw [if_pos hz] at hk; simp at hk
        · rename_i hz; show 1 ≤ quotedL s ∧ quotedL s ≤ s.length; omega
      · rename_i hq
        rw [if_neg hq] at hk
        split
        · exact ⟨Nat.le_refl _, h0⟩
        · rename_i hm; rw [if_neg hm] at hk; simp at hk
end Go.Proofs.YtnpphfhjpflgiaaDoor
