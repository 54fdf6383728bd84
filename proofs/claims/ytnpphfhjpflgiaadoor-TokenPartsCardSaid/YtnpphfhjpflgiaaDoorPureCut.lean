/- The parts between marks, in plain Lean. -/
import Derived.Test.YtnpphfhjpflgiaaDoorCut
namespace Go.Proofs.YtnpphfhjpflgiaaDoor

def d1F (t : Tok) (d : Nat) : Nat := if isT t [[41], [93]] then d - 1 else d
def d2F (t : Tok) (d : Nat) : Nat := if isT t [[40], [91]] then d1F t d + 1 else d1F t d
theorem cutF_eq (sep : List UInt8) (t : Tok) (r : List Tok) (d : Nat) (cur : List Tok) (acc : List (List Tok)) : cutF sep (t :: r) d cur acc = if (isT t [sep] && d1F t d == 0) = true then cutF sep r (d2F t d) [] (acc ++ [cur]) else cutF sep r (d2F t d) (cur ++ [t]) acc := rfl

/-- The parts, with the mark between. -/
def joinP (c : Tok) : List (List Tok) → List Tok
  | [] => []
  | [p] => p
  | p :: q :: r => p ++ c :: joinP c (q :: r)
theorem joinP_snoc (c : Tok) (ps : List (List Tok)) (p : List Tok) (h : ps ≠ []) : joinP c (ps ++ [p]) = joinP c ps ++ c :: p := by
  induction ps with
  | nil => exact absurd rfl h
  | cons a ps ih =>
    cases ps with
    | nil => rfl
    | cons b ps => show a ++ c :: joinP c (b :: ps ++ [p]) = (a ++ c :: joinP c (b :: ps)) ++ c :: p; rw [ih (by simp)]; simp
/-- All tokens come, the mark where one was cut. -/
theorem cutF_join (sep : List UInt8) (c : Tok) (ts : List Tok) : ∀ (d : Nat) (cur : List Tok) (acc : List (List Tok)), (∀ t ∈ ts, isT t [sep] = true → t = c) → joinP c (cutF sep ts d cur acc) = joinP c (acc ++ [cur]) ++ ts := by
  induction ts with
  | nil => intro d cur acc _; simp [cutF]
  | cons t r ih =>
    intro d cur acc h
    have h' : ∀ u ∈ r, isT u [sep] = true → u = c := fun u hu => h u (by simp [hu])
    rw [cutF_eq]
    by_cases hc : (isT t [sep] && d1F t d == 0) = true
    · rw [if_pos hc]
      simp at hc
      rw [ih _ _ _ h', joinP_snoc _ _ _ (by simp), h t (by simp) hc.1]
      simp
    · rw [if_neg hc, ih _ _ _ h']
      cases acc with
      | nil => simp [joinP]
      | cons a acc => rw [joinP_snoc c (a :: acc) (cur ++ [t]) (by simp), joinP_snoc c (a :: acc) cur (by simp)]; simp
theorem cutL_join (sep : List UInt8) (c : Tok) (ts : List Tok) (h : ∀ t ∈ ts, isT t [sep] = true → t = c) : joinP c (cutL sep ts) = ts := by
  unfold cutL
  split
  · rename_i h0; rw [h0]; rfl
  · rw [cutF_join sep c ts 0 [] [] h]; simp [joinP]

/-- How deep behind tokens that are not cut; none: one is cut. -/
def deepT (sep : List UInt8) : List Tok → Nat → Option Nat
  | [], d => some d
  | t :: r, d => if (isT t [sep] && d1F t d == 0) = true then none else deepT sep r (d2F t d)
theorem deepT_eq (sep : List UInt8) (t : Tok) (r : List Tok) (d : Nat) : deepT sep (t :: r) d = if (isT t [sep] && d1F t d == 0) = true then none else deepT sep r (d2F t d) := rfl
theorem deepT_snoc (sep : List UInt8) (ts : List Tok) (t : Tok) : ∀ (d e : Nat), deepT sep ts d = some e → deepT sep (ts ++ [t]) d = deepT sep [t] e := by
  induction ts with
  | nil => intro d e h; simp [deepT] at h; subst h; rfl
  | cons u r ih =>
    intro d e h
    rw [List.cons_append, deepT_eq]
    rw [deepT_eq] at h
    by_cases hc : (isT u [sep] && d1F u d == 0) = true
    · rw [if_pos hc] at h; simp at h
    · rw [if_neg hc] at h ⊢
      exact ih _ _ h
theorem cutF_one (sep : List UInt8) (ts : List Tok) : ∀ (d : Nat) (cur : List Tok) (acc : List (List Tok)), deepT sep ts d ≠ none → cutF sep ts d cur acc = acc ++ [cur ++ ts] := by
  induction ts with
  | nil => intro d cur acc _; simp [cutF]
  | cons t r ih =>
    intro d cur acc h
    rw [deepT_eq] at h
    rw [cutF_eq]
    by_cases hc : (isT t [sep] && d1F t d == 0) = true
    · rw [if_pos hc] at h; simp at h
    · rw [if_neg hc] at h
      rw [if_neg hc, ih _ _ _ h]; simp
/-- No part is cut again. -/
theorem cutF_parts (sep : List UInt8) (hs : sep ≠ [40] ∧ sep ≠ [91]) (ts : List Tok) : ∀ (d : Nat) (cur : List Tok) (acc : List (List Tok)), deepT sep cur 0 = some d → (∀ p ∈ acc, deepT sep p 0 ≠ none) → ∀ p ∈ cutF sep ts d cur acc, deepT sep p 0 ≠ none := by
  induction ts with
  | nil =>
    intro d cur acc hd ha p hp
    simp [cutF] at hp
    rcases hp with hp | rfl
    · exact ha p hp
    · rw [hd]; simp
  | cons t r ih =>
    intro d cur acc hd ha
    rw [cutF_eq]
    by_cases hc : (isT t [sep] && d1F t d == 0) = true
    · rw [if_pos hc]
      simp at hc
      have h0 : d2F t d = 0 := by
        have hno : isT t [[40], [91]] = false := by
          have h1 := hc.1
          unfold isT at h1 ⊢
          simp at h1 ⊢
          intro h4
          rw [h1.2]
          exact ⟨hs.1, hs.2⟩
        unfold d2F
        rw [hno]
        simpa using hc.2
      rw [h0]
      refine ih 0 [] _ rfl ?_
      intro p hp
      rcases List.mem_append.mp hp with hp | hp
      · exact ha p hp
      · simp at hp; subst hp; rw [hd]; simp
    · rw [if_neg hc]
      refine ih _ _ _ ?_ ha
      rw [deepT_snoc sep cur t 0 d hd, deepT_eq, if_neg hc]
      rfl
theorem cutL_again (ts p : List Tok) (hp : p ∈ cutL [44] ts) (h0 : p ≠ []) : (cutL [44] p).length = 1 := by
  have h1 : deepT [44] p 0 ≠ none := by
    unfold cutL at hp
    split at hp
    · simp at hp
    · exact cutF_parts [44] (by decide) ts 0 [] [] rfl (by simp) p hp
  unfold cutL
  rw [if_neg h0, cutF_one _ _ _ _ _ h1]; rfl
theorem cutF_length (sep : List UInt8) (ts : List Tok) : ∀ (d : Nat) (cur : List Tok) (acc : List (List Tok)), acc.length + 1 ≤ (cutF sep ts d cur acc).length ∧ (cutF sep ts d cur acc).length ≤ acc.length + 1 + ts.length := by
  induction ts with
  | nil => intro d cur acc; simp [cutF]
  | cons t r ih =>
    intro d cur acc
    rw [cutF_eq]
    by_cases hc : (isT t [sep] && d1F t d == 0) = true
    · rw [if_pos hc]; have := ih (d2F t d) [] (acc ++ [cur]); simp at this ⊢; omega
    · rw [if_neg hc]; have := ih (d2F t d) (cur ++ [t]) acc; simp at this ⊢; omega
end Go.Proofs.YtnpphfhjpflgiaaDoor
