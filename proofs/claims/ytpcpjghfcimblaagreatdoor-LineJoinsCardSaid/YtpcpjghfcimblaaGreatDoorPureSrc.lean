/- Sources in plain Lean: lines, and what is read of them. -/
import Derived.Test.YtpcpjghfcimblaaGreatDoorKl
import Derived.Lib.SplitLaws
import Derived.Lib.Split
namespace Go.Proofs.YtpcpjghfcimblaaGreatDoor
section
variable {σ : Type}
/-- A source's parts between the ends of lines. -/
def splitNl : List UInt8 → List UInt8 → List (List UInt8)
  | [], cur => [cur]
  | c :: r, cur => if c = 10 then cur :: splitNl r [] else splitNl r (cur ++ [c])
theorem splitNl_pos (s : List UInt8) : ∀ cur, splitNl s cur ≠ [] := by
  induction s with
  | nil => intro cur; simp [splitNl]
  | cons c r ih => intro cur; unfold splitNl; split; · simp
                   · exact ih _
theorem splitNl_app (a b : List UInt8) : ∀ cur, splitNl (a ++ 10 :: b) cur = splitNl a cur ++ splitNl b [] := by
  induction a with
  | nil => intro cur; simp [splitNl]
  | cons c r ih =>
    intro cur
    by_cases h : c = 10
    · simp [splitNl, h, ih]
    · simp [splitNl, h, ih]
theorem splitNl_len (s : List UInt8) : ∀ cur, (splitNl s cur).length ≤ s.length + 1 := by
  induction s with
  | nil => intro cur; simp [splitNl]
  | cons c r ih => intro cur; unfold splitNl; split
                   · have := ih []; simp; omega
                   · have := ih (cur ++ [c]); simp; omega
theorem splitNl_each (s : List UInt8) : ∀ cur, ∀ l ∈ splitNl s cur, l.length ≤ cur.length + s.length := by
  induction s with
  | nil => intro cur l hl; simp [splitNl] at hl; subst hl; simp
  | cons c r ih =>
    intro cur l hl
    unfold splitNl at hl
    split at hl
    · rcases List.mem_cons.1 hl with rfl | hl
      · simp
      · have := ih [] l hl; simp at this; simp; omega
    · have := ih _ l hl; simp at this; simp; omega
/-- Its lines. -/
def linesL (s : List UInt8) : List (List UInt8) := if (splitNl s []).getLastD [] = [] then (splitNl s []).dropLast else splitNl s []
theorem lines_end (a : List UInt8) : linesL (a ++ [10]) = splitNl a [] := by
  unfold linesL
  rw [splitNl_app a []]
  simp [splitNl]
theorem lines_app (a b : List UInt8) : linesL (a ++ [10] ++ b) = linesL (a ++ [10]) ++ linesL b := by
  rw [lines_end]
  unfold linesL
  rw [List.append_assoc, List.singleton_append, splitNl_app a b]
  have h := splitNl_pos b []
  have e : (splitNl a [] ++ splitNl b []).getLastD [] = (splitNl b []).getLastD [] := by
    rw [List.getLastD_eq_getLast?, List.getLastD_eq_getLast?, List.getLast?_append, List.getLast?_eq_some_getLast h]; rfl
  rw [e]
  split
  · rw [List.dropLast_append_of_ne_nil h]
  · rfl
theorem lines_len (s : List UInt8) : (linesL s).length ≤ s.length + 1 := by
  have := splitNl_len s []
  unfold linesL
  split <;> simp <;> omega
theorem lines_each (s : List UInt8) (l : List UInt8) (hl : l ∈ linesL s) : l.length ≤ s.length := by
  have := splitNl_each s [] l (by
    unfold linesL at hl
    split at hl
    · exact (List.dropLast_sublist _).subset hl
    · exact hl)
  simpa using this
/-- What is read of lines, by a reader of one. -/
def readL (p : List UInt8 → σ × Nat) : List (List UInt8) → Nat → List σ → List σ × Nat × Nat
  | [], _, acc => (acc, 0, 0)
  | l :: r, i, acc => if (p l).2 ≠ 0 then ([], i + 1, (p l).2) else readL p r (i + 1) (acc ++ [(p l).1])
theorem readL_app (p : List UInt8 → σ × Nat) (a b : List (List UInt8)) : ∀ i acc, readL p (a ++ b) i acc = if (readL p a i acc).2.2 ≠ 0 then readL p a i acc else readL p b (i + a.length) (readL p a i acc).1 := by
  induction a with
  | nil => intro i acc; simp [readL]
  | cons l r ih =>
    intro i acc
    by_cases h : (p l).2 = 0
    · simp only [List.cons_append, readL, h, ne_eq, not_true_eq_false, if_false]
      rw [ih (i + 1)]
      simp [Nat.add_comm, Nat.add_left_comm]
    · simp [readL, h]
theorem readL_acc (p : List UInt8 → σ × Nat) (b : List (List UInt8)) : ∀ i acc, readL p b i acc = if (readL p b 0 []).2.2 ≠ 0 then ([], (readL p b 0 []).2.1 + i, (readL p b 0 []).2.2) else (acc ++ (readL p b 0 []).1, 0, 0) := by
  induction b with
  | nil => intro i acc; simp [readL]
  | cons l r ih =>
    intro i acc
    by_cases h : (p l).2 = 0
    · simp only [readL, h, ne_eq, not_true_eq_false, if_false]
      rw [ih (i + 1), ih (0 + 1) ([] ++ _)]
      by_cases h2 : (readL p r 0 []).2.2 = 0
      · simp [h2]
      · simp [h2]; omega
    · simp [readL, h]; omega
theorem readL_len (p : List UInt8 → σ × Nat) (a : List (List UInt8)) : ∀ i acc, (readL p a i acc).2.2 = 0 → (readL p a i acc).1.length = acc.length + a.length ∧ (readL p a i acc).2.1 = 0 := by
  induction a with
  | nil => intro i acc _; simp [readL]
  | cons l r ih =>
    intro i acc h
    by_cases hl : (p l).2 = 0
    · simp only [readL, hl, ne_eq, not_true_eq_false, if_false] at h ⊢
      have := ih _ _ h
      simp at this; simp; omega
    · simp [readL, hl] at h
theorem readL_bad (p : List UInt8 → σ × Nat) (a : List (List UInt8)) : ∀ i acc, (readL p a i acc).2.2 ≠ 0 → (readL p a i acc).1 = [] := by
  induction a with
  | nil => intro i acc h; simp [readL] at h
  | cons l r ih =>
    intro i acc h
    by_cases hl : (p l).2 = 0
    · simp only [readL, hl, ne_eq, not_true_eq_false, if_false] at h ⊢
      exact ih _ _ h
    · simp [readL, hl]
end
def preH (c : List UInt8) : List (List UInt8) → List (List UInt8)
  | [] => []
  | x :: r => (c ++ x) :: r
theorem splitNl_pre (s : List UInt8) : ∀ cur, splitNl s cur = preH cur (splitNl s []) := by
  induction s with
  | nil => intro cur; simp [splitNl, preH]
  | cons c r ih =>
    intro cur
    by_cases h : c = 10
    · simp [splitNl, preH, h]
    · simp only [splitNl, h, if_false]
      rw [ih (cur ++ [c]), ih ([] ++ [c])]
      cases splitNl r [] <;> simp [preH]
theorem index_cons_ne (c : UInt8) (r : List UInt8) (h : c ≠ 10) : Lib.index (c :: r) [10] = if Lib.index r [10] == -1 then -1 else Lib.index r [10] + 1 := by
  have : ([10] : List UInt8).isPrefixOf (c :: r) = false := by simp [List.isPrefixOf, Ne.symm h]
  rw [Lib.index, this]; simp
theorem splitK_cons_ne (c : UInt8) (r : List UInt8) (h : c ≠ 10) (k : Nat) : Lib.splitK [10] 0 k (c :: r) = preH [c] (Lib.splitK [10] 0 k r) := by
  cases k with
  | zero => simp [Lib.splitK, preH]
  | succ k =>
    have hge := Lib.index_ge r [10]
    unfold Lib.splitK
    rw [index_cons_ne c r h]
    by_cases hi : Lib.index r [10] = -1
    · simp [hi, preH]
    · have e1 : (Lib.index r [10] == -1) = false := by simpa using hi
      have e2 : (Lib.index r [10] + 1 == -1) = false := by rw [beq_eq_false_iff_ne]; omega
      have e3 : (Lib.index r [10] + 1).toNat = (Lib.index r [10]).toNat + 1 := by omega
      simp [e1, e2, e3, preH]
theorem split_nl (s : List UInt8) : Lib.splitK [10] 0 (Lib.count s [10]) s = splitNl s [] := by
  induction s with
  | nil => rfl
  | cons c r ih =>
    by_cases h : c = 10
    · subst h
      rw [Lib.count_cons_eq, Nat.add_comm]
      have hp : ([10] : List UInt8).isPrefixOf (10 :: r) = true := by simp [List.isPrefixOf]
      have : Lib.index (10 :: r) [10] = 0 := by rw [Lib.index, hp]; simp
      unfold Lib.splitK
      rw [this]
      simp [splitNl, ih]
    · rw [Lib.count_cons_ne _ _ _ h, splitK_cons_ne c r h, ih]
      simp only [splitNl, h, if_false]
      rw [splitNl_pre r ([] ++ [c])]; simp

/-- A line without the mark ahead of its end. -/
def crL (l : List UInt8) : List UInt8 := Lib.trimSuffix l [13]
def parseCr (d : Int) (l : List UInt8) : St × Nat := parseS d (crL l)
def srcS (d : Int) (s : List UInt8) : List St × Nat × Nat :=
  if knownB d = false then ([], 0, 1)
  else if 2097152 < s.length ∨ 131072 < s.count 10 ∨ 131072 < (linesL s).length then ([], 0, 11)
  else readL (parseCr d) (linesL s) 0 []
theorem src_read (d : Int) (hk : knownB d = true) (s : List UInt8) (hs : s.length ≤ 100000) : srcS d s = readL (parseCr d) (linesL s) 0 [] := by
  have c1 : s.count 10 ≤ s.length := List.count_le_length
  have l1 := lines_len s
  unfold srcS
  rw [hk, if_neg (by simp), if_neg (by omega)]
theorem readL_line (p : List UInt8 → St × Nat) (a : List (List UInt8)) : ∀ i acc, (readL p a i acc).2.1 ≤ i + a.length := by
  induction a with
  | nil => intro i acc; simp [readL]
  | cons l r ih =>
    intro i acc
    unfold readL
    split
    · simp
    · have := ih (i + 1) (acc ++ [(p l).1]); simp; omega
theorem src_line (d : Int) (s : List UInt8) (hs : s.length ≤ 100000) : (srcS d s).2.1 ≤ s.length + 1 := by
  cases hk : knownB d with
  | false => unfold srcS; rw [if_pos hk]; simp
  | true =>
    rw [src_read d hk s hs]
    have l1 := lines_len s
    have := readL_line (parseCr d) (linesL s) 0 []
    omega
theorem src_len (d : Int) (s : List UInt8) (hs : s.length ≤ 100000) : (srcS d s).1.length ≤ s.length + 1 := by
  cases hk : knownB d with
  | false => unfold srcS; rw [if_pos hk]; simp
  | true =>
    rw [src_read d hk s hs]
    have l1 := lines_len s
    by_cases h : (readL (parseCr d) (linesL s) 0 []).2.2 = 0
    · have := (readL_len _ _ _ _ h).1
      simp at this; omega
    · rw [readL_bad _ _ _ _ h]; simp
theorem src_join (d : Int) (a b : List UInt8) (ha : a.length ≤ 1500) (hb : b.length ≤ 1500) (h1 : (srcS d (a ++ [10])).2.2 ≠ 0) : srcS d (a ++ [10] ++ b) = srcS d (a ++ [10]) ∧ (srcS d (a ++ [10])).1 = [] := by
  cases hk : knownB d with
  | false => unfold srcS; simp [hk]
  | true =>
    have e1 := src_read d hk (a ++ [10]) (by simp; omega)
    have e2 := src_read d hk (a ++ [10] ++ b) (by simp; omega)
    rw [e1] at h1 ⊢
    rw [e2, lines_app, readL_app, if_pos h1]
    exact ⟨rfl, readL_bad _ _ _ _ h1⟩
theorem src_next (d : Int) (a b : List UInt8) (ha : a.length ≤ 1500) (hb : b.length ≤ 1500) (h1 : (srcS d (a ++ [10])).2.2 = 0) :
    (srcS d (a ++ [10])).2.1 = 0 ∧ (if (srcS d b).2.2 ≠ 0 then srcS d (a ++ [10] ++ b) = ([], (srcS d b).2.1 + (srcS d (a ++ [10])).1.length, (srcS d b).2.2) else srcS d (a ++ [10] ++ b) = ((srcS d (a ++ [10])).1 ++ (srcS d b).1, 0, 0)) := by
  cases hk : knownB d with
  | false => unfold srcS at h1; simp [hk] at h1
  | true =>
    have e1 := src_read d hk (a ++ [10]) (by simp; omega)
    have e2 := src_read d hk (a ++ [10] ++ b) (by simp; omega)
    have e3 := src_read d hk b (by omega)
    rw [e1] at h1 ⊢
    have hl := readL_len _ _ _ _ h1
    rw [lines_app, readL_app, if_neg (by rw [h1]; simp), readL_acc (parseCr d) (linesL b)] at e2
    rw [e2, e3]
    refine ⟨hl.2, ?_⟩
    by_cases h2 : (readL (parseCr d) (linesL b) 0 []).2.2 = 0
    · simp [h2]
    · simp [h2, hl.1]
end Go.Proofs.YtpcpjghfcimblaaGreatDoor
