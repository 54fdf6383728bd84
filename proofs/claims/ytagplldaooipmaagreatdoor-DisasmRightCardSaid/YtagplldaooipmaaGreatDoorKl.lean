/- Kl. -/
import Derived.Test.YtagplldaooipmaaGreatDoorKb
import Derived.Test.YtagplldaooipmaaGreatDoorKc
namespace Go.Proofs.YtagplldaooipmaaGreatDoor
structure Ar where
  w : List UInt8
  t : List UInt8
  is : Bool
  mem : Bool
  e : Ex
structure St where
  label : List UInt8
  colon : Bool
  op : List UInt8
  args : List Ar
abbrev sDB : List UInt8 := [68, 66]
abbrev sEQU : List UInt8 := [69, 81, 85]
abbrev sSET : List UInt8 := [83, 69, 84]
def opW : List (List UInt8) := [[79, 82], [88, 79, 82], [65, 78, 68], [78, 79, 84], [77, 79, 68], [83, 72, 76], [83, 72, 82]]
def intelW : List (List UInt8) := [[79, 82], [88, 79, 82], [65, 78, 68], [78, 79, 84], [77, 79, 68], [83, 72, 76], [83, 72, 82], [65], [66], [67], [68], [69], [72], [76], [77], [83, 80], [80, 83, 87]]
def zilogW : List (List UInt8) := [[79, 82], [88, 79, 82], [65, 78, 68], [78, 79, 84], [77, 79, 68], [83, 72, 76], [83, 72, 82], [65], [66], [67], [68], [69], [72], [76], [65, 70], [66, 67], [68, 69], [72, 76], [83, 80], [78, 90], [90], [78, 67], [80, 79], [80, 69], [80], [77]]
def eightW : List (List UInt8) := [[79, 82], [88, 79, 82], [65, 78, 68], [78, 79, 84], [77, 79, 68], [83, 72, 76], [83, 72, 82], [65, 76], [67, 76], [68, 76], [66, 76], [65, 72], [67, 72], [68, 72], [66, 72], [65, 88], [67, 88], [68, 88], [66, 88], [83, 80], [66, 80], [83, 73], [68, 73]]
def memZ : List (List UInt8) := [[40, 66, 67, 41], [40, 68, 69, 41], [40, 72, 76, 41], [40, 83, 80, 41]]
def mem8 : List (List UInt8) := [[91, 66, 88, 93], [91, 83, 73, 93]]
def resB (d : Int) (s : List UInt8) : Bool := if d = 0 then decide (s ∈ intelW) else if d = 1 then decide (s ∈ zilogW) else if d = 2 then decide (s ∈ eightW) else false
def knownB (d : Int) : Bool := decide (0 ≤ d) && decide (d ≤ 2)
def setsB (s : List UInt8) : Bool := decide (s ∈ [sEQU, sSET])
def greatB (s : List UInt8) : Bool := nameB s && upper s == s
def plainB (d : Int) (s : List UInt8) : Bool := greatB s && !resB d s && !setsB s
def memB (d : Int) (s : List UInt8) : Bool := (decide (d = 1) && decide (s ∈ memZ)) || (decide (d = 2) && decide (s ∈ mem8))
def wordB (d : Int) (s : List UInt8) : Bool := memB d s || (resB d s && !decide (s ∈ opW))
def sameA (a b : Ar) : Bool := a.w == b.w && a.t == b.t && a.is == b.is && a.mem == b.mem && sameE a.e b.e
def sameAs : List Ar → List Ar → Bool
  | [], [] => true
  | a :: r, b :: s => sameA a b && sameAs r s
  | _, _ => false
def sameS (a b : St) : Bool := a.label == b.label && a.colon == b.colon && a.op == b.op && sameAs a.args b.args
def emptyA (a : Ar) : Bool := sameE a.e ex0 && !a.mem
def rightA (d : Int) (op : List UInt8) (a : Ar) : Bool :=
  if a.w ≠ [] then emptyA a && a.t == [] && !a.is && wordB d a.w
  else if a.is then emptyA a && op == sDB && (unquote (quoteL a.t)).2 == 0
  else if a.t ≠ [] ∨ (a.mem = true ∧ d = 0) ∨ rightE a.e 24 = false then false
  else (namesE a.e).all (plainB d)
def rightS (d : Int) (s : St) : Nat :=
  if knownB d = false then 1
  else if s.label ≠ [] ∧ plainB d s.label = false then 2
  else if (s.op = [] ∧ s.args ≠ []) ∨ (s.op ≠ [] ∧ greatB s.op = false) then 2
  else if (setsB s.op = true ∧ s.label = []) ∨ s.colon ≠ (!s.label.isEmpty && !setsB s.op) ∨ 32 < s.args.length then 2
  else if s.args.all (rightA d s.op) = false then 2
  else 0
def pd (o c : List UInt8) (t : Tok) (n : Int) : Int := if t.1 = 4 ∧ t.2.1 = o then n + 1 else if t.1 = 4 ∧ t.2.1 = c then n - 1 else n
def pairF (o c : List UInt8) : List Tok → Int → Bool
  | [], _ => true
  | [_], _ => true
  | t :: u :: r, n => if pd o c t n = 0 then false else pairF o c (u :: r) (pd o c t n)
def showA (d : Int) (a : Ar) : List UInt8 :=
  if a.w ≠ [] then a.w else if a.is then quoteL a.t
  else if a.mem = true ∧ d = 2 then [91] ++ (if rightE a.e 24 then showE a.e 1 else []) ++ [93]
  else if a.mem = true then [40] ++ (if rightE a.e 24 then showE a.e 1 else []) ++ [41]
  else (if rightE a.e 24 then showE a.e 1 else [])
def labS (s : St) : List UInt8 := if s.colon then s.label ++ [58] else s.label
def wordsS (d : Int) (s : St) : List (List UInt8) := [labS s, s.op, [44].intercalate (s.args.map (showA d))].filter (fun x => !x.isEmpty)
def textS (d : Int) (s : St) : List UInt8 := [32].intercalate (wordsS d s)
def showS (d : Int) (s : St) : List UInt8 × Nat := if rightS d s ≠ 0 then ([], rightS d s) else if 200 < (textS d s).length then ([], 11) else (textS d s, 0)
end Go.Proofs.YtagplldaooipmaaGreatDoor
/- A right statement's text is read as the same statement. -/
namespace Go.Proofs.YtagplldaooipmaaGreatDoor
def Tl (R : List UInt8) : Prop := R = [] ∨ ∃ x r, R = x :: r ∧ tailB x = false ∧ alnumB x = false ∧ x ≠ 39
theorem Tl.nil : Tl [] := .inl rfl
theorem Tl.col (r : List UInt8) : Tl (58 :: r) := .inr ⟨58, r, rfl, by decide, by decide, by decide⟩
inductive ArF (d : Int) (op : List UInt8) : Ar → Prop
  | word (s : List UInt8) (h0 : s ≠ []) (h : wordB d s = true) : ArF d op ⟨s, [], false, false, ex0⟩
  | text (t : List UInt8) (ho : op = sDB) (h : t.any oddB = false) : ArF d op ⟨[], t, true, false, ex0⟩
  | expr (mem : Bool) (e : Ex) (hm : mem = true → d ≠ 0) (h : rightE e 24 = true) (hn : ∀ m ∈ namesE e, plainB d m = true) : ArF d op ⟨[], [], false, mem, e⟩
theorem rightA.form {d : Int} {op : List UInt8} {a : Ar} (h : rightA d op a = true) : ArF d op a := by
  obtain ⟨w, t, is, mem, e⟩ := a
  unfold rightA emptyA at h
  simp only at h
  by_cases h1 : w ≠ []
  · rw [if_pos h1] at h
    simp only [Bool.and_eq_true, Bool.not_eq_true', beq_iff_eq] at h
    obtain ⟨⟨⟨⟨g1, rfl⟩, rfl⟩, rfl⟩, g4⟩ := h
    obtain rfl := (sameE_iff e ex0).1 g1
    exact .word w h1 g4
  · rw [if_neg h1] at h
    obtain rfl : w = [] := by simpa using h1
    by_cases h2 : is = true
    · subst h2
      simp only [if_true, Bool.and_eq_true, Bool.not_eq_true', beq_iff_eq] at h
      obtain ⟨⟨⟨g1, rfl⟩, rfl⟩, g3⟩ := h
      obtain rfl := (sameE_iff e ex0).1 g1
      refine .text t rfl ?_
      have := quote_back t
      cases hh : t.any oddB with
      | false => rfl
      | true => rw [hh] at this; simp at this; rw [this] at g3; simp at g3
    · obtain rfl : is = false := by simpa using h2
      simp only [Bool.false_eq_true, if_false] at h
      by_cases h3 : t ≠ [] ∨ (mem = true ∧ d = 0) ∨ rightE e 24 = false
      · rw [if_pos h3] at h; cases h
      · rw [if_neg h3] at h
        simp only [not_or, not_and, Bool.not_eq_false, ne_eq, Decidable.not_not] at h3
        obtain ⟨rfl, g1, g2⟩ := h3
        exact .expr mem e g1 g2 (by simpa using h)
theorem inter_one (x : UInt8) (a : List UInt8) : [x].intercalate [a] = a := by simp [List.intercalate, List.intersperse]
theorem inter_cons (x : UInt8) (a b : List UInt8) (r : List (List UInt8)) : [x].intercalate (a :: b :: r) = a ++ x :: [x].intercalate (b :: r) := by simp [List.intercalate, List.intersperse]
def Bal (p : List Tok) : Prop := ∀ d cur acc rest, cutF [44] (p ++ rest) d cur acc = cutF [44] rest d (cur ++ p) acc
theorem Bal.nil : Bal [] := fun d cur acc rest => by simp
theorem Bal.one {t : Tok} (h1 : isT t [[41], [93]] = false) (h2 : isT t [[40], [91]] = false) (h3 : isT t [[44]] = false) : Bal [t] := fun d cur acc rest => by
  rw [List.singleton_append, cutF_eq, h3]
  simp [d2F, d1F, h1, h2]
theorem Bal.op {o : List UInt8} {r : Nat} (ho : binO o r) : Bal [opT o] := by
  rcases ho with ⟨rfl, rfl | rfl | rfl | rfl | rfl⟩ | ⟨rfl, rfl | rfl⟩ | ⟨rfl, rfl⟩ | ⟨rfl, rfl | rfl⟩ <;> exact Bal.one (by decide) (by decide) (by decide)
def Np (o c : List UInt8) (p : List Tok) : Prop := ∀ n rest, 1 ≤ n → rest ≠ [] → pairF o c (p ++ rest) n = pairF o c rest n
theorem pairF_cons (o c : List UInt8) (t : Tok) (rest : List Tok) (n : Int) (h : rest ≠ []) : pairF o c (t :: rest) n = if pd o c t n = 0 then false else pairF o c rest (pd o c t n) := by
  cases rest with
  | nil => exact absurd rfl h
  | cons u r => rfl
theorem Np.one {o c : List UInt8} {t : Tok} (h : t.1 = 4 → t.2.1 ≠ o ∧ t.2.1 ≠ c) : Np o c [t] := fun n rest h1 h2 => by
  have e : pd o c t n = n := by
    unfold pd
    rw [if_neg (fun hh => (h hh.1).1 hh.2), if_neg (fun hh => (h hh.1).2 hh.2)]
  rw [List.singleton_append, pairF_cons _ _ _ _ _ h2, e, if_neg (by omega)]
end Go.Proofs.YtagplldaooipmaaGreatDoor
/- A right statement's text is read as the same statement: the operands, the whole. -/
namespace Go.Proofs.YtagplldaooipmaaGreatDoor
structure StF (d : Int) (s : St) : Prop where
  known : knownB d = true
  lab : s.label ≠ [] → plainB d s.label = true
  op0 : s.op = [] → s.args = []
  op1 : s.op ≠ [] → greatB s.op = true
  sets : setsB s.op = true → s.label ≠ []
  colon : s.colon = (!s.label.isEmpty && !setsB s.op)
  few : s.args.length ≤ 32
  args : ∀ a ∈ s.args, ArF d s.op a
theorem rightS.form {d : Int} {s : St} (h : rightS d s = 0) : StF d s := by
  unfold rightS at h
  split at h
  · cases h
  · rename_i h1
    split at h
    · cases h
    · rename_i h2
      split at h
      · cases h
      · rename_i h3
        split at h
        · cases h
        · rename_i h4
          split at h
          · cases h
          · rename_i h5
            simp only [not_or, not_and, Bool.not_eq_false, ne_eq, Decidable.not_not] at h1 h2 h3 h4 h5
            refine ⟨h1, h2, h3.1, h3.2, fun g => h4.1 g, h4.2.1, by omega, fun a ha => rightA.form ?_⟩
            exact List.all_eq_true.1 h5 a ha
end Go.Proofs.YtagplldaooipmaaGreatDoor
/- What is read fits. -/
namespace Go.Proofs.YtagplldaooipmaaGreatDoor
def okT (ts : List Tok) : Prop := ∀ t ∈ ts, t.2.2 ≤ 65535 ∧ t.2.1.length ≤ 1000
theorem okT.drop {ts : List Tok} (h : okT ts) (n : Nat) : okT (ts.drop n) := fun t ht => h t (List.mem_of_mem_drop ht)
theorem okT.take {ts : List Tok} (h : okT ts) (n : Nat) : okT (ts.take n) := fun t ht => h t (List.mem_of_mem_take ht)
theorem fit_ex0 : fitE ex0 = true := by decide
theorem ts_fail (s : PS) (k : Nat) : (s.fail k).ts = s.ts := by unfold PS.fail; split <;> rfl
def Fit (p : Ex × PS) : Prop := fitE p.1 = true ∧ okT p.2.ts
theorem Fit.fail {s : PS} (h : okT s.ts) (k : Nat) : Fit (ex0, s.fail k) := ⟨fit_ex0, by rw [ts_fail]; exact h⟩
end Go.Proofs.YtagplldaooipmaaGreatDoor
