/- Several texts in one: PureLn, PureLn2, PureLn3, PureLn4. -/
import Derived.Test.YtpcpjghfcimblaaGreatDoorKb
import Derived.Test.YtpcpjghfcimblaaGreatDoorKc
namespace Go.Proofs.YtpcpjghfcimblaaGreatDoor

structure Ar where
  w : List UInt8
  t : List UInt8
  is : Bool
  mem : Bool
  e : Ex
structure St where
  label : List UInt8
  colon : Bool
  op : List UInt8
  args : List Ar
def ar0 : Ar := ⟨[], [], false, false, ex0⟩
def st0 : St := ⟨[], false, [], []⟩
abbrev sDB : List UInt8 := [68, 66]
abbrev sEQU : List UInt8 := [69, 81, 85]
abbrev sSET : List UInt8 := [83, 69, 84]
def opW : List (List UInt8) := [[79, 82], [88, 79, 82], [65, 78, 68], [78, 79, 84], [77, 79, 68], [83, 72, 76], [83, 72, 82]]
def intelW : List (List UInt8) := [[79, 82], [88, 79, 82], [65, 78, 68], [78, 79, 84], [77, 79, 68], [83, 72, 76], [83, 72, 82], [65], [66], [67], [68], [69], [72], [76], [77], [83, 80], [80, 83, 87]]
def zilogW : List (List UInt8) := [[79, 82], [88, 79, 82], [65, 78, 68], [78, 79, 84], [77, 79, 68], [83, 72, 76], [83, 72, 82], [65], [66], [67], [68], [69], [72], [76], [65, 70], [66, 67], [68, 69], [72, 76], [83, 80], [78, 90], [90], [78, 67], [80, 79], [80, 69], [80], [77]]
def eightW : List (List UInt8) := [[79, 82], [88, 79, 82], [65, 78, 68], [78, 79, 84], [77, 79, 68], [83, 72, 76], [83, 72, 82], [65, 76], [67, 76], [68, 76], [66, 76], [65, 72], [67, 72], [68, 72], [66, 72], [65, 88], [67, 88], [68, 88], [66, 88], [83, 80], [66, 80], [83, 73], [68, 73]]
def memZ : List (List UInt8) := [[40, 66, 67, 41], [40, 68, 69, 41], [40, 72, 76, 41], [40, 83, 80, 41]]
def mem8 : List (List UInt8) := [[91, 66, 88, 93], [91, 83, 73, 93]]

def resB (d : Int) (s : List UInt8) : Bool := if d = 0 then decide (s ∈ intelW) else if d = 1 then decide (s ∈ zilogW) else if d = 2 then decide (s ∈ eightW) else false
def knownB (d : Int) : Bool := decide (0 ≤ d) && decide (d ≤ 2)
def setsB (s : List UInt8) : Bool := decide (s ∈ [sEQU, sSET])
def greatB (s : List UInt8) : Bool := nameB s && upper s == s
def plainB (d : Int) (s : List UInt8) : Bool := greatB s && !resB d s && !setsB s
def memB (d : Int) (s : List UInt8) : Bool := (decide (d = 1) && decide (s ∈ memZ)) || (decide (d = 2) && decide (s ∈ mem8))
def wordB (d : Int) (s : List UInt8) : Bool := memB d s || (resB d s && !decide (s ∈ opW))
def sameA (a b : Ar) : Bool := a.w == b.w && a.t == b.t && a.is == b.is && a.mem == b.mem && sameE a.e b.e
def sameAs : List Ar → List Ar → Bool
  | [], [] => true
  | a :: r, b :: s => sameA a b && sameAs r s
  | _, _ => false
def sameS (a b : St) : Bool := a.label == b.label && a.colon == b.colon && a.op == b.op && sameAs a.args b.args
/-- Has an operand no expression? -/
def emptyA (a : Ar) : Bool := sameE a.e ex0 && !a.mem
def rightA (d : Int) (op : List UInt8) (a : Ar) : Bool :=
  if a.w ≠ [] then emptyA a && a.t == [] && !a.is && wordB d a.w
  else if a.is then emptyA a && op == sDB && (unquote (quoteL a.t)).2 == 0
  else if a.t ≠ [] ∨ (a.mem = true ∧ d = 0) ∨ rightE a.e 24 = false then false
  else (namesE a.e).all (plainB d)
def rightS (d : Int) (s : St) : Nat :=
  if knownB d = false then 1
  else if s.label ≠ [] ∧ plainB d s.label = false then 2
  else if (s.op = [] ∧ s.args ≠ []) ∨ (s.op ≠ [] ∧ greatB s.op = false) then 2
  else if (setsB s.op = true ∧ s.label = []) ∨ s.colon ≠ (!s.label.isEmpty && !setsB s.op) ∨ 32 < s.args.length then 2
  else if s.args.all (rightA d s.op) = false then 2
  else 0
def nameT (ts : List Tok) (i : Nat) : Bool := decide (i < ts.length) && decide ((ts.getD i tok0).1 = 1)
def markT (ts : List Tok) (i : Nat) (s : List UInt8) : Bool := decide (i < ts.length) && decide ((ts.getD i tok0).1 = 4) && decide ((ts.getD i tok0).2.1 = s)
/-- The depth behind a token. -/
def pd (o c : List UInt8) (t : Tok) (n : Int) : Int := if t.1 = 4 ∧ t.2.1 = o then n + 1 else if t.1 = 4 ∧ t.2.1 = c then n - 1 else n
def pairF (o c : List UInt8) : List Tok → Int → Bool
  | [], _ => true
  | [_], _ => true
  | t :: u :: r, n => if pd o c t n = 0 then false else pairF o c (u :: r) (pd o c t n)
def pairT (ts : List Tok) (o c : List UInt8) : Bool := decide (2 ≤ ts.length) && markT ts 0 o && markT ts (ts.length - 1) c && pairF o c ts 0
def midT (ts : List Tok) : List Tok := (ts.drop 1).take (ts.length - 2)
def encT (ts : List Tok) (s : List UInt8) : List UInt8 := (ts.getD 0 tok0).2.1 ++ s ++ (ts.getD (ts.length - 1) tok0).2.1
def inMem (d : Int) (ts : List Tok) : Bool := (decide (d = 1) && pairT ts [40] [41]) || (decide (d = 2) && pairT ts [91] [93])
def operandL (d : Int) (op : List UInt8) (ts : List Tok) : Ar × Nat :=
  if ts = [] then (ar0, 2)
  else if ts.length = 1 ∧ (ts.getD 0 tok0).1 = 3 ∧ op = sDB then (⟨[], (ts.getD 0 tok0).2.1, true, false, ex0⟩, 0)
  else if ts.length = 1 ∧ (ts.getD 0 tok0).1 = 1 ∧ wordB d (ts.getD 0 tok0).2.1 = true then (⟨(ts.getD 0 tok0).2.1, [], false, false, ex0⟩, 0)
  else if inMem d ts = true then
    (if (midT ts).length = 1 ∧ ((midT ts).getD 0 tok0).1 = 1 ∧ wordB d (encT ts ((midT ts).getD 0 tok0).2.1) = true then (⟨encT ts ((midT ts).getD 0 tok0).2.1, [], false, false, ex0⟩, 0)
    else (⟨[], [], false, true, (allE (midT ts)).1⟩, (allE (midT ts)).2))
  else (⟨[], [], false, false, (allE ts).1⟩, (allE ts).2)
def argsL (d : Int) (op : List UInt8) : List (List Tok) → List Ar → List Ar × Nat
  | [], acc => (acc, 0)
  | p :: r, acc => if (operandL d op p).2 ≠ 0 then ([], (operandL d op p).2) else argsL d op r (acc ++ [(operandL d op p).1])
def endS (d : Int) (s : St) : St × Nat := if rightS d s ≠ 0 then (st0, rightS d s) else (s, 0)
/-- The label, whether with a colon, and the tokens behind. -/
def headS (l : List Tok) : List UInt8 × Bool × List Tok :=
  if nameT l 0 && markT l 1 [58] then ((l.getD 0 tok0).2.1, true, l.drop 2)
  else if nameT l 0 && nameT l 1 && setsB (l.getD 1 tok0).2.1 then ((l.getD 0 tok0).2.1, false, l.drop 1)
  else ([], false, l)
def bodyS (d : Int) (lab : List UInt8) (colon : Bool) (r : List Tok) : St × Nat :=
  if r = [] then endS d ⟨lab, colon, [], []⟩
  else if nameT r 0 = false then (st0, 2)
  else if 32 < (cutL [44] (r.drop 1)).length then (st0, 11)
  else if (argsL d (r.getD 0 tok0).2.1 (cutL [44] (r.drop 1)) []).2 ≠ 0 then (st0, (argsL d (r.getD 0 tok0).2.1 (cutL [44] (r.drop 1)) []).2)
  else endS d ⟨lab, colon, (r.getD 0 tok0).2.1, (argsL d (r.getD 0 tok0).2.1 (cutL [44] (r.drop 1)) []).1⟩
def parseS (d : Int) (s : List UInt8) : St × Nat :=
  if knownB d = false then (st0, 1)
  else if (lineL s).2 ≠ 0 then (st0, (lineL s).2)
  else bodyS d (headS (lineL s).1).1 (headS (lineL s).1).2.1 (headS (lineL s).1).2.2
def showA (d : Int) (a : Ar) : List UInt8 :=
  if a.w ≠ [] then a.w else if a.is then quoteL a.t
  else if a.mem = true ∧ d = 2 then [91] ++ (if rightE a.e 24 then showE a.e 1 else []) ++ [93]
  else if a.mem = true then [40] ++ (if rightE a.e 24 then showE a.e 1 else []) ++ [41]
  else (if rightE a.e 24 then showE a.e 1 else [])
def labS (s : St) : List UInt8 := if s.colon then s.label ++ [58] else s.label
def wordsS (d : Int) (s : St) : List (List UInt8) := [labS s, s.op, [44].intercalate (s.args.map (showA d))].filter (fun x => !x.isEmpty)
def textS (d : Int) (s : St) : List UInt8 := [32].intercalate (wordsS d s)
def showS (d : Int) (s : St) : List UInt8 × Nat := if rightS d s ≠ 0 then ([], rightS d s) else if 200 < (textS d s).length then ([], 11) else (textS d s, 0)

example : (parseS 0 [108, 49, 58, 32, 109, 118, 105, 32, 97, 32, 44, 32, 48, 102, 102, 104]).1 = ⟨[76, 49], true, [77, 86, 73], [⟨[65], [], false, false, ex0⟩, ⟨[], [], false, false, .mk sNum 255 [] []⟩]⟩ := by rfl
end Go.Proofs.YtpcpjghfcimblaaGreatDoor
/- A right statement's text is read as the same statement. -/
namespace Go.Proofs.YtpcpjghfcimblaaGreatDoor

/-- What may stand behind a word. -/
def Tl (R : List UInt8) : Prop := R = [] ∨ ∃ x r, R = x :: r ∧ tailB x = false ∧ alnumB x = false ∧ x ≠ 39
theorem Tl.nil : Tl [] := .inl rfl
theorem Tl.sp (r : List UInt8) : Tl (32 :: r) := .inr ⟨32, r, rfl, by decide, by decide, by decide⟩
theorem Tl.com (r : List UInt8) : Tl (44 :: r) := .inr ⟨44, r, rfl, by decide, by decide, by decide⟩
theorem Tl.col (r : List UInt8) : Tl (58 :: r) := .inr ⟨58, r, rfl, by decide, by decide, by decide⟩
theorem Tl.par (r : List UInt8) : Tl (41 :: r) := .inr ⟨41, r, rfl, by decide, by decide, by decide⟩
theorem Tl.bra (r : List UInt8) : Tl (93 :: r) := .inr ⟨93, r, rfl, by decide, by decide, by decide⟩
theorem toks_word (t : Tok) (hg : goodT t) (R : List UInt8) (us : List Tok) (hR : Tl R) (h : Toks R us) : Toks (wordT t ++ R) (t :: us) := by
  obtain ⟨c, r, h1, h2, h3, h4, h5⟩ := firstT_word t hg
  have hk : (firstT (c :: r)).2.2 = 0 := by rw [h2]
  rw [h1]
  have e : firstT (c :: r ++ R) = firstT (c :: r) := by
    rcases hR with rfl | ⟨x, q, rfl, g1, g2, g3⟩
    · rw [List.append_nil]
    · exact firstT_behind (c :: r) q x (by simp) g1 g2 g3 hk
  have := Toks.tok c (r ++ R) us h3 h4 h5 (by rw [← List.cons_append, e]; exact hk) (by rw [← List.cons_append, e, h2, List.drop_append_of_le_length (Nat.le_refl _), List.drop_length]; exact h)
  rw [← List.cons_append, e, h2] at this
  exact this
theorem toks_mark (c : UInt8) (hc : markB c = true) (R : List UInt8) (us : List Tok) (h : Toks R us) : Toks (c :: R) ((4, [c], 0) :: us) := by
  have hno := of_fin (p := fun c => markB c = true → letB c = false ∧ numB c = false ∧ c ≠ 39 ∧ c ≠ 32 ∧ c ≠ 9 ∧ c ≠ 59) mark_no c hc
  have e : firstT (c :: R) = ((4, [c], 0), 1, 0) := by
    unfold firstT
    simp only [List.headD_cons, hno.1, hno.2.1, hno.2.2.1, hc, if_true, if_false, Bool.false_eq_true]
  have := Toks.tok c R us hno.2.2.2.1 hno.2.2.2.2.1 hno.2.2.2.2.2 (by rw [e]) (by rw [e]; exact h)
  rw [e] at this
  exact this
theorem toks_show (ts : List Tok) (hg : ∀ t ∈ ts, goodT t) (hne : ts ≠ []) (R : List UInt8) (us : List Tok) (hR : Tl R) (h : Toks R us) : Toks (showT ts ++ R) (ts ++ us) := by
  induction ts with
  | nil => exact absurd rfl hne
  | cons t ts ih =>
    cases ts with
    | nil => exact toks_word t (hg t (by simp)) R us hR h
    | cons u r =>
      have g := ih (fun x hx => hg x (List.mem_cons_of_mem _ hx)) (by simp)
      rw [showT_cons t (u :: r) (by simp), List.append_assoc, List.cons_append]
      exact toks_word t (hg t (by simp)) _ _ (Tl.sp _) (.space 32 _ _ (.inl rfl) g)
theorem good_name (m : List UInt8) (h : greatB m = true) : goodT (1, m, 0) := by
  unfold greatB at h
  simp only [Bool.and_eq_true, beq_iff_eq] at h
  exact .inl ⟨rfl, h.1, h.2, rfl⟩
theorem toks_nm (m : List UInt8) (h : greatB m = true) (R : List UInt8) (us : List Tok) (hR : Tl R) (hT : Toks R us) : Toks (m ++ R) ((1, m, 0) :: us) :=
  toks_word (1, m, 0) (good_name m h) R us hR hT

/-- The tokens of an operand. -/
def toksW (d : Int) (s : List UInt8) : List Tok := if memB d s then [(4, s.take 1, 0), (1, (s.drop 1).take 2, 0), (4, s.drop 3, 0)] else [(1, s, 0)]
def toksA (d : Int) (a : Ar) : List Tok :=
  if a.w ≠ [] then toksW d a.w else if a.is then [(3, a.t, 0)]
  else if a.mem = true ∧ d = 2 then (4, [91], 0) :: (toksE a.e 1 ++ [(4, [93], 0)])
  else if a.mem = true then (4, [40], 0) :: (toksE a.e 1 ++ [(4, [41], 0)])
  else toksE a.e 1
theorem intel_great : ∀ s ∈ intelW, greatB s = true := by decide +kernel
theorem zilog_great : ∀ s ∈ zilogW, greatB s = true := by decide +kernel
theorem eight_great : ∀ s ∈ eightW, greatB s = true := by decide +kernel
theorem res_great (d : Int) (s : List UInt8) (h : resB d s = true) : greatB s = true := by
  unfold resB at h
  split at h
  · exact intel_great s (of_decide_eq_true h)
  · split at h
    · exact zilog_great s (of_decide_eq_true h)
    · split at h
      · exact eight_great s (of_decide_eq_true h)
      · cases h
theorem mem_form (d : Int) (s : List UInt8) (h : memB d s = true) : (d = 1 ∧ s ∈ memZ) ∨ (d = 2 ∧ s ∈ mem8) := by
  unfold memB at h
  simpa using h
theorem memZ_toks : ∀ s ∈ memZ, s.take 1 = [40] ∧ s.drop 3 = [41] ∧ greatB ((s.drop 1).take 2) = true ∧ s = [40] ++ (s.drop 1).take 2 ++ [41] := by decide +kernel
theorem mem8_toks : ∀ s ∈ mem8, s.take 1 = [91] ∧ s.drop 3 = [93] ∧ greatB ((s.drop 1).take 2) = true ∧ s = [91] ++ (s.drop 1).take 2 ++ [93] := by decide +kernel
theorem toksW_toks (d : Int) (s : List UInt8) (h : wordB d s = true) (R : List UInt8) (us : List Tok) (hR : Tl R) (hT : Toks R us) : Toks (s ++ R) (toksW d s ++ us) := by
  unfold toksW
  by_cases hm : memB d s = true
  · rw [if_pos hm]
    rcases mem_form d s hm with ⟨_, hs⟩ | ⟨_, hs⟩
    · obtain ⟨g1, g2, g3, g4⟩ := memZ_toks s hs
      rw [g1, g2]
      have e : s ++ R = 40 :: ((s.drop 1).take 2 ++ 41 :: R) := by generalize (s.drop 1).take 2 = m at g4 ⊢; rw [g4]; simp
      rw [e]
      exact toks_mark 40 (by decide) _ _ (toks_nm _ g3 _ _ (Tl.par _) (toks_mark 41 (by decide) _ _ hT))
    · obtain ⟨g1, g2, g3, g4⟩ := mem8_toks s hs
      rw [g1, g2]
      have e : s ++ R = 91 :: ((s.drop 1).take 2 ++ 93 :: R) := by generalize (s.drop 1).take 2 = m at g4 ⊢; rw [g4]; simp
      rw [e]
      exact toks_mark 91 (by decide) _ _ (toks_nm _ g3 _ _ (Tl.bra _) (toks_mark 93 (by decide) _ _ hT))
  · rw [if_neg hm]
    unfold wordB at h
    rw [Bool.eq_false_iff.2 hm] at h
    simp only [Bool.false_or, Bool.and_eq_true] at h
    exact toks_nm s (res_great d s h.1) R us hR hT
/-- What a right operand is. -/
inductive ArF (d : Int) (op : List UInt8) : Ar → Prop
  | word (s : List UInt8) (h0 : s ≠ []) (h : wordB d s = true) : ArF d op ⟨s, [], false, false, ex0⟩
  | text (t : List UInt8) (ho : op = sDB) (h : t.any oddB = false) : ArF d op ⟨[], t, true, false, ex0⟩
  | expr (mem : Bool) (e : Ex) (hm : mem = true → d ≠ 0) (h : rightE e 24 = true) (hn : ∀ m ∈ namesE e, plainB d m = true) : ArF d op ⟨[], [], false, mem, e⟩
theorem rightA.form {d : Int} {op : List UInt8} {a : Ar} (h : rightA d op a = true) : ArF d op a := by
  obtain ⟨w, t, is, mem, e⟩ := a
  unfold rightA emptyA at h
  simp only at h
  by_cases h1 : w ≠ []
  · rw [if_pos h1] at h
    simp only [Bool.and_eq_true, Bool.not_eq_true', beq_iff_eq] at h
    obtain ⟨⟨⟨⟨g1, rfl⟩, rfl⟩, rfl⟩, g4⟩ := h
    obtain rfl := (sameE_iff e ex0).1 g1
    exact .word w h1 g4
  · rw [if_neg h1] at h
    obtain rfl : w = [] := by simpa using h1
    by_cases h2 : is = true
    · subst h2
      simp only [if_true, Bool.and_eq_true, Bool.not_eq_true', beq_iff_eq] at h
      obtain ⟨⟨⟨g1, rfl⟩, rfl⟩, g3⟩ := h
      obtain rfl := (sameE_iff e ex0).1 g1
      refine .text t rfl ?_
      have := quote_back t
      cases hh : t.any oddB with
      | false => rfl
      | true => rw [hh] at this; simp at this; rw [this] at g3; simp at g3
    · obtain rfl : is = false := by simpa using h2
      simp only [Bool.false_eq_true, if_false] at h
      by_cases h3 : t ≠ [] ∨ (mem = true ∧ d = 0) ∨ rightE e 24 = false
      · rw [if_pos h3] at h; cases h
      · rw [if_neg h3] at h
        simp only [not_or, not_and, Bool.not_eq_false, ne_eq, Decidable.not_not] at h3
        obtain ⟨rfl, g1, g2⟩ := h3
        exact .expr mem e g1 g2 (by simpa using h)
theorem toksA_toks (d : Int) (op : List UInt8) (a : Ar) (h : ArF d op a) (hf : fitE a.e = true) (R : List UInt8) (us : List Tok) (hR : Tl R) (hT : Toks R us) : Toks (showA d a ++ R) (toksA d a ++ us) := by
  cases h with
  | word s h0 h =>
    unfold showA toksA
    simp only [if_pos h0]
    exact toksW_toks d s h R us hR hT
  | text t ho h =>
    unfold showA toksA
    simp only [ne_eq, not_true_eq_false, if_false, if_true]
    exact toks_word (3, t, 0) (.inr (.inr (.inl ⟨rfl, h, rfl⟩))) R us hR hT
  | expr mem e hm h hn =>
    have hs := show_toks e 24 h 1
    have hg := toks_good e 24 h hf 1
    have hp := toks_pos e 24 h 1
    unfold showA toksA
    simp only [ne_eq, not_true_eq_false, if_false, if_true, Bool.false_eq_true, h]
    rw [hs]
    split
    · rw [List.append_assoc, List.append_assoc]
      have := toks_show _ hg hp _ _ (Tl.bra R) (toks_mark 93 (by decide) R us hT)
      simpa using toks_mark 91 (by decide) _ _ this
    · split
      · rw [List.append_assoc, List.append_assoc]
        have := toks_show _ hg hp _ _ (Tl.par R) (toks_mark 41 (by decide) R us hT)
        simpa using toks_mark 40 (by decide) _ _ this
      · exact toks_show _ hg hp R us hR hT
theorem inter_nil (x : UInt8) : [x].intercalate [] = [] := rfl
theorem inter_one (x : UInt8) (a : List UInt8) : [x].intercalate [a] = a := by simp [List.intercalate, List.intersperse]
theorem inter_cons (x : UInt8) (a b : List UInt8) (r : List (List UInt8)) : [x].intercalate (a :: b :: r) = a ++ x :: [x].intercalate (b :: r) := by simp [List.intercalate, List.intersperse]
theorem args_toks (d : Int) (op : List UInt8) (l : List Ar) (h : ∀ a ∈ l, ArF d op a) (hf : ∀ a ∈ l, fitE a.e = true) : Toks ([44].intercalate (l.map (showA d))) (joinP (4, [44], 0) (l.map (toksA d))) := by
  induction l with
  | nil => exact .nil
  | cons a l ih =>
    cases l with
    | nil =>
      show Toks ([44].intercalate [showA d a]) (toksA d a)
      rw [inter_one]
      have := toksA_toks d op a (h a (by simp)) (hf a (by simp)) [] [] Tl.nil .nil
      simpa using this
    | cons b l =>
      have g := ih (fun x hx => h x (List.mem_cons_of_mem _ hx)) (fun x hx => hf x (List.mem_cons_of_mem _ hx))
      show Toks ([44].intercalate (showA d a :: showA d b :: l.map (showA d))) (toksA d a ++ (4, [44], 0) :: joinP (4, [44], 0) (toksA d b :: l.map (toksA d)))
      rw [inter_cons]
      exact toksA_toks d op a (h a (by simp)) (hf a (by simp)) _ _ (Tl.com _) (toks_mark 44 (by decide) _ _ g)

/-- Nothing is cut within. -/
def Bal (p : List Tok) : Prop := ∀ d cur acc rest, cutF [44] (p ++ rest) d cur acc = cutF [44] rest d (cur ++ p) acc
theorem Bal.nil : Bal [] := fun d cur acc rest => by simp
theorem Bal.app {p q : List Tok} (hp : Bal p) (hq : Bal q) : Bal (p ++ q) := fun d cur acc rest => by rw [List.append_assoc, hp, hq, List.append_assoc]
theorem Bal.one {t : Tok} (h1 : isT t [[41], [93]] = false) (h2 : isT t [[40], [91]] = false) (h3 : isT t [[44]] = false) : Bal [t] := fun d cur acc rest => by
  rw [List.singleton_append, cutF_eq, h3]
  simp [d2F, d1F, h1, h2]
theorem Bal.paren {p : List Tok} (hp : Bal p) : Bal ((4, [40], 0) :: (p ++ [(4, [41], 0)])) := fun d cur acc rest => by
  have e : ((4, [40], 0) :: (p ++ [(4, [41], 0)]) : List Tok) ++ rest = (4, [40], 0) :: (p ++ ((4, [41], 0) :: rest)) := by simp
  rw [e, cutF_eq, if_neg (by simp [isT]), hp, cutF_eq, if_neg (by simp [isT])]
  simp [d2F, d1F, isT]
theorem Bal.brack {p : List Tok} (hp : Bal p) : Bal ((4, [91], 0) :: (p ++ [(4, [93], 0)])) := fun d cur acc rest => by
  have e : ((4, [91], 0) :: (p ++ [(4, [93], 0)]) : List Tok) ++ rest = (4, [91], 0) :: (p ++ ((4, [93], 0) :: rest)) := by simp
  rw [e, cutF_eq, if_neg (by simp [isT]), hp, cutF_eq, if_neg (by simp [isT])]
  simp [d2F, d1F, isT]
theorem Bal.op {o : List UInt8} {r : Nat} (ho : binO o r) : Bal [opT o] := by
  rcases ho with ⟨rfl, rfl | rfl | rfl | rfl | rfl⟩ | ⟨rfl, rfl | rfl⟩ | ⟨rfl, rfl⟩ | ⟨rfl, rfl | rfl⟩ <;> exact Bal.one (by decide) (by decide) (by decide)
theorem toksE_bal (e : Ex) : ∀ d, rightE e d = true → ∀ w, Bal (toksE e w) := by
  induction e using Ex.ind with
  | h o n m s ih =>
    intro d h w
    have hf := rightE.form h
    cases hf with
    | num n d => rw [toks_num]; exact Bal.one (by simp [isT]) (by simp [isT]) (by simp [isT])
    | name m d g1 g2 g3 => rw [toks_name]; exact Bal.one (by simp [isT]) (by simp [isT]) (by simp [isT])
    | here d => rw [toks_here]; exact Bal.one (by decide) (by decide) (by decide)
    | neg a d hA =>
      have g := ih a (by simp) d hA 6
      have g2 : Bal ((4, [45], 0) :: toksE a 6) := (Bal.one (t := (4, [45], 0)) (by decide) (by decide) (by decide)).app g
      rw [toks_neg]
      split
      · exact g2.paren
      · exact g2
    | not a d hA =>
      have g := ih a (by simp) d hA 3
      have g2 : Bal ((1, sNOT, 0) :: toksE a 3) := (Bal.one (t := (1, sNOT, 0)) (by decide) (by decide) (by decide)).app g
      rw [toks_not]
      split
      · exact g2.paren
      · exact g2
    | two o r a b d ho h1 h2 =>
      have ga := ih a (by simp) d h1 r
      have gb := ih b (by simp) d h2 (r + 1)
      have g2 : Bal (toksE a r ++ opT o :: toksE b (r + 1)) := ga.app ((Bal.op ho).app gb)
      rw [toks_two ho]
      split
      · exact g2.paren
      · exact g2
theorem toksW_bal (d : Int) (s : List UInt8) : Bal (toksW d s) := by
  unfold toksW
  by_cases hm : memB d s = true
  · rw [if_pos hm]
    rcases mem_form d s hm with ⟨_, hs⟩ | ⟨_, hs⟩
    · obtain ⟨g1, g2, _, _⟩ := memZ_toks s hs
      rw [g1, g2]
      exact (Bal.one (t := (1, (s.drop 1).take 2, 0)) (by simp [isT]) (by simp [isT]) (by simp [isT])).paren
    · obtain ⟨g1, g2, _, _⟩ := mem8_toks s hs
      rw [g1, g2]
      exact (Bal.one (t := (1, (s.drop 1).take 2, 0)) (by simp [isT]) (by simp [isT]) (by simp [isT])).brack
  · rw [if_neg hm]
    exact Bal.one (by simp [isT]) (by simp [isT]) (by simp [isT])
theorem toksA_bal (d : Int) (op : List UInt8) (a : Ar) (h : ArF d op a) : Bal (toksA d a) := by
  cases h with
  | word s h0 h => unfold toksA; simp only [if_pos h0]; exact toksW_bal d s
  | text t ho h => unfold toksA; simp only [ne_eq, not_true_eq_false, if_false, if_true]; exact Bal.one (by simp [isT]) (by simp [isT]) (by simp [isT])
  | expr mem e hm h hn =>
    have g := toksE_bal e 24 h 1
    unfold toksA
    simp only [ne_eq, not_true_eq_false, if_false, Bool.false_eq_true]
    split
    · exact g.brack
    · split
      · exact g.paren
      · exact g
theorem cut_joined (ps : List (List Tok)) (h : ∀ p ∈ ps, Bal p) (h0 : ps ≠ []) : ∀ acc, cutF [44] (joinP (4, [44], 0) ps) 0 [] acc = acc ++ ps := by
  induction ps with
  | nil => exact absurd rfl h0
  | cons p ps ih =>
    intro acc
    cases ps with
    | nil =>
      show cutF [44] p 0 [] acc = _
      have := h p (by simp) 0 [] acc []
      rw [List.append_nil] at this
      rw [this]
      simp [cutF]
    | cons q r =>
      show cutF [44] (p ++ (4, [44], 0) :: joinP (4, [44], 0) (q :: r)) 0 [] acc = _
      rw [h p (by simp), cutF_eq, if_pos (by simp [isT, d1F])]
      have e : d2F (4, [44], 0) 0 = 0 := by simp [d2F, d1F, isT]
      rw [e, ih (fun x hx => h x (List.mem_cons_of_mem _ hx)) (by simp)]
      simp
theorem toksA_pos (d : Int) (op : List UInt8) (a : Ar) (h : ArF d op a) : toksA d a ≠ [] := by
  cases h with
  | word s h0 h => unfold toksA toksW; simp only [if_pos h0]; split <;> simp
  | text t ho h => unfold toksA; simp
  | expr mem e hm h hn =>
    unfold toksA
    simp only [ne_eq, not_true_eq_false, if_false, Bool.false_eq_true]
    split
    · simp
    · split
      · simp
      · exact toks_pos e 24 h 1
theorem joinP_pos (c : Tok) (ps : List (List Tok)) (h : ∀ p ∈ ps, p ≠ []) (h0 : ps ≠ []) : joinP c ps ≠ [] := by
  cases ps with
  | nil => exact absurd rfl h0
  | cons p r =>
    have := h p (by simp)
    cases r with
    | nil => exact this
    | cons q r => show p ++ _ ≠ []; simp
theorem cut_args (d : Int) (op : List UInt8) (l : List Ar) (h : ∀ a ∈ l, ArF d op a) : cutL [44] (joinP (4, [44], 0) (l.map (toksA d))) = l.map (toksA d) := by
  cases l with
  | nil => rfl
  | cons a l =>
    unfold cutL
    rw [if_neg (joinP_pos _ _ (fun p hp => by obtain ⟨x, hx, rfl⟩ := List.mem_map.1 hp; exact toksA_pos d op x (h x hx)) (by simp))]
    rw [cut_joined _ (fun p hp => by obtain ⟨x, hx, rfl⟩ := List.mem_map.1 hp; exact toksA_bal d op x (h x hx)) (by simp)]
    rfl

/-- The depth is kept. -/
def Np (o c : List UInt8) (p : List Tok) : Prop := ∀ n rest, 1 ≤ n → rest ≠ [] → pairF o c (p ++ rest) n = pairF o c rest n
theorem pairF_cons (o c : List UInt8) (t : Tok) (rest : List Tok) (n : Int) (h : rest ≠ []) : pairF o c (t :: rest) n = if pd o c t n = 0 then false else pairF o c rest (pd o c t n) := by
  cases rest with
  | nil => exact absurd rfl h
  | cons u r => rfl
theorem Np.app {o c : List UInt8} {p q : List Tok} (hp : Np o c p) (hq : Np o c q) (h0 : q ≠ []) : Np o c (p ++ q) := fun n rest h1 h2 => by
  rw [List.append_assoc, hp n _ h1 (by simp [h0]), hq n _ h1 h2]
theorem Np.one {o c : List UInt8} {t : Tok} (h : t.1 = 4 → t.2.1 ≠ o ∧ t.2.1 ≠ c) : Np o c [t] := fun n rest h1 h2 => by
  have e : pd o c t n = n := by
    unfold pd
    rw [if_neg (fun hh => (h hh.1).1 hh.2), if_neg (fun hh => (h hh.1).2 hh.2)]
  rw [List.singleton_append, pairF_cons _ _ _ _ _ h2, e, if_neg (by omega)]
def okOC (o c : List UInt8) : Prop := (o = [40] ∧ c = [41]) ∨ (o = [91] ∧ c = [93])
theorem Np.paren {o c : List UInt8} (hoc : okOC o c) {p : List Tok} (hp : Np o c p) : Np o c ((4, [40], 0) :: (p ++ [(4, [41], 0)])) := fun n rest h1 h2 => by
  have e : ((4, [40], 0) :: (p ++ [(4, [41], 0)]) : List Tok) ++ rest = (4, [40], 0) :: (p ++ ((4, [41], 0) :: rest)) := by simp
  rcases hoc with ⟨rfl, rfl⟩ | ⟨rfl, rfl⟩
  · rw [e, pairF_cons _ _ _ _ _ (by simp), show pd [40] [41] (4, [40], 0) n = n + 1 by simp [pd], if_neg (by omega), hp _ _ (by omega) (by simp), pairF_cons _ _ _ _ _ h2, show pd [40] [41] (4, [41], 0) (n + 1) = n by simp [pd], if_neg (by omega)]
  · rw [e, pairF_cons _ _ _ _ _ (by simp), show pd [91] [93] (4, [40], 0) n = n by simp [pd], if_neg (by omega), hp _ _ (by omega) (by simp), pairF_cons _ _ _ _ _ h2, show pd [91] [93] (4, [41], 0) n = n by simp [pd], if_neg (by omega)]
theorem op_np {o c : List UInt8} (hoc : okOC o c) {x : List UInt8} {r : Nat} (ho : binO x r) : (opT x).1 = 4 → (opT x).2.1 ≠ o ∧ (opT x).2.1 ≠ c := by
  rcases hoc with ⟨rfl, rfl⟩ | ⟨rfl, rfl⟩ <;> rcases ho with ⟨rfl, rfl | rfl | rfl | rfl | rfl⟩ | ⟨rfl, rfl | rfl⟩ | ⟨rfl, rfl⟩ | ⟨rfl, rfl | rfl⟩ <;> decide
theorem toksE_np {o c : List UInt8} (hoc : okOC o c) (e : Ex) : ∀ d, rightE e d = true → ∀ w, Np o c (toksE e w) ∧ ∀ rest, rest ≠ [] → pairF o c (toksE e w ++ rest) 0 = false := by
  have hm : ∀ x : UInt8, x ≠ 40 → x ≠ 41 → x ≠ 91 → x ≠ 93 → ∀ t : Tok, t.2.1 = [x] → (t.1 = 4 → t.2.1 ≠ o ∧ t.2.1 ≠ c) := by
    intro x h1 h2 h3 h4 t ht _
    rw [ht]
    rcases hoc with ⟨rfl, rfl⟩ | ⟨rfl, rfl⟩ <;> simp [h1, h2, h3, h4]
  have z1 : ∀ (t : Tok) (rest : List Tok), (t.1 = 4 → t.2.1 ≠ o ∧ t.2.1 ≠ c) → rest ≠ [] → pairF o c (t :: rest) 0 = false := by
    intro t rest h h2
    have e : pd o c t 0 = 0 := by
      unfold pd
      rw [if_neg (fun hh => (h hh.1).1 hh.2), if_neg (fun hh => (h hh.1).2 hh.2)]
    rw [pairF_cons _ _ _ _ _ h2, e, if_pos rfl]
  have zp : ∀ (p rest : List Tok), Np o c p → rest ≠ [] → pairF o c ((4, [40], 0) :: (p ++ [(4, [41], 0)]) ++ rest) 0 = false := by
    intro p rest hp h2
    have e : ((4, [40], 0) :: (p ++ [(4, [41], 0)]) : List Tok) ++ rest = (4, [40], 0) :: (p ++ ((4, [41], 0) :: rest)) := by simp
    rcases hoc with ⟨rfl, rfl⟩ | ⟨rfl, rfl⟩
    · rw [e, pairF_cons _ _ _ _ _ (by simp), show pd [40] [41] (4, [40], 0) 0 = 1 by simp [pd], if_neg (by omega), hp _ _ (by omega) (by simp), pairF_cons _ _ _ _ _ h2, show pd [40] [41] (4, [41], 0) 1 = 0 by simp [pd], if_pos rfl]
    · rw [e, pairF_cons _ _ _ _ _ (by simp), show pd [91] [93] (4, [40], 0) 0 = 0 by simp [pd], if_pos rfl]
  induction e using Ex.ind with
  | h x n m s ih =>
    intro d h w
    have hf := rightE.form h
    cases hf with
    | num n d => rw [toks_num]; exact ⟨Np.one (by simp), fun rest hr => z1 _ _ (by simp) hr⟩
    | name m d g1 g2 g3 => rw [toks_name]; exact ⟨Np.one (by simp), fun rest hr => z1 _ _ (by simp) hr⟩
    | here d => rw [toks_here]; exact ⟨Np.one (hm 36 (by decide) (by decide) (by decide) (by decide) _ rfl), fun rest hr => z1 _ _ (hm 36 (by decide) (by decide) (by decide) (by decide) _ rfl) hr⟩
    | neg a d hA =>
      have g := ih a (by simp) d hA 6
      have h45 := hm 45 (by decide) (by decide) (by decide) (by decide) (4, [45], 0) rfl
      have g2 : Np o c ((4, [45], 0) :: toksE a 6) := (Np.one h45).app g.1 (toks_pos a d hA 6)
      rw [toks_neg]
      split
      · exact ⟨g2.paren hoc, fun rest hr => zp _ _ g2 hr⟩
      · exact ⟨g2, fun rest hr => z1 _ _ h45 (by simp [hr])⟩
    | not a d hA =>
      have g := ih a (by simp) d hA 3
      have g2 : Np o c ((1, sNOT, 0) :: toksE a 3) := (Np.one (t := (1, sNOT, 0)) (by simp)).app g.1 (toks_pos a d hA 3)
      rw [toks_not]
      split
      · exact ⟨g2.paren hoc, fun rest hr => zp _ _ g2 hr⟩
      · exact ⟨g2, fun rest hr => z1 _ _ (by simp) (by simp [hr])⟩
    | two x r a b d ho h1 h2 =>
      have ga := ih a (by simp) d h1 r
      have gb := ih b (by simp) d h2 (r + 1)
      have g2 : Np o c (toksE a r ++ opT x :: toksE b (r + 1)) := ga.1.app ((Np.one (op_np hoc ho)).app gb.1 (toks_pos b d h2 _)) (by simp)
      rw [toks_two ho]
      split
      · exact ⟨g2.paren hoc, fun rest hr => zp _ _ g2 hr⟩
      · exact ⟨g2, fun rest hr => by rw [List.append_assoc]; exact ga.2 _ (by simp)⟩
end Go.Proofs.YtpcpjghfcimblaaGreatDoor
/- A right statement's text is read as the same statement: the operands, the whole. -/
namespace Go.Proofs.YtpcpjghfcimblaaGreatDoor

theorem markT_0 (t : Tok) (r : List Tok) (s : List UInt8) : markT (t :: r) 0 s = (decide (t.1 = 4) && decide (t.2.1 = s)) := by simp [markT]
theorem pairT_expr {o c : List UInt8} (hoc : okOC o c) (e : Ex) (h : rightE e 24 = true) : pairT (toksE e 1) o c = false := by
  have hm : ∀ x : UInt8, x ≠ 40 → x ≠ 91 → ∀ r : List Tok, markT ((4, [x], 0) :: r) 0 o = false := by
    intro x h1 h2 r
    rw [markT_0]
    rcases hoc with ⟨rfl, rfl⟩ | ⟨rfl, rfl⟩ <;> simp [h1, h2]
  have hf := rightE.form h
  unfold pairT
  cases hf with
  | num n d => simp [toks_num]
  | name m d g1 g2 g3 => simp [toks_name]
  | here d => simp [toks_here]
  | neg a d hA => rw [toks_neg, if_neg (by omega), hm 45 (by decide) (by decide)]; simp
  | not a d hA => rw [toks_not, if_neg (by omega), markT_0]; simp
  | two x r a b d ho h1 h2 =>
    have hr : 1 ≤ r := by rcases ho with h | h | h | h <;> omega
    rw [toks_two ho, if_neg (by omega), (toksE_np hoc a _ h1 r).2 _ (by simp)]
    simp
theorem getD_last (p : List Tok) (t u : Tok) : (u :: (p ++ [t])).getD ((u :: (p ++ [t])).length - 1) tok0 = t := by
  simp [List.getD_eq_getElem?_getD]
theorem midT_mk (p : List Tok) (t u : Tok) : midT (u :: (p ++ [t])) = p := by simp [midT]
theorem encT_mk (p : List Tok) (t u : Tok) (s : List UInt8) : encT (u :: (p ++ [t])) s = u.2.1 ++ s ++ t.2.1 := by
  unfold encT
  rw [getD_last]
  simp
theorem pairT_mk {o c : List UInt8} (p : List Tok) (hp : Np o c p) : pairT ((4, o, 0) :: (p ++ [(4, c, 0)])) o c = true := by
  have h1 : markT ((4, o, 0) :: (p ++ [(4, c, 0)])) 0 o = true := by rw [markT_0]; simp
  have h2 : markT ((4, o, 0) :: (p ++ [(4, c, 0)])) (((4, o, 0) :: (p ++ [(4, c, 0)])).length - 1) c = true := by
    unfold markT
    rw [getD_last]
    simp
  have h3 : pairF o c ((4, o, 0) :: (p ++ [(4, c, 0)])) 0 = true := by
    rw [pairF_cons _ _ _ _ _ (by simp), show pd o c (4, o, 0) 0 = 1 by simp [pd], if_neg (by omega), hp _ _ (by omega) (by simp)]
    rfl
  unfold pairT
  rw [h1, h2, h3]
  simp
theorem pairT_one (t : Tok) (o c : List UInt8) : pairT [t] o c = false := by simp [pairT]
theorem intel_let : ∀ s ∈ intelW, s.headD 0 ≠ 40 ∧ s.headD 0 ≠ 91 := by decide +kernel
theorem zilog_let : ∀ s ∈ zilogW, s.headD 0 ≠ 40 ∧ s.headD 0 ≠ 91 := by decide +kernel
theorem eight_let : ∀ s ∈ eightW, s.headD 0 ≠ 40 ∧ s.headD 0 ≠ 91 := by decide +kernel
theorem res_let (d : Int) (s : List UInt8) (h : resB d s = true) : s.headD 0 ≠ 40 ∧ s.headD 0 ≠ 91 := by
  unfold resB at h
  split at h
  · exact intel_let s (of_decide_eq_true h)
  · split at h
    · exact zilog_let s (of_decide_eq_true h)
    · split at h
      · exact eight_let s (of_decide_eq_true h)
      · cases h
theorem memZ_res : ∀ s ∈ memZ, (s.drop 1).take (s.length - 2) ∈ zilogW := by decide +kernel
theorem mem8_res : ∀ s ∈ mem8, (s.drop 1).take (s.length - 2) ∈ eightW := by decide +kernel
theorem memZ_head : ∀ s ∈ memZ, s.headD 0 = 40 := by decide +kernel
theorem mem8_head : ∀ s ∈ mem8, s.headD 0 = 91 := by decide +kernel
theorem plain_not {d : Int} {m : List UInt8} (h : plainB d m = true) : greatB m = true ∧ resB d m = false ∧ setsB m = false := by
  unfold plainB at h
  simpa [and_assoc] using h
/-- A plain name is no word, and none in parentheses or brackets. -/
theorem great_head (m : List UInt8) (h : greatB m = true) : m.headD 0 ≠ 40 ∧ m.headD 0 ≠ 91 := by
  unfold greatB nameB at h
  simp only [Bool.and_eq_true] at h
  have hl := h.1.1.2
  constructor
  · intro h2; rw [h2] at hl; revert hl; decide
  · intro h2; rw [h2] at hl; revert hl; decide
theorem plain_word {d : Int} {m : List UInt8} (h : plainB d m = true) : wordB d m = false := by
  obtain ⟨h1, h2, h3⟩ := plain_not h
  have hh := great_head m h1
  unfold wordB
  rw [h2]
  cases hm : memB d m with
  | false => rfl
  | true =>
    rcases mem_form d m hm with ⟨_, hs⟩ | ⟨_, hs⟩
    · exact absurd (memZ_head m hs) hh.1
    · exact absurd (mem8_head m hs) hh.2
theorem plain_enc {d : Int} {m : List UInt8} (h : plainB d m = true) {o c : UInt8} (hoc : (o = 40 ∧ c = 41) ∨ (o = 91 ∧ c = 93)) : wordB d ([o] ++ m ++ [c]) = false := by
  obtain ⟨h1, h2, h3⟩ := plain_not h
  have e : (([o] ++ m ++ [c]).drop 1).take (([o] ++ m ++ [c]).length - 2) = m := by simp
  have hr : resB d ([o] ++ m ++ [c]) = false := by
    cases hh : resB d ([o] ++ m ++ [c]) with
    | false => rfl
    | true =>
      have := res_let d _ hh
      rcases hoc with ⟨rfl, rfl⟩ | ⟨rfl, rfl⟩ <;> simp at this
  unfold wordB
  rw [hr]
  cases hm : memB d ([o] ++ m ++ [c]) with
  | false => rfl
  | true =>
    rcases mem_form d _ hm with ⟨rfl, hs⟩ | ⟨rfl, hs⟩
    · have := memZ_res _ hs
      rw [e] at this
      simp [resB, this] at h2
    · have := mem8_res _ hs
      rw [e] at this
      simp [resB, this] at h2
/-- One token alone. -/
theorem toksE_one (e : Ex) (h : rightE e 24 = true) (hl : (toksE e 1).length = 1) : (toksE e 1).getD 0 tok0 = (2, [], e.n) ∨ (toksE e 1).getD 0 tok0 = (4, sHere, 0) ∨ (∃ m ∈ namesE e, (toksE e 1).getD 0 tok0 = (1, m, 0)) := by
  have hf := rightE.form h
  cases hf with
  | num n d => left; rfl
  | name m d g1 g2 g3 => right; right; exact ⟨m, by simp [namesE], rfl⟩
  | here d => right; left; rfl
  | neg a d hA =>
    have := toks_pos a _ hA 6
    rw [toks_neg, if_neg (by omega)] at hl
    simp at hl
    exact absurd hl this
  | not a d hA =>
    have := toks_pos a _ hA 3
    rw [toks_not, if_neg (by omega)] at hl
    simp at hl
    exact absurd hl this
  | two x r a b d ho h1 h2 =>
    have hr : 1 ≤ r := by rcases ho with h | h | h | h <;> omega
    have p1 := toks_pos a _ h1 r
    have p2 := toks_pos b _ h2 (r + 1)
    rw [toks_two ho, if_neg (by omega)] at hl
    simp at hl
    have q1 : 1 ≤ (toksE a r).length := List.length_pos_iff.2 p1
    have q2 : 1 ≤ (toksE b (r + 1)).length := List.length_pos_iff.2 p2
    omega
theorem operand_back (d : Int) (hd : knownB d = true) (op : List UInt8) (a : Ar) (h : ArF d op a) : operandL d op (toksA d a) = (a, 0) := by
  cases h with
  | word s h0 h =>
    unfold toksA
    simp only [if_pos h0]
    unfold toksW
    by_cases hm : memB d s = true
    · rw [if_pos hm]
      rcases mem_form d s hm with ⟨rfl, hs⟩ | ⟨rfl, hs⟩
      · obtain ⟨g1, g2, g3, g4⟩ := memZ_toks s hs
        rw [g1, g2]
        generalize (s.drop 1).take 2 = m at *
        subst g4
        have hp : pairT [(4, [40], 0), (1, m, 0), (4, [41], 0)] [40] [41] = true := pairT_mk [(1, m, 0)] (Np.one (by simp))
        have hi : inMem 1 [(4, [40], 0), (1, m, 0), (4, [41], 0)] = true := by simp [inMem, hp]
        have hmid : midT [(4, [40], 0), (1, m, 0), (4, [41], 0)] = [(1, m, 0)] := midT_mk [(1, m, 0)] _ _
        have henc : ∀ s, encT [(4, [40], 0), (1, m, 0), (4, [41], 0)] s = [40] ++ s ++ [41] := fun s => encT_mk [(1, m, 0)] _ _ s
        unfold operandL
        rw [if_neg (by simp), if_neg (by simp), if_neg (by simp), if_pos hi, hmid, if_pos ⟨rfl, rfl, by rw [henc]; exact h⟩, henc]
        rfl
      · obtain ⟨g1, g2, g3, g4⟩ := mem8_toks s hs
        rw [g1, g2]
        generalize (s.drop 1).take 2 = m at *
        subst g4
        have hp : pairT [(4, [91], 0), (1, m, 0), (4, [93], 0)] [91] [93] = true := pairT_mk [(1, m, 0)] (Np.one (by simp))
        have hi : inMem 2 [(4, [91], 0), (1, m, 0), (4, [93], 0)] = true := by simp [inMem, hp]
        have hmid : midT [(4, [91], 0), (1, m, 0), (4, [93], 0)] = [(1, m, 0)] := midT_mk [(1, m, 0)] _ _
        have henc : ∀ s, encT [(4, [91], 0), (1, m, 0), (4, [93], 0)] s = [91] ++ s ++ [93] := fun s => encT_mk [(1, m, 0)] _ _ s
        unfold operandL
        rw [if_neg (by simp), if_neg (by simp), if_neg (by simp), if_pos hi, hmid, if_pos ⟨rfl, rfl, by rw [henc]; exact h⟩, henc]
        rfl
    · rw [if_neg hm]
      unfold operandL
      rw [if_neg (by simp), if_neg (by simp), if_pos ⟨rfl, rfl, h⟩]
      rfl
  | text t ho h =>
    unfold toksA operandL
    simp only [ne_eq, not_true_eq_false, if_false, if_true]
    rw [if_neg (by simp), if_pos ⟨rfl, rfl, ho⟩]
    rfl
  | expr mem e hm h hn =>
    have hall := all_toks e h
    have hone := toksE_one e h
    have hpos := toks_pos e 24 h 1
    unfold toksA
    simp only [ne_eq, not_true_eq_false, if_false, Bool.false_eq_true]
    have inner : ∀ o c : UInt8, ((o = 40 ∧ c = 41 ∧ d = 1) ∨ (o = 91 ∧ c = 93 ∧ d = 2)) → mem = true → operandL d op ((4, [o], 0) :: (toksE e 1 ++ [(4, [c], 0)])) = (⟨[], [], false, mem, e⟩, 0) := by
      intro o c hoc hmem
      have hoc1 : okOC [o] [c] := by rcases hoc with ⟨rfl, rfl, _⟩ | ⟨rfl, rfl, _⟩ <;> simp [okOC]
      have hoc2 : (o = 40 ∧ c = 41) ∨ (o = 91 ∧ c = 93) := by rcases hoc with ⟨rfl, rfl, _⟩ | ⟨rfl, rfl, _⟩ <;> simp
      have hp := pairT_mk _ (toksE_np hoc1 e 24 h 1).1
      have hi : inMem d ((4, [o], 0) :: (toksE e 1 ++ [(4, [c], 0)])) = true := by
        rcases hoc with ⟨rfl, rfl, rfl⟩ | ⟨rfl, rfl, rfl⟩ <;> simp [inMem, hp]
      have hlen : ((4, [o], 0) :: (toksE e 1 ++ [(4, [c], 0)]) : List Tok).length ≠ 1 := by simp
      unfold operandL
      rw [if_neg (by simp), if_neg (fun hh => hlen hh.1), if_neg (fun hh => hlen hh.1), if_pos hi, midT_mk, if_neg, hall, hmem]
      rintro ⟨g1, g2, g3⟩
      rw [encT_mk] at g3
      rcases hone g1 with h1 | h1 | ⟨m, hm, h1⟩
      · rw [h1] at g2; simp at g2
      · rw [h1] at g2; simp at g2
      · rw [h1] at g3
        have := plain_enc (hn m hm) hoc2
        rw [this] at g3
        cases g3
    split
    · rename_i hc
      exact inner 91 93 (.inr ⟨rfl, rfl, hc.2⟩) hc.1
    · split
      · rename_i h1 h2
        have h3 := hm h2
        unfold knownB at hd
        simp at hd
        exact inner 40 41 (.inl ⟨rfl, rfl, by have : d ≠ 2 := fun h => h1 ⟨h2, h⟩; omega⟩) h2
      · rename_i h1 h2
        obtain rfl : mem = false := by simpa using h2
        have hi : inMem d (toksE e 1) = false := by
          unfold inMem
          rw [pairT_expr (.inl ⟨rfl, rfl⟩) e h, pairT_expr (.inr ⟨rfl, rfl⟩) e h]
          simp
        unfold operandL
        rw [if_neg hpos, if_neg, if_neg, if_neg (by rw [hi]; simp), hall]
        · rintro ⟨g1, g2, g3⟩
          rcases hone g1 with h1 | h1 | ⟨m, hm, h1⟩
          · rw [h1] at g2; simp at g2
          · rw [h1] at g2; simp at g2
          · rw [h1] at g3
            rw [plain_word (hn m hm)] at g3
            cases g3
        · rintro ⟨g1, g2, g3⟩
          rcases hone g1 with h1 | h1 | ⟨m, hm, h1⟩ <;> (rw [h1] at g2; simp at g2)
theorem args_back (d : Int) (hd : knownB d = true) (op : List UInt8) (l : List Ar) (h : ∀ a ∈ l, ArF d op a) : ∀ acc, argsL d op (l.map (toksA d)) acc = (acc ++ l, 0) := by
  induction l with
  | nil => intro acc; simp [argsL]
  | cons a l ih =>
    intro acc
    have e := operand_back d hd op a (h a (by simp))
    show argsL d op (toksA d a :: l.map (toksA d)) acc = _
    unfold argsL
    rw [e, if_neg (by simp), ih (fun x hx => h x (List.mem_cons_of_mem _ hx))]
    simp
/-- The first token is no colon and no EQU or SET. -/
def okH (t : Tok) : Prop := (t.1 = 4 → t.2.1 ≠ [58]) ∧ (t.1 = 1 → setsB t.2.1 = false)
theorem toksE_head (e : Ex) : ∀ d w, rightE e d = true → (∀ m ∈ namesE e, setsB m = false) → ∃ t r, toksE e w = t :: r ∧ okH t := by
  induction e using Ex.ind with
  | h x n m s ih =>
    intro d w h hn
    have hf := rightE.form h
    have hp : okH (4, [40], 0) := ⟨by simp, by simp⟩
    cases hf with
    | num n d => exact ⟨_, _, rfl, by simp [okH]⟩
    | name m d g1 g2 g3 => exact ⟨_, _, rfl, by simp [okH, hn m (by simp [namesE])]⟩
    | here d => exact ⟨_, _, rfl, by simp [okH]⟩
    | neg a d hA =>
      rw [toks_neg]
      split
      · exact ⟨_, _, rfl, hp⟩
      · exact ⟨_, _, rfl, by simp [okH]⟩
    | not a d hA =>
      rw [toks_not]
      split
      · exact ⟨_, _, rfl, hp⟩
      · exact ⟨_, _, rfl, by simp [okH, setsB]⟩
    | two x r a b d ho h1 h2 =>
      obtain ⟨t, q, e1, e2⟩ := ih a (by simp) d r h1 (fun m hm => hn m (by simp [namesE, namesL, hm]))
      rw [toks_two ho]
      split
      · exact ⟨_, _, rfl, hp⟩
      · rw [e1]; exact ⟨_, _, rfl, e2⟩
theorem intel_sets : ∀ s ∈ intelW, setsB s = false := by decide +kernel
theorem zilog_sets : ∀ s ∈ zilogW, setsB s = false := by decide +kernel
theorem eight_sets : ∀ s ∈ eightW, setsB s = false := by decide +kernel
theorem res_sets (d : Int) (s : List UInt8) (h : resB d s = true) : setsB s = false := by
  unfold resB at h
  split at h
  · exact intel_sets s (of_decide_eq_true h)
  · split at h
    · exact zilog_sets s (of_decide_eq_true h)
    · split at h
      · exact eight_sets s (of_decide_eq_true h)
      · cases h
theorem toksA_head (d : Int) (op : List UInt8) (a : Ar) (h : ArF d op a) : ∃ t r, toksA d a = t :: r ∧ okH t := by
  cases h with
  | word s h0 h =>
    unfold toksA toksW
    simp only [if_pos h0]
    by_cases hm : memB d s = true
    · rw [if_pos hm]
      rcases mem_form d s hm with ⟨_, hs⟩ | ⟨_, hs⟩
      · rw [(memZ_toks s hs).1]; exact ⟨_, _, rfl, by simp [okH]⟩
      · rw [(mem8_toks s hs).1]; exact ⟨_, _, rfl, by simp [okH]⟩
    · rw [if_neg hm]
      unfold wordB at h
      rw [Bool.eq_false_iff.2 hm] at h
      simp only [Bool.false_or, Bool.and_eq_true] at h
      exact ⟨_, _, rfl, by simp [okH, res_sets d s h.1]⟩
  | text t ho h => exact ⟨_, _, rfl, by simp [okH]⟩
  | expr mem e hm h hn =>
    unfold toksA
    simp only [ne_eq, not_true_eq_false, if_false, Bool.false_eq_true]
    split
    · exact ⟨_, _, rfl, by simp [okH]⟩
    · split
      · exact ⟨_, _, rfl, by simp [okH]⟩
      · exact toksE_head e 24 1 h (fun m hm => (plain_not (hn m hm)).2.2)
theorem showA_pos (d : Int) (op : List UInt8) (a : Ar) (h : ArF d op a) (hf : fitE a.e = true) : showA d a ≠ [] := by
  intro h0
  have := toksA_toks d op a h hf [] [] Tl.nil .nil
  rw [h0] at this
  simp at this
  have hp := toksA_pos d op a h
  generalize toksA d a = ts at *
  cases this
  exact hp rfl
theorem inter_pos (x : UInt8) (l : List (List UInt8)) (h : ∀ a ∈ l, a ≠ []) (h0 : l ≠ []) : [x].intercalate l ≠ [] := by
  cases l with
  | nil => exact absurd rfl h0
  | cons a r =>
    have := h a (by simp)
    cases r with
    | nil => rw [inter_one]; exact this
    | cons b r => rw [inter_cons]; simp
/-- What a right statement is. -/
structure StF (d : Int) (s : St) : Prop where
  known : knownB d = true
  lab : s.label ≠ [] → plainB d s.label = true
  op0 : s.op = [] → s.args = []
  op1 : s.op ≠ [] → greatB s.op = true
  sets : setsB s.op = true → s.label ≠ []
  colon : s.colon = (!s.label.isEmpty && !setsB s.op)
  few : s.args.length ≤ 32
  args : ∀ a ∈ s.args, ArF d s.op a
theorem rightS.form {d : Int} {s : St} (h : rightS d s = 0) : StF d s := by
  unfold rightS at h
  split at h
  · cases h
  · rename_i h1
    split at h
    · cases h
    · rename_i h2
      split at h
      · cases h
      · rename_i h3
        split at h
        · cases h
        · rename_i h4
          split at h
          · cases h
          · rename_i h5
            simp only [not_or, not_and, Bool.not_eq_false, ne_eq, Decidable.not_not] at h1 h2 h3 h4 h5
            refine ⟨h1, h2, h3.1, h3.2, fun g => h4.1 g, h4.2.1, by omega, fun a ha => rightA.form ?_⟩
            exact List.all_eq_true.1 h5 a ha
/-- All tokens of a statement. -/
def toksO (d : Int) (s : St) : List Tok := if s.op = [] then [] else (1, s.op, 0) :: joinP (4, [44], 0) (s.args.map (toksA d))
def toksS (d : Int) (s : St) : List Tok := (if s.label = [] then [] else if s.colon then [(1, s.label, 0), (4, [58], 0)] else [(1, s.label, 0)]) ++ toksO d s
def restS (d : Int) (s : St) : List UInt8 := if s.op = [] then [] else if s.args = [] then s.op else s.op ++ 32 :: [44].intercalate (s.args.map (showA d))
theorem rest_toks (d : Int) (s : St) (h : StF d s) (hf : ∀ a ∈ s.args, fitE a.e = true) : Toks (restS d s) (toksO d s) := by
  unfold restS toksO
  split
  · exact .nil
  · rename_i h0
    split
    · rename_i h1
      rw [h1]
      have := toks_nm s.op (h.op1 h0) [] [] Tl.nil .nil
      simpa [joinP] using this
    · exact toks_nm s.op (h.op1 h0) _ _ (Tl.sp _) (.space 32 _ _ (.inl rfl) (args_toks d s.op s.args h.args hf))
theorem text_form (d : Int) (s : St) (h : StF d s) (hf : ∀ a ∈ s.args, fitE a.e = true) : textS d s = if s.label = [] then restS d s else if restS d s = [] then labS s else labS s ++ 32 :: restS d s := by
  have hj : s.args ≠ [] → [44].intercalate (s.args.map (showA d)) ≠ [] := fun h0 => inter_pos 44 _ (fun x hx => by obtain ⟨a, ha, rfl⟩ := List.mem_map.1 hx; exact showA_pos d s.op a (h.args a ha) (hf a ha)) (by simpa using h0)
  have hl : s.label = [] → labS s = [] := fun h0 => by have := h.colon; rw [h0] at this; simp at this; simp [labS, this, h0]
  have hl2 : s.label ≠ [] → labS s ≠ [] := fun h0 => by unfold labS; split <;> simp [h0]
  unfold textS wordsS restS
  by_cases h1 : s.label = []
  · rw [hl h1]
    by_cases h2 : s.op = []
    · simp [h1, h2, h.op0 h2]
    · by_cases h3 : s.args = []
      · simp [h1, h2, h3]
      · simp [h1, h2, h3, hj h3]
  · by_cases h2 : s.op = []
    · simp [h1, h2, h.op0 h2, hl2 h1]
    · by_cases h3 : s.args = []
      · simp [h1, h2, h3, hl2 h1]
      · simp [h1, h2, h3, hj h3, hl2 h1]
theorem text_toks (d : Int) (s : St) (h : StF d s) (hf : ∀ a ∈ s.args, fitE a.e = true) : Toks (textS d s) (toksS d s) := by
  rw [text_form d s h hf]
  have hr := rest_toks d s h hf
  unfold toksS
  by_cases h1 : s.label = []
  · rw [if_pos h1, if_pos h1]; exact hr
  · rw [if_neg h1, if_neg h1]
    have hg := (plain_not (h.lab h1)).1
    have main : ∀ (R : List UInt8) (us : List Tok), Tl R → Toks R us → Toks (labS s ++ R) ((if s.colon then [(1, s.label, 0), (4, [58], 0)] else [(1, s.label, 0)]) ++ us) := by
      intro R us hR hT
      unfold labS
      split
      · rw [List.append_assoc]
        exact toks_nm _ hg _ _ (Tl.col _) (toks_mark 58 (by decide) _ _ hT)
      · exact toks_nm _ hg _ _ hR hT
    split
    · rename_i h2
      rw [h2] at hr
      generalize toksO d s = T at *
      cases hr
      have := main [] [] Tl.nil .nil
      simpa using this
    · exact main _ _ (Tl.sp _) (.space 32 _ _ (.inl rfl) hr)
theorem head_back (d : Int) (s : St) (h : StF d s) : headS (toksS d s) = (s.label, s.colon, toksO d s) := by
  have hc := h.colon
  unfold toksS
  by_cases h1 : s.label = []
  · rw [if_pos h1]
    rw [h1] at hc ⊢
    simp only [List.isEmpty_nil, Bool.not_true, Bool.false_and] at hc
    rw [hc, List.nil_append]
    unfold toksO
    by_cases h2 : s.op = []
    · rw [if_pos h2]; rfl
    · rw [if_neg h2]
      have hse : setsB s.op = false := by
        cases hh : setsB s.op with
        | false => rfl
        | true => exact absurd h1 (h.sets hh)
      by_cases h3 : s.args = []
      · rw [h3]
        simp [headS, nameT, markT, joinP]
      · obtain ⟨a, l, ha⟩ : ∃ a l, s.args = a :: l := by
          cases hh : s.args with
          | nil => exact absurd hh h3
          | cons a l => exact ⟨a, l, rfl⟩
        obtain ⟨t, r, e1, e2, e3⟩ := toksA_head d s.op a (h.args a (by simp [ha]))
        obtain ⟨q, e4⟩ : ∃ q, joinP (4, [44], 0) (s.args.map (toksA d)) = t :: q := by
          rw [ha]
          cases l with
          | nil => exact ⟨r, by simp [joinP, e1]⟩
          | cons b l => exact ⟨_, by simp [joinP, e1]; rfl⟩
        rw [e4]
        have m1 : markT ((1, s.op, 0) :: t :: q) 1 [58] = false := by
          simp only [markT]
          by_cases g : t.1 = 4
          · simp [g, e2 g]
          · simp [g]
        have m2 : (nameT ((1, s.op, 0) :: t :: q) 1 && setsB (((1, s.op, 0) :: t :: q : List Tok).getD 1 tok0).2.1) = false := by
          simp only [nameT]
          by_cases g : t.1 = 1
          · simp [e3 g]
          · simp [g]
        unfold headS
        rw [m1, Bool.and_false, if_neg (by simp), Bool.and_assoc, m2, Bool.and_false, if_neg (by simp)]
  · rw [if_neg h1]
    by_cases h2 : s.colon = true
    · rw [h2]
      simp [headS, nameT, markT]
    · have h2' : s.colon = false := by simpa using h2
      rw [h2'] at hc ⊢
      have hse : setsB s.op = true := by
        cases hh : setsB s.op with
        | true => rfl
        | false => rw [hh] at hc; simp [h1] at hc
      have h3 : s.op ≠ [] := by intro h0; rw [h0] at hse; revert hse; decide
      unfold toksO
      rw [if_neg h3]
      simp [headS, nameT, markT, hse]
/-- A right statement's text is read as the same statement. -/
theorem parse_text (d : Int) (s : St) (h : rightS d s = 0) (hf : ∀ a ∈ s.args, fitE a.e = true) (hl : (textS d s).length ≤ 200) : parseS d (textS d s) = (s, 0) := by
  have hF := rightS.form h
  have hT := toks_lineL _ _ (text_toks d s hF hf) hl
  have hH := head_back d s hF
  unfold parseS
  rw [if_neg (by rw [hF.known]; simp), hT, if_neg (by simp)]
  simp only [hH]
  unfold bodyS toksO
  by_cases h1 : s.op = []
  · rw [if_pos h1, if_pos rfl]
    unfold endS
    have e : (⟨s.label, s.colon, [], []⟩ : St) = s := by
      obtain ⟨a, b, c, e⟩ := s
      simp only at h1
      have := hF.op0 h1
      simp only at this
      rw [h1, this]
    rw [e, h]
    simp
  · rw [if_neg h1, if_neg (by simp), if_neg (by simp [nameT])]
    have e1 : ((1, s.op, 0) :: joinP (4, [44], 0) (s.args.map (toksA d)) : List Tok).drop 1 = joinP (4, [44], 0) (s.args.map (toksA d)) := rfl
    have e2 : (((1, s.op, 0) :: joinP (4, [44], 0) (s.args.map (toksA d)) : List Tok).getD 0 tok0).2.1 = s.op := rfl
    have hfew := hF.few
    rw [e1, e2, cut_args d s.op s.args hF.args, if_neg (by simp; omega), args_back d hF.known s.op s.args hF.args, if_neg (by simp)]
    unfold endS
    have e : (⟨s.label, s.colon, s.op, [] ++ s.args⟩ : St) = s := by simp
    simp only [e, h]
    simp
end Go.Proofs.YtpcpjghfcimblaaGreatDoor
/- What is read fits. -/
namespace Go.Proofs.YtpcpjghfcimblaaGreatDoor

def okT (ts : List Tok) : Prop := ∀ t ∈ ts, t.2.2 ≤ 65535 ∧ t.2.1.length ≤ 1000
theorem okT.drop {ts : List Tok} (h : okT ts) (n : Nat) : okT (ts.drop n) := fun t ht => h t (List.mem_of_mem_drop ht)
theorem okT.take {ts : List Tok} (h : okT ts) (n : Nat) : okT (ts.take n) := fun t ht => h t (List.mem_of_mem_take ht)
theorem atT_len {ts : List Tok} {k : Int} {ls : List (List UInt8)} {o : List UInt8} (h : atT ts k ls = some o) : o ∈ ls := by
  cases ts with
  | nil => cases h
  | cons t r =>
    rw [atT_cons] at h
    split at h
    · rename_i hh; injection h with h; rw [← h]; exact hh.2
    · cases h
theorem operT_len {r : Nat} {ts : List Tok} {o : List UInt8} (h : operT r ts = some o) : o.length ≤ 1000 := by
  have key : ∀ ls : List (List UInt8), (∀ x ∈ ls, x.length ≤ 1000) → ∀ k, atT ts k ls = some o → o.length ≤ 1000 := fun ls hls k hh => hls o (atT_len hh)
  unfold operT at h
  split at h
  · exact key _ (by decide) _ h
  · split at h
    · exact key _ (by decide) _ h
    · split at h
      · exact key _ (by decide) _ h
      · split at h
        · rename_i o' ho'
          injection h with h
          subst h
          exact key _ (by decide) _ ho'
        · exact key _ (by decide) _ h
theorem fit_mk (o : List UInt8) (n : Nat) (m : List UInt8) (s : List Ex) (h1 : o.length ≤ 1000) (h2 : n ≤ 65535) (h3 : m.length ≤ 1000) (h4 : fitL s = true) : fitE (.mk o n m s) = true := by
  simp [fitE, h1, h2, h3, h4]
theorem fit_one {e : Ex} (h : fitE e = true) : fitL [e] = true := by simp [fitL, h]
theorem fit_two {a b : Ex} (h : fitE a = true) (h' : fitE b = true) : fitL [a, b] = true := by simp [fitL, h, h']
theorem fit_ex0 : fitE ex0 = true := by decide
theorem ts_fail (s : PS) (k : Nat) : (s.fail k).ts = s.ts := by unfold PS.fail; split <;> rfl
theorem ts_skip (s : PS) : s.skip.ts = s.ts.drop 1 := rfl
def Fit (p : Ex × PS) : Prop := fitE p.1 = true ∧ okT p.2.ts
theorem Fit.fail {s : PS} (h : okT s.ts) (k : Nat) : Fit (ex0, s.fail k) := ⟨fit_ex0, by rw [ts_fail]; exact h⟩
theorem wIn_fit {go : PS → Ex × PS} (h : ∀ s, okT s.ts → Fit (go s)) (s : PS) (hs : okT s.ts) : Fit (wIn go s) := by
  unfold wIn
  simp only
  split
  · exact Fit.fail (s := { s with op := s.op + 1 }) hs 11
  · exact h _ hs
theorem atom_fit {go : PS → Ex × PS} (h : ∀ s, okT s.ts → Fit (go s)) (s : PS) (hs : okT s.ts) : Fit (atomP go s) := by
  have hk : okT s.skip.ts := hs.drop 1
  unfold atomP
  split
  · exact Fit.fail hs 2
  · rename_i t r hts
    have ht := hs t (by rw [hts]; simp)
    split
    · split
      · exact Fit.fail hk 2
      · exact ⟨fit_mk _ _ _ _ (by decide) (by omega) ht.2 rfl, hk⟩
    · split
      · exact ⟨fit_mk _ _ _ _ (by decide) ht.1 (by simp) rfl, hk⟩
      · split
        · split
          · exact ⟨fit_mk _ _ _ _ (by decide) (valueL_le _).2 (by simp) rfl, hk⟩
          · exact Fit.fail hk _
        · split
          · split
            · exact ⟨fit_mk _ _ _ _ (by decide) (by omega) (by simp) rfl, hk⟩
            · split
              · have hw := wIn_fit h s.skip hk
                simp only
                split
                · exact ⟨hw.1, hw.2.drop 1⟩
                · exact Fit.fail hw.2 2
              · exact Fit.fail hk 2
          · exact Fit.fail hk 2
theorem pP_fit : ∀ f, (∀ r s, okT s.ts → Fit (pP f r s)) ∧ (∀ r e s, fitE e = true → okT s.ts → Fit (lP f r e s)) := by
  intro f
  induction f with
  | zero => exact ⟨fun r s hs => ⟨by rw [pP]; exact fit_ex0, by rw [pP]; exact hs⟩, fun r e s he hs => ⟨by rw [lP]; exact he, by rw [lP]; exact hs⟩⟩
  | succ f ih =>
    refine ⟨fun r s hs => ?_, fun r e s he hs => ?_⟩
    · rw [pP_succ]
      split
      · split
        · have hw := wIn_fit (fun q hq => ih.1 3 q hq) s.skip (hs.drop 1)
          exact ⟨fit_mk _ _ _ _ (by decide) (by omega) (by simp) (fit_one hw.1), hw.2⟩
        · exact ih.1 4 s hs
      · split
        · split
          · have hw := wIn_fit (fun q hq => ih.1 6 q hq) s.skip (hs.drop 1)
            exact ⟨fit_mk _ _ _ _ (by decide) (by omega) (by simp) (fit_one hw.1), hw.2⟩
          · exact ih.1 7 s hs
        · split
          · exact atom_fit (fun q hq => ih.1 1 q hq) s hs
          · have hp := ih.1 (r + 1) s hs
            exact ih.2 r _ _ hp.1 hp.2
    · rw [lP_succ]
      split
      · split
        · exact ⟨he, hs⟩
        · rename_i o ho
          have hp := ih.1 (r + 1) s.skip (hs.drop 1)
          exact ih.2 r _ _ (fit_mk _ _ _ _ (operT_len ho) (by omega) (by simp) (fit_two he hp.1)) hp.2
      · exact ⟨he, hs⟩
theorem parse_fit (ts : List Tok) (h : okT ts) : fitE (parseE ts).1 = true := by
  have hp := (pP_fit (8 * ts.length + 7)).1 1 ⟨ts, 0, 0⟩ h
  unfold parseE
  simp only
  split
  · exact fit_ex0
  · split
    · exact fit_ex0
    · exact hp.1
theorem all_fit (ts : List Tok) (h : okT ts) : fitE (allE ts).1 = true := by
  have hp := parse_fit ts h
  unfold allE
  simp only
  split
  · exact fit_ex0
  · split
    · exact fit_ex0
    · exact hp
theorem mid_ok {ts : List Tok} (h : okT ts) : okT (midT ts) := (h.drop 1).take _
end Go.Proofs.YtpcpjghfcimblaaGreatDoor
