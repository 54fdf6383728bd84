/- Layer 4 in plain Lean: what tokens are good, lines joined, tokens shown. -/
import Derived.Test.YtnpphfhjpflgiaaDoorTokenLinesW
import Derived.Test.YtnpphfhjpflgiaaDoorPureNum2
namespace Go.Proofs.YtnpphfhjpflgiaaDoor

theorem byte_of {p : Nat → Bool} (h : ∀ n : Fin 256, p n.val = true) (c : UInt8) : p c.toNat = true := h ⟨c.toNat, c.toNat_lt⟩
theorem spanL_cons (p : UInt8 → Bool) (c : UInt8) (r : List UInt8) : spanL p (c :: r) = if p c then spanL p r + 1 else 0 := rfl
theorem spanL_take (p : UInt8 → Bool) (s : List UInt8) : (s.take (spanL p s)).all p = true := by
  induction s with
  | nil => rfl
  | cons c r ih =>
    rw [spanL_cons]
    split
    · rename_i h; simp [h]; simpa using ih
    · simp
theorem spanL_full (p : UInt8 → Bool) (s : List UInt8) (h : s.all p = true) : spanL p s = s.length := by
  induction s with
  | nil => rfl
  | cons c r ih => simp at h; rw [spanL_cons, if_pos h.1, ih (by simpa using h.2)]; simp
/-- A byte that is none behind. -/
theorem spanL_behind (p : UInt8 → Bool) (s r : List UInt8) (x : UInt8) (hx : p x = false) : spanL p (s ++ x :: r) = spanL p s := by
  induction s with
  | nil => show spanL p (x :: r) = 0; rw [spanL_cons, hx]; rfl
  | cons c s ih => rw [List.cons_append, spanL_cons, spanL_cons, ih]
theorem take_behind {α : Type} (s r : List α) (n : Nat) (h : n ≤ s.length) : (s ++ r).take n = s.take n := by
  rw [List.take_append_of_le_length h]

theorem tail_up : ∀ n : Fin 256, tailB (upB (UInt8.ofNat n.val)) = tailB (UInt8.ofNat n.val) := by decide +kernel
theorem let_up : ∀ n : Fin 256, letB (upB (UInt8.ofNat n.val)) = letB (UInt8.ofNat n.val) := by decide +kernel
theorem up_up : ∀ n : Fin 256, upB (upB (UInt8.ofNat n.val)) = upB (UInt8.ofNat n.val) := by decide +kernel
theorem of_fin {p : UInt8 → Prop} (h : ∀ n : Fin 256, p (UInt8.ofNat n.val)) (c : UInt8) : p c := by
  have := h ⟨c.toNat, c.toNat_lt⟩
  simpa using this

/-- What a token of a line is. -/
def goodT (t : Tok) : Prop :=
  (t.1 = 1 ∧ nameB t.2.1 = true ∧ upper t.2.1 = t.2.1 ∧ t.2.2 = 0) ∨ (t.1 = 2 ∧ t.2.1 = [] ∧ t.2.2 ≤ 65535) ∨ (t.1 = 3 ∧ t.2.1.any oddB = false ∧ t.2.2 = 0) ∨ (t.1 = 4 ∧ (∃ c, t.2.1 = [c] ∧ markB c = true) ∧ t.2.2 = 0)

theorem unquote_plain (l : List UInt8) (h : (unquote l).2 = 0) : (unquote l).1.any oddB = false := by
  unfold unquote at *
  split at h
  · simp at h
  · rename_i hc
    rw [if_neg hc]
    rw [unq_eq] at *
    split at h
    · simp [unqEnd] at h
    · rename_i hu
      rw [if_neg hu]
      simp only [not_or] at hu
      have h1 := hu.1
      have h2 : dbl (hal (inner l)) = inner l := by simpa using hu.2
      rw [← h2, dbl_any] at h1
      simpa [unqEnd] using h1

theorem name_good (s : List UInt8) (h : s ≠ []) (h1 : letB (s.headD 0) = true) (h2 : ¬ 16 < spanL tailB s) : nameB (upper (s.take (spanL tailB s))) = true := by
  have hp := spanL_pos tailB s h (by unfold tailB; rw [h1]; rfl)
  have hle := spanL_le tailB s
  have hall := spanL_take tailB s
  unfold nameB
  simp only [Bool.and_eq_true, decide_eq_true_eq]
  refine ⟨⟨⟨by rw [upper_length, List.length_take]; omega, by rw [upper_length, List.length_take]; omega⟩, ?_⟩, ?_⟩
  · obtain ⟨c, r, rfl⟩ : ∃ c r, s = c :: r := by cases s with | nil => exact absurd rfl h | cons c r => exact ⟨c, r, rfl⟩
    obtain ⟨k, hk⟩ : ∃ k, spanL tailB (c :: r) = k + 1 := ⟨spanL tailB (c :: r) - 1, by omega⟩
    rw [hk]
    have := of_fin (p := fun c => letB (upB c) = letB c) let_up c
    simpa [upper, this] using h1
  · rw [List.all_eq_true]
    intro c hc
    simp only [upper, List.mem_map] at hc
    obtain ⟨d, hd, rfl⟩ := hc
    have h3 := of_fin (p := fun c => tailB (upB c) = tailB c) tail_up d
    have h4 := List.all_eq_true.mp hall d hd
    exact h3.trans h4

theorem firstT_good (s : List UInt8) (h : s ≠ []) (hk : (firstT s).2.2 = 0) : goodT (firstT s).1 := by
  unfold firstT at *
  by_cases h1 : letB (s.headD 0) = true
  · simp only [h1, if_true] at hk ⊢
    by_cases h2 : 16 < spanL tailB s
    · rw [if_pos h2] at hk; simp at hk
    · rw [if_neg h2]
      refine .inl ⟨rfl, name_good s h h1 h2, ?_, rfl⟩
      simp only [upper, List.map_map]
      congr 1
      funext c
      exact of_fin (p := fun c => upB (upB c) = upB c) up_up c
  · simp only [h1, if_false, Bool.false_eq_true] at hk ⊢
    by_cases h3 : numB (s.headD 0) = true
    · simp only [h3, if_true] at hk ⊢
      exact .inr (.inl ⟨rfl, rfl, (parse_le _).1⟩)
    · simp only [h3, if_false, Bool.false_eq_true] at hk ⊢
      by_cases h4 : s.headD 0 = 39
      · rw [if_pos h4] at hk ⊢
        by_cases h5 : quotedL s = 0
        · rw [if_pos h5] at hk; simp at hk
        · rw [if_neg h5] at hk ⊢
          exact .inr (.inr (.inl ⟨rfl, unquote_plain _ hk, rfl⟩))
      · rw [if_neg h4] at hk ⊢
        by_cases h5 : markB (s.headD 0) = true
        · simp only [h5, if_true] at hk ⊢
          exact .inr (.inr (.inr ⟨rfl, ⟨_, rfl, h5⟩, rfl⟩))
        · simp only [h5, if_false, Bool.false_eq_true] at hk; simp at hk

theorem lineF_good (f : Nat) (s : List UInt8) (ts : List Tok) (h : s.length < f) (hg : ∀ t ∈ ts, goodT t) : ∀ t ∈ (lineF f s ts).1, goodT t := by
  induction f generalizing s ts with
  | zero => omega
  | succ f ih =>
    match s with
    | [] => rw [lineF_nil]; exact hg
    | c :: r =>
      simp at h
      by_cases h1 : c = 32 ∨ c = 9
      · rw [lineF_space _ _ _ _ h1]; exact ih r ts (by omega) hg
      by_cases h2 : c = 59
      · rw [lineF_note _ _ _ _ h2]; exact hg
      rw [lineF_tok _ _ _ _ (fun e => h1 (.inl e)) (fun e => h1 (.inr e)) h2]
      split
      · rename_i hk
        have hlen := firstT_len (c :: r) (by simp) hk
        refine ih _ _ (by simp at hlen ⊢; omega) ?_
        intro t ht
        rcases List.mem_append.mp ht with ht | ht
        · exact hg t ht
        · simp at ht; subst ht; exact firstT_good _ (by simp) hk
      · simp
theorem lineL_good (l : List UInt8) : ∀ t ∈ (lineL l).1, goodT t := by
  unfold lineL
  split
  · simp
  · exact lineF_good _ _ _ (by omega) (by simp)

/-- The tokens of a text, without a count. -/
inductive Toks : List UInt8 → List Tok → Prop
  | nil : Toks [] []
  | space (c : UInt8) (r : List UInt8) (ts : List Tok) : (c = 32 ∨ c = 9) → Toks r ts → Toks (c :: r) ts
  | note (r : List UInt8) : Toks (59 :: r) []
  | tok (c : UInt8) (r : List UInt8) (ts : List Tok) : c ≠ 32 → c ≠ 9 → c ≠ 59 → (firstT (c :: r)).2.2 = 0 → Toks ((c :: r).drop (firstT (c :: r)).2.1) ts → Toks (c :: r) ((firstT (c :: r)).1 :: ts)

theorem Toks.to_line {s : List UInt8} {ts : List Tok} (h : Toks s ts) : ∀ (f : Nat) (acc : List Tok), s.length < f → lineF f s acc = (acc ++ ts, 0) := by
  induction h with
  | nil => intro f acc _; rw [lineF_nil]; simp
  | space c r ts hc _ ih =>
    intro f acc hf
    obtain ⟨f, rfl⟩ : ∃ g, f = g + 1 := ⟨f - 1, by omega⟩
    rw [lineF_space _ _ _ _ hc]; exact ih f acc (by simp at hf; omega)
  | note r =>
    intro f acc hf
    obtain ⟨f, rfl⟩ : ∃ g, f = g + 1 := ⟨f - 1, by omega⟩
    rw [lineF_note _ _ _ _ rfl]; simp
  | tok c r ts h1 h2 h3 hk _ ih =>
    intro f acc hf
    obtain ⟨f, rfl⟩ : ∃ g, f = g + 1 := ⟨f - 1, by omega⟩
    have hlen := firstT_len (c :: r) (by simp) hk
    rw [lineF_tok _ _ _ _ h1 h2 h3, if_pos hk, ih f _ (by simp at hlen hf ⊢; omega)]
    simp
theorem Toks.of_line (f : Nat) : ∀ (s : List UInt8) (acc : List Tok), s.length < f → (lineF f s acc).2 = 0 → ∃ ts, Toks s ts ∧ (lineF f s acc).1 = acc ++ ts := by
  induction f with
  | zero => intro s acc h; omega
  | succ f ih =>
    intro s acc h hk
    match s with
    | [] => exact ⟨[], .nil, by rw [lineF_nil]; simp⟩
    | c :: r =>
      simp at h
      by_cases h1 : c = 32 ∨ c = 9
      · rw [lineF_space _ _ _ _ h1] at hk ⊢
        obtain ⟨ts, h3, h4⟩ := ih r acc (by omega) hk
        exact ⟨ts, .space c r ts h1 h3, h4⟩
      by_cases h2 : c = 59
      · subst h2; rw [lineF_note _ _ _ _ rfl]; exact ⟨[], .note r, by simp⟩
      rw [lineF_tok _ _ _ _ (fun e => h1 (.inl e)) (fun e => h1 (.inr e)) h2] at hk ⊢
      by_cases hf : (firstT (c :: r)).2.2 = 0
      · rw [if_pos hf] at hk ⊢
        have hlen := firstT_len (c :: r) (by simp) hf
        obtain ⟨ts, h3, h4⟩ := ih _ _ (by simp at hlen ⊢; omega) hk
        exact ⟨_ :: ts, .tok c r ts (fun e => h1 (.inl e)) (fun e => h1 (.inr e)) h2 hf h3, by rw [h4]; simp⟩
      · rw [if_neg hf] at hk; exact absurd hk hf

theorem qlen_behind (n : Nat) : ∀ (s r : List UInt8) (x : UInt8) (k : Nat), s.length ≤ n → x ≠ 39 → qlen s k ≠ 0 → qlen (s ++ x :: r) k = qlen s k := by
  induction n with
  | zero => intro s r x k h hx hk; obtain rfl : s = [] := List.eq_nil_of_length_eq_zero (by omega); exact absurd rfl hk
  | succ n ih =>
    intro s r x k h hx hk
    match s, h with
    | [], _ => exact absurd rfl hk
    | [c], _ =>
      simp only [qlen] at hk ⊢
      simp only [List.cons_append, List.nil_append, qlen, hx, if_false]
      by_cases hc : c = 39
      · simp [hc]
      · simp [hc] at hk
    | c :: d :: s, h =>
      simp only [List.cons_append]
      unfold qlen at hk ⊢
      by_cases hc : c = 39
      · simp only [hc, if_true] at hk ⊢
        by_cases hd : d = 39
        · simp only [hd, if_true] at hk ⊢
          exact ih s r x _ (by simp at h; omega) hx hk
        · simp only [hd, if_false]
      · simp only [hc, if_false] at hk ⊢
        exact ih (d :: s) r x _ (by simp at h ⊢; omega) hx hk

theorem firstT_behind (s r : List UInt8) (x : UInt8) (h : s ≠ []) (h1 : tailB x = false) (h2 : alnumB x = false) (h3 : x ≠ 39) (hk : (firstT s).2.2 = 0) : firstT (s ++ x :: r) = firstT s := by
  have hd : (s ++ x :: r).headD 0 = s.headD 0 := by cases s with | nil => exact absurd rfl h | cons c s => rfl
  have e1 := spanL_behind tailB s r x h1
  have e2 := spanL_behind alnumB s r x h2
  have l1 := spanL_le tailB s
  have l2 := spanL_le alnumB s
  unfold firstT at *
  rw [hd, e1, e2, take_behind s _ _ l1, take_behind s _ _ l2]
  simp only at hk ⊢
  by_cases c1 : letB (s.headD 0) = true
  · simp only [c1, if_true]
  simp only [c1, if_false, Bool.false_eq_true] at hk ⊢
  by_cases c2 : numB (s.headD 0) = true
  · simp only [c2, if_true]
  simp only [c2, if_false, Bool.false_eq_true] at hk ⊢
  by_cases c3 : s.headD 0 = 39
  · simp only [c3, if_true] at hk ⊢
    by_cases c4 : quotedL s = 0
    · rw [if_pos c4] at hk; simp at hk
    have hq : quotedL (s ++ x :: r) = quotedL s := by
      unfold quotedL at *
      have : (s ++ x :: r).drop 1 = s.drop 1 ++ x :: r := by cases s with | nil => exact absurd rfl h | cons c s => rfl
      rw [this]; exact qlen_behind _ _ _ _ _ (Nat.le_refl _) h3 c4
    have hle := quotedL_le s h
    rw [hq, take_behind s _ _ (by omega)]
  · simp only [c3, if_false]

theorem Toks.then_ {s : List UInt8} {ts : List Tok} (h : Toks s ts) (hs : 59 ∉ s) (r : List UInt8) (us : List Tok) (hr : Toks r us) : Toks (s ++ 32 :: r) (ts ++ us) := by
  induction h with
  | nil => exact .space 32 r us (.inl rfl) hr
  | space c s ts hc _ ih => exact .space c _ _ hc (ih (fun h => hs (by simp [h])))
  | note s => simp at hs
  | tok c s ts h1 h2 h3 hk _ ih =>
    have e := firstT_behind (c :: s) r 32 (by simp) (by decide) (by decide) (by decide) hk
    have hlen := firstT_len (c :: s) (by simp) hk
    have hd : ((c :: s) ++ 32 :: r).drop (firstT (c :: s)).2.1 = (c :: s).drop (firstT (c :: s)).2.1 ++ 32 :: r := List.drop_append_of_le_length hlen.2
    have := Toks.tok c (s ++ 32 :: r) (ts ++ us) h1 h2 h3 (by rw [← List.cons_append, e]; exact hk) (by rw [← List.cons_append, e, hd]; exact ih (fun h => hs (List.mem_of_mem_drop h)))
    rw [← List.cons_append, e] at this
    exact this
theorem Toks.noted {s : List UInt8} {ts : List Tok} (h : Toks s ts) (r : List UInt8) : Toks (s ++ 59 :: r) ts := by
  induction h with
  | nil => exact .note r
  | space c s ts hc _ ih => exact .space c _ _ hc ih
  | note s => exact .note _
  | tok c s ts h1 h2 h3 hk _ ih =>
    have e := firstT_behind (c :: s) r 59 (by simp) (by decide) (by decide) (by decide) hk
    have hlen := firstT_len (c :: s) (by simp) hk
    have hd : ((c :: s) ++ 59 :: r).drop (firstT (c :: s)).2.1 = (c :: s).drop (firstT (c :: s)).2.1 ++ 59 :: r := List.drop_append_of_le_length hlen.2
    have := Toks.tok c (s ++ 59 :: r) ts h1 h2 h3 (by rw [← List.cons_append, e]; exact hk) (by rw [← List.cons_append, e, hd]; exact ih)
    rw [← List.cons_append, e] at this
    exact this

theorem lineL_toks (l : List UInt8) (h : (lineL l).2 = 0) : Toks l (lineL l).1 := by
  unfold lineL at *
  split at h
  · simp at h
  · rename_i h2
    rw [if_neg h2]
    obtain ⟨ts, h3, h4⟩ := Toks.of_line (l.length + 1) l [] (by omega) h
    rw [h4]; simpa using h3
theorem toks_lineL (l : List UInt8) (ts : List Tok) (h : Toks l ts) (hl : l.length ≤ 200) : lineL l = (ts, 0) := by
  unfold lineL
  rw [if_neg (by omega), h.to_line _ _ (by omega)]; simp
theorem line_spaces (a b note : List UInt8) (ha : 59 ∉ a) (h1 : (lineL a).2 = 0) (h2 : (lineL b).2 = 0) (hl : a.length + b.length + note.length ≤ 180) :
    lineL ([32, 9] ++ a ++ [32] ++ b ++ [59] ++ note) = ((lineL a).1 ++ (lineL b).1, 0) := by
  refine toks_lineL _ _ ?_ (by simp; omega)
  have := ((lineL_toks a h1).then_ ha _ _ (lineL_toks b h2)).noted note
  have h3 := Toks.space 32 _ _ (.inl rfl) (Toks.space 9 _ _ (.inr rfl) this)
  simpa using h3

/-- Tokens shown. -/
def wordT (t : Tok) : List UInt8 := if t.1 = 2 then showN t.2.2 else if t.1 = 3 then quoteL t.2.1 else t.2.1
def showT : List Tok → List UInt8
  | [] => []
  | [t] => wordT t
  | t :: u :: r => wordT t ++ 32 :: showT (u :: r)

theorem hexD_alnum (d : Nat) (h : d < 16) : alnumB (hexD d) = true := (by decide : ∀ d : Fin 16, alnumB (hexD d.val) = true) ⟨d, h⟩
theorem hexR_alnum (f n : Nat) : (hexR f n).all alnumB = true := by
  induction f generalizing n with
  | zero => rfl
  | succ f ih =>
    unfold hexR
    split
    · rfl
    · rw [List.all_cons, hexD_alnum _ (Nat.mod_lt _ (by omega)), ih]; rfl
theorem showN_alnum (n : Nat) : (showN n).all alnumB = true := by
  unfold showN
  split
  · rename_i h
    exact (by decide : ∀ d : Fin 10, [UInt8.ofNat (48 + d.val)].all alnumB = true) ⟨n, h⟩
  · rw [List.all_reverse]
    have hx := hexR_alnum 5 n
    simp only
    split
    · rw [List.all_append, List.all_cons, hx]; decide
    · rw [List.all_cons, hx]; decide
theorem showN_head (n : Nat) (hn : n ≤ 65535) : ∃ c r, showN n = c :: r ∧ numB c = true := by
  by_cases h : n < 10
  · refine ⟨UInt8.ofNat (48 + n), [], by unfold showN; rw [if_pos h], ?_⟩
    exact (by decide : ∀ d : Fin 10, numB (UInt8.ofNat (48 + d.val)) = true) ⟨n, h⟩
  · obtain ⟨c, r, h1, _, h2, h3, _⟩ := show_short n h hn
    exact ⟨c, r, h1, by unfold numB; simp [h2, h3]⟩
theorem num_no : ∀ n : Fin 256, numB (UInt8.ofNat n.val) = true → letB (UInt8.ofNat n.val) = false ∧ UInt8.ofNat n.val ≠ 32 ∧ UInt8.ofNat n.val ≠ 9 ∧ UInt8.ofNat n.val ≠ 59 := by decide +kernel
theorem let_no : ∀ n : Fin 256, letB (UInt8.ofNat n.val) = true → UInt8.ofNat n.val ≠ 32 ∧ UInt8.ofNat n.val ≠ 9 ∧ UInt8.ofNat n.val ≠ 59 := by decide +kernel
theorem mark_no : ∀ n : Fin 256, markB (UInt8.ofNat n.val) = true → letB (UInt8.ofNat n.val) = false ∧ numB (UInt8.ofNat n.val) = false ∧ UInt8.ofNat n.val ≠ 39 ∧ UInt8.ofNat n.val ≠ 32 ∧ UInt8.ofNat n.val ≠ 9 ∧ UInt8.ofNat n.val ≠ 59 := by decide +kernel

theorem qlen_quote (s : List UInt8) (k : Nat) : qlen (dbl s ++ [39]) k = k + (dbl s).length + 1 := by
  induction s generalizing k with
  | nil => simp [dbl, qlen]
  | cons c s ih =>
    unfold dbl
    split
    · simp only [List.cons_append]
      unfold qlen
      simp only [if_true]
      rw [ih]; simp; omega
    · rename_i hc
      rw [List.cons_append]
      obtain ⟨d, r, hd⟩ : ∃ d r, dbl s ++ [39] = d :: r := by cases dbl s with | nil => exact ⟨39, [], rfl⟩ | cons d r => exact ⟨d, r ++ [39], rfl⟩
      have h2 := ih (k + 1)
      rw [hd] at h2 ⊢
      unfold qlen
      rw [if_neg hc, h2]; simp; omega

theorem firstT_word (t : Tok) (hg : goodT t) : ∃ c r, wordT t = c :: r ∧ firstT (c :: r) = (t, (c :: r).length, 0) ∧ c ≠ 32 ∧ c ≠ 9 ∧ c ≠ 59 := by
  obtain ⟨k, s, n⟩ := t
  rcases hg with ⟨h1, h2, h3, h4⟩ | ⟨h1, h2, h3⟩ | ⟨h1, h2, h3⟩ | ⟨h1, ⟨c, h2, h3⟩, h4⟩
  · simp only at h1 h2 h3 h4
    subst h1 h4
    unfold nameB at h2
    simp only [Bool.and_eq_true, decide_eq_true_eq] at h2
    obtain ⟨⟨⟨ha, hb⟩, hc⟩, hd⟩ := h2
    cases s with
    | nil => simp at ha
    | cons c r =>
      refine ⟨c, r, rfl, ?_, of_fin (p := fun c => letB c = true → c ≠ 32 ∧ c ≠ 9 ∧ c ≠ 59) let_no c hc⟩
      have hs : spanL tailB (c :: r) = (c :: r).length := spanL_full _ _ hd
      have hc' : letB c = true := hc
      unfold firstT
      simp only [List.headD_cons, hc', if_true]
      rw [hs, if_neg (by omega), List.take_length, h3]
  · simp only at h1 h2 h3
    subst h1 h2
    obtain ⟨c, r, h4, h5⟩ := showN_head n h3
    have hw : wordT (2, [], n) = showN n := rfl
    have hno := of_fin (p := fun c => numB c = true → letB c = false ∧ c ≠ 32 ∧ c ≠ 9 ∧ c ≠ 59) num_no c h5
    refine ⟨c, r, hw.trans h4, ?_, hno.2⟩
    have hs : spanL alnumB (c :: r) = (c :: r).length := spanL_full _ _ (h4 ▸ showN_alnum n)
    have hp := show_back n h3
    rw [h4] at hp
    unfold firstT
    simp only [List.headD_cons, hno.1, h5, if_true, if_false, Bool.false_eq_true]
    rw [hs, List.take_length, hp]
  · simp only at h1 h2 h3
    subst h1 h3
    have hw : wordT (3, s, 0) = quoteL s := rfl
    refine ⟨39, dbl s ++ [39], hw, ?_, by decide, by decide, by decide⟩
    have hq : quotedL (39 :: (dbl s ++ [39])) = (39 :: (dbl s ++ [39])).length := by
      show qlen (dbl s ++ [39]) 1 = _
      rw [qlen_quote]; simp; omega
    have hb := quote_back s
    rw [h2] at hb
    simp only [Bool.false_eq_true, if_false] at hb
    unfold firstT
    simp only [List.headD_cons, show letB 39 = false by decide, show numB 39 = false by decide, if_true, if_false, Bool.false_eq_true]
    rw [hq, if_neg (by simp), List.take_length]
    rw [show (39 :: (dbl s ++ [39]) : List UInt8) = quoteL s from rfl, hb]
  · simp only at h1 h2 h4
    subst h1 h2 h4
    have hno := of_fin (p := fun c => markB c = true → letB c = false ∧ numB c = false ∧ c ≠ 39 ∧ c ≠ 32 ∧ c ≠ 9 ∧ c ≠ 59) mark_no c h3
    refine ⟨c, [], rfl, ?_, hno.2.2.2⟩
    unfold firstT
    simp only [List.headD_cons, hno.1, hno.2.1, hno.2.2.1, h3, if_true, if_false, Bool.false_eq_true]
    rfl

theorem showT_toks (ts : List Tok) (h : ∀ t ∈ ts, goodT t) : Toks (showT ts) ts := by
  induction ts with
  | nil => exact .nil
  | cons t ts ih =>
    obtain ⟨c, r, h1, h2, h3, h4, h5⟩ := firstT_word t (h t (by simp))
    have ih := ih (fun u hu => h u (by simp [hu]))
    have hk : (firstT (c :: r)).2.2 = 0 := by rw [h2]
    cases ts with
    | nil =>
      show Toks (wordT t) [t]
      rw [h1]
      have := Toks.tok c r [] h3 h4 h5 hk (by rw [h2, List.drop_length]; exact .nil)
      rw [h2] at this; exact this
    | cons u us =>
      show Toks (wordT t ++ 32 :: showT (u :: us)) (t :: u :: us)
      rw [h1]
      have e := firstT_behind (c :: r) (showT (u :: us)) 32 (by simp) (by decide) (by decide) (by decide) hk
      have := Toks.tok c (r ++ 32 :: showT (u :: us)) (u :: us) h3 h4 h5 (by rw [← List.cons_append, e]; exact hk) (by rw [← List.cons_append, e, h2, List.drop_append_of_le_length (Nat.le_refl _), List.drop_length]; exact .space 32 _ _ (.inl rfl) ih)
      rw [← List.cons_append, e, h2] at this
      exact this
theorem line_shown (ts : List Tok) (h : ∀ t ∈ ts, goodT t) : lineL (showT ts) = if 200 < (showT ts).length then ([], 11) else (ts, 0) := by
  split
  · rename_i h2; unfold lineL; rw [if_pos h2]
  · rename_i h2; exact toks_lineL _ _ (showT_toks ts h) (by omega)
theorem wordT_length (t : Tok) (hn : t.2.2 ≤ 65535) : (wordT t).length ≤ 2 * t.2.1.length + 8 := by
  unfold wordT
  split
  · by_cases h : t.2.2 < 10
    · unfold showN; rw [if_pos h]; simp
    · obtain ⟨c, r, h1, h2, _⟩ := show_short _ h hn
      rw [h1]; simp; omega
  · split
    · have := (dbl_length t.2.1).2; unfold quoteL; simp; omega
    · omega
end Go.Proofs.YtnpphfhjpflgiaaDoor
