/- The words of layer 9: plain lists, no program. -/
namespace Go.Proofs.YtmmdniahfldljaaDoor
def plainW : List (List UInt8) := [[77, 79, 86], [65, 68, 68], [79, 82], [65, 68, 67], [83, 66, 66], [65, 78, 68], [83, 85, 66], [88, 79, 82], [67, 77, 80], [73, 78, 67], [68, 69, 67], [82, 79, 76], [82, 79, 82], [82, 67, 76], [82, 67, 82], [78, 79, 84], [88, 67, 72, 71], [80, 85, 83, 72], [80, 79, 80], [76, 65, 72, 70], [83, 65, 72, 70], [68, 65, 65], [67, 77, 67], [83, 84, 67], [67, 76, 67], [83, 84, 73], [67, 76, 73], [72, 76, 84], [78, 79, 80], [73, 78], [79, 85, 84], [74, 77, 80], [74, 77, 80, 83], [67, 65, 76, 76], [82, 69, 84]]
def equalW : List (List UInt8) := [[74, 66], [74, 78, 66], [74, 90], [74, 78, 90]]
def signW : List (List UInt8) := [[74, 83], [74, 78, 83], [74, 80], [74, 78, 80]]
def argsW : List (List UInt8) := [[65, 76], [67, 76], [68, 76], [66, 76], [65, 72], [67, 72], [68, 72], [66, 72], [65, 88], [67, 88], [68, 88], [66, 88], [83, 80], [66, 80], [83, 73], [68, 73], [91, 66, 88, 93], [91, 83, 73, 93], [91, 110, 110, 93], [110, 110]]
def namesR : List (List UInt8) := [[], [77, 79, 86], [65, 68, 68], [79, 82], [65, 68, 67], [83, 66, 66], [65, 78, 68], [83, 85, 66], [88, 79, 82], [67, 77, 80], [73, 78, 67], [68, 69, 67], [82, 79, 76], [82, 79, 82], [82, 67, 76], [82, 67, 82], [78, 79, 84], [88, 67, 72, 71], [80, 85, 83, 72], [80, 79, 80], [76, 65, 72, 70], [83, 65, 72, 70], [68, 65, 65], [67, 77, 67], [83, 84, 67], [67, 76, 67], [83, 84, 73], [67, 76, 73], [72, 76, 84], [78, 79, 80], [73, 78], [79, 85, 84], [74, 77, 80], [74, 77, 80, 83], [67, 65, 76, 76], [82, 69, 84], [], [], [], [], [], [], [74, 66], [74, 78, 66], [74, 90], [74, 78, 90], [], [], [74, 83], [74, 78, 83], [74, 80], [74, 78, 80]]
def argsR : List (List UInt8) := [[], [65, 76], [67, 76], [68, 76], [66, 76], [65, 72], [67, 72], [68, 72], [66, 72], [65, 88], [67, 88], [68, 88], [66, 88], [83, 80], [66, 80], [83, 73], [68, 73], [91, 66, 88, 93], [91, 83, 73, 93], [91, 110, 110, 93], [110, 110]]
def ofL (ws : List (List UInt8)) (f c : Int) : List UInt8 := if c < f ∨ (ws.length : Int) ≤ c - f then [] else ws.getD (c - f).toNat []
def idxL : List (List UInt8) → List UInt8 → Nat → Int
  | [], _, _ => -1
  | z :: zs, x, i => if z = x then i else idxL zs x (i + 1)
def codeL (ws : List (List UInt8)) (f : Int) (s : List UInt8) : Int × Bool := if idxL ws s 0 < 0 ∨ s = [] then (0, false) else (f + idxL ws s 0, true)
theorem idxL_miss (x : List UInt8) : ∀ (zs : List (List UInt8)) (i : Nat), x ∉ zs → idxL zs x i = -1
  | [], _, _ => rfl
  | z :: zs, i, h => by
    simp only [List.mem_cons, not_or] at h
    rw [idxL, if_neg (Ne.symm h.1)]
    exact idxL_miss x zs (i + 1) h.2
theorem idxL_bound (x : List UInt8) : ∀ (zs : List (List UInt8)) (i : Nat), -1 ≤ idxL zs x i ∧ idxL zs x i ≤ i + zs.length
  | [], i => by rw [idxL]; constructor <;> (try simp) <;> omega
  | z :: zs, i => by
    rw [idxL]
    split
    · simp; omega
    · have := idxL_bound x zs (i + 1); simp at this ⊢; omega
theorem idxL_hit (x : List UInt8) : ∀ (zs : List (List UInt8)) (i k : Nat) (hk : k < zs.length), zs[k] = x → (∀ j (hj : j < k), zs[j]'(by omega) ≠ x) → idxL zs x i = ((i + k : Nat) : Int)
  | [], _, k, hk, _, _ => absurd hk (Nat.not_lt_zero _)
  | z :: zs, i, 0, hk, h, _ => by
    have : z = x := by simpa using h
    rw [idxL, if_pos this]; simp
  | z :: zs, i, k + 1, hk, h, hne => by
    have hz : z ≠ x := by simpa using hne 0 (Nat.succ_pos _)
    have := idxL_hit x zs (i + 1) k (by simpa using hk) (by simpa using h) (fun j hj => by simpa using hne (j + 1) (by omega))
    rw [idxL, if_neg hz, this]
    congr 1; omega
theorem codeL_miss (ws : List (List UInt8)) (f : Int) (s : List UInt8) (h : s ∉ ws) : codeL ws f s = (0, false) := by
  unfold codeL; rw [idxL_miss s ws 0 h, if_pos (by omega)]
def nameL (op : Int) : List UInt8 := ofL plainW 1 op ++ ofL equalW 42 op ++ ofL signW 48 op
def opL (s : List UInt8) : Int × Bool := if (codeL plainW 1 s).2 then codeL plainW 1 s else if (codeL equalW 42 s).2 then codeL equalW 42 s else if (codeL signW 48 s).2 then codeL signW 48 s else (0, false)
def argL (c : Int) : List UInt8 := ofL argsW 1 c
def acodeL (s : List UInt8) : Int × Bool := codeL argsW 1 s
theorem ofL_lo (ws : List (List UInt8)) (f c : Int) (h : c < f) : ofL ws f c = [] := by unfold ofL; rw [if_pos (.inl h)]
theorem ofL_hi (ws : List (List UInt8)) (f c : Int) (h : (ws.length : Int) + f ≤ c) : ofL ws f c = [] := by unfold ofL; rw [if_pos (.inr (by omega))]
theorem range_of (c : Int) (n : Nat) : c < 0 ∨ (n : Int) ≤ c ∨ ∃ k : Fin n, c = (k.val : Int) := by
  by_cases h : c < 0
  · exact .inl h
  · by_cases h' : (n : Int) ≤ c
    · exact .inr (.inl h')
    · exact .inr (.inr ⟨⟨c.toNat, by omega⟩, by simp; omega⟩)
theorem name_out (op : Int) (h : op < 0 ∨ 52 ≤ op) : nameL op = [] := by
  unfold nameL
  rcases h with h | h
  · rw [ofL_lo _ _ _ (by omega), ofL_lo _ _ _ (by omega), ofL_lo _ _ _ (by omega)]; rfl
  · rw [ofL_hi _ _ _ (by simp [plainW]; omega), ofL_hi _ _ _ (by simp [equalW]; omega), ofL_hi _ _ _ (by simp [signW]; omega)]; rfl
theorem arg_out (c : Int) (h : c < 0 ∨ 21 ≤ c) : argL c = [] := by
  unfold argL
  rcases h with h | h
  · rw [ofL_lo _ _ _ (by omega)]
  · rw [ofL_hi _ _ _ (by simp [argsW]; omega)]
theorem name_fin : ∀ k : Fin 52, nameL (k.val : Int) = ofL namesR 0 (k.val : Int) ∧ (nameL (k.val : Int) = [] ∨ opL (nameL (k.val : Int)) = ((k.val : Int), true)) := by decide +kernel
theorem arg_fin : ∀ k : Fin 21, argL (k.val : Int) = ofL argsR 0 (k.val : Int) ∧ (argL (k.val : Int) = [] ∨ acodeL (argL (k.val : Int)) = ((k.val : Int), true)) := by decide +kernel
theorem name_ref (op : Int) : ofL namesR 0 op = nameL op := by
  rcases range_of op 52 with h | h | ⟨k, rfl⟩
  · rw [name_out op (.inl h), ofL_lo _ _ _ h]
  · rw [name_out op (.inr h), ofL_hi _ _ _ (by simp [namesR]; omega)]
  · exact (name_fin k).1.symm
theorem arg_ref (c : Int) : ofL argsR 0 c = argL c := by
  rcases range_of c 21 with h | h | ⟨k, rfl⟩
  · rw [arg_out c (.inl h), ofL_lo _ _ _ h]
  · rw [arg_out c (.inr h), ofL_hi _ _ _ (by simp [argsR]; omega)]
  · exact (arg_fin k).1.symm
theorem name_back (op : Int) (h : nameL op ≠ []) : opL (nameL op) = (op, true) := by
  rcases range_of op 52 with h1 | h1 | ⟨k, rfl⟩
  · exact absurd (name_out op (.inl h1)) h
  · exact absurd (name_out op (.inr h1)) h
  · exact (name_fin k).2.resolve_left h
theorem arg_back (c : Int) (h : argL c ≠ []) : acodeL (argL c) = (c, true) := by
  rcases range_of c 21 with h1 | h1 | ⟨k, rfl⟩
  · exact absurd (arg_out c (.inl h1)) h
  · exact absurd (arg_out c (.inr h1)) h
  · exact (arg_fin k).2.resolve_left h
theorem names_in : ∀ s ∈ namesR, opL s = codeL namesR 0 s ∧ ((opL s).2 = true → nameL (opL s).1 = s) := by decide +kernel
theorem args_in : ∀ s ∈ argsR, acodeL s = codeL argsR 0 s ∧ ((acodeL s).2 = true → argL (acodeL s).1 = s) := by decide +kernel
theorem names_sub : (∀ s ∈ plainW, s ∈ namesR) ∧ (∀ s ∈ equalW, s ∈ namesR) ∧ (∀ s ∈ signW, s ∈ namesR) ∧ (∀ s ∈ argsW, s ∈ argsR) := by decide +kernel
theorem op_out (s : List UInt8) (h : s ∉ namesR) : opL s = (0, false) := by
  obtain ⟨h1, h2, h3, _⟩ := names_sub
  unfold opL
  rw [codeL_miss _ _ _ (fun x => h (h1 s x)), codeL_miss _ _ _ (fun x => h (h2 s x)), codeL_miss _ _ _ (fun x => h (h3 s x))]
  rfl
theorem op_ref (s : List UInt8) : opL s = codeL namesR 0 s := by
  by_cases h : s ∈ namesR
  · exact (names_in s h).1
  · rw [op_out s h, codeL_miss _ _ _ h]
theorem acode_out (s : List UInt8) (h : s ∉ argsR) : acodeL s = (0, false) := codeL_miss _ _ _ (fun x => h (names_sub.2.2.2 s x))
theorem acode_ref (s : List UInt8) : acodeL s = codeL argsR 0 s := by
  by_cases h : s ∈ argsR
  · exact (args_in s h).1
  · rw [acode_out s h, codeL_miss _ _ _ h]
theorem op_name (s : List UInt8) (h : (opL s).2 = true) : nameL (opL s).1 = s := by
  by_cases h' : s ∈ namesR
  · exact (names_in s h').2 h
  · rw [op_out s h'] at h; cases h
theorem acode_arg (s : List UInt8) (h : (acodeL s).2 = true) : argL (acodeL s).1 = s := by
  by_cases h' : s ∈ argsR
  · exact (args_in s h').2 h
  · rw [acode_out s h'] at h; cases h
/-- The condition against one. -/
def condB (op : Int) : Bool := (decide (42 ≤ op) && decide (op ≤ 45)) || (decide (48 ≤ op) && decide (op ≤ 51))
def agL (op : Int) : Int × Bool := if condB op then (if op % 2 = 0 then op + 1 else op - 1, true) else (0, false)
theorem cond_fin : ∀ k : Fin 52, condB (k.val : Int) = !(ofL equalW 42 (k.val : Int) ++ ofL signW 48 (k.val : Int)).isEmpty := by decide +kernel
theorem cond_words (op : Int) : (ofL equalW 42 op ++ ofL signW 48 op = []) ↔ condB op = false := by
  rcases range_of op 52 with h | h | ⟨k, rfl⟩
  · rw [ofL_lo _ _ _ (by omega), ofL_lo _ _ _ (by omega)]
    simp [condB]; omega
  · rw [ofL_hi _ _ _ (by simp [equalW]; omega), ofL_hi _ _ _ (by simp [signW]; omega)]
    simp [condB]; omega
  · rw [cond_fin k]; cases (ofL equalW 42 (k.val : Int) ++ ofL signW 48 (k.val : Int)) <;> simp
theorem ag_fin : ∀ k : Fin 52, (agL (k.val : Int)).2 = true → agL (agL (k.val : Int)).1 = ((k.val : Int), true) := by decide +kernel
theorem ag_twice (op : Int) (h : (agL op).2 = true) : agL (agL op).1 = (op, true) := by
  rcases range_of op 52 with h1 | h1 | ⟨k, rfl⟩
  · rw [agL, show condB op = false by simp [condB]; omega] at h; cases h
  · rw [agL, show condB op = false by simp [condB]; omega] at h; cases h
  · exact ag_fin k h
end Go.Proofs.YtmmdniahfldljaaDoor
