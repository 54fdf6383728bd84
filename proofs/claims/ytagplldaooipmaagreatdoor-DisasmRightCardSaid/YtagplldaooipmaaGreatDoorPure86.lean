/- Pure86. -/
namespace Go.Proofs.YtagplldaooipmaaGreatDoor
def plainW : List (List UInt8) := [[77, 79, 86], [65, 68, 68], [79, 82], [65, 68, 67], [83, 66, 66], [65, 78, 68], [83, 85, 66], [88, 79, 82], [67, 77, 80], [73, 78, 67], [68, 69, 67], [82, 79, 76], [82, 79, 82], [82, 67, 76], [82, 67, 82], [78, 79, 84], [88, 67, 72, 71], [80, 85, 83, 72], [80, 79, 80], [76, 65, 72, 70], [83, 65, 72, 70], [68, 65, 65], [67, 77, 67], [83, 84, 67], [67, 76, 67], [83, 84, 73], [67, 76, 73], [72, 76, 84], [78, 79, 80], [73, 78], [79, 85, 84], [74, 77, 80], [74, 77, 80, 83], [67, 65, 76, 76], [82, 69, 84]]
def equalW : List (List UInt8) := [[74, 66], [74, 78, 66], [74, 90], [74, 78, 90]]
def signW : List (List UInt8) := [[74, 83], [74, 78, 83], [74, 80], [74, 78, 80]]
def argsW : List (List UInt8) := [[65, 76], [67, 76], [68, 76], [66, 76], [65, 72], [67, 72], [68, 72], [66, 72], [65, 88], [67, 88], [68, 88], [66, 88], [83, 80], [66, 80], [83, 73], [68, 73], [91, 66, 88, 93], [91, 83, 73, 93], [91, 110, 110, 93], [110, 110]]
def namesR : List (List UInt8) := [[], [77, 79, 86], [65, 68, 68], [79, 82], [65, 68, 67], [83, 66, 66], [65, 78, 68], [83, 85, 66], [88, 79, 82], [67, 77, 80], [73, 78, 67], [68, 69, 67], [82, 79, 76], [82, 79, 82], [82, 67, 76], [82, 67, 82], [78, 79, 84], [88, 67, 72, 71], [80, 85, 83, 72], [80, 79, 80], [76, 65, 72, 70], [83, 65, 72, 70], [68, 65, 65], [67, 77, 67], [83, 84, 67], [67, 76, 67], [83, 84, 73], [67, 76, 73], [72, 76, 84], [78, 79, 80], [73, 78], [79, 85, 84], [74, 77, 80], [74, 77, 80, 83], [67, 65, 76, 76], [82, 69, 84], [], [], [], [], [], [], [74, 66], [74, 78, 66], [74, 90], [74, 78, 90], [], [], [74, 83], [74, 78, 83], [74, 80], [74, 78, 80]]
def argsR : List (List UInt8) := [[], [65, 76], [67, 76], [68, 76], [66, 76], [65, 72], [67, 72], [68, 72], [66, 72], [65, 88], [67, 88], [68, 88], [66, 88], [83, 80], [66, 80], [83, 73], [68, 73], [91, 66, 88, 93], [91, 83, 73, 93], [91, 110, 110, 93], [110, 110]]
def ofL (ws : List (List UInt8)) (f c : Int) : List UInt8 := if c < f ∨ (ws.length : Int) ≤ c - f then [] else ws.getD (c - f).toNat []
def idxL : List (List UInt8) → List UInt8 → Nat → Int
  | [], _, _ => -1
  | z :: zs, x, i => if z = x then i else idxL zs x (i + 1)
def codeL (ws : List (List UInt8)) (f : Int) (s : List UInt8) : Int × Bool := if idxL ws s 0 < 0 ∨ s = [] then (0, false) else (f + idxL ws s 0, true)
def nameL (op : Int) : List UInt8 := ofL plainW 1 op ++ ofL equalW 42 op ++ ofL signW 48 op
def opL (s : List UInt8) : Int × Bool := if (codeL plainW 1 s).2 then codeL plainW 1 s else if (codeL equalW 42 s).2 then codeL equalW 42 s else if (codeL signW 48 s).2 then codeL signW 48 s else (0, false)
def argL (c : Int) : List UInt8 := ofL argsW 1 c
def acodeL (s : List UInt8) : Int × Bool := codeL argsW 1 s
theorem ofL_lo (ws : List (List UInt8)) (f c : Int) (h : c < f) : ofL ws f c = [] := by unfold ofL; rw [if_pos (.inl h)]
theorem ofL_hi (ws : List (List UInt8)) (f c : Int) (h : (ws.length : Int) + f ≤ c) : ofL ws f c = [] := by unfold ofL; rw [if_pos (.inr (by omega))]
theorem range_of (c : Int) (n : Nat) : c < 0 ∨ (n : Int) ≤ c ∨ ∃ k : Fin n, c = (k.val : Int) := by
  by_cases h : c < 0
  · exact .inl h
  · by_cases h' : (n : Int) ≤ c
    · exact .inr (.inl h')
    · exact .inr (.inr ⟨⟨c.toNat, by omega⟩, by simp; omega⟩)
theorem name_out (op : Int) (h : op < 0 ∨ 52 ≤ op) : nameL op = [] := by
  unfold nameL
  rcases h with h | h
  · rw [ofL_lo _ _ _ (by omega), ofL_lo _ _ _ (by omega), ofL_lo _ _ _ (by omega)]; rfl
  · rw [ofL_hi _ _ _ (by simp [plainW]; omega), ofL_hi _ _ _ (by simp [equalW]; omega), ofL_hi _ _ _ (by simp [signW]; omega)]; rfl
theorem arg_out (c : Int) (h : c < 0 ∨ 21 ≤ c) : argL c = [] := by
  unfold argL
  rcases h with h | h
  · rw [ofL_lo _ _ _ (by omega)]
  · rw [ofL_hi _ _ _ (by simp [argsW]; omega)]
theorem name_fin : ∀ k : Fin 52, nameL (k.val : Int) = ofL namesR 0 (k.val : Int) ∧ (nameL (k.val : Int) = [] ∨ opL (nameL (k.val : Int)) = ((k.val : Int), true)) := by decide +kernel
theorem arg_fin : ∀ k : Fin 21, argL (k.val : Int) = ofL argsR 0 (k.val : Int) ∧ (argL (k.val : Int) = [] ∨ acodeL (argL (k.val : Int)) = ((k.val : Int), true)) := by decide +kernel
theorem name_ref (op : Int) : ofL namesR 0 op = nameL op := by
  rcases range_of op 52 with h | h | ⟨k, rfl⟩
  · rw [name_out op (.inl h), ofL_lo _ _ _ h]
  · rw [name_out op (.inr h), ofL_hi _ _ _ (by simp [namesR]; omega)]
  · exact (name_fin k).1.symm
theorem arg_ref (c : Int) : ofL argsR 0 c = argL c := by
  rcases range_of c 21 with h | h | ⟨k, rfl⟩
  · rw [arg_out c (.inl h), ofL_lo _ _ _ h]
  · rw [arg_out c (.inr h), ofL_hi _ _ _ (by simp [argsR]; omega)]
  · exact (arg_fin k).1.symm
end Go.Proofs.YtagplldaooipmaaGreatDoor
