/- Layer 3 in plain Lean: numbers' texts. No program in sight. -/
namespace Go.Proofs.YtnpphfhjpflgiaaDoor

def upB (c : UInt8) : UInt8 := if 97 ≤ c.toNat ∧ c.toNat ≤ 122 then c - 32 else c
def upper (l : List UInt8) : List UInt8 := l.map upB

/-- A digit's value; 99: none. -/
def digV (c : UInt8) : Nat := if 48 ≤ c.toNat ∧ c.toNat ≤ 57 then c.toNat - 48 else if 65 ≤ c.toNat ∧ c.toNat ≤ 70 then c.toNat - 55 else 99
/-- The same, -1: none. -/
def digI (c : UInt8) : Int := if digV c < 16 then (digV c : Int) else -1

/-- The base that a text's last letter tells, and how many letters that is. -/
def baseN (c : UInt8) : Nat := bif (c.toNat : Int) == 72 then 16 else bif (c.toNat : Int) == 79 then 8 else bif (c.toNat : Int) == 81 then 8 else bif (c.toNat : Int) == 66 then 2 else 10
def baseC (c : UInt8) : Bool := (c.toNat : Int) == 72 || (c.toNat : Int) == 79 || (c.toNat : Int) == 81 || (c.toNat : Int) == 66 || (c.toNat : Int) == 68
def baseD (l : List UInt8) : List UInt8 := if baseC (l.getLastD 0) then l.dropLast else l

def parseStep (b : Nat) (n : Option Nat) (c : UInt8) : Option Nat := n.bind fun n => if digV c < b then some (min (n * b + digV c) 65536) else none
def parseL (b : Nat) (l : List UInt8) : Option Nat := l.foldl (parseStep b) (some 0)

def parseEnd : Option Nat → Nat × Nat
  | none => (0, 2)
  | some n => if 65535 < n then (0, 5) else (n, 0)
def parse (l : List UInt8) : Nat × Nat :=
  let t := upper l
  if t = [] ∨ (t.headD 0).toNat < 48 ∨ 57 < (t.headD 0).toNat then (0, 2) else parseEnd (parseL (baseN (t.getLastD 0)) (baseD t))

/-- A digit of base 16. -/
def hexD (d : Nat) : UInt8 := UInt8.ofNat (if d < 10 then 48 + d else 55 + d)
/-- A number's digits of base 16, the lowest first. -/
def hexR : Nat → Nat → List UInt8
  | 0, _ => []
  | f + 1, n => if n = 0 then [] else hexD (n % 16) :: hexR f (n / 16)
/-- What is shown. -/
def showN (n : Nat) : List UInt8 :=
  if n < 10 then [UInt8.ofNat (48 + n)] else (let x := 72 :: hexR 5 n; if 57 < (x.getLastD 0).toNat then x ++ [48] else x).reverse

/-- A digit, small letters. -/
def lowD (d : Nat) : UInt8 := UInt8.ofNat (if d < 10 then 48 + d else 87 + d)
/-- A number's digits of a base, the lowest first, one at least. -/
def digR (b : Nat) : Nat → Nat → List UInt8
  | 0, _ => []
  | f + 1, n => lowD (n % b) :: (if n / b = 0 then [] else digR b f (n / b))
def digitsN (n b : Nat) : List UInt8 := (digR b 17 n).reverse

/-- Letters, what a name begins with, digits. -/
def alphaB (c : UInt8) : Bool := decide (97 ≤ c.toNat) && decide (c.toNat ≤ 122) || decide (65 ≤ c.toNat) && decide (c.toNat ≤ 90)
def letB (c : UInt8) : Bool := alphaB c || c.toNat == 63 || c.toNat == 64 || c.toNat == 95
def numB (c : UInt8) : Bool := decide (48 ≤ c.toNat) && decide (c.toNat ≤ 57)
/-- Which texts are names. -/
def nameB (l : List UInt8) : Bool := decide (1 ≤ l.length) && decide (l.length ≤ 16) && letB (l.headD 0) && l.all fun c => letB c || numB c

theorem parseL_nil (b : Nat) : parseL b [] = some 0 := rfl
theorem parseL_snoc (b : Nat) (l : List UInt8) (c : UInt8) : parseL b (l ++ [c]) = parseStep b (parseL b l) c := by simp [parseL]
theorem foldl_none (b : Nat) (l : List UInt8) : l.foldl (parseStep b) none = none := by
  induction l with
  | nil => rfl
  | cons c r ih => simpa [parseStep] using ih
/-- Once there is none, there is none. -/
theorem parseL_none (b : Nat) (a r : List UInt8) (h : parseL b a = none) : parseL b (a ++ r) = none := by
  unfold parseL at *; rw [List.foldl_append, h]; exact foldl_none b r
theorem snoc_ind {α : Type} {p : List α → Prop} (h0 : p []) (h1 : ∀ a c, p a → p (a ++ [c])) (l : List α) : p l := by
  have : ∀ m : List α, p m.reverse := by
    intro m
    induction m with
    | nil => exact h0
    | cons c r ih => rw [List.reverse_cons]; exact h1 _ _ ih
  simpa using this l.reverse
theorem parseL_le (b : Nat) (l : List UInt8) : ∀ (n : Nat), parseL b l = some n → n ≤ 65536 := by
  refine snoc_ind (p := fun l => ∀ n, parseL b l = some n → n ≤ 65536) ?_ ?_ l
  · intro n h; simp [parseL] at h; omega
  · intro a c ih n h
    rw [parseL_snoc] at h
    cases hp : parseL b a with
    | none => simp [parseStep, hp] at h
    | some m =>
      simp only [parseStep, hp, Option.bind_some] at h
      split at h
      · simp at h; omega
      · cases h
theorem parse_le (l : List UInt8) : (parse l).1 ≤ 65535 ∧ (parse l).2 ≤ 5 := by
  unfold parse
  simp only
  split
  · simp
  · unfold parseEnd
    split
    · simp
    · split <;> simp; omega
theorem baseN_cases (c : UInt8) : baseN c = 16 ∨ baseN c = 8 ∨ baseN c = 2 ∨ baseN c = 10 := by
  unfold baseN
  cases (c.toNat : Int) == 72 <;> cases (c.toNat : Int) == 79 <;> cases (c.toNat : Int) == 81 <;> cases (c.toNat : Int) == 66 <;> simp
theorem last_get (l : List UInt8) (h : 1 ≤ l.length) : l.getLastD 0 = l[l.length - 1]'(by omega) := by
  rw [List.getLastD_eq_getLast?, List.getLast?_eq_getElem?, List.getElem?_eq_getElem (by omega)]; rfl
theorem digV_all (c : UInt8) : digV c < 16 ∨ digV c = 99 := by
  unfold digV; split
  · left; omega
  · split
    · left; omega
    · right; rfl
theorem hexR_zero (f : Nat) : hexR f 0 = [] := by cases f <;> rfl
theorem hexR_length (f n : Nat) : (hexR f n).length ≤ f := by
  induction f generalizing n with
  | zero => simp [hexR]
  | succ f ih =>
    unfold hexR
    split
    · simp
    · have := ih (n / 16); simp; omega
theorem hexR_step {f m : Nat} {xs full : List UInt8} (h0 : 0 < m) (hm : m < 16 ^ f) (hx : xs ++ hexR f m = full) : ∃ f', m / 16 < 16 ^ f' ∧ (xs ++ [hexD (m % 16)]) ++ hexR f' (m / 16) = full := by
  cases f with
  | zero => simp at hm; omega
  | succ f =>
    refine ⟨f, ?_, ?_⟩
    · rw [Nat.pow_succ] at hm; omega
    · rw [← hx, hexR, if_neg (by omega), List.append_assoc]; rfl
theorem hexD_big (d : Nat) (h : 9 < d) (h' : d < 16) : UInt8.ofNat (65 + d - 10) = hexD d ∧ 57 < (hexD d).toNat := by
  unfold hexD; rw [if_neg (by omega), show 65 + d - 10 = 55 + d by omega]
  refine ⟨rfl, ?_⟩
  rw [UInt8.toNat_ofNat']; omega
theorem hexD_small (d : Nat) (h : ¬ 9 < d) : UInt8.ofNat (48 + d) = hexD d ∧ ¬ 57 < (hexD d).toNat := by
  unfold hexD; rw [if_pos (by omega)]
  refine ⟨rfl, ?_⟩
  rw [UInt8.toNat_ofNat']; omega
theorem digR_length (b f n : Nat) : (digR b f n).length ≤ f := by
  induction f generalizing n with
  | zero => simp [digR]
  | succ f ih =>
    unfold digR
    have := ih (n / b)
    split <;> simp <;> omega
theorem upper_length (l : List UInt8) : (upper l).length = l.length := by simp [upper]
theorem upper_eq_nil (l : List UInt8) : upper l = [] ↔ l = [] := by simp [upper]
end Go.Proofs.YtnpphfhjpflgiaaDoor
