/- Plain laws of numbers' texts: what is shown is read as it was; digits of each base; no shorter text. -/
import Derived.Test.YtnpphfhjpflgiaaDoorPureNum
namespace Go.Proofs.YtnpphfhjpflgiaaDoor

theorem digV_hexD (d : Nat) (h : d < 16) : digV (hexD d) = d := by
  have : ∀ d : Fin 16, digV (hexD d.val) = d.val := by decide +kernel
  exact this ⟨d, h⟩
theorem upB_hexD (d : Nat) (h : d < 16) : upB (hexD d) = hexD d := by
  have : ∀ d : Fin 16, upB (hexD d.val) = hexD d.val := by decide +kernel
  exact this ⟨d, h⟩
theorem upB_lowD (d : Nat) (h : d < 16) : upB (lowD d) = hexD d := by
  have : ∀ d : Fin 16, upB (lowD d.val) = hexD d.val := by decide +kernel
  exact this ⟨d, h⟩
theorem hexD_ge (d : Nat) (h : d < 16) : 48 ≤ (hexD d).toNat := by
  have : ∀ d : Fin 16, 48 ≤ (hexD d.val).toNat := by decide +kernel
  exact this ⟨d, h⟩
theorem hexD_ten (d : Nat) (h : d < 10) : (hexD d).toNat ≤ 57 := by
  have : ∀ d : Fin 10, (hexD d.val).toNat ≤ 57 := by decide +kernel
  exact this ⟨d, h⟩
theorem hexD_zero (d : Nat) (h : d < 16) (h0 : (hexD d).toNat = 48) : d = 0 := by
  have : ∀ d : Fin 16, (hexD d.val).toNat = 48 → d.val = 0 := by decide +kernel
  exact this ⟨d, h⟩ h0

theorem parseStep_hexD (b n d : Nat) (hb : b ≤ 16) (hd : d < b) : parseStep b (some n) (hexD d) = some (min (n * b + d) 65536) := by
  unfold parseStep
  rw [Option.bind_some, digV_hexD d (by omega), if_pos hd]

/-- Digits of base 16, read. -/
theorem parse_hexR (f n : Nat) (hn : n ≤ 65535) (hf : n < 16 ^ f) : parseL 16 (hexR f n).reverse = some n := by
  induction f generalizing n with
  | zero => simp at hf; subst hf; rfl
  | succ f ih =>
    unfold hexR
    split
    · rename_i h; subst h; rfl
    · rw [List.reverse_cons, parseL_snoc, ih (n / 16) (by omega) (by rw [Nat.pow_succ] at hf; omega), parseStep_hexD 16 _ _ (by omega) (by omega)]
      congr 1; omega
theorem parseL_cons0 (b : Nat) (l : List UInt8) (hb : 0 < b) : parseL b (48 :: l) = parseL b l := by
  unfold parseL
  rw [List.foldl_cons]
  have : parseStep b (some 0) 48 = some 0 := by
    unfold parseStep
    have : digV 48 = 0 := by decide
    simp [this, hb]
  rw [this]
theorem upper_reverse (l : List UInt8) : upper l.reverse = (upper l).reverse := by simp [upper]
theorem upper_append (a b : List UInt8) : upper (a ++ b) = upper a ++ upper b := by simp [upper]
theorem upper_hexR (f n : Nat) : upper (hexR f n) = hexR f n := by
  induction f generalizing n with
  | zero => rfl
  | succ f ih =>
    unfold hexR
    split
    · rfl
    · show upB _ :: upper _ = _
      rw [upB_hexD _ (by omega), ih]

/-- A text that ends with a base's letter. -/
theorem parse_letter (l s : List UInt8) (c : UInt8) (h : upper l = s ++ [c]) (hc : baseC c = true) (h1 : s ≠ []) (h2 : 48 ≤ (s.headD 0).toNat) (h3 : (s.headD 0).toNat ≤ 57) :
    parse l = parseEnd (parseL (baseN c) s) := by
  unfold parse
  have hh : (s ++ [c]).headD 0 = s.headD 0 := by cases s with | nil => simp at h1 | cons a r => rfl
  simp only [h]
  rw [if_neg (by rw [hh, not_or, not_or]; exact ⟨by simp, by omega, by omega⟩)]
  unfold baseD
  simp [hc]
/-- A text without. -/
theorem parse_plain (l s : List UInt8) (h : upper l = s) (hc : baseC (s.getLastD 0) = false) (h1 : s ≠ []) (h2 : 48 ≤ (s.headD 0).toNat) (h3 : (s.headD 0).toNat ≤ 57) :
    parse l = parseEnd (parseL (baseN (s.getLastD 0)) s) := by
  unfold parse
  simp only [h]
  rw [if_neg (by rw [not_or, not_or]; exact ⟨h1, by omega, by omega⟩)]
  unfold baseD
  rw [hc]; rfl
theorem parseEnd_le (n : Nat) (h : n ≤ 65535) : parseEnd (some n) = (n, 0) := by
  show (if 65535 < n then (0, 5) else (n, 0)) = _; rw [if_neg (by omega)]

/-- The digits, the highest first, of a number that is not 0. -/
theorem hexR_last (f n : Nat) (h0 : 0 < n) (hf : n < 16 ^ f) : ∃ d a, 0 < d ∧ d < 16 ∧ hexR f n = a ++ [hexD d] := by
  induction f generalizing n with
  | zero => simp at hf; omega
  | succ f ih =>
    unfold hexR
    rw [if_neg (by omega)]
    by_cases h : n / 16 = 0
    · refine ⟨n % 16, [], by omega, by omega, ?_⟩
      rw [h, hexR_zero]; rfl
    · obtain ⟨d, a, h1, h2, h3⟩ := ih (n / 16) (by omega) (by rw [Nat.pow_succ] at hf; omega)
      exact ⟨d, hexD (n % 16) :: a, h1, h2, by rw [h3]; rfl⟩

theorem hexR_short (f n k : Nat) (h : n < 16 ^ k) : (hexR f n).length ≤ k := by
  induction f generalizing n k with
  | zero => simp [hexR]
  | succ f ih =>
    unfold hexR
    split
    · simp
    · cases k with
      | zero => simp at h; omega
      | succ k =>
        have := ih (n / 16) k (by rw [Nat.pow_succ] at h; omega)
        simp; omega
/-- What is shown, from 10 on, in two forms. -/
theorem showN_forms (n : Nat) (h10 : ¬ n < 10) (hn : n ≤ 65535) : ∃ d a, 0 < d ∧ d < 16 ∧ (hexR 5 n).reverse = hexD d :: a ∧ a.length ≤ 3 ∧
    ((9 < d ∧ showN n = 48 :: hexD d :: (a ++ [72])) ∨ (d ≤ 9 ∧ showN n = hexD d :: (a ++ [72]))) := by
  obtain ⟨d, a, h1, h2, h3⟩ := hexR_last 5 n (by omega) (by omega)
  have hl := hexR_short 5 n 4 (by omega)
  refine ⟨d, a.reverse, h1, h2, by rw [h3]; simp, by rw [h3] at hl; simp at hl ⊢; omega, ?_⟩
  unfold showN
  rw [if_neg h10, h3]
  have hlast : (72 :: (a ++ [hexD d])).getLastD 0 = hexD d := by rw [← List.cons_append, List.getLastD_concat]
  simp only [hlast]
  by_cases h9 : 9 < d
  · left
    refine ⟨h9, ?_⟩
    rw [if_pos (hexD_big d h9 h2).2]
    simp
  · right
    refine ⟨by omega, ?_⟩
    rw [if_neg (hexD_small d h9).2]
    simp

theorem show_back (n : Nat) (hn : n ≤ 65535) : parse (showN n) = (n, 0) := by
  by_cases h10 : n < 10
  · have : ∀ n : Fin 10, parse (showN n.val) = (n.val, 0) := by decide +kernel
    exact this ⟨n, h10⟩
  obtain ⟨d, a, h1, h2, h3, h4, h5⟩ := showN_forms n h10 hn
  have hp := parse_hexR 5 n hn (by omega)
  rw [h3] at hp
  have hu : upper (hexD d :: a) = hexD d :: a := by rw [← h3, upper_reverse, upper_hexR]
  have hua : upper a = a := by simpa [upper, upB_hexD d h2] using hu
  rcases h5 with ⟨h9, h5⟩ | ⟨h9, h5⟩
  · rw [h5, parse_letter _ (48 :: hexD d :: a) 72 (by
      show upB 48 :: upB (hexD d) :: upper (a ++ [72]) = _
      rw [upB_hexD d h2, upper_append, hua]; rfl) (by decide) (by simp) (by simp) (by simp)]
    rw [show baseN 72 = 16 by decide, parseL_cons0 _ _ (by omega), hp, parseEnd_le n hn]
  · rw [h5, parse_letter _ (hexD d :: a) 72 (by
      show upB (hexD d) :: upper (a ++ [72]) = _
      rw [upB_hexD d h2, upper_append, hua]; rfl) (by decide) (by simp) (hexD_ge d h2) (hexD_ten d (by omega))]
    rw [show baseN 72 = 16 by decide, hp, parseEnd_le n hn]

/-- Digits of any base, read. -/
theorem parse_digR (b f n : Nat) (hb : 2 ≤ b) (hb' : b ≤ 16) (hn : n ≤ 65535) (hf : n < b ^ (f + 1)) : parseL b (upper (digR b (f + 1) n)).reverse = some n := by
  induction f generalizing n with
  | zero =>
    have hlt : n < b := by simpa using hf
    unfold digR
    rw [Nat.div_eq_of_lt hlt, if_pos rfl, Nat.mod_eq_of_lt hlt]
    show parseL b [upB (lowD n)] = _
    rw [upB_lowD n (by omega), show [hexD n] = [] ++ [hexD n] from rfl, parseL_snoc, parseL_nil, parseStep_hexD b 0 n hb' hlt]
    congr 1; omega
  | succ f ih =>
    have hm : n % b < b := Nat.mod_lt _ (by omega)
    have hdm := Nat.div_add_mod n b
    have hle := Nat.div_le_self n b
    unfold digR
    show parseL b (upB (lowD (n % b)) :: upper _).reverse = _
    rw [upB_lowD _ (by omega), List.reverse_cons, parseL_snoc]
    by_cases h : n / b = 0
    · rw [if_pos h]
      show parseStep b (parseL b []) _ = _
      rw [parseL_nil, parseStep_hexD b 0 _ hb' hm]
      congr 1
      rw [h] at hdm; simp at hdm; omega
    · rw [if_neg h, ih (n / b) (by omega) (by rw [Nat.pow_succ] at hf; exact Nat.div_lt_of_lt_mul (by rw [Nat.mul_comm]; exact hf)), parseStep_hexD b _ _ hb' hm, Nat.mul_comm, hdm]
      congr 1; omega
theorem digits_parse (n b : Nat) (hb : 2 ≤ b) (hb' : b ≤ 16) (hn : n ≤ 65535) : parseL b (upper (digitsN n b)) = some n := by
  unfold digitsN
  rw [upper_reverse]
  exact parse_digR b 16 n hb hb' hn (Nat.lt_of_lt_of_le (by omega) (Nat.pow_le_pow_left hb 17))
theorem digR_all (b f n : Nat) (hb : 2 ≤ b) (hb' : b ≤ 16) : ∀ c ∈ upper (digR b f n), ∃ d, d < b ∧ c = hexD d := by
  induction f generalizing n with
  | zero => intro c hc; simp [digR, upper] at hc
  | succ f ih =>
    intro c hc
    unfold digR at hc
    have hm : n % b < b := Nat.mod_lt _ (by omega)
    have hc' : c = upB (lowD (n % b)) ∨ c ∈ upper (if n / b = 0 then [] else digR b f (n / b)) := by simpa [upper] using hc
    rcases hc' with hc' | hc'
    · exact ⟨n % b, hm, by rw [hc', upB_lowD _ (by omega)]⟩
    · split at hc'
      · simp [upper] at hc'
      · exact ih _ c hc'
theorem digits_ne (n b : Nat) : upper (digitsN n b) ≠ [] := by
  unfold digitsN digR; simp [upper]
theorem digits_head (n b : Nat) (hb : 2 ≤ b) (hb' : b ≤ 10) : 48 ≤ ((upper (digitsN n b)).headD 0).toNat ∧ ((upper (digitsN n b)).headD 0).toNat ≤ 57 := by
  have hall := digR_all b 17 n hb (by omega)
  have hne := digits_ne n b
  cases h : upper (digitsN n b) with
  | nil => exact absurd h hne
  | cons c r =>
    obtain ⟨d, h1, h2⟩ := hall c (by
      have : c ∈ upper (digitsN n b) := by rw [h]; simp
      unfold digitsN at this; rw [upper_reverse] at this; simpa using this)
    simp only [List.headD_cons, h2]
    exact ⟨hexD_ge d (by omega), hexD_ten d (by omega)⟩
theorem digits_len (n b : Nat) : (digitsN n b).length ≤ 17 := by unfold digitsN; rw [List.length_reverse]; exact digR_length _ _ _

theorem bases_letter (n b : Nat) (c : UInt8) (hb : 2 ≤ b) (hb' : b ≤ 10) (hn : n ≤ 65535) (hc : baseC (upB c) = true) (hN : baseN (upB c) = b) : parse (digitsN n b ++ [c]) = (n, 0) := by
  rw [parse_letter _ (upper (digitsN n b)) (upB c) (by rw [upper_append]; rfl) hc (digits_ne n b) (digits_head n b hb hb').1 (digits_head n b hb hb').2, hN, digits_parse n b hb (by omega) hn, parseEnd_le n hn]
theorem bases_hex (n : Nat) (hn : n ≤ 65535) : parse (48 :: (digitsN n 16 ++ [72])) = (n, 0) := by
  rw [parse_letter _ (48 :: upper (digitsN n 16)) 72 (by show upB 48 :: upper (_ ++ [72]) = _; rw [upper_append]; rfl) (by decide) (by simp) (by simp) (by simp),
    show baseN 72 = 16 by decide, parseL_cons0 _ _ (by omega), digits_parse n 16 (by omega) (by omega) hn, parseEnd_le n hn]
theorem bases_ten (n : Nat) (hn : n ≤ 65535) : parse (digitsN n 10) = (n, 0) := by
  have hl : ∃ d, d < 10 ∧ (upper (digitsN n 10)).getLastD 0 = hexD d := by
    have hall := digR_all 10 17 n (by omega) (by omega)
    have hne := digits_ne n 10
    obtain ⟨d, h1, h2⟩ := hall ((upper (digitsN n 10)).getLastD 0) (by
      have : (upper (digitsN n 10)).getLastD 0 ∈ upper (digitsN n 10) := by
        rw [List.getLastD_eq_getLast?, List.getLast?_eq_some_getLast hne]; exact List.getLast_mem hne
      have e : upper (digitsN n 10) = (upper (digR 10 17 n)).reverse := by unfold digitsN; rw [upper_reverse]
      rw [e] at this ⊢
      exact List.mem_reverse.1 this)
    exact ⟨d, h1, h2⟩
  obtain ⟨d, h1, h2⟩ := hl
  have hd : ∀ d : Fin 10, baseC (hexD d.val) = false ∧ baseN (hexD d.val) = 10 := by decide +kernel
  have hd' := hd ⟨d, h1⟩
  rw [parse_plain _ _ rfl (by rw [h2]; exact hd'.1) (digits_ne n 10) (digits_head n 10 (by omega) (by omega)).1 (digits_head n 10 (by omega) (by omega)).2, h2, hd'.2, digits_parse n 10 (by omega) (by omega) hn, parseEnd_le n hn]

theorem foldl_top (l : List UInt8) (n : Nat) (h : l.foldl (parseStep 16) (some 65536) = some n) : n = 65536 := by
  induction l generalizing n with
  | nil => simp at h; omega
  | cons c r ih =>
    rw [List.foldl_cons] at h
    by_cases hd : digV c < 16
    · have : parseStep 16 (some 65536) c = some 65536 := by
        unfold parseStep; rw [Option.bind_some, if_pos hd]; congr 1; omega
      rw [this] at h; exact ih n h
    · have : parseStep 16 (some 65536) c = none := by
        unfold parseStep; rw [Option.bind_some, if_neg hd]
      rw [this, foldl_none] at h; cases h
theorem foldl_lt (l : List UInt8) (a b n : Nat) (hab : a < b) (h : l.foldl (parseStep 16) (some b) = some n) (hn : n ≤ 65535) : ∃ m, l.foldl (parseStep 16) (some a) = some m ∧ m < n := by
  induction l generalizing a b with
  | nil => simp at h; exact ⟨a, rfl, by omega⟩
  | cons c r ih =>
    rw [List.foldl_cons] at h ⊢
    by_cases hd : digV c < 16
    · have ha : parseStep 16 (some a) c = some (min (a * 16 + digV c) 65536) := by unfold parseStep; rw [Option.bind_some, if_pos hd]
      have hb : parseStep 16 (some b) c = some (min (b * 16 + digV c) 65536) := by unfold parseStep; rw [Option.bind_some, if_pos hd]
      rw [hb] at h
      rw [ha]
      by_cases ht : b * 16 + digV c < 65536
      · exact ih _ _ (by omega) h
      · rw [show min (b * 16 + digV c) 65536 = 65536 by omega] at h
        have := foldl_top r n h
        omega
    · have : parseStep 16 (some b) c = none := by unfold parseStep; rw [Option.bind_some, if_neg hd]
      rw [this, foldl_none] at h; cases h

/-- What is shown has no shorter text of base 16. -/
theorem show_short (n : Nat) (h10 : ¬ n < 10) (hn : n ≤ 65535) : ∃ c r, showN n = c :: r ∧ r.length ≤ 5 ∧ 48 ≤ c.toNat ∧ c.toNat ≤ 57 ∧
    ((c.toNat = 48 ∧ (parse r).2 = 2) ∨ (c.toNat ≠ 48 ∧ (parse (48 :: r)).1 ≠ n)) := by
  obtain ⟨d, a, h1, h2, h3, h4, h5⟩ := showN_forms n h10 hn
  have hp := parse_hexR 5 n hn (by omega)
  rw [h3] at hp
  have hu : upper (hexD d :: a) = hexD d :: a := by rw [← h3, upper_reverse, upper_hexR]
  have hua : upper a = a := by simpa [upper, upB_hexD d h2] using hu
  rcases h5 with ⟨h9, h5⟩ | ⟨h9, h5⟩
  · refine ⟨48, hexD d :: (a ++ [72]), h5, by simp; omega, by decide, by decide, .inl ⟨by decide, ?_⟩⟩
    unfold parse
    have : upper (hexD d :: (a ++ [72])) = hexD d :: (a ++ [72]) := by
      show upB (hexD d) :: upper (a ++ [72]) = _
      rw [upB_hexD d h2, upper_append, hua]; rfl
    simp only [this]
    rw [if_pos (.inr (.inr (hexD_big d h9 h2).2))]
  · refine ⟨hexD d, a ++ [72], h5, by simp; omega, hexD_ge d h2, hexD_ten d (by omega), .inr ⟨fun h => by have := hexD_zero d h2 h; omega, ?_⟩⟩
    rw [parse_letter _ (48 :: a) 72 (by
      show upB 48 :: upper (a ++ [72]) = _
      rw [upper_append, hua]; rfl) (by decide) (by simp) (by simp) (by simp)]
    rw [show baseN 72 = 16 by decide, parseL_cons0 _ _ (by omega)]
    have hst : parseStep 16 (some 0) (hexD d) = some d := by rw [parseStep_hexD 16 0 d (by omega) h2]; congr 1; omega
    have hp' : a.foldl (parseStep 16) (some d) = some n := by
      have := hp; unfold parseL at this; rw [List.foldl_cons, hst] at this; exact this
    obtain ⟨m, hm1, hm2⟩ := foldl_lt a 0 d n h1 hp' hn
    unfold parseL
    rw [hm1, parseEnd_le m (by omega)]
    simp; omega
end Go.Proofs.YtnpphfhjpflgiaaDoor
