/- What a right instruction's text is like. -/
import Derived.Test.YtmmdniahfldljaaDoorT86j
namespace Go.Proofs.YtmmdniahfldljaaDoor
open Go.RowKit

def clB (x : UInt8) : Bool := !Lib.isSp x && !(x == 44)
theorem arg_cl : ∀ k : Fin 21, (argL (k.val : Int)).all clB = true := by decide +kernel
theorem name_cl : ∀ k : Fin 52, (nameL (k.val : Int)).all clB = true := by decide +kernel
theorem arg_pos : ∀ k : Fin 21, 1 ≤ k.val → argL (k.val : Int) ≠ [] := by decide +kernel
theorem name_pos : ∀ k : Fin 52, (20 ≤ k.val ∧ k.val ≤ 29) ∨ k.val = 35 → nameL (k.val : Int) ≠ [] := by decide +kernel
theorem argL_cl (c : Int) : (argL c).all clB = true := by
  by_cases h : 0 ≤ c ∧ c ≤ 20
  · have := arg_cl ⟨c.toNat, by omega⟩
    rwa [show ((⟨c.toNat, by omega⟩ : Fin 21).val : Int) = c by simp; omega] at this
  · have : argL c = [] := by unfold argL ofL; rw [if_pos]; have : (argsW.length : Int) = 20 := by decide
                             omega
    rw [this]; rfl
theorem nameL_cl (c : Int) : (nameL c).all clB = true := by
  by_cases h : 0 ≤ c ∧ c ≤ 51
  · have := name_cl ⟨c.toNat, by omega⟩
    rwa [show ((⟨c.toNat, by omega⟩ : Fin 52).val : Int) = c by simp; omega] at this
  · have h1 : (plainW.length : Int) = 35 := by decide
    have h2 : (equalW.length : Int) = 4 := by decide
    have h3 : (signW.length : Int) = 4 := by decide
    have : nameL c = [] := by
      unfold nameL ofL
      rw [if_pos (by omega), if_pos (by omega), if_pos (by omega)]
      rfl
    rw [this]; rfl
theorem argL_pos (c : Int) (h : 1 ≤ c ∧ c ≤ 20) : argL c ≠ [] := by
  have := arg_pos ⟨c.toNat, by omega⟩ (by simp; omega)
  rwa [show ((⟨c.toNat, by omega⟩ : Fin 21).val : Int) = c by simp; omega] at this
theorem dec_cl (n : Nat) : (Lib.decDigits n).all clB = true := by
  rw [List.all_eq_true]
  intro x hx
  have := dec_ok n x hx
  have h2 : ∀ k : Fin 256, 48 ≤ k.val ∧ k.val < 58 → clB (UInt8.ofNat k.val) = true := by decide +kernel
  have h3 := h2 ⟨x.toNat, x.toNat_lt⟩ this
  simpa using h3
theorem rep_cl (c : Int) (n : Nat) (h : 1 ≤ c ∧ c ≤ 20) (hn : n ≤ 65535) : (repL c n).all clB = true ∧ repL c n ≠ [] := by
  rw [rep_eq]
  have hd := dec_cl n
  have hl := (dec_len n hn).2
  split
  · refine ⟨?_, by simp⟩
    rw [List.all_append, List.all_append, hd]
    decide
  · split
    · exact ⟨hd, fun h => by rw [h] at hl; simp at hl⟩
    · exact ⟨argL_cl c, argL_pos c h⟩
theorem cl_sp {x : UInt8} (h : clB x = true) : Lib.isSp x = false ∧ x ≠ 44 := by
  unfold clB at h
  simpa using h
/-- A text that begins and ends with no space is trimmed to itself. -/
theorem trim_id (a b : UInt8) (l : List UInt8) (ha : Lib.isSp a = false) (hb : Lib.isSp b = false) (r : List UInt8) (h1 : ∃ q, r = a :: q) (h2 : r = l ++ [b]) : Lib.trimSpace r = r := by
  obtain ⟨q, rfl⟩ := h1
  unfold Lib.trimSpace
  rw [List.dropWhile_cons, if_neg (by simp [ha])]
  rw [h2, List.reverse_append, List.reverse_singleton, List.singleton_append, List.dropWhile_cons, if_neg (by simp [hb])]
  simp
theorem last_mem (J : List UInt8) (h : J ≠ []) : ∃ l b, J = l ++ [b] := ⟨J.dropLast, J.getLast h, (List.dropLast_concat_getLast h).symm⟩
theorem count_cl (l : List UInt8) (h : l.all clB = true) : l.count 44 = 0 := by
  rw [List.count_eq_zero]
  intro hm
  have := (cl_sp (List.all_eq_true.1 h _ hm)).2
  exact this rfl
/-- The text of a name and what follows. -/
theorem text_of (nm J : List UInt8) (hn : nm.all clB = true) (hf : ∃ a q, J = a :: q ∧ clB a = true) (hl : ∃ l b, J = l ++ [b] ∧ clB b = true) : Lib.trimSpace (nm ++ 32 :: J) = if nm = [] then J else nm ++ 32 :: J := by
  obtain ⟨a, q, h1, h2⟩ := hf
  obtain ⟨l, b, h3, h4⟩ := hl
  cases nm with
  | nil =>
    rw [if_pos rfl]
    have e : Lib.trimSpace ([] ++ 32 :: J) = Lib.trimSpace J := by
      unfold Lib.trimSpace
      rw [List.nil_append, List.dropWhile_cons, if_pos (by decide)]
    rw [e]
    exact trim_id a b l (cl_sp h2).1 (cl_sp h4).1 J ⟨q, h1⟩ h3
  | cons c nm =>
    rw [if_neg (by simp)]
    simp at hn
    exact trim_id c b (c :: nm ++ 32 :: l) (cl_sp hn.1).1 (cl_sp h4).1 _ ⟨_, rfl⟩ (by rw [h3]; simp)
def WOk (d s : Int) (nm t : List UInt8) : Prop := 1 ≤ t.length ∧ t.length ≤ 1000 ∧ nm.length ≤ t.length ∧ t.take nm.length = nm ∧ (∃ b, t[t.length - 1]? = some b ∧ b.toNat ≠ 32 ∧ b.toNat ≠ 44) ∧ t.count 44 = (if s = 0 then 0 else 1) ∧ (d = 0 → t = nm)
theorem sp32 {b : UInt8} (h : clB b = true) : b.toNat ≠ 32 ∧ b.toNat ≠ 44 := by
  have h2 : ∀ k : Fin 256, clB (UInt8.ofNat k.val) = true → k.val ≠ 32 ∧ k.val ≠ 44 := by decide +kernel
  exact h2 ⟨b.toNat, b.toNat_lt⟩ (by simpa using h)
theorem wok_of (d s : Int) (nm J : List UInt8) (hn : nm.all clB = true) (hnl : nm.length ≤ 100) (h0 : J ≠ []) (hjl : J.length ≤ 100) (hf : ∃ a q, J = a :: q ∧ clB a = true) (hl : ∃ l b, J = l ++ [b] ∧ clB b = true) (hc : J.count 44 = (if s = 0 then 0 else 1)) (hd : d ≠ 0) : WOk d s nm (Lib.trimSpace (nm ++ 32 :: J)) := by
  rw [text_of nm J hn hf hl]
  obtain ⟨l, b, h3, h4⟩ := hl
  have hp : 1 ≤ J.length := List.length_pos_iff.2 h0
  have hlast : ∀ p : List UInt8, (p ++ J)[(p ++ J).length - 1]? = some b := fun p => by rw [h3, ← List.append_assoc]; simp
  split
  · rename_i h5
    subst h5
    refine ⟨hp, by omega, by simp, by simp, ⟨b, by simpa using hlast [], sp32 h4⟩, hc, fun h => absurd h hd⟩
  · refine ⟨by simp; omega, by simp; omega, by simp, by simp, ⟨b, by have := hlast (nm ++ [32]); simpa using this, sp32 h4⟩, ?_, fun h => absurd h hd⟩
    rw [List.count_append, count_cl nm hn, List.count_cons, hc]
    simp
theorem words_ok (op d s : Int) (n : Nat) (hn : n ≤ 65535) (h : okAll op d s) : WOk d s (nameL op) (show9T op d s n) := by
  have hnc := nameL_cl op
  have hnl := name_len op
  have all_first : ∀ J : List UInt8, J ≠ [] → J.all clB = true → ∃ a q, J = a :: q ∧ clB a = true := fun J h0 ha => by
    cases J with
    | nil => exact absurd rfl h0
    | cons a q => simp at ha; exact ⟨a, q, rfl, ha.1⟩
  have all_last : ∀ J : List UInt8, J ≠ [] → J.all clB = true → ∃ l b, J = l ++ [b] ∧ clB b = true := fun J h0 ha => by
    obtain ⟨l, b, e⟩ := last_mem J h0
    rw [e, List.all_append] at ha
    simp at ha
    exact ⟨l, b, e, ha.2⟩
  unfold show9T argsT
  rcases h with ⟨hs, hd1, hd2, hs1, hs2⟩ | ⟨hs, hd1, hd2⟩ | ⟨hs, hd, ho⟩
  · obtain ⟨r1, r2⟩ := rep_cl d n ⟨hd1, hd2⟩ hn
    obtain ⟨r3, r4⟩ := rep_cl s n ⟨hs1, hs2⟩ hn
    have l1 := (rep_asc d n hn).2
    have l2 := (rep_asc s n hn).2
    rw [if_neg (argL_pos d ⟨hd1, hd2⟩), if_neg (argL_pos s ⟨hs1, hs2⟩)]
    have e : [44].intercalate ([repL d n] ++ [repL s n]) = repL d n ++ 44 :: repL s n := by simp [List.intercalate, List.intersperse]
    rw [e]
    obtain ⟨a, q, e1, e2⟩ := all_first _ r2 r1
    obtain ⟨l, b, e3, e4⟩ := all_last _ r4 r3
    refine wok_of d s _ _ hnc (by omega) (by simp) (by simp; omega) ⟨a, q ++ 44 :: repL s n, by rw [e1]; simp, e2⟩ ⟨repL d n ++ 44 :: l, b, by rw [e3]; simp, e4⟩ ?_ (by omega)
    rw [List.count_append, List.count_cons, count_cl _ r1, count_cl _ r3, if_neg hs]
    simp
  · subst hs
    obtain ⟨r1, r2⟩ := rep_cl d n ⟨hd1, hd2⟩ hn
    have l1 := (rep_asc d n hn).2
    rw [if_neg (argL_pos d ⟨hd1, hd2⟩), if_pos (by decide)]
    have e : [44].intercalate ([repL d n] ++ []) = repL d n := by simp [List.intercalate]
    rw [e]
    exact wok_of d 0 _ _ hnc (by omega) r2 (by omega) (all_first _ r2 r1) (all_last _ r2 r1) (by rw [count_cl _ r1]; simp) (by omega)
  · subst hs hd
    rw [if_pos (by decide)]
    have hnp : nameL op ≠ [] := by
      have := name_pos ⟨op.toNat, by omega⟩ (by simp; omega)
      rwa [show ((⟨op.toNat, by omega⟩ : Fin 52).val : Int) = op by simp; omega] at this
    obtain ⟨a, q, e1, e2⟩ := all_first _ hnp hnc
    obtain ⟨l, b, e3, e4⟩ := all_last _ hnp hnc
    have e : Lib.trimSpace (nameL op ++ 32 :: [44].intercalate ([] ++ [])) = nameL op := by
      unfold Lib.trimSpace
      rw [e1, List.cons_append, List.dropWhile_cons, if_neg (by simp [(cl_sp e2).1]), ← List.cons_append, ← e1]
      have : (nameL op ++ 32 :: [44].intercalate ([] ++ [])).reverse = 32 :: (nameL op).reverse := by simp [List.intercalate]
      rw [this, List.dropWhile_cons, if_pos (by decide), e3, List.reverse_append, List.reverse_singleton, List.singleton_append, List.dropWhile_cons, if_neg (by simp [(cl_sp e4).1])]
      simp
    rw [e]
    have hp : 1 ≤ (nameL op).length := List.length_pos_iff.2 hnp
    exact ⟨hp, by omega, Nat.le_refl _, by simp, ⟨b, by rw [e3]; simp, sp32 e4⟩, by rw [count_cl _ hnc]; rfl, fun _ => rfl⟩
end Go.Proofs.YtmmdniahfldljaaDoor
