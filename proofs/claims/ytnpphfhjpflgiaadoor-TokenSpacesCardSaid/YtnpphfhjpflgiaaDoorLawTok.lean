/- The walks of TokenBack and TokenKinds. -/
import Derived.Test.YtnpphfhjpflgiaaDoorTokShow
import Derived.Test.YtnpphfhjpflgiaaDoorName
namespace Go.Proofs.YtnpphfhjpflgiaaDoor
open Go.RowKit

theorem unquote_short (l : List UInt8) : (unquote l).1.length ≤ l.length := by
  unfold unquote
  split
  · simp
  · rw [unq_eq]
    split
    · simp [unqEnd]
    · have h := hal_length _ (inner l) (Nat.le_refl _)
      have h2 : (inner l).length ≤ l.length := by unfold inner; rw [List.length_drop, List.length_take]; omega
      show (hal (inner l)).length ≤ _
      omega
theorem firstT_short (s : List UInt8) (h : s ≠ []) : (firstT s).1.2.1.length ≤ s.length := by
  have h0 : 1 ≤ s.length := List.length_pos_iff.mpr h
  unfold firstT
  simp only
  split
  · split
    · simp [tok0]
    · rw [upper_length, List.length_take]; omega
  · split
    · simp
    · split
      · split
        · simp [tok0]
        · exact Nat.le_trans (unquote_short _) (by rw [List.length_take]; omega)
      · split
        · simpa using h0
        · simp [tok0]
theorem lineF_short (f : Nat) (s : List UInt8) (ts : List Tok) (m : Nat) (h : s.length < f) (hm : s.length ≤ m) (hg : ∀ t ∈ ts, t.2.1.length ≤ m) : ∀ t ∈ (lineF f s ts).1, t.2.1.length ≤ m := by
  induction f generalizing s ts with
  | zero => omega
  | succ f ih =>
    match s with
    | [] => rw [lineF_nil]; exact hg
    | c :: r =>
      simp at h
      by_cases h1 : c = 32 ∨ c = 9
      · rw [lineF_space _ _ _ _ h1]; exact ih r ts (by omega) (by simp at hm; omega) hg
      by_cases h2 : c = 59
      · rw [lineF_note _ _ _ _ h2]; exact hg
      rw [lineF_tok _ _ _ _ (fun e => h1 (.inl e)) (fun e => h1 (.inr e)) h2]
      split
      · rename_i hk
        have hlen := firstT_len (c :: r) (by simp) hk
        refine ih _ _ (by simp at hlen ⊢; omega) (by rw [List.length_drop]; omega) ?_
        intro t ht
        rcases List.mem_append.mp ht with ht | ht
        · exact hg t ht
        · simp only [List.mem_singleton] at ht; subst ht; exact Nat.le_trans (firstT_short _ (by simp)) hm
      · simp
theorem lineF_err (f : Nat) (s : List UInt8) (ts : List Tok) (h : s.length < f) (he : (lineF f s ts).2 ≠ 0) : (lineF f s ts).1 = [] := by
  induction f generalizing s ts with
  | zero => omega
  | succ f ih =>
    match s with
    | [] => rw [lineF_nil] at he; simp at he
    | c :: r =>
      simp at h
      by_cases h1 : c = 32 ∨ c = 9
      · rw [lineF_space _ _ _ _ h1] at he ⊢; exact ih r ts (by omega) he
      by_cases h2 : c = 59
      · rw [lineF_note _ _ _ _ h2] at he; simp at he
      rw [lineF_tok _ _ _ _ (fun e => h1 (.inl e)) (fun e => h1 (.inr e)) h2] at he ⊢
      by_cases hk : (firstT (c :: r)).2.2 = 0
      · rw [if_pos hk] at he ⊢
        have hlen := firstT_len (c :: r) (by simp) hk
        exact ih _ _ (by simp at hlen ⊢; omega) he
      · rw [if_neg hk]
theorem lineL_err (l : List UInt8) (he : (lineL l).2 ≠ 0) : (lineL l).1 = [] := by
  unfold lineL at *
  split at he
  · rename_i h; rw [if_pos h]
  · rename_i h; rw [if_neg h]; exact lineF_err _ _ _ (by omega) he
theorem lineL_small (l : List UInt8) : ∀ t ∈ (lineL l).1, t.2.2 ≤ 65535 ∧ t.2.1.length ≤ 1000 := by
  intro t ht
  refine ⟨?_, ?_⟩
  · rcases lineL_good l t ht with h | h | h | h
    · rw [h.2.2.2]; omega
    · exact h.2.2
    · rw [h.2.2]; omega
    · rw [h.2.2]; omega
  · unfold lineL at ht
    split at ht
    · simp at ht
    · exact lineF_short _ _ _ 1000 (by omega) (by omega) (by simp) t ht

set_option maxHeartbeats 1000000 in
theorem tokenBack_walk (l : List UInt8) (hl : l.length ≤ maxLen) (w : World) (hg : GW w) :
    Calls Tryd.prog 9 #[.string ⟨l.toArray⟩] w fun e w' => e = .returned (.bool true) ∧ Below w.heap.size w w' := by
  unfold maxLen at hl
  by_cases h : 2000 < l.length
  · have h' : (2000 : Int) < (l.length : Int) := by omega
    go_enter Tryd.func9, Tryd.ntmps9
    go_wp2_with fail
    refine (alive4_any _ hg).mono ?_
    rintro e w1 ⟨rfl, hb⟩
    go_wp2_with fail
    go_ret
    exact ⟨rfl, hb⟩
  have h' : (l.length : Int) ≤ 2000 := by omega
  have hcnt := lineL_count l
  have herr := Lib.hid (lineL_err l)
  have hgood := Lib.hid (lineL_good l)
  have hsm := Lib.hid (lineL_small l)
  go_enter Tryd.func9, Tryd.ntmps9
  go_wp2_with fail
  refine (line_any l _ hg (by omega)).mono ?_
  rintro e w1 ⟨va, rfl, ho1, hb1⟩
  generalize lineL l = L at *
  obtain ⟨ts, k⟩ := L
  have g1 := hg.below hb1
  have ra := Rd.of_own ho1
  clear ho1
  simp only at ra
  by_cases hk : k = 0
  · subst hk
    have hsl := showT_length ts hsm.out
    have HS := Lib.hid (line_shown ts hgood.out)
    have hcs := lineL_count (showT ts)
    replace hcnt : ts.length ≤ 200 := hcnt
    have hslen : (showT ts).length ≤ 1000000 := by omega
    go_wp2_with fail
    refine (tshow_any ts va _ g1 ra (by omega) hsm.out).mono ?_
    rintro e w2 ⟨rfl, hb2⟩
    have B2 := bthen hb1 hb2
    go_wp2_with fail
    refine (line_any (showT ts) _ (hg.below B2) hslen).mono ?_
    rintro e w3 ⟨vb, rfl, ho3, hb3⟩
    have B3 := bthen B2 hb3
    have rb := Rd.of_own ho3
    have ra3 := ((ra.below hb2).more hb2.size).below hb3 |>.more hb3.size
    clear ho3 ra
    by_cases h200 : 200 < (showT ts).length
    · have hq := Lib.hid (HS.out.trans (if_pos h200))
      have h200' : (200 : Int) < ((showT ts).length : Int) := by omega
      rw [hq.out]
      clear rb ra3
      go_wp2_with fail
      refine (alive4_any _ (hg.below B3)).mono ?_
      rintro e w4 ⟨rfl, hb4⟩
      go_wp2_with fail
      go_ret
      exact ⟨rfl, bthen B3 hb4⟩
    · have hq := Lib.hid (HS.out.trans (if_neg h200))
      have h200' : ((showT ts).length : Int) ≤ 200 := by omega
      rw [hq.out] at rb ⊢
      simp only at rb
      go_wp2_with fail
      refine (back_any ts va _ ra3 (by omega)).mono ?_
      rintro e w4 ⟨vc, rfl, ho4, hb4⟩
      have B4 := bthen B3 hb4
      have rb4 := (rb.below hb4).more hb4.size
      have rc := Rd.of_own ho4
      clear ho4 rb ra3
      go_wp2_with fail
      refine (back_any ts vb _ rb4 (by omega)).mono ?_
      rintro e w5 ⟨vd, rfl, ho5, hb5⟩
      have B5 := bthen B4 hb5
      have rc5 := (rc.below hb5).more hb5.size
      have rd := Rd.of_own ho5
      clear ho5 rc rb4
      go_wp2_with fail
      refine (same_any ts ts vc vd _ rc5 rd (by omega) (by omega)).mono ?_
      rintro e w6 ⟨rfl, hb6⟩
      rw [decide_eq_true (rfl : ts = ts)]
      have B6 := bthen B5 hb6
      go_wp2_with fail
      refine (alive4_any _ (hg.below B6)).mono ?_
      rintro e w7 ⟨rfl, hb7⟩
      go_wp2_with fail
      go_ret
      exact ⟨rfl, bthen B6 hb7⟩
  · obtain rfl : ts = [] := herr.out hk
    have hk' : ((k : Int) != 0) = true := by rw [bne_iff_ne]; omega
    obtain ⟨A, c, rfl, _⟩ := ra.form
    clear ra
    go_wp2_with fail
    refine (alive4_any _ g1).mono ?_
    rintro e w2 ⟨rfl, hb2⟩
    go_wp2_with fail
    go_ret
    exact ⟨rfl, bthen hb1 hb2⟩
end Go.Proofs.YtnpphfhjpflgiaaDoor
