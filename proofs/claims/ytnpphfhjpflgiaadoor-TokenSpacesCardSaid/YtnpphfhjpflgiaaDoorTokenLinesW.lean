/- The walk of TokenLines. -/
import Derived.Test.YtnpphfhjpflgiaaDoorAlive4
namespace Go.Proofs.YtnpphfhjpflgiaaDoor
open Go.RowKit

theorem lineF_count (f : Nat) (t : List UInt8) (ts : List Tok) (h : t.length < f) : (lineF f t ts).1.length ≤ ts.length + t.length := by
  induction f generalizing t ts with
  | zero => omega
  | succ f ih =>
    match t with
    | [] => rw [lineF_nil]; simp
    | c :: r =>
      simp at h
      by_cases h1 : c = 32 ∨ c = 9
      · rw [lineF_space _ _ _ _ h1]; have := ih r ts (by omega); simp; omega
      by_cases h2 : c = 59
      · rw [lineF_note _ _ _ _ h2]; simp
      rw [lineF_tok _ _ _ _ (fun e => h1 (.inl e)) (fun e => h1 (.inr e)) h2]
      split
      · rename_i hk
        have hlen := firstT_len (c :: r) (by simp) hk
        have hd : ((c :: r).drop (firstT (c :: r)).2.1).length = (c :: r).length - (firstT (c :: r)).2.1 := List.length_drop
        have := ih ((c :: r).drop (firstT (c :: r)).2.1) (ts ++ [(firstT (c :: r)).1]) (by simp at hd ⊢; omega)
        simp at this hd hlen ⊢
        omega
      · simp
theorem lineL_count (l : List UInt8) : (lineL l).1.length ≤ 200 := by
  unfold lineL
  split
  · simp
  · have := lineF_count (l.length + 1) l [] (by omega)
    simp at this; omega

set_option maxHeartbeats 1000000 in
theorem tokenLines_walk (l : List UInt8) (hl : l.length ≤ maxLen) (w : World) (hg : GW w) :
    Calls Tryd.prog 5 #[.string ⟨l.toArray⟩] w fun e w' => e = .returned (.bool true) ∧ Below w.heap.size w w' := by
  unfold maxLen at hl
  by_cases h : 2000 < l.length
  · have h' : (2000 : Int) < (l.length : Int) := by omega
    go_enter Tryd.func5, Tryd.ntmps5
    go_wp2_with fail
    refine (alive4_any _ hg).mono ?_
    rintro e w1 ⟨rfl, hb⟩
    go_wp2_with fail
    go_ret
    exact ⟨rfl, hb⟩
  have h' : (l.length : Int) ≤ 2000 := by omega
  have hcnt := lineL_count l
  go_enter Tryd.func5, Tryd.ntmps5
  go_wp2_with fail
  refine (line_any l _ hg (by omega)).mono ?_
  rintro e w1 ⟨va, rfl, ho1, hb1⟩
  go_wp2_with fail
  refine (refLine_any l _ (by omega)).mono ?_
  rintro e w2 ⟨vb, rfl, ho2, hb2⟩
  generalize lineL l = L at *
  have B2 := bthen hb1 hb2
  have ra := (Rd.of_own ho1).below hb2
  have rb := Rd.of_own ho2
  have ra2 := ra.more hb2.size
  clear ho1 ho2 ra
  go_wp2_with fail
  refine (back_any L.1 va _ ra2 (by omega)).mono ?_
  rintro e w3 ⟨vc, rfl, ho3, hb3⟩
  have B3 := bthen B2 hb3
  have rb3 := (rb.below hb3).more hb3.size
  have rc := Rd.of_own ho3
  clear rb ho3 ra2
  go_wp2_with fail
  refine (same_any L.1 L.1 vc vb _ rc rb3 (by omega) (by omega)).mono ?_
  rintro e w4 ⟨rfl, hb4⟩
  rw [decide_eq_true (rfl : L.1 = L.1)]
  have B4 := bthen B3 hb4
  go_wp2_with fail
  refine (alive4_any _ (hg.below B4)).mono ?_
  rintro e w5 ⟨rfl, hb5⟩
  go_wp2_with fail
  go_ret
  exact ⟨rfl, bthen B4 hb5⟩
end Go.Proofs.YtnpphfhjpflgiaaDoor
