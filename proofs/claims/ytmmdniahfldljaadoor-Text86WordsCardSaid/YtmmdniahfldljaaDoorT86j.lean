/- isa86: one, heads, Right; text86.Show. -/
import Derived.Test.YtmmdniahfldljaaDoorT86i
namespace Go.Proofs.YtmmdniahfldljaaDoor
open Go.RowKit

set_option maxHeartbeats 8000000 in
set_option maxRecDepth 100000 in
theorem one_w (op d : Int) (ho : 10 ≤ op) (ho2 : op ≤ 19) (w : World) : Calls Tryd.prog 32 #[.int .i64 op, .int .i64 d] w (HeadW (1 ≤ d ∧ d ≤ 20) w) := by
  have W1 := Lib.hid (fun W => wide_any d W)
  rcases wide_cases d with rfl | ⟨hd, hd'⟩ | rfl | ⟨hd, hd'⟩ | rfl | rfl | rfl | rfl | hd
  · have wd : wideL 1 = 8 := by unfold wideL; split <;> (try split) <;> omega
    rw [wd] at W1
    clear wd
    go_enter Tryd.func32, Tryd.ntmps32
    go_wp2_with (first | ((with_reducible refine (W1.out _).mono ?_); rintro e w' ⟨rfl, rfl⟩) | ((with_reducible refine (num_w _ _).mono ?_); rintro e w' ⟨z, rfl, rfl⟩) | ((with_reducible refine (mem_w _ _ _).mono ?_); rintro e w' ⟨z, rfl, rfl⟩) | ((with_reducible refine (rm_w _ _ _).mono ?_); rintro e w' ⟨z, rfl, rfl⟩) | ((with_reducible refine (of86_at _ _ _ _ _ _).mono ?_); rintro e w1 ⟨rfl, B1, c0, c1, f0, f1⟩))
    all_goals first
      | (apply bodyPost_ret
         · simp [results, Tryd.results32, go_sem, c0, c1]
           exact rfl
         · rfl
         · refine ⟨_, _, _, _, rfl, fun hne => ?_, (B1.out.setCell (by simp) _).setCell (by simp) _⟩
           (try simp only [beq_iff_eq, bne_iff_ne, Bool.not_eq_true, beq_eq_false_iff_ne, bne_eq_false_iff_eq] at *)
           omega)
      | (apply bodyPost_ret
         · simp [results, Tryd.results32, go_sem]
           exact rfl
         · rfl
         · exact ⟨_, _, _, _, rfl, fun h => absurd rfl h, (Below.refl _ _).alloc (Nat.le_refl _) _⟩)
  · have wd : wideL d = 8 := by unfold wideL; split <;> (try split) <;> omega
    rw [wd] at W1
    clear wd
    have e17 : (d == 17) = false := by rw [beq_eq_false_iff_ne]; omega
    go_enter Tryd.func32, Tryd.ntmps32
    go_wp2_with (first | ((with_reducible refine (W1.out _).mono ?_); rintro e w' ⟨rfl, rfl⟩) | ((with_reducible refine (num_w _ _).mono ?_); rintro e w' ⟨z, rfl, rfl⟩) | ((with_reducible refine (mem_w _ _ _).mono ?_); rintro e w' ⟨z, rfl, rfl⟩) | ((with_reducible refine (rm_w _ _ _).mono ?_); rintro e w' ⟨z, rfl, rfl⟩) | ((with_reducible refine (of86_at _ _ _ _ _ _).mono ?_); rintro e w1 ⟨rfl, B1, c0, c1, f0, f1⟩))
    all_goals first
      | (apply bodyPost_ret
         · simp [results, Tryd.results32, go_sem, c0, c1]
           exact rfl
         · rfl
         · refine ⟨_, _, _, _, rfl, fun hne => ?_, (B1.out.setCell (by simp) _).setCell (by simp) _⟩
           (try simp only [beq_iff_eq, bne_iff_ne, Bool.not_eq_true, beq_eq_false_iff_ne, bne_eq_false_iff_eq] at *)
           omega)
      | (apply bodyPost_ret
         · simp [results, Tryd.results32, go_sem]
           exact rfl
         · rfl
         · exact ⟨_, _, _, _, rfl, fun h => absurd rfl h, (Below.refl _ _).alloc (Nat.le_refl _) _⟩)
  · have wd : wideL 9 = 16 := by unfold wideL; split <;> (try split) <;> omega
    rw [wd] at W1
    clear wd
    go_enter Tryd.func32, Tryd.ntmps32
    go_wp2_with (first | ((with_reducible refine (W1.out _).mono ?_); rintro e w' ⟨rfl, rfl⟩) | ((with_reducible refine (num_w _ _).mono ?_); rintro e w' ⟨z, rfl, rfl⟩) | ((with_reducible refine (mem_w _ _ _).mono ?_); rintro e w' ⟨z, rfl, rfl⟩) | ((with_reducible refine (rm_w _ _ _).mono ?_); rintro e w' ⟨z, rfl, rfl⟩) | ((with_reducible refine (of86_at _ _ _ _ _ _).mono ?_); rintro e w1 ⟨rfl, B1, c0, c1, f0, f1⟩))
    all_goals first
      | (apply bodyPost_ret
         · simp [results, Tryd.results32, go_sem, c0, c1]
           exact rfl
         · rfl
         · refine ⟨_, _, _, _, rfl, fun hne => ?_, (B1.out.setCell (by simp) _).setCell (by simp) _⟩
           (try simp only [beq_iff_eq, bne_iff_ne, Bool.not_eq_true, beq_eq_false_iff_ne, bne_eq_false_iff_eq] at *)
           omega)
      | (apply bodyPost_ret
         · simp [results, Tryd.results32, go_sem]
           exact rfl
         · rfl
         · exact ⟨_, _, _, _, rfl, fun h => absurd rfl h, (Below.refl _ _).alloc (Nat.le_refl _) _⟩)
  · have wd : wideL d = 16 := by unfold wideL; split <;> (try split) <;> omega
    rw [wd] at W1
    clear wd
    have e17 : (d == 17) = false := by rw [beq_eq_false_iff_ne]; omega
    go_enter Tryd.func32, Tryd.ntmps32
    go_wp2_with (first | ((with_reducible refine (W1.out _).mono ?_); rintro e w' ⟨rfl, rfl⟩) | ((with_reducible refine (num_w _ _).mono ?_); rintro e w' ⟨z, rfl, rfl⟩) | ((with_reducible refine (mem_w _ _ _).mono ?_); rintro e w' ⟨z, rfl, rfl⟩) | ((with_reducible refine (rm_w _ _ _).mono ?_); rintro e w' ⟨z, rfl, rfl⟩) | ((with_reducible refine (of86_at _ _ _ _ _ _).mono ?_); rintro e w1 ⟨rfl, B1, c0, c1, f0, f1⟩))
    all_goals first
      | (apply bodyPost_ret
         · simp [results, Tryd.results32, go_sem, c0, c1]
           exact rfl
         · rfl
         · refine ⟨_, _, _, _, rfl, fun hne => ?_, (B1.out.setCell (by simp) _).setCell (by simp) _⟩
           (try simp only [beq_iff_eq, bne_iff_ne, Bool.not_eq_true, beq_eq_false_iff_ne, bne_eq_false_iff_eq] at *)
           omega)
      | (apply bodyPost_ret
         · simp [results, Tryd.results32, go_sem]
           exact rfl
         · rfl
         · exact ⟨_, _, _, _, rfl, fun h => absurd rfl h, (Below.refl _ _).alloc (Nat.le_refl _) _⟩)
  · have wd : wideL 17 = 0 := by unfold wideL; split <;> (try split) <;> omega
    rw [wd] at W1
    clear wd
    go_enter Tryd.func32, Tryd.ntmps32
    go_wp2_with (first | ((with_reducible refine (W1.out _).mono ?_); rintro e w' ⟨rfl, rfl⟩) | ((with_reducible refine (num_w _ _).mono ?_); rintro e w' ⟨z, rfl, rfl⟩) | ((with_reducible refine (mem_w _ _ _).mono ?_); rintro e w' ⟨z, rfl, rfl⟩) | ((with_reducible refine (rm_w _ _ _).mono ?_); rintro e w' ⟨z, rfl, rfl⟩) | ((with_reducible refine (of86_at _ _ _ _ _ _).mono ?_); rintro e w1 ⟨rfl, B1, c0, c1, f0, f1⟩))
    all_goals first
      | (apply bodyPost_ret
         · simp [results, Tryd.results32, go_sem, c0, c1]
           exact rfl
         · rfl
         · refine ⟨_, _, _, _, rfl, fun hne => ?_, (B1.out.setCell (by simp) _).setCell (by simp) _⟩
           (try simp only [beq_iff_eq, bne_iff_ne, Bool.not_eq_true, beq_eq_false_iff_ne, bne_eq_false_iff_eq] at *)
           omega)
      | (apply bodyPost_ret
         · simp [results, Tryd.results32, go_sem]
           exact rfl
         · rfl
         · exact ⟨_, _, _, _, rfl, fun h => absurd rfl h, (Below.refl _ _).alloc (Nat.le_refl _) _⟩)
  · have wd : wideL 18 = 0 := by unfold wideL; split <;> (try split) <;> omega
    rw [wd] at W1
    clear wd
    go_enter Tryd.func32, Tryd.ntmps32
    go_wp2_with (first | ((with_reducible refine (W1.out _).mono ?_); rintro e w' ⟨rfl, rfl⟩) | ((with_reducible refine (num_w _ _).mono ?_); rintro e w' ⟨z, rfl, rfl⟩) | ((with_reducible refine (mem_w _ _ _).mono ?_); rintro e w' ⟨z, rfl, rfl⟩) | ((with_reducible refine (rm_w _ _ _).mono ?_); rintro e w' ⟨z, rfl, rfl⟩) | ((with_reducible refine (of86_at _ _ _ _ _ _).mono ?_); rintro e w1 ⟨rfl, B1, c0, c1, f0, f1⟩))
    all_goals first
      | (apply bodyPost_ret
         · simp [results, Tryd.results32, go_sem, c0, c1]
           exact rfl
         · rfl
         · refine ⟨_, _, _, _, rfl, fun hne => ?_, (B1.out.setCell (by simp) _).setCell (by simp) _⟩
           (try simp only [beq_iff_eq, bne_iff_ne, Bool.not_eq_true, beq_eq_false_iff_ne, bne_eq_false_iff_eq] at *)
           omega)
      | (apply bodyPost_ret
         · simp [results, Tryd.results32, go_sem]
           exact rfl
         · rfl
         · exact ⟨_, _, _, _, rfl, fun h => absurd rfl h, (Below.refl _ _).alloc (Nat.le_refl _) _⟩)
  · have wd : wideL 19 = 0 := by unfold wideL; split <;> (try split) <;> omega
    rw [wd] at W1
    clear wd
    go_enter Tryd.func32, Tryd.ntmps32
    go_wp2_with (first | ((with_reducible refine (W1.out _).mono ?_); rintro e w' ⟨rfl, rfl⟩) | ((with_reducible refine (num_w _ _).mono ?_); rintro e w' ⟨z, rfl, rfl⟩) | ((with_reducible refine (mem_w _ _ _).mono ?_); rintro e w' ⟨z, rfl, rfl⟩) | ((with_reducible refine (rm_w _ _ _).mono ?_); rintro e w' ⟨z, rfl, rfl⟩) | ((with_reducible refine (of86_at _ _ _ _ _ _).mono ?_); rintro e w1 ⟨rfl, B1, c0, c1, f0, f1⟩))
    all_goals first
      | (apply bodyPost_ret
         · simp [results, Tryd.results32, go_sem, c0, c1]
           exact rfl
         · rfl
         · refine ⟨_, _, _, _, rfl, fun hne => ?_, (B1.out.setCell (by simp) _).setCell (by simp) _⟩
           (try simp only [beq_iff_eq, bne_iff_ne, Bool.not_eq_true, beq_eq_false_iff_ne, bne_eq_false_iff_eq] at *)
           omega)
      | (apply bodyPost_ret
         · simp [results, Tryd.results32, go_sem]
           exact rfl
         · rfl
         · exact ⟨_, _, _, _, rfl, fun h => absurd rfl h, (Below.refl _ _).alloc (Nat.le_refl _) _⟩)
  · have wd : wideL 20 = 0 := by unfold wideL; split <;> (try split) <;> omega
    rw [wd] at W1
    clear wd
    go_enter Tryd.func32, Tryd.ntmps32
    go_wp2_with (first | ((with_reducible refine (W1.out _).mono ?_); rintro e w' ⟨rfl, rfl⟩) | ((with_reducible refine (num_w _ _).mono ?_); rintro e w' ⟨z, rfl, rfl⟩) | ((with_reducible refine (mem_w _ _ _).mono ?_); rintro e w' ⟨z, rfl, rfl⟩) | ((with_reducible refine (rm_w _ _ _).mono ?_); rintro e w' ⟨z, rfl, rfl⟩) | ((with_reducible refine (of86_at _ _ _ _ _ _).mono ?_); rintro e w1 ⟨rfl, B1, c0, c1, f0, f1⟩))
    all_goals first
      | (apply bodyPost_ret
         · simp [results, Tryd.results32, go_sem, c0, c1]
           exact rfl
         · rfl
         · refine ⟨_, _, _, _, rfl, fun hne => ?_, (B1.out.setCell (by simp) _).setCell (by simp) _⟩
           (try simp only [beq_iff_eq, bne_iff_ne, Bool.not_eq_true, beq_eq_false_iff_ne, bne_eq_false_iff_eq] at *)
           omega)
      | (apply bodyPost_ret
         · simp [results, Tryd.results32, go_sem]
           exact rfl
         · rfl
         · exact ⟨_, _, _, _, rfl, fun h => absurd rfl h, (Below.refl _ _).alloc (Nat.le_refl _) _⟩)
  · have wd : wideL d = 0 := by unfold wideL; split <;> (try split) <;> omega
    rw [wd] at W1
    clear wd
    have e17 : (d == 17) = false := by rw [beq_eq_false_iff_ne]; omega
    go_enter Tryd.func32, Tryd.ntmps32
    go_wp2_with (first | ((with_reducible refine (W1.out _).mono ?_); rintro e w' ⟨rfl, rfl⟩) | ((with_reducible refine (num_w _ _).mono ?_); rintro e w' ⟨z, rfl, rfl⟩) | ((with_reducible refine (mem_w _ _ _).mono ?_); rintro e w' ⟨z, rfl, rfl⟩) | ((with_reducible refine (rm_w _ _ _).mono ?_); rintro e w' ⟨z, rfl, rfl⟩) | ((with_reducible refine (of86_at _ _ _ _ _ _).mono ?_); rintro e w1 ⟨rfl, B1, c0, c1, f0, f1⟩))
    all_goals first
      | (apply bodyPost_ret
         · simp [results, Tryd.results32, go_sem, c0, c1]
           exact rfl
         · rfl
         · refine ⟨_, _, _, _, rfl, fun hne => ?_, (B1.out.setCell (by simp) _).setCell (by simp) _⟩
           (try simp only [beq_iff_eq, bne_iff_ne, Bool.not_eq_true, beq_eq_false_iff_ne, bne_eq_false_iff_eq] at *)
           omega)
      | (apply bodyPost_ret
         · simp [results, Tryd.results32, go_sem]
           exact rfl
         · rfl
         · exact ⟨_, _, _, _, rfl, fun h => absurd rfl h, (Below.refl _ _).alloc (Nat.le_refl _) _⟩)
theorem two_any (op d s : Int) (hx : -9223372036854775808 ≤ op) (hx2 : op ≤ 9223372036854775807) (w : World) : Calls Tryd.prog 31 #[.int .i64 op, .int .i64 d, .int .i64 s] w (HeadW (okTwo op d s) w) := by
  by_cases h1 : op = 1
  · subst h1; exact two_w1 d s w
  by_cases h2 : op = 17
  · subst h2; exact two_w17 d s w
  by_cases h3 : op = 30
  · subst h3; exact two_w30 d s w
  by_cases h4 : op = 31
  · subst h4; exact two_w31 d s w
  by_cases h5 : 2 ≤ op ∧ op ≤ 9
  · exact two_ws op h5.1 h5.2 d s w
  · exact two_wo op hx hx2 (by omega) h1 h2 h3 h4 d s w
/-- What a right instruction's operands are. -/
def okAll (op d s : Int) : Prop := (s ≠ 0 ∧ okPl d s) ∨ (s = 0 ∧ 1 ≤ d ∧ d ≤ 20) ∨ (s = 0 ∧ d = 0 ∧ ((20 ≤ op ∧ op ≤ 29) ∨ op = 35))
set_option maxHeartbeats 8000000 in
set_option maxRecDepth 100000 in
theorem heads_a (op d s : Int) (hx : -9223372036854775808 ≤ op) (hx2 : op ≤ 9223372036854775807) (w : World) : Calls Tryd.prog 18 #[.int .i64 op, .int .i64 d, .int .i64 s] w (HeadW (okAll op d s) w) := by
  go_enter Tryd.func18, Tryd.ntmps18
  go_wp2_with (first | ((with_reducible refine (two_any _ _ _ (by omega) (by omega) _).mono ?_); rintro e w1 ⟨A1, n1, k1, t1, rfl, hP1, hb1⟩; obtain ⟨B1, c0, c1, f0, f1⟩ := at_box hb1; clear hb1) | ((with_reducible refine (one_w _ _ (by omega) (by omega) _).mono ?_); rintro e w1 ⟨A1, n1, k1, t1, rfl, hP1, hb1⟩; obtain ⟨B1, c0, c1, f0, f1⟩ := at_box hb1; clear hb1) | ((with_reducible refine (of86_at _ _ _ _ _ _).mono ?_); rintro e w1 ⟨rfl, B1, c0, c1, f0, f1⟩))
  all_goals first
    | (apply bodyPost_ret
       · simp [results, Tryd.results18, go_sem, c0, c1]
         exact rfl
       · rfl
       · refine ⟨_, _, _, _, rfl, fun hne => ?_, (B1.out.setCell (by simp) _).setCell (by simp) _⟩
         (try simp only [beq_iff_eq, bne_iff_ne, Bool.not_eq_true, beq_eq_false_iff_ne, bne_eq_false_iff_eq] at *)
         first | (have := hP1 hne; unfold okTwo okPl at this; unfold okAll okPl; omega) | (have := hP1 hne; unfold okAll okPl; omega) | (unfold okAll okPl; omega))
    | (apply bodyPost_ret
       · simp [results, Tryd.results18, go_sem]
         exact rfl
       · rfl
       · exact ⟨_, _, _, _, rfl, fun h => absurd rfl h, (Below.refl _ _).alloc (Nat.le_refl _) _⟩)
def RightW (P : Prop) (w : World) (e : Ending) (w' : World) : Prop := ∃ k : Int, e = .returned (.int .i64 k) ∧ (k = 0 → P) ∧ Below w.heap.size w w'
def ShowW (P : Prop) (t : List UInt8) (w : World) (e : Ending) (w' : World) : Prop := ∃ (k : Int) (l : List UInt8), e = .returned (.tuple #[.string ⟨l.toArray⟩, .int .i64 k]) ∧ ((k = 0 ∧ P ∧ t = l) ∨ (k ≠ 0 ∧ l = [])) ∧ Below w.heap.size w w'
set_option maxHeartbeats 4000000 in
set_option maxRecDepth 100000 in
theorem Right_w (op d s : Int) (n : Nat) (hx : -9223372036854775808 ≤ op) (hx2 : op ≤ 9223372036854775807) (w : World) : Calls Tryd.prog 8 #[.agg #[.int .i64 op, .int .i64 d, .int .i64 s, .int .u16 n]] w (RightW (okAll op d s) w) := by
  have HH := Lib.hid (fun W => heads_a op d s hx hx2 W)
  go_enter Tryd.func8, Tryd.ntmps8
  go_wp2_with fail
  refine (HH.out _).mono ?_
  rintro e w1 ⟨A1, n1, k1, t1, rfl, hP1, hb1⟩
  have B1 := Lib.hid (bthen ((Below.refl w.heap.size w).alloc (Nat.le_refl _) _) hb1)
  have C1 := Lib.hid ((hb1.block w.heap.size (by simp)).trans (heap_alloc_new w _))
  have c3 := cell_of_heap (i := 3) C1.out
  simp at c3
  have hz := lt_of_heap C1.out
  clear hb1 C1
  by_cases h0 : n1 = 0
  · subst h0
    clear hP1
    go_wp2_with fail
    go_ret
    exact ⟨_, rfl, fun h => absurd h (by decide), B1.out.alloc B1.out.size _⟩
  · have HP := Lib.hid (hP1 h0)
    have e0 : ((n1 : Int) == 0) = false := by rw [beq_eq_false_iff_ne]; omega
    clear hP1
    go_wp2_with fail
    all_goals (
      go_ret
      exact ⟨_, rfl, fun _ => HP.out, B1.out.alloc B1.out.size _⟩)
set_option maxHeartbeats 4000000 in
set_option maxRecDepth 100000 in
theorem Show9_w (op d s : Int) (n : Nat) (hn : n ≤ 65535) (h1 : -9223372036854775808 ≤ op) (h1' : op ≤ 9223372036854775807) (h2 : -9223372036854775808 ≤ d) (h2' : d ≤ 9223372036854775807) (h3 : -9223372036854775808 ≤ s) (h3' : s ≤ 9223372036854775807) (w : World) (hg : GW9 w)
    (P : Prop) (hR : ∀ W, Calls Tryd.prog 8 #[.agg #[.int .i64 op, .int .i64 d, .int .i64 s, .int .u16 n]] W (RightW P W)) :
    Calls Tryd.prog 4 #[.agg #[.int .i64 op, .int .i64 d, .int .i64 s, .int .u16 n]] w (ShowW P (show9T op d s n) w) := by
  have HR := Lib.hid hR
  clear hR
  go_enter Tryd.func4, Tryd.ntmps4
  go_wp2_with fail
  refine (HR.out _).mono ?_
  rintro e w1 ⟨kk, rfl, hkk, hb1⟩
  have B1 := Lib.hid (bthen ((Below.refl w.heap.size w).alloc (Nat.le_refl _) _) hb1)
  by_cases hk0 : kk ≠ 0
  · have e1 : (kk == 0) = false := by simpa using hk0
    have e2 : (kk != 0) = true := by simpa using hk0
    have HK0 := Lib.hid hk0
    clear hkk hk0 hb1
    go_wp2_with fail
    go_ret2
    exact ⟨kk, [], rfl, .inr ⟨HK0.out, rfl⟩, B1.out⟩
  obtain rfl : kk = 0 := by simpa using hk0
  have HKK := Lib.hid (hkk rfl)
  clear hk0 hkk
  have C1 := Lib.hid ((hb1.block w.heap.size (by simp)).trans (heap_alloc_new w _))
  clear hb1
  have c0 := cell_of_heap (i := 0) C1.out
  have c1 := cell_of_heap (i := 1) C1.out
  have c2 := cell_of_heap (i := 2) C1.out
  have c3 := cell_of_heap (i := 3) C1.out
  simp at c0 c1 c2 c3
  go_wp2_with fail
  go_loopw [5, 19] (fun v i wr => ShRel d s n w1 v i wr) (fun _ i _ => 2 - (intOf i).toNat)
  case atStart => exact ⟨0, by omega, rfl, by simpa [lstK] using World.ownsRow_nil _ _ _ _, Below.refl _ _⟩
  case round =>
    obtain ⟨k, hk, rfl, hown', hbr'⟩ := hrel
    have hown := Lib.hid hown'
    have hbr := Lib.hid hbr'
    obtain ⟨vA, vc, rfl, hvc⟩ := (Rd.of_own hown').form
    have hgr := Lib.hid (hg.below (bthen B1.out hbr'))
    have C2 := Lib.hid ((hbr'.block w.heap.size (lt_of_heap C1.out)).trans C1.out)
    clear hown' hbr' c0 c1 c2 c3
    obtain rfl | rfl | rfl : k = 0 ∨ k = 1 ∨ k = 2 := by omega
    · have HA := Lib.hid (fun W (hW : GW9 W) => Arg9_any d W hW h2 h2')
      by_cases he : argL d = []
      · have HL := Lib.hid (show lstK d s n 1 = lstK d s n 0 by simp [lstK, argX, he])
        rw [he] at HA
        go_wp2_with fail
        refine (HA.out _ hgr.out).mono ?_
        rintro e w2 ⟨rfl, hb2⟩
        go_wp2_with fail
        refine ⟨⟨1, by omega, by go_num, by rw [HL.out]; exact own_bel hown.out hb2, bthen hbr.out hb2⟩, by simp [intOf]⟩
      · have he1 : (argL d == []) = false := by simpa using he
        have HL := Lib.hid (show lstK d s n 1 = lstK d s n 0 ++ [repL d n] by simp [lstK, argX, he])
        have hll := lstK_len d s n 0
        generalize lstK d s n 0 = L at *
        go_wp2_with fail
        refine (HA.out _ hgr.out).mono ?_
        rintro e w2 ⟨rfl, hb2⟩
        have C3 := Lib.hid ((hb2.block w.heap.size (lt_of_heap C2.out)).trans C2.out)
        have c3 := cell_of_heap (i := 3) C3.out
        simp at c3
        go_wp2_with fail
        refine (itoa_any n hn _ (hgr.out.below hb2)).mono ?_
        rintro e w3 ⟨rfl, hb3⟩
        have B3 := Lib.hid (bthen hb2 hb3)
        clear hb2 hb3 c3
        go_wp2_with fail
        refine (rep_any d n hn _ (hgr.out.below B3.out)).mono ?_
        rintro e w4 ⟨rfl, hb4⟩
        have B4 := Lib.hid (bthen B3.out hb4)
        have O4 := Lib.hid (own_bel hown.out B4.out)
        have hz4 := Nat.le_trans hbr.out.size B4.out.size
        clear hb4 B3
        generalize repL d n = x at *
        go_wp2_with (refine wpList_append_at w4 w4.heap.size rfl (by rfl) _ _ _ (by rfl) w1.heap.size 9 _ 1 16 Tryd.underlying34 info_str rfl (by decide) O4.out (by rfl) [.string ⟨x.toArray⟩] 9 (by rfl) rfl (by intro u hu; simp at hu; subst hu; rfl) (by omega) (by decide) hz4 ?_; intro v5 w5 hown5 hb5)
        have O5 := Lib.hid hown5
        obtain ⟨A5, n5, rfl, hn5⟩ := (Rd.of_own hown5).form
        clear hown5
        go_wp2_with fail
        refine ⟨⟨1, by omega, by go_num, by rw [HL.out]; simpa [strV] using O5.out, (bthen hbr.out B4.out).trans hb5⟩, by simp [intOf]⟩
    · have HA := Lib.hid (fun W (hW : GW9 W) => Arg9_any s W hW h3 h3')
      by_cases he : argL s = []
      · have HL := Lib.hid (show lstK d s n 2 = lstK d s n 1 by simp [lstK, argX, he])
        rw [he] at HA
        go_wp2_with fail
        refine (HA.out _ hgr.out).mono ?_
        rintro e w2 ⟨rfl, hb2⟩
        go_wp2_with fail
        refine ⟨⟨2, by omega, by go_num, by rw [HL.out]; exact own_bel hown.out hb2, bthen hbr.out hb2⟩, by simp [intOf]⟩
      · have he1 : (argL s == []) = false := by simpa using he
        have HL := Lib.hid (show lstK d s n 2 = lstK d s n 1 ++ [repL s n] by simp [lstK, argX, he])
        have hll := lstK_len d s n 1
        generalize lstK d s n 1 = L at *
        go_wp2_with fail
        refine (HA.out _ hgr.out).mono ?_
        rintro e w2 ⟨rfl, hb2⟩
        have C3 := Lib.hid ((hb2.block w.heap.size (lt_of_heap C2.out)).trans C2.out)
        have c3 := cell_of_heap (i := 3) C3.out
        simp at c3
        go_wp2_with fail
        refine (itoa_any n hn _ (hgr.out.below hb2)).mono ?_
        rintro e w3 ⟨rfl, hb3⟩
        have B3 := Lib.hid (bthen hb2 hb3)
        clear hb2 hb3 c3
        go_wp2_with fail
        refine (rep_any s n hn _ (hgr.out.below B3.out)).mono ?_
        rintro e w4 ⟨rfl, hb4⟩
        have B4 := Lib.hid (bthen B3.out hb4)
        have O4 := Lib.hid (own_bel hown.out B4.out)
        have hz4 := Nat.le_trans hbr.out.size B4.out.size
        clear hb4 B3
        generalize repL s n = x at *
        go_wp2_with (refine wpList_append_at w4 w4.heap.size rfl (by rfl) _ _ _ (by rfl) w1.heap.size 9 _ 1 16 Tryd.underlying34 info_str rfl (by decide) O4.out (by rfl) [.string ⟨x.toArray⟩] 9 (by rfl) rfl (by intro u hu; simp at hu; subst hu; rfl) (by omega) (by decide) hz4 ?_; intro v5 w5 hown5 hb5)
        have O5 := Lib.hid hown5
        obtain ⟨A5, n5, rfl, hn5⟩ := (Rd.of_own hown5).form
        clear hown5
        go_wp2_with fail
        refine ⟨⟨2, by omega, by go_num, by rw [HL.out]; simpa [strV] using O5.out, (bthen hbr.out B4.out).trans hb5⟩, by simp [intOf]⟩
    · have HN := Lib.hid (fun W (hW : GW9 W) => Name9_any op W hW h1 h1')
      have HT := Lib.hid (show show9T op d s n = Lib.trimSpace (nameL op ++ 32 :: [44].intercalate (lstK d s n 2)) from rfl)
      obtain ⟨q1, q2, q3⟩ := join_asc d s op n hn
      have q1' := Lib.hid (show ∀ x ∈ nameL op ++ 32 :: [44].intercalate (lstK d s n 2), x.toNat < 128 from q1)
      have q2' : ([44].intercalate (lstK d s n 2)).length ≤ 21 := q2
      have q3' : (lstK d s n 2).length ≤ 2 := q3
      have q4 := name_len op
      clear q1 q2 q3
      have c0 := cell_of_heap (i := 0) C2.out
      simp at c0
      generalize lstK d s n 2 = L at *
      go_wp2_with fail
      refine (HN.out _ hgr.out).mono ?_
      rintro e w2 ⟨rfl, hb2⟩
      have O2 := Lib.hid (own_bel hown.out hb2)
      have B2 := Lib.hid hb2
      clear hb2 c0
      go_wp2_with fail
      refine (join_any L [44] _ w2 (Rd.of_own O2.out) (by omega) (by omega)).mono ?_
      rintro e w3 ⟨rfl, hb3⟩
      have B3 := Lib.hid (bthen B2.out hb3)
      clear hb3 B2
      have QT := Lib.hid (trim_any _ q1'.out (by simp; omega) w3 (hgr.out.below B3.out))
      generalize [44].intercalate L = J at *
      go_wp2_with fail
      refine QT.out.mono ?_
      rintro e w4 ⟨rfl, hb4⟩
      go_wp2_with fail
      go_ret2
      exact ⟨0, _, rfl, .inl ⟨rfl, HKK.out, HT.out⟩, bthen B1.out (bthen hbr.out (bthen B3.out hb4))⟩

end Go.Proofs.YtmmdniahfldljaaDoor
