/- isa86.two. -/
import Derived.Test.YtmmdniahfldljaaDoorT86h
namespace Go.Proofs.YtmmdniahfldljaaDoor
open Go.RowKit

def okTwo (op d s : Int) : Prop := ((1 ≤ op ∧ op ≤ 9) ∨ op = 17 ∨ op = 30 ∨ op = 31) ∧ okPl d s
theorem at_box {w w1 : World} (hb1 : Below (w.alloc (.cells #[.slice none 0 0, .int .i64 0] 46)).heap.size (w.alloc (.cells #[.slice none 0 0, .int .i64 0] 46)) w1) :
    Hid (Below w.heap.size w w1) ∧ w1.cell? ⟨w.heap.size, 0, none⟩ = some (.slice none 0 0) ∧ w1.cell? ⟨w.heap.size, 1, none⟩ = some (.int .i64 0) ∧ w1.frozen? ⟨w.heap.size, 0, none⟩ = false ∧ w1.frozen? ⟨w.heap.size, 1, none⟩ = false := by
  have B1 := Lib.hid (bthen ((Below.refl w.heap.size w).alloc (Nat.le_refl _) _) hb1)
  have C1 := (hb1.block w.heap.size (by simp)).trans (heap_alloc_new w _)
  have c0 := cell_of_heap (i := 0) C1
  have c1 := cell_of_heap (i := 1) C1
  have f0 := frozen_of_heap (i := 0) C1
  have f1 := frozen_of_heap (i := 1) C1
  simp at c0 c1 f0 f1
  exact ⟨B1, c0, c1, f0, f1⟩
set_option maxHeartbeats 8000000 in
set_option maxRecDepth 100000 in
theorem two_w1 (d s : Int) (w : World) : Calls Tryd.prog 31 #[.int .i64 1, .int .i64 d, .int .i64 s] w (HeadW (okTwo 1 d s) w) := by
  have W1 := Lib.hid (fun W => wide_any d W)
  have W2 := Lib.hid (fun W => wide_any s W)
  rcases wide_cases d with rfl | ⟨hd, hd'⟩ | rfl | ⟨hd, hd'⟩ | rfl | rfl | rfl | rfl | hd
  · have wd : wideL 1 = 8 := by unfold wideL; split <;> (try split) <;> omega
    rw [wd] at W1
    clear wd
    go_enter Tryd.func31, Tryd.ntmps31
    go_wp2_with (first | ((with_reducible refine (W1.out _).mono ?_); rintro e w' ⟨rfl, rfl⟩) | ((with_reducible refine (W2.out _).mono ?_); rintro e w' ⟨rfl, rfl⟩) | ((with_reducible refine (num_w _ _).mono ?_); rintro e w' ⟨z, rfl, rfl⟩) | ((with_reducible refine (mem_w _ _ _).mono ?_); rintro e w' ⟨z, rfl, rfl⟩) | ((with_reducible refine (rm_w _ _ _).mono ?_); rintro e w' ⟨z, rfl, rfl⟩) | ((with_reducible refine (of86_at _ _ _ _ _ _).mono ?_); rintro e w1 ⟨rfl, B1, c0, c1, f0, f1⟩) | ((with_reducible refine (places_w _ _ _).mono ?_); rintro e w1 ⟨A1, n1, k1, t1, rfl, hP1, hb1⟩; obtain ⟨B1, c0, c1, f0, f1⟩ := at_box hb1; clear hb1))
    all_goals first
      | (apply bodyPost_ret
         · simp [results, Tryd.results31, go_sem, c0, c1]
           exact rfl
         · rfl
         · refine ⟨_, _, _, _, rfl, fun hne => ?_, (B1.out.setCell (by simp) _).setCell (by simp) _⟩
           (try simp only [beq_iff_eq, bne_iff_ne, Bool.not_eq_true, beq_eq_false_iff_ne, bne_eq_false_iff_eq] at *)
           first | exact ⟨by omega, hP1 hne⟩ | (refine ⟨by omega, ?_⟩; first | (unfold okPl; omega) | (have := wideL_pos s (by omega); unfold okPl; omega)))
      | (apply bodyPost_ret
         · simp [results, Tryd.results31, go_sem]
           exact rfl
         · rfl
         · exact ⟨_, _, _, _, rfl, fun h => absurd rfl h, (Below.refl _ _).alloc (Nat.le_refl _) _⟩)
  · have wd : wideL d = 8 := by unfold wideL; split <;> (try split) <;> omega
    rw [wd] at W1
    clear wd
    have e1 : (d == 1) = false := by rw [beq_eq_false_iff_ne]; omega
    have e9 : (d == 9) = false := by rw [beq_eq_false_iff_ne]; omega
    have e20 : (d == 20) = false := by rw [beq_eq_false_iff_ne]; omega
    have n9 : (d != 9) = true := by rw [bne_iff_ne]; omega
    go_enter Tryd.func31, Tryd.ntmps31
    go_wp2_with (first | ((with_reducible refine (W1.out _).mono ?_); rintro e w' ⟨rfl, rfl⟩) | ((with_reducible refine (W2.out _).mono ?_); rintro e w' ⟨rfl, rfl⟩) | ((with_reducible refine (num_w _ _).mono ?_); rintro e w' ⟨z, rfl, rfl⟩) | ((with_reducible refine (mem_w _ _ _).mono ?_); rintro e w' ⟨z, rfl, rfl⟩) | ((with_reducible refine (rm_w _ _ _).mono ?_); rintro e w' ⟨z, rfl, rfl⟩) | ((with_reducible refine (of86_at _ _ _ _ _ _).mono ?_); rintro e w1 ⟨rfl, B1, c0, c1, f0, f1⟩) | ((with_reducible refine (places_w _ _ _).mono ?_); rintro e w1 ⟨A1, n1, k1, t1, rfl, hP1, hb1⟩; obtain ⟨B1, c0, c1, f0, f1⟩ := at_box hb1; clear hb1))
    all_goals first
      | (apply bodyPost_ret
         · simp [results, Tryd.results31, go_sem, c0, c1]
           exact rfl
         · rfl
         · refine ⟨_, _, _, _, rfl, fun hne => ?_, (B1.out.setCell (by simp) _).setCell (by simp) _⟩
           (try simp only [beq_iff_eq, bne_iff_ne, Bool.not_eq_true, beq_eq_false_iff_ne, bne_eq_false_iff_eq] at *)
           first | exact ⟨by omega, hP1 hne⟩ | (refine ⟨by omega, ?_⟩; first | (unfold okPl; omega) | (have := wideL_pos s (by omega); unfold okPl; omega)))
      | (apply bodyPost_ret
         · simp [results, Tryd.results31, go_sem]
           exact rfl
         · rfl
         · exact ⟨_, _, _, _, rfl, fun h => absurd rfl h, (Below.refl _ _).alloc (Nat.le_refl _) _⟩)
  · have wd : wideL 9 = 16 := by unfold wideL; split <;> (try split) <;> omega
    rw [wd] at W1
    clear wd
    go_enter Tryd.func31, Tryd.ntmps31
    go_wp2_with (first | ((with_reducible refine (W1.out _).mono ?_); rintro e w' ⟨rfl, rfl⟩) | ((with_reducible refine (W2.out _).mono ?_); rintro e w' ⟨rfl, rfl⟩) | ((with_reducible refine (num_w _ _).mono ?_); rintro e w' ⟨z, rfl, rfl⟩) | ((with_reducible refine (mem_w _ _ _).mono ?_); rintro e w' ⟨z, rfl, rfl⟩) | ((with_reducible refine (rm_w _ _ _).mono ?_); rintro e w' ⟨z, rfl, rfl⟩) | ((with_reducible refine (of86_at _ _ _ _ _ _).mono ?_); rintro e w1 ⟨rfl, B1, c0, c1, f0, f1⟩) | ((with_reducible refine (places_w _ _ _).mono ?_); rintro e w1 ⟨A1, n1, k1, t1, rfl, hP1, hb1⟩; obtain ⟨B1, c0, c1, f0, f1⟩ := at_box hb1; clear hb1))
    all_goals first
      | (apply bodyPost_ret
         · simp [results, Tryd.results31, go_sem, c0, c1]
           exact rfl
         · rfl
         · refine ⟨_, _, _, _, rfl, fun hne => ?_, (B1.out.setCell (by simp) _).setCell (by simp) _⟩
           (try simp only [beq_iff_eq, bne_iff_ne, Bool.not_eq_true, beq_eq_false_iff_ne, bne_eq_false_iff_eq] at *)
           first | exact ⟨by omega, hP1 hne⟩ | (refine ⟨by omega, ?_⟩; first | (unfold okPl; omega) | (have := wideL_pos s (by omega); unfold okPl; omega)))
      | (apply bodyPost_ret
         · simp [results, Tryd.results31, go_sem]
           exact rfl
         · rfl
         · exact ⟨_, _, _, _, rfl, fun h => absurd rfl h, (Below.refl _ _).alloc (Nat.le_refl _) _⟩)
  · have wd : wideL d = 16 := by unfold wideL; split <;> (try split) <;> omega
    rw [wd] at W1
    clear wd
    have e1 : (d == 1) = false := by rw [beq_eq_false_iff_ne]; omega
    have e9 : (d == 9) = false := by rw [beq_eq_false_iff_ne]; omega
    have e20 : (d == 20) = false := by rw [beq_eq_false_iff_ne]; omega
    have n9 : (d != 9) = true := by rw [bne_iff_ne]; omega
    go_enter Tryd.func31, Tryd.ntmps31
    go_wp2_with (first | ((with_reducible refine (W1.out _).mono ?_); rintro e w' ⟨rfl, rfl⟩) | ((with_reducible refine (W2.out _).mono ?_); rintro e w' ⟨rfl, rfl⟩) | ((with_reducible refine (num_w _ _).mono ?_); rintro e w' ⟨z, rfl, rfl⟩) | ((with_reducible refine (mem_w _ _ _).mono ?_); rintro e w' ⟨z, rfl, rfl⟩) | ((with_reducible refine (rm_w _ _ _).mono ?_); rintro e w' ⟨z, rfl, rfl⟩) | ((with_reducible refine (of86_at _ _ _ _ _ _).mono ?_); rintro e w1 ⟨rfl, B1, c0, c1, f0, f1⟩) | ((with_reducible refine (places_w _ _ _).mono ?_); rintro e w1 ⟨A1, n1, k1, t1, rfl, hP1, hb1⟩; obtain ⟨B1, c0, c1, f0, f1⟩ := at_box hb1; clear hb1))
    all_goals first
      | (apply bodyPost_ret
         · simp [results, Tryd.results31, go_sem, c0, c1]
           exact rfl
         · rfl
         · refine ⟨_, _, _, _, rfl, fun hne => ?_, (B1.out.setCell (by simp) _).setCell (by simp) _⟩
           (try simp only [beq_iff_eq, bne_iff_ne, Bool.not_eq_true, beq_eq_false_iff_ne, bne_eq_false_iff_eq] at *)
           first | exact ⟨by omega, hP1 hne⟩ | (refine ⟨by omega, ?_⟩; first | (unfold okPl; omega) | (have := wideL_pos s (by omega); unfold okPl; omega)))
      | (apply bodyPost_ret
         · simp [results, Tryd.results31, go_sem]
           exact rfl
         · rfl
         · exact ⟨_, _, _, _, rfl, fun h => absurd rfl h, (Below.refl _ _).alloc (Nat.le_refl _) _⟩)
  · have wd : wideL 17 = 0 := by unfold wideL; split <;> (try split) <;> omega
    rw [wd] at W1
    clear wd
    go_enter Tryd.func31, Tryd.ntmps31
    go_wp2_with (first | ((with_reducible refine (W1.out _).mono ?_); rintro e w' ⟨rfl, rfl⟩) | ((with_reducible refine (W2.out _).mono ?_); rintro e w' ⟨rfl, rfl⟩) | ((with_reducible refine (num_w _ _).mono ?_); rintro e w' ⟨z, rfl, rfl⟩) | ((with_reducible refine (mem_w _ _ _).mono ?_); rintro e w' ⟨z, rfl, rfl⟩) | ((with_reducible refine (rm_w _ _ _).mono ?_); rintro e w' ⟨z, rfl, rfl⟩) | ((with_reducible refine (of86_at _ _ _ _ _ _).mono ?_); rintro e w1 ⟨rfl, B1, c0, c1, f0, f1⟩) | ((with_reducible refine (places_w _ _ _).mono ?_); rintro e w1 ⟨A1, n1, k1, t1, rfl, hP1, hb1⟩; obtain ⟨B1, c0, c1, f0, f1⟩ := at_box hb1; clear hb1))
    all_goals first
      | (apply bodyPost_ret
         · simp [results, Tryd.results31, go_sem, c0, c1]
           exact rfl
         · rfl
         · refine ⟨_, _, _, _, rfl, fun hne => ?_, (B1.out.setCell (by simp) _).setCell (by simp) _⟩
           (try simp only [beq_iff_eq, bne_iff_ne, Bool.not_eq_true, beq_eq_false_iff_ne, bne_eq_false_iff_eq] at *)
           first | exact ⟨by omega, hP1 hne⟩ | (refine ⟨by omega, ?_⟩; first | (unfold okPl; omega) | (have := wideL_pos s (by omega); unfold okPl; omega)))
      | (apply bodyPost_ret
         · simp [results, Tryd.results31, go_sem]
           exact rfl
         · rfl
         · exact ⟨_, _, _, _, rfl, fun h => absurd rfl h, (Below.refl _ _).alloc (Nat.le_refl _) _⟩)
  · have wd : wideL 18 = 0 := by unfold wideL; split <;> (try split) <;> omega
    rw [wd] at W1
    clear wd
    go_enter Tryd.func31, Tryd.ntmps31
    go_wp2_with (first | ((with_reducible refine (W1.out _).mono ?_); rintro e w' ⟨rfl, rfl⟩) | ((with_reducible refine (W2.out _).mono ?_); rintro e w' ⟨rfl, rfl⟩) | ((with_reducible refine (num_w _ _).mono ?_); rintro e w' ⟨z, rfl, rfl⟩) | ((with_reducible refine (mem_w _ _ _).mono ?_); rintro e w' ⟨z, rfl, rfl⟩) | ((with_reducible refine (rm_w _ _ _).mono ?_); rintro e w' ⟨z, rfl, rfl⟩) | ((with_reducible refine (of86_at _ _ _ _ _ _).mono ?_); rintro e w1 ⟨rfl, B1, c0, c1, f0, f1⟩) | ((with_reducible refine (places_w _ _ _).mono ?_); rintro e w1 ⟨A1, n1, k1, t1, rfl, hP1, hb1⟩; obtain ⟨B1, c0, c1, f0, f1⟩ := at_box hb1; clear hb1))
    all_goals first
      | (apply bodyPost_ret
         · simp [results, Tryd.results31, go_sem, c0, c1]
           exact rfl
         · rfl
         · refine ⟨_, _, _, _, rfl, fun hne => ?_, (B1.out.setCell (by simp) _).setCell (by simp) _⟩
           (try simp only [beq_iff_eq, bne_iff_ne, Bool.not_eq_true, beq_eq_false_iff_ne, bne_eq_false_iff_eq] at *)
           first | exact ⟨by omega, hP1 hne⟩ | (refine ⟨by omega, ?_⟩; first | (unfold okPl; omega) | (have := wideL_pos s (by omega); unfold okPl; omega)))
      | (apply bodyPost_ret
         · simp [results, Tryd.results31, go_sem]
           exact rfl
         · rfl
         · exact ⟨_, _, _, _, rfl, fun h => absurd rfl h, (Below.refl _ _).alloc (Nat.le_refl _) _⟩)
  · have wd : wideL 19 = 0 := by unfold wideL; split <;> (try split) <;> omega
    rw [wd] at W1
    clear wd
    go_enter Tryd.func31, Tryd.ntmps31
    go_wp2_with (first | ((with_reducible refine (W1.out _).mono ?_); rintro e w' ⟨rfl, rfl⟩) | ((with_reducible refine (W2.out _).mono ?_); rintro e w' ⟨rfl, rfl⟩) | ((with_reducible refine (num_w _ _).mono ?_); rintro e w' ⟨z, rfl, rfl⟩) | ((with_reducible refine (mem_w _ _ _).mono ?_); rintro e w' ⟨z, rfl, rfl⟩) | ((with_reducible refine (rm_w _ _ _).mono ?_); rintro e w' ⟨z, rfl, rfl⟩) | ((with_reducible refine (of86_at _ _ _ _ _ _).mono ?_); rintro e w1 ⟨rfl, B1, c0, c1, f0, f1⟩) | ((with_reducible refine (places_w _ _ _).mono ?_); rintro e w1 ⟨A1, n1, k1, t1, rfl, hP1, hb1⟩; obtain ⟨B1, c0, c1, f0, f1⟩ := at_box hb1; clear hb1))
    all_goals first
      | (apply bodyPost_ret
         · simp [results, Tryd.results31, go_sem, c0, c1]
           exact rfl
         · rfl
         · refine ⟨_, _, _, _, rfl, fun hne => ?_, (B1.out.setCell (by simp) _).setCell (by simp) _⟩
           (try simp only [beq_iff_eq, bne_iff_ne, Bool.not_eq_true, beq_eq_false_iff_ne, bne_eq_false_iff_eq] at *)
           first | exact ⟨by omega, hP1 hne⟩ | (refine ⟨by omega, ?_⟩; first | (unfold okPl; omega) | (have := wideL_pos s (by omega); unfold okPl; omega)))
      | (apply bodyPost_ret
         · simp [results, Tryd.results31, go_sem]
           exact rfl
         · rfl
         · exact ⟨_, _, _, _, rfl, fun h => absurd rfl h, (Below.refl _ _).alloc (Nat.le_refl _) _⟩)
  · have wd : wideL 20 = 0 := by unfold wideL; split <;> (try split) <;> omega
    rw [wd] at W1
    clear wd
    go_enter Tryd.func31, Tryd.ntmps31
    go_wp2_with (first | ((with_reducible refine (W1.out _).mono ?_); rintro e w' ⟨rfl, rfl⟩) | ((with_reducible refine (W2.out _).mono ?_); rintro e w' ⟨rfl, rfl⟩) | ((with_reducible refine (num_w _ _).mono ?_); rintro e w' ⟨z, rfl, rfl⟩) | ((with_reducible refine (mem_w _ _ _).mono ?_); rintro e w' ⟨z, rfl, rfl⟩) | ((with_reducible refine (rm_w _ _ _).mono ?_); rintro e w' ⟨z, rfl, rfl⟩) | ((with_reducible refine (of86_at _ _ _ _ _ _).mono ?_); rintro e w1 ⟨rfl, B1, c0, c1, f0, f1⟩) | ((with_reducible refine (places_w _ _ _).mono ?_); rintro e w1 ⟨A1, n1, k1, t1, rfl, hP1, hb1⟩; obtain ⟨B1, c0, c1, f0, f1⟩ := at_box hb1; clear hb1))
    all_goals first
      | (apply bodyPost_ret
         · simp [results, Tryd.results31, go_sem, c0, c1]
           exact rfl
         · rfl
         · refine ⟨_, _, _, _, rfl, fun hne => ?_, (B1.out.setCell (by simp) _).setCell (by simp) _⟩
           (try simp only [beq_iff_eq, bne_iff_ne, Bool.not_eq_true, beq_eq_false_iff_ne, bne_eq_false_iff_eq] at *)
           first | exact ⟨by omega, hP1 hne⟩ | (refine ⟨by omega, ?_⟩; first | (unfold okPl; omega) | (have := wideL_pos s (by omega); unfold okPl; omega)))
      | (apply bodyPost_ret
         · simp [results, Tryd.results31, go_sem]
           exact rfl
         · rfl
         · exact ⟨_, _, _, _, rfl, fun h => absurd rfl h, (Below.refl _ _).alloc (Nat.le_refl _) _⟩)
  · have wd : wideL d = 0 := by unfold wideL; split <;> (try split) <;> omega
    rw [wd] at W1
    clear wd
    have e1 : (d == 1) = false := by rw [beq_eq_false_iff_ne]; omega
    have e9 : (d == 9) = false := by rw [beq_eq_false_iff_ne]; omega
    have e20 : (d == 20) = false := by rw [beq_eq_false_iff_ne]; omega
    have n9 : (d != 9) = true := by rw [bne_iff_ne]; omega
    go_enter Tryd.func31, Tryd.ntmps31
    go_wp2_with (first | ((with_reducible refine (W1.out _).mono ?_); rintro e w' ⟨rfl, rfl⟩) | ((with_reducible refine (W2.out _).mono ?_); rintro e w' ⟨rfl, rfl⟩) | ((with_reducible refine (num_w _ _).mono ?_); rintro e w' ⟨z, rfl, rfl⟩) | ((with_reducible refine (mem_w _ _ _).mono ?_); rintro e w' ⟨z, rfl, rfl⟩) | ((with_reducible refine (rm_w _ _ _).mono ?_); rintro e w' ⟨z, rfl, rfl⟩) | ((with_reducible refine (of86_at _ _ _ _ _ _).mono ?_); rintro e w1 ⟨rfl, B1, c0, c1, f0, f1⟩) | ((with_reducible refine (places_w _ _ _).mono ?_); rintro e w1 ⟨A1, n1, k1, t1, rfl, hP1, hb1⟩; obtain ⟨B1, c0, c1, f0, f1⟩ := at_box hb1; clear hb1))
    all_goals first
      | (apply bodyPost_ret
         · simp [results, Tryd.results31, go_sem, c0, c1]
           exact rfl
         · rfl
         · refine ⟨_, _, _, _, rfl, fun hne => ?_, (B1.out.setCell (by simp) _).setCell (by simp) _⟩
           (try simp only [beq_iff_eq, bne_iff_ne, Bool.not_eq_true, beq_eq_false_iff_ne, bne_eq_false_iff_eq] at *)
           first | exact ⟨by omega, hP1 hne⟩ | (refine ⟨by omega, ?_⟩; first | (unfold okPl; omega) | (have := wideL_pos s (by omega); unfold okPl; omega)))
      | (apply bodyPost_ret
         · simp [results, Tryd.results31, go_sem]
           exact rfl
         · rfl
         · exact ⟨_, _, _, _, rfl, fun h => absurd rfl h, (Below.refl _ _).alloc (Nat.le_refl _) _⟩)
set_option maxHeartbeats 8000000 in
set_option maxRecDepth 100000 in
theorem two_w17 (d s : Int) (w : World) : Calls Tryd.prog 31 #[.int .i64 17, .int .i64 d, .int .i64 s] w (HeadW (okTwo 17 d s) w) := by
  have W1 := Lib.hid (fun W => wide_any d W)
  have W2 := Lib.hid (fun W => wide_any s W)
  rcases wide_cases d with rfl | ⟨hd, hd'⟩ | rfl | ⟨hd, hd'⟩ | rfl | rfl | rfl | rfl | hd
  · have wd : wideL 1 = 8 := by unfold wideL; split <;> (try split) <;> omega
    rw [wd] at W1
    clear wd
    go_enter Tryd.func31, Tryd.ntmps31
    go_wp2_with (first | ((with_reducible refine (W1.out _).mono ?_); rintro e w' ⟨rfl, rfl⟩) | ((with_reducible refine (W2.out _).mono ?_); rintro e w' ⟨rfl, rfl⟩) | ((with_reducible refine (num_w _ _).mono ?_); rintro e w' ⟨z, rfl, rfl⟩) | ((with_reducible refine (mem_w _ _ _).mono ?_); rintro e w' ⟨z, rfl, rfl⟩) | ((with_reducible refine (rm_w _ _ _).mono ?_); rintro e w' ⟨z, rfl, rfl⟩) | ((with_reducible refine (of86_at _ _ _ _ _ _).mono ?_); rintro e w1 ⟨rfl, B1, c0, c1, f0, f1⟩) | ((with_reducible refine (places_w _ _ _).mono ?_); rintro e w1 ⟨A1, n1, k1, t1, rfl, hP1, hb1⟩; obtain ⟨B1, c0, c1, f0, f1⟩ := at_box hb1; clear hb1))
    all_goals first
      | (apply bodyPost_ret
         · simp [results, Tryd.results31, go_sem, c0, c1]
           exact rfl
         · rfl
         · refine ⟨_, _, _, _, rfl, fun hne => ?_, (B1.out.setCell (by simp) _).setCell (by simp) _⟩
           (try simp only [beq_iff_eq, bne_iff_ne, Bool.not_eq_true, beq_eq_false_iff_ne, bne_eq_false_iff_eq] at *)
           first | exact ⟨by omega, hP1 hne⟩ | (refine ⟨by omega, ?_⟩; first | (unfold okPl; omega) | (have := wideL_pos s (by omega); unfold okPl; omega)))
      | (apply bodyPost_ret
         · simp [results, Tryd.results31, go_sem]
           exact rfl
         · rfl
         · exact ⟨_, _, _, _, rfl, fun h => absurd rfl h, (Below.refl _ _).alloc (Nat.le_refl _) _⟩)
  · have wd : wideL d = 8 := by unfold wideL; split <;> (try split) <;> omega
    rw [wd] at W1
    clear wd
    have e1 : (d == 1) = false := by rw [beq_eq_false_iff_ne]; omega
    have e9 : (d == 9) = false := by rw [beq_eq_false_iff_ne]; omega
    have e20 : (d == 20) = false := by rw [beq_eq_false_iff_ne]; omega
    have n9 : (d != 9) = true := by rw [bne_iff_ne]; omega
    go_enter Tryd.func31, Tryd.ntmps31
    go_wp2_with (first | ((with_reducible refine (W1.out _).mono ?_); rintro e w' ⟨rfl, rfl⟩) | ((with_reducible refine (W2.out _).mono ?_); rintro e w' ⟨rfl, rfl⟩) | ((with_reducible refine (num_w _ _).mono ?_); rintro e w' ⟨z, rfl, rfl⟩) | ((with_reducible refine (mem_w _ _ _).mono ?_); rintro e w' ⟨z, rfl, rfl⟩) | ((with_reducible refine (rm_w _ _ _).mono ?_); rintro e w' ⟨z, rfl, rfl⟩) | ((with_reducible refine (of86_at _ _ _ _ _ _).mono ?_); rintro e w1 ⟨rfl, B1, c0, c1, f0, f1⟩) | ((with_reducible refine (places_w _ _ _).mono ?_); rintro e w1 ⟨A1, n1, k1, t1, rfl, hP1, hb1⟩; obtain ⟨B1, c0, c1, f0, f1⟩ := at_box hb1; clear hb1))
    all_goals first
      | (apply bodyPost_ret
         · simp [results, Tryd.results31, go_sem, c0, c1]
           exact rfl
         · rfl
         · refine ⟨_, _, _, _, rfl, fun hne => ?_, (B1.out.setCell (by simp) _).setCell (by simp) _⟩
           (try simp only [beq_iff_eq, bne_iff_ne, Bool.not_eq_true, beq_eq_false_iff_ne, bne_eq_false_iff_eq] at *)
           first | exact ⟨by omega, hP1 hne⟩ | (refine ⟨by omega, ?_⟩; first | (unfold okPl; omega) | (have := wideL_pos s (by omega); unfold okPl; omega)))
      | (apply bodyPost_ret
         · simp [results, Tryd.results31, go_sem]
           exact rfl
         · rfl
         · exact ⟨_, _, _, _, rfl, fun h => absurd rfl h, (Below.refl _ _).alloc (Nat.le_refl _) _⟩)
  · have wd : wideL 9 = 16 := by unfold wideL; split <;> (try split) <;> omega
    rw [wd] at W1
    clear wd
    go_enter Tryd.func31, Tryd.ntmps31
    go_wp2_with (first | ((with_reducible refine (W1.out _).mono ?_); rintro e w' ⟨rfl, rfl⟩) | ((with_reducible refine (W2.out _).mono ?_); rintro e w' ⟨rfl, rfl⟩) | ((with_reducible refine (num_w _ _).mono ?_); rintro e w' ⟨z, rfl, rfl⟩) | ((with_reducible refine (mem_w _ _ _).mono ?_); rintro e w' ⟨z, rfl, rfl⟩) | ((with_reducible refine (rm_w _ _ _).mono ?_); rintro e w' ⟨z, rfl, rfl⟩) | ((with_reducible refine (of86_at _ _ _ _ _ _).mono ?_); rintro e w1 ⟨rfl, B1, c0, c1, f0, f1⟩) | ((with_reducible refine (places_w _ _ _).mono ?_); rintro e w1 ⟨A1, n1, k1, t1, rfl, hP1, hb1⟩; obtain ⟨B1, c0, c1, f0, f1⟩ := at_box hb1; clear hb1))
    all_goals first
      | (apply bodyPost_ret
         · simp [results, Tryd.results31, go_sem, c0, c1]
           exact rfl
         · rfl
         · refine ⟨_, _, _, _, rfl, fun hne => ?_, (B1.out.setCell (by simp) _).setCell (by simp) _⟩
           (try simp only [beq_iff_eq, bne_iff_ne, Bool.not_eq_true, beq_eq_false_iff_ne, bne_eq_false_iff_eq] at *)
           first | exact ⟨by omega, hP1 hne⟩ | (refine ⟨by omega, ?_⟩; first | (unfold okPl; omega) | (have := wideL_pos s (by omega); unfold okPl; omega)))
      | (apply bodyPost_ret
         · simp [results, Tryd.results31, go_sem]
           exact rfl
         · rfl
         · exact ⟨_, _, _, _, rfl, fun h => absurd rfl h, (Below.refl _ _).alloc (Nat.le_refl _) _⟩)
  · have wd : wideL d = 16 := by unfold wideL; split <;> (try split) <;> omega
    rw [wd] at W1
    clear wd
    have e1 : (d == 1) = false := by rw [beq_eq_false_iff_ne]; omega
    have e9 : (d == 9) = false := by rw [beq_eq_false_iff_ne]; omega
    have e20 : (d == 20) = false := by rw [beq_eq_false_iff_ne]; omega
    have n9 : (d != 9) = true := by rw [bne_iff_ne]; omega
    go_enter Tryd.func31, Tryd.ntmps31
    go_wp2_with (first | ((with_reducible refine (W1.out _).mono ?_); rintro e w' ⟨rfl, rfl⟩) | ((with_reducible refine (W2.out _).mono ?_); rintro e w' ⟨rfl, rfl⟩) | ((with_reducible refine (num_w _ _).mono ?_); rintro e w' ⟨z, rfl, rfl⟩) | ((with_reducible refine (mem_w _ _ _).mono ?_); rintro e w' ⟨z, rfl, rfl⟩) | ((with_reducible refine (rm_w _ _ _).mono ?_); rintro e w' ⟨z, rfl, rfl⟩) | ((with_reducible refine (of86_at _ _ _ _ _ _).mono ?_); rintro e w1 ⟨rfl, B1, c0, c1, f0, f1⟩) | ((with_reducible refine (places_w _ _ _).mono ?_); rintro e w1 ⟨A1, n1, k1, t1, rfl, hP1, hb1⟩; obtain ⟨B1, c0, c1, f0, f1⟩ := at_box hb1; clear hb1))
    all_goals first
      | (apply bodyPost_ret
         · simp [results, Tryd.results31, go_sem, c0, c1]
           exact rfl
         · rfl
         · refine ⟨_, _, _, _, rfl, fun hne => ?_, (B1.out.setCell (by simp) _).setCell (by simp) _⟩
           (try simp only [beq_iff_eq, bne_iff_ne, Bool.not_eq_true, beq_eq_false_iff_ne, bne_eq_false_iff_eq] at *)
           first | exact ⟨by omega, hP1 hne⟩ | (refine ⟨by omega, ?_⟩; first | (unfold okPl; omega) | (have := wideL_pos s (by omega); unfold okPl; omega)))
      | (apply bodyPost_ret
         · simp [results, Tryd.results31, go_sem]
           exact rfl
         · rfl
         · exact ⟨_, _, _, _, rfl, fun h => absurd rfl h, (Below.refl _ _).alloc (Nat.le_refl _) _⟩)
  · have wd : wideL 17 = 0 := by unfold wideL; split <;> (try split) <;> omega
    rw [wd] at W1
    clear wd
    go_enter Tryd.func31, Tryd.ntmps31
    go_wp2_with (first | ((with_reducible refine (W1.out _).mono ?_); rintro e w' ⟨rfl, rfl⟩) | ((with_reducible refine (W2.out _).mono ?_); rintro e w' ⟨rfl, rfl⟩) | ((with_reducible refine (num_w _ _).mono ?_); rintro e w' ⟨z, rfl, rfl⟩) | ((with_reducible refine (mem_w _ _ _).mono ?_); rintro e w' ⟨z, rfl, rfl⟩) | ((with_reducible refine (rm_w _ _ _).mono ?_); rintro e w' ⟨z, rfl, rfl⟩) | ((with_reducible refine (of86_at _ _ _ _ _ _).mono ?_); rintro e w1 ⟨rfl, B1, c0, c1, f0, f1⟩) | ((with_reducible refine (places_w _ _ _).mono ?_); rintro e w1 ⟨A1, n1, k1, t1, rfl, hP1, hb1⟩; obtain ⟨B1, c0, c1, f0, f1⟩ := at_box hb1; clear hb1))
    all_goals first
      | (apply bodyPost_ret
         · simp [results, Tryd.results31, go_sem, c0, c1]
           exact rfl
         · rfl
         · refine ⟨_, _, _, _, rfl, fun hne => ?_, (B1.out.setCell (by simp) _).setCell (by simp) _⟩
           (try simp only [beq_iff_eq, bne_iff_ne, Bool.not_eq_true, beq_eq_false_iff_ne, bne_eq_false_iff_eq] at *)
           first | exact ⟨by omega, hP1 hne⟩ | (refine ⟨by omega, ?_⟩; first | (unfold okPl; omega) | (have := wideL_pos s (by omega); unfold okPl; omega)))
      | (apply bodyPost_ret
         · simp [results, Tryd.results31, go_sem]
           exact rfl
         · rfl
         · exact ⟨_, _, _, _, rfl, fun h => absurd rfl h, (Below.refl _ _).alloc (Nat.le_refl _) _⟩)
  · have wd : wideL 18 = 0 := by unfold wideL; split <;> (try split) <;> omega
    rw [wd] at W1
    clear wd
    go_enter Tryd.func31, Tryd.ntmps31
    go_wp2_with (first | ((with_reducible refine (W1.out _).mono ?_); rintro e w' ⟨rfl, rfl⟩) | ((with_reducible refine (W2.out _).mono ?_); rintro e w' ⟨rfl, rfl⟩) | ((with_reducible refine (num_w _ _).mono ?_); rintro e w' ⟨z, rfl, rfl⟩) | ((with_reducible refine (mem_w _ _ _).mono ?_); rintro e w' ⟨z, rfl, rfl⟩) | ((with_reducible refine (rm_w _ _ _).mono ?_); rintro e w' ⟨z, rfl, rfl⟩) | ((with_reducible refine (of86_at _ _ _ _ _ _).mono ?_); rintro e w1 ⟨rfl, B1, c0, c1, f0, f1⟩) | ((with_reducible refine (places_w _ _ _).mono ?_); rintro e w1 ⟨A1, n1, k1, t1, rfl, hP1, hb1⟩; obtain ⟨B1, c0, c1, f0, f1⟩ := at_box hb1; clear hb1))
    all_goals first
      | (apply bodyPost_ret
         · simp [results, Tryd.results31, go_sem, c0, c1]
           exact rfl
         · rfl
         · refine ⟨_, _, _, _, rfl, fun hne => ?_, (B1.out.setCell (by simp) _).setCell (by simp) _⟩
           (try simp only [beq_iff_eq, bne_iff_ne, Bool.not_eq_true, beq_eq_false_iff_ne, bne_eq_false_iff_eq] at *)
           first | exact ⟨by omega, hP1 hne⟩ | (refine ⟨by omega, ?_⟩; first | (unfold okPl; omega) | (have := wideL_pos s (by omega); unfold okPl; omega)))
      | (apply bodyPost_ret
         · simp [results, Tryd.results31, go_sem]
           exact rfl
         · rfl
         · exact ⟨_, _, _, _, rfl, fun h => absurd rfl h, (Below.refl _ _).alloc (Nat.le_refl _) _⟩)
  · have wd : wideL 19 = 0 := by unfold wideL; split <;> (try split) <;> omega
    rw [wd] at W1
    clear wd
    go_enter Tryd.func31, Tryd.ntmps31
    go_wp2_with (first | ((with_reducible refine (W1.out _).mono ?_); rintro e w' ⟨rfl, rfl⟩) | ((with_reducible refine (W2.out _).mono ?_); rintro e w' ⟨rfl, rfl⟩) | ((with_reducible refine (num_w _ _).mono ?_); rintro e w' ⟨z, rfl, rfl⟩) | ((with_reducible refine (mem_w _ _ _).mono ?_); rintro e w' ⟨z, rfl, rfl⟩) | ((with_reducible refine (rm_w _ _ _).mono ?_); rintro e w' ⟨z, rfl, rfl⟩) | ((with_reducible refine (of86_at _ _ _ _ _ _).mono ?_); rintro e w1 ⟨rfl, B1, c0, c1, f0, f1⟩) | ((with_reducible refine (places_w _ _ _).mono ?_); rintro e w1 ⟨A1, n1, k1, t1, rfl, hP1, hb1⟩; obtain ⟨B1, c0, c1, f0, f1⟩ := at_box hb1; clear hb1))
    all_goals first
      | (apply bodyPost_ret
         · simp [results, Tryd.results31, go_sem, c0, c1]
           exact rfl
         · rfl
         · refine ⟨_, _, _, _, rfl, fun hne => ?_, (B1.out.setCell (by simp) _).setCell (by simp) _⟩
           (try simp only [beq_iff_eq, bne_iff_ne, Bool.not_eq_true, beq_eq_false_iff_ne, bne_eq_false_iff_eq] at *)
           first | exact ⟨by omega, hP1 hne⟩ | (refine ⟨by omega, ?_⟩; first | (unfold okPl; omega) | (have := wideL_pos s (by omega); unfold okPl; omega)))
      | (apply bodyPost_ret
         · simp [results, Tryd.results31, go_sem]
           exact rfl
         · rfl
         · exact ⟨_, _, _, _, rfl, fun h => absurd rfl h, (Below.refl _ _).alloc (Nat.le_refl _) _⟩)
  · have wd : wideL 20 = 0 := by unfold wideL; split <;> (try split) <;> omega
    rw [wd] at W1
    clear wd
    go_enter Tryd.func31, Tryd.ntmps31
    go_wp2_with (first | ((with_reducible refine (W1.out _).mono ?_); rintro e w' ⟨rfl, rfl⟩) | ((with_reducible refine (W2.out _).mono ?_); rintro e w' ⟨rfl, rfl⟩) | ((with_reducible refine (num_w _ _).mono ?_); rintro e w' ⟨z, rfl, rfl⟩) | ((with_reducible refine (mem_w _ _ _).mono ?_); rintro e w' ⟨z, rfl, rfl⟩) | ((with_reducible refine (rm_w _ _ _).mono ?_); rintro e w' ⟨z, rfl, rfl⟩) | ((with_reducible refine (of86_at _ _ _ _ _ _).mono ?_); rintro e w1 ⟨rfl, B1, c0, c1, f0, f1⟩) | ((with_reducible refine (places_w _ _ _).mono ?_); rintro e w1 ⟨A1, n1, k1, t1, rfl, hP1, hb1⟩; obtain ⟨B1, c0, c1, f0, f1⟩ := at_box hb1; clear hb1))
    all_goals first
      | (apply bodyPost_ret
         · simp [results, Tryd.results31, go_sem, c0, c1]
           exact rfl
         · rfl
         · refine ⟨_, _, _, _, rfl, fun hne => ?_, (B1.out.setCell (by simp) _).setCell (by simp) _⟩
           (try simp only [beq_iff_eq, bne_iff_ne, Bool.not_eq_true, beq_eq_false_iff_ne, bne_eq_false_iff_eq] at *)
           first | exact ⟨by omega, hP1 hne⟩ | (refine ⟨by omega, ?_⟩; first | (unfold okPl; omega) | (have := wideL_pos s (by omega); unfold okPl; omega)))
      | (apply bodyPost_ret
         · simp [results, Tryd.results31, go_sem]
           exact rfl
         · rfl
         · exact ⟨_, _, _, _, rfl, fun h => absurd rfl h, (Below.refl _ _).alloc (Nat.le_refl _) _⟩)
  · have wd : wideL d = 0 := by unfold wideL; split <;> (try split) <;> omega
    rw [wd] at W1
    clear wd
    have e1 : (d == 1) = false := by rw [beq_eq_false_iff_ne]; omega
    have e9 : (d == 9) = false := by rw [beq_eq_false_iff_ne]; omega
    have e20 : (d == 20) = false := by rw [beq_eq_false_iff_ne]; omega
    have n9 : (d != 9) = true := by rw [bne_iff_ne]; omega
    go_enter Tryd.func31, Tryd.ntmps31
    go_wp2_with (first | ((with_reducible refine (W1.out _).mono ?_); rintro e w' ⟨rfl, rfl⟩) | ((with_reducible refine (W2.out _).mono ?_); rintro e w' ⟨rfl, rfl⟩) | ((with_reducible refine (num_w _ _).mono ?_); rintro e w' ⟨z, rfl, rfl⟩) | ((with_reducible refine (mem_w _ _ _).mono ?_); rintro e w' ⟨z, rfl, rfl⟩) | ((with_reducible refine (rm_w _ _ _).mono ?_); rintro e w' ⟨z, rfl, rfl⟩) | ((with_reducible refine (of86_at _ _ _ _ _ _).mono ?_); rintro e w1 ⟨rfl, B1, c0, c1, f0, f1⟩) | ((with_reducible refine (places_w _ _ _).mono ?_); rintro e w1 ⟨A1, n1, k1, t1, rfl, hP1, hb1⟩; obtain ⟨B1, c0, c1, f0, f1⟩ := at_box hb1; clear hb1))
    all_goals first
      | (apply bodyPost_ret
         · simp [results, Tryd.results31, go_sem, c0, c1]
           exact rfl
         · rfl
         · refine ⟨_, _, _, _, rfl, fun hne => ?_, (B1.out.setCell (by simp) _).setCell (by simp) _⟩
           (try simp only [beq_iff_eq, bne_iff_ne, Bool.not_eq_true, beq_eq_false_iff_ne, bne_eq_false_iff_eq] at *)
           first | exact ⟨by omega, hP1 hne⟩ | (refine ⟨by omega, ?_⟩; first | (unfold okPl; omega) | (have := wideL_pos s (by omega); unfold okPl; omega)))
      | (apply bodyPost_ret
         · simp [results, Tryd.results31, go_sem]
           exact rfl
         · rfl
         · exact ⟨_, _, _, _, rfl, fun h => absurd rfl h, (Below.refl _ _).alloc (Nat.le_refl _) _⟩)
set_option maxHeartbeats 8000000 in
set_option maxRecDepth 100000 in
theorem two_w30 (d s : Int) (w : World) : Calls Tryd.prog 31 #[.int .i64 30, .int .i64 d, .int .i64 s] w (HeadW (okTwo 30 d s) w) := by
  have W1 := Lib.hid (fun W => wide_any d W)
  have W2 := Lib.hid (fun W => wide_any s W)
  rcases wide_cases d with rfl | ⟨hd, hd'⟩ | rfl | ⟨hd, hd'⟩ | rfl | rfl | rfl | rfl | hd
  · have wd : wideL 1 = 8 := by unfold wideL; split <;> (try split) <;> omega
    rw [wd] at W1
    clear wd
    go_enter Tryd.func31, Tryd.ntmps31
    go_wp2_with (first | ((with_reducible refine (W1.out _).mono ?_); rintro e w' ⟨rfl, rfl⟩) | ((with_reducible refine (W2.out _).mono ?_); rintro e w' ⟨rfl, rfl⟩) | ((with_reducible refine (num_w _ _).mono ?_); rintro e w' ⟨z, rfl, rfl⟩) | ((with_reducible refine (mem_w _ _ _).mono ?_); rintro e w' ⟨z, rfl, rfl⟩) | ((with_reducible refine (rm_w _ _ _).mono ?_); rintro e w' ⟨z, rfl, rfl⟩) | ((with_reducible refine (of86_at _ _ _ _ _ _).mono ?_); rintro e w1 ⟨rfl, B1, c0, c1, f0, f1⟩) | ((with_reducible refine (places_w _ _ _).mono ?_); rintro e w1 ⟨A1, n1, k1, t1, rfl, hP1, hb1⟩; obtain ⟨B1, c0, c1, f0, f1⟩ := at_box hb1; clear hb1))
    all_goals first
      | (apply bodyPost_ret
         · simp [results, Tryd.results31, go_sem, c0, c1]
           exact rfl
         · rfl
         · refine ⟨_, _, _, _, rfl, fun hne => ?_, (B1.out.setCell (by simp) _).setCell (by simp) _⟩
           (try simp only [beq_iff_eq, bne_iff_ne, Bool.not_eq_true, beq_eq_false_iff_ne, bne_eq_false_iff_eq] at *)
           first | exact ⟨by omega, hP1 hne⟩ | (refine ⟨by omega, ?_⟩; first | (unfold okPl; omega) | (have := wideL_pos s (by omega); unfold okPl; omega)))
      | (apply bodyPost_ret
         · simp [results, Tryd.results31, go_sem]
           exact rfl
         · rfl
         · exact ⟨_, _, _, _, rfl, fun h => absurd rfl h, (Below.refl _ _).alloc (Nat.le_refl _) _⟩)
  · have wd : wideL d = 8 := by unfold wideL; split <;> (try split) <;> omega
    rw [wd] at W1
    clear wd
    have e1 : (d == 1) = false := by rw [beq_eq_false_iff_ne]; omega
    have e9 : (d == 9) = false := by rw [beq_eq_false_iff_ne]; omega
    have e20 : (d == 20) = false := by rw [beq_eq_false_iff_ne]; omega
    have n9 : (d != 9) = true := by rw [bne_iff_ne]; omega
    go_enter Tryd.func31, Tryd.ntmps31
    go_wp2_with (first | ((with_reducible refine (W1.out _).mono ?_); rintro e w' ⟨rfl, rfl⟩) | ((with_reducible refine (W2.out _).mono ?_); rintro e w' ⟨rfl, rfl⟩) | ((with_reducible refine (num_w _ _).mono ?_); rintro e w' ⟨z, rfl, rfl⟩) | ((with_reducible refine (mem_w _ _ _).mono ?_); rintro e w' ⟨z, rfl, rfl⟩) | ((with_reducible refine (rm_w _ _ _).mono ?_); rintro e w' ⟨z, rfl, rfl⟩) | ((with_reducible refine (of86_at _ _ _ _ _ _).mono ?_); rintro e w1 ⟨rfl, B1, c0, c1, f0, f1⟩) | ((with_reducible refine (places_w _ _ _).mono ?_); rintro e w1 ⟨A1, n1, k1, t1, rfl, hP1, hb1⟩; obtain ⟨B1, c0, c1, f0, f1⟩ := at_box hb1; clear hb1))
    all_goals first
      | (apply bodyPost_ret
         · simp [results, Tryd.results31, go_sem, c0, c1]
           exact rfl
         · rfl
         · refine ⟨_, _, _, _, rfl, fun hne => ?_, (B1.out.setCell (by simp) _).setCell (by simp) _⟩
           (try simp only [beq_iff_eq, bne_iff_ne, Bool.not_eq_true, beq_eq_false_iff_ne, bne_eq_false_iff_eq] at *)
           first | exact ⟨by omega, hP1 hne⟩ | (refine ⟨by omega, ?_⟩; first | (unfold okPl; omega) | (have := wideL_pos s (by omega); unfold okPl; omega)))
      | (apply bodyPost_ret
         · simp [results, Tryd.results31, go_sem]
           exact rfl
         · rfl
         · exact ⟨_, _, _, _, rfl, fun h => absurd rfl h, (Below.refl _ _).alloc (Nat.le_refl _) _⟩)
  · have wd : wideL 9 = 16 := by unfold wideL; split <;> (try split) <;> omega
    rw [wd] at W1
    clear wd
    go_enter Tryd.func31, Tryd.ntmps31
    go_wp2_with (first | ((with_reducible refine (W1.out _).mono ?_); rintro e w' ⟨rfl, rfl⟩) | ((with_reducible refine (W2.out _).mono ?_); rintro e w' ⟨rfl, rfl⟩) | ((with_reducible refine (num_w _ _).mono ?_); rintro e w' ⟨z, rfl, rfl⟩) | ((with_reducible refine (mem_w _ _ _).mono ?_); rintro e w' ⟨z, rfl, rfl⟩) | ((with_reducible refine (rm_w _ _ _).mono ?_); rintro e w' ⟨z, rfl, rfl⟩) | ((with_reducible refine (of86_at _ _ _ _ _ _).mono ?_); rintro e w1 ⟨rfl, B1, c0, c1, f0, f1⟩) | ((with_reducible refine (places_w _ _ _).mono ?_); rintro e w1 ⟨A1, n1, k1, t1, rfl, hP1, hb1⟩; obtain ⟨B1, c0, c1, f0, f1⟩ := at_box hb1; clear hb1))
    all_goals first
      | (apply bodyPost_ret
         · simp [results, Tryd.results31, go_sem, c0, c1]
           exact rfl
         · rfl
         · refine ⟨_, _, _, _, rfl, fun hne => ?_, (B1.out.setCell (by simp) _).setCell (by simp) _⟩
           (try simp only [beq_iff_eq, bne_iff_ne, Bool.not_eq_true, beq_eq_false_iff_ne, bne_eq_false_iff_eq] at *)
           first | exact ⟨by omega, hP1 hne⟩ | (refine ⟨by omega, ?_⟩; first | (unfold okPl; omega) | (have := wideL_pos s (by omega); unfold okPl; omega)))
      | (apply bodyPost_ret
         · simp [results, Tryd.results31, go_sem]
           exact rfl
         · rfl
         · exact ⟨_, _, _, _, rfl, fun h => absurd rfl h, (Below.refl _ _).alloc (Nat.le_refl _) _⟩)
  · have wd : wideL d = 16 := by unfold wideL; split <;> (try split) <;> omega
    rw [wd] at W1
    clear wd
    have e1 : (d == 1) = false := by rw [beq_eq_false_iff_ne]; omega
    have e9 : (d == 9) = false := by rw [beq_eq_false_iff_ne]; omega
    have e20 : (d == 20) = false := by rw [beq_eq_false_iff_ne]; omega
    have n9 : (d != 9) = true := by rw [bne_iff_ne]; omega
    go_enter Tryd.func31, Tryd.ntmps31
    go_wp2_with (first | ((with_reducible refine (W1.out _).mono ?_); rintro e w' ⟨rfl, rfl⟩) | ((with_reducible refine (W2.out _).mono ?_); rintro e w' ⟨rfl, rfl⟩) | ((with_reducible refine (num_w _ _).mono ?_); rintro e w' ⟨z, rfl, rfl⟩) | ((with_reducible refine (mem_w _ _ _).mono ?_); rintro e w' ⟨z, rfl, rfl⟩) | ((with_reducible refine (rm_w _ _ _).mono ?_); rintro e w' ⟨z, rfl, rfl⟩) | ((with_reducible refine (of86_at _ _ _ _ _ _).mono ?_); rintro e w1 ⟨rfl, B1, c0, c1, f0, f1⟩) | ((with_reducible refine (places_w _ _ _).mono ?_); rintro e w1 ⟨A1, n1, k1, t1, rfl, hP1, hb1⟩; obtain ⟨B1, c0, c1, f0, f1⟩ := at_box hb1; clear hb1))
    all_goals first
      | (apply bodyPost_ret
         · simp [results, Tryd.results31, go_sem, c0, c1]
           exact rfl
         · rfl
         · refine ⟨_, _, _, _, rfl, fun hne => ?_, (B1.out.setCell (by simp) _).setCell (by simp) _⟩
           (try simp only [beq_iff_eq, bne_iff_ne, Bool.not_eq_true, beq_eq_false_iff_ne, bne_eq_false_iff_eq] at *)
           first | exact ⟨by omega, hP1 hne⟩ | (refine ⟨by omega, ?_⟩; first | (unfold okPl; omega) | (have := wideL_pos s (by omega); unfold okPl; omega)))
      | (apply bodyPost_ret
         · simp [results, Tryd.results31, go_sem]
           exact rfl
         · rfl
         · exact ⟨_, _, _, _, rfl, fun h => absurd rfl h, (Below.refl _ _).alloc (Nat.le_refl _) _⟩)
  · have wd : wideL 17 = 0 := by unfold wideL; split <;> (try split) <;> omega
    rw [wd] at W1
    clear wd
    go_enter Tryd.func31, Tryd.ntmps31
    go_wp2_with (first | ((with_reducible refine (W1.out _).mono ?_); rintro e w' ⟨rfl, rfl⟩) | ((with_reducible refine (W2.out _).mono ?_); rintro e w' ⟨rfl, rfl⟩) | ((with_reducible refine (num_w _ _).mono ?_); rintro e w' ⟨z, rfl, rfl⟩) | ((with_reducible refine (mem_w _ _ _).mono ?_); rintro e w' ⟨z, rfl, rfl⟩) | ((with_reducible refine (rm_w _ _ _).mono ?_); rintro e w' ⟨z, rfl, rfl⟩) | ((with_reducible refine (of86_at _ _ _ _ _ _).mono ?_); rintro e w1 ⟨rfl, B1, c0, c1, f0, f1⟩) | ((with_reducible refine (places_w _ _ _).mono ?_); rintro e w1 ⟨A1, n1, k1, t1, rfl, hP1, hb1⟩; obtain ⟨B1, c0, c1, f0, f1⟩ := at_box hb1; clear hb1))
    all_goals first
      | (apply bodyPost_ret
         · simp [results, Tryd.results31, go_sem, c0, c1]
           exact rfl
         · rfl
         · refine ⟨_, _, _, _, rfl, fun hne => ?_, (B1.out.setCell (by simp) _).setCell (by simp) _⟩
           (try simp only [beq_iff_eq, bne_iff_ne, Bool.not_eq_true, beq_eq_false_iff_ne, bne_eq_false_iff_eq] at *)
           first | exact ⟨by omega, hP1 hne⟩ | (refine ⟨by omega, ?_⟩; first | (unfold okPl; omega) | (have := wideL_pos s (by omega); unfold okPl; omega)))
      | (apply bodyPost_ret
         · simp [results, Tryd.results31, go_sem]
           exact rfl
         · rfl
         · exact ⟨_, _, _, _, rfl, fun h => absurd rfl h, (Below.refl _ _).alloc (Nat.le_refl _) _⟩)
  · have wd : wideL 18 = 0 := by unfold wideL; split <;> (try split) <;> omega
    rw [wd] at W1
    clear wd
    go_enter Tryd.func31, Tryd.ntmps31
    go_wp2_with (first | ((with_reducible refine (W1.out _).mono ?_); rintro e w' ⟨rfl, rfl⟩) | ((with_reducible refine (W2.out _).mono ?_); rintro e w' ⟨rfl, rfl⟩) | ((with_reducible refine (num_w _ _).mono ?_); rintro e w' ⟨z, rfl, rfl⟩) | ((with_reducible refine (mem_w _ _ _).mono ?_); rintro e w' ⟨z, rfl, rfl⟩) | ((with_reducible refine (rm_w _ _ _).mono ?_); rintro e w' ⟨z, rfl, rfl⟩) | ((with_reducible refine (of86_at _ _ _ _ _ _).mono ?_); rintro e w1 ⟨rfl, B1, c0, c1, f0, f1⟩) | ((with_reducible refine (places_w _ _ _).mono ?_); rintro e w1 ⟨A1, n1, k1, t1, rfl, hP1, hb1⟩; obtain ⟨B1, c0, c1, f0, f1⟩ := at_box hb1; clear hb1))
    all_goals first
      | (apply bodyPost_ret
         · simp [results, Tryd.results31, go_sem, c0, c1]
           exact rfl
         · rfl
         · refine ⟨_, _, _, _, rfl, fun hne => ?_, (B1.out.setCell (by simp) _).setCell (by simp) _⟩
           (try simp only [beq_iff_eq, bne_iff_ne, Bool.not_eq_true, beq_eq_false_iff_ne, bne_eq_false_iff_eq] at *)
           first | exact ⟨by omega, hP1 hne⟩ | (refine ⟨by omega, ?_⟩; first | (unfold okPl; omega) | (have := wideL_pos s (by omega); unfold okPl; omega)))
      | (apply bodyPost_ret
         · simp [results, Tryd.results31, go_sem]
           exact rfl
         · rfl
         · exact ⟨_, _, _, _, rfl, fun h => absurd rfl h, (Below.refl _ _).alloc (Nat.le_refl _) _⟩)
  · have wd : wideL 19 = 0 := by unfold wideL; split <;> (try split) <;> omega
    rw [wd] at W1
    clear wd
    go_enter Tryd.func31, Tryd.ntmps31
    go_wp2_with (first | ((with_reducible refine (W1.out _).mono ?_); rintro e w' ⟨rfl, rfl⟩) | ((with_reducible refine (W2.out _).mono ?_); rintro e w' ⟨rfl, rfl⟩) | ((with_reducible refine (num_w _ _).mono ?_); rintro e w' ⟨z, rfl, rfl⟩) | ((with_reducible refine (mem_w _ _ _).mono ?_); rintro e w' ⟨z, rfl, rfl⟩) | ((with_reducible refine (rm_w _ _ _).mono ?_); rintro e w' ⟨z, rfl, rfl⟩) | ((with_reducible refine (of86_at _ _ _ _ _ _).mono ?_); rintro e w1 ⟨rfl, B1, c0, c1, f0, f1⟩) | ((with_reducible refine (places_w _ _ _).mono ?_); rintro e w1 ⟨A1, n1, k1, t1, rfl, hP1, hb1⟩; obtain ⟨B1, c0, c1, f0, f1⟩ := at_box hb1; clear hb1))
    all_goals first
      | (apply bodyPost_ret
         · simp [results, Tryd.results31, go_sem, c0, c1]
           exact rfl
         · rfl
         · refine ⟨_, _, _, _, rfl, fun hne => ?_, (B1.out.setCell (by simp) _).setCell (by simp) _⟩
           (try simp only [beq_iff_eq, bne_iff_ne, Bool.not_eq_true, beq_eq_false_iff_ne, bne_eq_false_iff_eq] at *)
           first | exact ⟨by omega, hP1 hne⟩ | (refine ⟨by omega, ?_⟩; first | (unfold okPl; omega) | (have := wideL_pos s (by omega); unfold okPl; omega)))
      | (apply bodyPost_ret
         · simp [results, Tryd.results31, go_sem]
           exact rfl
         · rfl
         · exact ⟨_, _, _, _, rfl, fun h => absurd rfl h, (Below.refl _ _).alloc (Nat.le_refl _) _⟩)
  · have wd : wideL 20 = 0 := by unfold wideL; split <;> (try split) <;> omega
    rw [wd] at W1
    clear wd
    go_enter Tryd.func31, Tryd.ntmps31
    go_wp2_with (first | ((with_reducible refine (W1.out _).mono ?_); rintro e w' ⟨rfl, rfl⟩) | ((with_reducible refine (W2.out _).mono ?_); rintro e w' ⟨rfl, rfl⟩) | ((with_reducible refine (num_w _ _).mono ?_); rintro e w' ⟨z, rfl, rfl⟩) | ((with_reducible refine (mem_w _ _ _).mono ?_); rintro e w' ⟨z, rfl, rfl⟩) | ((with_reducible refine (rm_w _ _ _).mono ?_); rintro e w' ⟨z, rfl, rfl⟩) | ((with_reducible refine (of86_at _ _ _ _ _ _).mono ?_); rintro e w1 ⟨rfl, B1, c0, c1, f0, f1⟩) | ((with_reducible refine (places_w _ _ _).mono ?_); rintro e w1 ⟨A1, n1, k1, t1, rfl, hP1, hb1⟩; obtain ⟨B1, c0, c1, f0, f1⟩ := at_box hb1; clear hb1))
    all_goals first
      | (apply bodyPost_ret
         · simp [results, Tryd.results31, go_sem, c0, c1]
           exact rfl
         · rfl
         · refine ⟨_, _, _, _, rfl, fun hne => ?_, (B1.out.setCell (by simp) _).setCell (by simp) _⟩
           (try simp only [beq_iff_eq, bne_iff_ne, Bool.not_eq_true, beq_eq_false_iff_ne, bne_eq_false_iff_eq] at *)
           first | exact ⟨by omega, hP1 hne⟩ | (refine ⟨by omega, ?_⟩; first | (unfold okPl; omega) | (have := wideL_pos s (by omega); unfold okPl; omega)))
      | (apply bodyPost_ret
         · simp [results, Tryd.results31, go_sem]
           exact rfl
         · rfl
         · exact ⟨_, _, _, _, rfl, fun h => absurd rfl h, (Below.refl _ _).alloc (Nat.le_refl _) _⟩)
  · have wd : wideL d = 0 := by unfold wideL; split <;> (try split) <;> omega
    rw [wd] at W1
    clear wd
    have e1 : (d == 1) = false := by rw [beq_eq_false_iff_ne]; omega
    have e9 : (d == 9) = false := by rw [beq_eq_false_iff_ne]; omega
    have e20 : (d == 20) = false := by rw [beq_eq_false_iff_ne]; omega
    have n9 : (d != 9) = true := by rw [bne_iff_ne]; omega
    go_enter Tryd.func31, Tryd.ntmps31
    go_wp2_with (first | ((with_reducible refine (W1.out _).mono ?_); rintro e w' ⟨rfl, rfl⟩) | ((with_reducible refine (W2.out _).mono ?_); rintro e w' ⟨rfl, rfl⟩) | ((with_reducible refine (num_w _ _).mono ?_); rintro e w' ⟨z, rfl, rfl⟩) | ((with_reducible refine (mem_w _ _ _).mono ?_); rintro e w' ⟨z, rfl, rfl⟩) | ((with_reducible refine (rm_w _ _ _).mono ?_); rintro e w' ⟨z, rfl, rfl⟩) | ((with_reducible refine (of86_at _ _ _ _ _ _).mono ?_); rintro e w1 ⟨rfl, B1, c0, c1, f0, f1⟩) | ((with_reducible refine (places_w _ _ _).mono ?_); rintro e w1 ⟨A1, n1, k1, t1, rfl, hP1, hb1⟩; obtain ⟨B1, c0, c1, f0, f1⟩ := at_box hb1; clear hb1))
    all_goals first
      | (apply bodyPost_ret
         · simp [results, Tryd.results31, go_sem, c0, c1]
           exact rfl
         · rfl
         · refine ⟨_, _, _, _, rfl, fun hne => ?_, (B1.out.setCell (by simp) _).setCell (by simp) _⟩
           (try simp only [beq_iff_eq, bne_iff_ne, Bool.not_eq_true, beq_eq_false_iff_ne, bne_eq_false_iff_eq] at *)
           first | exact ⟨by omega, hP1 hne⟩ | (refine ⟨by omega, ?_⟩; first | (unfold okPl; omega) | (have := wideL_pos s (by omega); unfold okPl; omega)))
      | (apply bodyPost_ret
         · simp [results, Tryd.results31, go_sem]
           exact rfl
         · rfl
         · exact ⟨_, _, _, _, rfl, fun h => absurd rfl h, (Below.refl _ _).alloc (Nat.le_refl _) _⟩)
set_option maxHeartbeats 8000000 in
set_option maxRecDepth 100000 in
theorem two_w31 (d s : Int) (w : World) : Calls Tryd.prog 31 #[.int .i64 31, .int .i64 d, .int .i64 s] w (HeadW (okTwo 31 d s) w) := by
  have W1 := Lib.hid (fun W => wide_any d W)
  have W2 := Lib.hid (fun W => wide_any s W)
  rcases wide_cases d with rfl | ⟨hd, hd'⟩ | rfl | ⟨hd, hd'⟩ | rfl | rfl | rfl | rfl | hd
  · have wd : wideL 1 = 8 := by unfold wideL; split <;> (try split) <;> omega
    rw [wd] at W1
    clear wd
    go_enter Tryd.func31, Tryd.ntmps31
    go_wp2_with (first | ((with_reducible refine (W1.out _).mono ?_); rintro e w' ⟨rfl, rfl⟩) | ((with_reducible refine (W2.out _).mono ?_); rintro e w' ⟨rfl, rfl⟩) | ((with_reducible refine (num_w _ _).mono ?_); rintro e w' ⟨z, rfl, rfl⟩) | ((with_reducible refine (mem_w _ _ _).mono ?_); rintro e w' ⟨z, rfl, rfl⟩) | ((with_reducible refine (rm_w _ _ _).mono ?_); rintro e w' ⟨z, rfl, rfl⟩) | ((with_reducible refine (of86_at _ _ _ _ _ _).mono ?_); rintro e w1 ⟨rfl, B1, c0, c1, f0, f1⟩) | ((with_reducible refine (places_w _ _ _).mono ?_); rintro e w1 ⟨A1, n1, k1, t1, rfl, hP1, hb1⟩; obtain ⟨B1, c0, c1, f0, f1⟩ := at_box hb1; clear hb1))
    all_goals first
      | (apply bodyPost_ret
         · simp [results, Tryd.results31, go_sem, c0, c1]
           exact rfl
         · rfl
         · refine ⟨_, _, _, _, rfl, fun hne => ?_, (B1.out.setCell (by simp) _).setCell (by simp) _⟩
           (try simp only [beq_iff_eq, bne_iff_ne, Bool.not_eq_true, beq_eq_false_iff_ne, bne_eq_false_iff_eq] at *)
           first | exact ⟨by omega, hP1 hne⟩ | (refine ⟨by omega, ?_⟩; first | (unfold okPl; omega) | (have := wideL_pos s (by omega); unfold okPl; omega)))
      | (apply bodyPost_ret
         · simp [results, Tryd.results31, go_sem]
           exact rfl
         · rfl
         · exact ⟨_, _, _, _, rfl, fun h => absurd rfl h, (Below.refl _ _).alloc (Nat.le_refl _) _⟩)
  · have wd : wideL d = 8 := by unfold wideL; split <;> (try split) <;> omega
    rw [wd] at W1
    clear wd
    have e1 : (d == 1) = false := by rw [beq_eq_false_iff_ne]; omega
    have e9 : (d == 9) = false := by rw [beq_eq_false_iff_ne]; omega
    have e20 : (d == 20) = false := by rw [beq_eq_false_iff_ne]; omega
    have n9 : (d != 9) = true := by rw [bne_iff_ne]; omega
    go_enter Tryd.func31, Tryd.ntmps31
    go_wp2_with (first | ((with_reducible refine (W1.out _).mono ?_); rintro e w' ⟨rfl, rfl⟩) | ((with_reducible refine (W2.out _).mono ?_); rintro e w' ⟨rfl, rfl⟩) | ((with_reducible refine (num_w _ _).mono ?_); rintro e w' ⟨z, rfl, rfl⟩) | ((with_reducible refine (mem_w _ _ _).mono ?_); rintro e w' ⟨z, rfl, rfl⟩) | ((with_reducible refine (rm_w _ _ _).mono ?_); rintro e w' ⟨z, rfl, rfl⟩) | ((with_reducible refine (of86_at _ _ _ _ _ _).mono ?_); rintro e w1 ⟨rfl, B1, c0, c1, f0, f1⟩) | ((with_reducible refine (places_w _ _ _).mono ?_); rintro e w1 ⟨A1, n1, k1, t1, rfl, hP1, hb1⟩; obtain ⟨B1, c0, c1, f0, f1⟩ := at_box hb1; clear hb1))
    all_goals first
      | (apply bodyPost_ret
         · simp [results, Tryd.results31, go_sem, c0, c1]
           exact rfl
         · rfl
         · refine ⟨_, _, _, _, rfl, fun hne => ?_, (B1.out.setCell (by simp) _).setCell (by simp) _⟩
           (try simp only [beq_iff_eq, bne_iff_ne, Bool.not_eq_true, beq_eq_false_iff_ne, bne_eq_false_iff_eq] at *)
           first | exact ⟨by omega, hP1 hne⟩ | (refine ⟨by omega, ?_⟩; first | (unfold okPl; omega) | (have := wideL_pos s (by omega); unfold okPl; omega)))
      | (apply bodyPost_ret
         · simp [results, Tryd.results31, go_sem]
           exact rfl
         · rfl
         · exact ⟨_, _, _, _, rfl, fun h => absurd rfl h, (Below.refl _ _).alloc (Nat.le_refl _) _⟩)
  · have wd : wideL 9 = 16 := by unfold wideL; split <;> (try split) <;> omega
    rw [wd] at W1
    clear wd
    go_enter Tryd.func31, Tryd.ntmps31
    go_wp2_with (first | ((with_reducible refine (W1.out _).mono ?_); rintro e w' ⟨rfl, rfl⟩) | ((with_reducible refine (W2.out _).mono ?_); rintro e w' ⟨rfl, rfl⟩) | ((with_reducible refine (num_w _ _).mono ?_); rintro e w' ⟨z, rfl, rfl⟩) | ((with_reducible refine (mem_w _ _ _).mono ?_); rintro e w' ⟨z, rfl, rfl⟩) | ((with_reducible refine (rm_w _ _ _).mono ?_); rintro e w' ⟨z, rfl, rfl⟩) | ((with_reducible refine (of86_at _ _ _ _ _ _).mono ?_); rintro e w1 ⟨rfl, B1, c0, c1, f0, f1⟩) | ((with_reducible refine (places_w _ _ _).mono ?_); rintro e w1 ⟨A1, n1, k1, t1, rfl, hP1, hb1⟩; obtain ⟨B1, c0, c1, f0, f1⟩ := at_box hb1; clear hb1))
    all_goals first
      | (apply bodyPost_ret
         · simp [results, Tryd.results31, go_sem, c0, c1]
           exact rfl
         · rfl
         · refine ⟨_, _, _, _, rfl, fun hne => ?_, (B1.out.setCell (by simp) _).setCell (by simp) _⟩
           (try simp only [beq_iff_eq, bne_iff_ne, Bool.not_eq_true, beq_eq_false_iff_ne, bne_eq_false_iff_eq] at *)
           first | exact ⟨by omega, hP1 hne⟩ | (refine ⟨by omega, ?_⟩; first | (unfold okPl; omega) | (have := wideL_pos s (by omega); unfold okPl; omega)))
      | (apply bodyPost_ret
         · simp [results, Tryd.results31, go_sem]
           exact rfl
         · rfl
         · exact ⟨_, _, _, _, rfl, fun h => absurd rfl h, (Below.refl _ _).alloc (Nat.le_refl _) _⟩)
  · have wd : wideL d = 16 := by unfold wideL; split <;> (try split) <;> omega
    rw [wd] at W1
    clear wd
    have e1 : (d == 1) = false := by rw [beq_eq_false_iff_ne]; omega
    have e9 : (d == 9) = false := by rw [beq_eq_false_iff_ne]; omega
    have e20 : (d == 20) = false := by rw [beq_eq_false_iff_ne]; omega
    have n9 : (d != 9) = true := by rw [bne_iff_ne]; omega
    go_enter Tryd.func31, Tryd.ntmps31
    go_wp2_with (first | ((with_reducible refine (W1.out _).mono ?_); rintro e w' ⟨rfl, rfl⟩) | ((with_reducible refine (W2.out _).mono ?_); rintro e w' ⟨rfl, rfl⟩) | ((with_reducible refine (num_w _ _).mono ?_); rintro e w' ⟨z, rfl, rfl⟩) | ((with_reducible refine (mem_w _ _ _).mono ?_); rintro e w' ⟨z, rfl, rfl⟩) | ((with_reducible refine (rm_w _ _ _).mono ?_); rintro e w' ⟨z, rfl, rfl⟩) | ((with_reducible refine (of86_at _ _ _ _ _ _).mono ?_); rintro e w1 ⟨rfl, B1, c0, c1, f0, f1⟩) | ((with_reducible refine (places_w _ _ _).mono ?_); rintro e w1 ⟨A1, n1, k1, t1, rfl, hP1, hb1⟩; obtain ⟨B1, c0, c1, f0, f1⟩ := at_box hb1; clear hb1))
    all_goals first
      | (apply bodyPost_ret
         · simp [results, Tryd.results31, go_sem, c0, c1]
           exact rfl
         · rfl
         · refine ⟨_, _, _, _, rfl, fun hne => ?_, (B1.out.setCell (by simp) _).setCell (by simp) _⟩
           (try simp only [beq_iff_eq, bne_iff_ne, Bool.not_eq_true, beq_eq_false_iff_ne, bne_eq_false_iff_eq] at *)
           first | exact ⟨by omega, hP1 hne⟩ | (refine ⟨by omega, ?_⟩; first | (unfold okPl; omega) | (have := wideL_pos s (by omega); unfold okPl; omega)))
      | (apply bodyPost_ret
         · simp [results, Tryd.results31, go_sem]
           exact rfl
         · rfl
         · exact ⟨_, _, _, _, rfl, fun h => absurd rfl h, (Below.refl _ _).alloc (Nat.le_refl _) _⟩)
  · have wd : wideL 17 = 0 := by unfold wideL; split <;> (try split) <;> omega
    rw [wd] at W1
    clear wd
    go_enter Tryd.func31, Tryd.ntmps31
    go_wp2_with (first | ((with_reducible refine (W1.out _).mono ?_); rintro e w' ⟨rfl, rfl⟩) | ((with_reducible refine (W2.out _).mono ?_); rintro e w' ⟨rfl, rfl⟩) | ((with_reducible refine (num_w _ _).mono ?_); rintro e w' ⟨z, rfl, rfl⟩) | ((with_reducible refine (mem_w _ _ _).mono ?_); rintro e w' ⟨z, rfl, rfl⟩) | ((with_reducible refine (rm_w _ _ _).mono ?_); rintro e w' ⟨z, rfl, rfl⟩) | ((with_reducible refine (of86_at _ _ _ _ _ _).mono ?_); rintro e w1 ⟨rfl, B1, c0, c1, f0, f1⟩) | ((with_reducible refine (places_w _ _ _).mono ?_); rintro e w1 ⟨A1, n1, k1, t1, rfl, hP1, hb1⟩; obtain ⟨B1, c0, c1, f0, f1⟩ := at_box hb1; clear hb1))
    all_goals first
      | (apply bodyPost_ret
         · simp [results, Tryd.results31, go_sem, c0, c1]
           exact rfl
         · rfl
         · refine ⟨_, _, _, _, rfl, fun hne => ?_, (B1.out.setCell (by simp) _).setCell (by simp) _⟩
           (try simp only [beq_iff_eq, bne_iff_ne, Bool.not_eq_true, beq_eq_false_iff_ne, bne_eq_false_iff_eq] at *)
           first | exact ⟨by omega, hP1 hne⟩ | (refine ⟨by omega, ?_⟩; first | (unfold okPl; omega) | (have := wideL_pos s (by omega); unfold okPl; omega)))
      | (apply bodyPost_ret
         · simp [results, Tryd.results31, go_sem]
           exact rfl
         · rfl
         · exact ⟨_, _, _, _, rfl, fun h => absurd rfl h, (Below.refl _ _).alloc (Nat.le_refl _) _⟩)
  · have wd : wideL 18 = 0 := by unfold wideL; split <;> (try split) <;> omega
    rw [wd] at W1
    clear wd
    go_enter Tryd.func31, Tryd.ntmps31
    go_wp2_with (first | ((with_reducible refine (W1.out _).mono ?_); rintro e w' ⟨rfl, rfl⟩) | ((with_reducible refine (W2.out _).mono ?_); rintro e w' ⟨rfl, rfl⟩) | ((with_reducible refine (num_w _ _).mono ?_); rintro e w' ⟨z, rfl, rfl⟩) | ((with_reducible refine (mem_w _ _ _).mono ?_); rintro e w' ⟨z, rfl, rfl⟩) | ((with_reducible refine (rm_w _ _ _).mono ?_); rintro e w' ⟨z, rfl, rfl⟩) | ((with_reducible refine (of86_at _ _ _ _ _ _).mono ?_); rintro e w1 ⟨rfl, B1, c0, c1, f0, f1⟩) | ((with_reducible refine (places_w _ _ _).mono ?_); rintro e w1 ⟨A1, n1, k1, t1, rfl, hP1, hb1⟩; obtain ⟨B1, c0, c1, f0, f1⟩ := at_box hb1; clear hb1))
    all_goals first
      | (apply bodyPost_ret
         · simp [results, Tryd.results31, go_sem, c0, c1]
           exact rfl
         · rfl
         · refine ⟨_, _, _, _, rfl, fun hne => ?_, (B1.out.setCell (by simp) _).setCell (by simp) _⟩
           (try simp only [beq_iff_eq, bne_iff_ne, Bool.not_eq_true, beq_eq_false_iff_ne, bne_eq_false_iff_eq] at *)
           first | exact ⟨by omega, hP1 hne⟩ | (refine ⟨by omega, ?_⟩; first | (unfold okPl; omega) | (have := wideL_pos s (by omega); unfold okPl; omega)))
      | (apply bodyPost_ret
         · simp [results, Tryd.results31, go_sem]
           exact rfl
         · rfl
         · exact ⟨_, _, _, _, rfl, fun h => absurd rfl h, (Below.refl _ _).alloc (Nat.le_refl _) _⟩)
  · have wd : wideL 19 = 0 := by unfold wideL; split <;> (try split) <;> omega
    rw [wd] at W1
    clear wd
    go_enter Tryd.func31, Tryd.ntmps31
    go_wp2_with (first | ((with_reducible refine (W1.out _).mono ?_); rintro e w' ⟨rfl, rfl⟩) | ((with_reducible refine (W2.out _).mono ?_); rintro e w' ⟨rfl, rfl⟩) | ((with_reducible refine (num_w _ _).mono ?_); rintro e w' ⟨z, rfl, rfl⟩) | ((with_reducible refine (mem_w _ _ _).mono ?_); rintro e w' ⟨z, rfl, rfl⟩) | ((with_reducible refine (rm_w _ _ _).mono ?_); rintro e w' ⟨z, rfl, rfl⟩) | ((with_reducible refine (of86_at _ _ _ _ _ _).mono ?_); rintro e w1 ⟨rfl, B1, c0, c1, f0, f1⟩) | ((with_reducible refine (places_w _ _ _).mono ?_); rintro e w1 ⟨A1, n1, k1, t1, rfl, hP1, hb1⟩; obtain ⟨B1, c0, c1, f0, f1⟩ := at_box hb1; clear hb1))
    all_goals first
      | (apply bodyPost_ret
         · simp [results, Tryd.results31, go_sem, c0, c1]
           exact rfl
         · rfl
         · refine ⟨_, _, _, _, rfl, fun hne => ?_, (B1.out.setCell (by simp) _).setCell (by simp) _⟩
           (try simp only [beq_iff_eq, bne_iff_ne, Bool.not_eq_true, beq_eq_false_iff_ne, bne_eq_false_iff_eq] at *)
           first | exact ⟨by omega, hP1 hne⟩ | (refine ⟨by omega, ?_⟩; first | (unfold okPl; omega) | (have := wideL_pos s (by omega); unfold okPl; omega)))
      | (apply bodyPost_ret
         · simp [results, Tryd.results31, go_sem]
           exact rfl
         · rfl
         · exact ⟨_, _, _, _, rfl, fun h => absurd rfl h, (Below.refl _ _).alloc (Nat.le_refl _) _⟩)
  · have wd : wideL 20 = 0 := by unfold wideL; split <;> (try split) <;> omega
    rw [wd] at W1
    clear wd
    go_enter Tryd.func31, Tryd.ntmps31
    go_wp2_with (first | ((with_reducible refine (W1.out _).mono ?_); rintro e w' ⟨rfl, rfl⟩) | ((with_reducible refine (W2.out _).mono ?_); rintro e w' ⟨rfl, rfl⟩) | ((with_reducible refine (num_w _ _).mono ?_); rintro e w' ⟨z, rfl, rfl⟩) | ((with_reducible refine (mem_w _ _ _).mono ?_); rintro e w' ⟨z, rfl, rfl⟩) | ((with_reducible refine (rm_w _ _ _).mono ?_); rintro e w' ⟨z, rfl, rfl⟩) | ((with_reducible refine (of86_at _ _ _ _ _ _).mono ?_); rintro e w1 ⟨rfl, B1, c0, c1, f0, f1⟩) | ((with_reducible refine (places_w _ _ _).mono ?_); rintro e w1 ⟨A1, n1, k1, t1, rfl, hP1, hb1⟩; obtain ⟨B1, c0, c1, f0, f1⟩ := at_box hb1; clear hb1))
    all_goals first
      | (apply bodyPost_ret
         · simp [results, Tryd.results31, go_sem, c0, c1]
           exact rfl
         · rfl
         · refine ⟨_, _, _, _, rfl, fun hne => ?_, (B1.out.setCell (by simp) _).setCell (by simp) _⟩
           (try simp only [beq_iff_eq, bne_iff_ne, Bool.not_eq_true, beq_eq_false_iff_ne, bne_eq_false_iff_eq] at *)
           first | exact ⟨by omega, hP1 hne⟩ | (refine ⟨by omega, ?_⟩; first | (unfold okPl; omega) | (have := wideL_pos s (by omega); unfold okPl; omega)))
      | (apply bodyPost_ret
         · simp [results, Tryd.results31, go_sem]
           exact rfl
         · rfl
         · exact ⟨_, _, _, _, rfl, fun h => absurd rfl h, (Below.refl _ _).alloc (Nat.le_refl _) _⟩)
  · have wd : wideL d = 0 := by unfold wideL; split <;> (try split) <;> omega
    rw [wd] at W1
    clear wd
    have e1 : (d == 1) = false := by rw [beq_eq_false_iff_ne]; omega
    have e9 : (d == 9) = false := by rw [beq_eq_false_iff_ne]; omega
    have e20 : (d == 20) = false := by rw [beq_eq_false_iff_ne]; omega
    have n9 : (d != 9) = true := by rw [bne_iff_ne]; omega
    go_enter Tryd.func31, Tryd.ntmps31
    go_wp2_with (first | ((with_reducible refine (W1.out _).mono ?_); rintro e w' ⟨rfl, rfl⟩) | ((with_reducible refine (W2.out _).mono ?_); rintro e w' ⟨rfl, rfl⟩) | ((with_reducible refine (num_w _ _).mono ?_); rintro e w' ⟨z, rfl, rfl⟩) | ((with_reducible refine (mem_w _ _ _).mono ?_); rintro e w' ⟨z, rfl, rfl⟩) | ((with_reducible refine (rm_w _ _ _).mono ?_); rintro e w' ⟨z, rfl, rfl⟩) | ((with_reducible refine (of86_at _ _ _ _ _ _).mono ?_); rintro e w1 ⟨rfl, B1, c0, c1, f0, f1⟩) | ((with_reducible refine (places_w _ _ _).mono ?_); rintro e w1 ⟨A1, n1, k1, t1, rfl, hP1, hb1⟩; obtain ⟨B1, c0, c1, f0, f1⟩ := at_box hb1; clear hb1))
    all_goals first
      | (apply bodyPost_ret
         · simp [results, Tryd.results31, go_sem, c0, c1]
           exact rfl
         · rfl
         · refine ⟨_, _, _, _, rfl, fun hne => ?_, (B1.out.setCell (by simp) _).setCell (by simp) _⟩
           (try simp only [beq_iff_eq, bne_iff_ne, Bool.not_eq_true, beq_eq_false_iff_ne, bne_eq_false_iff_eq] at *)
           first | exact ⟨by omega, hP1 hne⟩ | (refine ⟨by omega, ?_⟩; first | (unfold okPl; omega) | (have := wideL_pos s (by omega); unfold okPl; omega)))
      | (apply bodyPost_ret
         · simp [results, Tryd.results31, go_sem]
           exact rfl
         · rfl
         · exact ⟨_, _, _, _, rfl, fun h => absurd rfl h, (Below.refl _ _).alloc (Nat.le_refl _) _⟩)
set_option maxHeartbeats 8000000 in
set_option maxRecDepth 100000 in
theorem two_ws (op : Int) (ho : 2 ≤ op) (ho2 : op ≤ 9) (d s : Int) (w : World) : Calls Tryd.prog 31 #[.int .i64 op, .int .i64 d, .int .i64 s] w (HeadW (okTwo op d s) w) := by
  have W1 := Lib.hid (fun W => wide_any d W)
  have W2 := Lib.hid (fun W => wide_any s W)
  have o1 : (op == 1) = false := by rw [beq_eq_false_iff_ne]; omega
  have o17 : (op == 17) = false := by rw [beq_eq_false_iff_ne]; omega
  have o30 : (op == 30) = false := by rw [beq_eq_false_iff_ne]; omega
  have o31 : (op == 31) = false := by rw [beq_eq_false_iff_ne]; omega
  have u1 : ¬ op < 2 := by omega
  have u2 : ¬ 9 < op := by omega
  rcases wide_cases d with rfl | ⟨hd, hd'⟩ | rfl | ⟨hd, hd'⟩ | rfl | rfl | rfl | rfl | hd
  · have wd : wideL 1 = 8 := by unfold wideL; split <;> (try split) <;> omega
    rw [wd] at W1
    clear wd
    go_enter Tryd.func31, Tryd.ntmps31
    go_wp2_with (first | ((with_reducible refine (W1.out _).mono ?_); rintro e w' ⟨rfl, rfl⟩) | ((with_reducible refine (W2.out _).mono ?_); rintro e w' ⟨rfl, rfl⟩) | ((with_reducible refine (num_w _ _).mono ?_); rintro e w' ⟨z, rfl, rfl⟩) | ((with_reducible refine (mem_w _ _ _).mono ?_); rintro e w' ⟨z, rfl, rfl⟩) | ((with_reducible refine (rm_w _ _ _).mono ?_); rintro e w' ⟨z, rfl, rfl⟩) | ((with_reducible refine (of86_at _ _ _ _ _ _).mono ?_); rintro e w1 ⟨rfl, B1, c0, c1, f0, f1⟩) | ((with_reducible refine (places_w _ _ _).mono ?_); rintro e w1 ⟨A1, n1, k1, t1, rfl, hP1, hb1⟩; obtain ⟨B1, c0, c1, f0, f1⟩ := at_box hb1; clear hb1))
    all_goals first
      | (apply bodyPost_ret
         · simp [results, Tryd.results31, go_sem, c0, c1]
           exact rfl
         · rfl
         · refine ⟨_, _, _, _, rfl, fun hne => ?_, (B1.out.setCell (by simp) _).setCell (by simp) _⟩
           (try simp only [beq_iff_eq, bne_iff_ne, Bool.not_eq_true, beq_eq_false_iff_ne, bne_eq_false_iff_eq] at *)
           first | exact ⟨by omega, hP1 hne⟩ | (refine ⟨by omega, ?_⟩; first | (unfold okPl; omega) | (have := wideL_pos s (by omega); unfold okPl; omega)))
      | (apply bodyPost_ret
         · simp [results, Tryd.results31, go_sem]
           exact rfl
         · rfl
         · exact ⟨_, _, _, _, rfl, fun h => absurd rfl h, (Below.refl _ _).alloc (Nat.le_refl _) _⟩)
  · have wd : wideL d = 8 := by unfold wideL; split <;> (try split) <;> omega
    rw [wd] at W1
    clear wd
    have e1 : (d == 1) = false := by rw [beq_eq_false_iff_ne]; omega
    have e9 : (d == 9) = false := by rw [beq_eq_false_iff_ne]; omega
    have e20 : (d == 20) = false := by rw [beq_eq_false_iff_ne]; omega
    have n9 : (d != 9) = true := by rw [bne_iff_ne]; omega
    go_enter Tryd.func31, Tryd.ntmps31
    go_wp2_with (first | ((with_reducible refine (W1.out _).mono ?_); rintro e w' ⟨rfl, rfl⟩) | ((with_reducible refine (W2.out _).mono ?_); rintro e w' ⟨rfl, rfl⟩) | ((with_reducible refine (num_w _ _).mono ?_); rintro e w' ⟨z, rfl, rfl⟩) | ((with_reducible refine (mem_w _ _ _).mono ?_); rintro e w' ⟨z, rfl, rfl⟩) | ((with_reducible refine (rm_w _ _ _).mono ?_); rintro e w' ⟨z, rfl, rfl⟩) | ((with_reducible refine (of86_at _ _ _ _ _ _).mono ?_); rintro e w1 ⟨rfl, B1, c0, c1, f0, f1⟩) | ((with_reducible refine (places_w _ _ _).mono ?_); rintro e w1 ⟨A1, n1, k1, t1, rfl, hP1, hb1⟩; obtain ⟨B1, c0, c1, f0, f1⟩ := at_box hb1; clear hb1))
    all_goals first
      | (apply bodyPost_ret
         · simp [results, Tryd.results31, go_sem, c0, c1]
           exact rfl
         · rfl
         · refine ⟨_, _, _, _, rfl, fun hne => ?_, (B1.out.setCell (by simp) _).setCell (by simp) _⟩
           (try simp only [beq_iff_eq, bne_iff_ne, Bool.not_eq_true, beq_eq_false_iff_ne, bne_eq_false_iff_eq] at *)
           first | exact ⟨by omega, hP1 hne⟩ | (refine ⟨by omega, ?_⟩; first | (unfold okPl; omega) | (have := wideL_pos s (by omega); unfold okPl; omega)))
      | (apply bodyPost_ret
         · simp [results, Tryd.results31, go_sem]
           exact rfl
         · rfl
         · exact ⟨_, _, _, _, rfl, fun h => absurd rfl h, (Below.refl _ _).alloc (Nat.le_refl _) _⟩)
  · have wd : wideL 9 = 16 := by unfold wideL; split <;> (try split) <;> omega
    rw [wd] at W1
    clear wd
    go_enter Tryd.func31, Tryd.ntmps31
    go_wp2_with (first | ((with_reducible refine (W1.out _).mono ?_); rintro e w' ⟨rfl, rfl⟩) | ((with_reducible refine (W2.out _).mono ?_); rintro e w' ⟨rfl, rfl⟩) | ((with_reducible refine (num_w _ _).mono ?_); rintro e w' ⟨z, rfl, rfl⟩) | ((with_reducible refine (mem_w _ _ _).mono ?_); rintro e w' ⟨z, rfl, rfl⟩) | ((with_reducible refine (rm_w _ _ _).mono ?_); rintro e w' ⟨z, rfl, rfl⟩) | ((with_reducible refine (of86_at _ _ _ _ _ _).mono ?_); rintro e w1 ⟨rfl, B1, c0, c1, f0, f1⟩) | ((with_reducible refine (places_w _ _ _).mono ?_); rintro e w1 ⟨A1, n1, k1, t1, rfl, hP1, hb1⟩; obtain ⟨B1, c0, c1, f0, f1⟩ := at_box hb1; clear hb1))
    all_goals first
      | (apply bodyPost_ret
         · simp [results, Tryd.results31, go_sem, c0, c1]
           exact rfl
         · rfl
         · refine ⟨_, _, _, _, rfl, fun hne => ?_, (B1.out.setCell (by simp) _).setCell (by simp) _⟩
           (try simp only [beq_iff_eq, bne_iff_ne, Bool.not_eq_true, beq_eq_false_iff_ne, bne_eq_false_iff_eq] at *)
           first | exact ⟨by omega, hP1 hne⟩ | (refine ⟨by omega, ?_⟩; first | (unfold okPl; omega) | (have := wideL_pos s (by omega); unfold okPl; omega)))
      | (apply bodyPost_ret
         · simp [results, Tryd.results31, go_sem]
           exact rfl
         · rfl
         · exact ⟨_, _, _, _, rfl, fun h => absurd rfl h, (Below.refl _ _).alloc (Nat.le_refl _) _⟩)
  · have wd : wideL d = 16 := by unfold wideL; split <;> (try split) <;> omega
    rw [wd] at W1
    clear wd
    have e1 : (d == 1) = false := by rw [beq_eq_false_iff_ne]; omega
    have e9 : (d == 9) = false := by rw [beq_eq_false_iff_ne]; omega
    have e20 : (d == 20) = false := by rw [beq_eq_false_iff_ne]; omega
    have n9 : (d != 9) = true := by rw [bne_iff_ne]; omega
    go_enter Tryd.func31, Tryd.ntmps31
    go_wp2_with (first | ((with_reducible refine (W1.out _).mono ?_); rintro e w' ⟨rfl, rfl⟩) | ((with_reducible refine (W2.out _).mono ?_); rintro e w' ⟨rfl, rfl⟩) | ((with_reducible refine (num_w _ _).mono ?_); rintro e w' ⟨z, rfl, rfl⟩) | ((with_reducible refine (mem_w _ _ _).mono ?_); rintro e w' ⟨z, rfl, rfl⟩) | ((with_reducible refine (rm_w _ _ _).mono ?_); rintro e w' ⟨z, rfl, rfl⟩) | ((with_reducible refine (of86_at _ _ _ _ _ _).mono ?_); rintro e w1 ⟨rfl, B1, c0, c1, f0, f1⟩) | ((with_reducible refine (places_w _ _ _).mono ?_); rintro e w1 ⟨A1, n1, k1, t1, rfl, hP1, hb1⟩; obtain ⟨B1, c0, c1, f0, f1⟩ := at_box hb1; clear hb1))
    all_goals first
      | (apply bodyPost_ret
         · simp [results, Tryd.results31, go_sem, c0, c1]
           exact rfl
         · rfl
         · refine ⟨_, _, _, _, rfl, fun hne => ?_, (B1.out.setCell (by simp) _).setCell (by simp) _⟩
           (try simp only [beq_iff_eq, bne_iff_ne, Bool.not_eq_true, beq_eq_false_iff_ne, bne_eq_false_iff_eq] at *)
           first | exact ⟨by omega, hP1 hne⟩ | (refine ⟨by omega, ?_⟩; first | (unfold okPl; omega) | (have := wideL_pos s (by omega); unfold okPl; omega)))
      | (apply bodyPost_ret
         · simp [results, Tryd.results31, go_sem]
           exact rfl
         · rfl
         · exact ⟨_, _, _, _, rfl, fun h => absurd rfl h, (Below.refl _ _).alloc (Nat.le_refl _) _⟩)
  · have wd : wideL 17 = 0 := by unfold wideL; split <;> (try split) <;> omega
    rw [wd] at W1
    clear wd
    go_enter Tryd.func31, Tryd.ntmps31
    go_wp2_with (first | ((with_reducible refine (W1.out _).mono ?_); rintro e w' ⟨rfl, rfl⟩) | ((with_reducible refine (W2.out _).mono ?_); rintro e w' ⟨rfl, rfl⟩) | ((with_reducible refine (num_w _ _).mono ?_); rintro e w' ⟨z, rfl, rfl⟩) | ((with_reducible refine (mem_w _ _ _).mono ?_); rintro e w' ⟨z, rfl, rfl⟩) | ((with_reducible refine (rm_w _ _ _).mono ?_); rintro e w' ⟨z, rfl, rfl⟩) | ((with_reducible refine (of86_at _ _ _ _ _ _).mono ?_); rintro e w1 ⟨rfl, B1, c0, c1, f0, f1⟩) | ((with_reducible refine (places_w _ _ _).mono ?_); rintro e w1 ⟨A1, n1, k1, t1, rfl, hP1, hb1⟩; obtain ⟨B1, c0, c1, f0, f1⟩ := at_box hb1; clear hb1))
    all_goals first
      | (apply bodyPost_ret
         · simp [results, Tryd.results31, go_sem, c0, c1]
           exact rfl
         · rfl
         · refine ⟨_, _, _, _, rfl, fun hne => ?_, (B1.out.setCell (by simp) _).setCell (by simp) _⟩
           (try simp only [beq_iff_eq, bne_iff_ne, Bool.not_eq_true, beq_eq_false_iff_ne, bne_eq_false_iff_eq] at *)
           first | exact ⟨by omega, hP1 hne⟩ | (refine ⟨by omega, ?_⟩; first | (unfold okPl; omega) | (have := wideL_pos s (by omega); unfold okPl; omega)))
      | (apply bodyPost_ret
         · simp [results, Tryd.results31, go_sem]
           exact rfl
         · rfl
         · exact ⟨_, _, _, _, rfl, fun h => absurd rfl h, (Below.refl _ _).alloc (Nat.le_refl _) _⟩)
  · have wd : wideL 18 = 0 := by unfold wideL; split <;> (try split) <;> omega
    rw [wd] at W1
    clear wd
    go_enter Tryd.func31, Tryd.ntmps31
    go_wp2_with (first | ((with_reducible refine (W1.out _).mono ?_); rintro e w' ⟨rfl, rfl⟩) | ((with_reducible refine (W2.out _).mono ?_); rintro e w' ⟨rfl, rfl⟩) | ((with_reducible refine (num_w _ _).mono ?_); rintro e w' ⟨z, rfl, rfl⟩) | ((with_reducible refine (mem_w _ _ _).mono ?_); rintro e w' ⟨z, rfl, rfl⟩) | ((with_reducible refine (rm_w _ _ _).mono ?_); rintro e w' ⟨z, rfl, rfl⟩) | ((with_reducible refine (of86_at _ _ _ _ _ _).mono ?_); rintro e w1 ⟨rfl, B1, c0, c1, f0, f1⟩) | ((with_reducible refine (places_w _ _ _).mono ?_); rintro e w1 ⟨A1, n1, k1, t1, rfl, hP1, hb1⟩; obtain ⟨B1, c0, c1, f0, f1⟩ := at_box hb1; clear hb1))
    all_goals first
      | (apply bodyPost_ret
         · simp [results, Tryd.results31, go_sem, c0, c1]
           exact rfl
         · rfl
         · refine ⟨_, _, _, _, rfl, fun hne => ?_, (B1.out.setCell (by simp) _).setCell (by simp) _⟩
           (try simp only [beq_iff_eq, bne_iff_ne, Bool.not_eq_true, beq_eq_false_iff_ne, bne_eq_false_iff_eq] at *)
           first | exact ⟨by omega, hP1 hne⟩ | (refine ⟨by omega, ?_⟩; first | (unfold okPl; omega) | (have := wideL_pos s (by omega); unfold okPl; omega)))
      | (apply bodyPost_ret
         · simp [results, Tryd.results31, go_sem]
           exact rfl
         · rfl
         · exact ⟨_, _, _, _, rfl, fun h => absurd rfl h, (Below.refl _ _).alloc (Nat.le_refl _) _⟩)
  · have wd : wideL 19 = 0 := by unfold wideL; split <;> (try split) <;> omega
    rw [wd] at W1
    clear wd
    go_enter Tryd.func31, Tryd.ntmps31
    go_wp2_with (first | ((with_reducible refine (W1.out _).mono ?_); rintro e w' ⟨rfl, rfl⟩) | ((with_reducible refine (W2.out _).mono ?_); rintro e w' ⟨rfl, rfl⟩) | ((with_reducible refine (num_w _ _).mono ?_); rintro e w' ⟨z, rfl, rfl⟩) | ((with_reducible refine (mem_w _ _ _).mono ?_); rintro e w' ⟨z, rfl, rfl⟩) | ((with_reducible refine (rm_w _ _ _).mono ?_); rintro e w' ⟨z, rfl, rfl⟩) | ((with_reducible refine (of86_at _ _ _ _ _ _).mono ?_); rintro e w1 ⟨rfl, B1, c0, c1, f0, f1⟩) | ((with_reducible refine (places_w _ _ _).mono ?_); rintro e w1 ⟨A1, n1, k1, t1, rfl, hP1, hb1⟩; obtain ⟨B1, c0, c1, f0, f1⟩ := at_box hb1; clear hb1))
    all_goals first
      | (apply bodyPost_ret
         · simp [results, Tryd.results31, go_sem, c0, c1]
           exact rfl
         · rfl
         · refine ⟨_, _, _, _, rfl, fun hne => ?_, (B1.out.setCell (by simp) _).setCell (by simp) _⟩
           (try simp only [beq_iff_eq, bne_iff_ne, Bool.not_eq_true, beq_eq_false_iff_ne, bne_eq_false_iff_eq] at *)
           first | exact ⟨by omega, hP1 hne⟩ | (refine ⟨by omega, ?_⟩; first | (unfold okPl; omega) | (have := wideL_pos s (by omega); unfold okPl; omega)))
      | (apply bodyPost_ret
         · simp [results, Tryd.results31, go_sem]
           exact rfl
         · rfl
         · exact ⟨_, _, _, _, rfl, fun h => absurd rfl h, (Below.refl _ _).alloc (Nat.le_refl _) _⟩)
  · have wd : wideL 20 = 0 := by unfold wideL; split <;> (try split) <;> omega
    rw [wd] at W1
    clear wd
    go_enter Tryd.func31, Tryd.ntmps31
    go_wp2_with (first | ((with_reducible refine (W1.out _).mono ?_); rintro e w' ⟨rfl, rfl⟩) | ((with_reducible refine (W2.out _).mono ?_); rintro e w' ⟨rfl, rfl⟩) | ((with_reducible refine (num_w _ _).mono ?_); rintro e w' ⟨z, rfl, rfl⟩) | ((with_reducible refine (mem_w _ _ _).mono ?_); rintro e w' ⟨z, rfl, rfl⟩) | ((with_reducible refine (rm_w _ _ _).mono ?_); rintro e w' ⟨z, rfl, rfl⟩) | ((with_reducible refine (of86_at _ _ _ _ _ _).mono ?_); rintro e w1 ⟨rfl, B1, c0, c1, f0, f1⟩) | ((with_reducible refine (places_w _ _ _).mono ?_); rintro e w1 ⟨A1, n1, k1, t1, rfl, hP1, hb1⟩; obtain ⟨B1, c0, c1, f0, f1⟩ := at_box hb1; clear hb1))
    all_goals first
      | (apply bodyPost_ret
         · simp [results, Tryd.results31, go_sem, c0, c1]
           exact rfl
         · rfl
         · refine ⟨_, _, _, _, rfl, fun hne => ?_, (B1.out.setCell (by simp) _).setCell (by simp) _⟩
           (try simp only [beq_iff_eq, bne_iff_ne, Bool.not_eq_true, beq_eq_false_iff_ne, bne_eq_false_iff_eq] at *)
           first | exact ⟨by omega, hP1 hne⟩ | (refine ⟨by omega, ?_⟩; first | (unfold okPl; omega) | (have := wideL_pos s (by omega); unfold okPl; omega)))
      | (apply bodyPost_ret
         · simp [results, Tryd.results31, go_sem]
           exact rfl
         · rfl
         · exact ⟨_, _, _, _, rfl, fun h => absurd rfl h, (Below.refl _ _).alloc (Nat.le_refl _) _⟩)
  · have wd : wideL d = 0 := by unfold wideL; split <;> (try split) <;> omega
    rw [wd] at W1
    clear wd
    have e1 : (d == 1) = false := by rw [beq_eq_false_iff_ne]; omega
    have e9 : (d == 9) = false := by rw [beq_eq_false_iff_ne]; omega
    have e20 : (d == 20) = false := by rw [beq_eq_false_iff_ne]; omega
    have n9 : (d != 9) = true := by rw [bne_iff_ne]; omega
    go_enter Tryd.func31, Tryd.ntmps31
    go_wp2_with (first | ((with_reducible refine (W1.out _).mono ?_); rintro e w' ⟨rfl, rfl⟩) | ((with_reducible refine (W2.out _).mono ?_); rintro e w' ⟨rfl, rfl⟩) | ((with_reducible refine (num_w _ _).mono ?_); rintro e w' ⟨z, rfl, rfl⟩) | ((with_reducible refine (mem_w _ _ _).mono ?_); rintro e w' ⟨z, rfl, rfl⟩) | ((with_reducible refine (rm_w _ _ _).mono ?_); rintro e w' ⟨z, rfl, rfl⟩) | ((with_reducible refine (of86_at _ _ _ _ _ _).mono ?_); rintro e w1 ⟨rfl, B1, c0, c1, f0, f1⟩) | ((with_reducible refine (places_w _ _ _).mono ?_); rintro e w1 ⟨A1, n1, k1, t1, rfl, hP1, hb1⟩; obtain ⟨B1, c0, c1, f0, f1⟩ := at_box hb1; clear hb1))
    all_goals first
      | (apply bodyPost_ret
         · simp [results, Tryd.results31, go_sem, c0, c1]
           exact rfl
         · rfl
         · refine ⟨_, _, _, _, rfl, fun hne => ?_, (B1.out.setCell (by simp) _).setCell (by simp) _⟩
           (try simp only [beq_iff_eq, bne_iff_ne, Bool.not_eq_true, beq_eq_false_iff_ne, bne_eq_false_iff_eq] at *)
           first | exact ⟨by omega, hP1 hne⟩ | (refine ⟨by omega, ?_⟩; first | (unfold okPl; omega) | (have := wideL_pos s (by omega); unfold okPl; omega)))
      | (apply bodyPost_ret
         · simp [results, Tryd.results31, go_sem]
           exact rfl
         · rfl
         · exact ⟨_, _, _, _, rfl, fun h => absurd rfl h, (Below.refl _ _).alloc (Nat.le_refl _) _⟩)
set_option maxHeartbeats 8000000 in
set_option maxRecDepth 100000 in
theorem two_wo (op : Int) (hx : -9223372036854775808 ≤ op) (hx2 : op ≤ 9223372036854775807) (ho : op < 2 ∨ 9 < op) (ho1 : op ≠ 1) (ho2 : op ≠ 17) (ho3 : op ≠ 30) (ho4 : op ≠ 31) (d s : Int) (w : World) : Calls Tryd.prog 31 #[.int .i64 op, .int .i64 d, .int .i64 s] w (HeadW (okTwo op d s) w) := by
  have W1 := Lib.hid (fun W => wide_any d W)
  have W2 := Lib.hid (fun W => wide_any s W)
  have o1 : (op == 1) = false := by rw [beq_eq_false_iff_ne]; omega
  have o17 : (op == 17) = false := by rw [beq_eq_false_iff_ne]; omega
  have o30 : (op == 30) = false := by rw [beq_eq_false_iff_ne]; omega
  have o31 : (op == 31) = false := by rw [beq_eq_false_iff_ne]; omega
  clear ho1 ho2 ho3 ho4
  rcases wide_cases d with rfl | ⟨hd, hd'⟩ | rfl | ⟨hd, hd'⟩ | rfl | rfl | rfl | rfl | hd
  · have wd : wideL 1 = 8 := by unfold wideL; split <;> (try split) <;> omega
    rw [wd] at W1
    clear wd
    go_enter Tryd.func31, Tryd.ntmps31
    go_wp2_with (first | ((with_reducible refine (W1.out _).mono ?_); rintro e w' ⟨rfl, rfl⟩) | ((with_reducible refine (W2.out _).mono ?_); rintro e w' ⟨rfl, rfl⟩) | ((with_reducible refine (num_w _ _).mono ?_); rintro e w' ⟨z, rfl, rfl⟩) | ((with_reducible refine (mem_w _ _ _).mono ?_); rintro e w' ⟨z, rfl, rfl⟩) | ((with_reducible refine (rm_w _ _ _).mono ?_); rintro e w' ⟨z, rfl, rfl⟩) | ((with_reducible refine (of86_at _ _ _ _ _ _).mono ?_); rintro e w1 ⟨rfl, B1, c0, c1, f0, f1⟩) | ((with_reducible refine (places_w _ _ _).mono ?_); rintro e w1 ⟨A1, n1, k1, t1, rfl, hP1, hb1⟩; obtain ⟨B1, c0, c1, f0, f1⟩ := at_box hb1; clear hb1))
    all_goals first
      | (apply bodyPost_ret
         · simp [results, Tryd.results31, go_sem, c0, c1]
           exact rfl
         · rfl
         · refine ⟨_, _, _, _, rfl, fun hne => ?_, (B1.out.setCell (by simp) _).setCell (by simp) _⟩
           (try simp only [beq_iff_eq, bne_iff_ne, Bool.not_eq_true, beq_eq_false_iff_ne, bne_eq_false_iff_eq] at *)
           first | exact ⟨by omega, hP1 hne⟩ | (refine ⟨by omega, ?_⟩; first | (unfold okPl; omega) | (have := wideL_pos s (by omega); unfold okPl; omega)))
      | (apply bodyPost_ret
         · simp [results, Tryd.results31, go_sem]
           exact rfl
         · rfl
         · exact ⟨_, _, _, _, rfl, fun h => absurd rfl h, (Below.refl _ _).alloc (Nat.le_refl _) _⟩)
  · have wd : wideL d = 8 := by unfold wideL; split <;> (try split) <;> omega
    rw [wd] at W1
    clear wd
    have e1 : (d == 1) = false := by rw [beq_eq_false_iff_ne]; omega
    have e9 : (d == 9) = false := by rw [beq_eq_false_iff_ne]; omega
    have e20 : (d == 20) = false := by rw [beq_eq_false_iff_ne]; omega
    have n9 : (d != 9) = true := by rw [bne_iff_ne]; omega
    go_enter Tryd.func31, Tryd.ntmps31
    go_wp2_with (first | ((with_reducible refine (W1.out _).mono ?_); rintro e w' ⟨rfl, rfl⟩) | ((with_reducible refine (W2.out _).mono ?_); rintro e w' ⟨rfl, rfl⟩) | ((with_reducible refine (num_w _ _).mono ?_); rintro e w' ⟨z, rfl, rfl⟩) | ((with_reducible refine (mem_w _ _ _).mono ?_); rintro e w' ⟨z, rfl, rfl⟩) | ((with_reducible refine (rm_w _ _ _).mono ?_); rintro e w' ⟨z, rfl, rfl⟩) | ((with_reducible refine (of86_at _ _ _ _ _ _).mono ?_); rintro e w1 ⟨rfl, B1, c0, c1, f0, f1⟩) | ((with_reducible refine (places_w _ _ _).mono ?_); rintro e w1 ⟨A1, n1, k1, t1, rfl, hP1, hb1⟩; obtain ⟨B1, c0, c1, f0, f1⟩ := at_box hb1; clear hb1))
    all_goals first
      | (apply bodyPost_ret
         · simp [results, Tryd.results31, go_sem, c0, c1]
           exact rfl
         · rfl
         · refine ⟨_, _, _, _, rfl, fun hne => ?_, (B1.out.setCell (by simp) _).setCell (by simp) _⟩
           (try simp only [beq_iff_eq, bne_iff_ne, Bool.not_eq_true, beq_eq_false_iff_ne, bne_eq_false_iff_eq] at *)
           first | exact ⟨by omega, hP1 hne⟩ | (refine ⟨by omega, ?_⟩; first | (unfold okPl; omega) | (have := wideL_pos s (by omega); unfold okPl; omega)))
      | (apply bodyPost_ret
         · simp [results, Tryd.results31, go_sem]
           exact rfl
         · rfl
         · exact ⟨_, _, _, _, rfl, fun h => absurd rfl h, (Below.refl _ _).alloc (Nat.le_refl _) _⟩)
  · have wd : wideL 9 = 16 := by unfold wideL; split <;> (try split) <;> omega
    rw [wd] at W1
    clear wd
    go_enter Tryd.func31, Tryd.ntmps31
    go_wp2_with (first | ((with_reducible refine (W1.out _).mono ?_); rintro e w' ⟨rfl, rfl⟩) | ((with_reducible refine (W2.out _).mono ?_); rintro e w' ⟨rfl, rfl⟩) | ((with_reducible refine (num_w _ _).mono ?_); rintro e w' ⟨z, rfl, rfl⟩) | ((with_reducible refine (mem_w _ _ _).mono ?_); rintro e w' ⟨z, rfl, rfl⟩) | ((with_reducible refine (rm_w _ _ _).mono ?_); rintro e w' ⟨z, rfl, rfl⟩) | ((with_reducible refine (of86_at _ _ _ _ _ _).mono ?_); rintro e w1 ⟨rfl, B1, c0, c1, f0, f1⟩) | ((with_reducible refine (places_w _ _ _).mono ?_); rintro e w1 ⟨A1, n1, k1, t1, rfl, hP1, hb1⟩; obtain ⟨B1, c0, c1, f0, f1⟩ := at_box hb1; clear hb1))
    all_goals first
      | (apply bodyPost_ret
         · simp [results, Tryd.results31, go_sem, c0, c1]
           exact rfl
         · rfl
         · refine ⟨_, _, _, _, rfl, fun hne => ?_, (B1.out.setCell (by simp) _).setCell (by simp) _⟩
           (try simp only [beq_iff_eq, bne_iff_ne, Bool.not_eq_true, beq_eq_false_iff_ne, bne_eq_false_iff_eq] at *)
           first | exact ⟨by omega, hP1 hne⟩ | (refine ⟨by omega, ?_⟩; first | (unfold okPl; omega) | (have := wideL_pos s (by omega); unfold okPl; omega)))
      | (apply bodyPost_ret
         · simp [results, Tryd.results31, go_sem]
           exact rfl
         · rfl
         · exact ⟨_, _, _, _, rfl, fun h => absurd rfl h, (Below.refl _ _).alloc (Nat.le_refl _) _⟩)
  · have wd : wideL d = 16 := by unfold wideL; split <;> (try split) <;> omega
    rw [wd] at W1
    clear wd
    have e1 : (d == 1) = false := by rw [beq_eq_false_iff_ne]; omega
    have e9 : (d == 9) = false := by rw [beq_eq_false_iff_ne]; omega
    have e20 : (d == 20) = false := by rw [beq_eq_false_iff_ne]; omega
    have n9 : (d != 9) = true := by rw [bne_iff_ne]; omega
    go_enter Tryd.func31, Tryd.ntmps31
    go_wp2_with (first | ((with_reducible refine (W1.out _).mono ?_); rintro e w' ⟨rfl, rfl⟩) | ((with_reducible refine (W2.out _).mono ?_); rintro e w' ⟨rfl, rfl⟩) | ((with_reducible refine (num_w _ _).mono ?_); rintro e w' ⟨z, rfl, rfl⟩) | ((with_reducible refine (mem_w _ _ _).mono ?_); rintro e w' ⟨z, rfl, rfl⟩) | ((with_reducible refine (rm_w _ _ _).mono ?_); rintro e w' ⟨z, rfl, rfl⟩) | ((with_reducible refine (of86_at _ _ _ _ _ _).mono ?_); rintro e w1 ⟨rfl, B1, c0, c1, f0, f1⟩) | ((with_reducible refine (places_w _ _ _).mono ?_); rintro e w1 ⟨A1, n1, k1, t1, rfl, hP1, hb1⟩; obtain ⟨B1, c0, c1, f0, f1⟩ := at_box hb1; clear hb1))
    all_goals first
      | (apply bodyPost_ret
         · simp [results, Tryd.results31, go_sem, c0, c1]
           exact rfl
         · rfl
         · refine ⟨_, _, _, _, rfl, fun hne => ?_, (B1.out.setCell (by simp) _).setCell (by simp) _⟩
           (try simp only [beq_iff_eq, bne_iff_ne, Bool.not_eq_true, beq_eq_false_iff_ne, bne_eq_false_iff_eq] at *)
           first | exact ⟨by omega, hP1 hne⟩ | (refine ⟨by omega, ?_⟩; first | (unfold okPl; omega) | (have := wideL_pos s (by omega); unfold okPl; omega)))
      | (apply bodyPost_ret
         · simp [results, Tryd.results31, go_sem]
           exact rfl
         · rfl
         · exact ⟨_, _, _, _, rfl, fun h => absurd rfl h, (Below.refl _ _).alloc (Nat.le_refl _) _⟩)
  · have wd : wideL 17 = 0 := by unfold wideL; split <;> (try split) <;> omega
    rw [wd] at W1
    clear wd
    go_enter Tryd.func31, Tryd.ntmps31
    go_wp2_with (first | ((with_reducible refine (W1.out _).mono ?_); rintro e w' ⟨rfl, rfl⟩) | ((with_reducible refine (W2.out _).mono ?_); rintro e w' ⟨rfl, rfl⟩) | ((with_reducible refine (num_w _ _).mono ?_); rintro e w' ⟨z, rfl, rfl⟩) | ((with_reducible refine (mem_w _ _ _).mono ?_); rintro e w' ⟨z, rfl, rfl⟩) | ((with_reducible refine (rm_w _ _ _).mono ?_); rintro e w' ⟨z, rfl, rfl⟩) | ((with_reducible refine (of86_at _ _ _ _ _ _).mono ?_); rintro e w1 ⟨rfl, B1, c0, c1, f0, f1⟩) | ((with_reducible refine (places_w _ _ _).mono ?_); rintro e w1 ⟨A1, n1, k1, t1, rfl, hP1, hb1⟩; obtain ⟨B1, c0, c1, f0, f1⟩ := at_box hb1; clear hb1))
    all_goals first
      | (apply bodyPost_ret
         · simp [results, Tryd.results31, go_sem, c0, c1]
           exact rfl
         · rfl
         · refine ⟨_, _, _, _, rfl, fun hne => ?_, (B1.out.setCell (by simp) _).setCell (by simp) _⟩
           (try simp only [beq_iff_eq, bne_iff_ne, Bool.not_eq_true, beq_eq_false_iff_ne, bne_eq_false_iff_eq] at *)
           first | exact ⟨by omega, hP1 hne⟩ | (refine ⟨by omega, ?_⟩; first | (unfold okPl; omega) | (have := wideL_pos s (by omega); unfold okPl; omega)))
      | (apply bodyPost_ret
         · simp [results, Tryd.results31, go_sem]
           exact rfl
         · rfl
         · exact ⟨_, _, _, _, rfl, fun h => absurd rfl h, (Below.refl _ _).alloc (Nat.le_refl _) _⟩)
  · have wd : wideL 18 = 0 := by unfold wideL; split <;> (try split) <;> omega
    rw [wd] at W1
    clear wd
    go_enter Tryd.func31, Tryd.ntmps31
    go_wp2_with (first | ((with_reducible refine (W1.out _).mono ?_); rintro e w' ⟨rfl, rfl⟩) | ((with_reducible refine (W2.out _).mono ?_); rintro e w' ⟨rfl, rfl⟩) | ((with_reducible refine (num_w _ _).mono ?_); rintro e w' ⟨z, rfl, rfl⟩) | ((with_reducible refine (mem_w _ _ _).mono ?_); rintro e w' ⟨z, rfl, rfl⟩) | ((with_reducible refine (rm_w _ _ _).mono ?_); rintro e w' ⟨z, rfl, rfl⟩) | ((with_reducible refine (of86_at _ _ _ _ _ _).mono ?_); rintro e w1 ⟨rfl, B1, c0, c1, f0, f1⟩) | ((with_reducible refine (places_w _ _ _).mono ?_); rintro e w1 ⟨A1, n1, k1, t1, rfl, hP1, hb1⟩; obtain ⟨B1, c0, c1, f0, f1⟩ := at_box hb1; clear hb1))
    all_goals first
      | (apply bodyPost_ret
         · simp [results, Tryd.results31, go_sem, c0, c1]
           exact rfl
         · rfl
         · refine ⟨_, _, _, _, rfl, fun hne => ?_, (B1.out.setCell (by simp) _).setCell (by simp) _⟩
           (try simp only [beq_iff_eq, bne_iff_ne, Bool.not_eq_true, beq_eq_false_iff_ne, bne_eq_false_iff_eq] at *)
           first | exact ⟨by omega, hP1 hne⟩ | (refine ⟨by omega, ?_⟩; first | (unfold okPl; omega) | (have := wideL_pos s (by omega); unfold okPl; omega)))
      | (apply bodyPost_ret
         · simp [results, Tryd.results31, go_sem]
           exact rfl
         · rfl
         · exact ⟨_, _, _, _, rfl, fun h => absurd rfl h, (Below.refl _ _).alloc (Nat.le_refl _) _⟩)
  · have wd : wideL 19 = 0 := by unfold wideL; split <;> (try split) <;> omega
    rw [wd] at W1
    clear wd
    go_enter Tryd.func31, Tryd.ntmps31
    go_wp2_with (first | ((with_reducible refine (W1.out _).mono ?_); rintro e w' ⟨rfl, rfl⟩) | ((with_reducible refine (W2.out _).mono ?_); rintro e w' ⟨rfl, rfl⟩) | ((with_reducible refine (num_w _ _).mono ?_); rintro e w' ⟨z, rfl, rfl⟩) | ((with_reducible refine (mem_w _ _ _).mono ?_); rintro e w' ⟨z, rfl, rfl⟩) | ((with_reducible refine (rm_w _ _ _).mono ?_); rintro e w' ⟨z, rfl, rfl⟩) | ((with_reducible refine (of86_at _ _ _ _ _ _).mono ?_); rintro e w1 ⟨rfl, B1, c0, c1, f0, f1⟩) | ((with_reducible refine (places_w _ _ _).mono ?_); rintro e w1 ⟨A1, n1, k1, t1, rfl, hP1, hb1⟩; obtain ⟨B1, c0, c1, f0, f1⟩ := at_box hb1; clear hb1))
    all_goals first
      | (apply bodyPost_ret
         · simp [results, Tryd.results31, go_sem, c0, c1]
           exact rfl
         · rfl
         · refine ⟨_, _, _, _, rfl, fun hne => ?_, (B1.out.setCell (by simp) _).setCell (by simp) _⟩
           (try simp only [beq_iff_eq, bne_iff_ne, Bool.not_eq_true, beq_eq_false_iff_ne, bne_eq_false_iff_eq] at *)
           first | exact ⟨by omega, hP1 hne⟩ | (refine ⟨by omega, ?_⟩; first | (unfold okPl; omega) | (have := wideL_pos s (by omega); unfold okPl; omega)))
      | (apply bodyPost_ret
         · simp [results, Tryd.results31, go_sem]
           exact rfl
         · rfl
         · exact ⟨_, _, _, _, rfl, fun h => absurd rfl h, (Below.refl _ _).alloc (Nat.le_refl _) _⟩)
  · have wd : wideL 20 = 0 := by unfold wideL; split <;> (try split) <;> omega
    rw [wd] at W1
    clear wd
    go_enter Tryd.func31, Tryd.ntmps31
    go_wp2_with (first | ((with_reducible refine (W1.out _).mono ?_); rintro e w' ⟨rfl, rfl⟩) | ((with_reducible refine (W2.out _).mono ?_); rintro e w' ⟨rfl, rfl⟩) | ((with_reducible refine (num_w _ _).mono ?_); rintro e w' ⟨z, rfl, rfl⟩) | ((with_reducible refine (mem_w _ _ _).mono ?_); rintro e w' ⟨z, rfl, rfl⟩) | ((with_reducible refine (rm_w _ _ _).mono ?_); rintro e w' ⟨z, rfl, rfl⟩) | ((with_reducible refine (of86_at _ _ _ _ _ _).mono ?_); rintro e w1 ⟨rfl, B1, c0, c1, f0, f1⟩) | ((with_reducible refine (places_w _ _ _).mono ?_); rintro e w1 ⟨A1, n1, k1, t1, rfl, hP1, hb1⟩; obtain ⟨B1, c0, c1, f0, f1⟩ := at_box hb1; clear hb1))
    all_goals first
      | (apply bodyPost_ret
         · simp [results, Tryd.results31, go_sem, c0, c1]
           exact rfl
         · rfl
         · refine ⟨_, _, _, _, rfl, fun hne => ?_, (B1.out.setCell (by simp) _).setCell (by simp) _⟩
           (try simp only [beq_iff_eq, bne_iff_ne, Bool.not_eq_true, beq_eq_false_iff_ne, bne_eq_false_iff_eq] at *)
           first | exact ⟨by omega, hP1 hne⟩ | (refine ⟨by omega, ?_⟩; first | (unfold okPl; omega) | (have := wideL_pos s (by omega); unfold okPl; omega)))
      | (apply bodyPost_ret
         · simp [results, Tryd.results31, go_sem]
           exact rfl
         · rfl
         · exact ⟨_, _, _, _, rfl, fun h => absurd rfl h, (Below.refl _ _).alloc (Nat.le_refl _) _⟩)
  · have wd : wideL d = 0 := by unfold wideL; split <;> (try split) <;> omega
    rw [wd] at W1
    clear wd
    have e1 : (d == 1) = false := by rw [beq_eq_false_iff_ne]; omega
    have e9 : (d == 9) = false := by rw [beq_eq_false_iff_ne]; omega
    have e20 : (d == 20) = false := by rw [beq_eq_false_iff_ne]; omega
    have n9 : (d != 9) = true := by rw [bne_iff_ne]; omega
    go_enter Tryd.func31, Tryd.ntmps31
    go_wp2_with (first | ((with_reducible refine (W1.out _).mono ?_); rintro e w' ⟨rfl, rfl⟩) | ((with_reducible refine (W2.out _).mono ?_); rintro e w' ⟨rfl, rfl⟩) | ((with_reducible refine (num_w _ _).mono ?_); rintro e w' ⟨z, rfl, rfl⟩) | ((with_reducible refine (mem_w _ _ _).mono ?_); rintro e w' ⟨z, rfl, rfl⟩) | ((with_reducible refine (rm_w _ _ _).mono ?_); rintro e w' ⟨z, rfl, rfl⟩) | ((with_reducible refine (of86_at _ _ _ _ _ _).mono ?_); rintro e w1 ⟨rfl, B1, c0, c1, f0, f1⟩) | ((with_reducible refine (places_w _ _ _).mono ?_); rintro e w1 ⟨A1, n1, k1, t1, rfl, hP1, hb1⟩; obtain ⟨B1, c0, c1, f0, f1⟩ := at_box hb1; clear hb1))
    all_goals first
      | (apply bodyPost_ret
         · simp [results, Tryd.results31, go_sem, c0, c1]
           exact rfl
         · rfl
         · refine ⟨_, _, _, _, rfl, fun hne => ?_, (B1.out.setCell (by simp) _).setCell (by simp) _⟩
           (try simp only [beq_iff_eq, bne_iff_ne, Bool.not_eq_true, beq_eq_false_iff_ne, bne_eq_false_iff_eq] at *)
           first | exact ⟨by omega, hP1 hne⟩ | (refine ⟨by omega, ?_⟩; first | (unfold okPl; omega) | (have := wideL_pos s (by omega); unfold okPl; omega)))
      | (apply bodyPost_ret
         · simp [results, Tryd.results31, go_sem]
           exact rfl
         · rfl
         · exact ⟨_, _, _, _, rfl, fun h => absurd rfl h, (Below.refl _ _).alloc (Nat.le_refl _) _⟩)

end Go.Proofs.YtmmdniahfldljaaDoor
