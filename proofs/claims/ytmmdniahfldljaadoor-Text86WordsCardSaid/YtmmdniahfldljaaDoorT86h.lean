/- isa86.Right: what a right instruction's operands are (for Text86Words). -/
import Derived.Test.YtmmdniahfldljaaDoorT86d
namespace Go.Proofs.YtmmdniahfldljaaDoor
open Go.RowKit

set_option maxHeartbeats 400000 in
theorem num_w (c : Int) (w : World) : Calls Tryd.prog 47 #[.int .i64 c] w fun e w' => ∃ z, e = .returned (.int .u8 z) ∧ w = w' := by
  go_enter Tryd.func47, Tryd.ntmps47
  go_wp2_with fail
  go_ret
  exact ⟨_, rfl, rfl⟩
set_option maxHeartbeats 400000 in
theorem rm_w (x y : Int) (w : World) : Calls Tryd.prog 46 #[.int .u8 x, .int .u8 y] w fun e w' => ∃ z, e = .returned (.int .u8 z) ∧ w = w' := by
  go_enter Tryd.func46, Tryd.ntmps46
  go_wp2_with fail
  go_ret
  exact ⟨_, rfl, rfl⟩
set_option maxHeartbeats 400000 in
theorem mem_w (x y : Int) (w : World) : Calls Tryd.prog 49 #[.int .u8 x, .int .u8 y] w fun e w' => ∃ z, e = .returned (.int .u8 z) ∧ w = w' := by
  go_enter Tryd.func49, Tryd.ntmps49
  go_wp2_with fail
  go_ret
  exact ⟨_, rfl, rfl⟩
/-- A head is laid behind the result's box. -/
theorem of86_at (t : Int) (A : Option Addr) (n c : Nat) (w : World) (o : Obj) : Calls Tryd.prog 33 #[.int .i64 t, .slice A n c] ((w.alloc (.cells #[.slice none 0 0, .int .i64 0] 46)).alloc o) fun e w' => e = .returned (.agg #[.slice A n c, .int .i64 t]) ∧
    Hid (Below w.heap.size w w') ∧ w'.cell? ⟨w.heap.size, 0, none⟩ = some (.slice none 0 0) ∧ w'.cell? ⟨w.heap.size, 1, none⟩ = some (.int .i64 0) ∧ w'.frozen? ⟨w.heap.size, 0, none⟩ = false ∧ w'.frozen? ⟨w.heap.size, 1, none⟩ = false := by
  refine (of86_any t A n c _).mono ?_
  rintro e w1 ⟨rfl, hb1⟩
  have B1 := Lib.hid (bthen (((Below.refl w.heap.size w).alloc (Nat.le_refl _) _).alloc (by simp) _) hb1)
  have C1 := (hb1.block w.heap.size (by simp; omega)).trans ((Below.heap_alloc _ _ _ (by simp)).trans (heap_alloc_new w _))
  have c0 := cell_of_heap (i := 0) C1
  have c1 := cell_of_heap (i := 1) C1
  have f0 := frozen_of_heap (i := 0) C1
  have f1 := frozen_of_heap (i := 1) C1
  simp at c0 c1 f0 f1
  exact ⟨rfl, B1, c0, c1, f0, f1⟩
def HeadW (P : Prop) (w : World) (e : Ending) (w' : World) : Prop := ∃ A n c t, e = .returned (.agg #[.slice A n c, .int .i64 t]) ∧ (n ≠ 0 → P) ∧ Below w.heap.size w w'
theorem wide_cases (c : Int) : c = 1 ∨ (2 ≤ c ∧ c ≤ 8) ∨ c = 9 ∨ (10 ≤ c ∧ c ≤ 16) ∨ c = 17 ∨ c = 18 ∨ c = 19 ∨ c = 20 ∨ (c < 1 ∨ 20 < c) := by omega
def okPl (d s : Int) : Prop := 1 ≤ d ∧ d ≤ 20 ∧ 1 ≤ s ∧ s ≤ 20
theorem wideL_pos (s : Int) (h : wideL s = 8 ∨ wideL s = 16) : 1 ≤ s ∧ s ≤ 20 := by unfold wideL at h; split at h <;> (try split at h) <;> omega
set_option maxHeartbeats 8000000 in
set_option maxRecDepth 100000 in
theorem places_w (d s : Int) (w : World) : Calls Tryd.prog 48 #[.int .i64 d, .int .i64 s] w (HeadW (okPl d s) w) := by
  have W1 := Lib.hid (fun W => wide_any d W)
  have W2 := Lib.hid (fun W => wide_any s W)
  rcases wide_cases d with rfl | ⟨hd, hd'⟩ | rfl | ⟨hd, hd'⟩ | rfl | rfl | rfl | rfl | hd
  · have wd : wideL 1 = 8 := by unfold wideL; split <;> (try split) <;> omega
    rw [wd] at W1
    clear wd
    go_enter Tryd.func48, Tryd.ntmps48
    go_wp2_with (first | ((with_reducible refine (W1.out _).mono ?_); rintro e w' ⟨rfl, rfl⟩) | ((with_reducible refine (W2.out _).mono ?_); rintro e w' ⟨rfl, rfl⟩) | ((with_reducible refine (num_w _ _).mono ?_); rintro e w' ⟨z, rfl, rfl⟩) | ((with_reducible refine (mem_w _ _ _).mono ?_); rintro e w' ⟨z, rfl, rfl⟩) | ((with_reducible refine (rm_w _ _ _).mono ?_); rintro e w' ⟨z, rfl, rfl⟩) | ((with_reducible refine (of86_at _ _ _ _ _ _).mono ?_); rintro e w1 ⟨rfl, B1, c0, c1, f0, f1⟩))
    all_goals first
      | (apply bodyPost_ret
         · simp [results, Tryd.results48, go_sem, c0, c1]
           exact rfl
         · rfl
         · refine ⟨_, _, _, _, rfl, fun _ => ?_, (B1.out.setCell (by simp) _).setCell (by simp) _⟩
           simp only [beq_iff_eq, bne_iff_ne] at *
           first | (unfold okPl; omega) | (have := wideL_pos s (by omega); unfold okPl; omega))
      | (apply bodyPost_ret
         · simp [results, Tryd.results48, go_sem]
           exact rfl
         · rfl
         · exact ⟨_, _, _, _, rfl, fun h => absurd rfl h, (Below.refl _ _).alloc (Nat.le_refl _) _⟩)
  · have wd : wideL d = 8 := by unfold wideL; split <;> (try split) <;> omega
    rw [wd] at W1
    clear wd
    have e1 : (d == 1) = false := by rw [beq_eq_false_iff_ne]; omega
    have e9 : (d == 9) = false := by rw [beq_eq_false_iff_ne]; omega
    have n9 : (d != 9) = true := by rw [bne_iff_ne]; omega
    have e17 : (d == 17) = false := by rw [beq_eq_false_iff_ne]; omega
    have e18 : (d == 18) = false := by rw [beq_eq_false_iff_ne]; omega
    have e19 : (d == 19) = false := by rw [beq_eq_false_iff_ne]; omega
    have e20 : (d == 20) = false := by rw [beq_eq_false_iff_ne]; omega
    go_enter Tryd.func48, Tryd.ntmps48
    go_wp2_with (first | ((with_reducible refine (W1.out _).mono ?_); rintro e w' ⟨rfl, rfl⟩) | ((with_reducible refine (W2.out _).mono ?_); rintro e w' ⟨rfl, rfl⟩) | ((with_reducible refine (num_w _ _).mono ?_); rintro e w' ⟨z, rfl, rfl⟩) | ((with_reducible refine (mem_w _ _ _).mono ?_); rintro e w' ⟨z, rfl, rfl⟩) | ((with_reducible refine (rm_w _ _ _).mono ?_); rintro e w' ⟨z, rfl, rfl⟩) | ((with_reducible refine (of86_at _ _ _ _ _ _).mono ?_); rintro e w1 ⟨rfl, B1, c0, c1, f0, f1⟩))
    all_goals first
      | (apply bodyPost_ret
         · simp [results, Tryd.results48, go_sem, c0, c1]
           exact rfl
         · rfl
         · refine ⟨_, _, _, _, rfl, fun _ => ?_, (B1.out.setCell (by simp) _).setCell (by simp) _⟩
           simp only [beq_iff_eq, bne_iff_ne] at *
           first | (unfold okPl; omega) | (have := wideL_pos s (by omega); unfold okPl; omega))
      | (apply bodyPost_ret
         · simp [results, Tryd.results48, go_sem]
           exact rfl
         · rfl
         · exact ⟨_, _, _, _, rfl, fun h => absurd rfl h, (Below.refl _ _).alloc (Nat.le_refl _) _⟩)
  · have wd : wideL 9 = 16 := by unfold wideL; split <;> (try split) <;> omega
    rw [wd] at W1
    clear wd
    go_enter Tryd.func48, Tryd.ntmps48
    go_wp2_with (first | ((with_reducible refine (W1.out _).mono ?_); rintro e w' ⟨rfl, rfl⟩) | ((with_reducible refine (W2.out _).mono ?_); rintro e w' ⟨rfl, rfl⟩) | ((with_reducible refine (num_w _ _).mono ?_); rintro e w' ⟨z, rfl, rfl⟩) | ((with_reducible refine (mem_w _ _ _).mono ?_); rintro e w' ⟨z, rfl, rfl⟩) | ((with_reducible refine (rm_w _ _ _).mono ?_); rintro e w' ⟨z, rfl, rfl⟩) | ((with_reducible refine (of86_at _ _ _ _ _ _).mono ?_); rintro e w1 ⟨rfl, B1, c0, c1, f0, f1⟩))
    all_goals first
      | (apply bodyPost_ret
         · simp [results, Tryd.results48, go_sem, c0, c1]
           exact rfl
         · rfl
         · refine ⟨_, _, _, _, rfl, fun _ => ?_, (B1.out.setCell (by simp) _).setCell (by simp) _⟩
           simp only [beq_iff_eq, bne_iff_ne] at *
           first | (unfold okPl; omega) | (have := wideL_pos s (by omega); unfold okPl; omega))
      | (apply bodyPost_ret
         · simp [results, Tryd.results48, go_sem]
           exact rfl
         · rfl
         · exact ⟨_, _, _, _, rfl, fun h => absurd rfl h, (Below.refl _ _).alloc (Nat.le_refl _) _⟩)
  · have wd : wideL d = 16 := by unfold wideL; split <;> (try split) <;> omega
    rw [wd] at W1
    clear wd
    have e1 : (d == 1) = false := by rw [beq_eq_false_iff_ne]; omega
    have e9 : (d == 9) = false := by rw [beq_eq_false_iff_ne]; omega
    have n9 : (d != 9) = true := by rw [bne_iff_ne]; omega
    have e17 : (d == 17) = false := by rw [beq_eq_false_iff_ne]; omega
    have e18 : (d == 18) = false := by rw [beq_eq_false_iff_ne]; omega
    have e19 : (d == 19) = false := by rw [beq_eq_false_iff_ne]; omega
    have e20 : (d == 20) = false := by rw [beq_eq_false_iff_ne]; omega
    go_enter Tryd.func48, Tryd.ntmps48
    go_wp2_with (first | ((with_reducible refine (W1.out _).mono ?_); rintro e w' ⟨rfl, rfl⟩) | ((with_reducible refine (W2.out _).mono ?_); rintro e w' ⟨rfl, rfl⟩) | ((with_reducible refine (num_w _ _).mono ?_); rintro e w' ⟨z, rfl, rfl⟩) | ((with_reducible refine (mem_w _ _ _).mono ?_); rintro e w' ⟨z, rfl, rfl⟩) | ((with_reducible refine (rm_w _ _ _).mono ?_); rintro e w' ⟨z, rfl, rfl⟩) | ((with_reducible refine (of86_at _ _ _ _ _ _).mono ?_); rintro e w1 ⟨rfl, B1, c0, c1, f0, f1⟩))
    all_goals first
      | (apply bodyPost_ret
         · simp [results, Tryd.results48, go_sem, c0, c1]
           exact rfl
         · rfl
         · refine ⟨_, _, _, _, rfl, fun _ => ?_, (B1.out.setCell (by simp) _).setCell (by simp) _⟩
           simp only [beq_iff_eq, bne_iff_ne] at *
           first | (unfold okPl; omega) | (have := wideL_pos s (by omega); unfold okPl; omega))
      | (apply bodyPost_ret
         · simp [results, Tryd.results48, go_sem]
           exact rfl
         · rfl
         · exact ⟨_, _, _, _, rfl, fun h => absurd rfl h, (Below.refl _ _).alloc (Nat.le_refl _) _⟩)
  · have wd : wideL 17 = 0 := by unfold wideL; split <;> (try split) <;> omega
    rw [wd] at W1
    clear wd
    go_enter Tryd.func48, Tryd.ntmps48
    go_wp2_with (first | ((with_reducible refine (W1.out _).mono ?_); rintro e w' ⟨rfl, rfl⟩) | ((with_reducible refine (W2.out _).mono ?_); rintro e w' ⟨rfl, rfl⟩) | ((with_reducible refine (num_w _ _).mono ?_); rintro e w' ⟨z, rfl, rfl⟩) | ((with_reducible refine (mem_w _ _ _).mono ?_); rintro e w' ⟨z, rfl, rfl⟩) | ((with_reducible refine (rm_w _ _ _).mono ?_); rintro e w' ⟨z, rfl, rfl⟩) | ((with_reducible refine (of86_at _ _ _ _ _ _).mono ?_); rintro e w1 ⟨rfl, B1, c0, c1, f0, f1⟩))
    all_goals first
      | (apply bodyPost_ret
         · simp [results, Tryd.results48, go_sem, c0, c1]
           exact rfl
         · rfl
         · refine ⟨_, _, _, _, rfl, fun _ => ?_, (B1.out.setCell (by simp) _).setCell (by simp) _⟩
           simp only [beq_iff_eq, bne_iff_ne] at *
           first | (unfold okPl; omega) | (have := wideL_pos s (by omega); unfold okPl; omega))
      | (apply bodyPost_ret
         · simp [results, Tryd.results48, go_sem]
           exact rfl
         · rfl
         · exact ⟨_, _, _, _, rfl, fun h => absurd rfl h, (Below.refl _ _).alloc (Nat.le_refl _) _⟩)
  · have wd : wideL 18 = 0 := by unfold wideL; split <;> (try split) <;> omega
    rw [wd] at W1
    clear wd
    go_enter Tryd.func48, Tryd.ntmps48
    go_wp2_with (first | ((with_reducible refine (W1.out _).mono ?_); rintro e w' ⟨rfl, rfl⟩) | ((with_reducible refine (W2.out _).mono ?_); rintro e w' ⟨rfl, rfl⟩) | ((with_reducible refine (num_w _ _).mono ?_); rintro e w' ⟨z, rfl, rfl⟩) | ((with_reducible refine (mem_w _ _ _).mono ?_); rintro e w' ⟨z, rfl, rfl⟩) | ((with_reducible refine (rm_w _ _ _).mono ?_); rintro e w' ⟨z, rfl, rfl⟩) | ((with_reducible refine (of86_at _ _ _ _ _ _).mono ?_); rintro e w1 ⟨rfl, B1, c0, c1, f0, f1⟩))
    all_goals first
      | (apply bodyPost_ret
         · simp [results, Tryd.results48, go_sem, c0, c1]
           exact rfl
         · rfl
         · refine ⟨_, _, _, _, rfl, fun _ => ?_, (B1.out.setCell (by simp) _).setCell (by simp) _⟩
           simp only [beq_iff_eq, bne_iff_ne] at *
           first | (unfold okPl; omega) | (have := wideL_pos s (by omega); unfold okPl; omega))
      | (apply bodyPost_ret
         · simp [results, Tryd.results48, go_sem]
           exact rfl
         · rfl
         · exact ⟨_, _, _, _, rfl, fun h => absurd rfl h, (Below.refl _ _).alloc (Nat.le_refl _) _⟩)
  · have wd : wideL 19 = 0 := by unfold wideL; split <;> (try split) <;> omega
    rw [wd] at W1
    clear wd
    go_enter Tryd.func48, Tryd.ntmps48
    go_wp2_with (first | ((with_reducible refine (W1.out _).mono ?_); rintro e w' ⟨rfl, rfl⟩) | ((with_reducible refine (W2.out _).mono ?_); rintro e w' ⟨rfl, rfl⟩) | ((with_reducible refine (num_w _ _).mono ?_); rintro e w' ⟨z, rfl, rfl⟩) | ((with_reducible refine (mem_w _ _ _).mono ?_); rintro e w' ⟨z, rfl, rfl⟩) | ((with_reducible refine (rm_w _ _ _).mono ?_); rintro e w' ⟨z, rfl, rfl⟩) | ((with_reducible refine (of86_at _ _ _ _ _ _).mono ?_); rintro e w1 ⟨rfl, B1, c0, c1, f0, f1⟩))
    all_goals first
      | (apply bodyPost_ret
         · simp [results, Tryd.results48, go_sem, c0, c1]
           exact rfl
         · rfl
         · refine ⟨_, _, _, _, rfl, fun _ => ?_, (B1.out.setCell (by simp) _).setCell (by simp) _⟩
           simp only [beq_iff_eq, bne_iff_ne] at *
           first | (unfold okPl; omega) | (have := wideL_pos s (by omega); unfold okPl; omega))
      | (apply bodyPost_ret
         · simp [results, Tryd.results48, go_sem]
           exact rfl
         · rfl
         · exact ⟨_, _, _, _, rfl, fun h => absurd rfl h, (Below.refl _ _).alloc (Nat.le_refl _) _⟩)
  · have wd : wideL 20 = 0 := by unfold wideL; split <;> (try split) <;> omega
    rw [wd] at W1
    clear wd
    go_enter Tryd.func48, Tryd.ntmps48
    go_wp2_with (first | ((with_reducible refine (W1.out _).mono ?_); rintro e w' ⟨rfl, rfl⟩) | ((with_reducible refine (W2.out _).mono ?_); rintro e w' ⟨rfl, rfl⟩) | ((with_reducible refine (num_w _ _).mono ?_); rintro e w' ⟨z, rfl, rfl⟩) | ((with_reducible refine (mem_w _ _ _).mono ?_); rintro e w' ⟨z, rfl, rfl⟩) | ((with_reducible refine (rm_w _ _ _).mono ?_); rintro e w' ⟨z, rfl, rfl⟩) | ((with_reducible refine (of86_at _ _ _ _ _ _).mono ?_); rintro e w1 ⟨rfl, B1, c0, c1, f0, f1⟩))
    all_goals first
      | (apply bodyPost_ret
         · simp [results, Tryd.results48, go_sem, c0, c1]
           exact rfl
         · rfl
         · refine ⟨_, _, _, _, rfl, fun _ => ?_, (B1.out.setCell (by simp) _).setCell (by simp) _⟩
           simp only [beq_iff_eq, bne_iff_ne] at *
           first | (unfold okPl; omega) | (have := wideL_pos s (by omega); unfold okPl; omega))
      | (apply bodyPost_ret
         · simp [results, Tryd.results48, go_sem]
           exact rfl
         · rfl
         · exact ⟨_, _, _, _, rfl, fun h => absurd rfl h, (Below.refl _ _).alloc (Nat.le_refl _) _⟩)
  · have wd : wideL d = 0 := by unfold wideL; split <;> (try split) <;> omega
    rw [wd] at W1
    clear wd
    have e1 : (d == 1) = false := by rw [beq_eq_false_iff_ne]; omega
    have e9 : (d == 9) = false := by rw [beq_eq_false_iff_ne]; omega
    have n9 : (d != 9) = true := by rw [bne_iff_ne]; omega
    have e17 : (d == 17) = false := by rw [beq_eq_false_iff_ne]; omega
    have e18 : (d == 18) = false := by rw [beq_eq_false_iff_ne]; omega
    have e19 : (d == 19) = false := by rw [beq_eq_false_iff_ne]; omega
    have e20 : (d == 20) = false := by rw [beq_eq_false_iff_ne]; omega
    go_enter Tryd.func48, Tryd.ntmps48
    go_wp2_with (first | ((with_reducible refine (W1.out _).mono ?_); rintro e w' ⟨rfl, rfl⟩) | ((with_reducible refine (W2.out _).mono ?_); rintro e w' ⟨rfl, rfl⟩) | ((with_reducible refine (num_w _ _).mono ?_); rintro e w' ⟨z, rfl, rfl⟩) | ((with_reducible refine (mem_w _ _ _).mono ?_); rintro e w' ⟨z, rfl, rfl⟩) | ((with_reducible refine (rm_w _ _ _).mono ?_); rintro e w' ⟨z, rfl, rfl⟩) | ((with_reducible refine (of86_at _ _ _ _ _ _).mono ?_); rintro e w1 ⟨rfl, B1, c0, c1, f0, f1⟩))
    all_goals first
      | (apply bodyPost_ret
         · simp [results, Tryd.results48, go_sem, c0, c1]
           exact rfl
         · rfl
         · refine ⟨_, _, _, _, rfl, fun _ => ?_, (B1.out.setCell (by simp) _).setCell (by simp) _⟩
           simp only [beq_iff_eq, bne_iff_ne] at *
           first | (unfold okPl; omega) | (have := wideL_pos s (by omega); unfold okPl; omega))
      | (apply bodyPost_ret
         · simp [results, Tryd.results48, go_sem]
           exact rfl
         · rfl
         · exact ⟨_, _, _, _, rfl, fun h => absurd rfl h, (Below.refl _ _).alloc (Nat.le_refl _) _⟩)

end Go.Proofs.YtmmdniahfldljaaDoor
