/- The chapter's example of layer 9. -/
import Derived.Test.YtmmdniahfldljaaDoorT86c
namespace Go.Proofs.YtmmdniahfldljaaDoor
open Go.RowKit

def wideL (c : Int) : Int := if 1 ≤ c ∧ c ≤ 8 then 8 else if 9 ≤ c ∧ c ≤ 16 then 16 else 0
set_option maxHeartbeats 400000 in
theorem wide_any (c : Int) (w : World) : Calls Tryd.prog 45 #[.int .i64 c] w fun e w' => e = .returned (.int .i64 (wideL c)) ∧ w = w' := by
  have hcases : c < 1 ∨ (1 ≤ c ∧ c ≤ 8) ∨ (9 ≤ c ∧ c ≤ 16) ∨ 17 ≤ c := by omega
  rcases hcases with h | ⟨h, h'⟩ | ⟨h, h'⟩ | h
  · have HO := Lib.hid (show wideL c = 0 by unfold wideL; rw [if_neg (by omega), if_neg (by omega)])
    have g1 : ¬ 1 ≤ c := by omega
    have g2 : ¬ 9 ≤ c := by omega
    go_enter Tryd.func45, Tryd.ntmps45
    go_wp2_with fail
    go_ret
    rw [HO.out]
    exact ⟨rfl, rfl⟩
  · have HO := Lib.hid (show wideL c = 8 by unfold wideL; rw [if_pos (by omega)])
    go_enter Tryd.func45, Tryd.ntmps45
    go_wp2_with fail
    go_ret
    rw [HO.out]
    exact ⟨rfl, rfl⟩
  · have HO := Lib.hid (show wideL c = 16 by unfold wideL; rw [if_neg (by omega), if_pos (by omega)])
    have g1 : ¬ c ≤ 8 := by omega
    go_enter Tryd.func45, Tryd.ntmps45
    go_wp2_with fail
    go_ret
    rw [HO.out]
    exact ⟨rfl, rfl⟩
  · have HO := Lib.hid (show wideL c = 0 by unfold wideL; rw [if_neg (by omega), if_neg (by omega)])
    have g1 : ¬ c ≤ 8 := by omega
    have g2 : ¬ c ≤ 16 := by omega
    go_enter Tryd.func45, Tryd.ntmps45
    go_wp2_with fail
    go_ret
    rw [HO.out]
    exact ⟨rfl, rfl⟩
set_option maxHeartbeats 400000 in
theorem of86_any (t : Int) (A : Option Addr) (n c : Nat) (w : World) : Calls Tryd.prog 33 #[.int .i64 t, .slice A n c] w fun e w' => e = .returned (.agg #[.slice A n c, .int .i64 t]) ∧ Below w.heap.size w w' := by
  go_enter Tryd.func33, Tryd.ntmps33
  go_wp2_with fail
  exact bodyPost_ret (v := .agg #[.slice A n c, .int .i64 t]) (by simp [results, Tryd.results33, go_sem]) rfl ⟨rfl, (Below.refl _ _).alloc (Nat.le_refl _) _⟩
theorem wide_c : wideL 1 = 8 ∧ wideL 19 = 0 := by decide
set_option maxHeartbeats 1000000 in
set_option maxRecDepth 100000 in
theorem places_c (w : World) : Calls Tryd.prog 48 #[.int .i64 1, .int .i64 19] w fun e w' => ∃ g, e = .returned (.agg #[.slice (some ⟨g, 0, none⟩) 1 1, .int .i64 2]) ∧ Below w.heap.size w w' := by
  have W1 := Lib.hid (fun W => wide_any 1 W)
  have W2 := Lib.hid (fun W => wide_any 19 W)
  rw [wide_c.1] at W1
  rw [wide_c.2] at W2
  go_enter Tryd.func48, Tryd.ntmps48
  go_wp2_with (first | ((with_reducible refine (W1.out _).mono ?_); rintro e w' ⟨rfl, rfl⟩) | ((with_reducible refine (W2.out _).mono ?_); rintro e w' ⟨rfl, rfl⟩))
  refine (of86_any 2 _ 1 1 _).mono ?_
  rintro e w1 ⟨rfl, hb1⟩
  have B1 := Lib.hid (bthen (((Below.refl w.heap.size w).alloc (Nat.le_refl _) _).alloc (by simp) _) hb1)
  have C1 := Lib.hid ((hb1.block w.heap.size (by simp; omega)).trans ((Below.heap_alloc _ _ _ (by simp)).trans (heap_alloc_new w _)))
  clear hb1 W1 W2
  have c0 := cell_of_heap (i := 0) C1.out
  have c1 := cell_of_heap (i := 1) C1.out
  have f0 := frozen_of_heap (i := 0) C1.out
  have f1 := frozen_of_heap (i := 1) C1.out
  simp at c0 c1 f0 f1
  clear C1
  go_wp2_with fail
  exact bodyPost_ret (v := .agg #[.slice (some ⟨w.heap.size + 1, 0, none⟩) 1 1, .int .i64 2]) (by simp [results, Tryd.results48, go_sem, c0, c1]) rfl ⟨_, rfl, (B1.out.setCell (by simp) _).setCell (by simp) _⟩
set_option maxHeartbeats 1000000 in
set_option maxRecDepth 100000 in
theorem two_c (w : World) : Calls Tryd.prog 31 #[.int .i64 1, .int .i64 1, .int .i64 19] w fun e w' => ∃ g, e = .returned (.agg #[.slice (some ⟨g, 0, none⟩) 1 1, .int .i64 2]) ∧ Below w.heap.size w w' := by
  have W1 := Lib.hid (fun W => wide_any 1 W)
  have W2 := Lib.hid (fun W => wide_any 19 W)
  rw [wide_c.1] at W1
  rw [wide_c.2] at W2
  go_enter Tryd.func31, Tryd.ntmps31
  go_wp2_with (first | ((with_reducible refine (W1.out _).mono ?_); rintro e w' ⟨rfl, rfl⟩) | ((with_reducible refine (W2.out _).mono ?_); rintro e w' ⟨rfl, rfl⟩))
  refine (places_c _).mono ?_
  rintro e w1 ⟨g, rfl, hb1⟩
  have B1 := Lib.hid (bthen ((Below.refl w.heap.size w).alloc (Nat.le_refl _) _) hb1)
  have C1 := Lib.hid ((hb1.block w.heap.size (by simp)).trans (heap_alloc_new w _))
  clear hb1 W1 W2
  have c0 := cell_of_heap (i := 0) C1.out
  have c1 := cell_of_heap (i := 1) C1.out
  have f0 := frozen_of_heap (i := 0) C1.out
  have f1 := frozen_of_heap (i := 1) C1.out
  simp at c0 c1 f0 f1
  clear C1
  go_wp2_with fail
  exact bodyPost_ret (v := .agg #[.slice (some ⟨g, 0, none⟩) 1 1, .int .i64 2]) (by simp [results, Tryd.results31, go_sem, c0, c1]) rfl ⟨_, rfl, (B1.out.setCell (by simp) _).setCell (by simp) _⟩
set_option maxHeartbeats 1000000 in
set_option maxRecDepth 100000 in
theorem heads_c (w : World) : Calls Tryd.prog 18 #[.int .i64 1, .int .i64 1, .int .i64 19] w fun e w' => ∃ g, e = .returned (.agg #[.slice (some ⟨g, 0, none⟩) 1 1, .int .i64 2]) ∧ Below w.heap.size w w' := by
  go_enter Tryd.func18, Tryd.ntmps18
  go_wp2_with fail
  refine (two_c _).mono ?_
  rintro e w1 ⟨g, rfl, hb1⟩
  have B1 := Lib.hid (bthen ((Below.refl w.heap.size w).alloc (Nat.le_refl _) _) hb1)
  have C1 := Lib.hid ((hb1.block w.heap.size (by simp)).trans (heap_alloc_new w _))
  clear hb1
  have c0 := cell_of_heap (i := 0) C1.out
  have c1 := cell_of_heap (i := 1) C1.out
  have f0 := frozen_of_heap (i := 0) C1.out
  have f1 := frozen_of_heap (i := 1) C1.out
  simp at c0 c1 f0 f1
  clear C1
  go_wp2_with fail
  exact bodyPost_ret (v := .agg #[.slice (some ⟨g, 0, none⟩) 1 1, .int .i64 2]) (by simp [results, Tryd.results18, go_sem, c0, c1]) rfl ⟨_, rfl, (B1.out.setCell (by simp) _).setCell (by simp) _⟩
set_option maxHeartbeats 1000000 in
set_option maxRecDepth 100000 in
theorem right_c (w : World) : Calls Tryd.prog 8 #[.agg #[.int .i64 1, .int .i64 1, .int .i64 19, .int .u16 300]] w fun e w' => e = .returned (.int .i64 0) ∧ Below w.heap.size w w' := by
  go_enter Tryd.func8, Tryd.ntmps8
  go_wp2_with fail
  refine (heads_c _).mono ?_
  rintro e w1 ⟨g, rfl, hb1⟩
  have B1 := Lib.hid (bthen ((Below.refl w.heap.size w).alloc (Nat.le_refl _) _) hb1)
  have C1 := Lib.hid ((hb1.block w.heap.size (by simp)).trans (heap_alloc_new w _))
  have c3 := cell_of_heap (i := 3) C1.out
  simp at c3
  have hz := lt_of_heap C1.out
  clear hb1 C1
  go_wp2_with fail
  go_ret
  exact ⟨rfl, B1.out.alloc B1.out.size _⟩
set_option maxHeartbeats 1000000 in
set_option maxRecDepth 100000 in
theorem alive9_any (w : World) (hg : GW9 w) : Calls Tryd.prog 6 #[] w fun e w' => e = .returned (.bool true) ∧ Below w.heap.size w w' := by
  have HT := Lib.hid (show show9T 1 1 19 300 = [77, 79, 86, 32, 65, 76, 44, 91, 51, 48, 48, 93] by
    unfold show9T argsT
    rw [rep_eq, rep_eq, show Lib.decDigits 300 = [51, 48, 48] by simp [Lib.decDigits]]
    decide +kernel)
  go_enter Tryd.func6, Tryd.ntmps6
  go_wp2_with fail
  refine (Show9_ok 1 1 19 300 (by omega) (by omega) (by omega) (by omega) (by omega) (by omega) (by omega) _ hg (fun W => right_c W)).mono ?_
  rintro e w1 ⟨rfl, hb1⟩
  rw [HT.out]
  go_wp2_with fail
  go_ret
  exact ⟨rfl, hb1⟩
end Go.Proofs.YtmmdniahfldljaaDoor
