/- expr: the parser's operator. -/
import Derived.Test.YtpmeabikhonaoaaDoorExpr1
namespace Go.Proofs.YtpmeabikhonaoaaDoor
open Go.RowKit

set_option maxHeartbeats 2000000 in
set_option maxRecDepth 100000 in
theorem oper_any (s : PS) (r : Nat) (hr : binR r) (b : Nat) (w : World) (hp : PSt w b s) (hl : s.ts.length ≤ 1000000) :
    Calls Tryd.prog 117 #[.pointer (some ⟨b, 0, none⟩), .int .i64 r] w fun e w' => e = .returned (atV (operT r s.ts)) ∧ Below w.heap.size w w' := by
  have HP := Lib.hid hp
  clear hp
  rcases hr with rfl | rfl | rfl | rfl
  · have H1 : Hid (operT 1 s.ts = atT s.ts 1 [sOR, sXOR]) := Lib.hid rfl
    obtain ⟨x, hx⟩ : ∃ x, atT s.ts 1 [sOR, sXOR] = x := ⟨_, rfl⟩
    have HX := Lib.hid hx
    clear hx
    go_enter Tryd.func117, Tryd.ntmps117
    go_wp2_with fail
    refine (at_any s 1 [sOR, sXOR] b w.heap.size 2 _ (HP.out.alloc _) hl rfl (by simp) (strs_new w [sOR, sXOR] _)).mono ?_
    rintro e w' ⟨rfl, rfl⟩
    rw [HX.out]
    cases x
    all_goals (
      simp only [atV]
      go_wp2_with fail
      go_ret2
      rw [H1.out, HX.out]
      exact ⟨rfl, (Below.refl _ _).alloc (Nat.le_refl _) _⟩)
  · have H1 : Hid (operT 2 s.ts = atT s.ts 1 [sAND]) := Lib.hid rfl
    obtain ⟨x, hx⟩ : ∃ x, atT s.ts 1 [sAND] = x := ⟨_, rfl⟩
    have HX := Lib.hid hx
    clear hx
    go_enter Tryd.func117, Tryd.ntmps117
    go_wp2_with fail
    refine (at_any s 1 [sAND] b w.heap.size 1 _ (HP.out.alloc _) hl rfl (by simp) (strs_new w [sAND] _)).mono ?_
    rintro e w' ⟨rfl, rfl⟩
    rw [HX.out]
    cases x
    all_goals (
      simp only [atV]
      go_wp2_with fail
      go_ret2
      rw [H1.out, HX.out]
      exact ⟨rfl, (Below.refl _ _).alloc (Nat.le_refl _) _⟩)
  · have H1 : Hid (operT 4 s.ts = atT s.ts 4 [[43], [45]]) := Lib.hid rfl
    obtain ⟨x, hx⟩ : ∃ x, atT s.ts 4 [[43], [45]] = x := ⟨_, rfl⟩
    have HX := Lib.hid hx
    clear hx
    go_enter Tryd.func117, Tryd.ntmps117
    go_wp2_with fail
    refine (at_any s 4 [[43], [45]] b w.heap.size 2 _ (HP.out.alloc _) hl rfl (by simp) (strs_new w [[43], [45]] _)).mono ?_
    rintro e w' ⟨rfl, rfl⟩
    rw [HX.out]
    cases x
    all_goals (
      simp only [atV]
      go_wp2_with fail
      go_ret2
      rw [H1.out, HX.out]
      exact ⟨rfl, (Below.refl _ _).alloc (Nat.le_refl _) _⟩)
  · have H1 : Hid (operT 5 s.ts = match atT s.ts 4 [[42], [47]] with | some o => some o | none => atT s.ts 1 [sMOD, sSHL, sSHR]) := Lib.hid rfl
    obtain ⟨x, hx⟩ : ∃ x, atT s.ts 4 [[42], [47]] = x := ⟨_, rfl⟩
    have HX := Lib.hid hx
    rw [hx] at H1
    clear hx
    go_enter Tryd.func117, Tryd.ntmps117
    go_wp2_with fail
    refine (at_any s 4 [[42], [47]] b w.heap.size 2 _ (HP.out.alloc _) hl rfl (by simp) (strs_new w [[42], [47]] _)).mono ?_
    rintro e w' ⟨rfl, rfl⟩
    rw [HX.out]
    cases x with
    | some o =>
      simp only [atV]
      go_wp2_with fail
      go_ret2
      rw [H1.out]
      exact ⟨rfl, (Below.refl _ _).alloc (Nat.le_refl _) _⟩
    | none =>
      obtain ⟨y, hy⟩ : ∃ x, atT s.ts 1 [sMOD, sSHL, sSHR] = x := ⟨_, rfl⟩
      have HY := Lib.hid hy
      clear hy
      simp only [atV]
      go_wp2_with fail
      refine (at_any s 1 [sMOD, sSHL, sSHR] b (w.heap.size + 1) 3 _ ((HP.out.alloc _).alloc _) hl rfl (by simp) (by have := strs_new (w.alloc (.cells #[.string ⟨#[42]⟩, .string ⟨#[47]⟩] 9)) [sMOD, sSHL, sSHR] 9; rwa [show (w.alloc (.cells #[.string ⟨#[42]⟩, .string ⟨#[47]⟩] 9)).heap.size = w.heap.size + 1 by simp] at this)).mono ?_
      rintro e w' ⟨rfl, rfl⟩
      rw [HY.out]
      cases y
      all_goals (
        simp only [atV]
        go_wp2_with fail
        go_ret2
        rw [H1.out]
        simp only [HY.out]
        exact ⟨rfl, ((Below.refl _ _).alloc (Nat.le_refl _) _).alloc (by simp) _⟩)
end Go.Proofs.YtpmeabikhonaoaaDoor
