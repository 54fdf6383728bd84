/- expr: show, Show. -/
import Derived.Test.YtpmeabikhonaoaaDoorExpr15
import Derived.Test.YtpmeabikhonaoaaDoorExpr13
namespace Go.Proofs.YtpmeabikhonaoaaDoor
open Go.RowKit

set_option maxHeartbeats 1000000 in
theorem show_leaf_num (n want : Nat) (hn : n ≤ 65535) (A : Option Addr) (c : Nat) (w : World) :
    Calls Tryd.prog 48 #[.agg #[.string ⟨#[35]⟩, .int .u16 n, .string ⟨#[]⟩, .slice A 0 c], .int .i64 want] w fun e w' => e = .returned (.string ⟨(showN n).toArray⟩) ∧ Below w.heap.size w w' := by
  have HB : Hid (∀ W, Calls Tryd.prog 71 #[.string ⟨#[35]⟩] W fun e w' => e = .returned (.tuple #[.int .i64 7, .int .i64 0]) ∧ W = w') := Lib.hid (fun W => binds_any sNum W)
  have HN := Lib.hid (fun W => show_any n W hn)
  generalize showN n = sn at *
  go_enter Tryd.func48, Tryd.ntmps48
  go_wp2_with fail
  refine (HB.out _).mono ?_
  rintro e w1 ⟨rfl, rfl⟩
  go_wp2_with fail
  refine (HN.out _).mono ?_
  rintro e w2 ⟨rfl, hb2⟩
  go_wp2_with fail
  go_ret
  exact ⟨rfl, ((Below.refl _ _).alloc (Nat.le_refl _) _).trans (hb2.mono (by simp))⟩
set_option maxHeartbeats 1000000 in
theorem show_leaf_name (m : List UInt8) (want : Nat) (A : Option Addr) (c : Nat) (w : World) :
    Calls Tryd.prog 48 #[.agg #[.string ⟨#[110]⟩, .int .u16 0, .string ⟨m.toArray⟩, .slice A 0 c], .int .i64 want] w fun e w' => e = .returned (.string ⟨m.toArray⟩) ∧ Below w.heap.size w w' := by
  have HB : Hid (∀ W, Calls Tryd.prog 71 #[.string ⟨#[110]⟩] W fun e w' => e = .returned (.tuple #[.int .i64 7, .int .i64 0]) ∧ W = w') := Lib.hid (fun W => binds_any sN W)
  go_enter Tryd.func48, Tryd.ntmps48
  go_wp2_with fail
  refine (HB.out _).mono ?_
  rintro e w1 ⟨rfl, rfl⟩
  go_wp2_with fail
  go_ret
  exact ⟨rfl, (Below.refl _ _).alloc (Nat.le_refl _) _⟩
set_option maxHeartbeats 1000000 in
theorem show_leaf_here (want : Nat) (A : Option Addr) (c : Nat) (w : World) :
    Calls Tryd.prog 48 #[.agg #[.string ⟨#[36]⟩, .int .u16 0, .string ⟨#[]⟩, .slice A 0 c], .int .i64 want] w fun e w' => e = .returned (.string ⟨#[36]⟩) ∧ Below w.heap.size w w' := by
  have HB : Hid (∀ W, Calls Tryd.prog 71 #[.string ⟨#[36]⟩] W fun e w' => e = .returned (.tuple #[.int .i64 7, .int .i64 0]) ∧ W = w') := Lib.hid (fun W => binds_any sHere W)
  go_enter Tryd.func48, Tryd.ntmps48
  go_wp2_with fail
  refine (HB.out _).mono ?_
  rintro e w1 ⟨rfl, rfl⟩
  go_wp2_with fail
  go_ret
  exact ⟨rfl, (Below.refl _ _).alloc (Nat.le_refl _) _⟩
theorem show_all (x : Ex) : ShowH x := by
  induction x using Ex.ind with
  | h o n m s ih =>
    intro d want v w hd hr hf hw hg hs
    have hform := rightE.form hr
    obtain ⟨A, c, rfl, hc, _⟩ := hs.form
    cases hform with
    | num n d =>
      simp [fitE] at hf
      exact show_leaf_num n want hf.1 A c w
    | name m d => exact show_leaf_name m want A c w
    | here d => exact show_leaf_here want A c w
    | neg a d hA =>
      simp [fitE, fitL] at hf
      exact show_one_any sNEG 6 a d (.inl ⟨rfl, rfl⟩) hA (by omega) hf (ih a (by simp)) want _ w hg hs
    | not a d hA =>
      simp [fitE, fitL] at hf
      exact show_one_any sNOT 3 a d (.inr ⟨rfl, rfl⟩) hA (by omega) hf (ih a (by simp)) want _ w hg hs
    | two o r a b d ho h1 h2 =>
      simp [fitE, fitL] at hf
      exact show_two_any o r a b d ho h1 h2 (by omega) hf.2.1 hf.2.2 (ih a (by simp)) (ih b (by simp)) want _ w hg hs
end Go.Proofs.YtpmeabikhonaoaaDoor
