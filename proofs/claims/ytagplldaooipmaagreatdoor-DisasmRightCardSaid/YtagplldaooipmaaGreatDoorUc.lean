/- Uc. -/
import Derived.Test.YtagplldaooipmaaGreatDoorUb
import Derived.Test.YtagplldaooipmaaGreatDoorShelf
import Derived.RegionTactic
import Derived.StillTailTactics
namespace Go.Proofs.YtagplldaooipmaaGreatDoor
open Go.RowKit
theorem zwords_any (v : Value) (w : World) (hv : ∃ A n c, v = .slice A n c) : Calls Tryz.prog 157 #[v] w fun e w' => e = .returned v ∧ w = w' := by
  obtain ⟨A, n, c, rfl⟩ := hv
  go_enter Tryz.func157, Tryz.ntmps157
  go_wp2_with fail
  go_ret
  exact ⟨rfl, rfl⟩
set_option maxHeartbeats 1000000 in
theorem zarg_any (s : List UInt8) (w : World) : Calls Tryz.prog 160 #[.string ⟨s.toArray⟩] w fun e w' => e = .returned (.string ⟨(zarg s).toArray⟩) ∧ w = w' := by
  unfold zarg
  by_cases h1 : s = [77]
  · subst h1
    go_enter Tryz.func160, Tryz.ntmps160
    go_wp2_with fail
    go_ret
    exact ⟨rfl, rfl⟩
  rw [if_neg h1]
  have e1 := str_ne h1
  by_cases h2 : s = sD8
  · subst h2
    clear h1 e1
    go_enter Tryz.func160, Tryz.ntmps160
    go_wp2_with fail
    go_ret
    exact ⟨rfl, rfl⟩
  rw [if_neg h2]
  have e2 := str_ne h2
  by_cases h3 : s = sD16
  · subst h3
    clear h1 e1 h2 e2
    go_enter Tryz.func160, Tryz.ntmps160
    go_wp2_with fail
    go_ret
    exact ⟨rfl, rfl⟩
  rw [if_neg h3]
  have e3 := str_ne h3
  clear h1 h2 h3
  go_enter Tryz.func160, Tryz.ntmps160
  go_wp2_with fail
  go_ret
  exact ⟨rfl, rfl⟩
set_option maxHeartbeats 1000000 in
theorem zpair_any (s : List UInt8) (w : World) : Calls Tryz.prog 195 #[.string ⟨s.toArray⟩] w fun e w' => e = .returned (.string ⟨(zpair s).toArray⟩) ∧ w = w' := by
  unfold zpair
  by_cases h1 : s = [66] ∨ s = [68] ∨ s = [72] ∨ s = [80, 83, 87]
  · rcases h1 with rfl | rfl | rfl | rfl
    all_goals (
      go_enter Tryz.func195, Tryz.ntmps195
      go_wp2_with fail
      go_ret
      exact ⟨rfl, rfl⟩)
  simp only [not_or] at h1
  obtain ⟨h1, h2, h3, h4⟩ := h1
  rw [if_neg h1, if_neg h2, if_neg h3, if_neg h4]
  have e1 := str_ne h1
  have e2 := str_ne h2
  have e3 := str_ne h3
  have e4 := str_ne h4
  clear h1 h2 h3 h4
  go_enter Tryz.func195, Tryz.ntmps195
  go_wp2_with fail
  go_ret
  exact ⟨rfl, rfl⟩
end Go.Proofs.YtagplldaooipmaaGreatDoor
/- zilog: sums. -/
namespace Go.Proofs.YtagplldaooipmaaGreatDoor
open Go.RowKit
set_option maxHeartbeats 4000000 in
set_option maxRecDepth 100000 in
theorem zsums_any (name s : List UInt8) (w : World) : Calls Tryz.prog 159 #[.string ⟨name.toArray⟩, .string ⟨s.toArray⟩] w (WsN w.heap.size (zsums name s) w) := by
  by_cases h0 : name = [65, 68, 68]
  · subst h0
    go_enter Tryz.func159, Tryz.ntmps159
    go_wp2_with ((with_reducible refine (zwords_any _ _ ⟨_, _, _, rfl⟩).mono ?_); rintro e w' ⟨rfl, rfl⟩)
    go_ret
    (first | exact wsn_3 (Below.refl _ _) rfl rfl | exact wsn_2 (Below.refl _ _) rfl rfl | exact wsn_1 (Below.refl _ _) rfl rfl)
  have e0 := str_ne h0
  by_cases h1 : name = [65, 68, 73]
  · subst h1
    clear h0 e0
    go_enter Tryz.func159, Tryz.ntmps159
    go_wp2_with ((with_reducible refine (zwords_any _ _ ⟨_, _, _, rfl⟩).mono ?_); rintro e w' ⟨rfl, rfl⟩)
    go_ret
    (first | exact wsn_3 (Below.refl _ _) rfl rfl | exact wsn_2 (Below.refl _ _) rfl rfl | exact wsn_1 (Below.refl _ _) rfl rfl)
  have e1 := str_ne h1
  by_cases h2 : name = [65, 68, 67]
  · subst h2
    clear h0 e0 h1 e1
    go_enter Tryz.func159, Tryz.ntmps159
    go_wp2_with ((with_reducible refine (zwords_any _ _ ⟨_, _, _, rfl⟩).mono ?_); rintro e w' ⟨rfl, rfl⟩)
    go_ret
    (first | exact wsn_3 (Below.refl _ _) rfl rfl | exact wsn_2 (Below.refl _ _) rfl rfl | exact wsn_1 (Below.refl _ _) rfl rfl)
  have e2 := str_ne h2
  by_cases h3 : name = [65, 67, 73]
  · subst h3
    clear h0 e0 h1 e1 h2 e2
    go_enter Tryz.func159, Tryz.ntmps159
    go_wp2_with ((with_reducible refine (zwords_any _ _ ⟨_, _, _, rfl⟩).mono ?_); rintro e w' ⟨rfl, rfl⟩)
    go_ret
    (first | exact wsn_3 (Below.refl _ _) rfl rfl | exact wsn_2 (Below.refl _ _) rfl rfl | exact wsn_1 (Below.refl _ _) rfl rfl)
  have e3 := str_ne h3
  by_cases h4 : name = [83, 66, 66]
  · subst h4
    clear h0 e0 h1 e1 h2 e2 h3 e3
    go_enter Tryz.func159, Tryz.ntmps159
    go_wp2_with ((with_reducible refine (zwords_any _ _ ⟨_, _, _, rfl⟩).mono ?_); rintro e w' ⟨rfl, rfl⟩)
    go_ret
    (first | exact wsn_3 (Below.refl _ _) rfl rfl | exact wsn_2 (Below.refl _ _) rfl rfl | exact wsn_1 (Below.refl _ _) rfl rfl)
  have e4 := str_ne h4
  by_cases h5 : name = [83, 66, 73]
  · subst h5
    clear h0 e0 h1 e1 h2 e2 h3 e3 h4 e4
    go_enter Tryz.func159, Tryz.ntmps159
    go_wp2_with ((with_reducible refine (zwords_any _ _ ⟨_, _, _, rfl⟩).mono ?_); rintro e w' ⟨rfl, rfl⟩)
    go_ret
    (first | exact wsn_3 (Below.refl _ _) rfl rfl | exact wsn_2 (Below.refl _ _) rfl rfl | exact wsn_1 (Below.refl _ _) rfl rfl)
  have e5 := str_ne h5
  by_cases h6 : name = [83, 85, 66]
  · subst h6
    clear h0 e0 h1 e1 h2 e2 h3 e3 h4 e4 h5 e5
    go_enter Tryz.func159, Tryz.ntmps159
    go_wp2_with ((with_reducible refine (zwords_any _ _ ⟨_, _, _, rfl⟩).mono ?_); rintro e w' ⟨rfl, rfl⟩)
    go_ret
    (first | exact wsn_3 (Below.refl _ _) rfl rfl | exact wsn_2 (Below.refl _ _) rfl rfl | exact wsn_1 (Below.refl _ _) rfl rfl)
  have e6 := str_ne h6
  by_cases h7 : name = [83, 85, 73]
  · subst h7
    clear h0 e0 h1 e1 h2 e2 h3 e3 h4 e4 h5 e5 h6 e6
    go_enter Tryz.func159, Tryz.ntmps159
    go_wp2_with ((with_reducible refine (zwords_any _ _ ⟨_, _, _, rfl⟩).mono ?_); rintro e w' ⟨rfl, rfl⟩)
    go_ret
    (first | exact wsn_3 (Below.refl _ _) rfl rfl | exact wsn_2 (Below.refl _ _) rfl rfl | exact wsn_1 (Below.refl _ _) rfl rfl)
  have e7 := str_ne h7
  by_cases h8 : name = [65, 78, 65]
  · subst h8
    clear h0 e0 h1 e1 h2 e2 h3 e3 h4 e4 h5 e5 h6 e6 h7 e7
    go_enter Tryz.func159, Tryz.ntmps159
    go_wp2_with ((with_reducible refine (zwords_any _ _ ⟨_, _, _, rfl⟩).mono ?_); rintro e w' ⟨rfl, rfl⟩)
    go_ret
    (first | exact wsn_3 (Below.refl _ _) rfl rfl | exact wsn_2 (Below.refl _ _) rfl rfl | exact wsn_1 (Below.refl _ _) rfl rfl)
  have e8 := str_ne h8
  by_cases h9 : name = [65, 78, 73]
  · subst h9
    clear h0 e0 h1 e1 h2 e2 h3 e3 h4 e4 h5 e5 h6 e6 h7 e7 h8 e8
    go_enter Tryz.func159, Tryz.ntmps159
    go_wp2_with ((with_reducible refine (zwords_any _ _ ⟨_, _, _, rfl⟩).mono ?_); rintro e w' ⟨rfl, rfl⟩)
    go_ret
    (first | exact wsn_3 (Below.refl _ _) rfl rfl | exact wsn_2 (Below.refl _ _) rfl rfl | exact wsn_1 (Below.refl _ _) rfl rfl)
  have e9 := str_ne h9
  by_cases h10 : name = [88, 82, 65]
  · subst h10
    clear h0 e0 h1 e1 h2 e2 h3 e3 h4 e4 h5 e5 h6 e6 h7 e7 h8 e8 h9 e9
    go_enter Tryz.func159, Tryz.ntmps159
    go_wp2_with ((with_reducible refine (zwords_any _ _ ⟨_, _, _, rfl⟩).mono ?_); rintro e w' ⟨rfl, rfl⟩)
    go_ret
    (first | exact wsn_3 (Below.refl _ _) rfl rfl | exact wsn_2 (Below.refl _ _) rfl rfl | exact wsn_1 (Below.refl _ _) rfl rfl)
  have e10 := str_ne h10
  by_cases h11 : name = [88, 82, 73]
  · subst h11
    clear h0 e0 h1 e1 h2 e2 h3 e3 h4 e4 h5 e5 h6 e6 h7 e7 h8 e8 h9 e9 h10 e10
    go_enter Tryz.func159, Tryz.ntmps159
    go_wp2_with ((with_reducible refine (zwords_any _ _ ⟨_, _, _, rfl⟩).mono ?_); rintro e w' ⟨rfl, rfl⟩)
    go_ret
    (first | exact wsn_3 (Below.refl _ _) rfl rfl | exact wsn_2 (Below.refl _ _) rfl rfl | exact wsn_1 (Below.refl _ _) rfl rfl)
  have e11 := str_ne h11
  by_cases h12 : name = [79, 82, 65]
  · subst h12
    clear h0 e0 h1 e1 h2 e2 h3 e3 h4 e4 h5 e5 h6 e6 h7 e7 h8 e8 h9 e9 h10 e10 h11 e11
    go_enter Tryz.func159, Tryz.ntmps159
    go_wp2_with ((with_reducible refine (zwords_any _ _ ⟨_, _, _, rfl⟩).mono ?_); rintro e w' ⟨rfl, rfl⟩)
    go_ret
    (first | exact wsn_3 (Below.refl _ _) rfl rfl | exact wsn_2 (Below.refl _ _) rfl rfl | exact wsn_1 (Below.refl _ _) rfl rfl)
  have e12 := str_ne h12
  by_cases h13 : name = [79, 82, 73]
  · subst h13
    clear h0 e0 h1 e1 h2 e2 h3 e3 h4 e4 h5 e5 h6 e6 h7 e7 h8 e8 h9 e9 h10 e10 h11 e11 h12 e12
    go_enter Tryz.func159, Tryz.ntmps159
    go_wp2_with ((with_reducible refine (zwords_any _ _ ⟨_, _, _, rfl⟩).mono ?_); rintro e w' ⟨rfl, rfl⟩)
    go_ret
    (first | exact wsn_3 (Below.refl _ _) rfl rfl | exact wsn_2 (Below.refl _ _) rfl rfl | exact wsn_1 (Below.refl _ _) rfl rfl)
  have e13 := str_ne h13
  have hz : zsums name s = [[67, 80], s] := by unfold zsums; simp [h0, h1, h2, h3, h4, h5, h6, h7, h8, h9, h10, h11, h12, h13]
  rw [hz]
  clear hz h0 h1 h2 h3 h4 h5 h6 h7 h8 h9 h10 h11 h12 h13
  go_enter Tryz.func159, Tryz.ntmps159
  go_wp2_with ((with_reducible refine (zwords_any _ _ ⟨_, _, _, rfl⟩).mono ?_); rintro e w' ⟨rfl, rfl⟩)
  go_ret
  exact wsn_2 (Below.refl _ _) rfl rfl
end Go.Proofs.YtagplldaooipmaaGreatDoor
/- zilog: one, plain. -/
namespace Go.Proofs.YtagplldaooipmaaGreatDoor
open Go.RowKit
set_option maxHeartbeats 4000000 in
theorem zone_any (name : List UInt8) (w : World) : Calls Tryz.prog 196 #[.string ⟨name.toArray⟩] w fun e w' => e = .returned (.string ⟨(zone name).toArray⟩) ∧ w = w' := by
  by_cases h0 : name = [82, 76, 67]
  · subst h0
    go_enter Tryz.func196, Tryz.ntmps196
    go_wp2_with fail
    go_ret
    exact ⟨rfl, rfl⟩
  have e0 := str_ne h0
  by_cases h1 : name = [82, 82, 67]
  · subst h1
    clear h0 e0
    go_enter Tryz.func196, Tryz.ntmps196
    go_wp2_with fail
    go_ret
    exact ⟨rfl, rfl⟩
  have e1 := str_ne h1
  by_cases h2 : name = [82, 65, 76]
  · subst h2
    clear h0 e0 h1 e1
    go_enter Tryz.func196, Tryz.ntmps196
    go_wp2_with fail
    go_ret
    exact ⟨rfl, rfl⟩
  have e2 := str_ne h2
  by_cases h3 : name = [82, 65, 82]
  · subst h3
    clear h0 e0 h1 e1 h2 e2
    go_enter Tryz.func196, Tryz.ntmps196
    go_wp2_with fail
    go_ret
    exact ⟨rfl, rfl⟩
  have e3 := str_ne h3
  by_cases h4 : name = [67, 77, 65]
  · subst h4
    clear h0 e0 h1 e1 h2 e2 h3 e3
    go_enter Tryz.func196, Tryz.ntmps196
    go_wp2_with fail
    go_ret
    exact ⟨rfl, rfl⟩
  have e4 := str_ne h4
  by_cases h5 : name = [83, 84, 67]
  · subst h5
    clear h0 e0 h1 e1 h2 e2 h3 e3 h4 e4
    go_enter Tryz.func196, Tryz.ntmps196
    go_wp2_with fail
    go_ret
    exact ⟨rfl, rfl⟩
  have e5 := str_ne h5
  by_cases h6 : name = [67, 77, 67]
  · subst h6
    clear h0 e0 h1 e1 h2 e2 h3 e3 h4 e4 h5 e5
    go_enter Tryz.func196, Tryz.ntmps196
    go_wp2_with fail
    go_ret
    exact ⟨rfl, rfl⟩
  have e6 := str_ne h6
  by_cases h7 : name = [72, 76, 84]
  · subst h7
    clear h0 e0 h1 e1 h2 e2 h3 e3 h4 e4 h5 e5 h6 e6
    go_enter Tryz.func196, Tryz.ntmps196
    go_wp2_with fail
    go_ret
    exact ⟨rfl, rfl⟩
  have e7 := str_ne h7
  have hz : zone name = name := by unfold zone; simp [h0, h1, h2, h3, h4, h5, h6, h7]
  rw [hz]
  clear hz h0 h1 h2 h3 h4 h5 h6 h7
  go_enter Tryz.func196, Tryz.ntmps196
  go_wp2_with fail
  go_ret
  exact ⟨rfl, rfl⟩
set_option maxHeartbeats 4000000 in
set_option maxRecDepth 100000 in
theorem zplain_any (name : List UInt8) (w : World) : Calls Tryz.prog 162 #[.string ⟨name.toArray⟩] w (WsN w.heap.size (zplain name) w) := by
  by_cases h0 : name = [83, 72, 76, 68]
  · subst h0
    go_enter Tryz.func162, Tryz.ntmps162
    go_wp2_with ((with_reducible refine (zwords_any _ _ ⟨_, _, _, rfl⟩).mono ?_); rintro e w' ⟨rfl, rfl⟩)
    go_ret
    (first | exact wsn_3 (Below.refl _ _) rfl rfl | exact wsn_2 (Below.refl _ _) rfl rfl | exact wsn_1 (Below.refl _ _) rfl rfl)
  have e0 := str_ne h0
  by_cases h1 : name = [76, 72, 76, 68]
  · subst h1
    clear h0 e0
    go_enter Tryz.func162, Tryz.ntmps162
    go_wp2_with ((with_reducible refine (zwords_any _ _ ⟨_, _, _, rfl⟩).mono ?_); rintro e w' ⟨rfl, rfl⟩)
    go_ret
    (first | exact wsn_3 (Below.refl _ _) rfl rfl | exact wsn_2 (Below.refl _ _) rfl rfl | exact wsn_1 (Below.refl _ _) rfl rfl)
  have e1 := str_ne h1
  by_cases h2 : name = [83, 84, 65]
  · subst h2
    clear h0 e0 h1 e1
    go_enter Tryz.func162, Tryz.ntmps162
    go_wp2_with ((with_reducible refine (zwords_any _ _ ⟨_, _, _, rfl⟩).mono ?_); rintro e w' ⟨rfl, rfl⟩)
    go_ret
    (first | exact wsn_3 (Below.refl _ _) rfl rfl | exact wsn_2 (Below.refl _ _) rfl rfl | exact wsn_1 (Below.refl _ _) rfl rfl)
  have e2 := str_ne h2
  by_cases h3 : name = [76, 68, 65]
  · subst h3
    clear h0 e0 h1 e1 h2 e2
    go_enter Tryz.func162, Tryz.ntmps162
    go_wp2_with ((with_reducible refine (zwords_any _ _ ⟨_, _, _, rfl⟩).mono ?_); rintro e w' ⟨rfl, rfl⟩)
    go_ret
    (first | exact wsn_3 (Below.refl _ _) rfl rfl | exact wsn_2 (Below.refl _ _) rfl rfl | exact wsn_1 (Below.refl _ _) rfl rfl)
  have e3 := str_ne h3
  by_cases h4 : name = [83, 80, 72, 76]
  · subst h4
    clear h0 e0 h1 e1 h2 e2 h3 e3
    go_enter Tryz.func162, Tryz.ntmps162
    go_wp2_with ((with_reducible refine (zwords_any _ _ ⟨_, _, _, rfl⟩).mono ?_); rintro e w' ⟨rfl, rfl⟩)
    go_ret
    (first | exact wsn_3 (Below.refl _ _) rfl rfl | exact wsn_2 (Below.refl _ _) rfl rfl | exact wsn_1 (Below.refl _ _) rfl rfl)
  have e4 := str_ne h4
  by_cases h5 : name = [80, 67, 72, 76]
  · subst h5
    clear h0 e0 h1 e1 h2 e2 h3 e3 h4 e4
    go_enter Tryz.func162, Tryz.ntmps162
    go_wp2_with ((with_reducible refine (zwords_any _ _ ⟨_, _, _, rfl⟩).mono ?_); rintro e w' ⟨rfl, rfl⟩)
    go_ret
    (first | exact wsn_3 (Below.refl _ _) rfl rfl | exact wsn_2 (Below.refl _ _) rfl rfl | exact wsn_1 (Below.refl _ _) rfl rfl)
  have e5 := str_ne h5
  by_cases h6 : name = [88, 84, 72, 76]
  · subst h6
    clear h0 e0 h1 e1 h2 e2 h3 e3 h4 e4 h5 e5
    go_enter Tryz.func162, Tryz.ntmps162
    go_wp2_with ((with_reducible refine (zwords_any _ _ ⟨_, _, _, rfl⟩).mono ?_); rintro e w' ⟨rfl, rfl⟩)
    go_ret
    (first | exact wsn_3 (Below.refl _ _) rfl rfl | exact wsn_2 (Below.refl _ _) rfl rfl | exact wsn_1 (Below.refl _ _) rfl rfl)
  have e6 := str_ne h6
  by_cases h7 : name = [88, 67, 72, 71]
  · subst h7
    clear h0 e0 h1 e1 h2 e2 h3 e3 h4 e4 h5 e5 h6 e6
    go_enter Tryz.func162, Tryz.ntmps162
    go_wp2_with ((with_reducible refine (zwords_any _ _ ⟨_, _, _, rfl⟩).mono ?_); rintro e w' ⟨rfl, rfl⟩)
    go_ret
    (first | exact wsn_3 (Below.refl _ _) rfl rfl | exact wsn_2 (Below.refl _ _) rfl rfl | exact wsn_1 (Below.refl _ _) rfl rfl)
  have e7 := str_ne h7
  by_cases h8 : name = [79, 85, 84]
  · subst h8
    clear h0 e0 h1 e1 h2 e2 h3 e3 h4 e4 h5 e5 h6 e6 h7 e7
    go_enter Tryz.func162, Tryz.ntmps162
    go_wp2_with ((with_reducible refine (zwords_any _ _ ⟨_, _, _, rfl⟩).mono ?_); rintro e w' ⟨rfl, rfl⟩)
    go_ret
    (first | exact wsn_3 (Below.refl _ _) rfl rfl | exact wsn_2 (Below.refl _ _) rfl rfl | exact wsn_1 (Below.refl _ _) rfl rfl)
  have e8 := str_ne h8
  by_cases h9 : name = [73, 78]
  · subst h9
    clear h0 e0 h1 e1 h2 e2 h3 e3 h4 e4 h5 e5 h6 e6 h7 e7 h8 e8
    go_enter Tryz.func162, Tryz.ntmps162
    go_wp2_with ((with_reducible refine (zwords_any _ _ ⟨_, _, _, rfl⟩).mono ?_); rintro e w' ⟨rfl, rfl⟩)
    go_ret
    (first | exact wsn_3 (Below.refl _ _) rfl rfl | exact wsn_2 (Below.refl _ _) rfl rfl | exact wsn_1 (Below.refl _ _) rfl rfl)
  have e9 := str_ne h9
  by_cases h10 : name = [74, 77, 80]
  · subst h10
    clear h0 e0 h1 e1 h2 e2 h3 e3 h4 e4 h5 e5 h6 e6 h7 e7 h8 e8 h9 e9
    go_enter Tryz.func162, Tryz.ntmps162
    go_wp2_with ((with_reducible refine (zwords_any _ _ ⟨_, _, _, rfl⟩).mono ?_); rintro e w' ⟨rfl, rfl⟩)
    go_ret
    (first | exact wsn_3 (Below.refl _ _) rfl rfl | exact wsn_2 (Below.refl _ _) rfl rfl | exact wsn_1 (Below.refl _ _) rfl rfl)
  have e10 := str_ne h10
  by_cases h11 : name = [67, 65, 76, 76]
  · subst h11
    clear h0 e0 h1 e1 h2 e2 h3 e3 h4 e4 h5 e5 h6 e6 h7 e7 h8 e8 h9 e9 h10 e10
    go_enter Tryz.func162, Tryz.ntmps162
    go_wp2_with ((with_reducible refine (zwords_any _ _ ⟨_, _, _, rfl⟩).mono ?_); rintro e w' ⟨rfl, rfl⟩)
    go_ret
    (first | exact wsn_3 (Below.refl _ _) rfl rfl | exact wsn_2 (Below.refl _ _) rfl rfl | exact wsn_1 (Below.refl _ _) rfl rfl)
  have e11 := str_ne h11
  have HO := Lib.hid (fun W => zone_any name W)
  have hz : zplain name = [zone name] := by unfold zplain; simp [h0, h1, h2, h3, h4, h5, h6, h7, h8, h9, h10, h11]
  rw [hz]
  clear hz h0 h1 h2 h3 h4 h5 h6 h7 h8 h9 h10 h11
  generalize zone name = z at *
  go_enter Tryz.func162, Tryz.ntmps162
  go_wp2_with (first | ((with_reducible refine (HO.out _).mono ?_); rintro e w' ⟨rfl, rfl⟩) | ((with_reducible refine (zwords_any _ _ ⟨_, _, _, rfl⟩).mono ?_); rintro e w' ⟨rfl, rfl⟩))
  go_ret
  exact wsn_1 (Below.refl _ _) rfl rfl
end Go.Proofs.YtagplldaooipmaaGreatDoor
/- zilog: loads. -/
namespace Go.Proofs.YtagplldaooipmaaGreatDoor
open Go.RowKit
theorem WsN.drew {B : Nat} {ws : List (List UInt8)} {w : World} {e : Ending} {w' : World} (h : WsN B ws w e w') : WsN B ws w e w'.drew := by
  obtain ⟨v, h1, h2, h3, h4⟩ := h
  exact ⟨v, h1, h2, fun h0 => by obtain ⟨g, h5, h6, h7⟩ := h3 h0; exact ⟨g, h5, h6, h7⟩, h4.drew⟩
theorem zpair_len (s : List UInt8) (h : s.length ≤ 1000) : (zpair s).length ≤ 1000 := by
  unfold zpair; repeat' (split; simp)
  exact h
set_option maxHeartbeats 4000000 in
set_option maxRecDepth 100000 in
theorem zload_MOV (x y : List UInt8) (g o c : Nat) (w : World) (c0 : w.cell? ⟨g, o, none⟩ = some (.string ⟨x.toArray⟩)) (c1 : w.cell? ⟨g, o + 1, none⟩ = some (.string ⟨y.toArray⟩)) (_hc : 2 ≤ c) :
    Calls Tryz.prog 161 #[.string ⟨#[77, 79, 86]⟩, .slice (some ⟨g, o, none⟩) 2 c] w (WsN w.heap.size [[76, 68], zarg x, zarg y] w) := by
  have HX := Lib.hid (fun W => zarg_any x W)
  have HY := Lib.hid (fun W => zarg_any y W)
  generalize zarg x = zx at *
  generalize zarg y = zy at *
  go_enter Tryz.func161, Tryz.ntmps161
  go_wp2_with fail
  refine wp_region_still_tail 8 (by kernel_rfl) (by kernel_rfl) ?_
  simp only [List.take_succ_cons, List.take_zero, List.drop_succ_cons, List.drop_zero]
  still_step
  still_step
  still_step
  still_call ((HX.out _).mono fun _ _ h => ⟨h.1, h.2.symm⟩)
  still_step
  still_step
  still_step
  still_call ((HY.out _).mono fun _ _ h => ⟨h.1, h.2.symm⟩)
  refine wpStill_nil ?_
  go_wp2_with ((with_reducible refine (zwords_any _ _ ⟨_, _, _, rfl⟩).mono ?_); rintro e w' ⟨rfl, rfl⟩)
  go_ret
  exact (wsn_3 (Below.refl _ _) rfl rfl).drew
set_option maxHeartbeats 4000000 in
set_option maxRecDepth 100000 in
theorem zload_MVI (x y : List UInt8) (g o c : Nat) (w : World) (c0 : w.cell? ⟨g, o, none⟩ = some (.string ⟨x.toArray⟩)) (c1 : w.cell? ⟨g, o + 1, none⟩ = some (.string ⟨y.toArray⟩)) (_hc : 2 ≤ c) :
    Calls Tryz.prog 161 #[.string ⟨#[77, 86, 73]⟩, .slice (some ⟨g, o, none⟩) 2 c] w (WsN w.heap.size [[76, 68], zarg x, zarg y] w) := by
  have HX := Lib.hid (fun W => zarg_any x W)
  have HY := Lib.hid (fun W => zarg_any y W)
  generalize zarg x = zx at *
  generalize zarg y = zy at *
  go_enter Tryz.func161, Tryz.ntmps161
  go_wp2_with fail
  refine wp_region_still_tail 8 (by kernel_rfl) (by kernel_rfl) ?_
  simp only [List.take_succ_cons, List.take_zero, List.drop_succ_cons, List.drop_zero]
  still_step
  still_step
  still_step
  still_call ((HX.out _).mono fun _ _ h => ⟨h.1, h.2.symm⟩)
  still_step
  still_step
  still_step
  still_call ((HY.out _).mono fun _ _ h => ⟨h.1, h.2.symm⟩)
  refine wpStill_nil ?_
  go_wp2_with ((with_reducible refine (zwords_any _ _ ⟨_, _, _, rfl⟩).mono ?_); rintro e w' ⟨rfl, rfl⟩)
  go_ret
  exact (wsn_3 (Below.refl _ _) rfl rfl).drew
set_option maxHeartbeats 4000000 in
set_option maxRecDepth 100000 in
theorem zload_LXI (x : List UInt8) (g o n c : Nat) (w : World) (c0 : w.cell? ⟨g, o, none⟩ = some (.string ⟨x.toArray⟩)) (hn : 0 < n) (hl : (zpair x).length ≤ 1000) :
    Calls Tryz.prog 161 #[.string ⟨#[76, 88, 73]⟩, .slice (some ⟨g, o, none⟩) n c] w (WsN w.heap.size [[76, 68], zpair x, [110, 110]] w) := by
  have HX := Lib.hid (fun W => zpair_any x W)
  generalize zpair x = zx at *
  have h1 : ¬ 9223372036854775807 < 1 + zx.length := by omega
  have h2 : ¬ 9223372036854775807 < 1 + zx.length + 1 := by omega
  clear hl
  go_enter Tryz.func161, Tryz.ntmps161
  go_wp2_with (first | ((with_reducible refine (HX.out _).mono ?_); rintro e w' ⟨rfl, rfl⟩) | ((with_reducible refine (zwords_any _ _ ⟨_, _, _, rfl⟩).mono ?_); rintro e w' ⟨rfl, rfl⟩))
  go_ret
  exact wsn_3 (Below.refl _ _) rfl rfl
set_option maxHeartbeats 4000000 in
set_option maxRecDepth 100000 in
theorem zload_STAX (x : List UInt8) (g o n c : Nat) (w : World) (c0 : w.cell? ⟨g, o, none⟩ = some (.string ⟨x.toArray⟩)) (hn : 0 < n) (hl : (zpair x).length ≤ 1000) :
    Calls Tryz.prog 161 #[.string ⟨#[83, 84, 65, 88]⟩, .slice (some ⟨g, o, none⟩) n c] w (WsN w.heap.size [[76, 68], [40] ++ zpair x ++ [41], [65]] w) := by
  have HX := Lib.hid (fun W => zpair_any x W)
  generalize zpair x = zx at *
  have h1 : ¬ 9223372036854775807 < 1 + zx.length := by omega
  have h2 : ¬ 9223372036854775807 < 1 + zx.length + 1 := by omega
  clear hl
  go_enter Tryz.func161, Tryz.ntmps161
  go_wp2_with (first | ((with_reducible refine (HX.out _).mono ?_); rintro e w' ⟨rfl, rfl⟩) | ((with_reducible refine (zwords_any _ _ ⟨_, _, _, rfl⟩).mono ?_); rintro e w' ⟨rfl, rfl⟩))
  go_ret
  exact wsn_3 (Below.refl _ _) rfl rfl
set_option maxHeartbeats 4000000 in
set_option maxRecDepth 100000 in
theorem zload_LDAX (x : List UInt8) (g o n c : Nat) (w : World) (c0 : w.cell? ⟨g, o, none⟩ = some (.string ⟨x.toArray⟩)) (hn : 0 < n) (hl : (zpair x).length ≤ 1000) :
    Calls Tryz.prog 161 #[.string ⟨#[76, 68, 65, 88]⟩, .slice (some ⟨g, o, none⟩) n c] w (WsN w.heap.size [[76, 68], [65], [40] ++ zpair x ++ [41]] w) := by
  have HX := Lib.hid (fun W => zpair_any x W)
  generalize zpair x = zx at *
  have h1 : ¬ 9223372036854775807 < 1 + zx.length := by omega
  have h2 : ¬ 9223372036854775807 < 1 + zx.length + 1 := by omega
  clear hl
  go_enter Tryz.func161, Tryz.ntmps161
  go_wp2_with (first | ((with_reducible refine (HX.out _).mono ?_); rintro e w' ⟨rfl, rfl⟩) | ((with_reducible refine (zwords_any _ _ ⟨_, _, _, rfl⟩).mono ?_); rintro e w' ⟨rfl, rfl⟩))
  go_ret
  exact wsn_3 (Below.refl _ _) rfl rfl
set_option maxHeartbeats 4000000 in
set_option maxRecDepth 100000 in
theorem zload_INX (x : List UInt8) (g o n c : Nat) (w : World) (c0 : w.cell? ⟨g, o, none⟩ = some (.string ⟨x.toArray⟩)) (hn : 0 < n) (hl : (zpair x).length ≤ 1000) :
    Calls Tryz.prog 161 #[.string ⟨#[73, 78, 88]⟩, .slice (some ⟨g, o, none⟩) n c] w (WsN w.heap.size [[73, 78, 67], zpair x] w) := by
  have HX := Lib.hid (fun W => zpair_any x W)
  generalize zpair x = zx at *
  have h1 : ¬ 9223372036854775807 < 1 + zx.length := by omega
  have h2 : ¬ 9223372036854775807 < 1 + zx.length + 1 := by omega
  clear hl
  go_enter Tryz.func161, Tryz.ntmps161
  go_wp2_with (first | ((with_reducible refine (HX.out _).mono ?_); rintro e w' ⟨rfl, rfl⟩) | ((with_reducible refine (zwords_any _ _ ⟨_, _, _, rfl⟩).mono ?_); rintro e w' ⟨rfl, rfl⟩))
  go_ret
  exact wsn_2 (Below.refl _ _) rfl rfl
set_option maxHeartbeats 4000000 in
set_option maxRecDepth 100000 in
theorem zload_DCX (x : List UInt8) (g o n c : Nat) (w : World) (c0 : w.cell? ⟨g, o, none⟩ = some (.string ⟨x.toArray⟩)) (hn : 0 < n) (hl : (zpair x).length ≤ 1000) :
    Calls Tryz.prog 161 #[.string ⟨#[68, 67, 88]⟩, .slice (some ⟨g, o, none⟩) n c] w (WsN w.heap.size [[68, 69, 67], zpair x] w) := by
  have HX := Lib.hid (fun W => zpair_any x W)
  generalize zpair x = zx at *
  have h1 : ¬ 9223372036854775807 < 1 + zx.length := by omega
  have h2 : ¬ 9223372036854775807 < 1 + zx.length + 1 := by omega
  clear hl
  go_enter Tryz.func161, Tryz.ntmps161
  go_wp2_with (first | ((with_reducible refine (HX.out _).mono ?_); rintro e w' ⟨rfl, rfl⟩) | ((with_reducible refine (zwords_any _ _ ⟨_, _, _, rfl⟩).mono ?_); rintro e w' ⟨rfl, rfl⟩))
  go_ret
  exact wsn_2 (Below.refl _ _) rfl rfl
set_option maxHeartbeats 4000000 in
set_option maxRecDepth 100000 in
theorem zload_DAD (x : List UInt8) (g o n c : Nat) (w : World) (c0 : w.cell? ⟨g, o, none⟩ = some (.string ⟨x.toArray⟩)) (hn : 0 < n) (hl : (zpair x).length ≤ 1000) :
    Calls Tryz.prog 161 #[.string ⟨#[68, 65, 68]⟩, .slice (some ⟨g, o, none⟩) n c] w (WsN w.heap.size [[65, 68, 68], [72, 76], zpair x] w) := by
  have HX := Lib.hid (fun W => zpair_any x W)
  generalize zpair x = zx at *
  have h1 : ¬ 9223372036854775807 < 1 + zx.length := by omega
  have h2 : ¬ 9223372036854775807 < 1 + zx.length + 1 := by omega
  clear hl
  go_enter Tryz.func161, Tryz.ntmps161
  go_wp2_with (first | ((with_reducible refine (HX.out _).mono ?_); rintro e w' ⟨rfl, rfl⟩) | ((with_reducible refine (zwords_any _ _ ⟨_, _, _, rfl⟩).mono ?_); rintro e w' ⟨rfl, rfl⟩))
  go_ret
  exact wsn_3 (Below.refl _ _) rfl rfl
set_option maxHeartbeats 4000000 in
set_option maxRecDepth 100000 in
theorem zload_INR (x : List UInt8) (g o n c : Nat) (w : World) (c0 : w.cell? ⟨g, o, none⟩ = some (.string ⟨x.toArray⟩)) (hn : 0 < n) (hl : (zarg x).length ≤ 1000) :
    Calls Tryz.prog 161 #[.string ⟨#[73, 78, 82]⟩, .slice (some ⟨g, o, none⟩) n c] w (WsN w.heap.size [[73, 78, 67], zarg x] w) := by
  have HX := Lib.hid (fun W => zarg_any x W)
  generalize zarg x = zx at *
  have h1 : ¬ 9223372036854775807 < 1 + zx.length := by omega
  have h2 : ¬ 9223372036854775807 < 1 + zx.length + 1 := by omega
  clear hl
  go_enter Tryz.func161, Tryz.ntmps161
  go_wp2_with (first | ((with_reducible refine (HX.out _).mono ?_); rintro e w' ⟨rfl, rfl⟩) | ((with_reducible refine (zwords_any _ _ ⟨_, _, _, rfl⟩).mono ?_); rintro e w' ⟨rfl, rfl⟩))
  go_ret
  exact wsn_2 (Below.refl _ _) rfl rfl
set_option maxHeartbeats 4000000 in
set_option maxRecDepth 100000 in
theorem zload_DCR (x : List UInt8) (g o n c : Nat) (w : World) (c0 : w.cell? ⟨g, o, none⟩ = some (.string ⟨x.toArray⟩)) (hn : 0 < n) (hl : (zarg x).length ≤ 1000) :
    Calls Tryz.prog 161 #[.string ⟨#[68, 67, 82]⟩, .slice (some ⟨g, o, none⟩) n c] w (WsN w.heap.size [[68, 69, 67], zarg x] w) := by
  have HX := Lib.hid (fun W => zarg_any x W)
  generalize zarg x = zx at *
  have h1 : ¬ 9223372036854775807 < 1 + zx.length := by omega
  have h2 : ¬ 9223372036854775807 < 1 + zx.length + 1 := by omega
  clear hl
  go_enter Tryz.func161, Tryz.ntmps161
  go_wp2_with (first | ((with_reducible refine (HX.out _).mono ?_); rintro e w' ⟨rfl, rfl⟩) | ((with_reducible refine (zwords_any _ _ ⟨_, _, _, rfl⟩).mono ?_); rintro e w' ⟨rfl, rfl⟩))
  go_ret
  exact wsn_2 (Below.refl _ _) rfl rfl
set_option maxHeartbeats 4000000 in
set_option maxRecDepth 100000 in
theorem zload_POP (x : List UInt8) (g o n c : Nat) (w : World) (c0 : w.cell? ⟨g, o, none⟩ = some (.string ⟨x.toArray⟩)) (hn : 0 < n) (hl : (zpair x).length ≤ 1000) :
    Calls Tryz.prog 161 #[.string ⟨#[80, 79, 80]⟩, .slice (some ⟨g, o, none⟩) n c] w (WsN w.heap.size [[80, 79, 80], zpair x] w) := by
  have HX := Lib.hid (fun W => zpair_any x W)
  generalize zpair x = zx at *
  have h1 : ¬ 9223372036854775807 < 1 + zx.length := by omega
  have h2 : ¬ 9223372036854775807 < 1 + zx.length + 1 := by omega
  clear hl
  go_enter Tryz.func161, Tryz.ntmps161
  go_wp2_with (first | ((with_reducible refine (HX.out _).mono ?_); rintro e w' ⟨rfl, rfl⟩) | ((with_reducible refine (zwords_any _ _ ⟨_, _, _, rfl⟩).mono ?_); rintro e w' ⟨rfl, rfl⟩))
  go_ret
  exact wsn_2 (Below.refl _ _) rfl rfl
set_option maxHeartbeats 4000000 in
set_option maxRecDepth 100000 in
theorem zload_PUSH (x : List UInt8) (g o n c : Nat) (w : World) (c0 : w.cell? ⟨g, o, none⟩ = some (.string ⟨x.toArray⟩)) (hn : 0 < n) (hl : (zpair x).length ≤ 1000) :
    Calls Tryz.prog 161 #[.string ⟨#[80, 85, 83, 72]⟩, .slice (some ⟨g, o, none⟩) n c] w (WsN w.heap.size [[80, 85, 83, 72], zpair x] w) := by
  have HX := Lib.hid (fun W => zpair_any x W)
  generalize zpair x = zx at *
  have h1 : ¬ 9223372036854775807 < 1 + zx.length := by omega
  have h2 : ¬ 9223372036854775807 < 1 + zx.length + 1 := by omega
  clear hl
  go_enter Tryz.func161, Tryz.ntmps161
  go_wp2_with (first | ((with_reducible refine (HX.out _).mono ?_); rintro e w' ⟨rfl, rfl⟩) | ((with_reducible refine (zwords_any _ _ ⟨_, _, _, rfl⟩).mono ?_); rintro e w' ⟨rfl, rfl⟩))
  go_ret
  exact wsn_2 (Below.refl _ _) rfl rfl
set_option maxHeartbeats 4000000 in
theorem zload_none (name : List UInt8) (v : Value) (w : World) (e0 : (name == [77, 79, 86]) = false) (e1 : (name == [77, 86, 73]) = false) (e2 : (name == [76, 88, 73]) = false) (e3 : (name == [83, 84, 65, 88]) = false) (e4 : (name == [76, 68, 65, 88]) = false) (e5 : (name == [73, 78, 88]) = false) (e6 : (name == [68, 67, 88]) = false) (e7 : (name == [68, 65, 68]) = false) (e8 : (name == [73, 78, 82]) = false) (e9 : (name == [68, 67, 82]) = false) (e10 : (name == [80, 79, 80]) = false) (e11 : (name == [80, 85, 83, 72]) = false) :
    Calls Tryz.prog 161 #[.string ⟨name.toArray⟩, v] w (WsN w.heap.size [] w) := by
  go_enter Tryz.func161, Tryz.ntmps161
  go_wp2_with fail
  go_ret
  exact wsn_nil (Below.refl _ _) rfl
end Go.Proofs.YtagplldaooipmaaGreatDoor
