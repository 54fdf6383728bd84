/- Uc. -/
import Derived.Test.YtijgppokofganaaGreatDoorUb
import Derived.Test.YtijgppokofganaaGreatDoorShelf
import Derived.RegionTactic
import Derived.StillTailTactics
import Derived.Test.YtijgppokofganaaGreatDoorKm
namespace Go.Proofs.YtijgppokofganaaGreatDoor
set_option maxRecDepth 100000
set_option maxHeartbeats 4000000
open Go.RowKit
theorem zwa (v:Value) (w:World) (hv:∃ A n c,v=.slice A n c):Calls Tryz.prog 138 #[v] w fun e w'=>e=.returned v/\w=w':=by
 obtain ⟨A,n,c,rfl⟩:=hv
 go_enter Tryz.func138, Tryz.ntmps138
 go_wp2_with fail
 go_ret
 exact ⟨rfl,rfl⟩
theorem zarg_any (s:List UInt8) (w:World):Calls Tryz.prog 141 #[.string ⟨s.toArray⟩] w fun e w'=>e=.returned (.string ⟨(zarg s).toArray⟩)/\w=w':=by
 unfold zarg
 by_cases h1:s = [77]
 ·subst h1
  go_enter Tryz.func141, Tryz.ntmps141
  go_wp2_with fail
  go_ret
  exact ⟨rfl,rfl⟩
 rw [if_neg h1]
 have e1:=str_ne h1
 by_cases h2:s=sD8
 ·subst h2
  clear h1 e1
  go_enter Tryz.func141, Tryz.ntmps141
  go_wp2_with fail
  go_ret
  exact ⟨rfl,rfl⟩
 rw [if_neg h2]
 have e2:=str_ne h2
 by_cases h3:s=sD16
 ·subst h3
  clear h1 e1 h2 e2
  go_enter Tryz.func141, Tryz.ntmps141
  go_wp2_with fail
  go_ret
  exact ⟨rfl,rfl⟩
 rw [if_neg h3]
 have e3:=str_ne h3
 clear h1 h2 h3
 go_enter Tryz.func141, Tryz.ntmps141
 go_wp2_with fail
 go_ret
 exact ⟨rfl,rfl⟩
theorem zpair_any (s:List UInt8) (w:World):Calls Tryz.prog 179 #[.string ⟨s.toArray⟩] w fun e w'=>e=.returned (.string ⟨(zpair s).toArray⟩)/\w=w':=by
 unfold zpair
 by_cases h1:s = [66]∨s = [68]∨s = [72]∨s = [80,83,87]
 ·rcases h1 with rfl | rfl | rfl | rfl
  all_goals (
   go_enter Tryz.func179, Tryz.ntmps179
   go_wp2_with fail
   go_ret
   exact ⟨rfl,rfl⟩)
 simp only [not_or] at h1
 obtain ⟨h1,h2,h3,h4⟩:=h1
 rw [if_neg h1,if_neg h2,if_neg h3,if_neg h4]
 have e1:=str_ne h1
 have e2:=str_ne h2
 have e3:=str_ne h3
 have e4:=str_ne h4
 clear h1 h2 h3 h4
 go_enter Tryz.func179, Tryz.ntmps179
 go_wp2_with fail
 go_ret
 exact ⟨rfl,rfl⟩
theorem zsums_any (name s:List UInt8) (w:World):Calls Tryz.prog 140 #[.string ⟨name.toArray⟩,.string ⟨s.toArray⟩] w (WsN w.heap.size (zsums name s) w):=by
 by_cases h0:name = [65,68,68]
 ·subst h0
  go_enter Tryz.func140, Tryz.ntmps140
  go_wp2_with ((with_reducible refine (zwa _ _ ⟨_,_,_,rfl⟩).mono ?_);rintro e w' ⟨rfl,rfl⟩)
  go_ret
  (first | exact wsn_3 (Below.refl _ _) rfl rfl | exact wsn_2 (Below.refl _ _) rfl rfl | exact wsn_1 (Below.refl _ _) rfl rfl)
 have e0:=str_ne h0
 by_cases h1:name = [65,68,73]
 ·subst h1
  clear h0 e0
  go_enter Tryz.func140, Tryz.ntmps140
  go_wp2_with ((with_reducible refine (zwa _ _ ⟨_,_,_,rfl⟩).mono ?_);rintro e w' ⟨rfl,rfl⟩)
  go_ret
  (first | exact wsn_3 (Below.refl _ _) rfl rfl | exact wsn_2 (Below.refl _ _) rfl rfl | exact wsn_1 (Below.refl _ _) rfl rfl)
 have e1:=str_ne h1
 by_cases h2:name = [65,68,67]
 ·subst h2
  clear h0 e0 h1 e1
  go_enter Tryz.func140, Tryz.ntmps140
  go_wp2_with ((with_reducible refine (zwa _ _ ⟨_,_,_,rfl⟩).mono ?_);rintro e w' ⟨rfl,rfl⟩)
  go_ret
  (first | exact wsn_3 (Below.refl _ _) rfl rfl | exact wsn_2 (Below.refl _ _) rfl rfl | exact wsn_1 (Below.refl _ _) rfl rfl)
 have e2:=str_ne h2
 by_cases h3:name = [65,67,73]
 ·subst h3
  clear h0 e0 h1 e1 h2 e2
  go_enter Tryz.func140, Tryz.ntmps140
  go_wp2_with ((with_reducible refine (zwa _ _ ⟨_,_,_,rfl⟩).mono ?_);rintro e w' ⟨rfl,rfl⟩)
  go_ret
  (first | exact wsn_3 (Below.refl _ _) rfl rfl | exact wsn_2 (Below.refl _ _) rfl rfl | exact wsn_1 (Below.refl _ _) rfl rfl)
 have e3:=str_ne h3
 by_cases h4:name = [83,66,66]
 ·subst h4
  clear h0 e0 h1 e1 h2 e2 h3 e3
  go_enter Tryz.func140, Tryz.ntmps140
  go_wp2_with ((with_reducible refine (zwa _ _ ⟨_,_,_,rfl⟩).mono ?_);rintro e w' ⟨rfl,rfl⟩)
  go_ret
  (first | exact wsn_3 (Below.refl _ _) rfl rfl | exact wsn_2 (Below.refl _ _) rfl rfl | exact wsn_1 (Below.refl _ _) rfl rfl)
 have e4:=str_ne h4
 by_cases h5:name = [83,66,73]
 ·subst h5
  clear h0 e0 h1 e1 h2 e2 h3 e3 h4 e4
  go_enter Tryz.func140, Tryz.ntmps140
  go_wp2_with ((with_reducible refine (zwa _ _ ⟨_,_,_,rfl⟩).mono ?_);rintro e w' ⟨rfl,rfl⟩)
  go_ret
  (first | exact wsn_3 (Below.refl _ _) rfl rfl | exact wsn_2 (Below.refl _ _) rfl rfl | exact wsn_1 (Below.refl _ _) rfl rfl)
 have e5:=str_ne h5
 by_cases h6:name = [83,85,66]
 ·subst h6
  clear h0 e0 h1 e1 h2 e2 h3 e3 h4 e4 h5 e5
  go_enter Tryz.func140, Tryz.ntmps140
  go_wp2_with ((with_reducible refine (zwa _ _ ⟨_,_,_,rfl⟩).mono ?_);rintro e w' ⟨rfl,rfl⟩)
  go_ret
  (first | exact wsn_3 (Below.refl _ _) rfl rfl | exact wsn_2 (Below.refl _ _) rfl rfl | exact wsn_1 (Below.refl _ _) rfl rfl)
 have e6:=str_ne h6
 by_cases h7:name = [83,85,73]
 ·subst h7
  clear h0 e0 h1 e1 h2 e2 h3 e3 h4 e4 h5 e5 h6 e6
  go_enter Tryz.func140, Tryz.ntmps140
  go_wp2_with ((with_reducible refine (zwa _ _ ⟨_,_,_,rfl⟩).mono ?_);rintro e w' ⟨rfl,rfl⟩)
  go_ret
  (first | exact wsn_3 (Below.refl _ _) rfl rfl | exact wsn_2 (Below.refl _ _) rfl rfl | exact wsn_1 (Below.refl _ _) rfl rfl)
 have e7:=str_ne h7
 by_cases h8:name = [65,78,65]
 ·subst h8
  clear h0 e0 h1 e1 h2 e2 h3 e3 h4 e4 h5 e5 h6 e6 h7 e7
  go_enter Tryz.func140, Tryz.ntmps140
  go_wp2_with ((with_reducible refine (zwa _ _ ⟨_,_,_,rfl⟩).mono ?_);rintro e w' ⟨rfl,rfl⟩)
  go_ret
  (first | exact wsn_3 (Below.refl _ _) rfl rfl | exact wsn_2 (Below.refl _ _) rfl rfl | exact wsn_1 (Below.refl _ _) rfl rfl)
 have e8:=str_ne h8
 by_cases h9:name = [65,78,73]
 ·subst h9
  clear h0 e0 h1 e1 h2 e2 h3 e3 h4 e4 h5 e5 h6 e6 h7 e7 h8 e8
  go_enter Tryz.func140, Tryz.ntmps140
  go_wp2_with ((with_reducible refine (zwa _ _ ⟨_,_,_,rfl⟩).mono ?_);rintro e w' ⟨rfl,rfl⟩)
  go_ret
  (first | exact wsn_3 (Below.refl _ _) rfl rfl | exact wsn_2 (Below.refl _ _) rfl rfl | exact wsn_1 (Below.refl _ _) rfl rfl)
 have e9:=str_ne h9
 by_cases h10:name = [88,82,65]
 ·subst h10
  clear h0 e0 h1 e1 h2 e2 h3 e3 h4 e4 h5 e5 h6 e6 h7 e7 h8 e8 h9 e9
  go_enter Tryz.func140, Tryz.ntmps140
  go_wp2_with ((with_reducible refine (zwa _ _ ⟨_,_,_,rfl⟩).mono ?_);rintro e w' ⟨rfl,rfl⟩)
  go_ret
  (first | exact wsn_3 (Below.refl _ _) rfl rfl | exact wsn_2 (Below.refl _ _) rfl rfl | exact wsn_1 (Below.refl _ _) rfl rfl)
 have e10:=str_ne h10
 by_cases h11:name = [88,82,73]
 ·subst h11
  clear h0 e0 h1 e1 h2 e2 h3 e3 h4 e4 h5 e5 h6 e6 h7 e7 h8 e8 h9 e9 h10 e10
  go_enter Tryz.func140, Tryz.ntmps140
  go_wp2_with ((with_reducible refine (zwa _ _ ⟨_,_,_,rfl⟩).mono ?_);rintro e w' ⟨rfl,rfl⟩)
  go_ret
  (first | exact wsn_3 (Below.refl _ _) rfl rfl | exact wsn_2 (Below.refl _ _) rfl rfl | exact wsn_1 (Below.refl _ _) rfl rfl)
 have e11:=str_ne h11
 by_cases h12:name = [79,82,65]
 ·subst h12
  clear h0 e0 h1 e1 h2 e2 h3 e3 h4 e4 h5 e5 h6 e6 h7 e7 h8 e8 h9 e9 h10 e10 h11 e11
  go_enter Tryz.func140, Tryz.ntmps140
  go_wp2_with ((with_reducible refine (zwa _ _ ⟨_,_,_,rfl⟩).mono ?_);rintro e w' ⟨rfl,rfl⟩)
  go_ret
  (first | exact wsn_3 (Below.refl _ _) rfl rfl | exact wsn_2 (Below.refl _ _) rfl rfl | exact wsn_1 (Below.refl _ _) rfl rfl)
 have e12:=str_ne h12
 by_cases h13:name = [79,82,73]
 ·subst h13
  clear h0 e0 h1 e1 h2 e2 h3 e3 h4 e4 h5 e5 h6 e6 h7 e7 h8 e8 h9 e9 h10 e10 h11 e11 h12 e12
  go_enter Tryz.func140, Tryz.ntmps140
  go_wp2_with ((with_reducible refine (zwa _ _ ⟨_,_,_,rfl⟩).mono ?_);rintro e w' ⟨rfl,rfl⟩)
  go_ret
  (first | exact wsn_3 (Below.refl _ _) rfl rfl | exact wsn_2 (Below.refl _ _) rfl rfl | exact wsn_1 (Below.refl _ _) rfl rfl)
 have e13:=str_ne h13
 have hz:zsums name s = [[67,80],s]:=by unfold zsums;simp [h0,h1,h2,h3,h4,h5,h6,h7,h8,h9,h10,h11,h12,h13]
 rw [hz]
 clear hz h0 h1 h2 h3 h4 h5 h6 h7 h8 h9 h10 h11 h12 h13
 go_enter Tryz.func140, Tryz.ntmps140
 go_wp2_with ((with_reducible refine (zwa _ _ ⟨_,_,_,rfl⟩).mono ?_);rintro e w' ⟨rfl,rfl⟩)
 go_ret
 exact wsn_2 (Below.refl _ _) rfl rfl
theorem zone_any (name:List UInt8) (w:World):Calls Tryz.prog 180 #[.string ⟨name.toArray⟩] w fun e w'=>e=.returned (.string ⟨(zone name).toArray⟩)/\w=w':=by
 by_cases h0:name = [82,76,67]
 ·subst h0
  go_enter Tryz.func180, Tryz.ntmps180
  go_wp2_with fail
  go_ret
  exact ⟨rfl,rfl⟩
 have e0:=str_ne h0
 by_cases h1:name = [82,82,67]
 ·subst h1
  clear h0 e0
  go_enter Tryz.func180, Tryz.ntmps180
  go_wp2_with fail
  go_ret
  exact ⟨rfl,rfl⟩
 have e1:=str_ne h1
 by_cases h2:name = [82,65,76]
 ·subst h2
  clear h0 e0 h1 e1
  go_enter Tryz.func180, Tryz.ntmps180
  go_wp2_with fail
  go_ret
  exact ⟨rfl,rfl⟩
 have e2:=str_ne h2
 by_cases h3:name = [82,65,82]
 ·subst h3
  clear h0 e0 h1 e1 h2 e2
  go_enter Tryz.func180, Tryz.ntmps180
  go_wp2_with fail
  go_ret
  exact ⟨rfl,rfl⟩
 have e3:=str_ne h3
 by_cases h4:name = [67,77,65]
 ·subst h4
  clear h0 e0 h1 e1 h2 e2 h3 e3
  go_enter Tryz.func180, Tryz.ntmps180
  go_wp2_with fail
  go_ret
  exact ⟨rfl,rfl⟩
 have e4:=str_ne h4
 by_cases h5:name = [83,84,67]
 ·subst h5
  clear h0 e0 h1 e1 h2 e2 h3 e3 h4 e4
  go_enter Tryz.func180, Tryz.ntmps180
  go_wp2_with fail
  go_ret
  exact ⟨rfl,rfl⟩
 have e5:=str_ne h5
 by_cases h6:name = [67,77,67]
 ·subst h6
  clear h0 e0 h1 e1 h2 e2 h3 e3 h4 e4 h5 e5
  go_enter Tryz.func180, Tryz.ntmps180
  go_wp2_with fail
  go_ret
  exact ⟨rfl,rfl⟩
 have e6:=str_ne h6
 by_cases h7:name = [72,76,84]
 ·subst h7
  clear h0 e0 h1 e1 h2 e2 h3 e3 h4 e4 h5 e5 h6 e6
  go_enter Tryz.func180, Tryz.ntmps180
  go_wp2_with fail
  go_ret
  exact ⟨rfl,rfl⟩
 have e7:=str_ne h7
 have hz:zone name=name:=by unfold zone;simp [h0,h1,h2,h3,h4,h5,h6,h7]
 rw [hz]
 clear hz h0 h1 h2 h3 h4 h5 h6 h7
 go_enter Tryz.func180, Tryz.ntmps180
 go_wp2_with fail
 go_ret
 exact ⟨rfl,rfl⟩
theorem zplain_any (name:List UInt8) (w:World):Calls Tryz.prog 143 #[.string ⟨name.toArray⟩] w (WsN w.heap.size (zplain name) w):=by
 by_cases h0:name = [83,72,76,68]
 ·subst h0
  go_enter Tryz.func143, Tryz.ntmps143
  go_wp2_with ((with_reducible refine (zwa _ _ ⟨_,_,_,rfl⟩).mono ?_);rintro e w' ⟨rfl,rfl⟩)
  go_ret
  (first | exact wsn_3 (Below.refl _ _) rfl rfl | exact wsn_2 (Below.refl _ _) rfl rfl | exact wsn_1 (Below.refl _ _) rfl rfl)
 have e0:=str_ne h0
 by_cases h1:name = [76,72,76,68]
 ·subst h1
  clear h0 e0
  go_enter Tryz.func143, Tryz.ntmps143
  go_wp2_with ((with_reducible refine (zwa _ _ ⟨_,_,_,rfl⟩).mono ?_);rintro e w' ⟨rfl,rfl⟩)
  go_ret
  (first | exact wsn_3 (Below.refl _ _) rfl rfl | exact wsn_2 (Below.refl _ _) rfl rfl | exact wsn_1 (Below.refl _ _) rfl rfl)
 have e1:=str_ne h1
 by_cases h2:name = [83,84,65]
 ·subst h2
  clear h0 e0 h1 e1
  go_enter Tryz.func143, Tryz.ntmps143
  go_wp2_with ((with_reducible refine (zwa _ _ ⟨_,_,_,rfl⟩).mono ?_);rintro e w' ⟨rfl,rfl⟩)
  go_ret
  (first | exact wsn_3 (Below.refl _ _) rfl rfl | exact wsn_2 (Below.refl _ _) rfl rfl | exact wsn_1 (Below.refl _ _) rfl rfl)
 have e2:=str_ne h2
 by_cases h3:name = [76,68,65]
 ·subst h3
  clear h0 e0 h1 e1 h2 e2
  go_enter Tryz.func143, Tryz.ntmps143
  go_wp2_with ((with_reducible refine (zwa _ _ ⟨_,_,_,rfl⟩).mono ?_);rintro e w' ⟨rfl,rfl⟩)
  go_ret
  (first | exact wsn_3 (Below.refl _ _) rfl rfl | exact wsn_2 (Below.refl _ _) rfl rfl | exact wsn_1 (Below.refl _ _) rfl rfl)
 have e3:=str_ne h3
 by_cases h4:name = [83,80,72,76]
 ·subst h4
  clear h0 e0 h1 e1 h2 e2 h3 e3
  go_enter Tryz.func143, Tryz.ntmps143
  go_wp2_with ((with_reducible refine (zwa _ _ ⟨_,_,_,rfl⟩).mono ?_);rintro e w' ⟨rfl,rfl⟩)
  go_ret
  (first | exact wsn_3 (Below.refl _ _) rfl rfl | exact wsn_2 (Below.refl _ _) rfl rfl | exact wsn_1 (Below.refl _ _) rfl rfl)
 have e4:=str_ne h4
 by_cases h5:name = [80,67,72,76]
 ·subst h5
  clear h0 e0 h1 e1 h2 e2 h3 e3 h4 e4
  go_enter Tryz.func143, Tryz.ntmps143
  go_wp2_with ((with_reducible refine (zwa _ _ ⟨_,_,_,rfl⟩).mono ?_);rintro e w' ⟨rfl,rfl⟩)
  go_ret
  (first | exact wsn_3 (Below.refl _ _) rfl rfl | exact wsn_2 (Below.refl _ _) rfl rfl | exact wsn_1 (Below.refl _ _) rfl rfl)
 have e5:=str_ne h5
 by_cases h6:name = [88,84,72,76]
 ·subst h6
  clear h0 e0 h1 e1 h2 e2 h3 e3 h4 e4 h5 e5
  go_enter Tryz.func143, Tryz.ntmps143
  go_wp2_with ((with_reducible refine (zwa _ _ ⟨_,_,_,rfl⟩).mono ?_);rintro e w' ⟨rfl,rfl⟩)
  go_ret
  (first | exact wsn_3 (Below.refl _ _) rfl rfl | exact wsn_2 (Below.refl _ _) rfl rfl | exact wsn_1 (Below.refl _ _) rfl rfl)
 have e6:=str_ne h6
 by_cases h7:name = [88,67,72,71]
 ·subst h7
  clear h0 e0 h1 e1 h2 e2 h3 e3 h4 e4 h5 e5 h6 e6
  go_enter Tryz.func143, Tryz.ntmps143
  go_wp2_with ((with_reducible refine (zwa _ _ ⟨_,_,_,rfl⟩).mono ?_);rintro e w' ⟨rfl,rfl⟩)
  go_ret
  (first | exact wsn_3 (Below.refl _ _) rfl rfl | exact wsn_2 (Below.refl _ _) rfl rfl | exact wsn_1 (Below.refl _ _) rfl rfl)
 have e7:=str_ne h7
 by_cases h8:name = [79,85,84]
 ·subst h8
  clear h0 e0 h1 e1 h2 e2 h3 e3 h4 e4 h5 e5 h6 e6 h7 e7
  go_enter Tryz.func143, Tryz.ntmps143
  go_wp2_with ((with_reducible refine (zwa _ _ ⟨_,_,_,rfl⟩).mono ?_);rintro e w' ⟨rfl,rfl⟩)
  go_ret
  (first | exact wsn_3 (Below.refl _ _) rfl rfl | exact wsn_2 (Below.refl _ _) rfl rfl | exact wsn_1 (Below.refl _ _) rfl rfl)
 have e8:=str_ne h8
 by_cases h9:name = [73,78]
 ·subst h9
  clear h0 e0 h1 e1 h2 e2 h3 e3 h4 e4 h5 e5 h6 e6 h7 e7 h8 e8
  go_enter Tryz.func143, Tryz.ntmps143
  go_wp2_with ((with_reducible refine (zwa _ _ ⟨_,_,_,rfl⟩).mono ?_);rintro e w' ⟨rfl,rfl⟩)
  go_ret
  (first | exact wsn_3 (Below.refl _ _) rfl rfl | exact wsn_2 (Below.refl _ _) rfl rfl | exact wsn_1 (Below.refl _ _) rfl rfl)
 have e9:=str_ne h9
 by_cases h10:name = [74,77,80]
 ·subst h10
  clear h0 e0 h1 e1 h2 e2 h3 e3 h4 e4 h5 e5 h6 e6 h7 e7 h8 e8 h9 e9
  go_enter Tryz.func143, Tryz.ntmps143
  go_wp2_with ((with_reducible refine (zwa _ _ ⟨_,_,_,rfl⟩).mono ?_);rintro e w' ⟨rfl,rfl⟩)
  go_ret
  (first | exact wsn_3 (Below.refl _ _) rfl rfl | exact wsn_2 (Below.refl _ _) rfl rfl | exact wsn_1 (Below.refl _ _) rfl rfl)
 have e10:=str_ne h10
 by_cases h11:name = [67,65,76,76]
 ·subst h11
  clear h0 e0 h1 e1 h2 e2 h3 e3 h4 e4 h5 e5 h6 e6 h7 e7 h8 e8 h9 e9 h10 e10
  go_enter Tryz.func143, Tryz.ntmps143
  go_wp2_with ((with_reducible refine (zwa _ _ ⟨_,_,_,rfl⟩).mono ?_);rintro e w' ⟨rfl,rfl⟩)
  go_ret
  (first | exact wsn_3 (Below.refl _ _) rfl rfl | exact wsn_2 (Below.refl _ _) rfl rfl | exact wsn_1 (Below.refl _ _) rfl rfl)
 have e11:=str_ne h11
 have HO:=LH (fun W=>zone_any name W)
 have hz:zplain name = [zone name]:=by unfold zplain;simp [h0,h1,h2,h3,h4,h5,h6,h7,h8,h9,h10,h11]
 rw [hz]
 clear hz h0 h1 h2 h3 h4 h5 h6 h7 h8 h9 h10 h11
 generalize zone name=z at *
 go_enter Tryz.func143, Tryz.ntmps143
 go_wp2_with (first | ((with_reducible refine (HO.out _).mono ?_);rintro e w' ⟨rfl,rfl⟩) | ((with_reducible refine (zwa _ _ ⟨_,_,_,rfl⟩).mono ?_);rintro e w' ⟨rfl,rfl⟩))
 go_ret
 exact wsn_1 (Below.refl _ _) rfl rfl
theorem WsN.drew {B:Nat} {ws:List (List UInt8)} {w:World} {e:Ending} {w':World} (h:WsN B ws w e w'):WsN B ws w e w'.drew:=by
 obtain ⟨v,h1,h2,h3,h4⟩:=h
 exact ⟨v,h1,h2,fun h0=>by obtain ⟨g,h5,h6,h7⟩:=h3 h0;exact ⟨g,h5,h6,h7⟩,h4.drew⟩
theorem zpair_len (s:List UInt8) (h:s.length<=1000):(zpair s).length<=1000:=by
 unfold zpair;repeat' (split;simp)
 exact h
theorem zload_MOV (x y:List UInt8) (g o c:Nat) (w:World) (c0:w.cell? ⟨g,o,none⟩=some (.string ⟨x.toArray⟩)) (c1:w.cell? ⟨g,o+1,none⟩=some (.string ⟨y.toArray⟩)) (_hc:2<=c) :
  Calls Tryz.prog 142 #[.string ⟨#[77,79,86]⟩,.slice (some ⟨g,o,none⟩) 2 c] w (WsN w.heap.size [[76,68],zarg x,zarg y] w):=by
 have HX:=LH (fun W=>zarg_any x W)
 have HY:=LH (fun W=>zarg_any y W)
 generalize zarg x=zx at *
 generalize zarg y=zy at *
 go_enter Tryz.func142, Tryz.ntmps142
 go_wp2_with fail
 refine wp_region_still_tail 8 (by kernel_rfl) (by kernel_rfl) ?_
 simp only [List.take_succ_cons,List.take_zero,List.drop_succ_cons,List.drop_zero]
 still_step
 still_step
 still_step
 still_call ((HX.out _).mono fun _ _ h=>⟨h.1,h.2.symm⟩)
 still_step
 still_step
 still_step
 still_call ((HY.out _).mono fun _ _ h=>⟨h.1,h.2.symm⟩)
 refine wpStill_nil ?_
 go_wp2_with ((with_reducible refine (zwa _ _ ⟨_,_,_,rfl⟩).mono ?_);rintro e w' ⟨rfl,rfl⟩)
 go_ret
 exact (wsn_3 (Below.refl _ _) rfl rfl).drew
theorem zload_MVI (x y:List UInt8) (g o c:Nat) (w:World) (c0:w.cell? ⟨g,o,none⟩=some (.string ⟨x.toArray⟩)) (c1:w.cell? ⟨g,o+1,none⟩=some (.string ⟨y.toArray⟩)) (_hc:2<=c) :
  Calls Tryz.prog 142 #[.string ⟨#[77,86,73]⟩,.slice (some ⟨g,o,none⟩) 2 c] w (WsN w.heap.size [[76,68],zarg x,zarg y] w):=by
 have HX:=LH (fun W=>zarg_any x W)
 have HY:=LH (fun W=>zarg_any y W)
 generalize zarg x=zx at *
 generalize zarg y=zy at *
 go_enter Tryz.func142, Tryz.ntmps142
 go_wp2_with fail
 refine wp_region_still_tail 8 (by kernel_rfl) (by kernel_rfl) ?_
 simp only [List.take_succ_cons,List.take_zero,List.drop_succ_cons,List.drop_zero]
 still_step
 still_step
 still_step
 still_call ((HX.out _).mono fun _ _ h=>⟨h.1,h.2.symm⟩)
 still_step
 still_step
 still_step
 still_call ((HY.out _).mono fun _ _ h=>⟨h.1,h.2.symm⟩)
 refine wpStill_nil ?_
 go_wp2_with ((with_reducible refine (zwa _ _ ⟨_,_,_,rfl⟩).mono ?_);rintro e w' ⟨rfl,rfl⟩)
 go_ret
 exact (wsn_3 (Below.refl _ _) rfl rfl).drew
theorem zload_LXI (x:List UInt8) (g o n c:Nat) (w:World) (c0:w.cell? ⟨g,o,none⟩=some (.string ⟨x.toArray⟩)) (hn:0<n) (hl:(zpair x).length<=1000) :
  Calls Tryz.prog 142 #[.string ⟨#[76,88,73]⟩,.slice (some ⟨g,o,none⟩) n c] w (WsN w.heap.size [[76,68],zpair x,[110,110]] w):=by
 have HX:=LH (fun W=>zpair_any x W)
 generalize zpair x=zx at *
 have h1:¬ 9223372036854775807<1+zx.length:=by omega
 have h2:¬ 9223372036854775807<1+zx.length+1:=by omega
 clear hl
 go_enter Tryz.func142, Tryz.ntmps142
 go_wp2_with (first | ((with_reducible refine (HX.out _).mono ?_);rintro e w' ⟨rfl,rfl⟩) | ((with_reducible refine (zwa _ _ ⟨_,_,_,rfl⟩).mono ?_);rintro e w' ⟨rfl,rfl⟩))
 go_ret
 exact wsn_3 (Below.refl _ _) rfl rfl
theorem zload_STAX (x:List UInt8) (g o n c:Nat) (w:World) (c0:w.cell? ⟨g,o,none⟩=some (.string ⟨x.toArray⟩)) (hn:0<n) (hl:(zpair x).length<=1000) :
  Calls Tryz.prog 142 #[.string ⟨#[83,84,65,88]⟩,.slice (some ⟨g,o,none⟩) n c] w (WsN w.heap.size [[76,68],[40]++zpair x++[41],[65]] w):=by
 have HX:=LH (fun W=>zpair_any x W)
 generalize zpair x=zx at *
 have h1:¬ 9223372036854775807<1+zx.length:=by omega
 have h2:¬ 9223372036854775807<1+zx.length+1:=by omega
 clear hl
 go_enter Tryz.func142, Tryz.ntmps142
 go_wp2_with (first | ((with_reducible refine (HX.out _).mono ?_);rintro e w' ⟨rfl,rfl⟩) | ((with_reducible refine (zwa _ _ ⟨_,_,_,rfl⟩).mono ?_);rintro e w' ⟨rfl,rfl⟩))
 go_ret
 exact wsn_3 (Below.refl _ _) rfl rfl
theorem zload_LDAX (x:List UInt8) (g o n c:Nat) (w:World) (c0:w.cell? ⟨g,o,none⟩=some (.string ⟨x.toArray⟩)) (hn:0<n) (hl:(zpair x).length<=1000) :
  Calls Tryz.prog 142 #[.string ⟨#[76,68,65,88]⟩,.slice (some ⟨g,o,none⟩) n c] w (WsN w.heap.size [[76,68],[65],[40]++zpair x++[41]] w):=by
 have HX:=LH (fun W=>zpair_any x W)
 generalize zpair x=zx at *
 have h1:¬ 9223372036854775807<1+zx.length:=by omega
 have h2:¬ 9223372036854775807<1+zx.length+1:=by omega
 clear hl
 go_enter Tryz.func142, Tryz.ntmps142
 go_wp2_with (first | ((with_reducible refine (HX.out _).mono ?_);rintro e w' ⟨rfl,rfl⟩) | ((with_reducible refine (zwa _ _ ⟨_,_,_,rfl⟩).mono ?_);rintro e w' ⟨rfl,rfl⟩))
 go_ret
 exact wsn_3 (Below.refl _ _) rfl rfl
theorem zload_INX (x:List UInt8) (g o n c:Nat) (w:World) (c0:w.cell? ⟨g,o,none⟩=some (.string ⟨x.toArray⟩)) (hn:0<n) (hl:(zpair x).length<=1000) :
  Calls Tryz.prog 142 #[.string ⟨#[73,78,88]⟩,.slice (some ⟨g,o,none⟩) n c] w (WsN w.heap.size [[73,78,67],zpair x] w):=by
 have HX:=LH (fun W=>zpair_any x W)
 generalize zpair x=zx at *
 have h1:¬ 9223372036854775807<1+zx.length:=by omega
 have h2:¬ 9223372036854775807<1+zx.length+1:=by omega
 clear hl
 go_enter Tryz.func142, Tryz.ntmps142
 go_wp2_with (first | ((with_reducible refine (HX.out _).mono ?_);rintro e w' ⟨rfl,rfl⟩) | ((with_reducible refine (zwa _ _ ⟨_,_,_,rfl⟩).mono ?_);rintro e w' ⟨rfl,rfl⟩))
 go_ret
 exact wsn_2 (Below.refl _ _) rfl rfl
theorem zload_DCX (x:List UInt8) (g o n c:Nat) (w:World) (c0:w.cell? ⟨g,o,none⟩=some (.string ⟨x.toArray⟩)) (hn:0<n) (hl:(zpair x).length<=1000) :
  Calls Tryz.prog 142 #[.string ⟨#[68,67,88]⟩,.slice (some ⟨g,o,none⟩) n c] w (WsN w.heap.size [[68,69,67],zpair x] w):=by
 have HX:=LH (fun W=>zpair_any x W)
 generalize zpair x=zx at *
 have h1:¬ 9223372036854775807<1+zx.length:=by omega
 have h2:¬ 9223372036854775807<1+zx.length+1:=by omega
 clear hl
 go_enter Tryz.func142, Tryz.ntmps142
 go_wp2_with (first | ((with_reducible refine (HX.out _).mono ?_);rintro e w' ⟨rfl,rfl⟩) | ((with_reducible refine (zwa _ _ ⟨_,_,_,rfl⟩).mono ?_);rintro e w' ⟨rfl,rfl⟩))
 go_ret
 exact wsn_2 (Below.refl _ _) rfl rfl
theorem zload_DAD (x:List UInt8) (g o n c:Nat) (w:World) (c0:w.cell? ⟨g,o,none⟩=some (.string ⟨x.toArray⟩)) (hn:0<n) (hl:(zpair x).length<=1000) :
  Calls Tryz.prog 142 #[.string ⟨#[68,65,68]⟩,.slice (some ⟨g,o,none⟩) n c] w (WsN w.heap.size [[65,68,68],[72,76],zpair x] w):=by
 have HX:=LH (fun W=>zpair_any x W)
 generalize zpair x=zx at *
 have h1:¬ 9223372036854775807<1+zx.length:=by omega
 have h2:¬ 9223372036854775807<1+zx.length+1:=by omega
 clear hl
 go_enter Tryz.func142, Tryz.ntmps142
 go_wp2_with (first | ((with_reducible refine (HX.out _).mono ?_);rintro e w' ⟨rfl,rfl⟩) | ((with_reducible refine (zwa _ _ ⟨_,_,_,rfl⟩).mono ?_);rintro e w' ⟨rfl,rfl⟩))
 go_ret
 exact wsn_3 (Below.refl _ _) rfl rfl
theorem zload_INR (x:List UInt8) (g o n c:Nat) (w:World) (c0:w.cell? ⟨g,o,none⟩=some (.string ⟨x.toArray⟩)) (hn:0<n) (hl:(zarg x).length<=1000) :
  Calls Tryz.prog 142 #[.string ⟨#[73,78,82]⟩,.slice (some ⟨g,o,none⟩) n c] w (WsN w.heap.size [[73,78,67],zarg x] w):=by
 have HX:=LH (fun W=>zarg_any x W)
 generalize zarg x=zx at *
 have h1:¬ 9223372036854775807<1+zx.length:=by omega
 have h2:¬ 9223372036854775807<1+zx.length+1:=by omega
 clear hl
 go_enter Tryz.func142, Tryz.ntmps142
 go_wp2_with (first | ((with_reducible refine (HX.out _).mono ?_);rintro e w' ⟨rfl,rfl⟩) | ((with_reducible refine (zwa _ _ ⟨_,_,_,rfl⟩).mono ?_);rintro e w' ⟨rfl,rfl⟩))
 go_ret
 exact wsn_2 (Below.refl _ _) rfl rfl
theorem zload_DCR (x:List UInt8) (g o n c:Nat) (w:World) (c0:w.cell? ⟨g,o,none⟩=some (.string ⟨x.toArray⟩)) (hn:0<n) (hl:(zarg x).length<=1000) :
  Calls Tryz.prog 142 #[.string ⟨#[68,67,82]⟩,.slice (some ⟨g,o,none⟩) n c] w (WsN w.heap.size [[68,69,67],zarg x] w):=by
 have HX:=LH (fun W=>zarg_any x W)
 generalize zarg x=zx at *
 have h1:¬ 9223372036854775807<1+zx.length:=by omega
 have h2:¬ 9223372036854775807<1+zx.length+1:=by omega
 clear hl
 go_enter Tryz.func142, Tryz.ntmps142
 go_wp2_with (first | ((with_reducible refine (HX.out _).mono ?_);rintro e w' ⟨rfl,rfl⟩) | ((with_reducible refine (zwa _ _ ⟨_,_,_,rfl⟩).mono ?_);rintro e w' ⟨rfl,rfl⟩))
 go_ret
 exact wsn_2 (Below.refl _ _) rfl rfl
theorem zload_POP (x:List UInt8) (g o n c:Nat) (w:World) (c0:w.cell? ⟨g,o,none⟩=some (.string ⟨x.toArray⟩)) (hn:0<n) (hl:(zpair x).length<=1000) :
  Calls Tryz.prog 142 #[.string ⟨#[80,79,80]⟩,.slice (some ⟨g,o,none⟩) n c] w (WsN w.heap.size [[80,79,80],zpair x] w):=by
 have HX:=LH (fun W=>zpair_any x W)
 generalize zpair x=zx at *
 have h1:¬ 9223372036854775807<1+zx.length:=by omega
 have h2:¬ 9223372036854775807<1+zx.length+1:=by omega
 clear hl
 go_enter Tryz.func142, Tryz.ntmps142
 go_wp2_with (first | ((with_reducible refine (HX.out _).mono ?_);rintro e w' ⟨rfl,rfl⟩) | ((with_reducible refine (zwa _ _ ⟨_,_,_,rfl⟩).mono ?_);rintro e w' ⟨rfl,rfl⟩))
 go_ret
 exact wsn_2 (Below.refl _ _) rfl rfl
theorem zload_PUSH (x:List UInt8) (g o n c:Nat) (w:World) (c0:w.cell? ⟨g,o,none⟩=some (.string ⟨x.toArray⟩)) (hn:0<n) (hl:(zpair x).length<=1000) :
  Calls Tryz.prog 142 #[.string ⟨#[80,85,83,72]⟩,.slice (some ⟨g,o,none⟩) n c] w (WsN w.heap.size [[80,85,83,72],zpair x] w):=by
 have HX:=LH (fun W=>zpair_any x W)
 generalize zpair x=zx at *
 have h1:¬ 9223372036854775807<1+zx.length:=by omega
 have h2:¬ 9223372036854775807<1+zx.length+1:=by omega
 clear hl
 go_enter Tryz.func142, Tryz.ntmps142
 go_wp2_with (first | ((with_reducible refine (HX.out _).mono ?_);rintro e w' ⟨rfl,rfl⟩) | ((with_reducible refine (zwa _ _ ⟨_,_,_,rfl⟩).mono ?_);rintro e w' ⟨rfl,rfl⟩))
 go_ret
 exact wsn_2 (Below.refl _ _) rfl rfl
theorem zload_none (name:List UInt8) (v:Value) (w:World) (e0:(name == [77,79,86])=false) (e1:(name == [77,86,73])=false) (e2:(name == [76,88,73])=false) (e3:(name == [83,84,65,88])=false) (e4:(name == [76,68,65,88])=false) (e5:(name == [73,78,88])=false) (e6:(name == [68,67,88])=false) (e7:(name == [68,65,68])=false) (e8:(name == [73,78,82])=false) (e9:(name == [68,67,82])=false) (e10:(name == [80,79,80])=false) (e11:(name == [80,85,83,72])=false) :
  Calls Tryz.prog 142 #[.string ⟨name.toArray⟩,v] w (WsN w.heap.size [] w):=by
 go_enter Tryz.func142, Tryz.ntmps142
 go_wp2_with fail
 go_ret
 exact wsn_nil (Below.refl _ _) rfl
theorem short80:∀ k:Fin 256,(name80 k.val).length<=4/\∀ x∈args80 k.val,x.length<=3:=by decide +kernel
theorem two80:∀ k:Fin 256,(name80 k.val = [77,79,86]∨name80 k.val = [77,86,73]->(args80 k.val).length=2)/\(name80 k.val∈[[76,88,73],[83,84,65,88],[76,68,65,88],[73,78,88],[68,67,88],[68,65,68],[73,78,82],[68,67,82],[80,79,80],[80,85,83,72]]->0<(args80 k.val).length)/\((k.val / 64=2∨(k.val / 64=3/\k.val % 8=6))->0<(args80 k.val).length):=by decide +kernel
theorem zarg_len (s:List UInt8) (h:s.length<=3):(zarg s).length<=1000:=by
 unfold zarg;repeat' (split;simp)
 omega
theorem zpair_len3 (s:List UInt8) (h:s.length<=3):(zpair s).length<=1000:=zpair_len s (by omega)
theorem rd_str {w:World} {B c g o:Nat} {a:List (List UInt8)} (h:Rd w B (.slice (some ⟨g,o,none⟩) a.length c) a.length (a.map strV)) (k:Nat) (hk:k<a.length):w.cell? ⟨g,o+k,none⟩=some (.string ⟨(pickL a k).toArray⟩):=by
 obtain ⟨A',c',h1,h2,h3⟩:=h
 injection h1 with h1 _ _
 subst h1
 obtain ⟨g',o',h4,h5,h6⟩:=h3 (by omega)
 simp only [Option.some.injEq,Addr.mk.injEq,and_true] at h4
 obtain ⟨rfl,rfl⟩:=h4
 exact h6 k _ (by simp [hk,strV,pickL])
theorem rd_some {w:World} {B c:Nat} {A:Option Addr} {a:List (List UInt8)} (h:Rd w B (.slice A a.length c) a.length (a.map strV)) (h0:0<a.length):∃ g o,A=some ⟨g,o,none⟩/\g<B:=by
 obtain ⟨A',c',h1,h2,h3⟩:=h
 injection h1 with h1 _ _
 subst h1
 obtain ⟨g',o',h4,h5,h6⟩:=h3 (by omega)
 exact ⟨g',o',h4,h5⟩
theorem pick_len (op:Nat) (h:op<256) (k:Nat):(pickL (args80 op) k).length<=3:=by
 unfold pickL
 by_cases hk:k<(args80 op).length
 ·rw [List.getD_eq_getElem?_getD,List.getElem?_eq_getElem hk];exact (short80 ⟨op,h⟩).2 _ (List.getElem_mem hk)
 ·rw [List.getD_eq_getElem?_getD,List.getElem?_eq_none (by omega)];simp
theorem zloads_any (op:Nat) (h:op<256) (v:Value) (w:World) (hr:Rd w w.heap.size v (args80 op).length ((args80 op).map strV)) :
  Calls Tryz.prog 142 #[.string ⟨(name80 op).toArray⟩,v] w (WsN w.heap.size ((zloads (name80 op) (args80 op)).getD []) w):=by
 obtain ⟨t1,t2,_⟩:=two80 ⟨op,h⟩
 have p0:=pick_len op h 0
 simp only at t1 t2
 obtain ⟨A,c,rfl,hc⟩:=hr.form
 generalize args80 op=a at *
 generalize name80 op=name at *
 by_cases hm:name = [77,79,86]∨name = [77,86,73]
 ·have ha:=t1 hm
  obtain ⟨g,o,rfl,hg⟩:=rd_some hr (by omega)
  have c0:=rd_str hr 0 (by omega)
  have c1:=rd_str hr 1 (by omega)
  rw [Nat.add_zero] at c0
  rw [ha] at hc ⊢
  rcases hm with rfl | rfl
  ·exact zload_MOV _ _ g o c w c0 c1 hc
  ·exact zload_MVI _ _ g o c w c0 c1 hc
 by_cases ho:name∈[[76,88,73],[83,84,65,88],[76,68,65,88],[73,78,88],[68,67,88],[68,65,68],[73,78,82],[68,67,82],[80,79,80],[80,85,83,72]]
 ·have ha:=t2 ho
  obtain ⟨g,o,rfl,hg⟩:=rd_some hr ha
  have c0:=rd_str hr 0 ha
  rw [Nat.add_zero] at c0
  simp only [List.mem_cons,List.not_mem_nil,or_false] at ho
  rcases ho with rfl | rfl | rfl | rfl | rfl | rfl | rfl | rfl | rfl | rfl
  ·exact zload_LXI _ g o _ c w c0 ha (zpair_len3 _ p0)
  ·exact zload_STAX _ g o _ c w c0 ha (zpair_len3 _ p0)
  ·exact zload_LDAX _ g o _ c w c0 ha (zpair_len3 _ p0)
  ·exact zload_INX _ g o _ c w c0 ha (zpair_len3 _ p0)
  ·exact zload_DCX _ g o _ c w c0 ha (zpair_len3 _ p0)
  ·exact zload_DAD _ g o _ c w c0 ha (zpair_len3 _ p0)
  ·exact zload_INR _ g o _ c w c0 ha (zarg_len _ p0)
  ·exact zload_DCR _ g o _ c w c0 ha (zarg_len _ p0)
  ·exact zload_POP _ g o _ c w c0 ha (zpair_len3 _ p0)
  ·exact zload_PUSH _ g o _ c w c0 ha (zpair_len3 _ p0)
 ·simp only [List.mem_cons,List.not_mem_nil,or_false,not_or] at ho hm
  obtain ⟨h0,h1⟩:=hm
  obtain ⟨h2,h3,h4,h5,h6,h7,h8,h9,h10,h11⟩:=ho
  have hz:zloads name a=none:=by unfold zloads;simp [h0,h1,h2,h3,h4,h5,h6,h7,h8,h9,h10,h11]
  rw [hz]
  exact zload_none name _ w (str_ne h0) (str_ne h1) (str_ne h2) (str_ne h3) (str_ne h4) (str_ne h5) (str_ne h6) (str_ne h7) (str_ne h8) (str_ne h9) (str_ne h10) (str_ne h11)
def condP:List UInt8:=[78,90,32,90,32,78,67,32,67,32,80,79,32,80,69,32,80,32,77]
theorem condP_ok:Lib.fields condP=condW80/\∀ c∈condP,c.toNat<128:=by decide +kernel
theorem condF_any (w:World) (hg:GWL w):Calls Tryz.prog 130 #[.string ⟨condP.toArray⟩] w fun e w'=>∃ g,e=.returned (.slice (some ⟨g,0,none⟩) 8 8)/\Below w.heap.size w w'/\∀ j,j<8->w'.cell? ⟨g,j,none⟩=some (.string ⟨(pickL condW80 j).toArray⟩):=by
 refine (Tryz.strings_Fields ⟨condP.toArray⟩ w (by simp [ByteArray.size,condP]) (fun j b hb=>condP_ok.2 b (List.mem_of_getElem? hb)) hg.1).mono ?_
 rintro e w1 ⟨rfl,rfl⟩
 simp only [condP_ok.1]
 refine ⟨_,rfl,bra _ _,fun j hj=>?_⟩
 rw [coh (heap_alloc_new w _)]
 match j,hj with
 | 0,_=>rfl
 | 1,_=>rfl
 | 2,_=>rfl
 | 3,_=>rfl
 | 4,_=>rfl
 | 5,_=>rfl
 | 6,_=>rfl
 | 7,_=>rfl
theorem cond_head:∀ k:Fin 256,0<=condI80 k.val->∃ r,name80 k.val=(name80 k.val).headD 0 :: r:=by
 have h:∀ k:Fin 256,0<=condI80 k.val->(name80 k.val).length≠0:=by decide +kernel
 intro k hk
 have:=h k hk
 cases hn:name80 k.val with
 | nil=>rw [hn] at this;exact absurd rfl this
 | cons x r=>exact ⟨r,rfl⟩
theorem conv_new2 (W:World) (x y:Int) (a b:UInt8) (h:x=(a.toNat:Int)) (h':y=(b.toNat:Int)) :
  (convert 78 9 (.slice (some ⟨W.heap.size,0,none⟩) 2 2)).run Tryz.prog (W.alloc (.cells #[.int .u8 x,.int .u8 y] 5))=.ok (.string ⟨#[a,b]⟩) (W.alloc (.cells #[.int .u8 x,.int .u8 y] 5)):=by
 subst h h'
 exact conv_back _ 78 9 5 W.heap.size 0 2 2 [a,b] Tryz.underlying78 Tryz.underlying5 Tryz.underlying9 rfl (fun j hj=>by
  match j,hj with
  | 0,_=>rw [Nat.zero_add,coh (heap_alloc_new W _)];rfl
  | 1,_=>rw [Nat.zero_add,coh (heap_alloc_new W _)];rfl)
theorem rst_list (op:Nat) (_h:op<256) (h1:op / 64=3) (h2:op % 8=7):op=199∨op=207∨op=215∨op=223∨op=231∨op=239∨op=247∨op=255:=by omega
theorem zform_any (op:Nat) (h:op<256) (w:World) (hg:GWL w):Calls Tryz.prog 100 #[.int .u8 op] w (WsN w.heap.size (zform op) w):=by
 have HN:=LH (fun W=>name80_any op h W)
 have HA:=LH (fun W=>args80_any op h W)
 have HC:=LH (fun W=>condI80_any op h W)
 obtain ⟨_,_,ta⟩:=two80 ⟨op,h⟩
 simp only at ta
 unfold zform
 by_cases hnm:name80 op = []
 ·rw [if_pos hnm]
  rw [hnm] at HN
  clear hnm ta
  go_enter Tryz.func100, Tryz.ntmps100
  go_wp2_with fail
  refine (HN.out _).mono ?_
  rintro e w1 ⟨rfl,hb1⟩
  go_wp2_with fail
  refine (HA.out _).mono ?_
  rintro e w2 ⟨v,rfl,hr,hb2⟩
  obtain ⟨A,c,rfl,hcc⟩:=hr.form
  have B2:=LH (bthen hb1 hb2)
  have HR:=LH hr
  clear hr hb1 hb2 HN HA
  go_wp2_with fail
  refine (HC.out _).mono ?_
  rintro e w' ⟨rfl,rfl⟩
  clear HC
  go_wp2_with fail
  go_ret
  exact wsn_nil B2.out rfl
 rw [if_neg hnm]
 have n1:=str_ne hnm
 have n2:(name80 op).isEmpty=false:=by simpa using hnm
 by_cases hco:0<=condI80 op
 ·rw [if_pos hco]
  obtain ⟨r,hr0⟩:=cond_head ⟨op,h⟩ hco
  simp only at hr0
  have hlo:=condI80_lo op
  have hm:cond80 (condI80 op).toNat=pickL condW80 (condI80 op).toNat:=by unfold cond80;rw [Nat.mod_eq_of_lt (by omega)]
  rw [hm]
  generalize (name80 op).headD 0=x at *
  rw [hr0] at HN n1 n2
  generalize condI80 op=ci at *
  obtain ⟨j,rfl⟩:=Int.eq_ofNat_of_zero_le hco
  rw [Int.toNat_natCast]
  have hj:j<8:=by omega
  clear hnm ta hr0 hco hm hlo
  have HF:=LH (fun W hW=>condF_any W hW)
  by_cases x1:x=82
  ·subst x1
   rw [if_pos rfl]
   go_enter Tryz.func100, Tryz.ntmps100
   go_wp2_with fail
   refine (HN.out _).mono ?_
   rintro e w1 ⟨rfl,hb1⟩
   go_wp2_with fail
   refine (HA.out _).mono ?_
   rintro e w2 ⟨v,rfl,hr,hb2⟩
   obtain ⟨A,c,rfl,hcc⟩:=hr.form
   have B2:=LH (bthen hb1 hb2)
   have HR:=LH hr
   clear hr hb1 hb2 HN HA
   go_wp2_with fail
   refine (HC.out _).mono ?_
   rintro e w' ⟨rfl,rfl⟩
   clear HC
   go_wp2_with fail
   refine (HF.out _ (hg.below B2.out)).mono ?_
   rintro e w3 ⟨g,rfl,hb3,hcc⟩
   have B3:=LH (bthen B2.out hb3)
   have c1:=hcc j hj
   generalize pickL condW80 j=z at *
   clear hcc hb3 HF
   go_wp2_with ((with_reducible refine (zwa _ _ ⟨_,_,_,rfl⟩).mono ?_);rintro e w' ⟨rfl,rfl⟩)
   go_ret
   exact wsn_2 B3.out rfl rfl
  rw [if_neg x1]
  have y1:((x.toNat:Int) == 82)=false:=ne_byte (n:=82) (by decide) x1
  by_cases x2:x=74
  ·subst x2
   rw [if_pos rfl]
   go_enter Tryz.func100, Tryz.ntmps100
   go_wp2_with fail
   refine (HN.out _).mono ?_
   rintro e w1 ⟨rfl,hb1⟩
   go_wp2_with fail
   refine (HA.out _).mono ?_
   rintro e w2 ⟨v,rfl,hr,hb2⟩
   obtain ⟨A,c,rfl,hcc⟩:=hr.form
   have B2:=LH (bthen hb1 hb2)
   have HR:=LH hr
   clear hr hb1 hb2 HN HA
   go_wp2_with fail
   refine (HC.out _).mono ?_
   rintro e w' ⟨rfl,rfl⟩
   clear HC
   go_wp2_with fail
   refine (HF.out _ (hg.below B2.out)).mono ?_
   rintro e w3 ⟨g,rfl,hb3,hcc⟩
   have B3:=LH (bthen B2.out hb3)
   have c1:=hcc j hj
   generalize pickL condW80 j=z at *
   clear hcc hb3 HF
   go_wp2_with ((with_reducible refine (zwa _ _ ⟨_,_,_,rfl⟩).mono ?_);rintro e w' ⟨rfl,rfl⟩)
   go_ret
   exact wsn_3 B3.out rfl rfl
  rw [if_neg x2]
  have y2:((x.toNat:Int) == 74)=false:=ne_byte (n:=74) (by decide) x2
  clear x1 x2
  go_enter Tryz.func100, Tryz.ntmps100
  go_wp2_with fail
  refine (HN.out _).mono ?_
  rintro e w1 ⟨rfl,hb1⟩
  go_wp2_with fail
  refine (HA.out _).mono ?_
  rintro e w2 ⟨v,rfl,hr,hb2⟩
  obtain ⟨A,c,rfl,hcc⟩:=hr.form
  have B2:=LH (bthen hb1 hb2)
  have HR:=LH hr
  clear hr hb1 hb2 HN HA
  go_wp2_with fail
  refine (HC.out _).mono ?_
  rintro e w' ⟨rfl,rfl⟩
  clear HC
  go_wp2_with fail
  refine (HF.out _ (hg.below B2.out)).mono ?_
  rintro e w3 ⟨g,rfl,hb3,hcc⟩
  have B3:=LH (bthen B2.out hb3)
  have c1:=hcc j hj
  generalize pickL condW80 j=z at *
  clear hcc hb3 HF
  go_wp2_with ((with_reducible refine (zwa _ _ ⟨_,_,_,rfl⟩).mono ?_);rintro e w' ⟨rfl,rfl⟩)
  go_ret
  exact wsn_3 B3.out rfl rfl
 rw [if_neg hco]
 have m1:=u8_andC7 (x:=(op:Int)) (by omega) (by omega)
 have m2:=u8_and38 (x:=(op:Int)) (by omega) (by omega)
 have hci:=condI80_lo op
 by_cases hrst:op / 64=3/\op % 8=7
 ·rw [if_pos hrst]
  rcases rst_list op h hrst.1 hrst.2 with rfl | rfl | rfl | rfl | rfl | rfl | rfl | rfl
  ·have HT:=LH (fun W=>Tryz.strings_TrimPrefix ⟨#[48,48]⟩ ⟨#[48]⟩ W)
   rw [show Lib.trimPrefix (⟨#[48,48]⟩:ByteArray).data.toList (⟨#[48]⟩:ByteArray).data.toList = [48] from rfl] at HT
   have hcv:=fun W=>conv_new2 W 48 48 48 48 rfl rfl
   show Calls _ _ _ _ (WsN w.heap.size [[82,83,84],[48]] w)
   generalize name80 199=nm at *
   generalize condI80 199=ci at *
   generalize args80 199=ar at *
   clear ta hnm hrst m1 m2
   have m3:bits .and .u8 199 199=199:=by decide
   have m4:bits .and .u8 199 56=0:=by decide
   go_enter Tryz.func100, Tryz.ntmps100
   go_wp2_with fail
   refine (HN.out _).mono ?_
   rintro e w1 ⟨rfl,hb1⟩
   go_wp2_with fail
   refine (HA.out _).mono ?_
   rintro e w2 ⟨v,rfl,hr,hb2⟩
   obtain ⟨A,c,rfl,hcc⟩:=hr.form
   have B2:=LH (bthen hb1 hb2)
   have HR:=LH hr
   clear hr hb1 hb2 HN HA
   go_wp2_with fail
   refine (HC.out _).mono ?_
   rintro e w' ⟨rfl,rfl⟩
   clear HC
   go_wp2_with (first | ((with_reducible refine (HT.out _).mono ?_);rintro e w' ⟨rfl,rfl⟩) | ((with_reducible refine (zwa _ _ ⟨_,_,_,rfl⟩).mono ?_);rintro e w' ⟨rfl,rfl⟩))
   go_ret
   exact wsn_2 (B2.out.alloc B2.out.size _) (by simp) rfl
  ·have HT:=LH (fun W=>Tryz.strings_TrimPrefix ⟨#[48,56]⟩ ⟨#[48]⟩ W)
   rw [show Lib.trimPrefix (⟨#[48,56]⟩:ByteArray).data.toList (⟨#[48]⟩:ByteArray).data.toList = [56] from rfl] at HT
   have hcv:=fun W=>conv_new2 W 48 56 48 56 rfl rfl
   show Calls _ _ _ _ (WsN w.heap.size [[82,83,84],[56]] w)
   generalize name80 207=nm at *
   generalize condI80 207=ci at *
   generalize args80 207=ar at *
   clear ta hnm hrst m1 m2
   have m3:bits .and .u8 207 199=199:=by decide
   have m4:bits .and .u8 207 56=8:=by decide
   go_enter Tryz.func100, Tryz.ntmps100
   go_wp2_with fail
   refine (HN.out _).mono ?_
   rintro e w1 ⟨rfl,hb1⟩
   go_wp2_with fail
   refine (HA.out _).mono ?_
   rintro e w2 ⟨v,rfl,hr,hb2⟩
   obtain ⟨A,c,rfl,hcc⟩:=hr.form
   have B2:=LH (bthen hb1 hb2)
   have HR:=LH hr
   clear hr hb1 hb2 HN HA
   go_wp2_with fail
   refine (HC.out _).mono ?_
   rintro e w' ⟨rfl,rfl⟩
   clear HC
   go_wp2_with (first | ((with_reducible refine (HT.out _).mono ?_);rintro e w' ⟨rfl,rfl⟩) | ((with_reducible refine (zwa _ _ ⟨_,_,_,rfl⟩).mono ?_);rintro e w' ⟨rfl,rfl⟩))
   go_ret
   exact wsn_2 (B2.out.alloc B2.out.size _) (by simp) rfl
  ·have HT:=LH (fun W=>Tryz.strings_TrimPrefix ⟨#[49,54]⟩ ⟨#[48]⟩ W)
   rw [show Lib.trimPrefix (⟨#[49,54]⟩:ByteArray).data.toList (⟨#[48]⟩:ByteArray).data.toList = [49,54] from rfl] at HT
   have hcv:=fun W=>conv_new2 W 49 54 49 54 rfl rfl
   show Calls _ _ _ _ (WsN w.heap.size [[82,83,84],[49,54]] w)
   generalize name80 215=nm at *
   generalize condI80 215=ci at *
   generalize args80 215=ar at *
   clear ta hnm hrst m1 m2
   have m3:bits .and .u8 215 199=199:=by decide
   have m4:bits .and .u8 215 56=16:=by decide
   go_enter Tryz.func100, Tryz.ntmps100
   go_wp2_with fail
   refine (HN.out _).mono ?_
   rintro e w1 ⟨rfl,hb1⟩
   go_wp2_with fail
   refine (HA.out _).mono ?_
   rintro e w2 ⟨v,rfl,hr,hb2⟩
   obtain ⟨A,c,rfl,hcc⟩:=hr.form
   have B2:=LH (bthen hb1 hb2)
   have HR:=LH hr
   clear hr hb1 hb2 HN HA
   go_wp2_with fail
   refine (HC.out _).mono ?_
   rintro e w' ⟨rfl,rfl⟩
   clear HC
   go_wp2_with (first | ((with_reducible refine (HT.out _).mono ?_);rintro e w' ⟨rfl,rfl⟩) | ((with_reducible refine (zwa _ _ ⟨_,_,_,rfl⟩).mono ?_);rintro e w' ⟨rfl,rfl⟩))
   go_ret
   exact wsn_2 (B2.out.alloc B2.out.size _) (by simp) rfl
  ·have HT:=LH (fun W=>Tryz.strings_TrimPrefix ⟨#[50,52]⟩ ⟨#[48]⟩ W)
   rw [show Lib.trimPrefix (⟨#[50,52]⟩:ByteArray).data.toList (⟨#[48]⟩:ByteArray).data.toList = [50,52] from rfl] at HT
   have hcv:=fun W=>conv_new2 W 50 52 50 52 rfl rfl
   show Calls _ _ _ _ (WsN w.heap.size [[82,83,84],[50,52]] w)
   generalize name80 223=nm at *
   generalize condI80 223=ci at *
   generalize args80 223=ar at *
   clear ta hnm hrst m1 m2
   have m3:bits .and .u8 223 199=199:=by decide
   have m4:bits .and .u8 223 56=24:=by decide
   go_enter Tryz.func100, Tryz.ntmps100
   go_wp2_with fail
   refine (HN.out _).mono ?_
   rintro e w1 ⟨rfl,hb1⟩
   go_wp2_with fail
   refine (HA.out _).mono ?_
   rintro e w2 ⟨v,rfl,hr,hb2⟩
   obtain ⟨A,c,rfl,hcc⟩:=hr.form
   have B2:=LH (bthen hb1 hb2)
   have HR:=LH hr
   clear hr hb1 hb2 HN HA
   go_wp2_with fail
   refine (HC.out _).mono ?_
   rintro e w' ⟨rfl,rfl⟩
   clear HC
   go_wp2_with (first | ((with_reducible refine (HT.out _).mono ?_);rintro e w' ⟨rfl,rfl⟩) | ((with_reducible refine (zwa _ _ ⟨_,_,_,rfl⟩).mono ?_);rintro e w' ⟨rfl,rfl⟩))
   go_ret
   exact wsn_2 (B2.out.alloc B2.out.size _) (by simp) rfl
  ·have HT:=LH (fun W=>Tryz.strings_TrimPrefix ⟨#[51,50]⟩ ⟨#[48]⟩ W)
   rw [show Lib.trimPrefix (⟨#[51,50]⟩:ByteArray).data.toList (⟨#[48]⟩:ByteArray).data.toList = [51,50] from rfl] at HT
   have hcv:=fun W=>conv_new2 W 51 50 51 50 rfl rfl
   show Calls _ _ _ _ (WsN w.heap.size [[82,83,84],[51,50]] w)
   generalize name80 231=nm at *
   generalize condI80 231=ci at *
   generalize args80 231=ar at *
   clear ta hnm hrst m1 m2
   have m3:bits .and .u8 231 199=199:=by decide
   have m4:bits .and .u8 231 56=32:=by decide
   go_enter Tryz.func100, Tryz.ntmps100
   go_wp2_with fail
   refine (HN.out _).mono ?_
   rintro e w1 ⟨rfl,hb1⟩
   go_wp2_with fail
   refine (HA.out _).mono ?_
   rintro e w2 ⟨v,rfl,hr,hb2⟩
   obtain ⟨A,c,rfl,hcc⟩:=hr.form
   have B2:=LH (bthen hb1 hb2)
   have HR:=LH hr
   clear hr hb1 hb2 HN HA
   go_wp2_with fail
   refine (HC.out _).mono ?_
   rintro e w' ⟨rfl,rfl⟩
   clear HC
   go_wp2_with (first | ((with_reducible refine (HT.out _).mono ?_);rintro e w' ⟨rfl,rfl⟩) | ((with_reducible refine (zwa _ _ ⟨_,_,_,rfl⟩).mono ?_);rintro e w' ⟨rfl,rfl⟩))
   go_ret
   exact wsn_2 (B2.out.alloc B2.out.size _) (by simp) rfl
  ·have HT:=LH (fun W=>Tryz.strings_TrimPrefix ⟨#[52,48]⟩ ⟨#[48]⟩ W)
   rw [show Lib.trimPrefix (⟨#[52,48]⟩:ByteArray).data.toList (⟨#[48]⟩:ByteArray).data.toList = [52,48] from rfl] at HT
   have hcv:=fun W=>conv_new2 W 52 48 52 48 rfl rfl
   show Calls _ _ _ _ (WsN w.heap.size [[82,83,84],[52,48]] w)
   generalize name80 239=nm at *
   generalize condI80 239=ci at *
   generalize args80 239=ar at *
   clear ta hnm hrst m1 m2
   have m3:bits .and .u8 239 199=199:=by decide
   have m4:bits .and .u8 239 56=40:=by decide
   go_enter Tryz.func100, Tryz.ntmps100
   go_wp2_with fail
   refine (HN.out _).mono ?_
   rintro e w1 ⟨rfl,hb1⟩
   go_wp2_with fail
   refine (HA.out _).mono ?_
   rintro e w2 ⟨v,rfl,hr,hb2⟩
   obtain ⟨A,c,rfl,hcc⟩:=hr.form
   have B2:=LH (bthen hb1 hb2)
   have HR:=LH hr
   clear hr hb1 hb2 HN HA
   go_wp2_with fail
   refine (HC.out _).mono ?_
   rintro e w' ⟨rfl,rfl⟩
   clear HC
   go_wp2_with (first | ((with_reducible refine (HT.out _).mono ?_);rintro e w' ⟨rfl,rfl⟩) | ((with_reducible refine (zwa _ _ ⟨_,_,_,rfl⟩).mono ?_);rintro e w' ⟨rfl,rfl⟩))
   go_ret
   exact wsn_2 (B2.out.alloc B2.out.size _) (by simp) rfl
  ·have HT:=LH (fun W=>Tryz.strings_TrimPrefix ⟨#[52,56]⟩ ⟨#[48]⟩ W)
   rw [show Lib.trimPrefix (⟨#[52,56]⟩:ByteArray).data.toList (⟨#[48]⟩:ByteArray).data.toList = [52,56] from rfl] at HT
   have hcv:=fun W=>conv_new2 W 52 56 52 56 rfl rfl
   show Calls _ _ _ _ (WsN w.heap.size [[82,83,84],[52,56]] w)
   generalize name80 247=nm at *
   generalize condI80 247=ci at *
   generalize args80 247=ar at *
   clear ta hnm hrst m1 m2
   have m3:bits .and .u8 247 199=199:=by decide
   have m4:bits .and .u8 247 56=48:=by decide
   go_enter Tryz.func100, Tryz.ntmps100
   go_wp2_with fail
   refine (HN.out _).mono ?_
   rintro e w1 ⟨rfl,hb1⟩
   go_wp2_with fail
   refine (HA.out _).mono ?_
   rintro e w2 ⟨v,rfl,hr,hb2⟩
   obtain ⟨A,c,rfl,hcc⟩:=hr.form
   have B2:=LH (bthen hb1 hb2)
   have HR:=LH hr
   clear hr hb1 hb2 HN HA
   go_wp2_with fail
   refine (HC.out _).mono ?_
   rintro e w' ⟨rfl,rfl⟩
   clear HC
   go_wp2_with (first | ((with_reducible refine (HT.out _).mono ?_);rintro e w' ⟨rfl,rfl⟩) | ((with_reducible refine (zwa _ _ ⟨_,_,_,rfl⟩).mono ?_);rintro e w' ⟨rfl,rfl⟩))
   go_ret
   exact wsn_2 (B2.out.alloc B2.out.size _) (by simp) rfl
  ·have HT:=LH (fun W=>Tryz.strings_TrimPrefix ⟨#[53,54]⟩ ⟨#[48]⟩ W)
   rw [show Lib.trimPrefix (⟨#[53,54]⟩:ByteArray).data.toList (⟨#[48]⟩:ByteArray).data.toList = [53,54] from rfl] at HT
   have hcv:=fun W=>conv_new2 W 53 54 53 54 rfl rfl
   show Calls _ _ _ _ (WsN w.heap.size [[82,83,84],[53,54]] w)
   generalize name80 255=nm at *
   generalize condI80 255=ci at *
   generalize args80 255=ar at *
   clear ta hnm hrst m1 m2
   have m3:bits .and .u8 255 199=199:=by decide
   have m4:bits .and .u8 255 56=56:=by decide
   go_enter Tryz.func100, Tryz.ntmps100
   go_wp2_with fail
   refine (HN.out _).mono ?_
   rintro e w1 ⟨rfl,hb1⟩
   go_wp2_with fail
   refine (HA.out _).mono ?_
   rintro e w2 ⟨v,rfl,hr,hb2⟩
   obtain ⟨A,c,rfl,hcc⟩:=hr.form
   have B2:=LH (bthen hb1 hb2)
   have HR:=LH hr
   clear hr hb1 hb2 HN HA
   go_wp2_with fail
   refine (HC.out _).mono ?_
   rintro e w' ⟨rfl,rfl⟩
   clear HC
   go_wp2_with (first | ((with_reducible refine (HT.out _).mono ?_);rintro e w' ⟨rfl,rfl⟩) | ((with_reducible refine (zwa _ _ ⟨_,_,_,rfl⟩).mono ?_);rintro e w' ⟨rfl,rfl⟩))
   go_ret
   exact wsn_2 (B2.out.alloc B2.out.size _) (by simp) rfl
 rw [if_neg hrst]
 have q1:((op:Int) / 64 * 64+(op:Int) % 8 == 199)=false:=by rw [beq_eq_false_iff_ne];omega
 clear hrst
 by_cases hsum:op / 64=2∨(op / 64=3/\op % 8=6)
 ·rw [if_pos hsum]
  have ha:=ta hsum
  have HS:=LH (fun W=>zsums_any (name80 op) (zarg (pickL (args80 op) 0)) W)
  have HZ:=LH (fun W=>zarg_any (pickL (args80 op) 0) W)
  generalize zsums (name80 op) (zarg (pickL (args80 op) 0))=res at *
  generalize zarg (pickL (args80 op) 0)=zx at *
  generalize args80 op=ar at *
  generalize name80 op=nm at *
  generalize condI80 op=ci at *
  clear ta hnm
  by_cases h2:op / 64=2
  ·have q2:((op:Int) / 64 == 2)=true:=by rw [beq_iff_eq];omega
   clear h2 hsum
   go_enter Tryz.func100, Tryz.ntmps100
   go_wp2_with fail
   refine (HN.out _).mono ?_
   rintro e w1 ⟨rfl,hb1⟩
   go_wp2_with fail
   refine (HA.out _).mono ?_
   rintro e w2 ⟨v,rfl,hr,hb2⟩
   obtain ⟨A,c,rfl,hcc⟩:=hr.form
   have B2:=LH (bthen hb1 hb2)
   have HR:=LH hr
   clear hr hb1 hb2 HN HA
   go_wp2_with fail
   refine (HC.out _).mono ?_
   rintro e w' ⟨rfl,rfl⟩
   clear HC
   obtain ⟨g,o,rfl,hgg⟩:=rd_some HR.out ha
   have c0:=rd_str HR.out 0 ha
   rw [Nat.add_zero] at c0
   go_wp2_with fail
   refine (HZ.out _).mono ?_
   rintro e w' ⟨rfl,rfl⟩
   go_wp2_with fail
   refine (HS.out _).mono ?_
   rintro e w3 ⟨v,rfl,h1,h2,hb⟩
   go_wp2_with fail
   go_ret
   exact ⟨v,rfl,h1,fun h0=>(h2 h0).imp fun g hg=>⟨hg.1,Nat.le_trans B2.out.size hg.2.1,hg.2.2⟩,bthen B2.out hb⟩
  ·have q2:((op:Int) / 64 == 2)=false:=by rw [beq_eq_false_iff_ne];omega
   have q3:((op:Int) / 64 * 64+(op:Int) % 8 == 198)=true:=by rw [beq_iff_eq];omega
   clear h2 hsum
   go_enter Tryz.func100, Tryz.ntmps100
   go_wp2_with fail
   refine (HN.out _).mono ?_
   rintro e w1 ⟨rfl,hb1⟩
   go_wp2_with fail
   refine (HA.out _).mono ?_
   rintro e w2 ⟨v,rfl,hr,hb2⟩
   obtain ⟨A,c,rfl,hcc⟩:=hr.form
   have B2:=LH (bthen hb1 hb2)
   have HR:=LH hr
   clear hr hb1 hb2 HN HA
   go_wp2_with fail
   refine (HC.out _).mono ?_
   rintro e w' ⟨rfl,rfl⟩
   clear HC
   obtain ⟨g,o,rfl,hgg⟩:=rd_some HR.out ha
   have c0:=rd_str HR.out 0 ha
   rw [Nat.add_zero] at c0
   go_wp2_with fail
   refine (HZ.out _).mono ?_
   rintro e w' ⟨rfl,rfl⟩
   go_wp2_with fail
   refine (HS.out _).mono ?_
   rintro e w3 ⟨v,rfl,h1,h2,hb⟩
   go_wp2_with fail
   go_ret
   exact ⟨v,rfl,h1,fun h0=>(h2 h0).imp fun g hg=>⟨hg.1,Nat.le_trans B2.out.size hg.2.1,hg.2.2⟩,bthen B2.out hb⟩
 rw [if_neg hsum]
 have q2:((op:Int) / 64 == 2)=false:=by rw [beq_eq_false_iff_ne];omega
 have q3:((op:Int) / 64 * 64+(op:Int) % 8 == 198)=false:=by rw [beq_eq_false_iff_ne];omega
 have HL:=LH (fun v W hr=>zloads_any op h v W hr)
 have HP:=LH (fun W=>zplain_any (name80 op) W)
 have hne:∀ l,zloads (name80 op) (args80 op)=some l->l≠[]:=by
  intro l hl h0
  subst h0
  unfold zloads at hl
  repeat' (split at hl)
  all_goals simp at hl
 generalize zplain (name80 op)=res at *
 cases hz:zloads (name80 op) (args80 op) with
 | none=>
  rw [hz] at HL
  simp only [Option.getD_none] at HL
  simp only []
  generalize args80 op=ar at *
  generalize name80 op=nm at *
  generalize condI80 op=ci at *
  clear ta hnm hsum hz hne
  go_enter Tryz.func100, Tryz.ntmps100
  go_wp2_with fail
  refine (HN.out _).mono ?_
  rintro e w1 ⟨rfl,hb1⟩
  go_wp2_with fail
  refine (HA.out _).mono ?_
  rintro e w2 ⟨v,rfl,hr,hb2⟩
  obtain ⟨A,c,rfl,hcc⟩:=hr.form
  have B2:=LH (bthen hb1 hb2)
  have HR:=LH hr
  clear hr hb1 hb2 HN HA
  go_wp2_with fail
  refine (HC.out _).mono ?_
  rintro e w' ⟨rfl,rfl⟩
  clear HC
  go_wp2_with fail
  refine (HL.out _ _ HR.out).mono ?_
  rintro e w3 ⟨v,rfl,h1,h2,hb⟩
  obtain rfl:=h1 rfl
  have B3:=LH (bthen B2.out hb)
  clear h1 h2 hb HL
  go_wp2_with fail
  refine (HP.out _).mono ?_
  rintro e w3 ⟨v,rfl,h1,h2,hb⟩
  go_wp2_with fail
  go_ret
  exact ⟨v,rfl,h1,fun h0=>(h2 h0).imp fun g hg=>⟨hg.1,Nat.le_trans B3.out.size hg.2.1,hg.2.2⟩,bthen B3.out hb⟩
 | some l=>
  rw [hz] at HL
  have hl:=hne l hz
  simp only [Option.getD_some] at HL
  simp only []
  generalize args80 op=ar at *
  generalize name80 op=nm at *
  generalize condI80 op=ci at *
  clear ta hnm hsum hz hne
  go_enter Tryz.func100, Tryz.ntmps100
  go_wp2_with fail
  refine (HN.out _).mono ?_
  rintro e w1 ⟨rfl,hb1⟩
  go_wp2_with fail
  refine (HA.out _).mono ?_
  rintro e w2 ⟨v,rfl,hr,hb2⟩
  obtain ⟨A,c,rfl,hcc⟩:=hr.form
  have B2:=LH (bthen hb1 hb2)
  have HR:=LH hr
  clear hr hb1 hb2 HN HA
  go_wp2_with fail
  refine (HC.out _).mono ?_
  rintro e w' ⟨rfl,rfl⟩
  clear HC
  go_wp2_with fail
  refine (HL.out _ _ HR.out).mono ?_
  rintro e w3 ⟨v,rfl,h1,h2,hb⟩
  obtain ⟨g,rfl,hg1,hg2⟩:=h2 hl
  have B3:=LH (bthen B2.out hb)
  have WA:=LH hg2
  have G1:=LH (Nat.le_trans B2.out.size hg1)
  have G2:=LH hl
  clear h1 h2 hb HL hg2 hg1 hl
  go_wp2_with fail
  go_ret
  exact ⟨_,rfl,fun h0=>absurd h0 G2.out,fun _=>⟨g,rfl,G1.out,WA.out⟩,B3.out⟩
theorem zform_len (op:Nat) (h:op<256):(zform op).length<=3:=by
 have hf:∀ k:Fin 256,(zform k.val).length<=3:=by decide +kernel
 exact hf ⟨op,h⟩
theorem zname_any (op:Nat) (h:op<256) (w:World) (hg:GWL w):Calls Tryz.prog 50 #[.int .u8 op] w fun e w'=>e=.returned (.string ⟨(zname op).toArray⟩)/\Below w.heap.size w w':=by
 have HW:=LH ((zform_any op h w hg).mono fun _ _ h=>wsn_cases h)
 have hl:=zform_len op h
 unfold zname
 generalize zform op=ws at *
 match ws,hl,HW with
 | [],_,HW=>
  go_enter Tryz.func50, Tryz.ntmps50
  go_wp2_with fail
  refine (HW.out).mono ?_
  rintro e w1 ⟨hb,⟨_,rfl⟩ | ⟨h,_⟩⟩
  ·go_wp2_with fail
   go_ret
   exact ⟨rfl,hb⟩
  ·exact absurd rfl h
 | x :: r,hl,HW=>
  have l1:r.length<=2:=by simpa using hl
  simp only [List.headD_cons]
  clear hl
  go_enter Tryz.func50, Tryz.ntmps50
  go_wp2_with fail
  refine (HW.out).mono ?_
  rintro e w1 ⟨hb,⟨h,_⟩ | ⟨_,g,rfl,hg,hg',hc⟩⟩
  ·exact absurd h (by simp)
  have c1:=hc 0 (by simp)
  simp only [List.getElem_cons_zero] at c1
  simp only [List.length_cons]
  clear hc HW
  generalize r.length=m at *
  go_wp2_with fail
  go_ret
  exact ⟨rfl,hb⟩
theorem zargs_any (op:Nat) (h:op<256) (w:World) (hg:GWL w):Calls Tryz.prog 48 #[.int .u8 op] w (ArgsP w (zargs op)):=by
 have HW:=LH ((zform_any op h w hg).mono fun _ _ h=>wsn_cases h)
 have hl:=zform_len op h
 unfold zargs
 generalize zform op=ws at *
 match ws,hl,HW with
 | [],_,HW=>
  go_enter Tryz.func48, Tryz.ntmps48
  go_wp2_with fail
  refine (HW.out).mono ?_
  rintro e w1 ⟨hb,⟨_,rfl⟩ | ⟨h,_⟩⟩
  ·go_wp2_with fail
   go_ret
   exact ⟨_,rfl,⟨none,0,rfl,Nat.le_refl _,fun h=>absurd h (by simp)⟩,hb⟩
  ·exact absurd rfl h
 | [x],hl,HW=>
  go_enter Tryz.func48, Tryz.ntmps48
  go_wp2_with fail
  refine (HW.out).mono ?_
  rintro e w1 ⟨hb,⟨h,_⟩ | ⟨_,g,rfl,hg,hg',hc⟩⟩
  ·exact absurd h (by simp)
  have HX:=LH (rd_tail hg' hc)
  clear hc HW
  go_wp2_with fail
  go_ret
  exact ⟨_,rfl,HX.out _ _ (by simp) (by simp),hb⟩
 | [x,y],hl,HW=>
  go_enter Tryz.func48, Tryz.ntmps48
  go_wp2_with fail
  refine (HW.out).mono ?_
  rintro e w1 ⟨hb,⟨h,_⟩ | ⟨_,g,rfl,hg,hg',hc⟩⟩
  ·exact absurd h (by simp)
  have HX:=LH (rd_tail hg' hc)
  clear hc HW
  go_wp2_with fail
  go_ret
  exact ⟨_,rfl,HX.out _ _ (by simp) (by simp),hb⟩
 | [x,y,z],hl,HW=>
  go_enter Tryz.func48, Tryz.ntmps48
  go_wp2_with fail
  refine (HW.out).mono ?_
  rintro e w1 ⟨hb,⟨h,_⟩ | ⟨_,g,rfl,hg,hg',hc⟩⟩
  ·exact absurd h (by simp)
  have HX:=LH (rd_tail hg' hc)
  clear hc HW
  go_wp2_with fail
  go_ret
  exact ⟨_,rfl,HX.out _ _ (by simp) (by simp),hb⟩
 | x :: y :: z :: u :: r,hl,_=>simp at hl
end Go.Proofs.YtijgppokofganaaGreatDoor
