/- I86i. -/
import Derived.Test.YtagplldaooipmaaGreatDoorI86e
import Derived.Test.YtagplldaooipmaaGreatDoorI86f
import Derived.Test.YtagplldaooipmaaGreatDoorI86g
import Derived.Test.YtagplldaooipmaaGreatDoorI86h
namespace Go.Proofs.YtagplldaooipmaaGreatDoor
open Go.RowKit
theorem two_any8 (op d s:Nat) (h1:1 ≤ op) (h2:op ≤ 100) (hd:d ≤ 20) (hs:s ≤ 20) (w:World):Calls Tryz.prog 148 #[.int .i64 (op:Int),.int .i64 (d:Int),.int .i64 (s:Int)] w (HeadX (two86 op d s) w):=by
 by_cases e1:op=1
 ·subst e1;exact two_x1 d s hd hs w
 by_cases e2:op=17
 ·subst e2;exact two_x17 d s hd hs w
 by_cases e3:op=30
 ·subst e3;exact two_x30 d s hd hs w
 by_cases e4:op=31
 ·subst e4;exact two_x31 d s hd hs w
 by_cases e5:10 ≤ op
 ·exact two_xo op d s e5 h2 e2 e3 e4 w
 ·obtain ⟨k,rfl⟩:∃ k,op=k + 2:=⟨op - 2,by omega⟩
  have:=two_xs k d s (by omega) hd hs w
  rwa [Int.natCast_add]
set_option maxHeartbeats 4000000 in
set_option maxRecDepth 100000 in
theorem heads_two (op d s:Nat) (h1:1 ≤ op) (h2:op ≤ 100) (hd:d ≤ 20) (hs:s ≤ 20) (h:s ≠ 0 ∨ op=1 ∨ op=17) (w:World):Calls Tryz.prog 104 #[.int .i64 (op:Int),.int .i64 (d:Int),.int .i64 (s:Int)] w (HeadX (heads86 op d s) w):=by
 have hp:heads86 op d s=two86 op d s:=by unfold heads86;rw [if_neg (by omega),if_pos h]
 rw [hp]
 have e1:decide ((op:Int) < 1)=false:=by simp;omega
 have TW:=Lib.hid (fun W=>HeadX.inbox (w:=W) (two_any8 op d s h1 h2 hd hs _))
 generalize two86 op d s=q at *
 obtain ⟨ql,qt⟩:=q
 simp only at TW
 clear hp
 by_cases e2:s=0
 ·have e3:((s:Int) != 0)=false:=by simp [e2]
  by_cases e4:op=1
  ·have e5:((op:Int) == 1)=true:=by simp [e4]
   clear e2 e4 h
   go_enter Tryz.func104, Tryz.ntmps104
   go_wp2_with ((with_reducible refine (TW.out _).mono ?_);rintro e w1 ⟨A1,k1,rfl,R1,F1,B1,c0,c1,f0,f1⟩)
   apply bodyPost_ret
   ·simp [results,Tryz.results104,go_sem,c0,c1]
    exact rfl
   ·rfl
   ·exact ⟨_,rfl,RdN.boxf R1.out F1.out,(B1.out.setCell (by simp) _).setCell (by simp) _,F1.out.less (by omega)⟩
  ·have e5:((op:Int) == 1)=false:=by rw [beq_eq_false_iff_ne];omega
   have e6:((op:Int) == 17)=true:=by rw [beq_iff_eq];omega
   clear e2 e4 h
   go_enter Tryz.func104, Tryz.ntmps104
   go_wp2_with ((with_reducible refine (TW.out _).mono ?_);rintro e w1 ⟨A1,k1,rfl,R1,F1,B1,c0,c1,f0,f1⟩)
   apply bodyPost_ret
   ·simp [results,Tryz.results104,go_sem,c0,c1]
    exact rfl
   ·rfl
   ·exact ⟨_,rfl,RdN.boxf R1.out F1.out,(B1.out.setCell (by simp) _).setCell (by simp) _,F1.out.less (by omega)⟩
 ·have e3:((s:Int) != 0)=true:=by rw [bne_iff_ne];omega
  clear e2 h
  go_enter Tryz.func104, Tryz.ntmps104
  go_wp2_with ((with_reducible refine (TW.out _).mono ?_);rintro e w1 ⟨A1,k1,rfl,R1,F1,B1,c0,c1,f0,f1⟩)
  apply bodyPost_ret
  ·simp [results,Tryz.results104,go_sem,c0,c1]
   exact rfl
  ·rfl
  ·exact ⟨_,rfl,RdN.boxf R1.out F1.out,(B1.out.setCell (by simp) _).setCell (by simp) _,F1.out.less (by omega)⟩
set_option maxHeartbeats 4000000 in
set_option maxRecDepth 100000 in
theorem heads_one (op d:Nat) (h1:10 ≤ op) (h2:op ≤ 19) (h17:op ≠ 17) (hd:d ≤ 20) (w:World):Calls Tryz.prog 104 #[.int .i64 (op:Int),.int .i64 (d:Int),.int .i64 0] w (HeadX (heads86 op d 0) w):=by
 have hp:heads86 op d 0=one86 op d:=by unfold heads86;rw [if_neg (by omega),if_neg (by omega),if_pos ⟨h1,h2⟩]
 rw [hp]
 have e1:decide ((op:Int) < 1)=false:=by simp;omega
 have e2:((op:Int) == 1)=false:=by rw [beq_eq_false_iff_ne];omega
 have e3:((op:Int) == 17)=false:=by rw [beq_eq_false_iff_ne];omega
 have TW:=Lib.hid (fun W=>HeadX.inbox (w:=W) (one_x op d h1 h2 hd _))
 generalize one86 op d=q at *
 obtain ⟨ql,qt⟩:=q
 simp only at TW
 clear hp h17
 go_enter Tryz.func104, Tryz.ntmps104
 go_wp2_with ((with_reducible refine (TW.out _).mono ?_);rintro e w1 ⟨A1,k1,rfl,R1,F1,B1,c0,c1,f0,f1⟩)
 apply bodyPost_ret
 ·simp [results,Tryz.results104,go_sem,c0,c1]
  exact rfl
 ·rfl
 ·exact ⟨_,rfl,RdN.boxf R1.out F1.out,(B1.out.setCell (by simp) _).setCell (by simp) _,F1.out.less (by omega)⟩
set_option maxHeartbeats 8000000 in
set_option maxRecDepth 100000 in
theorem heads_single (op:Nat) (h1:20 ≤ op) (h2:op ≤ 29) (w:World):Calls Tryz.prog 104 #[.int .i64 (op:Int),.int .i64 0,.int .i64 0] w (HeadX (heads86 op 0 0) w):=by
  have hop:op=20 ∨ op=21 ∨ op=22 ∨ op=23 ∨ op=24 ∨ op=25 ∨ op=26 ∨ op=27 ∨ op=28 ∨ op=29:=by omega
  clear h1 h2
  rcases hop with rfl | rfl | rfl | rfl | rfl | rfl | rfl | rfl | rfl | rfl
  all_goals (
    go_enter Tryz.func104, Tryz.ntmps104
    go_wp2_with (((with_reducible refine (of86_1 _ _ (by omega) (by omega) _ _).mono ?_);rintro e w1 ⟨rfl,B1,R1,c0,c1,f0,f1⟩))
    unfold HeadX heads86
    repeat (first | rw [if_pos (by omega)] | rw [if_neg (by omega)])
    first
      | (apply bodyPost_ret
         · simp [results,Tryz.results104,go_sem,c0,c1]
           exact rfl
         · rfl
         · refine ⟨_,rfl,RdN.box (RdN.one R1.out (by first | rfl | omega)),(B1.out.setCell (by simp) _).setCell (by simp) _,fresh_box _ _ _⟩)
      | (apply bodyPost_ret
         · simp [results,Tryz.results104,go_sem]
           exact rfl
         · rfl
         · exact ⟨_,rfl,RdN.nil0 _,(Below.refl _ _).alloc (Nat.le_refl _) _,fresh_nil _⟩)
     )
set_option maxHeartbeats 8000000 in
set_option maxRecDepth 100000 in
theorem heads_cond (op:Nat) (h:(42 ≤ op∧op ≤ 45) ∨ (48 ≤ op∧op ≤ 51)) (w:World):Calls Tryz.prog 104 #[.int .i64 (op:Int),.int .i64 20,.int .i64 0] w (HeadX (heads86 op 20 0) w):=by
  have hop:op=42 ∨ op=43 ∨ op=44 ∨ op=45 ∨ op=48 ∨ op=49 ∨ op=50 ∨ op=51:=by omega
  clear h
  have C2:bits .or .u8 112 2=114:=by decide +kernel
  have C3:bits .or .u8 112 3=115:=by decide +kernel
  have C4:bits .or .u8 112 4=116:=by decide +kernel
  have C5:bits .or .u8 112 5=117:=by decide +kernel
  have C8:bits .or .u8 112 8=120:=by decide +kernel
  have C9:bits .or .u8 112 9=121:=by decide +kernel
  have C10:bits .or .u8 112 10=122:=by decide +kernel
  have C11:bits .or .u8 112 11=123:=by decide +kernel
  rcases hop with rfl | rfl | rfl | rfl | rfl | rfl | rfl | rfl
  all_goals (
    go_enter Tryz.func104, Tryz.ntmps104
    go_wp2_with (((with_reducible refine (of86_1 _ _ (by omega) (by omega) _ _).mono ?_);rintro e w1 ⟨rfl,B1,R1,c0,c1,f0,f1⟩))
    unfold HeadX heads86
    repeat (first | rw [if_pos (by omega)] | rw [if_neg (by omega)])
    first
      | (apply bodyPost_ret
         · simp [results,Tryz.results104,go_sem,c0,c1]
           exact rfl
         · rfl
         · refine ⟨_,rfl,RdN.box (RdN.one R1.out (by first | rfl | omega)),(B1.out.setCell (by simp) _).setCell (by simp) _,fresh_box _ _ _⟩)
      | (apply bodyPost_ret
         · simp [results,Tryz.results104,go_sem]
           exact rfl
         · rfl
         · exact ⟨_,rfl,RdN.nil0 _,(Below.refl _ _).alloc (Nat.le_refl _) _,fresh_nil _⟩)
     )
set_option maxHeartbeats 8000000 in
set_option maxRecDepth 100000 in
theorem heads_rest (op d:Nat) (h1:op ≠ 1) (h2:op ≤ 100) (h3:op < 10 ∨ 19 < op) (hd:d ≤ 20) (h4:¬ (d=0∧20 ≤ op∧op ≤ 29)) (h5:¬ (d=20∧((42 ≤ op∧op ≤ 45) ∨ (48 ≤ op∧op ≤ 51)))) (w:World):Calls Tryz.prog 104 #[.int .i64 (op:Int),.int .i64 (d:Int),.int .i64 0] w (HeadX (heads86 op d 0) w):=by
  have e2:((op:Int) == 1)=false:=by rw [beq_eq_false_iff_ne];omega
  have e3:((op:Int) == 17)=false:=by rw [beq_eq_false_iff_ne];omega
  have e4:(decide (10 ≤ op) && decide (op ≤ 19))=false:=by simp;omega
  by_cases hd0:d=0
  · subst hd0
    by_cases h20:op < 20
    · have e5:decide (20 ≤ op)=false:=by simp;omega
      have e6:((op:Int) == 35)=false:=by rw [beq_eq_false_iff_ne];omega
      go_enter Tryz.func104, Tryz.ntmps104
      go_wp2_with (((with_reducible refine (of86_1 _ _ (by omega) (by omega) _ _).mono ?_);rintro e w1 ⟨rfl,B1,R1,c0,c1,f0,f1⟩))
      all_goals (
        unfold HeadX heads86
        repeat (first | rw [if_pos (by omega)] | rw [if_neg (by omega)])
        first
          | (apply bodyPost_ret
             · simp [results,Tryz.results104,go_sem,c0,c1]
               exact rfl
             · rfl
             · refine ⟨_,rfl,RdN.box (RdN.one R1.out (by first | rfl | omega)),(B1.out.setCell (by simp) _).setCell (by simp) _,fresh_box _ _ _⟩)
          | (apply bodyPost_ret
             · simp [results,Tryz.results104,go_sem]
               exact rfl
             · rfl
             · exact ⟨_,rfl,RdN.nil0 _,(Below.refl _ _).alloc (Nat.le_refl _) _,fresh_nil _⟩)
          | (exfalso;simp at *;omega))
    · have e5:decide (20 ≤ op)=true:=by simp;omega
      have e6:decide (op ≤ 29)=false:=by simp;omega
      go_enter Tryz.func104, Tryz.ntmps104
      go_wp2_with (((with_reducible refine (of86_1 _ _ (by omega) (by omega) _ _).mono ?_);rintro e w1 ⟨rfl,B1,R1,c0,c1,f0,f1⟩))
      all_goals (
        try simp only [beq_iff_eq,beq_eq_false_iff_ne,ne_eq] at *
        unfold HeadX heads86
        repeat (first | rw [if_pos (by omega)] | rw [if_neg (by omega)])
        first
          | (apply bodyPost_ret
             · simp [results,Tryz.results104,go_sem,c0,c1]
               exact rfl
             · rfl
             · refine ⟨_,rfl,RdN.box (RdN.one R1.out (by first | rfl | omega)),(B1.out.setCell (by simp) _).setCell (by simp) _,fresh_box _ _ _⟩)
          | (apply bodyPost_ret
             · simp [results,Tryz.results104,go_sem]
               exact rfl
             · rfl
             · exact ⟨_,rfl,RdN.nil0 _,(Below.refl _ _).alloc (Nat.le_refl _) _,fresh_nil _⟩)
          | (exfalso;simp at *;omega))
  · have e5:((d:Int) == 0)=false:=by rw [beq_eq_false_iff_ne];omega
    by_cases hd1:d=20
    · subst hd1
      go_enter Tryz.func104, Tryz.ntmps104
      go_wp2_with (((with_reducible refine (of86_1 _ _ (by omega) (by omega) _ _).mono ?_);rintro e w1 ⟨rfl,B1,R1,c0,c1,f0,f1⟩))
      all_goals (
        try simp only [beq_iff_eq,beq_eq_false_iff_ne,ne_eq,bne_eq_false_iff_eq,bne_iff_ne] at *
        unfold HeadX heads86
        repeat (first | rw [if_pos (by omega)] | rw [if_neg (by omega)])
        first
          | (apply bodyPost_ret
             · simp [results,Tryz.results104,go_sem,c0,c1]
               exact rfl
             · rfl
             · refine ⟨_,rfl,RdN.box (RdN.one R1.out (by first | rfl | omega)),(B1.out.setCell (by simp) _).setCell (by simp) _,fresh_box _ _ _⟩)
          | (apply bodyPost_ret
             · simp [results,Tryz.results104,go_sem]
               exact rfl
             · rfl
             · exact ⟨_,rfl,RdN.nil0 _,(Below.refl _ _).alloc (Nat.le_refl _) _,fresh_nil _⟩)
          | (exfalso;simp at *;omega))
    · have e6:((d:Int) != 20)=true:=by rw [bne_iff_ne];omega
      go_enter Tryz.func104, Tryz.ntmps104
      go_wp2_with (((with_reducible refine (of86_1 _ _ (by omega) (by omega) _ _).mono ?_);rintro e w1 ⟨rfl,B1,R1,c0,c1,f0,f1⟩))
      all_goals (
        try simp only [beq_eq_false_iff_ne,ne_eq,bne_iff_ne] at *
        unfold HeadX heads86
        repeat (first | rw [if_pos (by omega)] | rw [if_neg (by omega)])
        first
          | (apply bodyPost_ret
             · simp [results,Tryz.results104,go_sem,c0,c1]
               exact rfl
             · rfl
             · refine ⟨_,rfl,RdN.box (RdN.one R1.out (by first | rfl | omega)),(B1.out.setCell (by simp) _).setCell (by simp) _,fresh_box _ _ _⟩)
          | (apply bodyPost_ret
             · simp [results,Tryz.results104,go_sem]
               exact rfl
             · rfl
             · exact ⟨_,rfl,RdN.nil0 _,(Below.refl _ _).alloc (Nat.le_refl _) _,fresh_nil _⟩)
          | (exfalso;simp at *;omega))
theorem heads_x (op d s:Nat) (h0:1 ≤ op) (hop:op ≤ 100) (hd:d ≤ 20) (hs:s ≤ 20) (w:World):Calls Tryz.prog 104 #[.int .i64 (op:Int),.int .i64 (d:Int),.int .i64 (s:Int)] w (HeadX (heads86 op d s) w):=by
 by_cases h1:s ≠ 0 ∨ op=1 ∨ op=17
 ·exact heads_two op d s h0 hop hd hs h1 w
 ·obtain ⟨rfl,h2,h3⟩:s=0∧op ≠ 1∧op ≠ 17:=by omega
  by_cases h4:10 ≤ op∧op ≤ 19
  ·exact heads_one op d h4.1 h4.2 h3 hd w
  by_cases h5:d=0∧20 ≤ op∧op ≤ 29
  ·obtain ⟨rfl,h5,h6⟩:=h5
   exact heads_single op h5 h6 w
  by_cases h6:d=20∧((42 ≤ op∧op ≤ 45) ∨ (48 ≤ op∧op ≤ 51))
  ·obtain ⟨rfl,h6⟩:=h6
   exact heads_cond op h6 w
  exact heads_rest op d h2 hop (by omega) hd h5 h6 w
end Go.Proofs.YtagplldaooipmaaGreatDoor
