/- I86g. -/
import Derived.Test.YtagplldaooipmaaGreatDoorI86d
namespace Go.Proofs.YtagplldaooipmaaGreatDoor
open Go.RowKit
set_option maxHeartbeats 8000000 in
set_option maxRecDepth 100000 in
theorem two_x1 (d s:Nat) (hd:d ≤ 20) (hs:s ≤ 20) (w:World):Calls Tryz.prog 148 #[.int .i64 1,.int .i64 (d:Int),.int .i64 (s:Int)] w (HeadX (two86 1 d s) w):=by
  have N2:=Lib.hid (fun W=>num_x s hs W)
  obtain ⟨b1,b2⟩:=num_lt s
  have O1:bits .or .u8 136 0=136:=by decide +kernel
  have O2:bits .or .u8 136 1=137:=by decide +kernel
  rcases wides s with hw | hw | hw
  have W2:=Lib.hid (fun W=>wide_i s s rfl 8 hw W);rotate_left
  have W2:=Lib.hid (fun W=>wide_i s s rfl 16 hw W);rotate_left
  have W2:=Lib.hid (fun W=>wide_i s s rfl 0 hw W);rotate_left
  all_goals (
    rcases cases86 d hd with rfl | rfl | ⟨h1,h2⟩ | rfl | ⟨h1,h2⟩ | rfl | rfl | rfl | rfl
    have W1:=Lib.hid (fun W=>wide_i 0 0 rfl 0 rfl W);have X1:((wide86 0:Nat):Int)=0:=rfl;have N1:=Lib.hid trivial;have P1:=Lib.hid (fun W=>places_i 0 0 rfl hd s hs W);rotate_left
    have W1:=Lib.hid (fun W=>wide_i 1 1 rfl 8 rfl W);have X1:((wide86 1:Nat):Int)=8:=rfl;have N1:=Lib.hid (fun W=>num_i 1 1 rfl hd 0 rfl W);have Y1:((num86 1:Nat):Int)=0:=rfl;have P1:=Lib.hid (fun W=>places_i 1 1 rfl hd s hs W);rotate_left
    have W1:=Lib.hid (fun W=>wide_i d d rfl 8 (wide_8 d h1 h2) W);have N1:=Lib.hid (fun W=>num_x d hd W);obtain ⟨a1,a2⟩:=num_lt d;have X1:=wide_8 d h1 h2;have P1:=Lib.hid (fun W=>places_i d d rfl hd s hs W);rotate_left
    have W1:=Lib.hid (fun W=>wide_i 9 9 rfl 16 rfl W);have X1:((wide86 9:Nat):Int)=16:=rfl;have N1:=Lib.hid (fun W=>num_i 9 9 rfl hd 0 rfl W);have Y1:((num86 9:Nat):Int)=0:=rfl;have P1:=Lib.hid (fun W=>places_i 9 9 rfl hd s hs W);rotate_left
    have W1:=Lib.hid (fun W=>wide_i d d rfl 16 (wide_16 d h1 h2) W);have N1:=Lib.hid (fun W=>num_x d hd W);obtain ⟨a1,a2⟩:=num_lt d;have X1:=wide_16 d h1 h2;have P1:=Lib.hid (fun W=>places_i d d rfl hd s hs W);rotate_left
    have W1:=Lib.hid (fun W=>wide_i 17 17 rfl 0 rfl W);have X1:((wide86 17:Nat):Int)=0:=rfl;have N1:=Lib.hid trivial;have P1:=Lib.hid (fun W=>places_i 17 17 rfl hd s hs W);rotate_left
    have W1:=Lib.hid (fun W=>wide_i 18 18 rfl 0 rfl W);have X1:((wide86 18:Nat):Int)=0:=rfl;have N1:=Lib.hid trivial;have P1:=Lib.hid (fun W=>places_i 18 18 rfl hd s hs W);rotate_left
    have W1:=Lib.hid (fun W=>wide_i 19 19 rfl 0 rfl W);have X1:((wide86 19:Nat):Int)=0:=rfl;have N1:=Lib.hid trivial;have P1:=Lib.hid (fun W=>places_i 19 19 rfl hd s hs W);rotate_left
    have W1:=Lib.hid (fun W=>wide_i 20 20 rfl 0 rfl W);have X1:((wide86 20:Nat):Int)=0:=rfl;have N1:=Lib.hid trivial;have P1:=Lib.hid (fun W=>places_i 20 20 rfl hd s hs W);rotate_left)
  all_goals (
    go_enter Tryz.func148, Tryz.ntmps148
    go_wp2_with (first | ((with_reducible refine (HeadX.inbox (P1.out _)).mono ?_);rintro e w1 ⟨A1,k1,rfl,R1,F1,B1,c0,c1,f0,f1⟩) | ((with_reducible refine (W1.out _).mono ?_);rintro e w' ⟨rfl,rfl⟩) | ((with_reducible refine (W2.out _).mono ?_);rintro e w' ⟨rfl,rfl⟩) | ((with_reducible refine (N1.out _).mono ?_);rintro e w' ⟨rfl,rfl⟩) | ((with_reducible refine (N2.out _).mono ?_);rintro e w' ⟨rfl,rfl⟩) | ((with_reducible refine (mem_x _ _ (by first | assumption | decide | omega) (by first | assumption | decide | omega) (by first | assumption | decide | omega) (by first | assumption | decide | omega) _).mono ?_);rintro e w' ⟨rfl,rfl⟩) | ((with_reducible refine (rm_x _ _ (by first | assumption | decide | omega) (by first | assumption | decide | omega) (by first | assumption | decide | omega) (by first | assumption | decide | omega) _).mono ?_);rintro e w' ⟨rfl,rfl⟩) | ((with_reducible refine (of86_2 _ _ _ (by omega) (by omega) (by omega) (by omega) _ _).mono ?_);rintro e w1 ⟨rfl,B1,R1,c0,c1,f0,f1⟩) | ((with_reducible refine (of86_1 _ _ (by omega) (by omega) _ _).mono ?_);rintro e w1 ⟨rfl,B1,R1,c0,c1,f0,f1⟩))
    all_goals (
      try simp only [beq_iff_eq,beq_eq_false_iff_ne,ne_eq,bne_eq_false_iff_eq,bne_iff_ne] at *
      unfold HeadX two86
      repeat (first | rw [if_pos (by omega)] | rw [if_neg (by omega)])
      try unfold rm86
      first
        | (apply bodyPost_ret
           · simp [results,Tryz.results148,go_sem,c0,c1]
             exact rfl
           · rfl
           · exact ⟨_,rfl,RdN.boxf R1.out F1.out,(B1.out.setCell (by simp) _).setCell (by simp) _,F1.out.less (by omega)⟩)
        | (apply bodyPost_ret
           · simp [results,Tryz.results148,go_sem,c0,c1]
             exact rfl
           · rfl
           · refine ⟨_,rfl,RdN.box (RdN.two R1.out (by first | rfl | omega) (by first | rfl | omega)),(B1.out.setCell (by simp) _).setCell (by simp) _,fresh_box _ _ _⟩)
        | (apply bodyPost_ret
           · simp [results,Tryz.results148,go_sem,c0,c1]
             exact rfl
           · rfl
           · refine ⟨_,rfl,RdN.box (RdN.one R1.out (by first | rfl | omega)),(B1.out.setCell (by simp) _).setCell (by simp) _,fresh_box _ _ _⟩)
        | (apply bodyPost_ret
           · simp [results,Tryz.results148,go_sem]
             exact rfl
           · rfl
           · exact ⟨_,rfl,RdN.nil0 _,(Below.refl _ _).alloc (Nat.le_refl _) _,fresh_nil _⟩)
       ))
set_option maxHeartbeats 8000000 in
set_option maxRecDepth 100000 in
theorem two_xo (op d s:Nat) (ho:10 ≤ op) (ho2:op ≤ 100) (h17:op ≠ 17) (h30:op ≠ 30) (h31:op ≠ 31) (w:World):Calls Tryz.prog 148 #[.int .i64 (op:Int),.int .i64 (d:Int),.int .i64 (s:Int)] w (HeadX (two86 op d s) w):=by
 have W1:=Lib.hid (fun W=>wide_x d W)
 have W2:=Lib.hid (fun W=>wide_x s W)
 have hp:two86 op d s=no86H:=by
  unfold two86
  rw [if_neg (by omega),if_neg (by omega),if_neg (by omega),if_neg (by omega),if_neg (by omega),if_pos (by omega)]
 rw [hp]
 clear hp
 have e1:((op:Int) == 1)=false:=by rw [beq_eq_false_iff_ne];omega
 have e2:((op:Int) == 17)=false:=by rw [beq_eq_false_iff_ne];omega
 have e3:((op:Int) == 30)=false:=by rw [beq_eq_false_iff_ne];omega
 have e4:((op:Int) == 31)=false:=by rw [beq_eq_false_iff_ne];omega
 have e5:(9:Int) < (op:Int):=by omega
 clear h17 h30 h31
 go_enter Tryz.func148, Tryz.ntmps148
 go_wp2_with (first | ((with_reducible refine (W1.out _).mono ?_);rintro e w' ⟨rfl,rfl⟩) | ((with_reducible refine (W2.out _).mono ?_);rintro e w' ⟨rfl,rfl⟩))
 all_goals (
  unfold HeadX
  apply bodyPost_ret
  ·simp [results,Tryz.results148,go_sem]
   exact rfl
  ·rfl
  ·exact ⟨_,rfl,RdN.nil0 _,(Below.refl _ _).alloc (Nat.le_refl _) _,fresh_nil _⟩)
end Go.Proofs.YtagplldaooipmaaGreatDoor
