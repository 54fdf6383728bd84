/- I86h. -/
import Derived.Test.YtagplldaooipmaaGreatDoorI86d
namespace Go.Proofs.YtagplldaooipmaaGreatDoor
open Go.RowKit
set_option maxHeartbeats 8000000 in
set_option maxRecDepth 100000 in
theorem one_x (op d:Nat) (ho:10 ≤ op) (ho2:op ≤ 19) (hd:d ≤ 20) (w:World):Calls Tryz.prog 149 #[.int .i64 (op:Int),.int .i64 (d:Int)] w (HeadX (one86 op d) w):=by
  have C0:bits .or .u8 64 0=64:=by decide +kernel
  have C1:bits .or .u8 64 8=72:=by decide +kernel
  have C2:bits .or .u8 80 0=80:=by decide +kernel
  have C3:bits .or .u8 80 8=88:=by decide +kernel
  have C4:bits .or .u8 208 0=208:=by decide +kernel
  have C5:bits .or .u8 208 1=209:=by decide +kernel
  have C6:bits .or .u8 72 0=72:=by decide +kernel
  have C7:bits .or .u8 88 0=88:=by decide +kernel
  have hop:op=10 ∨ op=11 ∨ op=12 ∨ op=13 ∨ op=14 ∨ op=15 ∨ op=16 ∨ op=17 ∨ op=18 ∨ op=19:=by omega
  clear ho ho2
  rcases hop with rfl | rfl | rfl | rfl | rfl | rfl | rfl | rfl | rfl | rfl
  all_goals (
    rcases cases86 d hd with rfl | rfl | ⟨h1,h2⟩ | rfl | ⟨h1,h2⟩ | rfl | rfl | rfl | rfl
    have W1:=Lib.hid (fun W=>wide_i 0 0 rfl 0 rfl W);have X1:((wide86 0:Nat):Int)=0:=rfl;have N1:=Lib.hid trivial;rotate_left
    have W1:=Lib.hid (fun W=>wide_i 1 1 rfl 8 rfl W);have X1:((wide86 1:Nat):Int)=8:=rfl;have N1:=Lib.hid (fun W=>num_i 1 1 rfl hd 0 rfl W);have Y1:((num86 1:Nat):Int)=0:=rfl;rotate_left
    have W1:=Lib.hid (fun W=>wide_i d d rfl 8 (wide_8 d h1 h2) W);have N1:=Lib.hid (fun W=>num_x d hd W);obtain ⟨a1,a2⟩:=num_lt d;have X1:=wide_8 d h1 h2;rotate_left
    have W1:=Lib.hid (fun W=>wide_i 9 9 rfl 16 rfl W);have X1:((wide86 9:Nat):Int)=16:=rfl;have N1:=Lib.hid (fun W=>num_i 9 9 rfl hd 0 rfl W);have Y1:((num86 9:Nat):Int)=0:=rfl;rotate_left
    have W1:=Lib.hid (fun W=>wide_i d d rfl 16 (wide_16 d h1 h2) W);have N1:=Lib.hid (fun W=>num_x d hd W);obtain ⟨a1,a2⟩:=num_lt d;have X1:=wide_16 d h1 h2;have O1:=low_bit 64 (num86 d:Nat) _ 8 rfl a2 a1 rfl;have O2:=low_bit 72 (num86 d:Nat) _ 9 rfl a2 a1 rfl;have O3:=low_bit 80 (num86 d:Nat) _ 10 rfl a2 a1 rfl;have O4:=low_bit 88 (num86 d:Nat) _ 11 rfl a2 a1 rfl;rotate_left
    have W1:=Lib.hid (fun W=>wide_i 17 17 rfl 0 rfl W);have X1:((wide86 17:Nat):Int)=0:=rfl;have N1:=Lib.hid trivial;rotate_left
    have W1:=Lib.hid (fun W=>wide_i 18 18 rfl 0 rfl W);have X1:((wide86 18:Nat):Int)=0:=rfl;have N1:=Lib.hid trivial;rotate_left
    have W1:=Lib.hid (fun W=>wide_i 19 19 rfl 0 rfl W);have X1:((wide86 19:Nat):Int)=0:=rfl;have N1:=Lib.hid trivial;rotate_left
    have W1:=Lib.hid (fun W=>wide_i 20 20 rfl 0 rfl W);have X1:((wide86 20:Nat):Int)=0:=rfl;have N1:=Lib.hid trivial;rotate_left)
  all_goals (
    go_enter Tryz.func149, Tryz.ntmps149
    go_wp2_with (first | ((with_reducible refine (W1.out _).mono ?_);rintro e w' ⟨rfl,rfl⟩) | ((with_reducible refine (N1.out _).mono ?_);rintro e w' ⟨rfl,rfl⟩) | ((with_reducible refine (mem_x _ _ (by first | assumption | decide | omega) (by first | assumption | decide | omega) (by first | assumption | decide | omega) (by first | assumption | decide | omega) _).mono ?_);rintro e w' ⟨rfl,rfl⟩) | ((with_reducible refine (rm_x _ _ (by first | assumption | decide | omega) (by first | assumption | decide | omega) (by first | assumption | decide | omega) (by first | assumption | decide | omega) _).mono ?_);rintro e w' ⟨rfl,rfl⟩) | ((with_reducible refine (of86_2 _ _ _ (by omega) (by omega) (by omega) (by omega) _ _).mono ?_);rintro e w1 ⟨rfl,B1,R1,c0,c1,f0,f1⟩) | ((with_reducible refine (of86_1 _ _ (by omega) (by omega) _ _).mono ?_);rintro e w1 ⟨rfl,B1,R1,c0,c1,f0,f1⟩))
    all_goals (
      try simp only [beq_eq_false_iff_ne,ne_eq] at *
      unfold HeadX one86
      repeat (first | rw [if_pos (by omega)] | rw [if_neg (by omega)])
      try unfold rm86
      first
        | (apply bodyPost_ret
           · simp [results,Tryz.results149,go_sem,c0,c1]
             exact rfl
           · rfl
           · refine ⟨_,rfl,RdN.box (RdN.two R1.out (by first | rfl | omega) (by first | rfl | omega)),(B1.out.setCell (by simp) _).setCell (by simp) _,fresh_box _ _ _⟩)
        | (apply bodyPost_ret
           · simp [results,Tryz.results149,go_sem,c0,c1]
             exact rfl
           · rfl
           · refine ⟨_,rfl,RdN.box (RdN.one R1.out (by first | rfl | omega)),(B1.out.setCell (by simp) _).setCell (by simp) _,fresh_box _ _ _⟩)
        | (apply bodyPost_ret
           · simp [results,Tryz.results149,go_sem]
             exact rfl
           · rfl
           · exact ⟨_,rfl,RdN.nil0 _,(Below.refl _ _).alloc (Nat.le_refl _) _,fresh_nil _⟩)
       ))
end Go.Proofs.YtagplldaooipmaaGreatDoor
