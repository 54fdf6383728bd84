/- I86d. -/
import Derived.Test.YtagplldaooipmaaGreatDoorVa
namespace Go.Proofs.YtagplldaooipmaaGreatDoor
open Go.RowKit
set_option maxHeartbeats 8000000 in
set_option maxRecDepth 100000 in
theorem places_x (d s:Nat) (hd:d ≤ 20) (hs:s ≤ 20) (w:World):Calls Tryz.prog 190 #[.int .i64 (d:Int),.int .i64 (s:Int)] w (HeadX (places86 d s) w):=by
  have W2:=Lib.hid (fun W=>wide_x s W)
  have N2:=Lib.hid (fun W=>num_x s hs W)
  obtain ⟨b1,b2⟩:=num_lt s
  rcases cases86 d hd with rfl | rfl | ⟨h1,h2⟩ | rfl | ⟨h1,h2⟩ | rfl | rfl | rfl | rfl
  have W1:=Lib.hid (fun W=>wide_i 0 0 rfl 0 rfl W);have N1:=Lib.hid trivial;have X1:((wide86 0:Nat):Int)=0:=rfl;rotate_left
  have W1:=Lib.hid (fun W=>wide_i 1 1 rfl 8 rfl W);have N1:=Lib.hid (fun W=>num_i 1 1 rfl hd 0 rfl W);have X1:((wide86 1:Nat):Int)=8:=rfl;have O1:=low_bit 176 0 176 22 rfl (by decide) (by decide) rfl;rotate_left
  have W1:=Lib.hid (fun W=>wide_i d d rfl 8 (wide_8 d h1 h2) W);have N1:=Lib.hid (fun W=>num_x d hd W);obtain ⟨a1,a2⟩:=num_lt d;have X1:=wide_8 d h1 h2;have O1:=low_bit 176 (num86 d:Nat) _ 22 rfl a2 a1 rfl;rotate_left
  have W1:=Lib.hid (fun W=>wide_i 9 9 rfl 16 rfl W);have N1:=Lib.hid (fun W=>num_i 9 9 rfl hd 0 rfl W);have X1:((wide86 9:Nat):Int)=16:=rfl;have O1:=low_bit 184 0 184 23 rfl (by decide) (by decide) rfl;rotate_left
  have W1:=Lib.hid (fun W=>wide_i d d rfl 16 (wide_16 d h1 h2) W);have N1:=Lib.hid (fun W=>num_x d hd W);obtain ⟨a1,a2⟩:=num_lt d;have X1:=wide_16 d h1 h2;have O1:=low_bit 184 (num86 d:Nat) _ 23 rfl a2 a1 rfl;rotate_left
  have W1:=Lib.hid (fun W=>wide_i 17 17 rfl 0 rfl W);have N1:=Lib.hid trivial;have X1:((wide86 17:Nat):Int)=0:=rfl;rotate_left
  have W1:=Lib.hid (fun W=>wide_i 18 18 rfl 0 rfl W);have N1:=Lib.hid trivial;have X1:((wide86 18:Nat):Int)=0:=rfl;rotate_left
  have W1:=Lib.hid (fun W=>wide_i 19 19 rfl 0 rfl W);have N1:=Lib.hid trivial;have X1:((wide86 19:Nat):Int)=0:=rfl;rotate_left
  have W1:=Lib.hid (fun W=>wide_i 20 20 rfl 0 rfl W);have N1:=Lib.hid trivial;have X1:((wide86 20:Nat):Int)=0:=rfl;rotate_left
  all_goals (
    go_enter Tryz.func190, Tryz.ntmps190
    go_wp2_with (first | ((with_reducible refine (W1.out _).mono ?_);rintro e w' ⟨rfl,rfl⟩) | ((with_reducible refine (W2.out _).mono ?_);rintro e w' ⟨rfl,rfl⟩) | ((with_reducible refine (N1.out _).mono ?_);rintro e w' ⟨rfl,rfl⟩) | ((with_reducible refine (N2.out _).mono ?_);rintro e w' ⟨rfl,rfl⟩) | ((with_reducible refine (mem_x _ _ (by first | assumption | decide) (by first | assumption | decide) (by decide) (by decide) _).mono ?_);rintro e w' ⟨rfl,rfl⟩) | ((with_reducible refine (of86_2 _ _ _ (by omega) (by omega) (by omega) (by omega) _ _).mono ?_);rintro e w1 ⟨rfl,B1,R1,c0,c1,f0,f1⟩) | ((with_reducible refine (of86_1 _ _ (by omega) (by omega) _ _).mono ?_);rintro e w1 ⟨rfl,B1,R1,c0,c1,f0,f1⟩))
    all_goals (
      try simp only [beq_iff_eq,beq_eq_false_iff_ne,ne_eq,bne_eq_false_iff_eq,bne_iff_ne] at *
      unfold HeadX places86
      repeat (first | rw [if_pos (by omega)] | rw [if_neg (by omega)])
      first
        | (apply bodyPost_ret
           · simp [results,Tryz.results190,go_sem,c0,c1]
             exact rfl
           · rfl
           · refine ⟨_,rfl,RdN.box (RdN.two R1.out (by first | rfl | omega) (by first | rfl | omega)),(B1.out.setCell (by simp) _).setCell (by simp) _,fresh_box _ _ _⟩)
        | (apply bodyPost_ret
           · simp [results,Tryz.results190,go_sem,c0,c1]
             exact rfl
           · rfl
           · refine ⟨_,rfl,RdN.box (RdN.one R1.out (by first | rfl | omega)),(B1.out.setCell (by simp) _).setCell (by simp) _,fresh_box _ _ _⟩)
        | (apply bodyPost_ret
           · simp [results,Tryz.results190,go_sem]
             exact rfl
           · rfl
           · exact ⟨_,rfl,RdN.nil0 _,(Below.refl _ _).alloc (Nat.le_refl _) _,fresh_nil _⟩)))
theorem places_i (c:Int) (d:Nat) (hc:c=d) (hd:d ≤ 20) (s:Nat) (hs:s ≤ 20) (w:World):Calls Tryz.prog 190 #[.int .i64 c,.int .i64 (s:Int)] w (HeadX (places86 d s) w):=by subst hc;exact places_x d s hd hs w
end Go.Proofs.YtagplldaooipmaaGreatDoor
