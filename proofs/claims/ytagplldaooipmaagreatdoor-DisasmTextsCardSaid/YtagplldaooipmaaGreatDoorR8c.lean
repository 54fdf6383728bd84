/- R8c. -/
import Derived.Test.YtagplldaooipmaaGreatDoorWb
namespace Go.Proofs.YtagplldaooipmaaGreatDoor
open Go.RowKit
theorem HeadR.back {h:H86} {w w1:World} {e:Ending} {w':World} (hb:Below w.heap.size w w1) (x:HeadR h w1 e w'):HeadR h w e w':=by
 obtain ⟨v,rfl,h1,h2⟩:=x
 exact ⟨v,rfl,h1,bthen hb h2⟩
theorem HeadR.form {h:H86} {w:World} {e:Ending} {w':World} (x:HeadR h w e w'):∃ A n c,e=.returned (.tuple #[.slice A n c,.int .i64 (h.2:Nat)])∧HeadR h w (.returned (.tuple #[.slice A n c,.int .i64 (h.2:Nat)])) w':=by
 obtain ⟨v,rfl,h1,h2⟩:=x
 obtain ⟨A,c,rfl,hc⟩:=h1.form
 exact ⟨A,_,c,rfl,_,rfl,h1,h2⟩
theorem condR_i (x:Int) (r:Bool) (h:∃ k:Nat,x=k∧condR k=r) (w:World):Calls Tryz.prog 74 #[.int .i64 x] w fun e w'=>e=.returned (.bool r)∧w=w':=by
 obtain ⟨k,rfl,rfl⟩:=h
 exact condR_x k w
theorem below_lit (w:World) (cs:Array Value):Below w.heap.size w (w.alloc (.cells cs 5)):=(Below.refl _ _).alloc (Nat.le_refl _) _
theorem headR_1n (w:World) (N:Nat) (hN:w.heap.size=N) (x:Int) (a t:Nat) (hx:x=a) (ha:a < 256):HeadR ([a],t) w (.returned (.tuple #[.slice (some ⟨N,0,none⟩) 1 1,.int .i64 (t:Int)])) (w.alloc (.cells #[.int .u8 x] 5)):=by
 subst hN
 exact headR_1 w x a t hx ha
theorem headR_2n (w:World) (N:Nat) (hN:w.heap.size=N) (x y:Int) (a b t:Nat) (hx:x=a) (hy:y=b) (ha:a < 256) (hb:b < 256):HeadR ([a,b],t) w (.returned (.tuple #[.slice (some ⟨N,0,none⟩) 2 2,.int .i64 (t:Int)])) (w.alloc (.cells #[.int .u8 x,.int .u8 y] 5)):=by
 subst hN
 exact headR_2 w x y a b t (by assumption) (by assumption) (by assumption) (by assumption)
theorem headR_eqs (x y:H86) (w:World) (e:Ending) (w':World) (h:x=y) (hx:HeadR x w e w'):HeadR y w e w':=h ▸ hx
set_option maxHeartbeats 16000000 in
set_option maxRecDepth 100000 in
theorem headR_mov (op d s:Nat) (ho:op=1) (hd:d ≤ 20) (hs:s ≤ 20) (w:World):Calls Tryz.prog 116 #[.int .i64 (op:Int),.int .i64 (d:Int),.int .i64 (s:Int)] w (HeadR (headR op d s) w):=by
 subst ho
 have HM:=Lib.hid (fun W=>moveR_any d s hd hs W)
 go_enter Tryz.func116, Tryz.ntmps116
 go_wp2_with fail
 refine ((HM.out _).mono ?_)
 rintro e w1 hx
 obtain ⟨A,n,c,rfl,hx⟩:=hx.form
 have HX:=Lib.hid hx
 clear hx
 go_wp2_with fail
 go_ret2
 exact HeadR.back (below_lit w _) (headR_eqs _ _ _ _ _ (by unfold headR;(repeat (first | rw [if_pos (by omega)] | rw [if_neg (by omega)]))) HX.out)
set_option maxHeartbeats 16000000 in
set_option maxRecDepth 100000 in
theorem headR_sum (op d s:Nat) (h1:2 ≤ op) (h2:op ≤ 9) (hd:d ≤ 20) (hs:s ≤ 20) (w:World):Calls Tryz.prog 116 #[.int .i64 (op:Int),.int .i64 (d:Int),.int .i64 (s:Int)] w (HeadR (headR op d s) w):=by
 have HM:=Lib.hid (fun W=>sumR_any (op - 2) d s (by omega) hd hs W)
 rw [show ((op - 2:Nat):Int)=(op:Int) - 2 by omega] at HM
 go_enter Tryz.func116, Tryz.ntmps116
 go_wp2_with fail
 refine ((HM.out _).mono ?_)
 rintro e w1 hx
 obtain ⟨A,n,c,rfl,hx⟩:=hx.form
 have HX:=Lib.hid hx
 clear hx
 go_wp2_with fail
 go_ret2
 exact HeadR.back (below_lit w _) (headR_eqs _ _ _ _ _ (by unfold headR;(repeat (first | rw [if_pos (by omega)] | rw [if_neg (by omega)]))) HX.out)
set_option maxHeartbeats 16000000 in
set_option maxRecDepth 100000 in
theorem headR_one (op d s:Nat) (h1:10 ≤ op) (h2:op ≤ 19) (h3:op ≠ 17) (h0:s=0) (hd:d ≤ 20) (hs:s ≤ 20) (w:World):Calls Tryz.prog 116 #[.int .i64 (op:Int),.int .i64 (d:Int),.int .i64 (s:Int)] w (HeadR (headR op d s) w):=by
 subst h0
 have HM:=Lib.hid (fun W=>oneR_any op d h1 h2 h3 hd W)
 have ho:(10 ≤ op∧op ≤ 16) ∨ (18 ≤ op∧op ≤ 19):=by omega
 clear h1 h2 h3
 rcases ho with ⟨ho1,ho2⟩ | ⟨ho1,ho2⟩
 all_goals (
  go_enter Tryz.func116, Tryz.ntmps116
  go_wp2_with fail
  refine ((HM.out _).mono ?_)
  rintro e w1 hx
  obtain ⟨A,n,c,rfl,hx⟩:=hx.form
  have HX:=Lib.hid hx
  clear hx
  go_wp2_with fail
  go_ret2
  exact HeadR.back (below_lit w _) (headR_eqs _ _ _ _ _ (by unfold headR;(repeat (first | rw [if_pos (by omega)] | rw [if_neg (by omega)]))) HX.out))
set_option maxHeartbeats 16000000 in
set_option maxRecDepth 100000 in
theorem headR_17 (op d s:Nat) (ho:op=17) (hd:d ≤ 20) (hs:s ≤ 20) (w:World):Calls Tryz.prog 116 #[.int .i64 (op:Int),.int .i64 (d:Int),.int .i64 (s:Int)] w (HeadR (headR op d s) w):=by
 subst ho
 rcases cats9 d hd with rfl | ⟨hd1,hd2⟩ | rfl | ⟨hd1,hd2⟩ | ⟨hd1,hd2⟩ <;> rcases cats9 s hs with rfl | ⟨hs1,hs2⟩ | rfl | ⟨hs1,hs2⟩ | ⟨hs1,hs2⟩
 all_goals (
  clear hd hs
  go_enter Tryz.func116, Tryz.ntmps116
  go_wp2_with (first | ((with_reducible refine (r8_ti _ (by first | assumption | omega) (by first | assumption | omega) _).mono ?_);rintro e w' ⟨rfl,rfl⟩) | ((with_reducible refine (r8_fi _ (by first | assumption | omega) (by first | assumption | omega) _).mono ?_);rintro e w' ⟨rfl,rfl⟩) | ((with_reducible refine (r16_ti _ (by first | assumption | omega) (by first | assumption | omega) _).mono ?_);rintro e w' ⟨rfl,rfl⟩) | ((with_reducible refine (r16_fi _ (by first | assumption | omega) (by first | assumption | omega) _).mono ?_);rintro e w' ⟨rfl,rfl⟩) | ((with_reducible refine (mR_x _ _ (by first | assumption | omega) (by first | assumption | omega) (by first | assumption | omega) (by first | assumption | omega) _).mono ?_);rintro e w' ⟨rfl,rfl⟩))
  all_goals (
   go_ret2
   try simp only [bne_iff_ne,bne_eq_false_iff_eq,ne_eq] at *
   unfold headR
   repeat (first | rw [if_pos (by omega)] | rw [if_neg (by omega)])
   first
    | exact HeadR.back (below_lit w _) (headR_0 _)
    | exact HeadR.back (below_lit w _) (headR_1n _ _ (by simp) _ _ _ (by omega) (by omega))
    | exact HeadR.back (below_lit w _) (headR_2n _ _ (by simp) _ _ _ _ _ (by omega) (by omega) (by omega) (by omega))
    | (exfalso;omega)))
set_option maxHeartbeats 16000000 in
set_option maxRecDepth 100000 in
theorem headR_io (op d s:Nat) (ho:op=30 ∨ op=31) (hd:d ≤ 20) (hs:s ≤ 20) (w:World):Calls Tryz.prog 116 #[.int .i64 (op:Int),.int .i64 (d:Int),.int .i64 (s:Int)] w (HeadR (headR op d s) w):=by
 have hdc:d=1 ∨ d=20 ∨ (((d:Int) == 1)=false∧((d:Int) == 20)=false∧d ≠ 1∧d ≠ 20):=by simp only [beq_eq_false_iff_ne,ne_eq];omega
 have hsc:s=0 ∨ s=1 ∨ s=20 ∨ (((s:Int) != 0)=true∧((s:Int) == 1)=false∧((s:Int) == 20)=false∧s ≠ 0∧s ≠ 1∧s ≠ 20):=by simp only [beq_eq_false_iff_ne,bne_iff_ne,ne_eq];omega
 rcases ho with rfl | rfl <;> rcases hdc with rfl | rfl | ⟨b1,b2,a1,a2⟩ <;> rcases hsc with rfl | rfl | rfl | ⟨b3,b4,b5,a3,a4,a5⟩
 all_goals (
  clear hd hs
  go_enter Tryz.func116, Tryz.ntmps116
  go_wp2_with (first | ((with_reducible refine (condR_i 30 false ⟨30,rfl,rfl⟩ _).mono ?_);rintro e w' ⟨rfl,rfl⟩) | ((with_reducible refine (condR_i 31 false ⟨31,rfl,rfl⟩ _).mono ?_);rintro e w' ⟨rfl,rfl⟩))
  all_goals (
   go_ret2
   try simp only [beq_eq_false_iff_ne,bne_iff_ne,ne_eq] at *
   unfold headR
   try rw [show condR 30=false from rfl]
   try rw [show condR 31=false from rfl]
   try simp only [Bool.false_eq_true,false_and]
   repeat (first | rw [if_pos (by omega)] | rw [if_neg (by omega)])
   first
    | exact HeadR.back (below_lit w _) (headR_0 _)
    | exact HeadR.back (below_lit w _) (headR_1n _ _ (by simp) _ _ _ (by omega) (by omega))
    | exact HeadR.back (below_lit w _) (headR_2n _ _ (by simp) _ _ _ _ _ (by omega) (by omega) (by omega) (by omega))
    | (exfalso;omega)))
set_option maxHeartbeats 16000000 in
set_option maxRecDepth 100000 in
theorem headR_s (op d s:Nat) (h1:10 ≤ op) (h2:op ≤ 51) (h3:op ≠ 17) (h4:op ≠ 30) (h5:op ≠ 31) (h0:s ≠ 0) (_hd:d ≤ 20) (hs:s ≤ 20) (w:World):Calls Tryz.prog 116 #[.int .i64 (op:Int),.int .i64 (d:Int),.int .i64 (s:Int)] w (HeadR (headR op d s) w):=by
 have ho:(10 ≤ op∧op ≤ 16) ∨ (18 ≤ op∧op ≤ 29) ∨ (32 ≤ op∧op ≤ 51):=by omega
 have hz:1 ≤ s:=by omega
 clear h1 h2 h3 h4 h5 h0
 rcases ho with ⟨ho1,ho2⟩ | ⟨ho1,ho2⟩ | ⟨ho1,ho2⟩
 all_goals (
  go_enter Tryz.func116, Tryz.ntmps116
  go_wp2_with fail
  all_goals (
   go_ret2
   try simp only [beq_eq_false_iff_ne,ne_eq] at *
   unfold headR
   repeat (first | rw [if_pos (by omega)] | rw [if_neg (by omega)])
   first
    | exact HeadR.back (below_lit w _) (headR_0 _)
    | exact HeadR.back (below_lit w _) (headR_1n _ _ (by simp) _ _ _ (by omega) (by omega))
    | exact HeadR.back (below_lit w _) (headR_2n _ _ (by simp) _ _ _ _ _ (by omega) (by omega) (by omega) (by omega))
    | (exfalso;omega)))
theorem single_at (op:Nat) (h1:20 ≤ op) (h2:op ≤ 29):(op=20 ∨ op=21 ∨ op=22 ∨ op=23 ∨ op=24) ∨ (op=25 ∨ op=26 ∨ op=27 ∨ op=28 ∨ op=29):=by omega
set_option maxHeartbeats 16000000 in
set_option maxRecDepth 100000 in
theorem headR_al (op d s:Nat) (h1:20 ≤ op) (h2:op ≤ 29) (h0:s=0) (hd:d ≤ 20) (hs:s ≤ 20) (w:World):Calls Tryz.prog 116 #[.int .i64 (op:Int),.int .i64 (d:Int),.int .i64 (s:Int)] w (HeadR (headR op d s) w):=by
 subst h0
 by_cases h0:d=0
 ·subst h0
  have C0:=heap_alloc_new w (.cells #[.int .u8 159,.int .u8 158,.int .u8 39,.int .u8 245,.int .u8 249,.int .u8 248,.int .u8 251,.int .u8 250,.int .u8 244,.int .u8 144] 5)
  rcases single_at op h1 h2 with (rfl | rfl | rfl | rfl | rfl) | (rfl | rfl | rfl | rfl | rfl)
  ·have k0:=cell_of_heap (i:=0) C0
   simp at k0
   clear C0
   go_enter Tryz.func116, Tryz.ntmps116
   go_wp2_with fail
   go_ret2
   exact headR_eqs _ _ _ _ _ (show ([159],0)=headR 20 0 0 from rfl) (HeadR.back (below_lit w _) (headR_1n _ _ (by simp) 159 159 0 rfl (by decide)))
  ·have k0:=cell_of_heap (i:=1) C0
   simp at k0
   clear C0
   go_enter Tryz.func116, Tryz.ntmps116
   go_wp2_with fail
   go_ret2
   exact headR_eqs _ _ _ _ _ (show ([158],0)=headR 21 0 0 from rfl) (HeadR.back (below_lit w _) (headR_1n _ _ (by simp) 158 158 0 rfl (by decide)))
  ·have k0:=cell_of_heap (i:=2) C0
   simp at k0
   clear C0
   go_enter Tryz.func116, Tryz.ntmps116
   go_wp2_with fail
   go_ret2
   exact headR_eqs _ _ _ _ _ (show ([39],0)=headR 22 0 0 from rfl) (HeadR.back (below_lit w _) (headR_1n _ _ (by simp) 39 39 0 rfl (by decide)))
  ·have k0:=cell_of_heap (i:=3) C0
   simp at k0
   clear C0
   go_enter Tryz.func116, Tryz.ntmps116
   go_wp2_with fail
   go_ret2
   exact headR_eqs _ _ _ _ _ (show ([245],0)=headR 23 0 0 from rfl) (HeadR.back (below_lit w _) (headR_1n _ _ (by simp) 245 245 0 rfl (by decide)))
  ·have k0:=cell_of_heap (i:=4) C0
   simp at k0
   clear C0
   go_enter Tryz.func116, Tryz.ntmps116
   go_wp2_with fail
   go_ret2
   exact headR_eqs _ _ _ _ _ (show ([249],0)=headR 24 0 0 from rfl) (HeadR.back (below_lit w _) (headR_1n _ _ (by simp) 249 249 0 rfl (by decide)))
  ·have k0:=cell_of_heap (i:=5) C0
   simp at k0
   clear C0
   go_enter Tryz.func116, Tryz.ntmps116
   go_wp2_with fail
   go_ret2
   exact headR_eqs _ _ _ _ _ (show ([248],0)=headR 25 0 0 from rfl) (HeadR.back (below_lit w _) (headR_1n _ _ (by simp) 248 248 0 rfl (by decide)))
  ·have k0:=cell_of_heap (i:=6) C0
   simp at k0
   clear C0
   go_enter Tryz.func116, Tryz.ntmps116
   go_wp2_with fail
   go_ret2
   exact headR_eqs _ _ _ _ _ (show ([251],0)=headR 26 0 0 from rfl) (HeadR.back (below_lit w _) (headR_1n _ _ (by simp) 251 251 0 rfl (by decide)))
  ·have k0:=cell_of_heap (i:=7) C0
   simp at k0
   clear C0
   go_enter Tryz.func116, Tryz.ntmps116
   go_wp2_with fail
   go_ret2
   exact headR_eqs _ _ _ _ _ (show ([250],0)=headR 27 0 0 from rfl) (HeadR.back (below_lit w _) (headR_1n _ _ (by simp) 250 250 0 rfl (by decide)))
  ·have k0:=cell_of_heap (i:=8) C0
   simp at k0
   clear C0
   go_enter Tryz.func116, Tryz.ntmps116
   go_wp2_with fail
   go_ret2
   exact headR_eqs _ _ _ _ _ (show ([244],0)=headR 28 0 0 from rfl) (HeadR.back (below_lit w _) (headR_1n _ _ (by simp) 244 244 0 rfl (by decide)))
  ·have k0:=cell_of_heap (i:=9) C0
   simp at k0
   clear C0
   go_enter Tryz.func116, Tryz.ntmps116
   go_wp2_with fail
   go_ret2
   exact headR_eqs _ _ _ _ _ (show ([144],0)=headR 29 0 0 from rfl) (HeadR.back (below_lit w _) (headR_1n _ _ (by simp) 144 144 0 rfl (by decide)))
 ·have hz:1 ≤ d:=by omega
  clear h0
  have hc:condR op=false:=by unfold condR;simp;omega
  have HC:=Lib.hid (fun W=>condR_x op W)
  rw [hc] at HC
  have HCC:=Lib.hid hc
  clear hc
  go_enter Tryz.func116, Tryz.ntmps116
  go_wp2_with ((with_reducible refine (HC.out _).mono ?_);rintro e w' ⟨rfl,rfl⟩)
  all_goals (
   go_ret2
   try simp only [beq_eq_false_iff_ne,ne_eq] at *
   unfold headR
   try rw [HCC.out]
   try simp only [Bool.false_eq_true,false_and]
   repeat (first | rw [if_pos (by omega)] | rw [if_neg (by omega)])
   first
    | exact HeadR.back (below_lit w _) (headR_0 _)
    | exact HeadR.back (below_lit w _) (headR_1n _ _ (by simp) _ _ _ (by omega) (by omega))
    | exact HeadR.back (below_lit w _) (headR_2n _ _ (by simp) _ _ _ _ _ (by omega) (by omega) (by omega) (by omega))
    | (exfalso;omega))
set_option maxHeartbeats 16000000 in
set_option maxRecDepth 100000 in
theorem headR_jp (op d s:Nat) (h1:32 ≤ op) (h2:op ≤ 51) (h0:s=0) (hd:d ≤ 20) (hs:s ≤ 20) (w:World):Calls Tryz.prog 116 #[.int .i64 (op:Int),.int .i64 (d:Int),.int .i64 (s:Int)] w (HeadR (headR op d s) w):=by
 subst h0
 have HC:=Lib.hid (fun W=>condR_x op W)
 have ho:(op=32∧condR op=false) ∨ (op=33∧condR op=false) ∨ (op=34∧condR op=false) ∨ (op=35∧condR op=false) ∨ ((36 ≤ op∧op ≤ 41)∧condR op=false) ∨ ((42 ≤ op∧op ≤ 45)∧condR op=true) ∨ ((46 ≤ op∧op ≤ 47)∧condR op=false) ∨ ((48 ≤ op∧op ≤ 51)∧condR op=true):=by
  unfold condR
  simp only [Bool.or_eq_true,Bool.and_eq_true,decide_eq_true_iff,Bool.or_eq_false_iff,Bool.and_eq_false_iff,decide_eq_false_iff_not]
  omega
 clear h1 h2
 have hdd:d=0 ∨ (((d:Int) == 0)=false∧((d:Int) == 20)=false∧1 ≤ d∧d ≤ 19) ∨ d=20:=by simp only [beq_eq_false_iff_ne,ne_eq];omega
 rcases ho with ⟨rfl,hc⟩ | ⟨rfl,hc⟩ | ⟨rfl,hc⟩ | ⟨rfl,hc⟩ | ⟨⟨ho1,ho2⟩,hc⟩ | ⟨⟨ho1,ho2⟩,hc⟩ | ⟨⟨ho1,ho2⟩,hc⟩ | ⟨⟨ho1,ho2⟩,hc⟩ <;> rcases hdd with rfl | ⟨b1,b2,hd1,hd2⟩ | rfl
 all_goals (
  clear hd
  rw [hc] at HC
  have HCC:=Lib.hid hc
  clear hc
  go_enter Tryz.func116, Tryz.ntmps116
  go_wp2_with (first | ((with_reducible refine (HC.out _).mono ?_);rintro e w' ⟨rfl,rfl⟩) | ((with_reducible refine (condR_i 32 false ⟨32,rfl,rfl⟩ _).mono ?_);rintro e w' ⟨rfl,rfl⟩) | ((with_reducible refine (condR_i 33 false ⟨33,rfl,rfl⟩ _).mono ?_);rintro e w' ⟨rfl,rfl⟩) | ((with_reducible refine (condR_i 34 false ⟨34,rfl,rfl⟩ _).mono ?_);rintro e w' ⟨rfl,rfl⟩) | ((with_reducible refine (condR_i 35 false ⟨35,rfl,rfl⟩ _).mono ?_);rintro e w' ⟨rfl,rfl⟩))
  all_goals (
   go_ret2
   try simp only [beq_eq_false_iff_ne,ne_eq] at *
   unfold headR
   try rw [HCC.out]
   try simp only [true_and,Bool.false_eq_true,false_and]
   repeat (first | rw [if_pos (by omega)] | rw [if_neg (by omega)])
   first
    | exact HeadR.back (below_lit w _) (headR_0 _)
    | exact HeadR.back (below_lit w _) (headR_1n _ _ (by simp) _ _ _ (by omega) (by omega))
    | exact HeadR.back (below_lit w _) (headR_2n _ _ (by simp) _ _ _ _ _ (by omega) (by omega) (by omega) (by omega))
    | (exfalso;omega)))
theorem refHead_any (op d s:Nat) (h1:1 ≤ op) (h2:op ≤ 51) (hd:d ≤ 20) (hs:s ≤ 20) (w:World):Calls Tryz.prog 116 #[.int .i64 (op:Int),.int .i64 (d:Int),.int .i64 (s:Int)] w (HeadR (heads86 op d s) w):=by
 rw [← headR_eq op d s h1 h2 hd hs]
 by_cases c1:op=1
 ·exact headR_mov op d s c1 hd hs w
 by_cases c2:op ≤ 9
 ·exact headR_sum op d s (by omega) c2 hd hs w
 by_cases c3:op=17
 ·exact headR_17 op d s c3 hd hs w
 by_cases c4:op=30 ∨ op=31
 ·exact headR_io op d s c4 hd hs w
 by_cases c5:s=0
 ·by_cases c6:op ≤ 19
  ·exact headR_one op d s (by omega) c6 c3 c5 hd hs w
  by_cases c7:op ≤ 29
  ·exact headR_al op d s (by omega) c7 c5 hd hs w
  exact headR_jp op d s (by omega) h2 c5 hd hs w
 ·exact headR_s op d s (by omega) h2 c3 (by omega) (by omega) c5 hd hs w
end Go.Proofs.YtagplldaooipmaaGreatDoor
