/- Wb. -/
import Derived.Test.YtagplldaooipmaaGreatDoorVa
namespace Go.Proofs.YtagplldaooipmaaGreatDoor
def moveR (d s:Nat):H86:=
 if (1 ≤ d∧d ≤ 8)∧(1 ≤ s∧s ≤ 8) then ([0x88,192 + (s - 1) * 8 + (d - 1)],0)
 else if (1 ≤ d∧d ≤ 8)∧s=17 then ([0x8a,8 * (d - 1) + 7],0)
 else if d=17∧(1 ≤ s∧s ≤ 8) then ([0x88,8 * (s - 1) + 7],0)
 else if d=1∧s=18 then ([0x8a,4],0)
 else if d=18∧s=1 then ([0x88,4],0)
 else if (1 ≤ d∧d ≤ 8)∧s=20 then ([0xb0 + d - 1],1)
 else if (9 ≤ d∧d ≤ 16)∧s=20 then ([0xb8 + d - 9],2)
 else if d=1∧s=19 then ([0xa0],2)
 else if d=19∧s=1 then ([0xa2],2)
 else if (9 ≤ d∧d ≤ 16)∧d ≠ 9∧s=19 then ([0x8b,8 * (d - 9) + 6],2)
 else if d=19∧(9 ≤ s∧s ≤ 16)∧s ≠ 9 then ([0x89,8 * (s - 9) + 6],2)
 else if (9 ≤ d∧d ≤ 16)∧(9 ≤ s∧s ≤ 16) then ([0x89,192 + (s - 9) * 8 + (d - 9)],0)
 else if d=17∧s=20 then ([0xc6,7],1)
 else ([],0)
def sumR (k d s:Nat):H86:=
 if (1 ≤ d∧d ≤ 8)∧(1 ≤ s∧s ≤ 8) then ([8 * k,192 + (s - 1) * 8 + (d - 1)],0)
 else if (9 ≤ d∧d ≤ 16)∧(9 ≤ s∧s ≤ 16) then ([8 * k + 1,192 + (s - 9) * 8 + (d - 9)],0)
 else if (1 ≤ d∧d ≤ 8)∧s=17 then ([8 * k + 2,8 * (d - 1) + 7],0)
 else if d=1∧s=20 then ([8 * k + 4],1)
 else if (1 ≤ d∧d ≤ 8)∧s=20 then ([0x80,192 + k * 8 + (d - 1)],1)
 else ([],0)
def oneR (op d:Nat):H86:=
 if op ≤ 11∧(1 ≤ d∧d ≤ 8) then ([0xfe,192 + (op - 10) * 8 + (d - 1)],0)
 else if op ≤ 11∧d=17 then ([0xfe,8 * (op - 10) + 7],0)
 else if op ≤ 11∧(9 ≤ d∧d ≤ 16) then ([0x40 + 8 * (op - 10) + d - 9],0)
 else if (12 ≤ op∧op ≤ 15)∧(1 ≤ d∧d ≤ 8) then ([0xd0,192 + (op - 12) * 8 + (d - 1)],0)
 else if (12 ≤ op∧op ≤ 15)∧(9 ≤ d∧d ≤ 16) then ([0xd1,192 + (op - 12) * 8 + (d - 9)],0)
 else if op=16∧(1 ≤ d∧d ≤ 8) then ([0xf6,192 + 2 * 8 + (d - 1)],0)
 else if 18 ≤ op∧(9 ≤ d∧d ≤ 16) then ([0x50 + 8 * (op - 18) + d - 9],0)
 else ([],0)
def condR (op:Nat):Bool:=(decide (42 ≤ op) && decide (op ≤ 45)) || (decide (48 ≤ op) && decide (op ≤ 51))
def headR (op d s:Nat):H86:=
 if op=1 then moveR d s
 else if 2 ≤ op∧op ≤ 9 then sumR (op - 2) d s
 else if op=17∧(1 ≤ d∧d ≤ 8)∧(1 ≤ s∧s ≤ 8) then ([0x86,192 + (s - 1) * 8 + (d - 1)],0)
 else if op=17∧(9 ≤ d∧d ≤ 16)∧(9 ≤ s∧s ≤ 16)∧d ≠ 9∧s ≠ 9 then ([0x87,192 + (s - 9) * 8 + (d - 9)],0)
 else if op=30∧d=1∧s=20 then ([0xe4],1)
 else if op=31∧d=20∧s=1 then ([0xe6],1)
 else if s ≠ 0 ∨ op=17 then ([],0)
 else if 10 ≤ op∧op ≤ 19 then oneR op d
 else if (20 ≤ op∧op ≤ 29)∧d=0 then ([single86.getD (op - 20) 0],0)
 else if op=32∧d=20 then ([0xe9],2)
 else if op=33∧d=20 then ([0xeb],3)
 else if op=34∧d=20 then ([0xe8],2)
 else if op=35∧d=0 then ([0xc3],0)
 else if condR op=true∧d=20 then ([0x70 + op - 40],3)
 else ([],0)
theorem headR_fin:∀ op:Fin 52,op.val=0 ∨ ∀ d s:Fin 21,headR op.val d.val s.val=heads86 op.val d.val s.val:=by decide +kernel
theorem headR_eq (op d s:Nat) (h1:1 ≤ op) (h2:op ≤ 51) (hd:d ≤ 20) (hs:s ≤ 20):headR op d s=heads86 op d s:=
 ((headR_fin ⟨op,by omega⟩).resolve_left (by simp only;omega)) ⟨d,by omega⟩ ⟨s,by omega⟩
end Go.Proofs.YtagplldaooipmaaGreatDoor
/- The reference's layer 8: registers, bytes; MOV. -/
namespace Go.Proofs.YtagplldaooipmaaGreatDoor
open Go.RowKit
theorem r8_t (c:Nat) (h:1 ≤ c∧c ≤ 8) (w:World):Calls Tryz.prog 165 #[.int .i64 (c:Int)] w fun e w'=>e=.returned (.bool true)∧w=w':=by
 obtain ⟨h1,h2⟩:=h
 have e1:(1:Int) ≤ (c:Int):=by omega
 have e2:(c:Int) ≤ 8:=by omega
 go_enter Tryz.func165, Tryz.ntmps165
 go_wp2_with fail
 go_ret
 exact ⟨rfl,rfl⟩
theorem r8_f (c:Nat) (h:¬ (1 ≤ c∧c ≤ 8)) (w:World):Calls Tryz.prog 165 #[.int .i64 (c:Int)] w fun e w'=>e=.returned (.bool false)∧w=w':=by
 by_cases h1:1 ≤ c
 ·have e1:(1:Int) ≤ (c:Int):=by omega
  have e2:decide ((c:Int) ≤ 8)=false:=by simp;omega
  clear h h1
  go_enter Tryz.func165, Tryz.ntmps165
  go_wp2_with fail
  go_ret
  exact ⟨rfl,rfl⟩
 ·obtain rfl:c=0:=by omega
  clear h h1
  go_enter Tryz.func165, Tryz.ntmps165
  go_wp2_with fail
  go_ret
  exact ⟨rfl,rfl⟩
theorem r16_t (c:Nat) (h:9 ≤ c∧c ≤ 16) (w:World):Calls Tryz.prog 167 #[.int .i64 (c:Int)] w fun e w'=>e=.returned (.bool true)∧w=w':=by
 obtain ⟨h1,h2⟩:=h
 have e1:(9:Int) ≤ (c:Int):=by omega
 have e2:(c:Int) ≤ 16:=by omega
 go_enter Tryz.func167, Tryz.ntmps167
 go_wp2_with fail
 go_ret
 exact ⟨rfl,rfl⟩
theorem r16_f (c:Nat) (h:¬ (9 ≤ c∧c ≤ 16)) (w:World):Calls Tryz.prog 167 #[.int .i64 (c:Int)] w fun e w'=>e=.returned (.bool false)∧w=w':=by
 by_cases h1:9 ≤ c
 ·have e1:(9:Int) ≤ (c:Int):=by omega
  have e2:decide ((c:Int) ≤ 16)=false:=by simp;omega
  clear h h1
  go_enter Tryz.func167, Tryz.ntmps167
  go_wp2_with fail
  go_ret
  exact ⟨rfl,rfl⟩
 ·have e1:decide ((9:Int) ≤ (c:Int))=false:=by simp;omega
  clear h h1
  go_enter Tryz.func167, Tryz.ntmps167
  go_wp2_with fail
  go_ret
  exact ⟨rfl,rfl⟩
theorem mR_x (x y:Int) (h1:0 ≤ x) (h2:x < 8) (h3:0 ≤ y) (h4:y < 8) (w:World):Calls Tryz.prog 166 #[.int .i64 x,.int .i64 y] w fun e w'=>e=.returned (.int .u8 (192 + x * 8 + y))∧w=w':=by
 go_enter Tryz.func166, Tryz.ntmps166
 go_wp2_with fail
 go_ret
 exact ⟨ret_int (by omega),rfl⟩
def HeadR (h:H86) (w:World) (e:Ending) (w':World):Prop:=∃ v,e=.returned (.tuple #[v,.int .i64 (h.2:Nat)])∧RdN w' v h.1∧Below w.heap.size w w'
theorem headR_0 (w:World):HeadR ([],0) w (.returned (.tuple #[.slice none 0 0,.int .i64 0])) w:=⟨_,rfl,RdN.nil0 _,Below.refl _ _⟩
theorem headR_1 (w:World) (x:Int) (a t:Nat) (hx:x=a) (ha:a < 256):HeadR ([a],t) w (.returned (.tuple #[.slice (some ⟨w.heap.size,0,none⟩) 1 1,.int .i64 (t:Int)])) (w.alloc (.cells #[.int .u8 x] 5)):=by
 subst hx
 refine ⟨_,rfl,⟨some ⟨w.heap.size,0,none⟩,1,rfl,Nat.le_refl _,fun _=>⟨w.heap.size,0,rfl,by simp,fun j u hu=>?_⟩⟩,(Below.refl _ _).alloc (Nat.le_refl _) _⟩
 rw [Nat.zero_add,cell_of_heap (heap_alloc_new w _)]
 simp only [List.map_cons,List.map_nil,bv] at hu
 match j,hu with
 | 0,hu=>simpa [Nat.mod_eq_of_lt ha] using hu
theorem headR_2 (w:World) (x y:Int) (a b t:Nat) (hx:x=a) (hy:y=b) (ha:a < 256) (hb:b < 256):HeadR ([a,b],t) w (.returned (.tuple #[.slice (some ⟨w.heap.size,0,none⟩) 2 2,.int .i64 (t:Int)])) (w.alloc (.cells #[.int .u8 x,.int .u8 y] 5)):=by
 subst hx;subst hy
 refine ⟨_,rfl,⟨some ⟨w.heap.size,0,none⟩,2,rfl,Nat.le_refl _,fun _=>⟨w.heap.size,0,rfl,by simp,fun j u hu=>?_⟩⟩,(Below.refl _ _).alloc (Nat.le_refl _) _⟩
 rw [Nat.zero_add,cell_of_heap (heap_alloc_new w _)]
 simp only [List.map_cons,List.map_nil,bv] at hu
 match j,hu with
 | 0,hu=>simpa [Nat.mod_eq_of_lt ha] using hu
 | 1,hu=>simpa [Nat.mod_eq_of_lt hb] using hu
theorem cats (c:Nat) (h:c ≤ 20):(c=0) ∨ (1 ≤ c∧c ≤ 8) ∨ (9 ≤ c∧c ≤ 16) ∨ (17 ≤ c∧c ≤ 20):=by omega
theorem r8_ti (x:Int) (h1:1 ≤ x) (h2:x ≤ 8) (w:World):Calls Tryz.prog 165 #[.int .i64 x] w fun e w'=>e=.returned (.bool true)∧w=w':=by
 obtain ⟨c,rfl⟩:∃ c:Nat,x=c:=⟨x.toNat,by omega⟩
 exact r8_t c (by omega) w
theorem r8_fi (x:Int) (h1:0 ≤ x) (h2:x < 1 ∨ 8 < x) (w:World):Calls Tryz.prog 165 #[.int .i64 x] w fun e w'=>e=.returned (.bool false)∧w=w':=by
 obtain ⟨c,rfl⟩:∃ c:Nat,x=c:=⟨x.toNat,by omega⟩
 exact r8_f c (by omega) w
theorem r16_ti (x:Int) (h1:9 ≤ x) (h2:x ≤ 16) (w:World):Calls Tryz.prog 167 #[.int .i64 x] w fun e w'=>e=.returned (.bool true)∧w=w':=by
 obtain ⟨c,rfl⟩:∃ c:Nat,x=c:=⟨x.toNat,by omega⟩
 exact r16_t c (by omega) w
theorem r16_fi (x:Int) (h1:0 ≤ x) (h2:x < 9 ∨ 16 < x) (w:World):Calls Tryz.prog 167 #[.int .i64 x] w fun e w'=>e=.returned (.bool false)∧w=w':=by
 obtain ⟨c,rfl⟩:∃ c:Nat,x=c:=⟨x.toNat,by omega⟩
 exact r16_f c (by omega) w
theorem cats9 (d:Nat) (h:d ≤ 20):d=0 ∨ (1 ≤ d∧d ≤ 8) ∨ d=9 ∨ (10 ≤ d∧d ≤ 16) ∨ (17 ≤ d∧d ≤ 20):=by omega
set_option maxHeartbeats 16000000 in
set_option maxRecDepth 100000 in
theorem moveR_any (d s:Nat) (hd:d ≤ 20) (hs:s ≤ 20) (w:World):Calls Tryz.prog 163 #[.int .i64 (d:Int),.int .i64 (s:Int)] w (HeadR (moveR d s) w):=by
 rcases cats9 d hd with rfl | ⟨hd1,hd2⟩ | rfl | ⟨hd1,hd2⟩ | ⟨hd1,hd2⟩ <;> rcases cats9 s hs with rfl | ⟨hs1,hs2⟩ | rfl | ⟨hs1,hs2⟩ | ⟨hs1,hs2⟩
 all_goals (
  clear hd hs
  go_enter Tryz.func163, Tryz.ntmps163
  go_wp2_with (first | ((with_reducible refine (r8_ti _ (by first | assumption | omega) (by first | assumption | omega) _).mono ?_);rintro e w' ⟨rfl,rfl⟩) | ((with_reducible refine (r8_fi _ (by first | assumption | omega) (by first | assumption | omega) _).mono ?_);rintro e w' ⟨rfl,rfl⟩) | ((with_reducible refine (r16_ti _ (by first | assumption | omega) (by first | assumption | omega) _).mono ?_);rintro e w' ⟨rfl,rfl⟩) | ((with_reducible refine (r16_fi _ (by first | assumption | omega) (by first | assumption | omega) _).mono ?_);rintro e w' ⟨rfl,rfl⟩) | ((with_reducible refine (mR_x _ _ (by first | assumption | omega) (by first | assumption | omega) (by first | assumption | omega) (by first | assumption | omega) _).mono ?_);rintro e w' ⟨rfl,rfl⟩))
  all_goals (
   go_ret2
   try simp only [beq_iff_eq,beq_eq_false_iff_ne,bne_iff_ne,bne_eq_false_iff_eq,ne_eq] at *
   unfold moveR
   repeat (first | rw [if_pos (by omega)] | rw [if_neg (by omega)])
   first
    | exact headR_0 _
    | exact headR_1 _ _ _ _ (by omega) (by omega)
    | exact headR_2 _ _ _ _ _ _ (by omega) (by omega) (by omega) (by omega)
    | (exfalso;omega)))
end Go.Proofs.YtagplldaooipmaaGreatDoor
/- The reference's layer 8: ADD .. CMP, what has one operand, conditions. -/
namespace Go.Proofs.YtagplldaooipmaaGreatDoor
open Go.RowKit
theorem condR_x (op:Nat) (w:World):Calls Tryz.prog 74 #[.int .i64 (op:Int)] w fun e w'=>e=.returned (.bool (condR op))∧w=w':=by
 have h:op < 42 ∨ (42 ≤ op∧op ≤ 45) ∨ (46 ≤ op∧op ≤ 47) ∨ (48 ≤ op∧op ≤ 51) ∨ 51 < op:=by omega
 rcases h with h | ⟨h1,h2⟩ | ⟨h1,h2⟩ | ⟨h1,h2⟩ | h
 ·rw [show condR op=false by rw [← Bool.not_eq_true];unfold condR;simp only [Bool.or_eq_true,Bool.and_eq_true,decide_eq_true_iff];omega]
  go_enter Tryz.func74, Tryz.ntmps74
  go_wp2_with fail
  all_goals (go_ret;first | exact ⟨rfl,rfl⟩ | exact ⟨ret_bool (by simp;omega),rfl⟩ | (exfalso;omega))
 ·rw [show condR op=true by unfold condR;simp only [Bool.or_eq_true,Bool.and_eq_true,decide_eq_true_iff];omega]
  go_enter Tryz.func74, Tryz.ntmps74
  go_wp2_with fail
  all_goals (go_ret;first | exact ⟨rfl,rfl⟩ | exact ⟨ret_bool (by simp;omega),rfl⟩ | (exfalso;omega))
 ·rw [show condR op=false by rw [← Bool.not_eq_true];unfold condR;simp only [Bool.or_eq_true,Bool.and_eq_true,decide_eq_true_iff];omega]
  have e1:decide ((op:Int) ≤ 45)=false:=by simp;omega
  have e2:decide ((48:Int) ≤ (op:Int))=false:=by simp;omega
  go_enter Tryz.func74, Tryz.ntmps74
  go_wp2_with fail
  all_goals (go_ret;first | exact ⟨rfl,rfl⟩ | exact ⟨ret_bool (by simp;omega),rfl⟩ | (exfalso;omega))
 ·rw [show condR op=true by unfold condR;simp only [Bool.or_eq_true,Bool.and_eq_true,decide_eq_true_iff];omega]
  have e1:decide ((op:Int) ≤ 45)=false:=by simp;omega
  go_enter Tryz.func74, Tryz.ntmps74
  go_wp2_with fail
  all_goals (go_ret;first | exact ⟨rfl,rfl⟩ | exact ⟨ret_bool (by simp;omega),rfl⟩ | (exfalso;omega))
 ·rw [show condR op=false by rw [← Bool.not_eq_true];unfold condR;simp only [Bool.or_eq_true,Bool.and_eq_true,decide_eq_true_iff];omega]
  have e1:decide ((op:Int) ≤ 45)=false:=by simp;omega
  have e2:decide ((op:Int) ≤ 51)=false:=by simp;omega
  go_enter Tryz.func74, Tryz.ntmps74
  go_wp2_with fail
  all_goals (go_ret;first | exact ⟨rfl,rfl⟩ | exact ⟨ret_bool (by simp;omega),rfl⟩ | (exfalso;omega))
set_option maxHeartbeats 16000000 in
set_option maxRecDepth 100000 in
theorem sumR_any (k d s:Nat) (hk:k ≤ 7) (hd:d ≤ 20) (hs:s ≤ 20) (w:World):Calls Tryz.prog 164 #[.int .i64 (k:Int),.int .i64 (d:Int),.int .i64 (s:Int)] w (HeadR (sumR k d s) w):=by
 rcases cats d hd with rfl | ⟨hd1,hd2⟩ | ⟨hd1,hd2⟩ | ⟨hd1,hd2⟩ <;> rcases cats s hs with rfl | ⟨hs1,hs2⟩ | ⟨hs1,hs2⟩ | ⟨hs1,hs2⟩
 all_goals (
  clear hd hs
  go_enter Tryz.func164, Tryz.ntmps164
  go_wp2_with (first | ((with_reducible refine (r8_ti _ (by first | assumption | omega) (by first | assumption | omega) _).mono ?_);rintro e w' ⟨rfl,rfl⟩) | ((with_reducible refine (r8_fi _ (by first | assumption | omega) (by first | assumption | omega) _).mono ?_);rintro e w' ⟨rfl,rfl⟩) | ((with_reducible refine (r16_ti _ (by first | assumption | omega) (by first | assumption | omega) _).mono ?_);rintro e w' ⟨rfl,rfl⟩) | ((with_reducible refine (r16_fi _ (by first | assumption | omega) (by first | assumption | omega) _).mono ?_);rintro e w' ⟨rfl,rfl⟩) | ((with_reducible refine (mR_x _ _ (by first | assumption | omega) (by first | assumption | omega) (by first | assumption | omega) (by first | assumption | omega) _).mono ?_);rintro e w' ⟨rfl,rfl⟩))
  all_goals (
   go_ret2
   try simp only [beq_iff_eq,beq_eq_false_iff_ne,ne_eq] at *
   unfold sumR
   repeat (first | rw [if_pos (by omega)] | rw [if_neg (by omega)])
   first
    | exact headR_0 _
    | exact headR_1 _ _ _ _ (by omega) (by omega)
    | exact headR_2 _ _ _ _ _ _ (by omega) (by omega) (by omega) (by omega)
    | (exfalso;omega)))
set_option maxHeartbeats 16000000 in
set_option maxRecDepth 100000 in
theorem oneR_any (op d:Nat) (h1:10 ≤ op) (h2:op ≤ 19) (hn:op ≠ 17) (hd:d ≤ 20) (w:World):Calls Tryz.prog 168 #[.int .i64 (op:Int),.int .i64 (d:Int)] w (HeadR (oneR op d) w):=by
 have ho:(10 ≤ op∧op ≤ 11) ∨ (12 ≤ op∧op ≤ 15) ∨ op=16 ∨ (18 ≤ op∧op ≤ 19):=by omega
 rcases cats d hd with rfl | ⟨hd1,hd2⟩ | ⟨hd1,hd2⟩ | ⟨hd1,hd2⟩ <;> rcases ho with ⟨ho1,ho2⟩ | ⟨ho1,ho2⟩ | rfl | ⟨ho1,ho2⟩
 all_goals (
  clear hd hn
  try clear h1 h2
  go_enter Tryz.func168, Tryz.ntmps168
  go_wp2_with (first | ((with_reducible refine (r8_ti _ (by first | assumption | omega) (by first | assumption | omega) _).mono ?_);rintro e w' ⟨rfl,rfl⟩) | ((with_reducible refine (r8_fi _ (by first | assumption | omega) (by first | assumption | omega) _).mono ?_);rintro e w' ⟨rfl,rfl⟩) | ((with_reducible refine (r16_ti _ (by first | assumption | omega) (by first | assumption | omega) _).mono ?_);rintro e w' ⟨rfl,rfl⟩) | ((with_reducible refine (r16_fi _ (by first | assumption | omega) (by first | assumption | omega) _).mono ?_);rintro e w' ⟨rfl,rfl⟩) | ((with_reducible refine (mR_x _ _ (by first | assumption | omega) (by first | assumption | omega) (by first | assumption | omega) (by first | assumption | omega) _).mono ?_);rintro e w' ⟨rfl,rfl⟩))
  all_goals (
   go_ret2
   try simp only [beq_iff_eq,beq_eq_false_iff_ne,ne_eq] at *
   unfold oneR
   repeat (first | rw [if_pos (by omega)] | rw [if_neg (by omega)])
   first
    | exact headR_0 _
    | exact headR_1 _ _ _ _ (by omega) (by omega)
    | exact headR_2 _ _ _ _ _ _ (by omega) (by omega) (by omega) (by omega)
    | (exfalso;omega)))
end Go.Proofs.YtagplldaooipmaaGreatDoor
