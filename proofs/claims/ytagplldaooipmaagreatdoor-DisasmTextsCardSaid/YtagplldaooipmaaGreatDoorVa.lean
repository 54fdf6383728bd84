/- Va. -/
import Derived.Test.YtagplldaooipmaaGreatDoorUa
import Derived.Test.YtagplldaooipmaaGreatDoorKa
import Derived.Test.YtagplldaooipmaaGreatDoorUb
import Derived.OwnWalk
import Derived.Lib.SlBytesConst
namespace Go.Proofs.YtagplldaooipmaaGreatDoor
def wide86 (c:Nat):Nat:=if 1 ≤ c∧c ≤ 8 then 8 else if 9 ≤ c∧c ≤ 16 then 16 else 0
def num86 (c:Nat):Nat:=(c + 7) % 8
def rm86 (x y:Nat):Nat:=192 + x * 8 + y
abbrev H86:=List Nat × Nat
def no86H:H86:=([],0)
def places86 (d s:Nat):H86:=
 if wide86 d=8∧s=17 then ([0x8a,num86 d * 8 + 7],0)
 else if d=17∧wide86 s=8 then ([0x88,num86 s * 8 + 7],0)
 else if d=1∧s=18 then ([0x8a,4],0)
 else if d=18∧s=1 then ([0x88,4],0)
 else if d=1∧s=19 then ([0xa0],2)
 else if d=19∧s=1 then ([0xa2],2)
 else if wide86 d=16∧d ≠ 9∧s=19 then ([0x8b,num86 d * 8 + 6],2)
 else if d=19∧wide86 s=16∧s ≠ 9 then ([0x89,num86 s * 8 + 6],2)
 else if wide86 d=8∧s=20 then ([0xb0 + num86 d],1)
 else if wide86 d=16∧s=20 then ([0xb8 + num86 d],2)
 else if d=17∧s=20 then ([0xc6,7],1)
 else no86H
def two86 (op d s:Nat):H86:=
 if op=1∧wide86 d ≠ 0∧wide86 d=wide86 s then ([0x88 + (if wide86 d=16 then 1 else 0),rm86 (num86 s) (num86 d)],0)
 else if op=1 then places86 d s
 else if op=17∧wide86 d ≠ 0∧wide86 d=wide86 s∧d ≠ 9∧s ≠ 9 then ([0x86 + (if wide86 d=16 then 1 else 0),rm86 (num86 s) (num86 d)],0)
 else if op=30∧d=1∧s=20 then ([0xe4],1)
 else if op=31∧d=20∧s=1 then ([0xe6],1)
 else if op < 2 ∨ 9 < op then no86H
 else if wide86 d ≠ 0∧wide86 d=wide86 s then ([(op - 2) % 8 * 8 + (if wide86 d=16 then 1 else 0),rm86 (num86 s) (num86 d)],0)
 else if wide86 d=8∧s=17 then ([(op - 2) % 8 * 8 + 2,num86 d * 8 + 7],0)
 else if d=1∧s=20 then ([(op - 2) % 8 * 8 + 4],1)
 else if wide86 d=8∧s=20 then ([0x80,rm86 ((op - 2) % 8) (num86 d)],1)
 else no86H
def one86 (op d:Nat):H86:=
 if op ≤ 11∧d=17 then ([0xfe,(op - 10) * 8 + 7],0)
 else if op ≤ 11∧wide86 d=8 then ([0xfe,rm86 (op - 10) (num86 d)],0)
 else if op ≤ 11∧wide86 d=16 then ([0x40 + (op - 10) * 8 + num86 d],0)
 else if op ≤ 15∧wide86 d ≠ 0 then ([0xd0 + wide86 d / 16,rm86 ((op - 12) % 8) (num86 d)],0)
 else if op=16∧wide86 d=8 then ([0xf6,rm86 2 (num86 d)],0)
 else if 18 ≤ op∧wide86 d=16 then ([0x50 + (op - 18) * 8 + num86 d],0)
 else no86H
def single86:List Nat:=[0x9f,0x9e,0x27,0xf5,0xf9,0xf8,0xfb,0xfa,0xf4,0x90]
def heads86 (op d s:Nat):H86:=
 if op < 1 then no86H
 else if s ≠ 0 ∨ op=1 ∨ op=17 then two86 op d s
 else if 10 ≤ op∧op ≤ 19 then one86 op d
 else if d=0∧20 ≤ op∧op ≤ 29 then ([single86.getD (op - 20) 0],0)
 else if d=0∧op=35 then ([0xc3],0)
 else if d ≠ 20 then no86H
 else if op=32 then ([0xe9],2)
 else if op=33 then ([0xeb],3)
 else if op=34 then ([0xe8],2)
 else if 42 ≤ op∧op ≤ 51∧op ≠ 46∧op ≠ 47 then ([0x70 + (op - 40)],3)
 else no86H
def size86 (h:H86):Nat:=if h.2=1 ∨ h.2=3 then h.1.length + 1 else if h.2=2 then h.1.length + 2 else h.1.length
def regc86 (x:Nat) (w:Bool):Nat:=if w then x % 8 + 9 else x % 8 + 1
def alone86 (a:Nat):Nat × Nat × Nat:=
 if a=0xa0 then (1,1,19) else if a=0xa2 then (1,19,1) else if a=0xe4 then (30,1,20) else if a=0xe6 then (31,20,1)
 else if a=0xe9 then (32,20,0) else if a=0xeb then (33,20,0) else if a=0xe8 then (34,20,0) else if a=0xc3 then (35,0,0)
 else if a ∈ single86 then (20 + single86.idxOf a,0,0) else (19,0,0)
def moved86 (a m reg r:Nat):Nat × Nat × Nat:=
 let place:=if m / 64=3 then r else if m % 8=7 then 17 else if m % 8=4 then 18 else if m % 8=6 then 19 else 0
 if a / 2 % 2=0 then (1,place,reg) else (1,reg,place)
def guess86 (a m:Nat):Nat × Nat × Nat:=
 if a < 0x40∧a % 8 < 2 then (a / 8 + 2,regc86 m (a % 2 == 1),regc86 (m / 8) (a % 2 == 1))
 else if a < 0x40∧a % 8=2 then (a / 8 + 2,regc86 (m / 8) (a % 2 == 1),17)
 else if a < 0x40∧a % 8=4 then (a / 8 + 2,1,20)
 else if a=0x27 then (22,0,0)
 else if a / 16=4 then (10 + a / 8 % 2,regc86 a true,0)
 else if a / 16=5 then (18 + a / 8 % 2,regc86 a true,0)
 else if a / 16=7 then (40 + a % 16,20,0)
 else if a=0x80 then (m / 8 % 8 + 2,regc86 m (a % 2 == 1),20)
 else if a=0x86 ∨ a=0x87 then (17,regc86 m (a % 2 == 1),regc86 (m / 8) (a % 2 == 1))
 else if a / 8=0xb0 / 8 then (1,regc86 a false,20)
 else if a / 8=0xb8 / 8 then (1,regc86 a true,20)
 else if a=0xc6 then (1,17,20)
 else if a=0xd0 ∨ a=0xd1 then (12 + m / 8 % 8,regc86 m (a % 2 == 1),0)
 else if a=0xf6 then (16,regc86 m (a % 2 == 1),0)
 else if a=0xfe∧m / 64=0 then (10 + m / 8 % 8,17,0)
 else if a=0xfe then (10 + m / 8 % 8,regc86 m (a % 2 == 1),0)
 else if a / 4=0x88 / 4 then moved86 a m (regc86 (m / 8) (a % 2 == 1)) (regc86 m (a % 2 == 1))
 else alone86 a
def seconds86 (b:List UInt8):List Nat:=if 1 < b.length then [byteN b 1] else List.range 256
def hitB (h:H86) (b:List UInt8) (m:Nat):Bool:=decide (min h.1.length b.length ≠ 0) && decide ((h.1.map UInt8.ofNat).take (min h.1.length b.length)=b.take (min h.1.length b.length)) && !(decide (h.1.length=2) && decide ((UInt8.ofNat (h.1.getD 1 0)).toNat ≠ m))
def tailN (h:H86) (b:List UInt8):Nat:=if h.2=1 then byteN b h.1.length else if h.2=3 then (if byteN b h.1.length < 128 then byteN b h.1.length else 65280 + byteN b h.1.length) else if h.2=2 then byteN b h.1.length + 256 * byteN b (h.1.length + 1) else 0
def tryH (g:Nat × Nat × Nat) (h:H86) (b:List UInt8) (m:Nat):Option ((Nat × Nat × Nat × Nat) × Nat × Nat):=
 if hitB h b m=false then none
 else if b.length < size86 h then some ((0,0,0,0),0,2)
 else some ((g.1,g.2.1,g.2.2,tailN h b),size86 h,0)
def try86 (b:List UInt8) (m:Nat):Option ((Nat × Nat × Nat × Nat) × Nat × Nat):=
 tryH (guess86 (byteN b 0) m) (heads86 (guess86 (byteN b 0) m).1 (guess86 (byteN b 0) m).2.1 (guess86 (byteN b 0) m).2.2) b m
def read86 (b:List UInt8):(Nat × Nat × Nat × Nat) × Nat × Nat:=
 if b = [] then ((0,0,0,0),0,2) else ((seconds86 b).findSome? (try86 b)).getD ((0,0,0,0),0,12)
def jumps86 (op:Nat):Bool:=decide (32 ≤ op∧op ≤ 34) || decide (42 ≤ op∧op ≤ 45) || decide (48 ≤ op∧op ≤ 51)
def arg86D (c n:Nat):List Ar:=if c=0 then [] else if c=19 then [memA n] else if c=20 then [numA n] else [operandD (argL c) 0]
def first86D (pl:Nat) (b:List UInt8):St × Nat × Int:=
 if (read86 b).2.2 ≠ 0 then dbD (byteN b 0)
 else
  let i:=(read86 b).1
  let n:=if jumps86 i.1 then (i.2.2.2 + pl + (read86 b).2.1) % 65536 else i.2.2.2
  (⟨[],false,nameL i.1,arg86D i.2.1 n ++ arg86D i.2.2.1 n⟩,(read86 b).2.1,if jumps86 i.1 then (n:Int) else -1)
end Go.Proofs.YtagplldaooipmaaGreatDoor
/- isa86: bounds of guess and heads, in plain Lean. -/
namespace Go.Proofs.YtagplldaooipmaaGreatDoor
theorem regc_le (x:Nat) (b:Bool):1 ≤ regc86 x b∧regc86 x b ≤ 16:=by unfold regc86;split <;> omega
theorem ite_p {α:Type} {P:α → Prop} {c:Prop} [Decidable c] {x y:α} (h1:c → P x) (h2:¬ c → P y):P (if c then x else y):=by
 split
 ·exact h1 ‹_›
 ·exact h2 ‹_›
def okG (g:Nat × Nat × Nat):Prop:=1 ≤ g.1∧g.1 ≤ 100∧g.2.1 ≤ 20∧g.2.2 ≤ 20
theorem moved_le (a m reg r:Nat) (h1:reg ≤ 20) (h2:r ≤ 20):okG (moved86 a m reg r):=by
 unfold moved86
 have hp:(if m / 64=3 then r else if m % 8=7 then 17 else if m % 8=4 then 18 else if m % 8=6 then 19 else 0) ≤ 20:=by repeat' (first | omega | split)
 generalize (if m / 64=3 then r else if m % 8=7 then 17 else if m % 8=4 then 18 else if m % 8=6 then 19 else 0)=pl at *
 refine ite_p (fun _=>?_) (fun _=>?_) <;> (unfold okG;simp only;omega)
theorem alone_le:∀ k:Fin 256,1 ≤ (alone86 k.val).1∧(alone86 k.val).1 ≤ 100∧(alone86 k.val).2.1 ≤ 20∧(alone86 k.val).2.2 ≤ 20:=by decide +kernel
theorem guess_le (a m:Nat) (ha:a < 256):okG (guess86 a m):=by
 have r1:=regc_le (m / 8) (a % 2 == 1)
 have r2:=regc_le m (a % 2 == 1)
 have r3:=regc_le a true
 have r4:=regc_le a false
 unfold guess86
 repeat' (first
  | exact moved_le a m _ _ (by omega) (by omega)
  | exact alone_le ⟨a,ha⟩
  | (refine ite_p (fun _=>?_) (fun _=>?_))
  | (unfold okG;simp only;omega))
theorem places_len (d s:Nat):(places86 d s).1.length ≤ 2∧(places86 d s).2 ≤ 3:=by unfold places86;repeat' (first | (constructor <;> simp [no86H];done) | split)
theorem two_len (op d s:Nat):(two86 op d s).1.length ≤ 2∧(two86 op d s).2 ≤ 3:=by
 have:=places_len d s
 unfold two86;repeat' (first | exact this | (constructor <;> simp [no86H];done) | split)
theorem one_len (op d:Nat):(one86 op d).1.length ≤ 2∧(one86 op d).2 ≤ 3:=by unfold one86;repeat' (first | (constructor <;> simp [no86H];done) | split)
theorem heads_len (op d s:Nat):(heads86 op d s).1.length ≤ 2∧(heads86 op d s).2 ≤ 3:=by
 have h1:=two_len op d s
 have h2:=one_len op d
 unfold heads86;repeat' (first | exact h1 | exact h2 | (constructor <;> simp [no86H];done) | split)
end Go.Proofs.YtagplldaooipmaaGreatDoor
/- isa86: register, moved. -/
namespace Go.Proofs.YtagplldaooipmaaGreatDoor
open Go.RowKit
set_option maxHeartbeats 1000000 in
set_option maxRecDepth 100000 in
theorem register_any (x:Nat) (b:Bool) (w:World) (h:x < 256):Calls Tryz.prog 145 #[.int .u8 (x:Int),.bool b] w fun e w'=>e=.returned (.int .i64 (regc86 x b:Nat))∧w'=w:=by
 cases b
 all_goals (
  go_enter Tryz.func145, Tryz.ntmps145
  go_wp2_with fail
  go_ret
  exact ⟨by unfold regc86;simp,rfl⟩)
set_option maxHeartbeats 2000000 in
set_option maxRecDepth 100000 in
theorem moved_any (a m reg r:Nat) (w:World) (ha:a < 256) (hm:m < 256) (_hr:reg < 17) (_hr2:r < 17):Calls Tryz.prog 146 #[.int .u8 (a:Int),.int .u8 (m:Int),.int .i64 (reg:Int),.int .i64 (r:Int)] w fun e w'=>e=.returned (.tuple #[.int .i64 (moved86 a m reg r).1,.int .i64 (moved86 a m reg r).2.1,.int .i64 (moved86 a m reg r).2.2])∧w'=w:=by
 have e2:=u8_and2 (x:=(a:Int)) (by omega) (by omega)
 go_enter Tryz.func146, Tryz.ntmps146
 go_wp2_with fail
 all_goals (
  go_ret3
  clear e2
  refine ⟨?_,rfl⟩
  simp only [beq_iff_eq,beq_eq_false_iff_ne,ne_eq] at *
  unfold moved86
  simp only
  repeat (first | rw [if_pos (by omega)] | rw [if_neg (by omega)])
  try rfl)
def idxB:List UInt8 → Nat → Nat → Int
 | [],_,_=>-1
 | y :: r,x,k=>if y.toNat=x then (k:Int) else idxB r x (k + 1)
theorem idxB_drop (l:List UInt8) (x k:Nat) (h:k < l.length):idxB (l.drop k) x k=if l[k].toNat=x then (k:Int) else idxB (l.drop (k + 1)) x (k + 1):=by
 rw [List.drop_eq_getElem_cons h,idxB]
set_option maxHeartbeats 2000000 in
set_option maxRecDepth 100000 in
theorem index_by (l:List UInt8) (x:Nat) (v:Value) (w:World) (hr:RdB w w.heap.size v l) (hl:l.length ≤ 1000000) :
  Calls Tryz.prog 186 #[v,.int .u8 (x:Int)] w fun e w'=>e=.returned (.int .i64 (idxB l x 0))∧w'=w:=by
 obtain ⟨A,c,rfl,hc⟩:=hr.form
 go_enter Tryz.func186, Tryz.ntmps186
 go_wp2_with fail
 go_loopw [8] (fun i wr=>∃ k:Nat,k ≤ l.length∧i=.int .i64 k∧wr=w∧idxB l x 0=idxB (l.drop k) x k) (fun i _=>l.length - (intOf i).toNat)
 case atStart=>exact ⟨0,Nat.zero_le _,rfl,rfl,rfl⟩
 case round=>
  obtain ⟨k,hk,rfl,rfl,hi⟩:=hrel
  have HI:=Lib.hid hi
  clear hi
  by_cases hlt:k < l.length
  ·obtain ⟨g,o,hA,hg,ck0⟩:=hr.get k hlt
   have ck:=ck0 k hlt
   rw [show byteN l k=l[k].toNat by unfold byteN;simp [hlt]] at ck
   clear ck0
   subst hA
   have HD:=Lib.hid (idxB_drop l x k hlt)
   generalize l[k]=y at *
   by_cases hy:y.toNat=x
   ·have HZ:Hid (idxB l x 0=k):=Lib.hid (by rw [HI.out,HD.out,if_pos hy])
    subst hy
    clear HD HI
    go_wp2_with fail
    go_ret
    exact ⟨by rw [HZ.out];rfl,rfl⟩
   ·have HZ:Hid (idxB l x 0=idxB (l.drop (k + 1)) x (k + 1)):=Lib.hid (by rw [HI.out,HD.out,if_neg hy])
    have e1:((x:Int) == (y.toNat:Int))=false:=by rw [beq_eq_false_iff_ne];omega
    clear HD HI hy
    go_wp2_with fail
    exact ⟨⟨k + 1,by omega,by simp,trivial,HZ.out⟩,by simp [intOf];omega⟩
  ·obtain rfl:k=l.length:=by omega
   have HZ:Hid (idxB l x 0 = -1):=Lib.hid (by rw [HI.out,List.drop_length];rfl)
   clear HI
   go_wp2_with fail
   go_ret
   exact ⟨by rw [HZ.out];rfl,rfl⟩
end Go.Proofs.YtagplldaooipmaaGreatDoor
/- isa86: alone. -/
namespace Go.Proofs.YtagplldaooipmaaGreatDoor
open Go.RowKit
def singleB:List UInt8:=[0x9f,0x9e,0x27,0xf5,0xf9,0xf8,0xfb,0xfa,0xf4,0x90]
theorem alone_idx:∀ k:Fin 256,wrap64 (20 + idxB singleB k.val 0)=(if k.val ∈ single86 then 20 + single86.idxOf k.val else 19:Nat):=by decide +kernel
theorem rd_by (w:World) (l:List UInt8) (T:TypeId) (fr:Nat × Nat):RdB (w.alloc (.cells (l.map bv).toArray T fr)) (w.alloc (.cells (l.map bv).toArray T fr)).heap.size (.slice (some ⟨w.heap.size,0,none⟩) l.length l.length) l:=by
 refine ⟨_,l.length,rfl,Nat.le_refl _,fun _=>⟨w.heap.size,0,rfl,by simp,fun j u hu=>?_⟩⟩
 rw [Nat.zero_add,Lib.cell_of_heap (heap_alloc_new w _)]
 simpa using hu
set_option maxHeartbeats 2000000 in
set_option maxRecDepth 100000 in
theorem alone_any (a:Nat) (w:World) (ha:a < 256):Calls Tryz.prog 147 #[.int .u8 (a:Int)] w fun e w'=>e=.returned (.tuple #[.int .i64 (alone86 a).1,.int .i64 (alone86 a).2.1,.int .i64 (alone86 a).2.2])∧Below w.heap.size w w':=by
  have kc:=fun (w:World) (C:Array Value) (n c:Nat)=>Lib.run_convert_bytes_const (P:=Tryz.prog) w 22 5 C n c Tryz.underlying22 Tryz.underlying5
  have HR:Hid (RdB (w.alloc (.cells #[.int .u8 0x9f,.int .u8 0x9e,.int .u8 0x27,.int .u8 0xf5,.int .u8 0xf9,.int .u8 0xf8,.int .u8 0xfb,.int .u8 0xfa,.int .u8 0xf4,.int .u8 0x90] 5 (10,11))) (w.alloc (.cells #[.int .u8 0x9f,.int .u8 0x9e,.int .u8 0x27,.int .u8 0xf5,.int .u8 0xf9,.int .u8 0xf8,.int .u8 0xfb,.int .u8 0xfa,.int .u8 0xf4,.int .u8 0x90] 5 (10,11))).heap.size (.slice (some ⟨w.heap.size,0,none⟩) 10 10) singleB):=Lib.hid (rd_by w singleB _ _)
  have HI:=Lib.hid (index_by singleB a _ _ HR.out (by decide))
  have HA:=Lib.hid (alone_idx ⟨a,ha⟩)
  have B1:=Lib.hid (fun o=>(Below.refl w.heap.size w).alloc (Nat.le_refl _) o)
  go_enter Tryz.func147, Tryz.ntmps147
  go_wp2_with ((with_reducible refine HI.out.mono ?_);rintro e w' ⟨rfl,rfl⟩)
  all_goals (
    go_ret3
    clear HR HI kc
    simp only [beq_iff_eq,beq_eq_false_iff_ne,ne_eq] at *
    first
      | (refine ⟨?_,Below.refl _ _⟩
         unfold alone86
         repeat (first | rw [if_pos (by omega)] | rw [if_neg (by omega)])
         rfl)
      | (refine ⟨?_,B1.out _⟩
         have h1:¬ a=160∧¬ a=162∧¬ a=228∧¬ a=230∧¬ a=233∧¬ a=235∧¬ a=232∧¬ a=195:=by omega
         unfold alone86
         rw [if_neg h1.1,if_neg h1.2.1,if_neg h1.2.2.1,if_neg h1.2.2.2.1,if_neg h1.2.2.2.2.1,if_neg h1.2.2.2.2.2.1,if_neg h1.2.2.2.2.2.2.1,if_neg h1.2.2.2.2.2.2.2]
         show Ending.returned (.tuple #[.int .i64 (wrap64 (20 + idxB singleB a 0)),.int .i64 0,.int .i64 0])=_
         rw [HA.out]
         split <;> rfl))
end Go.Proofs.YtagplldaooipmaaGreatDoor
/- isa86: an instruction's head, byte by byte: places. -/
namespace Go.Proofs.YtagplldaooipmaaGreatDoor
open Go.RowKit
set_option maxHeartbeats 400000 in
theorem wide_x (c:Nat) (w:World):Calls Tryz.prog 187 #[.int .i64 (c:Int)] w fun e w'=>e=.returned (.int .i64 (wide86 c:Nat))∧w=w':=by
 have h:(1 ≤ c∧c ≤ 8) ∨ (9 ≤ c∧c ≤ 16) ∨ (c=0 ∨ 16 < c):=by omega
 rcases h with h | h | h
 ·have e:wide86 c=8:=by unfold wide86;rw [if_pos h]
  rw [e]
  clear e
  obtain ⟨h1,h2⟩:=h
  go_enter Tryz.func187, Tryz.ntmps187
  go_wp2_with fail
  go_ret
  exact ⟨rfl,rfl⟩
 ·have e:wide86 c=16:=by unfold wide86;rw [if_neg (by omega),if_pos h]
  rw [e]
  clear e
  obtain ⟨h1,h2⟩:=h
  have h3:decide ((c:Int) ≤ 8)=false:=by simp;omega
  have h4:decide (1 ≤ c)=true:=by simp;omega
  go_enter Tryz.func187, Tryz.ntmps187
  go_wp2_with fail
  go_ret
  exact ⟨rfl,rfl⟩
 ·have e:wide86 c=0:=by unfold wide86;rw [if_neg (by omega),if_neg (by omega)]
  rw [e]
  clear e
  go_enter Tryz.func187, Tryz.ntmps187
  go_wp2_with fail
  all_goals (go_ret;first | exact ⟨rfl,rfl⟩ | omega)
theorem num_x (c:Nat) (h2:c ≤ 20) (w:World):Calls Tryz.prog 189 #[.int .i64 (c:Int)] w fun e w'=>e=.returned (.int .u8 (num86 c:Nat))∧w=w':=by
 go_enter Tryz.func189, Tryz.ntmps189
 go_wp2_with fail
 go_ret
 exact ⟨ret_int (by unfold num86;omega),rfl⟩
theorem rm_bits:∀ x y:Fin 8,bits .or .u8 (bits .or .u8 192 ((x.val:Int) * 8)) (y.val:Int)=192 + (x.val:Int) * 8 + y.val:=by decide +kernel
theorem mem_bits:∀ x y:Fin 8,bits .or .u8 ((x.val:Int) * 8) (y.val:Int)=(x.val:Int) * 8 + y.val:=by decide +kernel
theorem fin8 {P:Int → Prop} (h:∀ k:Fin 8,P (k.val:Int)) (x:Int) (h1:0 ≤ x) (h2:x < 8):P x:=by
 have:=h ⟨x.toNat,by omega⟩
 rwa [show ((x.toNat:Nat):Int)=x by omega] at this
theorem low_bits:∀ (x:Fin 32) (y:Fin 8),bits .or .u8 ((x.val:Int) * 8) (y.val:Int)=(x.val:Int) * 8 + y.val:=by decide +kernel
theorem low_bit (a x y:Int) (k:Fin 32) (ha:a=(k.val:Int) * 8) (hx:0 ≤ x) (hx':x < 8) (hy:y=a + x):bits .or .u8 a x=y:=by
 subst hy;subst ha
 exact fin8 (P:=fun y=>bits .or .u8 ((k.val:Int) * 8) y=(k.val:Int) * 8 + y) (fun b=>low_bits k b) x hx hx'
theorem rm_bit (x y:Int) (h1:0 ≤ x) (h2:x < 8) (h3:0 ≤ y) (h4:y < 8):bits .or .u8 (bits .or .u8 192 (x * 8)) y=192 + x * 8 + y:=
 fin8 (P:=fun x=>bits .or .u8 (bits .or .u8 192 (x * 8)) y=192 + x * 8 + y) (fun a=>fin8 (P:=fun y=>bits .or .u8 (bits .or .u8 192 ((a.val:Int) * 8)) y=192 + (a.val:Int) * 8 + y) (fun b=>rm_bits a b) y h3 h4) x h1 h2
theorem mem_bit (x y:Int) (h1:0 ≤ x) (h2:x < 8) (h3:0 ≤ y) (h4:y < 8):bits .or .u8 (x * 8) y=x * 8 + y:=
 fin8 (P:=fun x=>bits .or .u8 (x * 8) y=x * 8 + y) (fun a=>fin8 (P:=fun y=>bits .or .u8 ((a.val:Int) * 8) y=(a.val:Int) * 8 + y) (fun b=>mem_bits a b) y h3 h4) x h1 h2
theorem rm_x (x y:Int) (h1:0 ≤ x) (h2:x < 8) (h3:0 ≤ y) (h4:y < 8) (w:World):Calls Tryz.prog 188 #[.int .u8 x,.int .u8 y] w fun e w'=>e=.returned (.int .u8 (192 + x * 8 + y))∧w=w':=by
 go_enter Tryz.func188, Tryz.ntmps188
 go_wp2_with fail
 go_ret
 exact ⟨ret_int (rm_bit x y h1 h2 h3 h4),rfl⟩
theorem mem_x (x y:Int) (h1:0 ≤ x) (h2:x < 8) (h3:0 ≤ y) (h4:y < 8) (w:World):Calls Tryz.prog 191 #[.int .u8 x,.int .u8 y] w fun e w'=>e=.returned (.int .u8 (x * 8 + y))∧w=w':=by
 go_enter Tryz.func191, Tryz.ntmps191
 go_wp2_with fail
 go_ret
 exact ⟨ret_int (mem_bit x y h1 h2 h3 h4),rfl⟩
theorem num_lt (c:Nat):((num86 c:Nat):Int) < 8∧0 ≤ ((num86 c:Nat):Int):=by unfold num86;omega
theorem wide_i (c:Int) (k:Nat) (hc:c=k) (v:Int) (hv:((wide86 k:Nat):Int)=v) (w:World):Calls Tryz.prog 187 #[.int .i64 c] w fun e w'=>e=.returned (.int .i64 v)∧w=w':=by subst hc;subst hv;exact wide_x k w
theorem num_i (c:Int) (k:Nat) (hc:c=k) (hk:k ≤ 20) (v:Int) (hv:((num86 k:Nat):Int)=v) (w:World):Calls Tryz.prog 189 #[.int .i64 c] w fun e w'=>e=.returned (.int .u8 v)∧w=w':=by subst hc;subst hv;exact num_x k hk w
theorem cases86 (c:Nat) (h:c ≤ 20):c=0 ∨ c=1 ∨ (2 ≤ c∧c ≤ 8) ∨ c=9 ∨ (10 ≤ c∧c ≤ 16) ∨ c=17 ∨ c=18 ∨ c=19 ∨ c=20:=by omega
theorem wides (c:Nat):((wide86 c:Nat):Int)=8 ∨ ((wide86 c:Nat):Int)=16 ∨ ((wide86 c:Nat):Int)=0:=by unfold wide86;split <;> (try split) <;> simp
theorem wide_8 (c:Nat) (h1:2 ≤ c) (h2:c ≤ 8):((wide86 c:Nat):Int)=8:=by unfold wide86;rw [if_pos (by omega)];rfl
theorem wide_16 (c:Nat) (h1:10 ≤ c) (h2:c ≤ 16):((wide86 c:Nat):Int)=16:=by unfold wide86;rw [if_neg (by omega),if_pos (by omega)];rfl
def RdN (w:World) (v:Value) (l:List Nat):Prop:=RdB w w.heap.size v (l.map UInt8.ofNat)
def FreshV (b:Nat) (v:Value):Prop:=∀ g o n c,v=.slice (some ⟨g,o,none⟩) n c → b ≤ g
theorem fresh_nil (b:Nat):FreshV b (.slice none 0 0):=by intro g o n c h;injection h with h;cases h
theorem fresh_box (b n c:Nat):FreshV b (.slice (some ⟨b + 1,0,none⟩) n c):=by intro g o n' c' h;injection h with h;injection h with h;injection h with h;omega
def HeadX (h:H86) (w:World) (e:Ending) (w':World):Prop:=∃ v,e=.returned (.agg #[v,.int .i64 (h.2:Nat)])∧RdN w' v h.1∧Below w.heap.size w w'∧FreshV w.heap.size v
theorem RdN.set {w:World} {v:Value} {l:List Nat} {p:Addr} {u:Value} (h:RdN w v l) (hp:∀ g o n c,v=.slice (some ⟨g,o,none⟩) n c → g ≠ p.block):RdN (w.setCell p u) v l:=by
 obtain ⟨A,c,rfl,h1,h2⟩:=h
 refine ⟨A,c,rfl,h1,fun h0=>?_⟩
 obtain ⟨g,o,rfl,h4,h5⟩:=h2 h0
 refine ⟨g,o,rfl,by simpa [World.setCell] using h4,fun j u hu=>?_⟩
 rw [World.cell?_of_block (Below.heap_setCell w p _ g (hp g o _ _ rfl))]
 exact h5 j u hu
theorem of86_x (t:Int) (bs:List Int) (w:World) (T:TypeId) (n:Nat) (hn:bs.length=n) (hb:∀ x ∈ bs,0 ≤ x∧x < 256) :
  Calls Tryz.prog 150 #[.int .i64 t,.slice (some ⟨w.heap.size + 1,0,none⟩) n n] ((w.alloc (.cells #[.slice none 0 0,.int .i64 0] 132)).alloc (.cells (bs.map (Value.int .u8)).toArray T)) fun e w'=>e=.returned (.agg #[.slice (some ⟨w.heap.size + 1,0,none⟩) n n,.int .i64 t]) ∧
  Hid (Below w.heap.size w w')∧Hid (RdB w' w'.heap.size (.slice (some ⟨w.heap.size + 1,0,none⟩) n n) (bs.map byteOf))∧w'.cell? ⟨w.heap.size,0,none⟩=some (.slice none 0 0)∧w'.cell? ⟨w.heap.size,1,none⟩=some (.int .i64 0)∧w'.frozen? ⟨w.heap.size,0,none⟩=false∧w'.frozen? ⟨w.heap.size,1,none⟩=false:=by
 subst hn
 have hof:Calls Tryz.prog 150 #[.int .i64 t,.slice (some ⟨w.heap.size + 1,0,none⟩) bs.length bs.length] ((w.alloc (.cells #[.slice none 0 0,.int .i64 0] 132)).alloc (.cells (bs.map (Value.int .u8)).toArray T)) fun e w'=>e=.returned (.agg #[.slice (some ⟨w.heap.size + 1,0,none⟩) bs.length bs.length,.int .i64 t])∧Below ((w.alloc (.cells #[.slice none 0 0,.int .i64 0] 132)).alloc (.cells (bs.map (Value.int .u8)).toArray T)).heap.size ((w.alloc (.cells #[.slice none 0 0,.int .i64 0] 132)).alloc (.cells (bs.map (Value.int .u8)).toArray T)) w':=by
  generalize (w.alloc (.cells #[.slice none 0 0,.int .i64 0] 132)).alloc (.cells (bs.map (Value.int .u8)).toArray T)=W
  go_enter Tryz.func150, Tryz.ntmps150
  go_wp2_with fail
  exact bodyPost_ret (v:=.agg #[.slice (some ⟨w.heap.size + 1,0,none⟩) bs.length bs.length,.int .i64 t]) (by simp [results,Tryz.results150,go_sem]) rfl ⟨rfl,(Below.refl _ _).alloc (Nat.le_refl _) _⟩
 refine hof.mono ?_
 rintro e w1 ⟨rfl,hb1⟩
 have B1:=Lib.hid (bthen (((Below.refl w.heap.size w).alloc (Nat.le_refl _) _).alloc (by simp) _) hb1)
 have C1:=(hb1.block w.heap.size (by simp;omega)).trans ((Below.heap_alloc _ _ _ (by simp)).trans (heap_alloc_new w _))
 have C3:=heap_alloc_new (w.alloc (.cells #[.slice none 0 0,.int .i64 0] 132)) (.cells (bs.map (Value.int .u8)).toArray T)
 rw [World.size_alloc] at C3
 have C2:=(hb1.block (w.heap.size + 1) (by simp)).trans C3
 have c0:=cell_of_heap (i:=0) C1
 have c1:=cell_of_heap (i:=1) C1
 have f0:=frozen_of_heap (i:=0) C1
 have f1:=frozen_of_heap (i:=1) C1
 simp at c0 c1 f0 f1
 refine ⟨rfl,B1,Lib.hid ?_,c0,c1,f0,f1⟩
 refine ⟨_,bs.length,by simp,by simp,fun _=>⟨w.heap.size + 1,0,rfl,lt_of_heap C2,fun j u hu=>?_⟩⟩
 rw [Nat.zero_add,cell_of_heap C2]
 simp only [List.map_map,List.getElem?_map,Option.map_eq_some_iff] at hu
 obtain ⟨x,hx,rfl⟩:=hu
 obtain ⟨h1,h2⟩:=hb x (List.mem_of_getElem? hx)
 simp only [List.getElem?_toArray,List.getElem?_map,hx,Option.map_some,Function.comp,bv,byteOf]
 congr 2
 simp
 omega
theorem of86_1 (t x:Int) (h1:0 ≤ x) (h2:x < 256) (w:World) (T:TypeId) :
  Calls Tryz.prog 150 #[.int .i64 t,.slice (some ⟨w.heap.size + 1,0,none⟩) 1 1] ((w.alloc (.cells #[.slice none 0 0,.int .i64 0] 132)).alloc (.cells #[.int .u8 x] T)) fun e w'=>e=.returned (.agg #[.slice (some ⟨w.heap.size + 1,0,none⟩) 1 1,.int .i64 t]) ∧
  Hid (Below w.heap.size w w')∧Hid (RdB w' w'.heap.size (.slice (some ⟨w.heap.size + 1,0,none⟩) 1 1) [byteOf x])∧w'.cell? ⟨w.heap.size,0,none⟩=some (.slice none 0 0)∧w'.cell? ⟨w.heap.size,1,none⟩=some (.int .i64 0)∧w'.frozen? ⟨w.heap.size,0,none⟩=false∧w'.frozen? ⟨w.heap.size,1,none⟩=false:=
 of86_x t [x] w T 1 rfl (by intro a ha;obtain rfl:=List.mem_singleton.1 ha;exact ⟨h1,h2⟩)
theorem of86_2 (t x y:Int) (h1:0 ≤ x) (h2:x < 256) (h3:0 ≤ y) (h4:y < 256) (w:World) (T:TypeId) :
  Calls Tryz.prog 150 #[.int .i64 t,.slice (some ⟨w.heap.size + 1,0,none⟩) 2 2] ((w.alloc (.cells #[.slice none 0 0,.int .i64 0] 132)).alloc (.cells #[.int .u8 x,.int .u8 y] T)) fun e w'=>e=.returned (.agg #[.slice (some ⟨w.heap.size + 1,0,none⟩) 2 2,.int .i64 t]) ∧
  Hid (Below w.heap.size w w')∧Hid (RdB w' w'.heap.size (.slice (some ⟨w.heap.size + 1,0,none⟩) 2 2) [byteOf x,byteOf y])∧w'.cell? ⟨w.heap.size,0,none⟩=some (.slice none 0 0)∧w'.cell? ⟨w.heap.size,1,none⟩=some (.int .i64 0)∧w'.frozen? ⟨w.heap.size,0,none⟩=false∧w'.frozen? ⟨w.heap.size,1,none⟩=false:=
 of86_x t [x,y] w T 2 rfl (by intro a ha;simp only [List.mem_cons,List.not_mem_nil,or_false] at ha;rcases ha with rfl | rfl <;> constructor <;> assumption)
theorem RdN.one {w:World} {v:Value} {x:Int} {a:Nat} (h:RdB w w.heap.size v [byteOf x]) (hx:x=a):RdN w v [a]:=by subst hx;exact h
theorem RdN.two {w:World} {v:Value} {x y:Int} {a b:Nat} (h:RdB w w.heap.size v [byteOf x,byteOf y]) (hx:x=a) (hy:y=b):RdN w v [a,b]:=by subst hx;subst hy;exact h
theorem RdN.nil0 (w:World):RdN w (.slice none 0 0) []:=⟨none,0,rfl,Nat.le_refl _,fun h=>by simp at h⟩
theorem RdN.box {w:World} {b n c:Nat} {l:List Nat} {x y:Value} (h:RdN w (.slice (some ⟨b + 1,0,none⟩) n c) l):RdN ((w.setCell ⟨b,0,none⟩ x).setCell ⟨b,1,none⟩ y) (.slice (some ⟨b + 1,0,none⟩) n c) l:=by
 refine (h.set ?_).set ?_ <;> (rintro g o n' c' h2;injection h2 with h2 _ _;injection h2 with h2;injection h2 with h2;subst h2;simp)
theorem HeadX.inbox {f:FuncId} {args:Array Value} {h:H86} {w:World} (hc:Calls Tryz.prog f args (w.alloc (.cells #[.slice none 0 0,.int .i64 0] 132)) (HeadX h (w.alloc (.cells #[.slice none 0 0,.int .i64 0] 132)))) :
  Calls Tryz.prog f args (w.alloc (.cells #[.slice none 0 0,.int .i64 0] 132)) fun e w'=>∃ A c,e=.returned (.agg #[.slice A h.1.length c,.int .i64 (h.2:Nat)])∧Hid (RdN w' (.slice A h.1.length c) h.1)∧Hid (FreshV (w.heap.size + 1) (.slice A h.1.length c))∧Hid (Below w.heap.size w w') ∧
   w'.cell? ⟨w.heap.size,0,none⟩=some (.slice none 0 0)∧w'.cell? ⟨w.heap.size,1,none⟩=some (.int .i64 0)∧w'.frozen? ⟨w.heap.size,0,none⟩=false∧w'.frozen? ⟨w.heap.size,1,none⟩=false:=by
 refine hc.mono ?_
 rintro e w1 ⟨v,rfl,hr,hb1,hf⟩
 obtain ⟨A,c,rfl,hc'⟩:=hr.form
 rw [List.length_map] at *
 have C1:=(hb1.block w.heap.size (by simp)).trans (heap_alloc_new w _)
 have c0:=cell_of_heap (i:=0) C1
 have c1:=cell_of_heap (i:=1) C1
 have f0:=frozen_of_heap (i:=0) C1
 have f1:=frozen_of_heap (i:=1) C1
 simp at c0 c1 f0 f1
 refine ⟨A,c,rfl,Lib.hid hr,Lib.hid (by rwa [World.size_alloc] at hf),Lib.hid (bthen ((Below.refl w.heap.size w).alloc (Nat.le_refl _) _) hb1),c0,c1,f0,f1⟩
theorem RdN.boxf {w:World} {b:Nat} {v:Value} {l:List Nat} {x y:Value} (h:RdN w v l) (hf:FreshV (b + 1) v):RdN ((w.setCell ⟨b,0,none⟩ x).setCell ⟨b,1,none⟩ y) v l:=by
 refine (h.set ?_).set ?_ <;> (intro g o n c h2;have:=hf g o n c h2;simp;omega)
theorem FreshV.less {b b':Nat} {v:Value} (h:FreshV b v) (hb:b' ≤ b):FreshV b' v:=fun g o n c e=>Nat.le_trans hb (h g o n c e)
end Go.Proofs.YtagplldaooipmaaGreatDoor
