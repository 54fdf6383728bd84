/- Vb. -/
import Derived.Test.YtagplldaooipmaaGreatDoorVa
import Derived.RegionTactic
import Derived.Deep.QuietTactic
import Derived.BigQuiet
import Derived.Test.YtagplldaooipmaaGreatDoorI86i
import Derived.Deep.RegionHeld3
namespace Go.Proofs.YtagplldaooipmaaGreatDoor
open Go.RowKit
theorem regc_lt (x:Nat) (b:Bool):regc86 x b < 17:=by unfold regc86;split <;> omega
theorem register_i (x:Int) (n:Nat) (hx:x=n) (b:Bool) (w:World) (h:n < 256):Calls Tryz.prog 145 #[.int .u8 x,.bool b] w fun e w'=>e=.returned (.int .i64 (regc86 n b:Nat))∧w'=w:=by subst hx;exact register_any n b w h
set_option maxHeartbeats 8000000 in
set_option maxRecDepth 100000 in
theorem guess_any (a m:Nat) (ha:a < 256) (hm:m < 256) (w:World):Calls Tryz.prog 103 #[.int .u8 (a:Int),.int .u8 (m:Int)] w fun e w'=>e=.returned (.tuple #[.int .i64 (guess86 a m).1,.int .i64 (guess86 a m).2.1,.int .i64 (guess86 a m).2.2])∧Below w.heap.size w w':=by
  have Q1:=u8_andFC (x:=(a:Int)) (by omega) (by omega)
  have R3:=Lib.hid (fun W=>register_any a true W ha)
  have R4:=Lib.hid (fun W=>register_any a false W ha)
  have AA:=Lib.hid (fun W=>alone_any a W ha)
  have hr:=regc_lt (m / 8) (a % 2 == 1)
  have hr2:=regc_lt m (a % 2 == 1)
  have MA:=Lib.hid (fun W=>moved_any a m (regc86 (m / 8) (a % 2 == 1)) (regc86 m (a % 2 == 1)) W ha hm hr hr2)
  clear hr hr2
  have hwb:(a % 2=1∧Hid ((a % 2 == 1)=true)) ∨ (a % 2=0∧Hid ((a % 2 == 1)=false)):=by
    by_cases h:a % 2=1
    · exact .inl ⟨h,Lib.hid (by rw [h];rfl)⟩
    · exact .inr ⟨by omega,Lib.hid (by rw [show a % 2=0 by omega];rfl)⟩
  rcases hwb with ⟨hw,HW⟩ | ⟨hw,HW⟩
  all_goals (
    rw [HW.out] at MA
    first
      | (have e1:(((a:Int) % 2) == 1)=true:=by rw [beq_iff_eq];omega
         have R1:=Lib.hid (fun W=>register_i ((m:Int) / 8) (m / 8) (by omega) true W (by omega))
         have R2:=Lib.hid (fun W=>register_i (m:Int) m rfl true W hm)
         clear hw
         go_enter Tryz.func103, Tryz.ntmps103
         go_wp2_with (first | ((with_reducible refine (R1.out _).mono ?_);rintro e w' ⟨rfl,rfl⟩) | ((with_reducible refine (R2.out _).mono ?_);rintro e w' ⟨rfl,rfl⟩) | ((with_reducible refine (R3.out _).mono ?_);rintro e w' ⟨rfl,rfl⟩) | ((with_reducible refine (R4.out _).mono ?_);rintro e w' ⟨rfl,rfl⟩) | ((with_reducible refine (AA.out _).mono ?_);rintro e w' ⟨rfl,hb⟩) | ((with_reducible refine (MA.out _).mono ?_);rintro e w' ⟨rfl,rfl⟩)))
      | (have e1:(((a:Int) % 2) == 1)=false:=by rw [beq_eq_false_iff_ne];omega
         have R1:=Lib.hid (fun W=>register_i ((m:Int) / 8) (m / 8) (by omega) false W (by omega))
         have R2:=Lib.hid (fun W=>register_i (m:Int) m rfl false W hm)
         clear hw
         go_enter Tryz.func103, Tryz.ntmps103
         go_wp2_with (first | ((with_reducible refine (R1.out _).mono ?_);rintro e w' ⟨rfl,rfl⟩) | ((with_reducible refine (R2.out _).mono ?_);rintro e w' ⟨rfl,rfl⟩) | ((with_reducible refine (R3.out _).mono ?_);rintro e w' ⟨rfl,rfl⟩) | ((with_reducible refine (R4.out _).mono ?_);rintro e w' ⟨rfl,rfl⟩) | ((with_reducible refine (AA.out _).mono ?_);rintro e w' ⟨rfl,hb⟩) | ((with_reducible refine (MA.out _).mono ?_);rintro e w' ⟨rfl,rfl⟩)))
    all_goals (
      go_ret3
      try simp only [beq_iff_eq,beq_eq_false_iff_ne,ne_eq] at *
      unfold guess86
      repeat (first | rw [if_pos (by omega)] | rw [if_neg (by omega)])
      try first
        | rw [show (a % 2 == 1)=true by (have q:=HW.out;simp at q ⊢;omega)]
        | rw [show (a % 2 == 1)=false by (have q:=HW.out;simp at q ⊢;omega)]
      first
        | exact ⟨rfl,Below.refl _ _⟩
        | exact ⟨rfl,hb⟩))
end Go.Proofs.YtagplldaooipmaaGreatDoor
/- isa86: size, Jumps. -/
namespace Go.Proofs.YtagplldaooipmaaGreatDoor
open Go.RowKit
set_option maxHeartbeats 1000000 in
theorem size_x (A:Option Addr) (n c t:Nat) (hn:n ≤ 1000) (ht:t ≤ 3) (w:World):Calls Tryz.prog 106 #[.agg #[.slice A n c,.int .i64 (t:Int)]] w fun e w'=>e=.returned (.int .i64 ((if t=1 ∨ t=3 then n + 1 else if t=2 then n + 2 else n:Nat):Int))∧Below w.heap.size w w':=by
 have ht4:t=0 ∨ t=1 ∨ t=2 ∨ t=3:=by omega
 rcases ht4 with rfl | rfl | rfl | rfl
 all_goals (
  go_enter Tryz.func106, Tryz.ntmps106
  go_wp2_with fail
  go_ret
  exact ⟨by simp,(Below.refl _ _).alloc (Nat.le_refl _) _⟩)
set_option maxHeartbeats 2000000 in
set_option maxRecDepth 100000 in
theorem jumps86_any (op d s n:Nat) (w:World):Calls Tryz.prog 63 #[.agg #[.int .i64 (op:Int),.int .i64 (d:Int),.int .i64 (s:Int),.int .u16 (n:Int)]] w fun e w'=>e=.returned (.bool (jumps86 op))∧Below w.heap.size w w':=by
  go_enter Tryz.func63, Tryz.ntmps63
  go_wp2_with fail
  all_goals (
    go_ret
    refine ⟨ret_bool ?_,(Below.refl _ _).alloc (Nat.le_refl _) _⟩
    simp only [beq_iff_eq,beq_eq_false_iff_ne,ne_eq] at *
    unfold jumps86
    first
      | (have:(32 ≤ op∧op ≤ 34) ∨ (42 ≤ op∧op ≤ 45) ∨ (48 ≤ op∧op ≤ 51):=by omega
         simp;omega)
      | (simp;omega))
end Go.Proofs.YtagplldaooipmaaGreatDoor
/- slices.Equal of bytes. -/
namespace Go.Proofs.YtagplldaooipmaaGreatDoor
open Go.RowKit
set_option maxHeartbeats 2000000 in
set_option maxRecDepth 100000 in
theorem equal_by (l r:List UInt8) (v u:Value) (w:World) (hv:RdB w w.heap.size v l) (hu:RdB w w.heap.size u r) (hl:l.length ≤ 1000000) (hl2:r.length ≤ 1000000) :
  Calls Tryz.prog 105 #[v,u] w fun e w'=>e=.returned (.bool (decide (l=r)))∧∃ n,w'=w.drewN n:=by
 obtain ⟨A,c,rfl,hc⟩:=hv.form
 obtain ⟨B,d,rfl,hd⟩:=hu.form
 by_cases hn:l.length=r.length
 ·have HD:Hid (∀ k (h1:k < l.length) (h2:k < r.length),l.drop k=r.drop k ↔ (l[k]=r[k]∧l.drop (k + 1)=r.drop (k + 1))):=Lib.hid (fun k h1 h2=>by rw [List.drop_eq_getElem_cons h1,List.drop_eq_getElem_cons h2,List.cons.injEq])
  have e0:((l.length:Int) != (r.length:Int))=false:=by simp [hn]
  have HN:=Lib.hid hn
  clear hn
  go_enter Tryz.func105, Tryz.ntmps105
  go_wp2_with fail
  go_loopw [13] (fun i wr=>∃ k:Nat,k ≤ l.length∧i=.int .i64 k∧(∃ n,wr=w.drewN n)∧(l=r ↔ l.drop k=r.drop k)) (fun i _=>l.length - (intOf i).toNat)
  case atStart=>exact ⟨0,Nat.zero_le _,rfl,⟨0,rfl⟩,by simp⟩
  case round=>
   obtain ⟨k,hk,rfl,⟨n,rfl⟩,hi⟩:=hrel
   have HI:=Lib.hid hi
   clear hi
   by_cases hlt:k < l.length
   ·have hlt2:k < r.length:=by rw [← HN.out];exact hlt
    obtain ⟨g,o,hA,hg,ck0⟩:=hv.get k hlt
    have ck:=ck0 k hlt
    rw [show byteN l k=l[k].toNat by unfold byteN;simp [hlt]] at ck
    obtain ⟨g',o',hB,hg',dk0⟩:=hu.get k hlt2
    have dk:=dk0 k hlt2
    rw [show byteN r k=r[k].toNat by unfold byteN;simp [hlt2]] at dk
    clear ck0 dk0
    subst hA hB
    have HX:=Lib.hid (HI.out.trans (HD.out k hlt hlt2))
    clear HD HI
    have i0:(0:Int) ≤ (k:Int):=by omega
    have i1:(k:Int) < (l.length:Int):=by omega
    have i2:(k:Int) < (r.length:Int):=by omega
    by_cases hy:l[k]=r[k]
    ·have e1:(((l[k].toNat:Nat):Int) != ((r[k].toNat:Nat):Int))=false:=by simp [hy]
     have HZ:Hid (l=r ↔ l.drop (k + 1)=r.drop (k + 1)):=Lib.hid (by rw [HX.out];simp [hy])
     clear HX hy
     generalize l[k]=y at *
     generalize r[k]=z at *
     go_wp2_with fail
     go_quiet (fail)
     go_wp2_with fail
     exact ⟨⟨k + 1,by omega,by simp,⟨_,rfl⟩,HZ.out⟩,by simp [intOf];omega⟩
    ·have e1:(((l[k].toNat:Nat):Int) != ((r[k].toNat:Nat):Int))=true:=by
      rw [bne_iff_ne]
      intro h
      exact hy (UInt8.toNat_inj.1 (by omega))
     have HZ:Hid (decide (l=r)=false):=Lib.hid (by rw [decide_eq_false_iff_not,HX.out];exact fun h=>hy h.1)
     clear HX hy
     generalize l[k]=y at *
     generalize r[k]=z at *
     go_wp2_with fail
     go_quiet (fail)
     go_wp2_with fail
     go_ret
     exact ⟨ret_bool HZ.out.symm,_,by rw [World.drewN_drewN]⟩
   ·obtain rfl:k=l.length:=by omega
    have HZ:Hid (decide (l=r)=true):=Lib.hid (by rw [decide_eq_true_iff,HI.out,List.drop_length,HN.out,List.drop_length])
    clear HI HD
    go_wp2_with fail
    go_ret
    exact ⟨ret_bool HZ.out.symm,_,rfl⟩
 ·have e0:((l.length:Int) != (r.length:Int))=true:=by rw [bne_iff_ne];omega
  have HZ:Hid (decide (l=r)=false):=Lib.hid (by rw [decide_eq_false_iff_not];rintro rfl;exact hn rfl)
  clear hn
  go_enter Tryz.func105, Tryz.ntmps105
  go_wp2_with fail
  go_ret
  exact ⟨ret_bool HZ.out.symm,0,rfl⟩
end Go.Proofs.YtagplldaooipmaaGreatDoor
/- isa86: what Read returns. -/
namespace Go.Proofs.YtagplldaooipmaaGreatDoor
open Go.RowKit
def ReadP (w:World) (r:(Nat × Nat × Nat × Nat) × Nat × Nat) (e:Ending) (w':World):Prop:=e=.returned (.tuple #[.agg #[.int .i64 r.1.1,.int .i64 r.1.2.1,.int .i64 r.1.2.2.1,.int .u16 r.1.2.2.2],.int .i64 r.2.1,.int .i64 r.2.2])∧Below w.heap.size w w'
theorem RdB.take {w:World} {B c:Nat} {A:Option Addr} {b:List UInt8} (h:RdB w B (.slice A b.length c) b) (m:Nat) (hm:m ≤ b.length):RdB w B (.slice A m c) (b.take m):=by
 obtain ⟨A',c',h1,h2,h3⟩:=h
 injection h1 with h1 _ h4
 subst h1;subst h4
 refine ⟨A,c,by rw [List.length_take,Nat.min_eq_left hm],by rw [List.length_take];omega,fun h0=>?_⟩
 rw [List.length_take] at h0
 obtain ⟨g,o,h5,h6,h7⟩:=h3 (by omega)
 refine ⟨g,o,h5,h6,fun j u hu=>h7 j u ?_⟩
 rw [List.map_take,List.getElem?_take] at hu
 split at hu
 ·exact hu
 ·cases hu
theorem four_set {W:World} {B:Nat} {T:TypeId} {a0 a1 a2 a3:Value} (x0 x1 x2 x3:Value) (C:W.heap[B]? = some (.cells #[a0,a1,a2,a3] T)) :
  ((((W.setCell ⟨B,0,none⟩ x0).setCell ⟨B,1,none⟩ x1).setCell ⟨B,2,none⟩ x2).setCell ⟨B,3,none⟩ x3).cell? ⟨B,0,none⟩=some x0∧((((W.setCell ⟨B,0,none⟩ x0).setCell ⟨B,1,none⟩ x1).setCell ⟨B,2,none⟩ x2).setCell ⟨B,3,none⟩ x3).cell? ⟨B,1,none⟩=some x1 ∧
  ((((W.setCell ⟨B,0,none⟩ x0).setCell ⟨B,1,none⟩ x1).setCell ⟨B,2,none⟩ x2).setCell ⟨B,3,none⟩ x3).cell? ⟨B,2,none⟩=some x2∧((((W.setCell ⟨B,0,none⟩ x0).setCell ⟨B,1,none⟩ x1).setCell ⟨B,2,none⟩ x2).setCell ⟨B,3,none⟩ x3).cell? ⟨B,3,none⟩=some x3:=by
 have h:=heap_set (i:=3) x3 (heap_set (i:=2) x2 (heap_set (i:=1) x1 (heap_set (i:=0) x0 C)))
 exact ⟨(cell_of_heap h).trans rfl,(cell_of_heap h).trans rfl,(cell_of_heap h).trans rfl,(cell_of_heap h).trans rfl⟩
end Go.Proofs.YtagplldaooipmaaGreatDoor
/- isa86: Read of two bytes or more: no form, or one that is cut short. -/
namespace Go.Proofs.YtagplldaooipmaaGreatDoor
open Go.RowKit
theorem second_same (hb:List Nat) (b:List UInt8) (h2:hb.length=2) (h:hb.map UInt8.ofNat=b.take hb.length):(UInt8.ofNat (hb.getD 1 0)).toNat=byteN b 1:=by
 match hb with
 | [x,y]=>
  match b with
  | []=>simp at h
  | [_]=>simp at h
  | c :: c' :: r=>
   simp at h
   simp [byteN,h]
 | []=>simp at h2
 | [_]=>simp at h2
 | _ :: _ :: _ :: _=>simp at h2
def isHead (hb:List Nat) (b:List UInt8):Prop:=hb.length ≠ 0∧hb.map UInt8.ofNat=b.take hb.length
set_option maxHeartbeats 8000000 in
set_option maxRecDepth 100000 in
theorem read86_miss (b:List UInt8) (v:Value) (w:World) (hr:RdB w w.heap.size v b) (hl:b.length ≤ 1000000) (h2:2 ≤ b.length) (op d s:Nat) (hG:guess86 (byteN b 0) (byteN b 1)=(op,d,s)) (hb:List Nat) (ht:Nat) (hH:heads86 op d s=(hb,ht)) (hn:¬ isHead hb b):Calls Tryz.prog 61 #[v] w (ReadP w ((0,0,0,0),0,12)):=by
 obtain ⟨A,c,rfl,hc⟩:=hr.form
 obtain ⟨g,o,hA,hg,hcell⟩:=hr.get 0 (by omega)
 have c1:=hcell 1 (by omega)
 have c0:=hcell 0 (by omega)
 rw [Nat.add_zero] at c0
 subst hA
 have e0:((b.length:Int) == 0)=false:=by rw [beq_eq_false_iff_ne];omega
 have e1:(1:Int) < (b.length:Int):=by omega
 have l0:=byteN_lt b 0
 have l1:=byteN_lt b 1
 have HG:=Lib.hid (fun W=>guess_any (byteN b 0) (byteN b 1) l0 l1 W)
 have HRR:=Lib.hid hr
 have hgl:=guess_le (byteN b 0) (byteN b 1) l0
 rw [hG] at HG hgl
 simp only at HG
 obtain ⟨q1,q2,q3,q4⟩:=hgl
 simp only at q1 q2 q3 q4
 have HH:=Lib.hid (fun W=>heads_x op d s q1 q2 q3 q4 W)
 have HL:=heads_len op d s
 rw [hH] at HH HL
 have hl1:hb.length ≤ 2:=HL.1
 have ht3:ht ≤ 3:=HL.2
 clear hcell hr q1 q2 q3 q4 hG hH HL
 go_enter Tryz.func61, Tryz.ntmps61
 go_wp2_with fail
 refine wp_loop_rounds 2 ?_
 rw [rounds_succ]
 go_wp2_with fail
 refine (HG.out _).mono ?_
 rintro e w1 ⟨rfl,hb1⟩
 have B1:=Lib.hid (bthen (((Below.refl w.heap.size w).alloc (Nat.le_refl _) (.cells #[.int .i64 0,.int .i64 0,.int .i64 0,.int .u16 0] 94)).alloc (by simp) (.cells #[.int .u8 (byteN b 1:Nat)] 5)) hb1)
 have C1:=Lib.hid ((hb1.block w.heap.size (by simp;omega)).trans ((Below.heap_alloc _ _ _ (by simp)).trans (heap_alloc_new w (.cells #[.int .i64 0,.int .i64 0,.int .i64 0,.int .u16 0] 94))))
 clear hb1
 go_wp2_with fail
 refine (HH.out _).mono ?_
 rintro e w2 ⟨hv,rfl,hrd,hb2,hfv⟩
 obtain ⟨hA,hc',rfl,hcc⟩:=hrd.form
 rw [List.length_map] at *
 have RD2:=Lib.hid hrd
 have B2:=Lib.hid (bthen B1.out hb2)
 have C2:=Lib.hid ((hb2.block w.heap.size (lt_of_heap C1.out)).trans C1.out)
 have Z2:=lt_of_heap C2.out
 clear hrd hb2
 have k0:=cell_of_heap (i:=0) C2.out
 have k1:=cell_of_heap (i:=1) C2.out
 have k2:=cell_of_heap (i:=2) C2.out
 have k3:=cell_of_heap (i:=3) C2.out
 have f0:=frozen_of_heap (i:=0) C2.out
 have f1:=frozen_of_heap (i:=1) C2.out
 have f2:=frozen_of_heap (i:=2) C2.out
 have f3:=frozen_of_heap (i:=3) C2.out
 simp at k0 k1 k2 k3 f0 f1 f2 f3
 have HMN:=(show min (hb.length:Int) (b.length:Int)=(hb.length:Int) by omega)
 have BX:=Lib.hid (fun W (hW:Below w2.heap.size w2 W)=>B2.out.trans (hW.mono B2.out.size))
 by_cases h0:hb.length=0
 ·have z0:((hb.length:Int) == 0)=true:=by rw [beq_iff_eq];omega
  clear h0 hl1 RD2 hn
  go_wp2_with fail
  go_quiet (fail)
  go_wp2_with fail
  rw [rounds_succ]
  go_wp2_with fail
  obtain ⟨m0,m1,m2,m3⟩:=four_set (W:=(w2.alloc (.cells #[.slice hA hb.length hc',.int .i64 (ht:Int)] 132)).drewN nq) (.int .i64 0) (.int .i64 0) (.int .i64 0) (.int .u16 0) ((Below.heap_alloc w2 _ w.heap.size Z2).trans C2.out)
  refine bodyPost_ret (v:=.tuple #[.agg #[.int .i64 0,.int .i64 0,.int .i64 0,.int .u16 0],.int .i64 0,.int .i64 12]) (by simp [results,Tryz.results61,go_sem,m0,m1,m2,m3]) rfl ⟨rfl,?_⟩
  exact ((((below_dn (BX.out _ ((Below.refl _ _).alloc (Nat.le_refl _) _)) nq).setCell (by simp) _).setCell (by simp) _).setCell (by simp) _).setCell (by simp) _
 ·have hq:¬ hb.map UInt8.ofNat=b.take hb.length:=fun h=>hn ⟨h0,h⟩
  have e4:((hb.length:Int) == 0)=false:=by rw [beq_eq_false_iff_ne];omega
  have EQ:=Lib.hid (fun W (hW:Below w2.heap.size w2 W)=>equal_by (hb.map UInt8.ofNat) (b.take hb.length) (.slice hA hb.length hc') (.slice (some ⟨g,o,none⟩) hb.length c) W ((RD2.out.below hW).more hW.size) ((RdB.take (HRR.out.below (BX.out W hW)) hb.length (by omega)).more (Nat.le_trans B2.out.size hW.size)) (by simp;omega) (by simp;omega))
  have BQ:=Lib.hid (fun n=>below_dn ((Below.refl w2.heap.size w2).alloc (Nat.le_refl _) (.cells #[.slice hA hb.length hc',.int .i64 (ht:Int)] 132)) n)
  have z1:(0:Int) ≤ (hb.length:Int):=by omega
  have z2:(hb.length:Int) ≤ (hc':Int):=by have q:=hcc;simp at q;omega
  have z3:(hb.length:Int) ≤ (c:Int):=by omega
  rw [decide_eq_false hq] at EQ
  clear hn h0 hq hl1
  go_wp2_with fail
  go_quiet ((go_at_call 105;exact Calls.quiet_of (EQ.out _ (BQ.out _))))
  go_wp2_with fail
  rw [rounds_succ]
  go_wp2_with fail
  obtain ⟨m0,m1,m2,m3⟩:=four_set (W:=(w2.alloc (.cells #[.slice hA hb.length hc',.int .i64 (ht:Int)] 132)).drewN nq) (.int .i64 0) (.int .i64 0) (.int .i64 0) (.int .u16 0) ((Below.heap_alloc w2 _ w.heap.size Z2).trans C2.out)
  refine bodyPost_ret (v:=.tuple #[.agg #[.int .i64 0,.int .i64 0,.int .i64 0,.int .u16 0],.int .i64 0,.int .i64 12]) (by simp [results,Tryz.results61,go_sem,m0,m1,m2,m3]) rfl ⟨rfl,?_⟩
  exact ((((below_dn (BX.out _ ((Below.refl _ _).alloc (Nat.le_refl _) _)) nq).setCell (by simp) _).setCell (by simp) _).setCell (by simp) _).setCell (by simp) _
set_option maxHeartbeats 8000000 in
set_option maxRecDepth 100000 in
theorem read86_short (b:List UInt8) (v:Value) (w:World) (hr:RdB w w.heap.size v b) (hl:b.length ≤ 1000000) (h2:2 ≤ b.length) (op d s:Nat) (hG:guess86 (byteN b 0) (byteN b 1)=(op,d,s)) (hb:List Nat) (ht:Nat) (hH:heads86 op d s=(hb,ht)) (hn:isHead hb b) (hs2:b.length < size86 (hb,ht)):Calls Tryz.prog 61 #[v] w (ReadP w ((0,0,0,0),0,2)):=by
 obtain ⟨h0,hq⟩:=hn
 obtain ⟨A,c,rfl,hc⟩:=hr.form
 obtain ⟨g,o,hA,hg,hcell⟩:=hr.get 0 (by omega)
 have c1:=hcell 1 (by omega)
 have c0:=hcell 0 (by omega)
 rw [Nat.add_zero] at c0
 subst hA
 have e0:((b.length:Int) == 0)=false:=by rw [beq_eq_false_iff_ne];omega
 have e1:(1:Int) < (b.length:Int):=by omega
 have l0:=byteN_lt b 0
 have l1:=byteN_lt b 1
 have HG:=Lib.hid (fun W=>guess_any (byteN b 0) (byteN b 1) l0 l1 W)
 have HRR:=Lib.hid hr
 have hgl:=guess_le (byteN b 0) (byteN b 1) l0
 rw [hG] at HG hgl
 simp only at HG
 obtain ⟨q1,q2,q3,q4⟩:=hgl
 simp only at q1 q2 q3 q4
 have HH:=Lib.hid (fun W=>heads_x op d s q1 q2 q3 q4 W)
 have HL:=heads_len op d s
 rw [hH] at HH HL
 have hl1:hb.length ≤ 2:=HL.1
 have ht3:ht ≤ 3:=HL.2
 clear hcell hr q1 q2 q3 q4 hG hH HL
 go_enter Tryz.func61, Tryz.ntmps61
 go_wp2_with fail
 refine wp_loop_rounds 2 ?_
 rw [rounds_succ]
 go_wp2_with fail
 refine (HG.out _).mono ?_
 rintro e w1 ⟨rfl,hb1⟩
 have B1:=Lib.hid (bthen (((Below.refl w.heap.size w).alloc (Nat.le_refl _) (.cells #[.int .i64 0,.int .i64 0,.int .i64 0,.int .u16 0] 94)).alloc (by simp) (.cells #[.int .u8 (byteN b 1:Nat)] 5)) hb1)
 have C1:=Lib.hid ((hb1.block w.heap.size (by simp;omega)).trans ((Below.heap_alloc _ _ _ (by simp)).trans (heap_alloc_new w (.cells #[.int .i64 0,.int .i64 0,.int .i64 0,.int .u16 0] 94))))
 clear hb1
 go_wp2_with fail
 refine (HH.out _).mono ?_
 rintro e w2 ⟨hv,rfl,hrd,hb2,hfv⟩
 obtain ⟨hA,hc',rfl,hcc⟩:=hrd.form
 rw [List.length_map] at *
 have RD2:=Lib.hid hrd
 have B2:=Lib.hid (bthen B1.out hb2)
 have C2:=Lib.hid ((hb2.block w.heap.size (lt_of_heap C1.out)).trans C1.out)
 have Z2:=lt_of_heap C2.out
 clear hrd hb2
 have k0:=cell_of_heap (i:=0) C2.out
 have k1:=cell_of_heap (i:=1) C2.out
 have k2:=cell_of_heap (i:=2) C2.out
 have k3:=cell_of_heap (i:=3) C2.out
 have f0:=frozen_of_heap (i:=0) C2.out
 have f1:=frozen_of_heap (i:=1) C2.out
 have f2:=frozen_of_heap (i:=2) C2.out
 have f3:=frozen_of_heap (i:=3) C2.out
 simp at k0 k1 k2 k3 f0 f1 f2 f3
 have HMN:=(show min (hb.length:Int) (b.length:Int)=(hb.length:Int) by omega)
 have BX:=Lib.hid (fun W (hW:Below w2.heap.size w2 W)=>B2.out.trans (hW.mono B2.out.size))
 have e4:((hb.length:Int) == 0)=false:=by rw [beq_eq_false_iff_ne];omega
 have EQ:=Lib.hid (fun W (hW:Below w2.heap.size w2 W)=>equal_by (hb.map UInt8.ofNat) (b.take hb.length) (.slice hA hb.length hc') (.slice (some ⟨g,o,none⟩) hb.length c) W ((RD2.out.below hW).more hW.size) ((RdB.take (HRR.out.below (BX.out W hW)) hb.length (by omega)).more (Nat.le_trans B2.out.size hW.size)) (by simp;omega) (by simp;omega))
 have BQ:=Lib.hid (fun n=>below_dn ((Below.refl w2.heap.size w2).alloc (Nat.le_refl _) (.cells #[.slice hA hb.length hc',.int .i64 (ht:Int)] 132)) n)
 have z1:(0:Int) ≤ (hb.length:Int):=by omega
 have z2:(hb.length:Int) ≤ (hc':Int):=by have q:=hcc;simp at q;omega
 have z3:(hb.length:Int) ≤ (c:Int):=by omega
 rw [decide_eq_true hq] at EQ
 have HS:=Lib.hid (fun W=>size_x hA hb.length hc' ht (by omega) ht3 W)
 have hsz:((if ht=1 ∨ ht=3 then hb.length + 1 else if ht=2 then hb.length + 2 else hb.length:Nat))=size86 (hb,ht):=rfl
 rw [hsz] at HS
 have HX:Hid ((hb.length=2∧∃ g' o',hA=some ⟨g',o',none⟩∧(∀ W,Below w2.heap.size w2 W → W.cell? ⟨g',o' + 1,none⟩=some (.int .u8 (byteN b 1:Nat)))) ∨ ((hb.length:Int) == 2)=false):=Lib.hid (by
  by_cases h22:hb.length=2
  ·left
   have RD3:RdB w2 w2.heap.size (.slice hA (hb.map UInt8.ofNat).length hc') (hb.map UInt8.ofNat):=by rw [List.length_map];exact RD2.out
   obtain ⟨g',o',hA',hg',hc'⟩:=RD3.get 1 (by rw [List.length_map];omega)
   refine ⟨h22,g',o',hA',fun W hW=>?_⟩
   have h4:=hc' 1 (by rw [List.length_map];omega)
   have h3:=second_same hb b h22 hq
   rw [hW.cell (p:=⟨g',o' + 1,none⟩) hg',h4,← h3]
   congr 3
   unfold byteN
   rw [List.getD_eq_getElem?_getD,List.getD_eq_getElem?_getD,List.getElem?_map]
   obtain ⟨y,hy⟩:∃ y,hb[1]? = some y:=⟨hb[1],List.getElem?_eq_getElem (by omega)⟩
   rw [hy]
   rfl
  ·right;rw [beq_eq_false_iff_ne];omega)
 generalize size86 (hb,ht)=SZ at *
 clear h0 hq hl1 hsz
 rcases HX.out with ⟨h22,g',o',rfl,hC1⟩ | e5
 have e5:((hb.length:Int) == 2)=true:=by rw [beq_iff_eq];omega
 have e7:(1:Int) < (hb.length:Int):=by omega
 have e6:=hC1 (w2.alloc (.cells #[.slice (some ⟨g',o',none⟩) hb.length hc',.int .i64 (ht:Int)] 132)) ((Below.refl _ _).alloc (Nat.le_refl _) _)
 clear hC1 h22
 rotate_left
 all_goals (
  clear HX
  go_wp2_with fail
  go_quiet ((go_at_call 105;exact Calls.quiet_of (EQ.out _ (BQ.out _))))
  go_wp2_with fail
  try generalize (some (⟨g',o',none⟩:Addr))=hA at *
  refine (HS.out _).mono ?_
  rintro e w3 ⟨rfl,hb3⟩
  have B23:=Lib.hid (bthen (BQ.out nq) hb3)
  have BX3:=Lib.hid (BX.out w3 B23.out)
  have C3:=Lib.hid ((B23.out.block w.heap.size Z2).trans C2.out)
  have H3:=Lib.hid ((hb3.block w2.heap.size (by simp)).trans (heap_alloc_new w2 _))
  have R3:=Lib.hid (HRR.out.below BX3.out)
  have Z3:=lt_of_heap C3.out
  have Y3:=lt_of_heap H3.out
  clear hb3 k0 k1 k2 k3 f0 f1 f2 f3
  have k0:=cell_of_heap (i:=0) C3.out
  have k1:=cell_of_heap (i:=1) C3.out
  have k2:=cell_of_heap (i:=2) C3.out
  have k3:=cell_of_heap (i:=3) C3.out
  have f0:=frozen_of_heap (i:=0) C3.out
  have f1:=frozen_of_heap (i:=1) C3.out
  have f2:=frozen_of_heap (i:=2) C3.out
  have f3:=frozen_of_heap (i:=3) C3.out
  have j0:=cell_of_heap (i:=0) H3.out
  have j1:=cell_of_heap (i:=1) H3.out
  simp at k0 k1 k2 k3 f0 f1 f2 f3 j0 j1
  go_wp2_with fail
  obtain ⟨m0,m1,m2,m3⟩:=four_set (W:=w3) (.int .i64 0) (.int .i64 0) (.int .i64 0) (.int .u16 0) (C3.out)
  refine bodyPost_ret (v:=.tuple #[.agg #[.int .i64 0,.int .i64 0,.int .i64 0,.int .u16 0],.int .i64 0,.int .i64 2]) (by simp [results,Tryz.results61,go_sem,m0,m1,m2,m3]) rfl ⟨rfl,?_⟩
  exact ((((BX3.out).setCell (by simp) _).setCell (by simp) _).setCell (by simp) _).setCell (by simp) _)
end Go.Proofs.YtagplldaooipmaaGreatDoor
