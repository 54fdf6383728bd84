/- Rp4. -/
import Derived.Test.YtagplldaooipmaaGreatDoorWd
namespace Go.Proofs.YtagplldaooipmaaGreatDoor
open Go.RowKit
set_option maxHeartbeats 8000000 in
set_option maxRecDepth 100000 in
theorem of80_in (b:List UInt8) (v:Value) (w:World) (hr:RdB w w.heap.size v b) (hl:b.length ≤ 1000000) (op n size:Nat) (hrd:read80 b=((op,n),size,0)) (ho:op < 256) (hn:n < 65536) (hq:¬ (op / 64=3∧op % 8=7)) (pl:Nat) (d:Int) (hd:(d == 1)=false) :
  Calls Tryz.prog 39 #[.int .i64 d,.int .i64 pl,v] w (PieceR w ⟨pl,size,name80 op,(args80 op).map (fun a=>operandD a n),jumps80 op,n,0⟩):=by
 have HR:=Lib.hid (fun W (hW:Below w.heap.size w W)=>refRead6_any b v W ((hr.below hW).more hW.size) hl)
 rw [hrd] at HR
 simp only at HR
 have HJ:=Lib.hid (fun W=>refJumps6_any op ho W)
 have HN:=Lib.hid (fun W=>refName6_any op ho W)
 have HA:=Lib.hid (fun W=>refArgs6_any op ho W)
 have HWD:=Lib.hid (fun s W=>refword_any s W)
 have HM:=Lib.hid (fun m W=>refnum_any m W)
 have m1:=u8_andC7 (x:=(op:Int)) (by omega) (by omega)
 have m2:((op:Int) / 64 * 64 + (op:Int) % 8 == 199)=false:=by rw [beq_eq_false_iff_ne];omega
 have mn:IntKind.i64.wrap (n:Int)=(n:Int):=IntWalk.i64_in _ (by omega)
 have hal:(args80 op).length ≤ 3:=by have:=words80_len op ho;unfold args80;simp;omega
 obtain ⟨A,c,rfl,hc⟩:=hr.form
 clear hrd hr hc hl hq
 generalize jumps80 op=j at *
 generalize name80 op=nm6 at *
 generalize args80 op=ar6 at *
 go_enter Tryz.func39, Tryz.ntmps39
 go_wp2_with fail
 refine (HR.out _ ((Below.refl _ _).alloc (Nat.le_refl _) _)).mono ?_
 rintro e w1 ⟨rfl,hb1⟩
 have B1:=Lib.hid (bthen ((Below.refl _ _).alloc (Nat.le_refl _) _) hb1)
 have C1:=Lib.hid ((hb1.block w.heap.size (by simp)).trans (heap_alloc_new w _))
 clear hb1 HR
 go_wp2_with fail
 refine (HN.out _).mono ?_
 rintro e w2 ⟨rfl,hb2⟩
 have B2:=Lib.hid (bthen B1.out hb2)
 have C2:=Lib.hid ((hb2.block w.heap.size (lt_of_heap C1.out)).trans C1.out)
 clear hb2 HN B1 C1
 go_wp2_with fail
 refine (HJ.out _).mono ?_
 rintro e w2' ⟨rfl,rfl⟩
 clear HJ
 go_wp2_with fail
 have T3:=Lib.hid (heap_alloc_new w2 (.cells #[.int .i64 (pl:Int),.int .i64 (size:Int),.string ⟨nm6.toArray⟩,.slice none 0 0,.bool j,.int .i64 (n:Int),.int .u8 0] 56))
 have C3:=Lib.hid ((Below.heap_alloc w2 (.cells #[.int .i64 (pl:Int),.int .i64 (size:Int),.string ⟨nm6.toArray⟩,.slice none 0 0,.bool j,.int .i64 (n:Int),.int .u8 0] 56) w.heap.size (lt_of_heap C2.out)).trans C2.out)
 have B3:=Lib.hid (B2.out.alloc B2.out.size (.cells #[.int .i64 (pl:Int),.int .i64 (size:Int),.string ⟨nm6.toArray⟩,.slice none 0 0,.bool j,.int .i64 (n:Int),.int .u8 0] 56))
 have hT:w.heap.size < w2.heap.size:=lt_of_heap C2.out
 have hT3:w2.heap.size < (w2.alloc (.cells #[.int .i64 (pl:Int),.int .i64 (size:Int),.string ⟨nm6.toArray⟩,.slice none 0 0,.bool j,.int .i64 (n:Int),.int .u8 0] 56)).heap.size:=by simp
 generalize w2.alloc (.cells #[.int .i64 (pl:Int),.int .i64 (size:Int),.string ⟨nm6.toArray⟩,.slice none 0 0,.bool j,.int .i64 (n:Int),.int .u8 0] 56)=w3 at *
 generalize w2.heap.size=T at *
 clear B2 C2
 refine (HA.out _).mono ?_
 rintro e w4 ⟨av,rfl,hrd4,hb4⟩
 obtain ⟨A4,c4,rfl,hc4⟩:=hrd4.form
 have R4:=Lib.hid hrd4
 have T4:=Lib.hid ((hb4.block T hT3).trans T3.out)
 have C4:=Lib.hid ((hb4.block w.heap.size (by omega)).trans C3.out)
 have B4:=Lib.hid (bthen B3.out hb4)
 clear hb4 HA B3 C3 T3 hT3 hrd4
 obtain ⟨w10,rfl⟩:∃ w10:World,w10=w4:=⟨_,rfl⟩
 obtain ⟨A6,c6,e6⟩:∃ A6 c6,A6=A4∧c6=c4:=⟨_,_,rfl,rfl⟩
 obtain ⟨rfl,rfl⟩:=e6
 have R6:=Lib.hid R4.out
 have T10:=Lib.hid T4.out
 have C10:=Lib.hid C4.out
 have B10:=Lib.hid B4.out
 clear R4 T4 C4 B4
 have R10:Hid (∀ k (hk:k < ar6.length),∃ g o,A6=some ⟨g,o,none⟩∧g < w10.heap.size∧w10.cell? ⟨g,o + k,none⟩=some (.string ⟨ar6[k].toArray⟩)):=Lib.hid (fun k hk=>by
  obtain ⟨A',c',h1,h2,h3⟩:=R6.out
  injection h1 with h1 _ _
  subst h1
  obtain ⟨g,o,h4,h5,h6⟩:=h3 (by omega)
  exact ⟨g,o,h4,h5,h6 k _ (by simp [hk,strV])⟩)
 have hT10:T < w10.heap.size:=lt_of_heap T10.out
 have T10:Hid (w10.heap[T]? = some (.cells #[.int .i64 (pl:Int),.int .i64 (size:Int),.string ⟨nm6.toArray⟩,.slice none 0 0,.bool j,.int .i64 (n:Int),.int .u8 0] 56 (0,0))):=Lib.hid T10.out
 clear R6
 go_wp2_with fail
 go_loopw [13] (fun i wr=>∃ k:Nat,k ≤ ar6.length∧i=.int .i64 k∧PieceL w w10 T (fun a=>operandD a n) ar6 pl size nm6 j n k wr) (fun i _=>ar6.length - (intOf i).toNat)
 case atStart=>exact ⟨0,Nat.zero_le _,rfl,_,T10.out,World.ownsRow_nil _ _ _ _,But.refl _ _ _,B10.out⟩
 case round=>
  obtain ⟨k,hk,rfl,v,hCT,hown,hbut,hbw⟩:=hrel
  obtain ⟨vA,vc,rfl,hvc,hvm,_⟩:=own_slice hown (by omega)
  have z1:T < wr.heap.size:=lt_of_heap hCT
  have HT:=Lib.hid hCT
  have HOW:=Lib.hid hown
  have HBU:=Lib.hid hbut
  have HBW:=Lib.hid hbw
  have hsz:=hbut.1
  clear hown hbut hbw hvm
  by_cases hlt:k < ar6.length
  ·obtain ⟨g,o,rfl,hg1,ck⟩:=R10.out k hlt
   have ck':wr.cell? ⟨g,o + k,none⟩=some (.string ⟨ar6[k].toArray⟩):=but_cell T10.out HT.out HBU.out hg1 ck
   have hgr:g < wr.heap.size:=Nat.lt_of_lt_of_le hg1 hsz
   have hrow:rowA ((ar6.take (k + 1)).map (fun a=>operandD a n))=rowA ((ar6.take k).map (fun a=>operandD a n)) ++ arCells (operandD ar6[k] n) nilV:=by
    rw [List.take_succ_eq_append_getElem hlt,List.map_append,rowA,List.flatMap_append];simp [rowA]
   generalize ar6[k]=x at *
   clear ck hCT
   by_cases h1:x=sD8 ∨ x=sD16 ∨ x=sn1 ∨ x=sn2
   ·have hFx:operandD x n=numA n:=by unfold operandD;rw [if_pos h1]
    rw [hFx] at hrow
    have HROW:=Lib.hid hrow
    clear hrow hFx
    rcases h1 with rfl | rfl | rfl | rfl
    ·go_wp2_with fail
     refine (HWD.out sD8 _).mono ?_
     rintro e w2 ⟨rfl,hbU⟩
     have cU:=(hbU.cell (p:=⟨g,o + k,none⟩) hgr).trans ck'
     have hgU:g < w2.heap.size:=Nat.lt_of_lt_of_le hgr hbU.size
     have hTU:T < w2.heap.size:=Nat.lt_of_lt_of_le z1 hbU.size
     go_wp2_with fail
     refine (HM.out n _).mono ?_
     rintro e w3 ⟨rfl,hbV⟩
     have hX:wr.heap.size ≤ w2.heap.size:=hbU.size
     have X3:=(hbV.block w2.heap.size (by simp)).trans (heap_alloc_new w2 (.cells (arCells (wordA sD8) nilV).toArray 41))
     have hX3:w2.heap.size < w3.heap.size:=lt_of_heap X3
     obtain ⟨⟨x0,x1,x2,x3,x4,x5,x6,x7⟩,g0,g1,g2,g3,g4,g5,g6,g7⟩:=eightR X3
     have t3:=cell_of_heap (i:=3) ((hbV.block T (by simp;omega)).trans ((Below.heap_alloc w2 (.cells (arCells (wordA sD8) nilV).toArray 41) T (by omega)).trans ((hbU.block T z1).trans HT.out)))
     simp at t3

     have BW:=Lib.hid (show Below wr.heap.size wr ((((((((w3.setCell ⟨w2.heap.size,0,none⟩ (.string ⟨#[]⟩)).setCell ⟨w2.heap.size,1,none⟩ (.string ⟨#[]⟩)).setCell ⟨w2.heap.size,2,none⟩ (.bool false)).setCell ⟨w2.heap.size,3,none⟩ (.bool false)).setCell ⟨w2.heap.size,4,none⟩ (.string ⟨#[35]⟩)).setCell ⟨w2.heap.size,5,none⟩ (.int .u16 (n:Int))).setCell ⟨w2.heap.size,6,none⟩ (.string ⟨#[]⟩)).setCell ⟨w2.heap.size,7,none⟩ (.slice none 0 0)) from ((((((((bthen (hbU.alloc hbU.size (.cells (arCells (wordA sD8) nilV).toArray 41)) hbV).setCell hX _).setCell hX _).setCell hX _).setCell hX _).setCell hX _).setCell hX _).setCell hX _).setCell hX _)
     have O4:=Lib.hid (show (((((((((w3.setCell ⟨w2.heap.size,0,none⟩ (.string ⟨#[]⟩)).setCell ⟨w2.heap.size,1,none⟩ (.string ⟨#[]⟩)).setCell ⟨w2.heap.size,2,none⟩ (.bool false)).setCell ⟨w2.heap.size,3,none⟩ (.bool false)).setCell ⟨w2.heap.size,4,none⟩ (.string ⟨#[35]⟩)).setCell ⟨w2.heap.size,5,none⟩ (.int .u16 (n:Int))).setCell ⟨w2.heap.size,6,none⟩ (.string ⟨#[]⟩)).setCell ⟨w2.heap.size,7,none⟩ (.slice none 0 0)).alloc (.cells (arCells (numA n) nilV).toArray 41)).ownsRow w10.heap.size 41 8 (.slice vA k vc) k _ from (own_below HOW.out BW.out).alloc _)
     have N4:=Lib.hid (rd_new ((((((((w3.setCell ⟨w2.heap.size,0,none⟩ (.string ⟨#[]⟩)).setCell ⟨w2.heap.size,1,none⟩ (.string ⟨#[]⟩)).setCell ⟨w2.heap.size,2,none⟩ (.bool false)).setCell ⟨w2.heap.size,3,none⟩ (.bool false)).setCell ⟨w2.heap.size,4,none⟩ (.string ⟨#[35]⟩)).setCell ⟨w2.heap.size,5,none⟩ (.int .u16 (n:Int))).setCell ⟨w2.heap.size,6,none⟩ (.string ⟨#[]⟩)).setCell ⟨w2.heap.size,7,none⟩ (.slice none 0 0)) _ (by simp;rfl) (arCells (numA n) nilV) 41)
     have B4:=Lib.hid (BW.out.alloc BW.out.size (.cells (arCells (numA n) nilV).toArray 41))
     have hb4:w10.heap.size ≤ (((((((((w3.setCell ⟨w2.heap.size,0,none⟩ (.string ⟨#[]⟩)).setCell ⟨w2.heap.size,1,none⟩ (.string ⟨#[]⟩)).setCell ⟨w2.heap.size,2,none⟩ (.bool false)).setCell ⟨w2.heap.size,3,none⟩ (.bool false)).setCell ⟨w2.heap.size,4,none⟩ (.string ⟨#[35]⟩)).setCell ⟨w2.heap.size,5,none⟩ (.int .u16 (n:Int))).setCell ⟨w2.heap.size,6,none⟩ (.string ⟨#[]⟩)).setCell ⟨w2.heap.size,7,none⟩ (.slice none 0 0)).alloc (.cells (arCells (numA n) nilV).toArray 41)).heap.size:=Nat.le_trans hsz B4.out.size
     go_wp2_with (at_builtin;go_loud (refine wpList_append_to _ rfl (.tmp 92) (.tmp 94) 29 rfl w10.heap.size 41 _ 8 104 Tryz.underlying29 info_ar rfl (by omega) O4.out rfl N4.out rfl rfl (arCells_one _ _ rfl) (by omega) (by omega) hb4 ?_;intro v9 w9 hown9 hbel9 hg9 hv9;obtain ⟨A9,c9,rfl,hc9,hm9,_⟩:=own_slice hown9 (by omega);have T9:=Lib.hid ((hbel9.block T hT10).trans ((B4.out.block T z1).trans HT.out));have O9:=Lib.hid (HROW.out ▸ hown9);have BB9:=Lib.hid (HBW.out.trans ((B4.out.mono (HBW.out.size)).trans (hbel9.mono (by omega))));have BU9:=Lib.hid ((HBU.out.bel (B4.out.mono hsz)).bel hbel9);have y3:=cell_of_heap (i:=3) T9.out;have e3:=frozen_of_heap (i:=3) T9.out;simp at y3 e3;clear hown9 hbel9 hg9 hv9 O4 N4 B4 hb4 BW))
     go_wp2_with fail
     go_roundw
     case rel=>exact ⟨k + 1,by omega,by go_num,_,heap_set (i:=3) _ T9.out,own_set O9.out hT10,BU9.out.set 3 _,BB9.out.setCell (by show w.heap.size ≤ T;omega) _⟩
     case measure=>simp [intOf];omega
    ·go_wp2_with fail
     refine (HWD.out sD16 _).mono ?_
     rintro e w2 ⟨rfl,hbU⟩
     have cU:=(hbU.cell (p:=⟨g,o + k,none⟩) hgr).trans ck'
     have hgU:g < w2.heap.size:=Nat.lt_of_lt_of_le hgr hbU.size
     have hTU:T < w2.heap.size:=Nat.lt_of_lt_of_le z1 hbU.size
     go_wp2_with fail
     refine (HM.out n _).mono ?_
     rintro e w3 ⟨rfl,hbV⟩
     have hX:wr.heap.size ≤ w2.heap.size:=hbU.size
     have X3:=(hbV.block w2.heap.size (by simp)).trans (heap_alloc_new w2 (.cells (arCells (wordA sD16) nilV).toArray 41))
     have hX3:w2.heap.size < w3.heap.size:=lt_of_heap X3
     obtain ⟨⟨x0,x1,x2,x3,x4,x5,x6,x7⟩,g0,g1,g2,g3,g4,g5,g6,g7⟩:=eightR X3
     have t3:=cell_of_heap (i:=3) ((hbV.block T (by simp;omega)).trans ((Below.heap_alloc w2 (.cells (arCells (wordA sD16) nilV).toArray 41) T (by omega)).trans ((hbU.block T z1).trans HT.out)))
     simp at t3

     have BW:=Lib.hid (show Below wr.heap.size wr ((((((((w3.setCell ⟨w2.heap.size,0,none⟩ (.string ⟨#[]⟩)).setCell ⟨w2.heap.size,1,none⟩ (.string ⟨#[]⟩)).setCell ⟨w2.heap.size,2,none⟩ (.bool false)).setCell ⟨w2.heap.size,3,none⟩ (.bool false)).setCell ⟨w2.heap.size,4,none⟩ (.string ⟨#[35]⟩)).setCell ⟨w2.heap.size,5,none⟩ (.int .u16 (n:Int))).setCell ⟨w2.heap.size,6,none⟩ (.string ⟨#[]⟩)).setCell ⟨w2.heap.size,7,none⟩ (.slice none 0 0)) from ((((((((bthen (hbU.alloc hbU.size (.cells (arCells (wordA sD16) nilV).toArray 41)) hbV).setCell hX _).setCell hX _).setCell hX _).setCell hX _).setCell hX _).setCell hX _).setCell hX _).setCell hX _)
     have O4:=Lib.hid (show (((((((((w3.setCell ⟨w2.heap.size,0,none⟩ (.string ⟨#[]⟩)).setCell ⟨w2.heap.size,1,none⟩ (.string ⟨#[]⟩)).setCell ⟨w2.heap.size,2,none⟩ (.bool false)).setCell ⟨w2.heap.size,3,none⟩ (.bool false)).setCell ⟨w2.heap.size,4,none⟩ (.string ⟨#[35]⟩)).setCell ⟨w2.heap.size,5,none⟩ (.int .u16 (n:Int))).setCell ⟨w2.heap.size,6,none⟩ (.string ⟨#[]⟩)).setCell ⟨w2.heap.size,7,none⟩ (.slice none 0 0)).alloc (.cells (arCells (numA n) nilV).toArray 41)).ownsRow w10.heap.size 41 8 (.slice vA k vc) k _ from (own_below HOW.out BW.out).alloc _)
     have N4:=Lib.hid (rd_new ((((((((w3.setCell ⟨w2.heap.size,0,none⟩ (.string ⟨#[]⟩)).setCell ⟨w2.heap.size,1,none⟩ (.string ⟨#[]⟩)).setCell ⟨w2.heap.size,2,none⟩ (.bool false)).setCell ⟨w2.heap.size,3,none⟩ (.bool false)).setCell ⟨w2.heap.size,4,none⟩ (.string ⟨#[35]⟩)).setCell ⟨w2.heap.size,5,none⟩ (.int .u16 (n:Int))).setCell ⟨w2.heap.size,6,none⟩ (.string ⟨#[]⟩)).setCell ⟨w2.heap.size,7,none⟩ (.slice none 0 0)) _ (by simp;rfl) (arCells (numA n) nilV) 41)
     have B4:=Lib.hid (BW.out.alloc BW.out.size (.cells (arCells (numA n) nilV).toArray 41))
     have hb4:w10.heap.size ≤ (((((((((w3.setCell ⟨w2.heap.size,0,none⟩ (.string ⟨#[]⟩)).setCell ⟨w2.heap.size,1,none⟩ (.string ⟨#[]⟩)).setCell ⟨w2.heap.size,2,none⟩ (.bool false)).setCell ⟨w2.heap.size,3,none⟩ (.bool false)).setCell ⟨w2.heap.size,4,none⟩ (.string ⟨#[35]⟩)).setCell ⟨w2.heap.size,5,none⟩ (.int .u16 (n:Int))).setCell ⟨w2.heap.size,6,none⟩ (.string ⟨#[]⟩)).setCell ⟨w2.heap.size,7,none⟩ (.slice none 0 0)).alloc (.cells (arCells (numA n) nilV).toArray 41)).heap.size:=Nat.le_trans hsz B4.out.size
     go_wp2_with (at_builtin;go_loud (refine wpList_append_to _ rfl (.tmp 92) (.tmp 94) 29 rfl w10.heap.size 41 _ 8 104 Tryz.underlying29 info_ar rfl (by omega) O4.out rfl N4.out rfl rfl (arCells_one _ _ rfl) (by omega) (by omega) hb4 ?_;intro v9 w9 hown9 hbel9 hg9 hv9;obtain ⟨A9,c9,rfl,hc9,hm9,_⟩:=own_slice hown9 (by omega);have T9:=Lib.hid ((hbel9.block T hT10).trans ((B4.out.block T z1).trans HT.out));have O9:=Lib.hid (HROW.out ▸ hown9);have BB9:=Lib.hid (HBW.out.trans ((B4.out.mono (HBW.out.size)).trans (hbel9.mono (by omega))));have BU9:=Lib.hid ((HBU.out.bel (B4.out.mono hsz)).bel hbel9);have y3:=cell_of_heap (i:=3) T9.out;have e3:=frozen_of_heap (i:=3) T9.out;simp at y3 e3;clear hown9 hbel9 hg9 hv9 O4 N4 B4 hb4 BW))
     go_wp2_with fail
     go_roundw
     case rel=>exact ⟨k + 1,by omega,by go_num,_,heap_set (i:=3) _ T9.out,own_set O9.out hT10,BU9.out.set 3 _,BB9.out.setCell (by show w.heap.size ≤ T;omega) _⟩
     case measure=>simp [intOf];omega
    ·go_wp2_with fail
     refine (HWD.out sn1 _).mono ?_
     rintro e w2 ⟨rfl,hbU⟩
     have cU:=(hbU.cell (p:=⟨g,o + k,none⟩) hgr).trans ck'
     have hgU:g < w2.heap.size:=Nat.lt_of_lt_of_le hgr hbU.size
     have hTU:T < w2.heap.size:=Nat.lt_of_lt_of_le z1 hbU.size
     go_wp2_with fail
     refine (HM.out n _).mono ?_
     rintro e w3 ⟨rfl,hbV⟩
     have hX:wr.heap.size ≤ w2.heap.size:=hbU.size
     have X3:=(hbV.block w2.heap.size (by simp)).trans (heap_alloc_new w2 (.cells (arCells (wordA sn1) nilV).toArray 41))
     have hX3:w2.heap.size < w3.heap.size:=lt_of_heap X3
     obtain ⟨⟨x0,x1,x2,x3,x4,x5,x6,x7⟩,g0,g1,g2,g3,g4,g5,g6,g7⟩:=eightR X3
     have t3:=cell_of_heap (i:=3) ((hbV.block T (by simp;omega)).trans ((Below.heap_alloc w2 (.cells (arCells (wordA sn1) nilV).toArray 41) T (by omega)).trans ((hbU.block T z1).trans HT.out)))
     simp at t3

     have BW:=Lib.hid (show Below wr.heap.size wr ((((((((w3.setCell ⟨w2.heap.size,0,none⟩ (.string ⟨#[]⟩)).setCell ⟨w2.heap.size,1,none⟩ (.string ⟨#[]⟩)).setCell ⟨w2.heap.size,2,none⟩ (.bool false)).setCell ⟨w2.heap.size,3,none⟩ (.bool false)).setCell ⟨w2.heap.size,4,none⟩ (.string ⟨#[35]⟩)).setCell ⟨w2.heap.size,5,none⟩ (.int .u16 (n:Int))).setCell ⟨w2.heap.size,6,none⟩ (.string ⟨#[]⟩)).setCell ⟨w2.heap.size,7,none⟩ (.slice none 0 0)) from ((((((((bthen (hbU.alloc hbU.size (.cells (arCells (wordA sn1) nilV).toArray 41)) hbV).setCell hX _).setCell hX _).setCell hX _).setCell hX _).setCell hX _).setCell hX _).setCell hX _).setCell hX _)
     have O4:=Lib.hid (show (((((((((w3.setCell ⟨w2.heap.size,0,none⟩ (.string ⟨#[]⟩)).setCell ⟨w2.heap.size,1,none⟩ (.string ⟨#[]⟩)).setCell ⟨w2.heap.size,2,none⟩ (.bool false)).setCell ⟨w2.heap.size,3,none⟩ (.bool false)).setCell ⟨w2.heap.size,4,none⟩ (.string ⟨#[35]⟩)).setCell ⟨w2.heap.size,5,none⟩ (.int .u16 (n:Int))).setCell ⟨w2.heap.size,6,none⟩ (.string ⟨#[]⟩)).setCell ⟨w2.heap.size,7,none⟩ (.slice none 0 0)).alloc (.cells (arCells (numA n) nilV).toArray 41)).ownsRow w10.heap.size 41 8 (.slice vA k vc) k _ from (own_below HOW.out BW.out).alloc _)
     have N4:=Lib.hid (rd_new ((((((((w3.setCell ⟨w2.heap.size,0,none⟩ (.string ⟨#[]⟩)).setCell ⟨w2.heap.size,1,none⟩ (.string ⟨#[]⟩)).setCell ⟨w2.heap.size,2,none⟩ (.bool false)).setCell ⟨w2.heap.size,3,none⟩ (.bool false)).setCell ⟨w2.heap.size,4,none⟩ (.string ⟨#[35]⟩)).setCell ⟨w2.heap.size,5,none⟩ (.int .u16 (n:Int))).setCell ⟨w2.heap.size,6,none⟩ (.string ⟨#[]⟩)).setCell ⟨w2.heap.size,7,none⟩ (.slice none 0 0)) _ (by simp;rfl) (arCells (numA n) nilV) 41)
     have B4:=Lib.hid (BW.out.alloc BW.out.size (.cells (arCells (numA n) nilV).toArray 41))
     have hb4:w10.heap.size ≤ (((((((((w3.setCell ⟨w2.heap.size,0,none⟩ (.string ⟨#[]⟩)).setCell ⟨w2.heap.size,1,none⟩ (.string ⟨#[]⟩)).setCell ⟨w2.heap.size,2,none⟩ (.bool false)).setCell ⟨w2.heap.size,3,none⟩ (.bool false)).setCell ⟨w2.heap.size,4,none⟩ (.string ⟨#[35]⟩)).setCell ⟨w2.heap.size,5,none⟩ (.int .u16 (n:Int))).setCell ⟨w2.heap.size,6,none⟩ (.string ⟨#[]⟩)).setCell ⟨w2.heap.size,7,none⟩ (.slice none 0 0)).alloc (.cells (arCells (numA n) nilV).toArray 41)).heap.size:=Nat.le_trans hsz B4.out.size
     go_wp2_with (at_builtin;go_loud (refine wpList_append_to _ rfl (.tmp 92) (.tmp 94) 29 rfl w10.heap.size 41 _ 8 104 Tryz.underlying29 info_ar rfl (by omega) O4.out rfl N4.out rfl rfl (arCells_one _ _ rfl) (by omega) (by omega) hb4 ?_;intro v9 w9 hown9 hbel9 hg9 hv9;obtain ⟨A9,c9,rfl,hc9,hm9,_⟩:=own_slice hown9 (by omega);have T9:=Lib.hid ((hbel9.block T hT10).trans ((B4.out.block T z1).trans HT.out));have O9:=Lib.hid (HROW.out ▸ hown9);have BB9:=Lib.hid (HBW.out.trans ((B4.out.mono (HBW.out.size)).trans (hbel9.mono (by omega))));have BU9:=Lib.hid ((HBU.out.bel (B4.out.mono hsz)).bel hbel9);have y3:=cell_of_heap (i:=3) T9.out;have e3:=frozen_of_heap (i:=3) T9.out;simp at y3 e3;clear hown9 hbel9 hg9 hv9 O4 N4 B4 hb4 BW))
     go_wp2_with fail
     go_roundw
     case rel=>exact ⟨k + 1,by omega,by go_num,_,heap_set (i:=3) _ T9.out,own_set O9.out hT10,BU9.out.set 3 _,BB9.out.setCell (by show w.heap.size ≤ T;omega) _⟩
     case measure=>simp [intOf];omega
    ·go_wp2_with fail
     refine (HWD.out sn2 _).mono ?_
     rintro e w2 ⟨rfl,hbU⟩
     have cU:=(hbU.cell (p:=⟨g,o + k,none⟩) hgr).trans ck'
     have hgU:g < w2.heap.size:=Nat.lt_of_lt_of_le hgr hbU.size
     have hTU:T < w2.heap.size:=Nat.lt_of_lt_of_le z1 hbU.size
     go_wp2_with fail
     refine (HM.out n _).mono ?_
     rintro e w3 ⟨rfl,hbV⟩
     have hX:wr.heap.size ≤ w2.heap.size:=hbU.size
     have X3:=(hbV.block w2.heap.size (by simp)).trans (heap_alloc_new w2 (.cells (arCells (wordA sn2) nilV).toArray 41))
     have hX3:w2.heap.size < w3.heap.size:=lt_of_heap X3
     obtain ⟨⟨x0,x1,x2,x3,x4,x5,x6,x7⟩,g0,g1,g2,g3,g4,g5,g6,g7⟩:=eightR X3
     have t3:=cell_of_heap (i:=3) ((hbV.block T (by simp;omega)).trans ((Below.heap_alloc w2 (.cells (arCells (wordA sn2) nilV).toArray 41) T (by omega)).trans ((hbU.block T z1).trans HT.out)))
     simp at t3

     have BW:=Lib.hid (show Below wr.heap.size wr ((((((((w3.setCell ⟨w2.heap.size,0,none⟩ (.string ⟨#[]⟩)).setCell ⟨w2.heap.size,1,none⟩ (.string ⟨#[]⟩)).setCell ⟨w2.heap.size,2,none⟩ (.bool false)).setCell ⟨w2.heap.size,3,none⟩ (.bool false)).setCell ⟨w2.heap.size,4,none⟩ (.string ⟨#[35]⟩)).setCell ⟨w2.heap.size,5,none⟩ (.int .u16 (n:Int))).setCell ⟨w2.heap.size,6,none⟩ (.string ⟨#[]⟩)).setCell ⟨w2.heap.size,7,none⟩ (.slice none 0 0)) from ((((((((bthen (hbU.alloc hbU.size (.cells (arCells (wordA sn2) nilV).toArray 41)) hbV).setCell hX _).setCell hX _).setCell hX _).setCell hX _).setCell hX _).setCell hX _).setCell hX _).setCell hX _)
     have O4:=Lib.hid (show (((((((((w3.setCell ⟨w2.heap.size,0,none⟩ (.string ⟨#[]⟩)).setCell ⟨w2.heap.size,1,none⟩ (.string ⟨#[]⟩)).setCell ⟨w2.heap.size,2,none⟩ (.bool false)).setCell ⟨w2.heap.size,3,none⟩ (.bool false)).setCell ⟨w2.heap.size,4,none⟩ (.string ⟨#[35]⟩)).setCell ⟨w2.heap.size,5,none⟩ (.int .u16 (n:Int))).setCell ⟨w2.heap.size,6,none⟩ (.string ⟨#[]⟩)).setCell ⟨w2.heap.size,7,none⟩ (.slice none 0 0)).alloc (.cells (arCells (numA n) nilV).toArray 41)).ownsRow w10.heap.size 41 8 (.slice vA k vc) k _ from (own_below HOW.out BW.out).alloc _)
     have N4:=Lib.hid (rd_new ((((((((w3.setCell ⟨w2.heap.size,0,none⟩ (.string ⟨#[]⟩)).setCell ⟨w2.heap.size,1,none⟩ (.string ⟨#[]⟩)).setCell ⟨w2.heap.size,2,none⟩ (.bool false)).setCell ⟨w2.heap.size,3,none⟩ (.bool false)).setCell ⟨w2.heap.size,4,none⟩ (.string ⟨#[35]⟩)).setCell ⟨w2.heap.size,5,none⟩ (.int .u16 (n:Int))).setCell ⟨w2.heap.size,6,none⟩ (.string ⟨#[]⟩)).setCell ⟨w2.heap.size,7,none⟩ (.slice none 0 0)) _ (by simp;rfl) (arCells (numA n) nilV) 41)
     have B4:=Lib.hid (BW.out.alloc BW.out.size (.cells (arCells (numA n) nilV).toArray 41))
     have hb4:w10.heap.size ≤ (((((((((w3.setCell ⟨w2.heap.size,0,none⟩ (.string ⟨#[]⟩)).setCell ⟨w2.heap.size,1,none⟩ (.string ⟨#[]⟩)).setCell ⟨w2.heap.size,2,none⟩ (.bool false)).setCell ⟨w2.heap.size,3,none⟩ (.bool false)).setCell ⟨w2.heap.size,4,none⟩ (.string ⟨#[35]⟩)).setCell ⟨w2.heap.size,5,none⟩ (.int .u16 (n:Int))).setCell ⟨w2.heap.size,6,none⟩ (.string ⟨#[]⟩)).setCell ⟨w2.heap.size,7,none⟩ (.slice none 0 0)).alloc (.cells (arCells (numA n) nilV).toArray 41)).heap.size:=Nat.le_trans hsz B4.out.size
     go_wp2_with (at_builtin;go_loud (refine wpList_append_to _ rfl (.tmp 92) (.tmp 94) 29 rfl w10.heap.size 41 _ 8 104 Tryz.underlying29 info_ar rfl (by omega) O4.out rfl N4.out rfl rfl (arCells_one _ _ rfl) (by omega) (by omega) hb4 ?_;intro v9 w9 hown9 hbel9 hg9 hv9;obtain ⟨A9,c9,rfl,hc9,hm9,_⟩:=own_slice hown9 (by omega);have T9:=Lib.hid ((hbel9.block T hT10).trans ((B4.out.block T z1).trans HT.out));have O9:=Lib.hid (HROW.out ▸ hown9);have BB9:=Lib.hid (HBW.out.trans ((B4.out.mono (HBW.out.size)).trans (hbel9.mono (by omega))));have BU9:=Lib.hid ((HBU.out.bel (B4.out.mono hsz)).bel hbel9);have y3:=cell_of_heap (i:=3) T9.out;have e3:=frozen_of_heap (i:=3) T9.out;simp at y3 e3;clear hown9 hbel9 hg9 hv9 O4 N4 B4 hb4 BW))
     go_wp2_with fail
     go_roundw
     case rel=>exact ⟨k + 1,by omega,by go_num,_,heap_set (i:=3) _ T9.out,own_set O9.out hT10,BU9.out.set 3 _,BB9.out.setCell (by show w.heap.size ≤ T;omega) _⟩
     case measure=>simp [intOf];omega
   by_cases h2:x=smn1 ∨ x=smn2
   ·have hFx:operandD x n=memA n:=by unfold operandD;rw [if_neg h1,if_pos h2]
    rw [hFx] at hrow
    have HROW:=Lib.hid hrow
    clear hrow hFx h1
    rcases h2 with rfl | rfl
    ·go_wp2_with fail
     refine (HWD.out smn1 _).mono ?_
     rintro e w2 ⟨rfl,hbU⟩
     have cU:=(hbU.cell (p:=⟨g,o + k,none⟩) hgr).trans ck'
     have hgU:g < w2.heap.size:=Nat.lt_of_lt_of_le hgr hbU.size
     have hTU:T < w2.heap.size:=Nat.lt_of_lt_of_le z1 hbU.size
     go_wp2_with fail
     refine (HM.out n _).mono ?_
     rintro e w3 ⟨rfl,hbV⟩
     have hX:wr.heap.size ≤ w2.heap.size:=hbU.size
     have X3:=(hbV.block w2.heap.size (by simp)).trans (heap_alloc_new w2 (.cells (arCells (wordA smn1) nilV).toArray 41))
     have hX3:w2.heap.size < w3.heap.size:=lt_of_heap X3
     obtain ⟨⟨x0,x1,x2,x3,x4,x5,x6,x7⟩,g0,g1,g2,g3,g4,g5,g6,g7⟩:=eightR X3
     have t3:=cell_of_heap (i:=3) ((hbV.block T (by simp;omega)).trans ((Below.heap_alloc w2 (.cells (arCells (wordA smn1) nilV).toArray 41) T (by omega)).trans ((hbU.block T z1).trans HT.out)))
     simp at t3

     have BW:=Lib.hid (show Below wr.heap.size wr ((((((((w3.setCell ⟨w2.heap.size,0,none⟩ (.string ⟨#[]⟩)).setCell ⟨w2.heap.size,1,none⟩ (.string ⟨#[]⟩)).setCell ⟨w2.heap.size,2,none⟩ (.bool false)).setCell ⟨w2.heap.size,3,none⟩ (.bool true)).setCell ⟨w2.heap.size,4,none⟩ (.string ⟨#[35]⟩)).setCell ⟨w2.heap.size,5,none⟩ (.int .u16 (n:Int))).setCell ⟨w2.heap.size,6,none⟩ (.string ⟨#[]⟩)).setCell ⟨w2.heap.size,7,none⟩ (.slice none 0 0)) from ((((((((bthen (hbU.alloc hbU.size (.cells (arCells (wordA smn1) nilV).toArray 41)) hbV).setCell hX _).setCell hX _).setCell hX _).setCell hX _).setCell hX _).setCell hX _).setCell hX _).setCell hX _)
     have O4:=Lib.hid (show (((((((((w3.setCell ⟨w2.heap.size,0,none⟩ (.string ⟨#[]⟩)).setCell ⟨w2.heap.size,1,none⟩ (.string ⟨#[]⟩)).setCell ⟨w2.heap.size,2,none⟩ (.bool false)).setCell ⟨w2.heap.size,3,none⟩ (.bool true)).setCell ⟨w2.heap.size,4,none⟩ (.string ⟨#[35]⟩)).setCell ⟨w2.heap.size,5,none⟩ (.int .u16 (n:Int))).setCell ⟨w2.heap.size,6,none⟩ (.string ⟨#[]⟩)).setCell ⟨w2.heap.size,7,none⟩ (.slice none 0 0)).alloc (.cells (arCells (memA n) nilV).toArray 41)).ownsRow w10.heap.size 41 8 (.slice vA k vc) k _ from (own_below HOW.out BW.out).alloc _)
     have N4:=Lib.hid (rd_new ((((((((w3.setCell ⟨w2.heap.size,0,none⟩ (.string ⟨#[]⟩)).setCell ⟨w2.heap.size,1,none⟩ (.string ⟨#[]⟩)).setCell ⟨w2.heap.size,2,none⟩ (.bool false)).setCell ⟨w2.heap.size,3,none⟩ (.bool true)).setCell ⟨w2.heap.size,4,none⟩ (.string ⟨#[35]⟩)).setCell ⟨w2.heap.size,5,none⟩ (.int .u16 (n:Int))).setCell ⟨w2.heap.size,6,none⟩ (.string ⟨#[]⟩)).setCell ⟨w2.heap.size,7,none⟩ (.slice none 0 0)) _ (by simp;rfl) (arCells (memA n) nilV) 41)
     have B4:=Lib.hid (BW.out.alloc BW.out.size (.cells (arCells (memA n) nilV).toArray 41))
     have hb4:w10.heap.size ≤ (((((((((w3.setCell ⟨w2.heap.size,0,none⟩ (.string ⟨#[]⟩)).setCell ⟨w2.heap.size,1,none⟩ (.string ⟨#[]⟩)).setCell ⟨w2.heap.size,2,none⟩ (.bool false)).setCell ⟨w2.heap.size,3,none⟩ (.bool true)).setCell ⟨w2.heap.size,4,none⟩ (.string ⟨#[35]⟩)).setCell ⟨w2.heap.size,5,none⟩ (.int .u16 (n:Int))).setCell ⟨w2.heap.size,6,none⟩ (.string ⟨#[]⟩)).setCell ⟨w2.heap.size,7,none⟩ (.slice none 0 0)).alloc (.cells (arCells (memA n) nilV).toArray 41)).heap.size:=Nat.le_trans hsz B4.out.size
     go_wp2_with (at_builtin;go_loud (refine wpList_append_to _ rfl (.tmp 92) (.tmp 94) 29 rfl w10.heap.size 41 _ 8 104 Tryz.underlying29 info_ar rfl (by omega) O4.out rfl N4.out rfl rfl (arCells_one _ _ rfl) (by omega) (by omega) hb4 ?_;intro v9 w9 hown9 hbel9 hg9 hv9;obtain ⟨A9,c9,rfl,hc9,hm9,_⟩:=own_slice hown9 (by omega);have T9:=Lib.hid ((hbel9.block T hT10).trans ((B4.out.block T z1).trans HT.out));have O9:=Lib.hid (HROW.out ▸ hown9);have BB9:=Lib.hid (HBW.out.trans ((B4.out.mono (HBW.out.size)).trans (hbel9.mono (by omega))));have BU9:=Lib.hid ((HBU.out.bel (B4.out.mono hsz)).bel hbel9);have y3:=cell_of_heap (i:=3) T9.out;have e3:=frozen_of_heap (i:=3) T9.out;simp at y3 e3;clear hown9 hbel9 hg9 hv9 O4 N4 B4 hb4 BW))
     go_wp2_with fail
     go_roundw
     case rel=>exact ⟨k + 1,by omega,by go_num,_,heap_set (i:=3) _ T9.out,own_set O9.out hT10,BU9.out.set 3 _,BB9.out.setCell (by show w.heap.size ≤ T;omega) _⟩
     case measure=>simp [intOf];omega
    ·go_wp2_with fail
     refine (HWD.out smn2 _).mono ?_
     rintro e w2 ⟨rfl,hbU⟩
     have cU:=(hbU.cell (p:=⟨g,o + k,none⟩) hgr).trans ck'
     have hgU:g < w2.heap.size:=Nat.lt_of_lt_of_le hgr hbU.size
     have hTU:T < w2.heap.size:=Nat.lt_of_lt_of_le z1 hbU.size
     go_wp2_with fail
     refine (HM.out n _).mono ?_
     rintro e w3 ⟨rfl,hbV⟩
     have hX:wr.heap.size ≤ w2.heap.size:=hbU.size
     have X3:=(hbV.block w2.heap.size (by simp)).trans (heap_alloc_new w2 (.cells (arCells (wordA smn2) nilV).toArray 41))
     have hX3:w2.heap.size < w3.heap.size:=lt_of_heap X3
     obtain ⟨⟨x0,x1,x2,x3,x4,x5,x6,x7⟩,g0,g1,g2,g3,g4,g5,g6,g7⟩:=eightR X3
     have t3:=cell_of_heap (i:=3) ((hbV.block T (by simp;omega)).trans ((Below.heap_alloc w2 (.cells (arCells (wordA smn2) nilV).toArray 41) T (by omega)).trans ((hbU.block T z1).trans HT.out)))
     simp at t3

     have BW:=Lib.hid (show Below wr.heap.size wr ((((((((w3.setCell ⟨w2.heap.size,0,none⟩ (.string ⟨#[]⟩)).setCell ⟨w2.heap.size,1,none⟩ (.string ⟨#[]⟩)).setCell ⟨w2.heap.size,2,none⟩ (.bool false)).setCell ⟨w2.heap.size,3,none⟩ (.bool true)).setCell ⟨w2.heap.size,4,none⟩ (.string ⟨#[35]⟩)).setCell ⟨w2.heap.size,5,none⟩ (.int .u16 (n:Int))).setCell ⟨w2.heap.size,6,none⟩ (.string ⟨#[]⟩)).setCell ⟨w2.heap.size,7,none⟩ (.slice none 0 0)) from ((((((((bthen (hbU.alloc hbU.size (.cells (arCells (wordA smn2) nilV).toArray 41)) hbV).setCell hX _).setCell hX _).setCell hX _).setCell hX _).setCell hX _).setCell hX _).setCell hX _).setCell hX _)
     have O4:=Lib.hid (show (((((((((w3.setCell ⟨w2.heap.size,0,none⟩ (.string ⟨#[]⟩)).setCell ⟨w2.heap.size,1,none⟩ (.string ⟨#[]⟩)).setCell ⟨w2.heap.size,2,none⟩ (.bool false)).setCell ⟨w2.heap.size,3,none⟩ (.bool true)).setCell ⟨w2.heap.size,4,none⟩ (.string ⟨#[35]⟩)).setCell ⟨w2.heap.size,5,none⟩ (.int .u16 (n:Int))).setCell ⟨w2.heap.size,6,none⟩ (.string ⟨#[]⟩)).setCell ⟨w2.heap.size,7,none⟩ (.slice none 0 0)).alloc (.cells (arCells (memA n) nilV).toArray 41)).ownsRow w10.heap.size 41 8 (.slice vA k vc) k _ from (own_below HOW.out BW.out).alloc _)
     have N4:=Lib.hid (rd_new ((((((((w3.setCell ⟨w2.heap.size,0,none⟩ (.string ⟨#[]⟩)).setCell ⟨w2.heap.size,1,none⟩ (.string ⟨#[]⟩)).setCell ⟨w2.heap.size,2,none⟩ (.bool false)).setCell ⟨w2.heap.size,3,none⟩ (.bool true)).setCell ⟨w2.heap.size,4,none⟩ (.string ⟨#[35]⟩)).setCell ⟨w2.heap.size,5,none⟩ (.int .u16 (n:Int))).setCell ⟨w2.heap.size,6,none⟩ (.string ⟨#[]⟩)).setCell ⟨w2.heap.size,7,none⟩ (.slice none 0 0)) _ (by simp;rfl) (arCells (memA n) nilV) 41)
     have B4:=Lib.hid (BW.out.alloc BW.out.size (.cells (arCells (memA n) nilV).toArray 41))
     have hb4:w10.heap.size ≤ (((((((((w3.setCell ⟨w2.heap.size,0,none⟩ (.string ⟨#[]⟩)).setCell ⟨w2.heap.size,1,none⟩ (.string ⟨#[]⟩)).setCell ⟨w2.heap.size,2,none⟩ (.bool false)).setCell ⟨w2.heap.size,3,none⟩ (.bool true)).setCell ⟨w2.heap.size,4,none⟩ (.string ⟨#[35]⟩)).setCell ⟨w2.heap.size,5,none⟩ (.int .u16 (n:Int))).setCell ⟨w2.heap.size,6,none⟩ (.string ⟨#[]⟩)).setCell ⟨w2.heap.size,7,none⟩ (.slice none 0 0)).alloc (.cells (arCells (memA n) nilV).toArray 41)).heap.size:=Nat.le_trans hsz B4.out.size
     go_wp2_with (at_builtin;go_loud (refine wpList_append_to _ rfl (.tmp 92) (.tmp 94) 29 rfl w10.heap.size 41 _ 8 104 Tryz.underlying29 info_ar rfl (by omega) O4.out rfl N4.out rfl rfl (arCells_one _ _ rfl) (by omega) (by omega) hb4 ?_;intro v9 w9 hown9 hbel9 hg9 hv9;obtain ⟨A9,c9,rfl,hc9,hm9,_⟩:=own_slice hown9 (by omega);have T9:=Lib.hid ((hbel9.block T hT10).trans ((B4.out.block T z1).trans HT.out));have O9:=Lib.hid (HROW.out ▸ hown9);have BB9:=Lib.hid (HBW.out.trans ((B4.out.mono (HBW.out.size)).trans (hbel9.mono (by omega))));have BU9:=Lib.hid ((HBU.out.bel (B4.out.mono hsz)).bel hbel9);have y3:=cell_of_heap (i:=3) T9.out;have e3:=frozen_of_heap (i:=3) T9.out;simp at y3 e3;clear hown9 hbel9 hg9 hv9 O4 N4 B4 hb4 BW))
     go_wp2_with fail
     go_roundw
     case rel=>exact ⟨k + 1,by omega,by go_num,_,heap_set (i:=3) _ T9.out,own_set O9.out hT10,BU9.out.set 3 _,BB9.out.setCell (by show w.heap.size ≤ T;omega) _⟩
     case measure=>simp [intOf];omega
   have hFx:operandD x n=wordA x:=by unfold operandD;rw [if_neg h1,if_neg h2]
   rw [hFx] at hrow
   have HROW:=Lib.hid hrow
   simp only [not_or] at h1 h2
   obtain ⟨a1,a2,a3,a4⟩:=h1
   obtain ⟨a5,a6⟩:=h2
   have e1:=str_ne a1
   have e2:=str_ne a2
   have e3:=str_ne a3
   have e4:=str_ne a4
   have e5:=str_ne a5
   have e6:=str_ne a6
   clear a1 a2 a3 a4 a5 a6 hrow hFx
   go_wp2_with fail
   refine (HWD.out x _).mono ?_
   rintro e w2 ⟨rfl,hbU⟩
   have cU:=(hbU.cell (p:=⟨g,o + k,none⟩) hgr).trans ck'
   have hgU:g < w2.heap.size:=Nat.lt_of_lt_of_le hgr hbU.size
   have hTU:T < w2.heap.size:=Nat.lt_of_lt_of_le z1 hbU.size
   have t3:=cell_of_heap (i:=3) ((hbU.block T z1).trans HT.out)
   have X3:=heap_alloc_new w2 (.cells (arCells (wordA x) nilV).toArray 41)
   obtain ⟨⟨x0,x1,x2,x3,x4,x5,x6,x7⟩,g0,g1,g2,g3,g4,g5,g6,g7⟩:=eightR X3
   simp at t3

   have BW:=Lib.hid (show Below wr.heap.size wr (w2.alloc (.cells (arCells (wordA x) nilV).toArray 41)) from hbU.alloc hbU.size _)
   have O4:=Lib.hid (show ((w2.alloc (.cells (arCells (wordA x) nilV).toArray 41)).alloc (.cells (arCells (wordA x) nilV).toArray 41)).ownsRow w10.heap.size 41 8 (.slice vA k vc) k _ from (own_below HOW.out BW.out).alloc _)
   have N4:=Lib.hid (rd_new (w2.alloc (.cells (arCells (wordA x) nilV).toArray 41)) _ (by simp;rfl) (arCells (wordA x) nilV) 41)
   have B4:=Lib.hid (BW.out.alloc BW.out.size (.cells (arCells (wordA x) nilV).toArray 41))
   have hb4:w10.heap.size ≤ ((w2.alloc (.cells (arCells (wordA x) nilV).toArray 41)).alloc (.cells (arCells (wordA x) nilV).toArray 41)).heap.size:=Nat.le_trans hsz B4.out.size
   go_wp2_with (at_builtin;go_loud (refine wpList_append_to _ rfl (.tmp 92) (.tmp 94) 29 rfl w10.heap.size 41 _ 8 104 Tryz.underlying29 info_ar rfl (by omega) O4.out rfl N4.out rfl rfl (arCells_one _ _ rfl) (by omega) (by omega) hb4 ?_;intro v9 w9 hown9 hbel9 hg9 hv9;obtain ⟨A9,c9,rfl,hc9,hm9,_⟩:=own_slice hown9 (by omega);have T9:=Lib.hid ((hbel9.block T hT10).trans ((B4.out.block T z1).trans HT.out));have O9:=Lib.hid (HROW.out ▸ hown9);have BB9:=Lib.hid (HBW.out.trans ((B4.out.mono (HBW.out.size)).trans (hbel9.mono (by omega))));have BU9:=Lib.hid ((HBU.out.bel (B4.out.mono hsz)).bel hbel9);have y3:=cell_of_heap (i:=3) T9.out;have e3:=frozen_of_heap (i:=3) T9.out;simp at y3 e3;clear hown9 hbel9 hg9 hv9 O4 N4 B4 hb4 BW))
   go_wp2_with fail
   go_roundw
   case rel=>exact ⟨k + 1,by omega,by go_num,_,heap_set (i:=3) _ T9.out,own_set O9.out hT10,BU9.out.set 3 _,BB9.out.setCell (by show w.heap.size ≤ T;omega) _⟩
   case measure=>simp [intOf];omega
  ·obtain rfl:k=ar6.length:=by omega
   have CR:=(HBU.out.2 w.heap.size (by omega) (by omega)).trans C10.out
   obtain ⟨⟨k0,k1,k2,k3,k4,k5,k6⟩,f0,f1,f2,f3,f4,f5,f6⟩:=seven CR
   obtain ⟨⟨t0,t1,t2,t3,t4,t5,t6⟩,g0,g1,g2,g3,g4,g5,g6⟩:=seven HT.out
   have HO:=HOW.out
   rw [List.take_length] at HO
   have O2:=Lib.hid HO
   have BB:=Lib.hid HBW.out
   clear CR hCT HO HOW HBW HBU HT R10 T10 C10 B10
   go_wp2_with fail
   refine bodyPost_ret (v:=.agg #[.int .i64 pl,.int .i64 size,.string ⟨nm6.toArray⟩,.slice vA ar6.length vc,.bool j,.int .i64 n,.int .u8 0]) (by simp [results,Tryz.results39,go_sem,k0,k1,k2,k3,k4,k5,k6]) rfl ⟨_,rfl,?_,?_⟩
   ·rw [List.length_map]
    exact own_more (own_set (own_set (own_set (own_set (own_set (own_set (own_set O2.out (by omega)) (by omega)) (by omega)) (by omega)) (by omega)) (by omega)) (by omega)) (by omega)
   ·exact ((((((BB.out.setCell (Nat.le_refl _) _).setCell (Nat.le_refl _) _).setCell (Nat.le_refl _) _).setCell (Nat.le_refl _) _).setCell (Nat.le_refl _) _).setCell (Nat.le_refl _) _).setCell (Nat.le_refl _) _
end Go.Proofs.YtagplldaooipmaaGreatDoor
