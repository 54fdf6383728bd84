/- Rp3. -/
import Derived.Test.YtagplldaooipmaaGreatDoorWd
namespace Go.Proofs.YtagplldaooipmaaGreatDoor
open Go.RowKit
set_option maxHeartbeats 8000000 in
set_option maxRecDepth 100000 in
theorem of80_ir (b:List UInt8) (v:Value) (w:World) (hr:RdB w w.heap.size v b) (hl:b.length ≤ 1000000) (op n size:Nat) (hrd:read80 b=((op,n),size,0)) (ho:op < 256) (hn:n < 65536) (hq:op / 64=3∧op % 8=7) (pl:Nat) (d:Int) (hd:(d == 1)=false) :
  Calls Tryz.prog 39 #[.int .i64 d,.int .i64 pl,v] w (PieceR w ⟨pl,size,name80 op,(args80 op).map (fun _=>numA (op / 8 % 8)),jumps80 op,n,0⟩):=by
 have HR:=Lib.hid (fun W (hW:Below w.heap.size w W)=>refRead6_any b v W ((hr.below hW).more hW.size) hl)
 rw [hrd] at HR
 simp only at HR
 have HJ:=Lib.hid (fun W=>refJumps6_any op ho W)
 have HN:=Lib.hid (fun W=>refName6_any op ho W)
 have HA:=Lib.hid (fun W=>refArgs6_any op ho W)
 have HWD:=Lib.hid (fun s W=>refword_any s W)
 have HM:=Lib.hid (fun m W=>refnum_any m W)
 have m1:=u8_andC7 (x:=(op:Int)) (by omega) (by omega)
 have m2:((op:Int) / 64 * 64 + (op:Int) % 8 == 199)=true:=by rw [beq_iff_eq];omega
 have mn:IntKind.i64.wrap (n:Int)=(n:Int):=IntWalk.i64_in _ (by omega)
 have hal:(args80 op).length ≤ 3:=by have:=words80_len op ho;unfold args80;simp;omega
 have m7:bits .and .u8 ((op:Int) / 8) 7=(op:Int) / 8 % 8:=u8_and7 _ (by omega) (by omega)
 have m8:IntKind.u16.wrap ((op:Int) / 8 % 8)=(op:Int) / 8 % 8:=IntWalk.u16_in _ (by omega)
 have HR6:=Lib.hid (rst_words6 ⟨op,ho⟩ hq)
 simp only at HR6
 obtain ⟨A,c,rfl,hc⟩:=hr.form
 clear hrd hr hc hl hq
 generalize jumps80 op=j at *
 generalize name80 op=nm6 at *
 generalize args80 op=ar6 at *
 go_enter Tryz.func39, Tryz.ntmps39
 go_wp2_with fail
 refine (HR.out _ ((Below.refl _ _).alloc (Nat.le_refl _) _)).mono ?_
 rintro e w1 ⟨rfl,hb1⟩
 have B1:=Lib.hid (bthen ((Below.refl _ _).alloc (Nat.le_refl _) _) hb1)
 have C1:=Lib.hid ((hb1.block w.heap.size (by simp)).trans (heap_alloc_new w _))
 clear hb1 HR
 go_wp2_with fail
 refine (HN.out _).mono ?_
 rintro e w2 ⟨rfl,hb2⟩
 have B2:=Lib.hid (bthen B1.out hb2)
 have C2:=Lib.hid ((hb2.block w.heap.size (lt_of_heap C1.out)).trans C1.out)
 clear hb2 HN B1 C1
 go_wp2_with fail
 refine (HJ.out _).mono ?_
 rintro e w2' ⟨rfl,rfl⟩
 clear HJ
 go_wp2_with fail
 have T3:=Lib.hid (heap_alloc_new w2 (.cells #[.int .i64 (pl:Int),.int .i64 (size:Int),.string ⟨nm6.toArray⟩,.slice none 0 0,.bool j,.int .i64 (n:Int),.int .u8 0] 56))
 have C3:=Lib.hid ((Below.heap_alloc w2 (.cells #[.int .i64 (pl:Int),.int .i64 (size:Int),.string ⟨nm6.toArray⟩,.slice none 0 0,.bool j,.int .i64 (n:Int),.int .u8 0] 56) w.heap.size (lt_of_heap C2.out)).trans C2.out)
 have B3:=Lib.hid (B2.out.alloc B2.out.size (.cells #[.int .i64 (pl:Int),.int .i64 (size:Int),.string ⟨nm6.toArray⟩,.slice none 0 0,.bool j,.int .i64 (n:Int),.int .u8 0] 56))
 have hT:w.heap.size < w2.heap.size:=lt_of_heap C2.out
 have hT3:w2.heap.size < (w2.alloc (.cells #[.int .i64 (pl:Int),.int .i64 (size:Int),.string ⟨nm6.toArray⟩,.slice none 0 0,.bool j,.int .i64 (n:Int),.int .u8 0] 56)).heap.size:=by simp
 generalize w2.alloc (.cells #[.int .i64 (pl:Int),.int .i64 (size:Int),.string ⟨nm6.toArray⟩,.slice none 0 0,.bool j,.int .i64 (n:Int),.int .u8 0] 56)=w3 at *
 generalize w2.heap.size=T at *
 clear B2 C2
 refine (HA.out _).mono ?_
 rintro e w4 ⟨av,rfl,hrd4,hb4⟩
 obtain ⟨A4,c4,rfl,hc4⟩:=hrd4.form
 have R4:=Lib.hid hrd4
 have T4:=Lib.hid ((hb4.block T hT3).trans T3.out)
 have C4:=Lib.hid ((hb4.block w.heap.size (by omega)).trans C3.out)
 have B4:=Lib.hid (bthen B3.out hb4)
 clear hb4 HA B3 C3 T3 hT3 hrd4
 obtain ⟨w10,rfl⟩:∃ w10:World,w10=w4:=⟨_,rfl⟩
 obtain ⟨A6,c6,e6⟩:∃ A6 c6,A6=A4∧c6=c4:=⟨_,_,rfl,rfl⟩
 obtain ⟨rfl,rfl⟩:=e6
 have R6:=Lib.hid R4.out
 have T10:=Lib.hid T4.out
 have C10:=Lib.hid C4.out
 have B10:=Lib.hid B4.out
 clear R4 T4 C4 B4
 have R10:Hid (∀ k (hk:k < ar6.length),∃ g o,A6=some ⟨g,o,none⟩∧g < w10.heap.size∧w10.cell? ⟨g,o + k,none⟩=some (.string ⟨ar6[k].toArray⟩)):=Lib.hid (fun k hk=>by
  obtain ⟨A',c',h1,h2,h3⟩:=R6.out
  injection h1 with h1 _ _
  subst h1
  obtain ⟨g,o,h4,h5,h6⟩:=h3 (by omega)
  exact ⟨g,o,h4,h5,h6 k _ (by simp [hk,strV])⟩)
 have hT10:T < w10.heap.size:=lt_of_heap T10.out
 have T10:Hid (w10.heap[T]? = some (.cells #[.int .i64 (pl:Int),.int .i64 (size:Int),.string ⟨nm6.toArray⟩,.slice none 0 0,.bool j,.int .i64 (n:Int),.int .u8 0] 56 (0,0))):=Lib.hid T10.out
 clear R6
 go_wp2_with fail
 go_loopw [13] (fun i wr=>∃ k:Nat,k ≤ ar6.length∧i=.int .i64 k∧PieceL w w10 T (fun _=>numA (op / 8 % 8)) ar6 pl size nm6 j n k wr) (fun i _=>ar6.length - (intOf i).toNat)
 case atStart=>exact ⟨0,Nat.zero_le _,rfl,_,T10.out,World.ownsRow_nil _ _ _ _,But.refl _ _ _,B10.out⟩
 case round=>
  obtain ⟨k,hk,rfl,v,hCT,hown,hbut,hbw⟩:=hrel
  obtain ⟨vA,vc,rfl,hvc,hvm,_⟩:=own_slice hown (by omega)
  have z1:T < wr.heap.size:=lt_of_heap hCT
  have HT:=Lib.hid hCT
  have HOW:=Lib.hid hown
  have HBU:=Lib.hid hbut
  have HBW:=Lib.hid hbw
  have hsz:=hbut.1
  clear hown hbut hbw hvm
  by_cases hlt:k < ar6.length
  ·obtain ⟨g,o,rfl,hg1,ck⟩:=R10.out k hlt
   have ck':wr.cell? ⟨g,o + k,none⟩=some (.string ⟨ar6[k].toArray⟩):=but_cell T10.out HT.out HBU.out hg1 ck
   have hgr:g < wr.heap.size:=Nat.lt_of_lt_of_le hg1 hsz
   have hrow:rowA ((ar6.take (k + 1)).map (fun _=>numA (op / 8 % 8)))=rowA ((ar6.take k).map (fun _=>numA (op / 8 % 8))) ++ arCells (numA (op / 8 % 8)) nilV:=by
    rw [List.take_succ_eq_append_getElem hlt,List.map_append,rowA,List.flatMap_append];simp [rowA]
   have HROW:=Lib.hid hrow
   have hno:=HR6.out.2 _ (List.getElem_mem hlt)
   generalize ar6[k]=x at *
   clear hrow ck hCT
   obtain ⟨a1,a2,a3,a4,a5,a6⟩:=hno
   have e1:=str_ne a1
   have e2:=str_ne a2
   have e3:=str_ne a3
   have e4:=str_ne a4
   have e5:=str_ne a5
   have e6:=str_ne a6
   clear a1 a2 a3 a4 a5 a6
   go_wp2_with fail
   refine (HWD.out x _).mono ?_
   rintro e w2 ⟨rfl,hbU⟩
   have cU:=(hbU.cell (p:=⟨g,o + k,none⟩) hgr).trans ck'
   have hgU:g < w2.heap.size:=Nat.lt_of_lt_of_le hgr hbU.size
   have hTU:T < w2.heap.size:=Nat.lt_of_lt_of_le z1 hbU.size
   go_wp2_with fail
   refine (HM.out (op / 8 % 8) _).mono ?_
   rintro e w3 ⟨rfl,hbV⟩
   have hX:wr.heap.size ≤ w2.heap.size:=hbU.size
   have X3:=(hbV.block w2.heap.size (by simp)).trans (heap_alloc_new w2 (.cells (arCells (wordA x) nilV).toArray 41))
   have hX3:w2.heap.size < w3.heap.size:=lt_of_heap X3
   obtain ⟨⟨x0,x1,x2,x3,x4,x5,x6,x7⟩,g0,g1,g2,g3,g4,g5,g6,g7⟩:=eightR X3
   have t3:=cell_of_heap (i:=3) ((hbV.block T (by simp;omega)).trans ((Below.heap_alloc w2 (.cells (arCells (wordA x) nilV).toArray 41) T (by omega)).trans ((hbU.block T z1).trans HT.out)))
   simp at t3

   have BW:=Lib.hid (show Below wr.heap.size wr ((((((((w3.setCell ⟨w2.heap.size,0,none⟩ (.string ⟨#[]⟩)).setCell ⟨w2.heap.size,1,none⟩ (.string ⟨#[]⟩)).setCell ⟨w2.heap.size,2,none⟩ (.bool false)).setCell ⟨w2.heap.size,3,none⟩ (.bool false)).setCell ⟨w2.heap.size,4,none⟩ (.string ⟨#[35]⟩)).setCell ⟨w2.heap.size,5,none⟩ (.int .u16 ((op / 8 % 8:Nat):Int))).setCell ⟨w2.heap.size,6,none⟩ (.string ⟨#[]⟩)).setCell ⟨w2.heap.size,7,none⟩ (.slice none 0 0)) from ((((((((bthen (hbU.alloc hbU.size (.cells (arCells (wordA x) nilV).toArray 41)) hbV).setCell hX _).setCell hX _).setCell hX _).setCell hX _).setCell hX _).setCell hX _).setCell hX _).setCell hX _)
   have O4:=Lib.hid (show (((((((((w3.setCell ⟨w2.heap.size,0,none⟩ (.string ⟨#[]⟩)).setCell ⟨w2.heap.size,1,none⟩ (.string ⟨#[]⟩)).setCell ⟨w2.heap.size,2,none⟩ (.bool false)).setCell ⟨w2.heap.size,3,none⟩ (.bool false)).setCell ⟨w2.heap.size,4,none⟩ (.string ⟨#[35]⟩)).setCell ⟨w2.heap.size,5,none⟩ (.int .u16 ((op / 8 % 8:Nat):Int))).setCell ⟨w2.heap.size,6,none⟩ (.string ⟨#[]⟩)).setCell ⟨w2.heap.size,7,none⟩ (.slice none 0 0)).alloc (.cells (arCells (numA (op / 8 % 8)) nilV).toArray 41)).ownsRow w10.heap.size 41 8 (.slice vA k vc) k _ from (own_below HOW.out BW.out).alloc _)
   have N4:=Lib.hid (rd_new ((((((((w3.setCell ⟨w2.heap.size,0,none⟩ (.string ⟨#[]⟩)).setCell ⟨w2.heap.size,1,none⟩ (.string ⟨#[]⟩)).setCell ⟨w2.heap.size,2,none⟩ (.bool false)).setCell ⟨w2.heap.size,3,none⟩ (.bool false)).setCell ⟨w2.heap.size,4,none⟩ (.string ⟨#[35]⟩)).setCell ⟨w2.heap.size,5,none⟩ (.int .u16 ((op / 8 % 8:Nat):Int))).setCell ⟨w2.heap.size,6,none⟩ (.string ⟨#[]⟩)).setCell ⟨w2.heap.size,7,none⟩ (.slice none 0 0)) _ (by simp;rfl) (arCells (numA (op / 8 % 8)) nilV) 41)
   have B4:=Lib.hid (BW.out.alloc BW.out.size (.cells (arCells (numA (op / 8 % 8)) nilV).toArray 41))
   have hb4:w10.heap.size ≤ (((((((((w3.setCell ⟨w2.heap.size,0,none⟩ (.string ⟨#[]⟩)).setCell ⟨w2.heap.size,1,none⟩ (.string ⟨#[]⟩)).setCell ⟨w2.heap.size,2,none⟩ (.bool false)).setCell ⟨w2.heap.size,3,none⟩ (.bool false)).setCell ⟨w2.heap.size,4,none⟩ (.string ⟨#[35]⟩)).setCell ⟨w2.heap.size,5,none⟩ (.int .u16 ((op / 8 % 8:Nat):Int))).setCell ⟨w2.heap.size,6,none⟩ (.string ⟨#[]⟩)).setCell ⟨w2.heap.size,7,none⟩ (.slice none 0 0)).alloc (.cells (arCells (numA (op / 8 % 8)) nilV).toArray 41)).heap.size:=Nat.le_trans hsz B4.out.size
   go_wp2_with (at_builtin;go_loud (refine wpList_append_to _ rfl (.tmp 92) (.tmp 94) 29 rfl w10.heap.size 41 _ 8 104 Tryz.underlying29 info_ar rfl (by omega) O4.out rfl N4.out rfl rfl (arCells_one _ _ rfl) (by omega) (by omega) hb4 ?_;intro v9 w9 hown9 hbel9 hg9 hv9;obtain ⟨A9,c9,rfl,hc9,hm9,_⟩:=own_slice hown9 (by omega);have T9:=Lib.hid ((hbel9.block T hT10).trans ((B4.out.block T z1).trans HT.out));have O9:=Lib.hid (HROW.out ▸ hown9);have BB9:=Lib.hid (HBW.out.trans ((B4.out.mono (HBW.out.size)).trans (hbel9.mono (by omega))));have BU9:=Lib.hid ((HBU.out.bel (B4.out.mono hsz)).bel hbel9);have y3:=cell_of_heap (i:=3) T9.out;have e3:=frozen_of_heap (i:=3) T9.out;simp at y3 e3;clear hown9 hbel9 hg9 hv9 O4 N4 B4 hb4 BW))
   go_wp2_with fail
   go_roundw
   case rel=>exact ⟨k + 1,by omega,by go_num,_,heap_set (i:=3) _ T9.out,own_set O9.out hT10,BU9.out.set 3 _,BB9.out.setCell (by show w.heap.size ≤ T;omega) _⟩
   case measure=>simp [intOf];omega
  ·obtain rfl:k=ar6.length:=by omega
   have CR:=(HBU.out.2 w.heap.size (by omega) (by omega)).trans C10.out
   obtain ⟨⟨k0,k1,k2,k3,k4,k5,k6⟩,f0,f1,f2,f3,f4,f5,f6⟩:=seven CR
   obtain ⟨⟨t0,t1,t2,t3,t4,t5,t6⟩,g0,g1,g2,g3,g4,g5,g6⟩:=seven HT.out
   have HO:=HOW.out
   rw [List.take_length] at HO
   have O2:=Lib.hid HO
   have BB:=Lib.hid HBW.out
   clear CR hCT HO HOW HBW HBU HT R10 T10 C10 B10
   go_wp2_with fail
   refine bodyPost_ret (v:=.agg #[.int .i64 pl,.int .i64 size,.string ⟨nm6.toArray⟩,.slice vA ar6.length vc,.bool j,.int .i64 n,.int .u8 0]) (by simp [results,Tryz.results39,go_sem,k0,k1,k2,k3,k4,k5,k6]) rfl ⟨_,rfl,?_,?_⟩
   ·rw [List.length_map]
    exact own_more (own_set (own_set (own_set (own_set (own_set (own_set (own_set O2.out (by omega)) (by omega)) (by omega)) (by omega)) (by omega)) (by omega)) (by omega)) (by omega)
   ·exact ((((((BB.out.setCell (Nat.le_refl _) _).setCell (Nat.le_refl _) _).setCell (Nat.le_refl _) _).setCell (Nat.le_refl _) _).setCell (Nat.le_refl _) _).setCell (Nat.le_refl _) _).setCell (Nat.le_refl _) _
set_option maxHeartbeats 8000000 in
set_option maxRecDepth 100000 in
theorem of80_zr (b:List UInt8) (v:Value) (w:World) (hr:RdB w w.heap.size v b) (hl:b.length ≤ 1000000) (op n size:Nat) (hrd:read80 b=((op,n),size,0)) (ho:op < 256) (hn:n < 65536) (hq:op / 64=3∧op % 8=7) (pl:Nat) :
  Calls Tryz.prog 39 #[.int .i64 1,.int .i64 pl,v] w (PieceR w ⟨pl,size,zname op,(zargs op).map (fun _=>numA (op / 8 % 8 * 8)),jumps80 op,n,0⟩):=by
 have HR:=Lib.hid (fun W (hW:Below w.heap.size w W)=>refRead6_any b v W ((hr.below hW).more hW.size) hl)
 rw [hrd] at HR
 simp only at HR
 have HJ:=Lib.hid (fun W=>refJumps6_any op ho W)
 have HN:=Lib.hid (fun W=>refName6_any op ho W)
 have HA:=Lib.hid (fun W=>refArgs6_any op ho W)
 have HN7:=Lib.hid (fun W=>refName7_any op ho W)
 have HA7:=Lib.hid (fun W=>refArgs7_any op ho W)
 have HWD:=Lib.hid (fun s W=>refword_any s W)
 have HM:=Lib.hid (fun m W=>refnum_any m W)
 have m1:=u8_andC7 (x:=(op:Int)) (by omega) (by omega)
 have m2:((op:Int) / 64 * 64 + (op:Int) % 8 == 199)=true:=by rw [beq_iff_eq];omega
 have mn:IntKind.i64.wrap (n:Int)=(n:Int):=IntWalk.i64_in _ (by omega)
 have hal:(zargs op).length ≤ 3:=by have:=zform_len op ho;unfold zargs;simp;omega
 have m7:bits .and .u8 ((op:Int) / 8) 7=(op:Int) / 8 % 8:=u8_and7 _ (by omega) (by omega)
 have m8:IntKind.u16.wrap ((op:Int) / 8 % 8)=(op:Int) / 8 % 8:=IntWalk.u16_in _ (by omega)
 have HR6:=Lib.hid (rst_words7 ⟨op,ho⟩ hq)
 simp only at HR6
 have m9:IntKind.u16.wrap ((op:Int) / 8 % 8 * 8)=(op:Int) / 8 % 8 * 8:=IntWalk.u16_in _ (by omega)
 obtain ⟨A,c,rfl,hc⟩:=hr.form
 clear hrd hr hc hl hq
 generalize jumps80 op=j at *
 generalize name80 op=nm6 at *
 generalize args80 op=ar6 at *
 generalize zname op=nm7 at *
 generalize zargs op=ar7 at *
 go_enter Tryz.func39, Tryz.ntmps39
 go_wp2_with fail
 refine (HR.out _ ((Below.refl _ _).alloc (Nat.le_refl _) _)).mono ?_
 rintro e w1 ⟨rfl,hb1⟩
 have B1:=Lib.hid (bthen ((Below.refl _ _).alloc (Nat.le_refl _) _) hb1)
 have C1:=Lib.hid ((hb1.block w.heap.size (by simp)).trans (heap_alloc_new w _))
 clear hb1 HR
 go_wp2_with fail
 refine (HN.out _).mono ?_
 rintro e w2 ⟨rfl,hb2⟩
 have B2:=Lib.hid (bthen B1.out hb2)
 have C2:=Lib.hid ((hb2.block w.heap.size (lt_of_heap C1.out)).trans C1.out)
 clear hb2 HN B1 C1
 go_wp2_with fail
 refine (HJ.out _).mono ?_
 rintro e w2' ⟨rfl,rfl⟩
 clear HJ
 go_wp2_with fail
 have T3:=Lib.hid (heap_alloc_new w2 (.cells #[.int .i64 (pl:Int),.int .i64 (size:Int),.string ⟨nm6.toArray⟩,.slice none 0 0,.bool j,.int .i64 (n:Int),.int .u8 0] 56))
 have C3:=Lib.hid ((Below.heap_alloc w2 (.cells #[.int .i64 (pl:Int),.int .i64 (size:Int),.string ⟨nm6.toArray⟩,.slice none 0 0,.bool j,.int .i64 (n:Int),.int .u8 0] 56) w.heap.size (lt_of_heap C2.out)).trans C2.out)
 have B3:=Lib.hid (B2.out.alloc B2.out.size (.cells #[.int .i64 (pl:Int),.int .i64 (size:Int),.string ⟨nm6.toArray⟩,.slice none 0 0,.bool j,.int .i64 (n:Int),.int .u8 0] 56))
 have hT:w.heap.size < w2.heap.size:=lt_of_heap C2.out
 have hT3:w2.heap.size < (w2.alloc (.cells #[.int .i64 (pl:Int),.int .i64 (size:Int),.string ⟨nm6.toArray⟩,.slice none 0 0,.bool j,.int .i64 (n:Int),.int .u8 0] 56)).heap.size:=by simp
 generalize w2.alloc (.cells #[.int .i64 (pl:Int),.int .i64 (size:Int),.string ⟨nm6.toArray⟩,.slice none 0 0,.bool j,.int .i64 (n:Int),.int .u8 0] 56)=w3 at *
 generalize w2.heap.size=T at *
 clear B2 C2
 refine (HA.out _).mono ?_
 rintro e w4 ⟨av,rfl,hrd4,hb4⟩
 obtain ⟨A4,c4,rfl,hc4⟩:=hrd4.form
 have R4:=Lib.hid hrd4
 have T4:=Lib.hid ((hb4.block T hT3).trans T3.out)
 have C4:=Lib.hid ((hb4.block w.heap.size (by omega)).trans C3.out)
 have B4:=Lib.hid (bthen B3.out hb4)
 clear hb4 HA B3 C3 T3 hT3 hrd4
 go_wp2_with fail
 refine (HN7.out _).mono ?_
 rintro e w5 ⟨rfl,hb5⟩
 have T5:=Lib.hid ((hb5.block T (lt_of_heap T4.out)).trans T4.out)
 have C5:=Lib.hid ((hb5.block w.heap.size (lt_of_heap C4.out)).trans C4.out)
 have B5:=Lib.hid (bthen B4.out hb5)
 obtain ⟨⟨x0,x1,x2,x3,x4,x5,x6⟩,g0,g1,g2,g3,g4,g5,g6⟩:=seven T5.out
 have hT5:=lt_of_heap T5.out
 clear hb5 HN7 B4 C4 T4 R4
 go_wp2_with fail
 have T6:=Lib.hid (heap_set (i:=2) (.string ⟨nm7.toArray⟩) T5.out)
 have C6:=Lib.hid ((Below.heap_setCell w5 ⟨T,2,none⟩ (.string ⟨nm7.toArray⟩) w.heap.size (by simp;omega)).trans C5.out)
 have B6:=Lib.hid (B5.out.setCell (p:=⟨T,2,none⟩) (Nat.le_of_lt hT) (.string ⟨nm7.toArray⟩))
 clear B5 C5 T5 x0 x1 x2 x3 x4 x5 x6 g0 g1 g2 g3 g4 g5 g6 hT5
 generalize w5.setCell ⟨T,2,none⟩ (.string ⟨nm7.toArray⟩)=w6 at *
 refine (HA7.out _).mono ?_
 rintro e w10 ⟨av,rfl,hrd4,hb7⟩
 obtain ⟨A6,c6,rfl,hc6⟩:=hrd4.form
 have R6:=Lib.hid hrd4
 have T10:=Lib.hid ((hb7.block T (lt_of_heap T6.out)).trans T6.out)
 have C10:=Lib.hid ((hb7.block w.heap.size (lt_of_heap C6.out)).trans C6.out)
 have B10:=Lib.hid (bthen B6.out hb7)
 clear hb7 HA7 B6 C6 T6 hrd4
 have R10:Hid (∀ k (hk:k < ar7.length),∃ g o,A6=some ⟨g,o,none⟩∧g < w10.heap.size∧w10.cell? ⟨g,o + k,none⟩=some (.string ⟨ar7[k].toArray⟩)):=Lib.hid (fun k hk=>by
  obtain ⟨A',c',h1,h2,h3⟩:=R6.out
  injection h1 with h1 _ _
  subst h1
  obtain ⟨g,o,h4,h5,h6⟩:=h3 (by omega)
  exact ⟨g,o,h4,h5,h6 k _ (by simp [hk,strV])⟩)
 have hT10:T < w10.heap.size:=lt_of_heap T10.out
 have T10:Hid (w10.heap[T]? = some (.cells #[.int .i64 (pl:Int),.int .i64 (size:Int),.string ⟨nm7.toArray⟩,.slice none 0 0,.bool j,.int .i64 (n:Int),.int .u8 0] 56 (0,0))):=Lib.hid T10.out
 clear R6
 go_wp2_with fail
 go_loopw [13] (fun i wr=>∃ k:Nat,k ≤ ar7.length∧i=.int .i64 k∧PieceL w w10 T (fun _=>numA (op / 8 % 8 * 8)) ar7 pl size nm7 j n k wr) (fun i _=>ar7.length - (intOf i).toNat)
 case atStart=>exact ⟨0,Nat.zero_le _,rfl,_,T10.out,World.ownsRow_nil _ _ _ _,But.refl _ _ _,B10.out⟩
 case round=>
  obtain ⟨k,hk,rfl,v,hCT,hown,hbut,hbw⟩:=hrel
  obtain ⟨vA,vc,rfl,hvc,hvm,_⟩:=own_slice hown (by omega)
  have z1:T < wr.heap.size:=lt_of_heap hCT
  have HT:=Lib.hid hCT
  have HOW:=Lib.hid hown
  have HBU:=Lib.hid hbut
  have HBW:=Lib.hid hbw
  have hsz:=hbut.1
  clear hown hbut hbw hvm
  by_cases hlt:k < ar7.length
  ·obtain ⟨g,o,rfl,hg1,ck⟩:=R10.out k hlt
   have ck':wr.cell? ⟨g,o + k,none⟩=some (.string ⟨ar7[k].toArray⟩):=but_cell T10.out HT.out HBU.out hg1 ck
   have hgr:g < wr.heap.size:=Nat.lt_of_lt_of_le hg1 hsz
   have hrow:rowA ((ar7.take (k + 1)).map (fun _=>numA (op / 8 % 8 * 8)))=rowA ((ar7.take k).map (fun _=>numA (op / 8 % 8 * 8))) ++ arCells (numA (op / 8 % 8 * 8)) nilV:=by
    rw [List.take_succ_eq_append_getElem hlt,List.map_append,rowA,List.flatMap_append];simp [rowA]
   have HROW:=Lib.hid hrow
   have hno:=HR6.out.2 _ (List.getElem_mem hlt)
   generalize ar7[k]=x at *
   clear hrow ck hCT
   obtain ⟨a1,a2,a3,a4,a5,a6⟩:=hno
   have e1:=str_ne a1
   have e2:=str_ne a2
   have e3:=str_ne a3
   have e4:=str_ne a4
   have e5:=str_ne a5
   have e6:=str_ne a6
   clear a1 a2 a3 a4 a5 a6
   go_wp2_with fail
   refine (HWD.out x _).mono ?_
   rintro e w2 ⟨rfl,hbU⟩
   have cU:=(hbU.cell (p:=⟨g,o + k,none⟩) hgr).trans ck'
   have hgU:g < w2.heap.size:=Nat.lt_of_lt_of_le hgr hbU.size
   have hTU:T < w2.heap.size:=Nat.lt_of_lt_of_le z1 hbU.size
   go_wp2_with fail
   refine (HM.out (op / 8 % 8 * 8) _).mono ?_
   rintro e w3 ⟨rfl,hbV⟩
   have hX:wr.heap.size ≤ w2.heap.size:=hbU.size
   have X3:=(hbV.block w2.heap.size (by simp)).trans (heap_alloc_new w2 (.cells (arCells (wordA x) nilV).toArray 41))
   have hX3:w2.heap.size < w3.heap.size:=lt_of_heap X3
   obtain ⟨⟨x0,x1,x2,x3,x4,x5,x6,x7⟩,g0,g1,g2,g3,g4,g5,g6,g7⟩:=eightR X3
   have t3:=cell_of_heap (i:=3) ((hbV.block T (by simp;omega)).trans ((Below.heap_alloc w2 (.cells (arCells (wordA x) nilV).toArray 41) T (by omega)).trans ((hbU.block T z1).trans HT.out)))
   simp at t3

   have BW:=Lib.hid (show Below wr.heap.size wr ((((((((w3.setCell ⟨w2.heap.size,0,none⟩ (.string ⟨#[]⟩)).setCell ⟨w2.heap.size,1,none⟩ (.string ⟨#[]⟩)).setCell ⟨w2.heap.size,2,none⟩ (.bool false)).setCell ⟨w2.heap.size,3,none⟩ (.bool false)).setCell ⟨w2.heap.size,4,none⟩ (.string ⟨#[35]⟩)).setCell ⟨w2.heap.size,5,none⟩ (.int .u16 ((op / 8 % 8 * 8:Nat):Int))).setCell ⟨w2.heap.size,6,none⟩ (.string ⟨#[]⟩)).setCell ⟨w2.heap.size,7,none⟩ (.slice none 0 0)) from ((((((((bthen (hbU.alloc hbU.size (.cells (arCells (wordA x) nilV).toArray 41)) hbV).setCell hX _).setCell hX _).setCell hX _).setCell hX _).setCell hX _).setCell hX _).setCell hX _).setCell hX _)
   have O4:=Lib.hid (show (((((((((w3.setCell ⟨w2.heap.size,0,none⟩ (.string ⟨#[]⟩)).setCell ⟨w2.heap.size,1,none⟩ (.string ⟨#[]⟩)).setCell ⟨w2.heap.size,2,none⟩ (.bool false)).setCell ⟨w2.heap.size,3,none⟩ (.bool false)).setCell ⟨w2.heap.size,4,none⟩ (.string ⟨#[35]⟩)).setCell ⟨w2.heap.size,5,none⟩ (.int .u16 ((op / 8 % 8 * 8:Nat):Int))).setCell ⟨w2.heap.size,6,none⟩ (.string ⟨#[]⟩)).setCell ⟨w2.heap.size,7,none⟩ (.slice none 0 0)).alloc (.cells (arCells (numA (op / 8 % 8 * 8)) nilV).toArray 41)).ownsRow w10.heap.size 41 8 (.slice vA k vc) k _ from (own_below HOW.out BW.out).alloc _)
   have N4:=Lib.hid (rd_new ((((((((w3.setCell ⟨w2.heap.size,0,none⟩ (.string ⟨#[]⟩)).setCell ⟨w2.heap.size,1,none⟩ (.string ⟨#[]⟩)).setCell ⟨w2.heap.size,2,none⟩ (.bool false)).setCell ⟨w2.heap.size,3,none⟩ (.bool false)).setCell ⟨w2.heap.size,4,none⟩ (.string ⟨#[35]⟩)).setCell ⟨w2.heap.size,5,none⟩ (.int .u16 ((op / 8 % 8 * 8:Nat):Int))).setCell ⟨w2.heap.size,6,none⟩ (.string ⟨#[]⟩)).setCell ⟨w2.heap.size,7,none⟩ (.slice none 0 0)) _ (by simp;rfl) (arCells (numA (op / 8 % 8 * 8)) nilV) 41)
   have B4:=Lib.hid (BW.out.alloc BW.out.size (.cells (arCells (numA (op / 8 % 8 * 8)) nilV).toArray 41))
   have hb4:w10.heap.size ≤ (((((((((w3.setCell ⟨w2.heap.size,0,none⟩ (.string ⟨#[]⟩)).setCell ⟨w2.heap.size,1,none⟩ (.string ⟨#[]⟩)).setCell ⟨w2.heap.size,2,none⟩ (.bool false)).setCell ⟨w2.heap.size,3,none⟩ (.bool false)).setCell ⟨w2.heap.size,4,none⟩ (.string ⟨#[35]⟩)).setCell ⟨w2.heap.size,5,none⟩ (.int .u16 ((op / 8 % 8 * 8:Nat):Int))).setCell ⟨w2.heap.size,6,none⟩ (.string ⟨#[]⟩)).setCell ⟨w2.heap.size,7,none⟩ (.slice none 0 0)).alloc (.cells (arCells (numA (op / 8 % 8 * 8)) nilV).toArray 41)).heap.size:=Nat.le_trans hsz B4.out.size
   go_wp2_with (at_builtin;go_loud (refine wpList_append_to _ rfl (.tmp 92) (.tmp 94) 29 rfl w10.heap.size 41 _ 8 104 Tryz.underlying29 info_ar rfl (by omega) O4.out rfl N4.out rfl rfl (arCells_one _ _ rfl) (by omega) (by omega) hb4 ?_;intro v9 w9 hown9 hbel9 hg9 hv9;obtain ⟨A9,c9,rfl,hc9,hm9,_⟩:=own_slice hown9 (by omega);have T9:=Lib.hid ((hbel9.block T hT10).trans ((B4.out.block T z1).trans HT.out));have O9:=Lib.hid (HROW.out ▸ hown9);have BB9:=Lib.hid (HBW.out.trans ((B4.out.mono (HBW.out.size)).trans (hbel9.mono (by omega))));have BU9:=Lib.hid ((HBU.out.bel (B4.out.mono hsz)).bel hbel9);have y3:=cell_of_heap (i:=3) T9.out;have e3:=frozen_of_heap (i:=3) T9.out;simp at y3 e3;clear hown9 hbel9 hg9 hv9 O4 N4 B4 hb4 BW))
   go_wp2_with fail
   go_roundw
   case rel=>exact ⟨k + 1,by omega,by go_num,_,heap_set (i:=3) _ T9.out,own_set O9.out hT10,BU9.out.set 3 _,BB9.out.setCell (by show w.heap.size ≤ T;omega) _⟩
   case measure=>simp [intOf];omega
  ·obtain rfl:k=ar7.length:=by omega
   have CR:=(HBU.out.2 w.heap.size (by omega) (by omega)).trans C10.out
   obtain ⟨⟨k0,k1,k2,k3,k4,k5,k6⟩,f0,f1,f2,f3,f4,f5,f6⟩:=seven CR
   obtain ⟨⟨t0,t1,t2,t3,t4,t5,t6⟩,g0,g1,g2,g3,g4,g5,g6⟩:=seven HT.out
   have HO:=HOW.out
   rw [List.take_length] at HO
   have O2:=Lib.hid HO
   have BB:=Lib.hid HBW.out
   clear CR hCT HO HOW HBW HBU HT R10 T10 C10 B10
   go_wp2_with fail
   refine bodyPost_ret (v:=.agg #[.int .i64 pl,.int .i64 size,.string ⟨nm7.toArray⟩,.slice vA ar7.length vc,.bool j,.int .i64 n,.int .u8 0]) (by simp [results,Tryz.results39,go_sem,k0,k1,k2,k3,k4,k5,k6]) rfl ⟨_,rfl,?_,?_⟩
   ·rw [List.length_map]
    exact own_more (own_set (own_set (own_set (own_set (own_set (own_set (own_set O2.out (by omega)) (by omega)) (by omega)) (by omega)) (by omega)) (by omega)) (by omega)) (by omega)
   ·exact ((((((BB.out.setCell (Nat.le_refl _) _).setCell (Nat.le_refl _) _).setCell (Nat.le_refl _) _).setCell (Nat.le_refl _) _).setCell (Nat.le_refl _) _).setCell (Nat.le_refl _) _).setCell (Nat.le_refl _) _
end Go.Proofs.YtagplldaooipmaaGreatDoor
