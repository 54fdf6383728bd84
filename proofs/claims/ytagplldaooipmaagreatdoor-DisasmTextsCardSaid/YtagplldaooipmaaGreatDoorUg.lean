/- Ug. -/
import Derived.Test.YtagplldaooipmaaGreatDoorUf
import Derived.Deep.Cut
import Derived.Deep.CutRange
import Derived.Deep.DeepCutAuto
import Derived.Deep.CutBlock
namespace Go.Proofs.YtagplldaooipmaaGreatDoor
open Go.RowKit
set_option maxHeartbeats 8000000 in
set_option maxRecDepth 100000 in
theorem first80_ins (b:List UInt8) (v:Value) (w:World) (_hg:GWL w) (hr:RdB w w.heap.size v b) (hl:b.length ≤ 1000000) (op n size:Nat) (hrd:read80 b=((op,n),size,0)) (ho:op < 256) (_hn:n < 65536) (hj:jumps80 op=false) (hq:¬ (op / 64=3∧op % 8=7)) (d:Int) (hd:(d == 1)=false) :
  Calls Tryz.prog 36 #[.int .i64 d,v] w (StR w ⟨[],false,name80 op,(args80 op).map (fun a=>operandD a n)⟩ size (-1)):=by
 have HR:=Lib.hid (fun W (hW:Below w.heap.size w W)=>read80_any b v W ((hr.below hW).more hW.size) hl)
 rw [hrd] at HR
 simp only at HR
 have HJ:=Lib.hid (fun W=>jumps80_any op ho W)
 rw [hj] at HJ
 have m1:=u8_andC7 (x:=(op:Int)) (by omega) (by omega)
 have m2:((op:Int) / 64 * 64 + (op:Int) % 8 == 199)=false:=by rw [beq_eq_false_iff_ne];omega
 obtain ⟨A,c,rfl,hc⟩:=hr.form
 clear hrd hj hr hc hl hq
 go_enter Tryz.func36, Tryz.ntmps36
 go_wp2_with fail
 refine (HR.out _ ((Below.refl _ _).alloc (Nat.le_refl _) _)).mono ?_
 rintro e w1 ⟨rfl,hb1⟩
 have B1:=Lib.hid (bthen ((Below.refl _ _).alloc (Nat.le_refl _) _) hb1)
 have C1:=Lib.hid ((hb1.block w.heap.size (by simp)).trans (heap_alloc_new w _))
 have Z1:=Lib.hid (lt_of_heap C1.out)
 clear hb1 HR
 go_wp2_with fail
 refine (HJ.out _).mono ?_
 rintro e w2 ⟨rfl,rfl⟩
 clear HJ
 go_wp2_with fail
 have B7:=Lib.hid (B1.out.alloc B1.out.size (.cells #[.int .u8 (op:Int),.int .u16 (n:Int)] 101))
 have C7:=Lib.hid ((Below.heap_alloc w1 (.cells #[.int .u8 (op:Int),.int .u16 (n:Int)] 101) w.heap.size Z1.out).trans C1.out)
 have D7:=Lib.hid (heap_alloc_new w1 (.cells #[.int .u8 (op:Int),.int .u16 (n:Int)] 101))
 have hK:w.heap.size < w1.heap.size:=Z1.out
 have hK2:w1.heap.size < (w1.alloc (.cells #[.int .u8 (op:Int),.int .u16 (n:Int)] 101)).heap.size:=by simp
 generalize w1.alloc (.cells #[.int .u8 (op:Int),.int .u16 (n:Int)] 101)=w7 at *
 generalize w1.heap.size=K at *
 have i0:=cell_of_heap (i:=0) D7.out
 have i1:=cell_of_heap (i:=1) D7.out
 simp at i0 i1
 have HN:Hid (∀ W,Below w7.heap.size w7 W → W.cell? ⟨K,0,none⟩=some (.int .u8 (op:Int)) → Calls Tryz.prog 68 #[.int .u8 op] W fun e w'=>e=.returned (.string ⟨(name80 op).toArray⟩)∧Below W.heap.size W w'∧Below w7.heap.size w7 w'∧K < W.heap.size):=Lib.hid (fun W hW hz=>(name80_any op ho W).mono fun _ _ h=>⟨h.1,h.2,bthen hW h.2,World.block_lt_of_cell? _ _ hz⟩)
 have HA:Hid (∀ W,Below w7.heap.size w7 W → W.cell? ⟨K,0,none⟩=some (.int .u8 (op:Int)) → Calls Tryz.prog 69 #[.int .u8 op] W fun e w'=>∃ A c,e=.returned (.slice A (args80 op).length c)∧(args80 op).length ≤ c∧Hid (Rd w' w'.heap.size (.slice A (args80 op).length c) (args80 op).length ((args80 op).map strV))∧Below W.heap.size W w'∧Below w7.heap.size w7 w'∧K < W.heap.size):=Lib.hid (fun W hW hz=>(args80_any op ho W).mono fun _ _ h=>by
  obtain ⟨v,h1,h2,h3⟩:=h
  obtain ⟨A,c,rfl,h4⟩:=h2.form
  exact ⟨A,c,h1,h4,Lib.hid h2,h3,bthen hW h3,World.block_lt_of_cell? _ _ hz⟩)
 have m7:bits .and .u8 ((op:Int) / 8) 7=(op:Int) / 8 % 8:=u8_and7 _ (by omega) (by omega)
 have m8:IntKind.u16.wrap ((op:Int) / 8 % 8)=(op:Int) / 8 % 8:=IntWalk.u16_in _ (by omega)
 have hB0:Below w7.heap.size w7 w7.drew:=(Below.refl _ _).drew
 clear B1 C1 Z1
 go_region_held3 (fun w'=>w'.cell? ⟨K,0,none⟩=some (.int .u8 (op:Int))∧Below w7.heap.size w7 w')
  (first | (go_keep;done) | (refine ⟨?_,?_⟩ <;> first | assumption | go_keep)) (first | (go_at_call 68;go_split_ands;(with_reducible refine (HN.out _ ?_ ?_).mono ?_);(assumption);(assumption);rintro e5 w5 ⟨rfl,hb5,hbw5,hz5⟩;obtain ⟨hcc,hff⟩:=bcell hb5;obtain ⟨hcw,hfw⟩:=bcell hbw5) | (go_at_call 69;go_split_ands;(with_reducible refine (HA.out _ ?_ ?_).mono ?_);(assumption);(assumption);rintro e6 w6 ⟨A6,c6,rfl,hc6,hr6,hb6,hbw6,hz6⟩;obtain ⟨hcc,hff⟩:=bcell hb6;obtain ⟨hcw,hfw⟩:=bcell hbw6))
 clear hcc hff hcw hfw
 have R6:=Lib.hid hr6.out
 have B6:=Lib.hid hbw6
 clear hb5 hbw5 hb6 hr6 hbw6 hz5 hz6 hB0 m7 m8 HN HA
 go_wp2_with fail
 have HO:=Lib.hid (fun W=>dstmt_any (name80 op) (.slice none 0 0) W ⟨_,_,_,rfl⟩)
 refine (HO.out _).mono ?_
 rintro e w9 ⟨rfl,hb9⟩
 clear HO
 have B9:=Lib.hid (bthen B6.out hb9)
 have R9:=Lib.hid ((R6.out.below hb9).more (Nat.le_trans hb9.size (by simp:w9.heap.size ≤ (w9.alloc (.cells #[.string ⟨#[]⟩,.bool false,.string ⟨(name80 op).toArray⟩,.slice none 0 0] 31)).heap.size)))
 have R10:Hid (∀ k (hk:k < (args80 op).length),∃ g o,A6=some ⟨g,o,none⟩∧g < w9.heap.size∧(w9.alloc (.cells #[.string ⟨#[]⟩,.bool false,.string ⟨(name80 op).toArray⟩,.slice none 0 0] 31)).cell? ⟨g,o + k,none⟩=some (.string ⟨(args80 op)[k].toArray⟩)):=Lib.hid (fun k hk=>by
  obtain ⟨A',c',h1,h2,h3⟩:=R6.out
  injection h1 with h1 _ _
  subst h1
  obtain ⟨g,o,h4,h5,h6⟩:=h3 (by omega)
  refine ⟨g,o,h4,Nat.lt_of_lt_of_le h5 hb9.size,?_⟩
  rw [World.cell?_alloc_lt _ _ _ (Nat.lt_of_lt_of_le h5 hb9.size),hb9.cell (p:=⟨g,o + k,none⟩) h5]
  exact h6 k _ (by simp [hk,strV]))
 have hK9:w7.heap.size ≤ w9.heap.size:=Nat.le_trans B6.out.size hb9.size
 have C10:=Lib.hid ((Below.heap_alloc w9 (.cells #[.string ⟨#[]⟩,.bool false,.string ⟨(name80 op).toArray⟩,.slice none 0 0] 31) w.heap.size (by omega)).trans ((B9.out.block w.heap.size (by omega)).trans C7.out))
 have D10:=Lib.hid ((Below.heap_alloc w9 (.cells #[.string ⟨#[]⟩,.bool false,.string ⟨(name80 op).toArray⟩,.slice none 0 0] 31) K (by omega)).trans ((B9.out.block K (by omega)).trans D7.out))
 have T10:=Lib.hid (heap_alloc_new w9 (.cells #[.string ⟨#[]⟩,.bool false,.string ⟨(name80 op).toArray⟩,.slice none 0 0] 31))
 have B10:=Lib.hid ((B7.out.trans (B9.out.mono (Nat.le_of_lt (Nat.lt_trans hK hK2)))).alloc (by omega) (.cells #[.string ⟨#[]⟩,.bool false,.string ⟨(name80 op).toArray⟩,.slice none 0 0] 31))
 have hT1:w.heap.size < w9.heap.size:=by omega
 have hT2:K < w9.heap.size:=by omega
 have hT3:(w9.alloc (.cells #[.string ⟨#[]⟩,.bool false,.string ⟨(name80 op).toArray⟩,.slice none 0 0] 31)).heap.size=w9.heap.size + 1:=by simp
 clear hb9 B9 R9 R6 B6 C7 D7 B7 i0 i1 hK9 hK2
 go_wp2_with fail
 generalize w9.alloc (.cells #[.string ⟨#[]⟩,.bool false,.string ⟨(name80 op).toArray⟩,.slice none 0 0] 31)=w10 at *
 generalize w9.heap.size=T at *
 generalize hnm:name80 op=nm at *
 have HNM:=Lib.hid hnm
 clear hnm
 have hal:(args80 op).length ≤ 3:=by have:=words80_len op ho;unfold args80;simp;omega
 generalize har:args80 op=ar at *
 have HAR:=Lib.hid har
 clear har
 go_loopw [74] (fun i wr=>∃ k:Nat,k ≤ ar.length∧i=.int .i64 k∧FirstR w w10 T ar n nm k wr) (fun i _=>ar.length - (intOf i).toNat)
 case atStart=>exact ⟨0,Nat.zero_le _,rfl,_,T10.out,World.ownsRow_nil _ _ _ _,But.refl _ _ _,B10.out⟩
 case round=>
  obtain ⟨k,hk,rfl,v,hCT,hown,hbut,hbw⟩:=hrel
  obtain ⟨vA,vc,rfl,hvc,hvm,_⟩:=own_slice hown (by omega)
  have z1:T < wr.heap.size:=lt_of_heap hCT
  have HT:=Lib.hid hCT
  have HOW:=Lib.hid hown
  have HBU:=Lib.hid hbut
  have HBW:=Lib.hid hbw
  have hsz:=hbut.1
  clear hown hbut hbw hvm
  by_cases hlt:k < ar.length
  ·obtain ⟨g,o,rfl,hg1,ck⟩:=R10.out k hlt
   have ck':wr.cell? ⟨g,o + k,none⟩=some (.string ⟨ar[k].toArray⟩):=(World.cell?_of_block (HBU.out.2 g (by omega) (by omega))).trans ck
   have hrow:rowA ((ar.take (k + 1)).map fun a=>operandD a n)=rowA ((ar.take k).map fun a=>operandD a n) ++ arCells (operandD ar[k] n) nilV:=by
    rw [List.take_succ_eq_append_getElem hlt,List.map_append,rowA,List.flatMap_append];simp [rowA]
   have HROW:=Lib.hid hrow
   have HOP:=Lib.hid (fun W=>doperand_any ar[k] n W)
   have cT:=cell_of_heap (i:=3) hCT
   have fT:=frozen_of_heap (i:=3) hCT
   have cK:=cell_of_heap (i:=1) ((HBU.out.2 K (by omega) (by omega)).trans D10.out)
   simp at cT fT cK
   generalize ar[k]=x at *
   clear hrow ck hCT
   go_wp2_with fail
   go_region_law (first | (go_simp;go_at_call 15;refine (HOP.out _).mono ?_;rintro e w2 ⟨rfl,hbU⟩;have q1:=(hbU.cell (p:=⟨T,3,none⟩) z1).trans cT;have q2:=(hbU.cell (p:=⟨K,1,none⟩) (by show K < wr.heap.size;omega)).trans cK;have q5:T < w2.heap.size:=(by have:=hbU.size;simp at this;omega);have q6:K < w2.heap.size:=(by have:=hbU.size;simp at this;omega);have hown2:=own_below HOW.out.drew hbU) | (refine step_append_at _ (by rfl) _ _ _ (by rfl) w10.heap.size 41 _ 8 104 Tryz.underlying29 info_ar rfl (by decide) (hown2.alloc _) (by rfl) ⟨w2.heap.size,0,none⟩ (arCells (operandD x n) nilV) (by rfl) (by rfl) (cells_new w2 (arCells (operandD x n) nilV) _) (arCells_one _ _ rfl) (by omega) (by omega) (by simp;have:=hbU.size;simp at this;omega) ?_;intro v' w3 hown3 hb3 hgr3;obtain ⟨A9,c9,rfl,hc9,hm9,_⟩:=own_slice hown3 (by omega);have hT3':=(hb3.block T (by omega)).trans ((Below.heap_alloc w2 (.cells (arCells (operandD x n) nilV).toArray 41) T (by have:=hbU.size;simp at this;omega)).trans ((hbU.block T z1).trans HT.out));have q3:=cell_of_heap (i:=3) hT3';have f3:=frozen_of_heap (i:=3) hT3';simp at q3 f3))
   all_goals (
    have BB:=Lib.hid ((HBW.out.drew.trans (hbU.mono (by simp;omega))).alloc (by have:=hbU.size;simp at this;omega) (.cells (arCells (operandD x n) nilV).toArray 41) |>.trans (hb3.mono (by omega)))
    have BU3:=Lib.hid (((HBU.out.drew.bel (hbU.mono (by simp;omega))).bel ((Below.refl w2.heap.size w2).alloc (Nat.le_refl _) (.cells (arCells (operandD x n) nilV).toArray 41) |>.mono (by have:=hbU.size;simp at this;omega))).bel hb3)
    have O3:Hid (w3.ownsRow w10.heap.size 41 8 (.slice A9 (k + 1) c9) (k + 1) (rowA ((ar.take (k + 1)).map fun a=>operandD a n))):=Lib.hid (by rw [HROW.out];exact hown3)
    have T3:=Lib.hid hT3'
    clear hT3' hown3 hb3 hgr3 hbU hown2 q1 q2 HROW HOW HBU HBW
    go_simp
    go_wp2_with fail
    go_roundw
    case rel=>exact ⟨k + 1,by omega,by go_num,_,heap_set (i:=3) _ T3.out,own_set O3.out (by omega),BU3.out.set 3 _,BB.out.setCell (by show w.heap.size ≤ T;omega) _⟩
    case measure=>simp [intOf];omega)
  ·obtain rfl:k=ar.length:=by omega
   have CR:=(HBU.out.2 w.heap.size (by omega) (by omega)).trans C10.out
   have k0:=cell_of_heap (i:=0) CR
   have f0:=frozen_of_heap (i:=0) CR
   have k1:=cell_of_heap (i:=1) CR
   have f1:=frozen_of_heap (i:=1) CR
   have k2:=cell_of_heap (i:=2) CR
   have f2:=frozen_of_heap (i:=2) CR
   have k3:=cell_of_heap (i:=3) CR
   have f3:=frozen_of_heap (i:=3) CR
   simp at k0 k1 k2 k3 f0 f1 f2 f3
   have t0:=cell_of_heap (i:=0) HT.out
   have g0:=frozen_of_heap (i:=0) HT.out
   have t1:=cell_of_heap (i:=1) HT.out
   have g1:=frozen_of_heap (i:=1) HT.out
   have t2:=cell_of_heap (i:=2) HT.out
   have g2:=frozen_of_heap (i:=2) HT.out
   have t3:=cell_of_heap (i:=3) HT.out
   have g3:=frozen_of_heap (i:=3) HT.out
   simp at t0 t1 t2 t3 g0 g1 g2 g3
   have HO:=HOW.out
   rw [List.take_length] at HO
   have O2:=Lib.hid HO
   have BB:=Lib.hid HBW.out
   clear CR hCT HO HOW HBW HBU HT R10 T10 D10 C10 B10
   go_wp2_with fail
   refine bodyPost_ret (v:=.tuple #[.agg #[.string ⟨#[]⟩,.bool false,.string ⟨nm.toArray⟩,.slice vA ar.length vc],.int .i64 size,.int .i64 (-1)]) (by simp [results,Tryz.results36,go_sem,k0,k1,k2,k3]) rfl ⟨_,(by have h:=HNM.out;subst h;rfl),?_,?_⟩
   ·have h:=HAR.out
    subst h
    rw [List.length_map]
    exact own_more (own_set (own_set (own_set (own_set O2.out (by omega)) (by omega)) (by omega)) (by omega)) (by omega)
   ·exact (((BB.out.setCell (Nat.le_refl _) _).setCell (Nat.le_refl _) _).setCell (Nat.le_refl _) _).setCell (Nat.le_refl _) _
set_option maxHeartbeats 8000000 in
set_option maxRecDepth 100000 in
theorem first80_inj (b:List UInt8) (v:Value) (w:World) (_hg:GWL w) (hr:RdB w w.heap.size v b) (hl:b.length ≤ 1000000) (op n size:Nat) (hrd:read80 b=((op,n),size,0)) (ho:op < 256) (hn:n < 65536) (hj:jumps80 op=true) (hq:¬ (op / 64=3∧op % 8=7)) (d:Int) (hd:(d == 1)=false) :
  Calls Tryz.prog 36 #[.int .i64 d,v] w (StR w ⟨[],false,name80 op,(args80 op).map (fun a=>operandD a n)⟩ size n):=by
 have HR:=Lib.hid (fun W (hW:Below w.heap.size w W)=>read80_any b v W ((hr.below hW).more hW.size) hl)
 rw [hrd] at HR
 simp only at HR
 have HJ:=Lib.hid (fun W=>jumps80_any op ho W)
 rw [hj] at HJ
 have m1:=u8_andC7 (x:=(op:Int)) (by omega) (by omega)
 have m2:((op:Int) / 64 * 64 + (op:Int) % 8 == 199)=false:=by rw [beq_eq_false_iff_ne];omega
 obtain ⟨A,c,rfl,hc⟩:=hr.form
 clear hrd hj hr hc hl hq
 go_enter Tryz.func36, Tryz.ntmps36
 go_wp2_with fail
 refine (HR.out _ ((Below.refl _ _).alloc (Nat.le_refl _) _)).mono ?_
 rintro e w1 ⟨rfl,hb1⟩
 have B1:=Lib.hid (bthen ((Below.refl _ _).alloc (Nat.le_refl _) _) hb1)
 have C1:=Lib.hid ((hb1.block w.heap.size (by simp)).trans (heap_alloc_new w _))
 have Z1:=Lib.hid (lt_of_heap C1.out)
 clear hb1 HR
 go_wp2_with fail
 refine (HJ.out _).mono ?_
 rintro e w2 ⟨rfl,rfl⟩
 clear HJ
 go_wp2_with fail
 have B7:=Lib.hid (B1.out.alloc B1.out.size (.cells #[.int .u8 (op:Int),.int .u16 (n:Int)] 101))
 have C7:=Lib.hid ((Below.heap_alloc w1 (.cells #[.int .u8 (op:Int),.int .u16 (n:Int)] 101) w.heap.size Z1.out).trans C1.out)
 have D7:=Lib.hid (heap_alloc_new w1 (.cells #[.int .u8 (op:Int),.int .u16 (n:Int)] 101))
 have hK:w.heap.size < w1.heap.size:=Z1.out
 have hK2:w1.heap.size < (w1.alloc (.cells #[.int .u8 (op:Int),.int .u16 (n:Int)] 101)).heap.size:=by simp
 generalize w1.alloc (.cells #[.int .u8 (op:Int),.int .u16 (n:Int)] 101)=w7 at *
 generalize w1.heap.size=K at *
 have i0:=cell_of_heap (i:=0) D7.out
 have i1:=cell_of_heap (i:=1) D7.out
 simp at i0 i1
 have HN:Hid (∀ W,Below w7.heap.size w7 W → W.cell? ⟨K,0,none⟩=some (.int .u8 (op:Int)) → Calls Tryz.prog 68 #[.int .u8 op] W fun e w'=>e=.returned (.string ⟨(name80 op).toArray⟩)∧Below W.heap.size W w'∧Below w7.heap.size w7 w'∧K < W.heap.size):=Lib.hid (fun W hW hz=>(name80_any op ho W).mono fun _ _ h=>⟨h.1,h.2,bthen hW h.2,World.block_lt_of_cell? _ _ hz⟩)
 have HA:Hid (∀ W,Below w7.heap.size w7 W → W.cell? ⟨K,0,none⟩=some (.int .u8 (op:Int)) → Calls Tryz.prog 69 #[.int .u8 op] W fun e w'=>∃ A c,e=.returned (.slice A (args80 op).length c)∧(args80 op).length ≤ c∧Hid (Rd w' w'.heap.size (.slice A (args80 op).length c) (args80 op).length ((args80 op).map strV))∧Below W.heap.size W w'∧Below w7.heap.size w7 w'∧K < W.heap.size):=Lib.hid (fun W hW hz=>(args80_any op ho W).mono fun _ _ h=>by
  obtain ⟨v,h1,h2,h3⟩:=h
  obtain ⟨A,c,rfl,h4⟩:=h2.form
  exact ⟨A,c,h1,h4,Lib.hid h2,h3,bthen hW h3,World.block_lt_of_cell? _ _ hz⟩)
 have m7:bits .and .u8 ((op:Int) / 8) 7=(op:Int) / 8 % 8:=u8_and7 _ (by omega) (by omega)
 have m8:IntKind.u16.wrap ((op:Int) / 8 % 8)=(op:Int) / 8 % 8:=IntWalk.u16_in _ (by omega)
 have hB0:Below w7.heap.size w7 w7.drew:=(Below.refl _ _).drew
 clear B1 C1 Z1
 go_region_held3 (fun w'=>w'.cell? ⟨K,0,none⟩=some (.int .u8 (op:Int))∧Below w7.heap.size w7 w')
  (first | (go_keep;done) | (refine ⟨?_,?_⟩ <;> first | assumption | go_keep)) (first | (go_at_call 68;go_split_ands;(with_reducible refine (HN.out _ ?_ ?_).mono ?_);(assumption);(assumption);rintro e5 w5 ⟨rfl,hb5,hbw5,hz5⟩;obtain ⟨hcc,hff⟩:=bcell hb5;obtain ⟨hcw,hfw⟩:=bcell hbw5) | (go_at_call 69;go_split_ands;(with_reducible refine (HA.out _ ?_ ?_).mono ?_);(assumption);(assumption);rintro e6 w6 ⟨A6,c6,rfl,hc6,hr6,hb6,hbw6,hz6⟩;obtain ⟨hcc,hff⟩:=bcell hb6;obtain ⟨hcw,hfw⟩:=bcell hbw6))
 clear hcc hff hcw hfw
 have R6:=Lib.hid hr6.out
 have B6:=Lib.hid hbw6
 clear hb5 hbw5 hb6 hr6 hbw6 hz5 hz6 hB0 m7 m8 HN HA
 go_wp2_with fail
 have HO:=Lib.hid (fun W=>dstmt_any (name80 op) (.slice none 0 0) W ⟨_,_,_,rfl⟩)
 refine (HO.out _).mono ?_
 rintro e w9 ⟨rfl,hb9⟩
 clear HO
 have B9:=Lib.hid (bthen B6.out hb9)
 have R9:=Lib.hid ((R6.out.below hb9).more (Nat.le_trans hb9.size (by simp:w9.heap.size ≤ (w9.alloc (.cells #[.string ⟨#[]⟩,.bool false,.string ⟨(name80 op).toArray⟩,.slice none 0 0] 31)).heap.size)))
 have R10:Hid (∀ k (hk:k < (args80 op).length),∃ g o,A6=some ⟨g,o,none⟩∧g < w9.heap.size∧(w9.alloc (.cells #[.string ⟨#[]⟩,.bool false,.string ⟨(name80 op).toArray⟩,.slice none 0 0] 31)).cell? ⟨g,o + k,none⟩=some (.string ⟨(args80 op)[k].toArray⟩)):=Lib.hid (fun k hk=>by
  obtain ⟨A',c',h1,h2,h3⟩:=R6.out
  injection h1 with h1 _ _
  subst h1
  obtain ⟨g,o,h4,h5,h6⟩:=h3 (by omega)
  refine ⟨g,o,h4,Nat.lt_of_lt_of_le h5 hb9.size,?_⟩
  rw [World.cell?_alloc_lt _ _ _ (Nat.lt_of_lt_of_le h5 hb9.size),hb9.cell (p:=⟨g,o + k,none⟩) h5]
  exact h6 k _ (by simp [hk,strV]))
 have hK9:w7.heap.size ≤ w9.heap.size:=Nat.le_trans B6.out.size hb9.size
 have C10:=Lib.hid ((Below.heap_alloc w9 (.cells #[.string ⟨#[]⟩,.bool false,.string ⟨(name80 op).toArray⟩,.slice none 0 0] 31) w.heap.size (by omega)).trans ((B9.out.block w.heap.size (by omega)).trans C7.out))
 have D10:=Lib.hid ((Below.heap_alloc w9 (.cells #[.string ⟨#[]⟩,.bool false,.string ⟨(name80 op).toArray⟩,.slice none 0 0] 31) K (by omega)).trans ((B9.out.block K (by omega)).trans D7.out))
 have T10:=Lib.hid (heap_alloc_new w9 (.cells #[.string ⟨#[]⟩,.bool false,.string ⟨(name80 op).toArray⟩,.slice none 0 0] 31))
 have B10:=Lib.hid ((B7.out.trans (B9.out.mono (Nat.le_of_lt (Nat.lt_trans hK hK2)))).alloc (by omega) (.cells #[.string ⟨#[]⟩,.bool false,.string ⟨(name80 op).toArray⟩,.slice none 0 0] 31))
 have hT1:w.heap.size < w9.heap.size:=by omega
 have hT2:K < w9.heap.size:=by omega
 have hT3:(w9.alloc (.cells #[.string ⟨#[]⟩,.bool false,.string ⟨(name80 op).toArray⟩,.slice none 0 0] 31)).heap.size=w9.heap.size + 1:=by simp
 clear hb9 B9 R9 R6 B6 C7 D7 B7 i0 i1 hK9 hK2
 go_wp2_with fail
 generalize w9.alloc (.cells #[.string ⟨#[]⟩,.bool false,.string ⟨(name80 op).toArray⟩,.slice none 0 0] 31)=w10 at *
 generalize w9.heap.size=T at *
 generalize hnm:name80 op=nm at *
 have HNM:=Lib.hid hnm
 clear hnm
 have hal:(args80 op).length ≤ 3:=by have:=words80_len op ho;unfold args80;simp;omega
 generalize har:args80 op=ar at *
 have HAR:=Lib.hid har
 clear har
 go_loopw [74] (fun i wr=>∃ k:Nat,k ≤ ar.length∧i=.int .i64 k∧FirstR w w10 T ar n nm k wr) (fun i _=>ar.length - (intOf i).toNat)
 case atStart=>exact ⟨0,Nat.zero_le _,rfl,_,T10.out,World.ownsRow_nil _ _ _ _,But.refl _ _ _,B10.out⟩
 case round=>
  obtain ⟨k,hk,rfl,v,hCT,hown,hbut,hbw⟩:=hrel
  obtain ⟨vA,vc,rfl,hvc,hvm,_⟩:=own_slice hown (by omega)
  have z1:T < wr.heap.size:=lt_of_heap hCT
  have HT:=Lib.hid hCT
  have HOW:=Lib.hid hown
  have HBU:=Lib.hid hbut
  have HBW:=Lib.hid hbw
  have hsz:=hbut.1
  clear hown hbut hbw hvm
  by_cases hlt:k < ar.length
  ·obtain ⟨g,o,rfl,hg1,ck⟩:=R10.out k hlt
   have ck':wr.cell? ⟨g,o + k,none⟩=some (.string ⟨ar[k].toArray⟩):=(World.cell?_of_block (HBU.out.2 g (by omega) (by omega))).trans ck
   have hrow:rowA ((ar.take (k + 1)).map fun a=>operandD a n)=rowA ((ar.take k).map fun a=>operandD a n) ++ arCells (operandD ar[k] n) nilV:=by
    rw [List.take_succ_eq_append_getElem hlt,List.map_append,rowA,List.flatMap_append];simp [rowA]
   have HROW:=Lib.hid hrow
   have HOP:=Lib.hid (fun W=>doperand_any ar[k] n W)
   have cT:=cell_of_heap (i:=3) hCT
   have fT:=frozen_of_heap (i:=3) hCT
   have cK:=cell_of_heap (i:=1) ((HBU.out.2 K (by omega) (by omega)).trans D10.out)
   simp at cT fT cK
   generalize ar[k]=x at *
   clear hrow ck hCT
   go_wp2_with fail
   go_region_law (first | (go_simp;go_at_call 15;refine (HOP.out _).mono ?_;rintro e w2 ⟨rfl,hbU⟩;have q1:=(hbU.cell (p:=⟨T,3,none⟩) z1).trans cT;have q2:=(hbU.cell (p:=⟨K,1,none⟩) (by show K < wr.heap.size;omega)).trans cK;have q5:T < w2.heap.size:=(by have:=hbU.size;simp at this;omega);have q6:K < w2.heap.size:=(by have:=hbU.size;simp at this;omega);have hown2:=own_below HOW.out.drew hbU) | (refine step_append_at _ (by rfl) _ _ _ (by rfl) w10.heap.size 41 _ 8 104 Tryz.underlying29 info_ar rfl (by decide) (hown2.alloc _) (by rfl) ⟨w2.heap.size,0,none⟩ (arCells (operandD x n) nilV) (by rfl) (by rfl) (cells_new w2 (arCells (operandD x n) nilV) _) (arCells_one _ _ rfl) (by omega) (by omega) (by simp;have:=hbU.size;simp at this;omega) ?_;intro v' w3 hown3 hb3 hgr3;obtain ⟨A9,c9,rfl,hc9,hm9,_⟩:=own_slice hown3 (by omega);have hT3':=(hb3.block T (by omega)).trans ((Below.heap_alloc w2 (.cells (arCells (operandD x n) nilV).toArray 41) T (by have:=hbU.size;simp at this;omega)).trans ((hbU.block T z1).trans HT.out));have q3:=cell_of_heap (i:=3) hT3';have f3:=frozen_of_heap (i:=3) hT3';simp at q3 f3))
   all_goals (
    have BB:=Lib.hid ((HBW.out.drew.trans (hbU.mono (by simp;omega))).alloc (by have:=hbU.size;simp at this;omega) (.cells (arCells (operandD x n) nilV).toArray 41) |>.trans (hb3.mono (by omega)))
    have BU3:=Lib.hid (((HBU.out.drew.bel (hbU.mono (by simp;omega))).bel ((Below.refl w2.heap.size w2).alloc (Nat.le_refl _) (.cells (arCells (operandD x n) nilV).toArray 41) |>.mono (by have:=hbU.size;simp at this;omega))).bel hb3)
    have O3:Hid (w3.ownsRow w10.heap.size 41 8 (.slice A9 (k + 1) c9) (k + 1) (rowA ((ar.take (k + 1)).map fun a=>operandD a n))):=Lib.hid (by rw [HROW.out];exact hown3)
    have T3:=Lib.hid hT3'
    clear hT3' hown3 hb3 hgr3 hbU hown2 q1 q2 HROW HOW HBU HBW
    go_simp
    go_wp2_with fail
    go_roundw
    case rel=>exact ⟨k + 1,by omega,by go_num,_,heap_set (i:=3) _ T3.out,own_set O3.out (by omega),BU3.out.set 3 _,BB.out.setCell (by show w.heap.size ≤ T;omega) _⟩
    case measure=>simp [intOf];omega)
  ·obtain rfl:k=ar.length:=by omega
   have CR:=(HBU.out.2 w.heap.size (by omega) (by omega)).trans C10.out
   have k0:=cell_of_heap (i:=0) CR
   have f0:=frozen_of_heap (i:=0) CR
   have k1:=cell_of_heap (i:=1) CR
   have f1:=frozen_of_heap (i:=1) CR
   have k2:=cell_of_heap (i:=2) CR
   have f2:=frozen_of_heap (i:=2) CR
   have k3:=cell_of_heap (i:=3) CR
   have f3:=frozen_of_heap (i:=3) CR
   simp at k0 k1 k2 k3 f0 f1 f2 f3
   have t0:=cell_of_heap (i:=0) HT.out
   have g0:=frozen_of_heap (i:=0) HT.out
   have t1:=cell_of_heap (i:=1) HT.out
   have g1:=frozen_of_heap (i:=1) HT.out
   have t2:=cell_of_heap (i:=2) HT.out
   have g2:=frozen_of_heap (i:=2) HT.out
   have t3:=cell_of_heap (i:=3) HT.out
   have g3:=frozen_of_heap (i:=3) HT.out
   simp at t0 t1 t2 t3 g0 g1 g2 g3
   have HO:=HOW.out
   rw [List.take_length] at HO
   have O2:=Lib.hid HO
   have BB:=Lib.hid HBW.out
   clear CR hCT HO HOW HBW HBU HT R10 T10 D10 C10 B10
   go_wp2_with fail
   refine bodyPost_ret (v:=.tuple #[.agg #[.string ⟨#[]⟩,.bool false,.string ⟨nm.toArray⟩,.slice vA ar.length vc],.int .i64 size,.int .i64 n]) (by simp [results,Tryz.results36,go_sem,k0,k1,k2,k3]) rfl ⟨_,(by have h:=HNM.out;subst h;rfl),?_,?_⟩
   ·have h:=HAR.out
    subst h
    rw [List.length_map]
    exact own_more (own_set (own_set (own_set (own_set O2.out (by omega)) (by omega)) (by omega)) (by omega)) (by omega)
   ·exact (((BB.out.setCell (Nat.le_refl _) _).setCell (Nat.le_refl _) _).setCell (Nat.le_refl _) _).setCell (Nat.le_refl _) _
end Go.Proofs.YtagplldaooipmaaGreatDoor
/- disasm: first80, RST. -/
namespace Go.Proofs.YtagplldaooipmaaGreatDoor
open Go.RowKit
set_option maxHeartbeats 8000000 in
set_option maxRecDepth 100000 in
theorem first80_irs (b:List UInt8) (v:Value) (w:World) (_hg:GWL w) (hr:RdB w w.heap.size v b) (hl:b.length ≤ 1000000) (op n size:Nat) (hrd:read80 b=((op,n),size,0)) (ho:op < 256) (_hn:n < 65536) (hj:jumps80 op=false) (hq:(op / 64=3∧op % 8=7)) (d:Int) (hd:(d == 1)=false) :
  Calls Tryz.prog 36 #[.int .i64 d,v] w (StR w ⟨[],false,name80 op,[numA (op / 8 % 8)]⟩ size (-1)):=by
 have HR:=Lib.hid (fun W (hW:Below w.heap.size w W)=>read80_any b v W ((hr.below hW).more hW.size) hl)
 rw [hrd] at HR
 simp only at HR
 have HJ:=Lib.hid (fun W=>jumps80_any op ho W)
 rw [hj] at HJ
 have m1:=u8_andC7 (x:=(op:Int)) (by omega) (by omega)
 have m2:((op:Int) / 64 * 64 + (op:Int) % 8 == 199)=true:=by rw [beq_iff_eq];omega
 obtain ⟨A,c,rfl,hc⟩:=hr.form
 clear hrd hj hr hc hl hq
 go_enter Tryz.func36, Tryz.ntmps36
 go_wp2_with fail
 refine (HR.out _ ((Below.refl _ _).alloc (Nat.le_refl _) _)).mono ?_
 rintro e w1 ⟨rfl,hb1⟩
 have B1:=Lib.hid (bthen ((Below.refl _ _).alloc (Nat.le_refl _) _) hb1)
 have C1:=Lib.hid ((hb1.block w.heap.size (by simp)).trans (heap_alloc_new w _))
 have Z1:=Lib.hid (lt_of_heap C1.out)
 clear hb1 HR
 go_wp2_with fail
 refine (HJ.out _).mono ?_
 rintro e w2 ⟨rfl,rfl⟩
 clear HJ
 go_wp2_with fail
 have B7:=Lib.hid (B1.out.alloc B1.out.size (.cells #[.int .u8 (op:Int),.int .u16 (n:Int)] 101))
 have C7:=Lib.hid ((Below.heap_alloc w1 (.cells #[.int .u8 (op:Int),.int .u16 (n:Int)] 101) w.heap.size Z1.out).trans C1.out)
 have D7:=Lib.hid (heap_alloc_new w1 (.cells #[.int .u8 (op:Int),.int .u16 (n:Int)] 101))
 have hK:w.heap.size < w1.heap.size:=Z1.out
 have hK2:w1.heap.size < (w1.alloc (.cells #[.int .u8 (op:Int),.int .u16 (n:Int)] 101)).heap.size:=by simp
 generalize w1.alloc (.cells #[.int .u8 (op:Int),.int .u16 (n:Int)] 101)=w7 at *
 generalize w1.heap.size=K at *
 have i0:=cell_of_heap (i:=0) D7.out
 have i1:=cell_of_heap (i:=1) D7.out
 simp at i0 i1
 have HN:Hid (∀ W,Below w7.heap.size w7 W → W.cell? ⟨K,0,none⟩=some (.int .u8 (op:Int)) → Calls Tryz.prog 68 #[.int .u8 op] W fun e w'=>e=.returned (.string ⟨(name80 op).toArray⟩)∧Below W.heap.size W w'∧Below w7.heap.size w7 w'∧K < W.heap.size):=Lib.hid (fun W hW hz=>(name80_any op ho W).mono fun _ _ h=>⟨h.1,h.2,bthen hW h.2,World.block_lt_of_cell? _ _ hz⟩)
 have HA:Hid (∀ W,Below w7.heap.size w7 W → W.cell? ⟨K,0,none⟩=some (.int .u8 (op:Int)) → Calls Tryz.prog 69 #[.int .u8 op] W fun e w'=>∃ A c,e=.returned (.slice A (args80 op).length c)∧(args80 op).length ≤ c∧Hid (Rd w' w'.heap.size (.slice A (args80 op).length c) (args80 op).length ((args80 op).map strV))∧Below W.heap.size W w'∧Below w7.heap.size w7 w'∧K < W.heap.size):=Lib.hid (fun W hW hz=>(args80_any op ho W).mono fun _ _ h=>by
  obtain ⟨v,h1,h2,h3⟩:=h
  obtain ⟨A,c,rfl,h4⟩:=h2.form
  exact ⟨A,c,h1,h4,Lib.hid h2,h3,bthen hW h3,World.block_lt_of_cell? _ _ hz⟩)
 have m7:bits .and .u8 ((op:Int) / 8) 7=(op:Int) / 8 % 8:=u8_and7 _ (by omega) (by omega)
 have m8:IntKind.u16.wrap ((op:Int) / 8 % 8)=(op:Int) / 8 % 8:=IntWalk.u16_in _ (by omega)
 have hB0:Below w7.heap.size w7 w7.drew:=(Below.refl _ _).drew
 clear B1 C1 Z1
 go_region_held3 (fun w'=>w'.cell? ⟨K,0,none⟩=some (.int .u8 (op:Int))∧Below w7.heap.size w7 w')
  (first | (go_keep;done) | (refine ⟨?_,?_⟩ <;> first | assumption | go_keep)) (first | (go_at_call 68;go_split_ands;(with_reducible refine (HN.out _ ?_ ?_).mono ?_);(assumption);(assumption);rintro e5 w5 ⟨rfl,hb5,hbw5,hz5⟩;obtain ⟨hcc,hff⟩:=bcell hb5;obtain ⟨hcw,hfw⟩:=bcell hbw5) | (go_at_call 69;go_split_ands;(with_reducible refine (HA.out _ ?_ ?_).mono ?_);(assumption);(assumption);rintro e6 w6 ⟨A6,c6,rfl,hc6,hr6,hb6,hbw6,hz6⟩;obtain ⟨hcc,hff⟩:=bcell hb6;obtain ⟨hcw,hfw⟩:=bcell hbw6))
 clear hcc hff hcw hfw
 have R6:=Lib.hid hr6.out
 have B6:=Lib.hid hbw6
 clear hb5 hbw5 hb6 hr6 hbw6 hz5 hz6 hB0 m7 m8 HN HA
 go_wp2_with fail
 have er:(((op / 8 % 8:Nat)):Int)=(op:Int) / 8 % 8:=by omega
 have HO:Hid (∀ W,Calls Tryz.prog 15 #[.string ⟨sn1.toArray⟩,.int .u16 ((op:Int) / 8 % 8)] W fun e w'=>e=.returned (arV (numA (op / 8 % 8)) nilV)∧Below W.heap.size W w'):=Lib.hid (fun W=>er ▸ doperand_num sn1 (op / 8 % 8) W (by simp))
 have HS:=Lib.hid (fun g W=>dstmt_any (name80 op) (.slice (some ⟨g,0,none⟩) 1 1) W ⟨_,_,_,rfl⟩)
 clear er R6
 refine (HO.out _).mono ?_
 rintro e w11 ⟨rfl,hb11⟩
 have B11:=Lib.hid ((B7.out.trans (B6.out.mono (by omega))).trans (hb11.mono (by have:=B6.out.size;omega)))
 have C11:=Lib.hid ((hb11.block w.heap.size (by have:=B6.out.size;omega)).trans ((B6.out.block w.heap.size (by omega)).trans C7.out))
 have R11:=Lib.hid (rowA_new w11 (numA (op / 8 % 8)))
 have Z11:=Lib.hid (lt_of_heap C11.out)
 clear hb11 HO B6 B7 C7 D7 i0 i1
 go_wp2_with fail
 refine (HS.out _ _).mono ?_
 rintro e w12 ⟨rfl,hb12⟩
 have B12:=Lib.hid (B11.out.alloc B11.out.size (.cells (arCells (numA (op / 8 % 8)) nilV).toArray 41) |>.trans (hb12.mono (by have:=B11.out.size;simp;omega)))
 have C12:=Lib.hid ((hb12.block w.heap.size (by simp;have:=Z11.out;omega)).trans ((Below.heap_alloc w11 _ w.heap.size Z11.out).trans C11.out))
 have R12:=Lib.hid (own_below R11.out hb12)
 have Z12:=Z11.out
 clear hb12 HS C11 R11 B11
 have k0:=cell_of_heap (i:=0) C12.out
 have f0:=frozen_of_heap (i:=0) C12.out
 have k1:=cell_of_heap (i:=1) C12.out
 have f1:=frozen_of_heap (i:=1) C12.out
 have k2:=cell_of_heap (i:=2) C12.out
 have f2:=frozen_of_heap (i:=2) C12.out
 have k3:=cell_of_heap (i:=3) C12.out
 have f3:=frozen_of_heap (i:=3) C12.out
 simp at k0 k1 k2 k3 f0 f1 f2 f3
 go_wp2_with fail
 refine bodyPost_ret (v:=.tuple #[.agg #[.string ⟨#[]⟩,.bool false,.string ⟨(name80 op).toArray⟩,.slice (some ⟨w11.heap.size,0,none⟩) 1 1],.int .i64 size,.int .i64 (-1)]) (by simp [results,Tryz.results36,go_sem,k0,k1,k2,k3]) rfl ⟨_,rfl,?_,((((B12.out.setCell (by simp) _).setCell (by simp) _).setCell (by simp) _).setCell (by simp) _)⟩
 exact own_more (own_set (own_set (own_set (own_set R12.out (by omega)) (by omega)) (by omega)) (by omega)) (by omega)
set_option maxHeartbeats 8000000 in
set_option maxRecDepth 100000 in
theorem first80_zrs (b:List UInt8) (v:Value) (w:World) (hg:GWL w) (hr:RdB w w.heap.size v b) (hl:b.length ≤ 1000000) (op n size:Nat) (hrd:read80 b=((op,n),size,0)) (ho:op < 256) (_hn:n < 65536) (hj:jumps80 op=false) (hq:(op / 64=3∧op % 8=7)) :
  Calls Tryz.prog 36 #[.int .i64 1,v] w (StR w ⟨[],false,zname op,[numA (op / 8 % 8 * 8)]⟩ size (-1)):=by
 have HR:=Lib.hid (fun W (hW:Below w.heap.size w W)=>read80_any b v W ((hr.below hW).more hW.size) hl)
 rw [hrd] at HR
 simp only at HR
 have HJ:=Lib.hid (fun W=>jumps80_any op ho W)
 rw [hj] at HJ
 have m1:=u8_andC7 (x:=(op:Int)) (by omega) (by omega)
 have m2:((op:Int) / 64 * 64 + (op:Int) % 8 == 199)=true:=by rw [beq_iff_eq];omega
 obtain ⟨A,c,rfl,hc⟩:=hr.form
 clear hrd hj hr hc hl hq
 go_enter Tryz.func36, Tryz.ntmps36
 go_wp2_with fail
 refine (HR.out _ ((Below.refl _ _).alloc (Nat.le_refl _) _)).mono ?_
 rintro e w1 ⟨rfl,hb1⟩
 have B1:=Lib.hid (bthen ((Below.refl _ _).alloc (Nat.le_refl _) _) hb1)
 have C1:=Lib.hid ((hb1.block w.heap.size (by simp)).trans (heap_alloc_new w _))
 have Z1:=Lib.hid (lt_of_heap C1.out)
 clear hb1 HR
 go_wp2_with fail
 refine (HJ.out _).mono ?_
 rintro e w2 ⟨rfl,rfl⟩
 clear HJ
 go_wp2_with fail
 have B7:=Lib.hid (B1.out.alloc B1.out.size (.cells #[.int .u8 (op:Int),.int .u16 (n:Int)] 101))
 have C7:=Lib.hid ((Below.heap_alloc w1 (.cells #[.int .u8 (op:Int),.int .u16 (n:Int)] 101) w.heap.size Z1.out).trans C1.out)
 have D7:=Lib.hid (heap_alloc_new w1 (.cells #[.int .u8 (op:Int),.int .u16 (n:Int)] 101))
 have hK:w.heap.size < w1.heap.size:=Z1.out
 have hK2:w1.heap.size < (w1.alloc (.cells #[.int .u8 (op:Int),.int .u16 (n:Int)] 101)).heap.size:=by simp
 generalize w1.alloc (.cells #[.int .u8 (op:Int),.int .u16 (n:Int)] 101)=w7 at *
 generalize w1.heap.size=K at *
 have i0:=cell_of_heap (i:=0) D7.out
 have i1:=cell_of_heap (i:=1) D7.out
 simp at i0 i1
 have HN:Hid (∀ W,Below w7.heap.size w7 W → W.cell? ⟨K,0,none⟩=some (.int .u8 (op:Int)) → Calls Tryz.prog 68 #[.int .u8 op] W fun e w'=>e=.returned (.string ⟨(name80 op).toArray⟩)∧Below W.heap.size W w'∧Below w7.heap.size w7 w'∧K < W.heap.size):=Lib.hid (fun W hW hz=>(name80_any op ho W).mono fun _ _ h=>⟨h.1,h.2,bthen hW h.2,World.block_lt_of_cell? _ _ hz⟩)
 have HA:Hid (∀ W,Below w7.heap.size w7 W → W.cell? ⟨K,0,none⟩=some (.int .u8 (op:Int)) → Calls Tryz.prog 69 #[.int .u8 op] W fun e w'=>∃ A c,e=.returned (.slice A (args80 op).length c)∧(args80 op).length ≤ c∧Hid (Rd w' w'.heap.size (.slice A (args80 op).length c) (args80 op).length ((args80 op).map strV))∧Below W.heap.size W w'∧Below w7.heap.size w7 w'∧K < W.heap.size):=Lib.hid (fun W hW hz=>(args80_any op ho W).mono fun _ _ h=>by
  obtain ⟨v,h1,h2,h3⟩:=h
  obtain ⟨A,c,rfl,h4⟩:=h2.form
  exact ⟨A,c,h1,h4,Lib.hid h2,h3,bthen hW h3,World.block_lt_of_cell? _ _ hz⟩)
 have m7:bits .and .u8 ((op:Int) / 8) 7=(op:Int) / 8 % 8:=u8_and7 _ (by omega) (by omega)
 have m8:IntKind.u16.wrap ((op:Int) / 8 % 8)=(op:Int) / 8 % 8:=IntWalk.u16_in _ (by omega)
 have hB0:Below w7.heap.size w7 w7.drew:=(Below.refl _ _).drew
 clear B1 C1 Z1
 go_region_held3 (fun w'=>w'.cell? ⟨K,0,none⟩=some (.int .u8 (op:Int))∧Below w7.heap.size w7 w')
  (first | (go_keep;done) | (refine ⟨?_,?_⟩ <;> first | assumption | go_keep)) (first | (go_at_call 68;go_split_ands;(with_reducible refine (HN.out _ ?_ ?_).mono ?_);(assumption);(assumption);rintro e5 w5 ⟨rfl,hb5,hbw5,hz5⟩;obtain ⟨hcc,hff⟩:=bcell hb5;obtain ⟨hcw,hfw⟩:=bcell hbw5) | (go_at_call 69;go_split_ands;(with_reducible refine (HA.out _ ?_ ?_).mono ?_);(assumption);(assumption);rintro e6 w6 ⟨A6,c6,rfl,hc6,hr6,hb6,hbw6,hz6⟩;obtain ⟨hcc,hff⟩:=bcell hb6;obtain ⟨hcw,hfw⟩:=bcell hbw6))
 clear hcc hff hcw hfw
 have R6:=Lib.hid hr6.out
 have B6:=Lib.hid hbw6
 clear hb5 hbw5 hb6 hr6 hbw6 hz5 hz6 hB0 m7 m8 HN HA
 go_wp2_with fail
 have hi6:w6.cell? ⟨K,0,none⟩=some (.int .u8 (op:Int)):=(B6.out.cell (p:=⟨K,0,none⟩) hK2).trans i0
 have HN:Hid (∀ W,Below w7.heap.size w7 W → W.cell? ⟨K,0,none⟩=some (.int .u8 (op:Int)) → Calls Tryz.prog 70 #[.int .u8 op] W fun e w'=>e=.returned (.string ⟨(zname op).toArray⟩)∧Below W.heap.size W w'∧Below w7.heap.size w7 w'∧K < W.heap.size):=Lib.hid (fun W hW hz=>(zname_any op ho W (hg.below (B7.out.trans (hW.mono (by omega))))).mono fun _ _ h=>⟨h.1,h.2,bthen hW h.2,World.block_lt_of_cell? _ _ hz⟩)
 have HA:Hid (∀ W,Below w7.heap.size w7 W → W.cell? ⟨K,0,none⟩=some (.int .u8 (op:Int)) → Calls Tryz.prog 71 #[.int .u8 op] W fun e w'=>∃ A c,e=.returned (.slice A (zargs op).length c)∧(zargs op).length ≤ c∧Hid (Rd w' w'.heap.size (.slice A (zargs op).length c) (zargs op).length ((zargs op).map strV))∧Below W.heap.size W w'∧Below w7.heap.size w7 w'∧K < W.heap.size):=Lib.hid (fun W hW hz=>(zargs_any op ho W (hg.below (B7.out.trans (hW.mono (by omega))))).mono fun _ _ h=>by
  obtain ⟨v,h1,h2,h3⟩:=h
  obtain ⟨A,c,rfl,h4⟩:=h2.form
  exact ⟨A,c,h1,h4,Lib.hid h2,h3,bthen hW h3,World.block_lt_of_cell? _ _ hz⟩)
 have m9:IntKind.u16.wrap ((op:Int) / 8 % 8 * 8)=(op:Int) / 8 % 8 * 8:=IntWalk.u16_in _ (by omega)
 have hB0:Below w7.heap.size w7 w6.drew:=B6.out.drew
 clear R6 B6
 go_region_held3 (fun w'=>w'.cell? ⟨K,0,none⟩=some (.int .u8 (op:Int))∧Below w7.heap.size w7 w')
  (first | (go_keep;done) | (refine ⟨?_,?_⟩ <;> first | assumption | go_keep)) (first | (go_at_call 70;go_split_ands;(with_reducible refine (HN.out _ ?_ ?_).mono ?_);(assumption);(assumption);rintro e5 w15 ⟨rfl,hb5,hbw5,hz5⟩;obtain ⟨hcc,hff⟩:=bcell hb5;obtain ⟨hcw,hfw⟩:=bcell hbw5) | (go_at_call 71;go_split_ands;(with_reducible refine (HA.out _ ?_ ?_).mono ?_);(assumption);(assumption);rintro e6 w16 ⟨A16,c16,rfl,hc16,hr6,hb6,hbw6,hz6⟩;obtain ⟨hcc,hff⟩:=bcell hb6;obtain ⟨hcw,hfw⟩:=bcell hbw6))
 clear hcc hff hcw hfw
 have R6:=Lib.hid hr6.out
 have B6:=Lib.hid hbw6
 clear hb5 hbw5 hb6 hr6 hbw6 hz5 hz6 hB0 m9 HN HA hi6
 go_wp2_with fail
 have er:(((op / 8 % 8 * 8:Nat)):Int)=(op:Int) / 8 % 8 * 8:=by omega
 have HO:Hid (∀ W,Calls Tryz.prog 15 #[.string ⟨sn1.toArray⟩,.int .u16 ((op:Int) / 8 % 8 * 8)] W fun e w'=>e=.returned (arV (numA (op / 8 % 8 * 8)) nilV)∧Below W.heap.size W w'):=Lib.hid (fun W=>er ▸ doperand_num sn1 (op / 8 % 8 * 8) W (by simp))
 have HS:=Lib.hid (fun g W=>dstmt_any (zname op) (.slice (some ⟨g,0,none⟩) 1 1) W ⟨_,_,_,rfl⟩)
 clear er R6
 refine (HO.out _).mono ?_
 rintro e w11 ⟨rfl,hb11⟩
 have B11:=Lib.hid ((B7.out.trans (B6.out.mono (by omega))).trans (hb11.mono (by have:=B6.out.size;omega)))
 have C11:=Lib.hid ((hb11.block w.heap.size (by have:=B6.out.size;omega)).trans ((B6.out.block w.heap.size (by omega)).trans C7.out))
 have R11:=Lib.hid (rowA_new w11 (numA (op / 8 % 8 * 8)))
 have Z11:=Lib.hid (lt_of_heap C11.out)
 clear hb11 HO B6 B7 C7 D7 i0 i1
 go_wp2_with fail
 refine (HS.out _ _).mono ?_
 rintro e w12 ⟨rfl,hb12⟩
 have B12:=Lib.hid (B11.out.alloc B11.out.size (.cells (arCells (numA (op / 8 % 8 * 8)) nilV).toArray 41) |>.trans (hb12.mono (by have:=B11.out.size;simp;omega)))
 have C12:=Lib.hid ((hb12.block w.heap.size (by simp;have:=Z11.out;omega)).trans ((Below.heap_alloc w11 _ w.heap.size Z11.out).trans C11.out))
 have R12:=Lib.hid (own_below R11.out hb12)
 have Z12:=Z11.out
 clear hb12 HS C11 R11 B11
 have k0:=cell_of_heap (i:=0) C12.out
 have f0:=frozen_of_heap (i:=0) C12.out
 have k1:=cell_of_heap (i:=1) C12.out
 have f1:=frozen_of_heap (i:=1) C12.out
 have k2:=cell_of_heap (i:=2) C12.out
 have f2:=frozen_of_heap (i:=2) C12.out
 have k3:=cell_of_heap (i:=3) C12.out
 have f3:=frozen_of_heap (i:=3) C12.out
 simp at k0 k1 k2 k3 f0 f1 f2 f3
 go_wp2_with fail
 refine bodyPost_ret (v:=.tuple #[.agg #[.string ⟨#[]⟩,.bool false,.string ⟨(zname op).toArray⟩,.slice (some ⟨w11.heap.size,0,none⟩) 1 1],.int .i64 size,.int .i64 (-1)]) (by simp [results,Tryz.results36,go_sem,k0,k1,k2,k3]) rfl ⟨_,rfl,?_,((((B12.out.setCell (by simp) _).setCell (by simp) _).setCell (by simp) _).setCell (by simp) _)⟩
 exact own_more (own_set (own_set (own_set (own_set R12.out (by omega)) (by omega)) (by omega)) (by omega)) (by omega)
end Go.Proofs.YtagplldaooipmaaGreatDoor
/- disasm: first80, Zilog, plain. -/
namespace Go.Proofs.YtagplldaooipmaaGreatDoor
open Go.RowKit
set_option maxHeartbeats 8000000 in
set_option maxRecDepth 100000 in
theorem first80_zns (b:List UInt8) (v:Value) (w:World) (hg:GWL w) (hr:RdB w w.heap.size v b) (hl:b.length ≤ 1000000) (op n size:Nat) (hrd:read80 b=((op,n),size,0)) (ho:op < 256) (_hn:n < 65536) (hj:jumps80 op=false) (hq:¬ (op / 64=3∧op % 8=7)) :
  Calls Tryz.prog 36 #[.int .i64 1,v] w (StR w ⟨[],false,zname op,(zargs op).map (fun a=>operandD a n)⟩ size (-1)):=by
 have HR:=Lib.hid (fun W (hW:Below w.heap.size w W)=>read80_any b v W ((hr.below hW).more hW.size) hl)
 rw [hrd] at HR
 simp only at HR
 have HJ:=Lib.hid (fun W=>jumps80_any op ho W)
 rw [hj] at HJ
 have m1:=u8_andC7 (x:=(op:Int)) (by omega) (by omega)
 have m2:((op:Int) / 64 * 64 + (op:Int) % 8 == 199)=false:=by rw [beq_eq_false_iff_ne];omega
 obtain ⟨A,c,rfl,hc⟩:=hr.form
 clear hrd hj hr hc hl hq
 go_enter Tryz.func36, Tryz.ntmps36
 go_wp2_with fail
 refine (HR.out _ ((Below.refl _ _).alloc (Nat.le_refl _) _)).mono ?_
 rintro e w1 ⟨rfl,hb1⟩
 have B1:=Lib.hid (bthen ((Below.refl _ _).alloc (Nat.le_refl _) _) hb1)
 have C1:=Lib.hid ((hb1.block w.heap.size (by simp)).trans (heap_alloc_new w _))
 have Z1:=Lib.hid (lt_of_heap C1.out)
 clear hb1 HR
 go_wp2_with fail
 refine (HJ.out _).mono ?_
 rintro e w2 ⟨rfl,rfl⟩
 clear HJ
 go_wp2_with fail
 have B7:=Lib.hid (B1.out.alloc B1.out.size (.cells #[.int .u8 (op:Int),.int .u16 (n:Int)] 101))
 have C7:=Lib.hid ((Below.heap_alloc w1 (.cells #[.int .u8 (op:Int),.int .u16 (n:Int)] 101) w.heap.size Z1.out).trans C1.out)
 have D7:=Lib.hid (heap_alloc_new w1 (.cells #[.int .u8 (op:Int),.int .u16 (n:Int)] 101))
 have hK:w.heap.size < w1.heap.size:=Z1.out
 have hK2:w1.heap.size < (w1.alloc (.cells #[.int .u8 (op:Int),.int .u16 (n:Int)] 101)).heap.size:=by simp
 generalize w1.alloc (.cells #[.int .u8 (op:Int),.int .u16 (n:Int)] 101)=w7 at *
 generalize w1.heap.size=K at *
 have i0:=cell_of_heap (i:=0) D7.out
 have i1:=cell_of_heap (i:=1) D7.out
 simp at i0 i1
 have HN:Hid (∀ W,Below w7.heap.size w7 W → W.cell? ⟨K,0,none⟩=some (.int .u8 (op:Int)) → Calls Tryz.prog 68 #[.int .u8 op] W fun e w'=>e=.returned (.string ⟨(name80 op).toArray⟩)∧Below W.heap.size W w'∧Below w7.heap.size w7 w'∧K < W.heap.size):=Lib.hid (fun W hW hz=>(name80_any op ho W).mono fun _ _ h=>⟨h.1,h.2,bthen hW h.2,World.block_lt_of_cell? _ _ hz⟩)
 have HA:Hid (∀ W,Below w7.heap.size w7 W → W.cell? ⟨K,0,none⟩=some (.int .u8 (op:Int)) → Calls Tryz.prog 69 #[.int .u8 op] W fun e w'=>∃ A c,e=.returned (.slice A (args80 op).length c)∧(args80 op).length ≤ c∧Hid (Rd w' w'.heap.size (.slice A (args80 op).length c) (args80 op).length ((args80 op).map strV))∧Below W.heap.size W w'∧Below w7.heap.size w7 w'∧K < W.heap.size):=Lib.hid (fun W hW hz=>(args80_any op ho W).mono fun _ _ h=>by
  obtain ⟨v,h1,h2,h3⟩:=h
  obtain ⟨A,c,rfl,h4⟩:=h2.form
  exact ⟨A,c,h1,h4,Lib.hid h2,h3,bthen hW h3,World.block_lt_of_cell? _ _ hz⟩)
 have m7:bits .and .u8 ((op:Int) / 8) 7=(op:Int) / 8 % 8:=u8_and7 _ (by omega) (by omega)
 have m8:IntKind.u16.wrap ((op:Int) / 8 % 8)=(op:Int) / 8 % 8:=IntWalk.u16_in _ (by omega)
 have hB0:Below w7.heap.size w7 w7.drew:=(Below.refl _ _).drew
 clear B1 C1 Z1
 go_region_held3 (fun w'=>w'.cell? ⟨K,0,none⟩=some (.int .u8 (op:Int))∧Below w7.heap.size w7 w')
  (first | (go_keep;done) | (refine ⟨?_,?_⟩ <;> first | assumption | go_keep)) (first | (go_at_call 68;go_split_ands;(with_reducible refine (HN.out _ ?_ ?_).mono ?_);(assumption);(assumption);rintro e5 w5 ⟨rfl,hb5,hbw5,hz5⟩;obtain ⟨hcc,hff⟩:=bcell hb5;obtain ⟨hcw,hfw⟩:=bcell hbw5) | (go_at_call 69;go_split_ands;(with_reducible refine (HA.out _ ?_ ?_).mono ?_);(assumption);(assumption);rintro e6 w6 ⟨A6,c6,rfl,hc6,hr6,hb6,hbw6,hz6⟩;obtain ⟨hcc,hff⟩:=bcell hb6;obtain ⟨hcw,hfw⟩:=bcell hbw6))
 clear hcc hff hcw hfw
 have R6:=Lib.hid hr6.out
 have B6:=Lib.hid hbw6
 clear hb5 hbw5 hb6 hr6 hbw6 hz5 hz6 hB0 m7 m8 HN HA
 go_wp2_with fail
 have hi6:w6.cell? ⟨K,0,none⟩=some (.int .u8 (op:Int)):=(B6.out.cell (p:=⟨K,0,none⟩) hK2).trans i0
 have HN:Hid (∀ W,Below w7.heap.size w7 W → W.cell? ⟨K,0,none⟩=some (.int .u8 (op:Int)) → Calls Tryz.prog 70 #[.int .u8 op] W fun e w'=>e=.returned (.string ⟨(zname op).toArray⟩)∧Below W.heap.size W w'∧Below w7.heap.size w7 w'∧K < W.heap.size):=Lib.hid (fun W hW hz=>(zname_any op ho W (hg.below (B7.out.trans (hW.mono (by omega))))).mono fun _ _ h=>⟨h.1,h.2,bthen hW h.2,World.block_lt_of_cell? _ _ hz⟩)
 have HA:Hid (∀ W,Below w7.heap.size w7 W → W.cell? ⟨K,0,none⟩=some (.int .u8 (op:Int)) → Calls Tryz.prog 71 #[.int .u8 op] W fun e w'=>∃ A c,e=.returned (.slice A (zargs op).length c)∧(zargs op).length ≤ c∧Hid (Rd w' w'.heap.size (.slice A (zargs op).length c) (zargs op).length ((zargs op).map strV))∧Below W.heap.size W w'∧Below w7.heap.size w7 w'∧K < W.heap.size):=Lib.hid (fun W hW hz=>(zargs_any op ho W (hg.below (B7.out.trans (hW.mono (by omega))))).mono fun _ _ h=>by
  obtain ⟨v,h1,h2,h3⟩:=h
  obtain ⟨A,c,rfl,h4⟩:=h2.form
  exact ⟨A,c,h1,h4,Lib.hid h2,h3,bthen hW h3,World.block_lt_of_cell? _ _ hz⟩)
 have m9:IntKind.u16.wrap ((op:Int) / 8 % 8 * 8)=(op:Int) / 8 % 8 * 8:=IntWalk.u16_in _ (by omega)
 have hB0:Below w7.heap.size w7 w6.drew:=B6.out.drew
 clear R6 B6
 go_region_held3 (fun w'=>w'.cell? ⟨K,0,none⟩=some (.int .u8 (op:Int))∧Below w7.heap.size w7 w')
  (first | (go_keep;done) | (refine ⟨?_,?_⟩ <;> first | assumption | go_keep)) (first | (go_at_call 70;go_split_ands;(with_reducible refine (HN.out _ ?_ ?_).mono ?_);(assumption);(assumption);rintro e5 w15 ⟨rfl,hb5,hbw5,hz5⟩;obtain ⟨hcc,hff⟩:=bcell hb5;obtain ⟨hcw,hfw⟩:=bcell hbw5) | (go_at_call 71;go_split_ands;(with_reducible refine (HA.out _ ?_ ?_).mono ?_);(assumption);(assumption);rintro e6 w16 ⟨A16,c16,rfl,hc16,hr6,hb6,hbw6,hz6⟩;obtain ⟨hcc,hff⟩:=bcell hb6;obtain ⟨hcw,hfw⟩:=bcell hbw6))
 clear hcc hff hcw hfw
 have R6:=Lib.hid hr6.out
 have B6:=Lib.hid hbw6
 clear hb5 hbw5 hb6 hr6 hbw6 hz5 hz6 hB0 m9 HN HA hi6
 go_wp2_with fail
 have HO:=Lib.hid (fun W=>dstmt_any (zname op) (.slice none 0 0) W ⟨_,_,_,rfl⟩)
 refine (HO.out _).mono ?_
 rintro e w9 ⟨rfl,hb9⟩
 clear HO
 have B9:=Lib.hid (bthen B6.out hb9)
 have R9:=Lib.hid ((R6.out.below hb9).more (Nat.le_trans hb9.size (by simp:w9.heap.size ≤ (w9.alloc (.cells #[.string ⟨#[]⟩,.bool false,.string ⟨(zname op).toArray⟩,.slice none 0 0] 31)).heap.size)))
 have R10:Hid (∀ k (hk:k < (zargs op).length),∃ g o,A16=some ⟨g,o,none⟩∧g < w9.heap.size∧(w9.alloc (.cells #[.string ⟨#[]⟩,.bool false,.string ⟨(zname op).toArray⟩,.slice none 0 0] 31)).cell? ⟨g,o + k,none⟩=some (.string ⟨(zargs op)[k].toArray⟩)):=Lib.hid (fun k hk=>by
  obtain ⟨A',c',h1,h2,h3⟩:=R6.out
  injection h1 with h1 _ _
  subst h1
  obtain ⟨g,o,h4,h5,h6⟩:=h3 (by omega)
  refine ⟨g,o,h4,Nat.lt_of_lt_of_le h5 hb9.size,?_⟩
  rw [World.cell?_alloc_lt _ _ _ (Nat.lt_of_lt_of_le h5 hb9.size),hb9.cell (p:=⟨g,o + k,none⟩) h5]
  exact h6 k _ (by simp [hk,strV]))
 have hK9:w7.heap.size ≤ w9.heap.size:=Nat.le_trans B6.out.size hb9.size
 have C10:=Lib.hid ((Below.heap_alloc w9 (.cells #[.string ⟨#[]⟩,.bool false,.string ⟨(zname op).toArray⟩,.slice none 0 0] 31) w.heap.size (by omega)).trans ((B9.out.block w.heap.size (by omega)).trans C7.out))
 have D10:=Lib.hid ((Below.heap_alloc w9 (.cells #[.string ⟨#[]⟩,.bool false,.string ⟨(zname op).toArray⟩,.slice none 0 0] 31) K (by omega)).trans ((B9.out.block K (by omega)).trans D7.out))
 have T10:=Lib.hid (heap_alloc_new w9 (.cells #[.string ⟨#[]⟩,.bool false,.string ⟨(zname op).toArray⟩,.slice none 0 0] 31))
 have B10:=Lib.hid ((B7.out.trans (B9.out.mono (Nat.le_of_lt (Nat.lt_trans hK hK2)))).alloc (by omega) (.cells #[.string ⟨#[]⟩,.bool false,.string ⟨(zname op).toArray⟩,.slice none 0 0] 31))
 have hT1:w.heap.size < w9.heap.size:=by omega
 have hT2:K < w9.heap.size:=by omega
 have hT3:(w9.alloc (.cells #[.string ⟨#[]⟩,.bool false,.string ⟨(zname op).toArray⟩,.slice none 0 0] 31)).heap.size=w9.heap.size + 1:=by simp
 clear hb9 B9 R9 R6 B6 C7 D7 B7 i0 i1 hK9 hK2
 go_wp2_with fail
 generalize w9.alloc (.cells #[.string ⟨#[]⟩,.bool false,.string ⟨(zname op).toArray⟩,.slice none 0 0] 31)=w10 at *
 generalize w9.heap.size=T at *
 generalize hnm:zname op=nm at *
 have HNM:=Lib.hid hnm
 clear hnm
 have hal:(zargs op).length ≤ 3:=by have:=zform_len op ho;unfold zargs;simp;omega
 generalize har:zargs op=ar at *
 have HAR:=Lib.hid har
 clear har
 go_loopw [74] (fun i wr=>∃ k:Nat,k ≤ ar.length∧i=.int .i64 k∧FirstR w w10 T ar n nm k wr) (fun i _=>ar.length - (intOf i).toNat)
 case atStart=>exact ⟨0,Nat.zero_le _,rfl,_,T10.out,World.ownsRow_nil _ _ _ _,But.refl _ _ _,B10.out⟩
 case round=>
  obtain ⟨k,hk,rfl,v,hCT,hown,hbut,hbw⟩:=hrel
  obtain ⟨vA,vc,rfl,hvc,hvm,_⟩:=own_slice hown (by omega)
  have z1:T < wr.heap.size:=lt_of_heap hCT
  have HT:=Lib.hid hCT
  have HOW:=Lib.hid hown
  have HBU:=Lib.hid hbut
  have HBW:=Lib.hid hbw
  have hsz:=hbut.1
  clear hown hbut hbw hvm
  by_cases hlt:k < ar.length
  ·obtain ⟨g,o,rfl,hg1,ck⟩:=R10.out k hlt
   have ck':wr.cell? ⟨g,o + k,none⟩=some (.string ⟨ar[k].toArray⟩):=(World.cell?_of_block (HBU.out.2 g (by omega) (by omega))).trans ck
   have hrow:rowA ((ar.take (k + 1)).map fun a=>operandD a n)=rowA ((ar.take k).map fun a=>operandD a n) ++ arCells (operandD ar[k] n) nilV:=by
    rw [List.take_succ_eq_append_getElem hlt,List.map_append,rowA,List.flatMap_append];simp [rowA]
   have HROW:=Lib.hid hrow
   have HOP:=Lib.hid (fun W=>doperand_any ar[k] n W)
   have cT:=cell_of_heap (i:=3) hCT
   have fT:=frozen_of_heap (i:=3) hCT
   have cK:=cell_of_heap (i:=1) ((HBU.out.2 K (by omega) (by omega)).trans D10.out)
   simp at cT fT cK
   generalize ar[k]=x at *
   clear hrow ck hCT
   go_wp2_with fail
   go_region_law (first | (go_simp;go_at_call 15;refine (HOP.out _).mono ?_;rintro e w2 ⟨rfl,hbU⟩;have q1:=(hbU.cell (p:=⟨T,3,none⟩) z1).trans cT;have q2:=(hbU.cell (p:=⟨K,1,none⟩) (by show K < wr.heap.size;omega)).trans cK;have q5:T < w2.heap.size:=(by have:=hbU.size;simp at this;omega);have q6:K < w2.heap.size:=(by have:=hbU.size;simp at this;omega);have hown2:=own_below HOW.out.drew hbU) | (refine step_append_at _ (by rfl) _ _ _ (by rfl) w10.heap.size 41 _ 8 104 Tryz.underlying29 info_ar rfl (by decide) (hown2.alloc _) (by rfl) ⟨w2.heap.size,0,none⟩ (arCells (operandD x n) nilV) (by rfl) (by rfl) (cells_new w2 (arCells (operandD x n) nilV) _) (arCells_one _ _ rfl) (by omega) (by omega) (by simp;have:=hbU.size;simp at this;omega) ?_;intro v' w3 hown3 hb3 hgr3;obtain ⟨A9,c9,rfl,hc9,hm9,_⟩:=own_slice hown3 (by omega);have hT3':=(hb3.block T (by omega)).trans ((Below.heap_alloc w2 (.cells (arCells (operandD x n) nilV).toArray 41) T (by have:=hbU.size;simp at this;omega)).trans ((hbU.block T z1).trans HT.out));have q3:=cell_of_heap (i:=3) hT3';have f3:=frozen_of_heap (i:=3) hT3';simp at q3 f3))
   all_goals (
    have BB:=Lib.hid ((HBW.out.drew.trans (hbU.mono (by simp;omega))).alloc (by have:=hbU.size;simp at this;omega) (.cells (arCells (operandD x n) nilV).toArray 41) |>.trans (hb3.mono (by omega)))
    have BU3:=Lib.hid (((HBU.out.drew.bel (hbU.mono (by simp;omega))).bel ((Below.refl w2.heap.size w2).alloc (Nat.le_refl _) (.cells (arCells (operandD x n) nilV).toArray 41) |>.mono (by have:=hbU.size;simp at this;omega))).bel hb3)
    have O3:Hid (w3.ownsRow w10.heap.size 41 8 (.slice A9 (k + 1) c9) (k + 1) (rowA ((ar.take (k + 1)).map fun a=>operandD a n))):=Lib.hid (by rw [HROW.out];exact hown3)
    have T3:=Lib.hid hT3'
    clear hT3' hown3 hb3 hgr3 hbU hown2 q1 q2 HROW HOW HBU HBW
    go_simp
    go_wp2_with fail
    go_roundw
    case rel=>exact ⟨k + 1,by omega,by go_num,_,heap_set (i:=3) _ T3.out,own_set O3.out (by omega),BU3.out.set 3 _,BB.out.setCell (by show w.heap.size ≤ T;omega) _⟩
    case measure=>simp [intOf];omega)
  ·obtain rfl:k=ar.length:=by omega
   have CR:=(HBU.out.2 w.heap.size (by omega) (by omega)).trans C10.out
   have k0:=cell_of_heap (i:=0) CR
   have f0:=frozen_of_heap (i:=0) CR
   have k1:=cell_of_heap (i:=1) CR
   have f1:=frozen_of_heap (i:=1) CR
   have k2:=cell_of_heap (i:=2) CR
   have f2:=frozen_of_heap (i:=2) CR
   have k3:=cell_of_heap (i:=3) CR
   have f3:=frozen_of_heap (i:=3) CR
   simp at k0 k1 k2 k3 f0 f1 f2 f3
   have t0:=cell_of_heap (i:=0) HT.out
   have g0:=frozen_of_heap (i:=0) HT.out
   have t1:=cell_of_heap (i:=1) HT.out
   have g1:=frozen_of_heap (i:=1) HT.out
   have t2:=cell_of_heap (i:=2) HT.out
   have g2:=frozen_of_heap (i:=2) HT.out
   have t3:=cell_of_heap (i:=3) HT.out
   have g3:=frozen_of_heap (i:=3) HT.out
   simp at t0 t1 t2 t3 g0 g1 g2 g3
   have HO:=HOW.out
   rw [List.take_length] at HO
   have O2:=Lib.hid HO
   have BB:=Lib.hid HBW.out
   clear CR hCT HO HOW HBW HBU HT R10 T10 D10 C10 B10
   go_wp2_with fail
   refine bodyPost_ret (v:=.tuple #[.agg #[.string ⟨#[]⟩,.bool false,.string ⟨nm.toArray⟩,.slice vA ar.length vc],.int .i64 size,.int .i64 (-1)]) (by simp [results,Tryz.results36,go_sem,k0,k1,k2,k3]) rfl ⟨_,(by have h:=HNM.out;subst h;rfl),?_,?_⟩
   ·have h:=HAR.out
    subst h
    rw [List.length_map]
    exact own_more (own_set (own_set (own_set (own_set O2.out (by omega)) (by omega)) (by omega)) (by omega)) (by omega)
   ·exact (((BB.out.setCell (Nat.le_refl _) _).setCell (Nat.le_refl _) _).setCell (Nat.le_refl _) _).setCell (Nat.le_refl _) _
set_option maxHeartbeats 8000000 in
set_option maxRecDepth 100000 in
theorem first80_znj (b:List UInt8) (v:Value) (w:World) (hg:GWL w) (hr:RdB w w.heap.size v b) (hl:b.length ≤ 1000000) (op n size:Nat) (hrd:read80 b=((op,n),size,0)) (ho:op < 256) (hn:n < 65536) (hj:jumps80 op=true) (hq:¬ (op / 64=3∧op % 8=7)) :
  Calls Tryz.prog 36 #[.int .i64 1,v] w (StR w ⟨[],false,zname op,(zargs op).map (fun a=>operandD a n)⟩ size n):=by
 have HR:=Lib.hid (fun W (hW:Below w.heap.size w W)=>read80_any b v W ((hr.below hW).more hW.size) hl)
 rw [hrd] at HR
 simp only at HR
 have HJ:=Lib.hid (fun W=>jumps80_any op ho W)
 rw [hj] at HJ
 have m1:=u8_andC7 (x:=(op:Int)) (by omega) (by omega)
 have m2:((op:Int) / 64 * 64 + (op:Int) % 8 == 199)=false:=by rw [beq_eq_false_iff_ne];omega
 obtain ⟨A,c,rfl,hc⟩:=hr.form
 clear hrd hj hr hc hl hq
 go_enter Tryz.func36, Tryz.ntmps36
 go_wp2_with fail
 refine (HR.out _ ((Below.refl _ _).alloc (Nat.le_refl _) _)).mono ?_
 rintro e w1 ⟨rfl,hb1⟩
 have B1:=Lib.hid (bthen ((Below.refl _ _).alloc (Nat.le_refl _) _) hb1)
 have C1:=Lib.hid ((hb1.block w.heap.size (by simp)).trans (heap_alloc_new w _))
 have Z1:=Lib.hid (lt_of_heap C1.out)
 clear hb1 HR
 go_wp2_with fail
 refine (HJ.out _).mono ?_
 rintro e w2 ⟨rfl,rfl⟩
 clear HJ
 go_wp2_with fail
 have B7:=Lib.hid (B1.out.alloc B1.out.size (.cells #[.int .u8 (op:Int),.int .u16 (n:Int)] 101))
 have C7:=Lib.hid ((Below.heap_alloc w1 (.cells #[.int .u8 (op:Int),.int .u16 (n:Int)] 101) w.heap.size Z1.out).trans C1.out)
 have D7:=Lib.hid (heap_alloc_new w1 (.cells #[.int .u8 (op:Int),.int .u16 (n:Int)] 101))
 have hK:w.heap.size < w1.heap.size:=Z1.out
 have hK2:w1.heap.size < (w1.alloc (.cells #[.int .u8 (op:Int),.int .u16 (n:Int)] 101)).heap.size:=by simp
 generalize w1.alloc (.cells #[.int .u8 (op:Int),.int .u16 (n:Int)] 101)=w7 at *
 generalize w1.heap.size=K at *
 have i0:=cell_of_heap (i:=0) D7.out
 have i1:=cell_of_heap (i:=1) D7.out
 simp at i0 i1
 have HN:Hid (∀ W,Below w7.heap.size w7 W → W.cell? ⟨K,0,none⟩=some (.int .u8 (op:Int)) → Calls Tryz.prog 68 #[.int .u8 op] W fun e w'=>e=.returned (.string ⟨(name80 op).toArray⟩)∧Below W.heap.size W w'∧Below w7.heap.size w7 w'∧K < W.heap.size):=Lib.hid (fun W hW hz=>(name80_any op ho W).mono fun _ _ h=>⟨h.1,h.2,bthen hW h.2,World.block_lt_of_cell? _ _ hz⟩)
 have HA:Hid (∀ W,Below w7.heap.size w7 W → W.cell? ⟨K,0,none⟩=some (.int .u8 (op:Int)) → Calls Tryz.prog 69 #[.int .u8 op] W fun e w'=>∃ A c,e=.returned (.slice A (args80 op).length c)∧(args80 op).length ≤ c∧Hid (Rd w' w'.heap.size (.slice A (args80 op).length c) (args80 op).length ((args80 op).map strV))∧Below W.heap.size W w'∧Below w7.heap.size w7 w'∧K < W.heap.size):=Lib.hid (fun W hW hz=>(args80_any op ho W).mono fun _ _ h=>by
  obtain ⟨v,h1,h2,h3⟩:=h
  obtain ⟨A,c,rfl,h4⟩:=h2.form
  exact ⟨A,c,h1,h4,Lib.hid h2,h3,bthen hW h3,World.block_lt_of_cell? _ _ hz⟩)
 have m7:bits .and .u8 ((op:Int) / 8) 7=(op:Int) / 8 % 8:=u8_and7 _ (by omega) (by omega)
 have m8:IntKind.u16.wrap ((op:Int) / 8 % 8)=(op:Int) / 8 % 8:=IntWalk.u16_in _ (by omega)
 have hB0:Below w7.heap.size w7 w7.drew:=(Below.refl _ _).drew
 clear B1 C1 Z1
 go_region_held3 (fun w'=>w'.cell? ⟨K,0,none⟩=some (.int .u8 (op:Int))∧Below w7.heap.size w7 w')
  (first | (go_keep;done) | (refine ⟨?_,?_⟩ <;> first | assumption | go_keep)) (first | (go_at_call 68;go_split_ands;(with_reducible refine (HN.out _ ?_ ?_).mono ?_);(assumption);(assumption);rintro e5 w5 ⟨rfl,hb5,hbw5,hz5⟩;obtain ⟨hcc,hff⟩:=bcell hb5;obtain ⟨hcw,hfw⟩:=bcell hbw5) | (go_at_call 69;go_split_ands;(with_reducible refine (HA.out _ ?_ ?_).mono ?_);(assumption);(assumption);rintro e6 w6 ⟨A6,c6,rfl,hc6,hr6,hb6,hbw6,hz6⟩;obtain ⟨hcc,hff⟩:=bcell hb6;obtain ⟨hcw,hfw⟩:=bcell hbw6))
 clear hcc hff hcw hfw
 have R6:=Lib.hid hr6.out
 have B6:=Lib.hid hbw6
 clear hb5 hbw5 hb6 hr6 hbw6 hz5 hz6 hB0 m7 m8 HN HA
 go_wp2_with fail
 have hi6:w6.cell? ⟨K,0,none⟩=some (.int .u8 (op:Int)):=(B6.out.cell (p:=⟨K,0,none⟩) hK2).trans i0
 have HN:Hid (∀ W,Below w7.heap.size w7 W → W.cell? ⟨K,0,none⟩=some (.int .u8 (op:Int)) → Calls Tryz.prog 70 #[.int .u8 op] W fun e w'=>e=.returned (.string ⟨(zname op).toArray⟩)∧Below W.heap.size W w'∧Below w7.heap.size w7 w'∧K < W.heap.size):=Lib.hid (fun W hW hz=>(zname_any op ho W (hg.below (B7.out.trans (hW.mono (by omega))))).mono fun _ _ h=>⟨h.1,h.2,bthen hW h.2,World.block_lt_of_cell? _ _ hz⟩)
 have HA:Hid (∀ W,Below w7.heap.size w7 W → W.cell? ⟨K,0,none⟩=some (.int .u8 (op:Int)) → Calls Tryz.prog 71 #[.int .u8 op] W fun e w'=>∃ A c,e=.returned (.slice A (zargs op).length c)∧(zargs op).length ≤ c∧Hid (Rd w' w'.heap.size (.slice A (zargs op).length c) (zargs op).length ((zargs op).map strV))∧Below W.heap.size W w'∧Below w7.heap.size w7 w'∧K < W.heap.size):=Lib.hid (fun W hW hz=>(zargs_any op ho W (hg.below (B7.out.trans (hW.mono (by omega))))).mono fun _ _ h=>by
  obtain ⟨v,h1,h2,h3⟩:=h
  obtain ⟨A,c,rfl,h4⟩:=h2.form
  exact ⟨A,c,h1,h4,Lib.hid h2,h3,bthen hW h3,World.block_lt_of_cell? _ _ hz⟩)
 have m9:IntKind.u16.wrap ((op:Int) / 8 % 8 * 8)=(op:Int) / 8 % 8 * 8:=IntWalk.u16_in _ (by omega)
 have hB0:Below w7.heap.size w7 w6.drew:=B6.out.drew
 clear R6 B6
 go_region_held3 (fun w'=>w'.cell? ⟨K,0,none⟩=some (.int .u8 (op:Int))∧Below w7.heap.size w7 w')
  (first | (go_keep;done) | (refine ⟨?_,?_⟩ <;> first | assumption | go_keep)) (first | (go_at_call 70;go_split_ands;(with_reducible refine (HN.out _ ?_ ?_).mono ?_);(assumption);(assumption);rintro e5 w15 ⟨rfl,hb5,hbw5,hz5⟩;obtain ⟨hcc,hff⟩:=bcell hb5;obtain ⟨hcw,hfw⟩:=bcell hbw5) | (go_at_call 71;go_split_ands;(with_reducible refine (HA.out _ ?_ ?_).mono ?_);(assumption);(assumption);rintro e6 w16 ⟨A16,c16,rfl,hc16,hr6,hb6,hbw6,hz6⟩;obtain ⟨hcc,hff⟩:=bcell hb6;obtain ⟨hcw,hfw⟩:=bcell hbw6))
 clear hcc hff hcw hfw
 have R6:=Lib.hid hr6.out
 have B6:=Lib.hid hbw6
 clear hb5 hbw5 hb6 hr6 hbw6 hz5 hz6 hB0 m9 HN HA hi6
 go_wp2_with fail
 have HO:=Lib.hid (fun W=>dstmt_any (zname op) (.slice none 0 0) W ⟨_,_,_,rfl⟩)
 refine (HO.out _).mono ?_
 rintro e w9 ⟨rfl,hb9⟩
 clear HO
 have B9:=Lib.hid (bthen B6.out hb9)
 have R9:=Lib.hid ((R6.out.below hb9).more (Nat.le_trans hb9.size (by simp:w9.heap.size ≤ (w9.alloc (.cells #[.string ⟨#[]⟩,.bool false,.string ⟨(zname op).toArray⟩,.slice none 0 0] 31)).heap.size)))
 have R10:Hid (∀ k (hk:k < (zargs op).length),∃ g o,A16=some ⟨g,o,none⟩∧g < w9.heap.size∧(w9.alloc (.cells #[.string ⟨#[]⟩,.bool false,.string ⟨(zname op).toArray⟩,.slice none 0 0] 31)).cell? ⟨g,o + k,none⟩=some (.string ⟨(zargs op)[k].toArray⟩)):=Lib.hid (fun k hk=>by
  obtain ⟨A',c',h1,h2,h3⟩:=R6.out
  injection h1 with h1 _ _
  subst h1
  obtain ⟨g,o,h4,h5,h6⟩:=h3 (by omega)
  refine ⟨g,o,h4,Nat.lt_of_lt_of_le h5 hb9.size,?_⟩
  rw [World.cell?_alloc_lt _ _ _ (Nat.lt_of_lt_of_le h5 hb9.size),hb9.cell (p:=⟨g,o + k,none⟩) h5]
  exact h6 k _ (by simp [hk,strV]))
 have hK9:w7.heap.size ≤ w9.heap.size:=Nat.le_trans B6.out.size hb9.size
 have C10:=Lib.hid ((Below.heap_alloc w9 (.cells #[.string ⟨#[]⟩,.bool false,.string ⟨(zname op).toArray⟩,.slice none 0 0] 31) w.heap.size (by omega)).trans ((B9.out.block w.heap.size (by omega)).trans C7.out))
 have D10:=Lib.hid ((Below.heap_alloc w9 (.cells #[.string ⟨#[]⟩,.bool false,.string ⟨(zname op).toArray⟩,.slice none 0 0] 31) K (by omega)).trans ((B9.out.block K (by omega)).trans D7.out))
 have T10:=Lib.hid (heap_alloc_new w9 (.cells #[.string ⟨#[]⟩,.bool false,.string ⟨(zname op).toArray⟩,.slice none 0 0] 31))
 have B10:=Lib.hid ((B7.out.trans (B9.out.mono (Nat.le_of_lt (Nat.lt_trans hK hK2)))).alloc (by omega) (.cells #[.string ⟨#[]⟩,.bool false,.string ⟨(zname op).toArray⟩,.slice none 0 0] 31))
 have hT1:w.heap.size < w9.heap.size:=by omega
 have hT2:K < w9.heap.size:=by omega
 have hT3:(w9.alloc (.cells #[.string ⟨#[]⟩,.bool false,.string ⟨(zname op).toArray⟩,.slice none 0 0] 31)).heap.size=w9.heap.size + 1:=by simp
 clear hb9 B9 R9 R6 B6 C7 D7 B7 i0 i1 hK9 hK2
 go_wp2_with fail
 generalize w9.alloc (.cells #[.string ⟨#[]⟩,.bool false,.string ⟨(zname op).toArray⟩,.slice none 0 0] 31)=w10 at *
 generalize w9.heap.size=T at *
 generalize hnm:zname op=nm at *
 have HNM:=Lib.hid hnm
 clear hnm
 have hal:(zargs op).length ≤ 3:=by have:=zform_len op ho;unfold zargs;simp;omega
 generalize har:zargs op=ar at *
 have HAR:=Lib.hid har
 clear har
 go_loopw [74] (fun i wr=>∃ k:Nat,k ≤ ar.length∧i=.int .i64 k∧FirstR w w10 T ar n nm k wr) (fun i _=>ar.length - (intOf i).toNat)
 case atStart=>exact ⟨0,Nat.zero_le _,rfl,_,T10.out,World.ownsRow_nil _ _ _ _,But.refl _ _ _,B10.out⟩
 case round=>
  obtain ⟨k,hk,rfl,v,hCT,hown,hbut,hbw⟩:=hrel
  obtain ⟨vA,vc,rfl,hvc,hvm,_⟩:=own_slice hown (by omega)
  have z1:T < wr.heap.size:=lt_of_heap hCT
  have HT:=Lib.hid hCT
  have HOW:=Lib.hid hown
  have HBU:=Lib.hid hbut
  have HBW:=Lib.hid hbw
  have hsz:=hbut.1
  clear hown hbut hbw hvm
  by_cases hlt:k < ar.length
  ·obtain ⟨g,o,rfl,hg1,ck⟩:=R10.out k hlt
   have ck':wr.cell? ⟨g,o + k,none⟩=some (.string ⟨ar[k].toArray⟩):=(World.cell?_of_block (HBU.out.2 g (by omega) (by omega))).trans ck
   have hrow:rowA ((ar.take (k + 1)).map fun a=>operandD a n)=rowA ((ar.take k).map fun a=>operandD a n) ++ arCells (operandD ar[k] n) nilV:=by
    rw [List.take_succ_eq_append_getElem hlt,List.map_append,rowA,List.flatMap_append];simp [rowA]
   have HROW:=Lib.hid hrow
   have HOP:=Lib.hid (fun W=>doperand_any ar[k] n W)
   have cT:=cell_of_heap (i:=3) hCT
   have fT:=frozen_of_heap (i:=3) hCT
   have cK:=cell_of_heap (i:=1) ((HBU.out.2 K (by omega) (by omega)).trans D10.out)
   simp at cT fT cK
   generalize ar[k]=x at *
   clear hrow ck hCT
   go_wp2_with fail
   go_region_law (first | (go_simp;go_at_call 15;refine (HOP.out _).mono ?_;rintro e w2 ⟨rfl,hbU⟩;have q1:=(hbU.cell (p:=⟨T,3,none⟩) z1).trans cT;have q2:=(hbU.cell (p:=⟨K,1,none⟩) (by show K < wr.heap.size;omega)).trans cK;have q5:T < w2.heap.size:=(by have:=hbU.size;simp at this;omega);have q6:K < w2.heap.size:=(by have:=hbU.size;simp at this;omega);have hown2:=own_below HOW.out.drew hbU) | (refine step_append_at _ (by rfl) _ _ _ (by rfl) w10.heap.size 41 _ 8 104 Tryz.underlying29 info_ar rfl (by decide) (hown2.alloc _) (by rfl) ⟨w2.heap.size,0,none⟩ (arCells (operandD x n) nilV) (by rfl) (by rfl) (cells_new w2 (arCells (operandD x n) nilV) _) (arCells_one _ _ rfl) (by omega) (by omega) (by simp;have:=hbU.size;simp at this;omega) ?_;intro v' w3 hown3 hb3 hgr3;obtain ⟨A9,c9,rfl,hc9,hm9,_⟩:=own_slice hown3 (by omega);have hT3':=(hb3.block T (by omega)).trans ((Below.heap_alloc w2 (.cells (arCells (operandD x n) nilV).toArray 41) T (by have:=hbU.size;simp at this;omega)).trans ((hbU.block T z1).trans HT.out));have q3:=cell_of_heap (i:=3) hT3';have f3:=frozen_of_heap (i:=3) hT3';simp at q3 f3))
   all_goals (
    have BB:=Lib.hid ((HBW.out.drew.trans (hbU.mono (by simp;omega))).alloc (by have:=hbU.size;simp at this;omega) (.cells (arCells (operandD x n) nilV).toArray 41) |>.trans (hb3.mono (by omega)))
    have BU3:=Lib.hid (((HBU.out.drew.bel (hbU.mono (by simp;omega))).bel ((Below.refl w2.heap.size w2).alloc (Nat.le_refl _) (.cells (arCells (operandD x n) nilV).toArray 41) |>.mono (by have:=hbU.size;simp at this;omega))).bel hb3)
    have O3:Hid (w3.ownsRow w10.heap.size 41 8 (.slice A9 (k + 1) c9) (k + 1) (rowA ((ar.take (k + 1)).map fun a=>operandD a n))):=Lib.hid (by rw [HROW.out];exact hown3)
    have T3:=Lib.hid hT3'
    clear hT3' hown3 hb3 hgr3 hbU hown2 q1 q2 HROW HOW HBU HBW
    go_simp
    go_wp2_with fail
    go_roundw
    case rel=>exact ⟨k + 1,by omega,by go_num,_,heap_set (i:=3) _ T3.out,own_set O3.out (by omega),BU3.out.set 3 _,BB.out.setCell (by show w.heap.size ≤ T;omega) _⟩
    case measure=>simp [intOf];omega)
  ·obtain rfl:k=ar.length:=by omega
   have CR:=(HBU.out.2 w.heap.size (by omega) (by omega)).trans C10.out
   have k0:=cell_of_heap (i:=0) CR
   have f0:=frozen_of_heap (i:=0) CR
   have k1:=cell_of_heap (i:=1) CR
   have f1:=frozen_of_heap (i:=1) CR
   have k2:=cell_of_heap (i:=2) CR
   have f2:=frozen_of_heap (i:=2) CR
   have k3:=cell_of_heap (i:=3) CR
   have f3:=frozen_of_heap (i:=3) CR
   simp at k0 k1 k2 k3 f0 f1 f2 f3
   have t0:=cell_of_heap (i:=0) HT.out
   have g0:=frozen_of_heap (i:=0) HT.out
   have t1:=cell_of_heap (i:=1) HT.out
   have g1:=frozen_of_heap (i:=1) HT.out
   have t2:=cell_of_heap (i:=2) HT.out
   have g2:=frozen_of_heap (i:=2) HT.out
   have t3:=cell_of_heap (i:=3) HT.out
   have g3:=frozen_of_heap (i:=3) HT.out
   simp at t0 t1 t2 t3 g0 g1 g2 g3
   have HO:=HOW.out
   rw [List.take_length] at HO
   have O2:=Lib.hid HO
   have BB:=Lib.hid HBW.out
   clear CR hCT HO HOW HBW HBU HT R10 T10 D10 C10 B10
   go_wp2_with fail
   refine bodyPost_ret (v:=.tuple #[.agg #[.string ⟨#[]⟩,.bool false,.string ⟨nm.toArray⟩,.slice vA ar.length vc],.int .i64 size,.int .i64 n]) (by simp [results,Tryz.results36,go_sem,k0,k1,k2,k3]) rfl ⟨_,(by have h:=HNM.out;subst h;rfl),?_,?_⟩
   ·have h:=HAR.out
    subst h
    rw [List.length_map]
    exact own_more (own_set (own_set (own_set (own_set O2.out (by omega)) (by omega)) (by omega)) (by omega)) (by omega)
   ·exact (((BB.out.setCell (Nat.le_refl _) _).setCell (Nat.le_refl _) _).setCell (Nat.le_refl _) _).setCell (Nat.le_refl _) _
end Go.Proofs.YtagplldaooipmaaGreatDoor
/- disasm: first80. -/
namespace Go.Proofs.YtagplldaooipmaaGreatDoor
open Go.RowKit
theorem read80_lt (b:List UInt8):(read80 b).1.1 < 256∧(read80 b).1.2 < 65536:=by
 have h0:=byteN_lt b 0
 have h1:=byteN_lt b 1
 have h2:=byteN_lt b 2
 unfold read80 n80
 repeat' (first | split | (simp;done) | (simp;omega))
theorem rst_jumps:∀ k:Fin 256,k.val / 64=3∧k.val % 8=7 → jumps80 k.val=false:=by decide +kernel
set_option maxHeartbeats 4000000 in
theorem first80_bad (d:Int) (b:List UInt8) (v:Value) (w:World) (hr:RdB w w.heap.size v b) (hl:b.length ≤ 1000000) (h0:b ≠ []) (op n size kd:Nat) (hrd:read80 b=((op,n),size,kd)) (hk:kd ≠ 0) :
  Calls Tryz.prog 36 #[.int .i64 d,v] w (StR w (dbD (byteN b 0)).1 1 (-1)):=by
 have HR:=Lib.hid (fun W (hW:Below w.heap.size w W)=>read80_any b v W ((hr.below hW).more hW.size) hl)
 rw [hrd] at HR
 simp only at HR
 have HD:=Lib.hid (fun W=>ddb_any (byteN b 0) (byteN_lt b 0) W)
 have hk':((kd:Int) != 0)=true:=by rw [bne_iff_ne];omega
 obtain ⟨A,c,rfl,hc⟩:=hr.form
 have hlen:0 < b.length:=List.length_pos_iff.2 h0
 obtain ⟨g,o,rfl,hg,hcell⟩:=hr.get 0 hlen
 have c0:=hcell 0 hlen
 rw [Nat.add_zero] at c0
 generalize byteN b 0=x at *
 generalize b.length=bl at *
 clear hrd hr hc hl hk hcell h0
 go_enter Tryz.func36, Tryz.ntmps36
 go_wp2_with fail
 refine (HR.out _ ((Below.refl _ _).alloc (Nat.le_refl _) _)).mono ?_
 rintro e w1 ⟨rfl,hb1⟩
 have B1:=Lib.hid (bthen ((Below.refl _ _).alloc (Nat.le_refl _) _) hb1)
 have C1:=Lib.hid ((hb1.block w.heap.size (by simp)).trans (heap_alloc_new w _))
 have d0:=(hb1.cell (p:=⟨g,o,none⟩) (by simp;omega)).trans ((World.cell?_alloc_lt w (.cells #[.string ⟨#[]⟩,.bool false,.string ⟨#[]⟩,.slice none 0 0] 31) ⟨g,o,none⟩ hg).trans c0)
 have Z1:=Lib.hid (lt_of_heap C1.out)
 have hgz:g < w1.heap.size:=by have:=Z1.out;omega
 clear hb1 HR c0
 go_wp2_with fail
 refine (HD.out _).mono ?_
 rintro e w2 ⟨v,rfl,hown,hb2⟩
 obtain ⟨vA,vc,rfl,hvc,hvm,_⟩:=own_slice hown (by omega)
 have B2:=Lib.hid ((B1.out.alloc B1.out.size (.cells #[.int .u8 (op:Int),.int .u16 (n:Int)] 101)).trans (hb2.mono (by have:=B1.out.size;simp;omega)))
 have C2:=Lib.hid ((hb2.block w.heap.size (by simp;have:=Z1.out;omega)).trans ((Below.heap_alloc w1 _ w.heap.size Z1.out).trans C1.out))
 have O2:=Lib.hid hown
 have hz:w.heap.size < w2.heap.size:=lt_of_heap C2.out
 have hz1:w.heap.size < (w1.alloc (.cells #[.int .u8 (op:Int),.int .u16 (n:Int)] 101)).heap.size:=by simp;have:=Z1.out;omega
 obtain ⟨⟨k0,k1,k2,k3⟩,g0,g1,g2,g3⟩:=four C2.out
 clear hb2 hown HD C1 B1
 go_wp2_with fail
 refine bodyPost_ret (v:=.tuple #[.agg #[.string ⟨#[]⟩,.bool false,.string ⟨#[68,66]⟩,.slice vA (dbD x).1.args.length vc],.int .i64 1,.int .i64 (-1)]) (by simp [results,Tryz.results36,go_sem,k0,k1,k2,k3];exact ⟨rfl,rfl,rfl⟩) rfl ⟨_,rfl,?_,(((B2.out.setCell (by simp) _).setCell (by simp) _).setCell (by simp) _).setCell (by simp) _⟩
 exact own_more (own_set (own_set (own_set (own_set O2.out hz1) hz1) hz1) hz1) (Nat.le_of_lt hz1)
theorem first80_any (d:Int) (b:List UInt8) (v:Value) (w:World) (hg:GWL w) (hr:RdB w w.heap.size v b) (hl:b.length ≤ 1000000) (h0:b ≠ []) :
  Calls Tryz.prog 36 #[.int .i64 d,v] w (StR w (first80D d b).1 (first80D d b).2.1 (first80D d b).2.2):=by
 obtain ⟨h1,h2⟩:=read80_lt b
 unfold first80D
 rcases hrd:read80 b with ⟨⟨op,n⟩,size,kd⟩
 rw [hrd] at h1 h2
 simp only at h1 h2 ⊢
 by_cases hk:kd=0
 ·subst hk
  rw [if_neg (by simp)]
  simp only
  unfold st80 nm80 ar80 rst80
  by_cases hq:op / 64=3∧op % 8=7
  ·have hj:=rst_jumps ⟨op,h1⟩ hq
   simp only at hj
   rw [if_pos hq,hj]
   by_cases hd:d=1
   ·subst hd
    exact first80_zrs b v w hg hr hl op n size hrd h1 h2 hj hq
   ·rw [if_neg hd,if_neg hd]
    exact first80_irs b v w hg hr hl op n size hrd h1 h2 hj hq d (by rw [beq_eq_false_iff_ne];exact hd)
  ·rw [if_neg hq]
   cases hj:jumps80 op with
   | true=>
    by_cases hd:d=1
    ·subst hd
     exact first80_znj b v w hg hr hl op n size hrd h1 h2 hj hq
    ·rw [if_neg hd,if_neg hd]
     exact first80_inj b v w hg hr hl op n size hrd h1 h2 hj hq d (by rw [beq_eq_false_iff_ne];exact hd)
   | false=>
    by_cases hd:d=1
    ·subst hd
     exact first80_zns b v w hg hr hl op n size hrd h1 h2 hj hq
    ·rw [if_neg hd,if_neg hd]
     exact first80_ins b v w hg hr hl op n size hrd h1 h2 hj hq d (by rw [beq_eq_false_iff_ne];exact hd)
 ·rw [if_pos hk]
  exact first80_bad d b v w hr hl h0 op n size kd hrd hk
end Go.Proofs.YtagplldaooipmaaGreatDoor
/- disasm: pieces in memory. -/
namespace Go.Proofs.YtagplldaooipmaaGreatDoor
open Go.RowKit
def ArgRow (w:World) (S:Nat → Prop) (v:Value) (l:List Ar):Prop:=(l = []∧v=.slice none 0 0) ∨ ∃ g c cur,v=.slice (some ⟨g,0,none⟩) l.length c∧S g∧w.heap[g]? = some (.cells cur 41 (0,0))∧l.length ≤ c∧c ≤ maxLen∧cur.size=c * 8∧cur.toList.take (l.length * 8)=rowA l
theorem ArgRow.keep {w w':World} {S S':Nat → Prop} {v:Value} {l:List Ar} (h:ArgRow w S v l) (hk:∀ g,S g → w'.heap[g]? = w.heap[g]?) (hS:∀ g,S g → S' g):ArgRow w' S' v l:=
 h.imp id fun ⟨g,c,cur,h1,h2,h3,h4⟩=>⟨g,c,cur,h1,hS g h2,(hk g h2).trans h3,h4⟩
theorem ArgRow.of_own {w:World} {base:Nat} {v:Value} {l:List Ar} (h:w.ownsRow base 41 8 v l.length (rowA l)):ArgRow w (fun g=>base ≤ g∧g < w.heap.size) v l:=by
 rcases h.2 with ⟨h1,h2⟩ | ⟨g,cap,cur,h1,h2,h3,h4,h5,h6,h7⟩
 ·exact .inl ⟨List.length_eq_zero_iff.1 h2,h1⟩
 ·by_cases h0:l = []∧v=.slice none 0 0
  ·exact .inl h0
  ·exact .inr ⟨g,cap,cur,h1,⟨h2,lt_of_heap h3⟩,h3,h4,h5,h6,h7⟩
theorem ArgRow.own {w:World} {base:Nat} {v:Value} {l:List Ar} (h:ArgRow w (fun g=>base ≤ g∧g < w.heap.size) v l):w.ownsRow base 41 8 v l.length (rowA l):=by
 refine ⟨rowA_len l,?_⟩
 rcases h with ⟨rfl,rfl⟩ | ⟨g,cap,cur,h1,h2,h3,h4,h5,h6,h7⟩
 ·exact .inl ⟨rfl,rfl⟩
 ·exact .inr ⟨g,cap,cur,h1,h2.1,h3,h4,h5,h6,h7⟩
theorem ArgRow.form {w:World} {S:Nat → Prop} {v:Value} {l:List Ar} (h:ArgRow w S v l):∃ A c,v=.slice A l.length c∧l.length ≤ c∧l.length ≤ maxLen:=by
 rcases h with ⟨rfl,rfl⟩ | ⟨g,c,cur,h1,_,_,h4,h5,_⟩
 ·exact ⟨none,0,rfl,Nat.le_refl _,Nat.zero_le _⟩
 ·exact ⟨_,c,h1,h4,Nat.le_trans h4 h5⟩
theorem ArgRow.block {w:World} {S:Nat → Prop} {v:Value} {l:List Ar} (h:ArgRow w S v l):∀ g,v.ownBlock=some g → S g:=by
 intro g hg
 rcases h with ⟨_,rfl⟩ | ⟨g',c,cur,rfl,h2,_⟩
 ·cases hg
 ·simp [Value.ownBlock] at hg;subst hg;exact h2
def pcCells (p:Pc) (v:Value):List Value:=[.string ⟨p.s.label.toArray⟩,.bool p.s.colon,.string ⟨p.s.op.toArray⟩,v,.int .i64 p.pl,.int .i64 p.size,.int .i64 p.tg]
theorem pcCells_len (p:Pc) (v:Value):(pcCells p v).length=7:=rfl
theorem pcCells_one (p:Pc) (A:Option Addr) (n c:Nat):∀ u ∈ pcCells p (.slice A n c),u.oneCell'=true:=by
 intro u hu
 simp only [pcCells,List.mem_cons,List.not_mem_nil,or_false] at hu
 rcases hu with rfl | rfl | rfl | rfl | rfl | rfl | rfl <;> rfl
def Apart (vs:List Value):Prop:=∀ i j g,i < j → j < vs.length → (vs.getD i nilV).ownBlock=some g → (vs.getD j nilV).ownBlock ≠ some g
def PcOwn (w:World) (base:Nat) (v:Value) (l:List Pc) (vs:List Value):Prop:=
 vs.length=l.length∧w.ownsRow base 46 7 v l.length (rowV pcCells l vs)∧(∀ i (hi:i < l.length),ArgRow w (fun g=>base ≤ g∧g < w.heap.size∧v.ownBlock ≠ some g) (vs.getD i nilV) l[i].s.args)∧Apart vs
theorem PcOwn.nil (w:World) (base:Nat):PcOwn w base nilV [] []:=⟨rfl,⟨by simp [rowV],.inl ⟨rfl,rfl⟩⟩,fun i hi=>absurd hi (by simp),fun i j g h1 h2=>by simp at h2⟩
theorem PcOwn.below {w w':World} {base:Nat} {v:Value} {l:List Pc} {vs:List Value} (h:PcOwn w base v l vs) (hb:Below w.heap.size w w'):PcOwn w' base v l vs:=
 ⟨h.1,own_below h.2.1 hb,fun i hi=>(h.2.2.1 i hi).keep (fun g hg=>hb.block g hg.2.1) (fun _g hg=>⟨hg.1,Nat.lt_of_lt_of_le hg.2.1 hb.size,hg.2.2⟩),h.2.2.2⟩
theorem getD_app_left {vs:List Value} {u:Value} {i:Nat} (h:i < vs.length):(vs ++ [u]).getD i nilV=vs.getD i nilV:=by
 rw [List.getD_eq_getElem?_getD,List.getD_eq_getElem?_getD,List.getElem?_append_left h]
theorem getD_app_last {vs:List Value} {u:Value}:(vs ++ [u]).getD vs.length nilV=u:=by
 rw [List.getD_eq_getElem?_getD,List.getElem?_append_right (Nat.le_refl _)];simp
theorem PcOwn.snoc {w w0 w':World} {base:Nat} {v v' u:Value} {l:List Pc} {p:Pc} {vs:List Value} (h:PcOwn w base v l vs) (hbase:base ≤ w.heap.size) (h0:Below w.heap.size w w0)
  (hu:ArgRow w0 (fun g=>w.heap.size ≤ g∧g < w0.heap.size) u p.s.args) (hown:w'.ownsRow base 46 7 v' (l.length + 1) (rowV pcCells l vs ++ pcCells p u)) (hg:w0.grownBy w' v.ownBlock) (hv:v'.ownBlock=v.ownBlock ∨ v'.ownBlock=some w0.heap.size) :
  PcOwn w' base v' (l ++ [p]) (vs ++ [u]):=by
 obtain ⟨h1,h2,h3,h4⟩:=h
 have hvlt:∀ g,v.ownBlock=some g → g < w.heap.size:=fun g hg=>(h2.lt g hg).2
 have hS:∀ g,(base ≤ g∧g < w0.heap.size∧v.ownBlock ≠ some g) → (base ≤ g∧g < w'.heap.size∧v'.ownBlock ≠ some g):=by
  rintro g ⟨g1,g2,g3⟩
  refine ⟨g1,Nat.lt_of_lt_of_le g2 hg.size,?_⟩
  rcases hv with hv | hv <;> rw [hv]
  ·exact g3
  ·intro h;injection h with h;omega
 have hK:∀ g,(base ≤ g∧g < w0.heap.size∧v.ownBlock ≠ some g) → w'.heap[g]? = w0.heap[g]?:=fun g hp=>hg.block g hp.2.1 (fun h=>hp.2.2 h.symm)
 refine ⟨by simp [h1],by rw [rowV_snoc l p u vs h1];simpa using hown,fun i hi=>?_,?_⟩
 ·by_cases hil:i < l.length
  ·rw [getD_app_left (by omega),List.getElem_append_left hil]
   exact ((h3 i hil).keep (fun g hg=>h0.block g hg.2.1) (fun g hg=>⟨hg.1,Nat.lt_of_lt_of_le hg.2.1 h0.size,hg.2.2⟩)).keep hK hS
  ·have hie:i=vs.length:=by simp at hi;omega
   subst hie
   have e1:(l ++ [p])[vs.length]'hi=p:=by simp [h1]
   rw [getD_app_last,e1]
   exact hu.keep (S':=fun g=>base ≤ g∧g < w'.heap.size∧v'.ownBlock ≠ some g) (fun g hg'=>hK g ⟨by omega,hg'.2,fun hh=>by have:=hvlt g hh;omega⟩) (fun g hg'=>hS g ⟨by omega,hg'.2,fun hh=>by have:=hvlt g hh;omega⟩)
 ·intro i j g hij hj hi hh
  simp at hj
  by_cases hjl:j < vs.length
  ·rw [getD_app_left hjl] at hh
   rw [getD_app_left (by omega)] at hi
   exact h4 i j g hij hjl hi hh
  ·have hje:j=vs.length:=by omega
   subst hje
   rw [getD_app_last] at hh
   rw [getD_app_left hij] at hi
   have:=(h3 i (by omega)).block g hi
   have:=hu.block g hh
   omega
theorem RdB.drop {w:World} {B g o c:Nat} {b:List UInt8} (n:Nat) (h:RdB w B (.slice (some ⟨g,o,none⟩) b.length c) b) (hn:n ≤ b.length) :
  RdB w B (.slice (if c=n then some ⟨g,o,none⟩ else some ⟨g,o + n,none⟩) (b.length - n) (c - n)) (b.drop n):=by
 obtain ⟨A',c',h1,h2,h3⟩:=h
 injection h1 with h1 _ h1c
 subst h1 h1c
 refine ⟨_,_,by rw [List.length_drop],by rw [List.length_drop];omega,fun h0=>?_⟩
 rw [List.length_drop] at h0
 obtain ⟨g',o',h4,h5,h6⟩:=h3 (by omega)
 simp only [Option.some.injEq,Addr.mk.injEq,and_true] at h4
 obtain ⟨rfl,rfl⟩:=h4
 rw [if_neg (by omega)]
 refine ⟨g,o + n,rfl,h5,fun j u hu=>?_⟩
 rw [Nat.add_assoc]
 refine h6 (n + j) u ?_
 rw [List.getElem?_map] at hu ⊢
 rw [List.getElem?_drop] at hu
 exact hu
theorem info_pc:(Tryz.prog.info? 46).map (fun i=>(i.zero,i.size,i.bytes))=some (some (.agg #[.string ⟨#[]⟩,.bool false,.string ⟨#[]⟩,.slice none 0 0,.int .i64 0,.int .i64 0,.int .i64 0]),7,88):=by kernel_rfl
end Go.Proofs.YtagplldaooipmaaGreatDoor
