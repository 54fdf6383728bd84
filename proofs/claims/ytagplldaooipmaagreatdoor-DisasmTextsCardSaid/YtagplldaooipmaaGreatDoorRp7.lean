/- Rp7. -/
import Derived.Test.YtagplldaooipmaaGreatDoorRp6
import Derived.Test.YtagplldaooipmaaGreatDoorQAlloc
namespace Go.Proofs.YtagplldaooipmaaGreatDoor
open Go.RowKit
set_option maxHeartbeats 16000000 in
set_option maxRecDepth 100000 in
theorem of86_n (pl:Nat) (b:List UInt8) (v:Value) (w:World) (hr:RdB w w.heap.size v b) (hl:pl + b.length ≤ 1000000) (op d s n size n2:Nat) (hrd:read86 b=((op,d,s,n),size,0)) (ho:op ≤ 51) (hd:d ≤ 20) (hs:s ≤ 20) (hn:n ≤ 65535) (_hsz:size ≤ 65535) (hj:jumps86 op=false) (hn2:n2=n) :
 Calls Tryz.prog 38 #[.int .i64 (pl:Int),v] w (PieceR w ⟨pl,size,nameL op,arg86D d n2 ++ arg86D s n2,false,0,0⟩):=by
 have HR:=Lib.hid (fun W (hW:Below w.heap.size w W)=>refRead8_any b v W ((hr.below hW).more hW.size) (by omega))
 have HRD:=Lib.hid hrd
 have HN:=Lib.hid (fun W=>refName9_any (op:Int) W (by omega) (by omega))
 have HC:=Lib.hid (fun W=>condR_x op W)
 have hcj:=jc_f ⟨op,by omega⟩ hj
 simp only at hcj
 obtain ⟨A,c,rfl,hc⟩:=hr.form
 have hpl:pl ≤ 1000000:=by omega
 subst hn2
 clear hrd hj hr hc hl
 go_enter Tryz.func38, Tryz.ntmps38
 go_wp2_with fail
 refine (HR.out _ ((Below.refl _ _).alloc (Nat.le_refl _) _)).mono ?_
 rintro e w1 hrr
 obtain ⟨rfl,hb1⟩:=hrr.goodR HRD.out
 have B1:=Lib.hid (bthen ((Below.refl _ _).alloc (Nat.le_refl _) _) hb1)
 have C1:=Lib.hid ((hb1.block w.heap.size (by simp)).trans (heap_alloc_new w _))
 have Z1:=Lib.hid (lt_of_heap C1.out)
 clear hb1 HR HRD hrr
 go_upto_region 4 with (fail)
 have B7:=Lib.hid (B1.out.alloc B1.out.size (.cells #[.int .i64 (op:Int),.int .i64 (d:Int),.int .i64 (s:Int),.int .u16 (n2:Int)] 107))
 have C7:=Lib.hid ((Below.heap_alloc w1 (.cells #[.int .i64 (op:Int),.int .i64 (d:Int),.int .i64 (s:Int),.int .u16 (n2:Int)] 107) w.heap.size Z1.out).trans C1.out)
 have D7:=Lib.hid (heap_alloc_new w1 (.cells #[.int .i64 (op:Int),.int .i64 (d:Int),.int .i64 (s:Int),.int .u16 (n2:Int)] 107))
 have hK:w.heap.size < w1.heap.size:=Z1.out
 have hK2:w1.heap.size < (w1.alloc (.cells #[.int .i64 (op:Int),.int .i64 (d:Int),.int .i64 (s:Int),.int .u16 (n2:Int)] 107)).heap.size:=by simp
 generalize w1.alloc (.cells #[.int .i64 (op:Int),.int .i64 (d:Int),.int .i64 (s:Int),.int .u16 (n2:Int)] 107)=w7 at *
 generalize w1.heap.size=K at *
 clear B1 C1 Z1
 have i0:=cell_of_heap (i:=0) D7.out
 simp at i0
 generalize nameL op=nm at *
 have hB0:Below w7.heap.size w7 w7.drew:=(Below.refl _ _).drew
 go_cut [8] (fun t wx=>∃ T,t=.pointer (some ⟨T,0,none⟩)∧w7.heap.size ≤ T∧wx.heap[T]? = some (.cells #[.int .i64 (pl:Int),.int .i64 (size:Int),.string ⟨nm.toArray⟩,.slice none 0 0,.bool false,.int .i64 0,.int .u8 0] 56 (0,0))∧Below w7.heap.size w7 wx)
 case first=>
  clear B7 C7 D7
  have k0:=cell_regrown i0
  have CN:Hid (∀ d' os,Calls Tryz.prog 73 #[.int .i64 (op:Int)] (Go.Sort.grow (redrawn w7 d') os) fun e w''=>e=.returned (.string ⟨nm.toArray⟩)∧Grown (Go.Sort.grow (redrawn w7 d') os) w''):=Lib.hid (fun d' os=>(HN.out _).mono fun _ _ h=>⟨h.1,.of h.2⟩)
  have CC:Hid (∀ d' os,Calls Tryz.prog 74 #[.int .i64 (op:Int)] (Go.Sort.grow (redrawn w7 d') os) fun e w''=>e=.returned (.bool (condR op))∧Grown (Go.Sort.grow (redrawn w7 d') os) w''):=Lib.hid (fun d' os=>(HC.out _).mono fun _ _ h=>⟨h.1,h.2 ▸ .refl _⟩)
  clear i0 HN HC
  rcases hcj with ⟨h1,h2⟩ | ⟨h1,h2⟩
  ·have g1:decide ((32:Int) ≤ (op:Int))=false:=by simp;omega
   rw [h2] at CC
   clear h1 h2
   refine wp_region_box 19 _ (.cells #[.int .i64 0,.int .i64 0,.string ⟨#[]⟩,.slice none 0 0,.bool false,.int .i64 0,.int .u8 0] 56) (by kernel_rfl) rfl (by kernel_rfl) (fun K a W hK=>?_) ?_
   ·unfold wpOp
    go_simp
    exact Or.inl hK
   simp only [List.take_succ_cons,List.take_zero,List.drop_succ_cons,List.drop_zero]
   repeat (refine wpG_step (fun K hK=>?_);go_simp;first | (refine hK _ ?_;clear hK K) | (apply Exists.intro;refine ⟨fun _=>?_,hK _ ?_⟩;(first | (go_at_call 73;exact CN.out _ _) | (go_at_call 74;exact CC.out _ _));clear hK K))
   refine wpG_nil ?_
   intro V W hV hW
   have hVz:=hV.below.size
   have tb:=(hW.below.block V.heap.size (by simp)).trans (heap_alloc_new V _)
   have hBW:=Lib.hid (hV.below.trans (((Below.refl V.heap.size V).alloc (Nat.le_refl _) _ |>.trans (hW.below.mono (by simp))).mono hVz))
   have TB:=Lib.hid tb
   obtain ⟨⟨x0,x1,x2,x3,x4,x5,x6⟩,g0,g1,g2,g3,g4,g5,g6⟩:=seven tb
   clear k0 tb hV hW
   go_wp2_with fail
   go_meet
   exact ⟨_,rfl,hVz,heap_set (i:=6) _ (heap_set (i:=5) _ (heap_set (i:=4) _ (heap_set (i:=3) _ (heap_set (i:=2) _ (heap_set (i:=1) _ (heap_set (i:=0) _ TB.out)))))),((((((hBW.out.setCell hVz _).setCell hVz _).setCell hVz _).setCell hVz _).setCell hVz _).setCell hVz _).setCell hVz _⟩
  ·have g1:(32:Int) ≤ (op:Int):=by omega
   have g2:decide ((op:Int) ≤ 34)=false:=by simp;omega
   rw [h2] at CC
   clear h1 h2
   refine wp_region_box 19 _ (.cells #[.int .i64 0,.int .i64 0,.string ⟨#[]⟩,.slice none 0 0,.bool false,.int .i64 0,.int .u8 0] 56) (by kernel_rfl) rfl (by kernel_rfl) (fun K a W hK=>?_) ?_
   ·unfold wpOp
    go_simp
    exact Or.inl hK
   simp only [List.take_succ_cons,List.take_zero,List.drop_succ_cons,List.drop_zero]
   repeat (refine wpG_step (fun K hK=>?_);go_simp;first | (refine hK _ ?_;clear hK K) | (apply Exists.intro;refine ⟨fun _=>?_,hK _ ?_⟩;(first | (go_at_call 73;exact CN.out _ _) | (go_at_call 74;exact CC.out _ _));clear hK K))
   refine wpG_nil ?_
   intro V W hV hW
   have hVz:=hV.below.size
   have tb:=(hW.below.block V.heap.size (by simp)).trans (heap_alloc_new V _)
   have hBW:=Lib.hid (hV.below.trans (((Below.refl V.heap.size V).alloc (Nat.le_refl _) _ |>.trans (hW.below.mono (by simp))).mono hVz))
   have TB:=Lib.hid tb
   obtain ⟨⟨x0,x1,x2,x3,x4,x5,x6⟩,g0,g1,g2,g3,g4,g5,g6⟩:=seven tb
   clear k0 tb hV hW
   go_wp2_with fail
   go_meet
   exact ⟨_,rfl,hVz,heap_set (i:=6) _ (heap_set (i:=5) _ (heap_set (i:=4) _ (heap_set (i:=3) _ (heap_set (i:=2) _ (heap_set (i:=1) _ (heap_set (i:=0) _ TB.out)))))),((((((hBW.out.setCell hVz _).setCell hVz _).setCell hVz _).setCell hVz _).setCell hVz _).setCell hVz _).setCell hVz _⟩
 case rest=>
  obtain ⟨T,rfl,hT7,hTb,hbx⟩:=hcut
  obtain ⟨wx,rfl⟩:∃ x:World,x=wc:=⟨_,rfl⟩
  have BX:=Lib.hid (B7.out.trans (hbx.mono (by omega)))
  have CX:=Lib.hid ((hbx.block w.heap.size (by omega)).trans C7.out)
  have DX:=Lib.hid ((hbx.block K hK2).trans D7.out)
  have TX:=Lib.hid hTb
  have hTX:T < wx.heap.size:=lt_of_heap hTb
  have hKT:K < T:=by omega
  have hKX:K < wx.heap.size:=by omega
  have i1:=cell_of_heap (i:=1) DX.out
  have i2:=cell_of_heap (i:=2) DX.out
  have i3:=cell_of_heap (i:=3) DX.out
  obtain ⟨⟨x0,x1,x2,x3,x4,x5,x6⟩,g0,g1,g2,g3,g4,g5,g6⟩:=seven TX.out
  simp at i1 i2 i3
  clear HN HC hcj B7 C7 D7 hbx hTb hB0 i0
  go_upto_region 10 with (fail)
  have TY:=Lib.hid TX.out
  have CY:=Lib.hid CX.out
  have BY:=Lib.hid BX.out
  have hTY:T < wx.heap.size:=hTX
  clear TX CX BX x0 x1 x2 x3 x4 x5 x6 g0 g1 g2 g3 g4 g5 g6 i1 i2 i3 DX
  have B10:=Lib.hid (BY.out.alloc BY.out.size (.cells #[.int .i64 (d:Int),.int .i64 (s:Int)] 3))
  have C10:=Lib.hid ((Below.heap_alloc wx (.cells #[.int .i64 (d:Int),.int .i64 (s:Int)] 3) w.heap.size (by omega)).trans CY.out)
  have T10:Hid ((wx.alloc (.cells #[.int .i64 (d:Int),.int .i64 (s:Int)] 3)).heap[T]? = some (.cells #[.int .i64 (pl:Int),.int .i64 (size:Int),.string ⟨nm.toArray⟩,.slice none 0 0,.bool false,.int .i64 0,.int .u8 0] 56 (0,0))):=Lib.hid ((Below.heap_alloc wx (.cells #[.int .i64 (d:Int),.int .i64 (s:Int)] 3) T hTY).trans TY.out)
  have D10:=Lib.hid (heap_alloc_new wx (.cells #[.int .i64 (d:Int),.int .i64 (s:Int)] 3))
  have hCT:T < wx.heap.size:=hTY
  have hC3:(wx.alloc (.cells #[.int .i64 (d:Int),.int .i64 (s:Int)] 3)).heap.size=wx.heap.size + 1:=by simp
  clear BY CY TY
  generalize wx.alloc (.cells #[.int .i64 (d:Int),.int .i64 (s:Int)] 3)=w10 at *
  generalize wx.heap.size=C at *
  go_wp2_with fail
  go_loopw [11] (fun i wr=>∃ k:Nat,k ≤ 2∧i=.int .i64 k∧RowP w w10 T (accR d s n2 k) pl size nm false 0 wr) (fun i _=>2 - (intOf i).toNat)
  case atStart=>exact ⟨0,Nat.zero_le _,rfl,_,T10.out,World.ownsRow_nil _ _ _ _,But.refl _ _ _,B10.out⟩
  case round=>
   obtain ⟨k,hk,rfl,v,hCT,hown,hbut,hbw⟩:=hrel
   obtain ⟨vA,vc,rfl,hvc,hvm,_⟩:=own_slice hown (by omega)
   have z1:T < wr.heap.size:=lt_of_heap hCT
   have HT:=Lib.hid hCT
   have HOW:=Lib.hid hown
   have HBU:=Lib.hid hbut
   have HBW:=Lib.hid hbw
   have hsw:=hbut.1
   clear hown hbut hbw hvm
   have hk3:k=0 ∨ k=1 ∨ k=2:=by omega
   rcases hk3 with rfl | rfl | rfl
   ·have cC0:=cell_of_heap (i:=0) ((HBU.out.2 C (by omega) (by omega)).trans D10.out)
    simp at cC0
    by_cases hz:d=0
    ·
     have h1:arg86D d n2 = []:=by unfold arg86D;rw [if_pos hz]
     have e1:((d:Int) == 0)=true:=by rw [beq_iff_eq];omega
     clear hz
     go_wp2_with fail
     go_roundw
     case rel=>exact ⟨1,by omega,by go_num,by rw [show accR d s n2 1=accR d s n2 0 from by simp [accR,h1]];exact ⟨_,HT.out,HOW.out,HBU.out,HBW.out⟩⟩
     case measure=>simp [intOf]
    ·by_cases h19:d=19
     ·have hz:=h19
      have h1:arg86D d n2 = [memA n2]:=by unfold arg86D;rw [if_neg (by omega),if_pos hz]
      have e1:((d:Int) == 0)=false:=by rw [beq_eq_false_iff_ne];omega
      have e2:((d:Int) == 19)=true:=by rw [beq_iff_eq];omega
      have HROW:Hid (rowA (accR d s n2 1)=rowA (accR d s n2 0) ++ arCells (memA n2) nilV):=Lib.hid (by rw [show accR d s n2 1=accR d s n2 0 ++ [memA n2] from by simp [accR,h1],rowA_snoc])
      clear hz h19
      have hlen0:=accR_len d s n2 0
      have HLEN:Hid ((accR d s n2 1).length=(accR d s n2 0).length + 1):=Lib.hid (by simp [accR,h1])
      have HOP:=Lib.hid (fun W=>refnum_any n2 W)
      have cT:=cell_of_heap (i:=3) hCT
      have fT:=frozen_of_heap (i:=3) hCT
      have cC:=cell_of_heap (i:=0) ((HBU.out.2 C (by omega) (by omega)).trans D10.out)
      simp at cT fT cC
      clear h1 hCT
      go_wp2_with fail
      go_region_law (first | (go_simp;go_at_call 19;refine (HOP.out _).mono ?_;rintro e w2 ⟨rfl,hbU⟩;have q1:=(hbU.cell (p:=⟨T,3,none⟩) z1).trans cT;have q5:T < w2.heap.size:=(by have:=hbU.size;simp at this;omega);have hown2:=own_below HOW.out.drew hbU) | (refine step_append_at _ (by rfl) _ _ _ (by rfl) w10.heap.size 41 _ 8 104 Tryz.underlying29 info_ar rfl (by decide) (hown2.alloc _) (by rfl) ⟨w2.heap.size,0,none⟩ (arCells (memA n2) nilV) (by rfl) (by rfl) (cells_new w2 (arCells (memA n2) nilV) _) (arCells_one _ _ rfl) (by omega) (by omega) (by simp;have:=hbU.size;simp at this;omega) ?_;intro v' w3 hown3 hb3 hgr3;obtain ⟨A9,c9,rfl,hc9,hm9,_⟩:=own_slice hown3 (by omega);have hT3':=(hb3.block T (by omega)).trans ((Below.heap_alloc w2 (.cells (arCells (memA n2) nilV).toArray 41) T (by have:=hbU.size;simp at this;omega)).trans ((hbU.block T z1).trans HT.out));have q3:=cell_of_heap (i:=3) hT3';have f3:=frozen_of_heap (i:=3) hT3';simp at q3 f3))
      all_goals (
       have BB:=Lib.hid ((HBW.out.drew.trans (hbU.mono (by simp;omega))).alloc (by have:=hbU.size;simp at this;omega) (.cells (arCells (memA n2) nilV).toArray 41) |>.trans (hb3.mono (by omega)))
       have BU3:=Lib.hid (((HBU.out.drew.bel (hbU.mono (by simp;omega))).bel ((Below.refl w2.heap.size w2).alloc (Nat.le_refl _) (.cells (arCells (memA n2) nilV).toArray 41) |>.mono (by have:=hbU.size;simp at this;omega))).bel hb3)
       have O3:Hid (w3.ownsRow w10.heap.size 41 8 (.slice A9 ((accR d s n2 0).length + 1) c9) (accR d s n2 1).length (rowA (accR d s n2 1))):=Lib.hid (by rw [HROW.out,HLEN.out];exact hown3)
       have T3:=Lib.hid hT3'
       clear hT3' hown3 hb3 hgr3 hbU hown2 q1 HROW HOW HBU HBW
       go_simp
       go_wp2_with fail
       go_roundw
       case rel=>exact ⟨1,by omega,by go_num,_,heap_set (i:=3) _ T3.out,own_set O3.out (by omega),BU3.out.set 3 _,BB.out.setCell (by show w.heap.size ≤ T;omega) _⟩
       case measure=>simp [intOf])
     ·by_cases h20:d=20
      ·have hz:=h20
       have h1:arg86D d n2 = [numA n2]:=by unfold arg86D;rw [if_neg (by omega),if_neg (by omega),if_pos hz]
       have e1:((d:Int) == 0)=false:=by rw [beq_eq_false_iff_ne];omega
       have e2:((d:Int) == 19)=false:=by rw [beq_eq_false_iff_ne];omega
       have e3:((d:Int) == 20)=true:=by rw [beq_iff_eq];omega
       have HROW:Hid (rowA (accR d s n2 1)=rowA (accR d s n2 0) ++ arCells (numA n2) nilV):=Lib.hid (by rw [show accR d s n2 1=accR d s n2 0 ++ [numA n2] from by simp [accR,h1],rowA_snoc])
       clear hz h20
       have hlen0:=accR_len d s n2 0
       have HLEN:Hid ((accR d s n2 1).length=(accR d s n2 0).length + 1):=Lib.hid (by simp [accR,h1])
       have HOP:=Lib.hid (fun W=>refnum_any n2 W)
       have cT:=cell_of_heap (i:=3) hCT
       have fT:=frozen_of_heap (i:=3) hCT
       have cC:=cell_of_heap (i:=0) ((HBU.out.2 C (by omega) (by omega)).trans D10.out)
       simp at cT fT cC
       clear h1 hCT
       go_wp2_with fail
       go_region_law (first | (go_simp;go_at_call 19;refine (HOP.out _).mono ?_;rintro e w2 ⟨rfl,hbU⟩;have q1:=(hbU.cell (p:=⟨T,3,none⟩) z1).trans cT;have q5:T < w2.heap.size:=(by have:=hbU.size;simp at this;omega);have hown2:=own_below HOW.out.drew hbU) | (refine step_append_at _ (by rfl) _ _ _ (by rfl) w10.heap.size 41 _ 8 104 Tryz.underlying29 info_ar rfl (by decide) (hown2.alloc _) (by rfl) ⟨w2.heap.size,0,none⟩ (arCells (numA n2) nilV) (by rfl) (by rfl) (cells_new w2 (arCells (numA n2) nilV) _) (arCells_one _ _ rfl) (by omega) (by omega) (by simp;have:=hbU.size;simp at this;omega) ?_;intro v' w3 hown3 hb3 hgr3;obtain ⟨A9,c9,rfl,hc9,hm9,_⟩:=own_slice hown3 (by omega);have hT3':=(hb3.block T (by omega)).trans ((Below.heap_alloc w2 (.cells (arCells (numA n2) nilV).toArray 41) T (by have:=hbU.size;simp at this;omega)).trans ((hbU.block T z1).trans HT.out));have q3:=cell_of_heap (i:=3) hT3';have f3:=frozen_of_heap (i:=3) hT3';simp at q3 f3))
       all_goals (
        have BB:=Lib.hid ((HBW.out.drew.trans (hbU.mono (by simp;omega))).alloc (by have:=hbU.size;simp at this;omega) (.cells (arCells (numA n2) nilV).toArray 41) |>.trans (hb3.mono (by omega)))
        have BU3:=Lib.hid (((HBU.out.drew.bel (hbU.mono (by simp;omega))).bel ((Below.refl w2.heap.size w2).alloc (Nat.le_refl _) (.cells (arCells (numA n2) nilV).toArray 41) |>.mono (by have:=hbU.size;simp at this;omega))).bel hb3)
        have O3:Hid (w3.ownsRow w10.heap.size 41 8 (.slice A9 ((accR d s n2 0).length + 1) c9) (accR d s n2 1).length (rowA (accR d s n2 1))):=Lib.hid (by rw [HROW.out,HLEN.out];exact hown3)
        have T3:=Lib.hid hT3'
        clear hT3' hown3 hb3 hgr3 hbU hown2 q1 HROW HOW HBU HBW
        go_simp
        go_wp2_with fail
        go_roundw
        case rel=>exact ⟨1,by omega,by go_num,_,heap_set (i:=3) _ T3.out,own_set O3.out (by omega),BU3.out.set 3 _,BB.out.setCell (by show w.heap.size ≤ T;omega) _⟩
        case measure=>simp [intOf])
      ·
       have h1:arg86D d n2 = [wordA (argL d)]:=by unfold arg86D;rw [if_neg hz,if_neg h19,if_neg h20,argL_word d hz (by omega)]
       have e1:((d:Int) == 0)=false:=by rw [beq_eq_false_iff_ne];omega
       have e2:((d:Int) == 19)=false:=by rw [beq_eq_false_iff_ne];omega
       have e3:((d:Int) == 20)=false:=by rw [beq_eq_false_iff_ne];omega
       have HROW:Hid (rowA (accR d s n2 1)=rowA (accR d s n2 0) ++ arCells (wordA (argL d)) nilV):=Lib.hid (by rw [show accR d s n2 1=accR d s n2 0 ++ [wordA (argL d)] from by simp [accR,h1],rowA_snoc])
       skip
       have hlen0:=accR_len d s n2 0
       have HLEN:Hid ((accR d s n2 1).length=(accR d s n2 0).length + 1):=Lib.hid (by simp [accR,h1])
       have HOP:=Lib.hid (fun W=>refword_any (argL d) W)
       have HAG:=Lib.hid (fun W=>refArg9_any (d:Int) W (by omega) (by omega))
       clear hz h19 h20
       have cT:=cell_of_heap (i:=3) hCT
       have fT:=frozen_of_heap (i:=3) hCT
       have cC:=cell_of_heap (i:=0) ((HBU.out.2 C (by omega) (by omega)).trans D10.out)
       simp at cT fT cC
       clear h1 hCT
       generalize argL d=aw at *
       go_wp2_with fail
       go_region_law (first | (go_simp;go_at_call 76;refine (HAG.out _).mono ?_;rintro e wa ⟨rfl,hbA⟩;have qa1:=(hbA.cell (p:=⟨T,3,none⟩) z1).trans cT;have zA:T < wa.heap.size:=(by have:=hbA.size;simp at this;omega)) | (go_simp;go_at_call 75;refine (HOP.out _).mono ?_;rintro e w2 ⟨rfl,hbV⟩;have hbU:=bthen hbA hbV;have q1:=(hbU.cell (p:=⟨T,3,none⟩) z1).trans cT;have q5:T < w2.heap.size:=(by have:=hbU.size;simp at this;omega);have hown2:=own_below HOW.out.drew hbU) | (refine step_append_at _ (by rfl) _ _ _ (by rfl) w10.heap.size 41 _ 8 104 Tryz.underlying29 info_ar rfl (by decide) (hown2.alloc _) (by rfl) ⟨w2.heap.size,0,none⟩ (arCells (wordA aw) nilV) (by rfl) (by rfl) (cells_new w2 (arCells (wordA aw) nilV) _) (arCells_one _ _ rfl) (by omega) (by omega) (by simp;have:=hbU.size;simp at this;omega) ?_;intro v' w3 hown3 hb3 hgr3;obtain ⟨A9,c9,rfl,hc9,hm9,_⟩:=own_slice hown3 (by omega);have hT3':=(hb3.block T (by omega)).trans ((Below.heap_alloc w2 (.cells (arCells (wordA aw) nilV).toArray 41) T (by have:=hbU.size;simp at this;omega)).trans ((hbU.block T z1).trans HT.out));have q3:=cell_of_heap (i:=3) hT3';have f3:=frozen_of_heap (i:=3) hT3';simp at q3 f3))
       all_goals (
        have BB:=Lib.hid ((HBW.out.drew.trans (hbU.mono (by simp;omega))).alloc (by have:=hbU.size;simp at this;omega) (.cells (arCells (wordA aw) nilV).toArray 41) |>.trans (hb3.mono (by omega)))
        have BU3:=Lib.hid (((HBU.out.drew.bel (hbU.mono (by simp;omega))).bel ((Below.refl w2.heap.size w2).alloc (Nat.le_refl _) (.cells (arCells (wordA aw) nilV).toArray 41) |>.mono (by have:=hbU.size;simp at this;omega))).bel hb3)
        have O3:Hid (w3.ownsRow w10.heap.size 41 8 (.slice A9 ((accR d s n2 0).length + 1) c9) (accR d s n2 1).length (rowA (accR d s n2 1))):=Lib.hid (by rw [HROW.out,HLEN.out];exact hown3)
        have T3:=Lib.hid hT3'
        clear hT3' hown3 hb3 hgr3 hbU hown2 q1 HROW HOW HBU HBW hbA hbV qa1 HAG
        go_simp
        go_wp2_with fail
        go_roundw
        case rel=>exact ⟨1,by omega,by go_num,_,heap_set (i:=3) _ T3.out,own_set O3.out (by omega),BU3.out.set 3 _,BB.out.setCell (by show w.heap.size ≤ T;omega) _⟩
        case measure=>simp [intOf])
   ·have cC0:=cell_of_heap (i:=1) ((HBU.out.2 C (by omega) (by omega)).trans D10.out)
    simp at cC0
    by_cases hz:s=0
    ·
     have h1:arg86D s n2 = []:=by unfold arg86D;rw [if_pos hz]
     have e1:((s:Int) == 0)=true:=by rw [beq_iff_eq];omega
     clear hz
     go_wp2_with fail
     go_roundw
     case rel=>exact ⟨2,by omega,by go_num,by rw [show accR d s n2 2=accR d s n2 1 from by simp [accR,h1]];exact ⟨_,HT.out,HOW.out,HBU.out,HBW.out⟩⟩
     case measure=>simp [intOf]
    ·by_cases h19:s=19
     ·have hz:=h19
      have h1:arg86D s n2 = [memA n2]:=by unfold arg86D;rw [if_neg (by omega),if_pos hz]
      have e1:((s:Int) == 0)=false:=by rw [beq_eq_false_iff_ne];omega
      have e2:((s:Int) == 19)=true:=by rw [beq_iff_eq];omega
      have HROW:Hid (rowA (accR d s n2 2)=rowA (accR d s n2 1) ++ arCells (memA n2) nilV):=Lib.hid (by rw [show accR d s n2 2=accR d s n2 1 ++ [memA n2] from by simp [accR,h1],rowA_snoc])
      clear hz h19
      have hlen0:=accR_len d s n2 1
      have HLEN:Hid ((accR d s n2 2).length=(accR d s n2 1).length + 1):=Lib.hid (by simp [accR,h1])
      have HOP:=Lib.hid (fun W=>refnum_any n2 W)
      have cT:=cell_of_heap (i:=3) hCT
      have fT:=frozen_of_heap (i:=3) hCT
      have cC:=cell_of_heap (i:=1) ((HBU.out.2 C (by omega) (by omega)).trans D10.out)
      simp at cT fT cC
      clear h1 hCT
      go_wp2_with fail
      go_region_law (first | (go_simp;go_at_call 19;refine (HOP.out _).mono ?_;rintro e w2 ⟨rfl,hbU⟩;have q1:=(hbU.cell (p:=⟨T,3,none⟩) z1).trans cT;have q5:T < w2.heap.size:=(by have:=hbU.size;simp at this;omega);have hown2:=own_below HOW.out.drew hbU) | (refine step_append_at _ (by rfl) _ _ _ (by rfl) w10.heap.size 41 _ 8 104 Tryz.underlying29 info_ar rfl (by decide) (hown2.alloc _) (by rfl) ⟨w2.heap.size,0,none⟩ (arCells (memA n2) nilV) (by rfl) (by rfl) (cells_new w2 (arCells (memA n2) nilV) _) (arCells_one _ _ rfl) (by omega) (by omega) (by simp;have:=hbU.size;simp at this;omega) ?_;intro v' w3 hown3 hb3 hgr3;obtain ⟨A9,c9,rfl,hc9,hm9,_⟩:=own_slice hown3 (by omega);have hT3':=(hb3.block T (by omega)).trans ((Below.heap_alloc w2 (.cells (arCells (memA n2) nilV).toArray 41) T (by have:=hbU.size;simp at this;omega)).trans ((hbU.block T z1).trans HT.out));have q3:=cell_of_heap (i:=3) hT3';have f3:=frozen_of_heap (i:=3) hT3';simp at q3 f3))
      all_goals (
       have BB:=Lib.hid ((HBW.out.drew.trans (hbU.mono (by simp;omega))).alloc (by have:=hbU.size;simp at this;omega) (.cells (arCells (memA n2) nilV).toArray 41) |>.trans (hb3.mono (by omega)))
       have BU3:=Lib.hid (((HBU.out.drew.bel (hbU.mono (by simp;omega))).bel ((Below.refl w2.heap.size w2).alloc (Nat.le_refl _) (.cells (arCells (memA n2) nilV).toArray 41) |>.mono (by have:=hbU.size;simp at this;omega))).bel hb3)
       have O3:Hid (w3.ownsRow w10.heap.size 41 8 (.slice A9 ((accR d s n2 1).length + 1) c9) (accR d s n2 2).length (rowA (accR d s n2 2))):=Lib.hid (by rw [HROW.out,HLEN.out];exact hown3)
       have T3:=Lib.hid hT3'
       clear hT3' hown3 hb3 hgr3 hbU hown2 q1 HROW HOW HBU HBW
       go_simp
       go_wp2_with fail
       go_roundw
       case rel=>exact ⟨2,by omega,by go_num,_,heap_set (i:=3) _ T3.out,own_set O3.out (by omega),BU3.out.set 3 _,BB.out.setCell (by show w.heap.size ≤ T;omega) _⟩
       case measure=>simp [intOf])
     ·by_cases h20:s=20
      ·have hz:=h20
       have h1:arg86D s n2 = [numA n2]:=by unfold arg86D;rw [if_neg (by omega),if_neg (by omega),if_pos hz]
       have e1:((s:Int) == 0)=false:=by rw [beq_eq_false_iff_ne];omega
       have e2:((s:Int) == 19)=false:=by rw [beq_eq_false_iff_ne];omega
       have e3:((s:Int) == 20)=true:=by rw [beq_iff_eq];omega
       have HROW:Hid (rowA (accR d s n2 2)=rowA (accR d s n2 1) ++ arCells (numA n2) nilV):=Lib.hid (by rw [show accR d s n2 2=accR d s n2 1 ++ [numA n2] from by simp [accR,h1],rowA_snoc])
       clear hz h20
       have hlen0:=accR_len d s n2 1
       have HLEN:Hid ((accR d s n2 2).length=(accR d s n2 1).length + 1):=Lib.hid (by simp [accR,h1])
       have HOP:=Lib.hid (fun W=>refnum_any n2 W)
       have cT:=cell_of_heap (i:=3) hCT
       have fT:=frozen_of_heap (i:=3) hCT
       have cC:=cell_of_heap (i:=1) ((HBU.out.2 C (by omega) (by omega)).trans D10.out)
       simp at cT fT cC
       clear h1 hCT
       go_wp2_with fail
       go_region_law (first | (go_simp;go_at_call 19;refine (HOP.out _).mono ?_;rintro e w2 ⟨rfl,hbU⟩;have q1:=(hbU.cell (p:=⟨T,3,none⟩) z1).trans cT;have q5:T < w2.heap.size:=(by have:=hbU.size;simp at this;omega);have hown2:=own_below HOW.out.drew hbU) | (refine step_append_at _ (by rfl) _ _ _ (by rfl) w10.heap.size 41 _ 8 104 Tryz.underlying29 info_ar rfl (by decide) (hown2.alloc _) (by rfl) ⟨w2.heap.size,0,none⟩ (arCells (numA n2) nilV) (by rfl) (by rfl) (cells_new w2 (arCells (numA n2) nilV) _) (arCells_one _ _ rfl) (by omega) (by omega) (by simp;have:=hbU.size;simp at this;omega) ?_;intro v' w3 hown3 hb3 hgr3;obtain ⟨A9,c9,rfl,hc9,hm9,_⟩:=own_slice hown3 (by omega);have hT3':=(hb3.block T (by omega)).trans ((Below.heap_alloc w2 (.cells (arCells (numA n2) nilV).toArray 41) T (by have:=hbU.size;simp at this;omega)).trans ((hbU.block T z1).trans HT.out));have q3:=cell_of_heap (i:=3) hT3';have f3:=frozen_of_heap (i:=3) hT3';simp at q3 f3))
       all_goals (
        have BB:=Lib.hid ((HBW.out.drew.trans (hbU.mono (by simp;omega))).alloc (by have:=hbU.size;simp at this;omega) (.cells (arCells (numA n2) nilV).toArray 41) |>.trans (hb3.mono (by omega)))
        have BU3:=Lib.hid (((HBU.out.drew.bel (hbU.mono (by simp;omega))).bel ((Below.refl w2.heap.size w2).alloc (Nat.le_refl _) (.cells (arCells (numA n2) nilV).toArray 41) |>.mono (by have:=hbU.size;simp at this;omega))).bel hb3)
        have O3:Hid (w3.ownsRow w10.heap.size 41 8 (.slice A9 ((accR d s n2 1).length + 1) c9) (accR d s n2 2).length (rowA (accR d s n2 2))):=Lib.hid (by rw [HROW.out,HLEN.out];exact hown3)
        have T3:=Lib.hid hT3'
        clear hT3' hown3 hb3 hgr3 hbU hown2 q1 HROW HOW HBU HBW
        go_simp
        go_wp2_with fail
        go_roundw
        case rel=>exact ⟨2,by omega,by go_num,_,heap_set (i:=3) _ T3.out,own_set O3.out (by omega),BU3.out.set 3 _,BB.out.setCell (by show w.heap.size ≤ T;omega) _⟩
        case measure=>simp [intOf])
      ·
       have h1:arg86D s n2 = [wordA (argL s)]:=by unfold arg86D;rw [if_neg hz,if_neg h19,if_neg h20,argL_word s hz (by omega)]
       have e1:((s:Int) == 0)=false:=by rw [beq_eq_false_iff_ne];omega
       have e2:((s:Int) == 19)=false:=by rw [beq_eq_false_iff_ne];omega
       have e3:((s:Int) == 20)=false:=by rw [beq_eq_false_iff_ne];omega
       have HROW:Hid (rowA (accR d s n2 2)=rowA (accR d s n2 1) ++ arCells (wordA (argL s)) nilV):=Lib.hid (by rw [show accR d s n2 2=accR d s n2 1 ++ [wordA (argL s)] from by simp [accR,h1],rowA_snoc])
       skip
       have hlen0:=accR_len d s n2 1
       have HLEN:Hid ((accR d s n2 2).length=(accR d s n2 1).length + 1):=Lib.hid (by simp [accR,h1])
       have HOP:=Lib.hid (fun W=>refword_any (argL s) W)
       have HAG:=Lib.hid (fun W=>refArg9_any (s:Int) W (by omega) (by omega))
       clear hz h19 h20
       have cT:=cell_of_heap (i:=3) hCT
       have fT:=frozen_of_heap (i:=3) hCT
       have cC:=cell_of_heap (i:=1) ((HBU.out.2 C (by omega) (by omega)).trans D10.out)
       simp at cT fT cC
       clear h1 hCT
       generalize argL s=aw at *
       go_wp2_with fail
       go_region_law (first | (go_simp;go_at_call 76;refine (HAG.out _).mono ?_;rintro e wa ⟨rfl,hbA⟩;have qa1:=(hbA.cell (p:=⟨T,3,none⟩) z1).trans cT;have zA:T < wa.heap.size:=(by have:=hbA.size;simp at this;omega)) | (go_simp;go_at_call 75;refine (HOP.out _).mono ?_;rintro e w2 ⟨rfl,hbV⟩;have hbU:=bthen hbA hbV;have q1:=(hbU.cell (p:=⟨T,3,none⟩) z1).trans cT;have q5:T < w2.heap.size:=(by have:=hbU.size;simp at this;omega);have hown2:=own_below HOW.out.drew hbU) | (refine step_append_at _ (by rfl) _ _ _ (by rfl) w10.heap.size 41 _ 8 104 Tryz.underlying29 info_ar rfl (by decide) (hown2.alloc _) (by rfl) ⟨w2.heap.size,0,none⟩ (arCells (wordA aw) nilV) (by rfl) (by rfl) (cells_new w2 (arCells (wordA aw) nilV) _) (arCells_one _ _ rfl) (by omega) (by omega) (by simp;have:=hbU.size;simp at this;omega) ?_;intro v' w3 hown3 hb3 hgr3;obtain ⟨A9,c9,rfl,hc9,hm9,_⟩:=own_slice hown3 (by omega);have hT3':=(hb3.block T (by omega)).trans ((Below.heap_alloc w2 (.cells (arCells (wordA aw) nilV).toArray 41) T (by have:=hbU.size;simp at this;omega)).trans ((hbU.block T z1).trans HT.out));have q3:=cell_of_heap (i:=3) hT3';have f3:=frozen_of_heap (i:=3) hT3';simp at q3 f3))
       all_goals (
        have BB:=Lib.hid ((HBW.out.drew.trans (hbU.mono (by simp;omega))).alloc (by have:=hbU.size;simp at this;omega) (.cells (arCells (wordA aw) nilV).toArray 41) |>.trans (hb3.mono (by omega)))
        have BU3:=Lib.hid (((HBU.out.drew.bel (hbU.mono (by simp;omega))).bel ((Below.refl w2.heap.size w2).alloc (Nat.le_refl _) (.cells (arCells (wordA aw) nilV).toArray 41) |>.mono (by have:=hbU.size;simp at this;omega))).bel hb3)
        have O3:Hid (w3.ownsRow w10.heap.size 41 8 (.slice A9 ((accR d s n2 1).length + 1) c9) (accR d s n2 2).length (rowA (accR d s n2 2))):=Lib.hid (by rw [HROW.out,HLEN.out];exact hown3)
        have T3:=Lib.hid hT3'
        clear hT3' hown3 hb3 hgr3 hbU hown2 q1 HROW HOW HBU HBW hbA hbV qa1 HAG
        go_simp
        go_wp2_with fail
        go_roundw
        case rel=>exact ⟨2,by omega,by go_num,_,heap_set (i:=3) _ T3.out,own_set O3.out (by omega),BU3.out.set 3 _,BB.out.setCell (by show w.heap.size ≤ T;omega) _⟩
        case measure=>simp [intOf])
   ·
    have CR:=(HBU.out.2 w.heap.size (by omega) (by omega)).trans C10.out
    obtain ⟨⟨k0,k1,k2,k3,k4,k5,k6⟩,f0,f1,f2,f3,f4,f5,f6⟩:=seven CR
    obtain ⟨⟨t0,t1,t2,t3,t4,t5,t6⟩,g0,g1,g2,g3,g4,g5,g6⟩:=seven HT.out
    have O2:=Lib.hid HOW.out
    have BB:=Lib.hid HBW.out
    clear CR hCT HOW HBW HBU HT T10 D10 C10 B10
    go_wp2_with fail
    refine bodyPost_ret (v:=.agg #[.int .i64 pl,.int .i64 size,.string ⟨nm.toArray⟩,.slice vA (accR d s n2 2).length vc,.bool false,.int .i64 0,.int .u8 0]) (by simp [results,Tryz.results38,go_sem,k0,k1,k2,k3,k4,k5,k6]) rfl ⟨_,rfl,?_,?_⟩
    ·exact own_more (own_set (own_set (own_set (own_set (own_set (own_set (own_set O2.out (by omega)) (by omega)) (by omega)) (by omega)) (by omega)) (by omega)) (by omega)) (by omega)
    ·exact ((((((BB.out.setCell (Nat.le_refl _) _).setCell (Nat.le_refl _) _).setCell (Nat.le_refl _) _).setCell (Nat.le_refl _) _).setCell (Nat.le_refl _) _).setCell (Nat.le_refl _) _).setCell (Nat.le_refl _) _
end Go.Proofs.YtagplldaooipmaaGreatDoor
