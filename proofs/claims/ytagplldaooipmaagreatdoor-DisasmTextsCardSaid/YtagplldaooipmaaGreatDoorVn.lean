/- Vn. -/
import Derived.Test.YtagplldaooipmaaGreatDoorVb
namespace Go.Proofs.YtagplldaooipmaaGreatDoor
open Go.RowKit
theorem u16_or_shl (x y:Nat) (hx:x < 256) (hy:y < 256):bits .or .u16 (x:Int) ((y:Int) * 256)=(x:Int) + 256 * (y:Int):=by
 have h:=u16_shl_or y x hy hx
 rw [u16_or_nat _ _ (by omega) (by omega),Nat.or_comm,← u16_or_nat _ _ (by omega) (by omega)] at h
 simp only [Int.natCast_add,Int.natCast_mul] at h
 refine h.trans ?_
 omega
set_option maxHeartbeats 8000000 in
set_option maxRecDepth 100000 in
theorem read86_hit2 (b:List UInt8) (v:Value) (w:World) (hr:RdB w w.heap.size v b) (hl:b.length ≤ 1000000) (h2:2 ≤ b.length) (op d s:Nat) (hG:guess86 (byteN b 0) (byteN b 1)=(op,d,s)) (hb:List Nat) (hH:heads86 op d s=(hb,2)) (hn:isHead hb b) (hs2:size86 (hb,2) ≤ b.length):Calls Tryz.prog 61 #[v] w (ReadP w ((op,d,s,tailN (hb,2) b),size86 (hb,2),0)):=by
 obtain ⟨h0,hq⟩:=hn
 obtain ⟨SZ,hSZ⟩:∃ SZ,SZ=size86 (hb,2):=⟨_,rfl⟩
 have HSE:=Lib.hid hSZ.symm
 have hsz6:SZ=hb.length + 2:=hSZ
 have hsz7:SZ ≤ b.length:=by rw [hSZ];exact hs2
 obtain ⟨RR,hRR⟩:∃ RR,RR=ReadP w ((op,d,s,tailN (hb,2) b),size86 (hb,2),0):=⟨_,rfl⟩
 have HRE:=Lib.hid hRR
 rw [← hRR]
 clear hs2 hRR
 obtain ⟨A,c,rfl,hc⟩:=hr.form
 obtain ⟨g,o,hA,hg,hcell⟩:=hr.get 0 (by omega)
 have c1:=hcell 1 (by omega)
 have c0:=hcell 0 (by omega)
 rw [Nat.add_zero] at c0
 subst hA
 have e0:((b.length:Int) == 0)=false:=by rw [beq_eq_false_iff_ne];omega
 have e1:(1:Int) < (b.length:Int):=by omega
 have l0:=byteN_lt b 0
 have l1:=byteN_lt b 1
 have HG:=Lib.hid (fun W=>guess_any (byteN b 0) (byteN b 1) l0 l1 W)
 have HRR:=Lib.hid hr
 have hgl:=guess_le (byteN b 0) (byteN b 1) l0
 rw [hG] at HG hgl
 simp only at HG
 obtain ⟨q1,q2,q3,q4⟩:=hgl
 simp only at q1 q2 q3 q4
 have HH:=Lib.hid (fun W=>heads_x op d s q1 q2 q3 q4 W)
 have HL:=heads_len op d s
 rw [hH] at HH HL
 have hl1:hb.length ≤ 2:=HL.1
 clear hcell hr q1 q2 q3 q4 hG hH HL
 go_enter Tryz.func61, Tryz.ntmps61
 go_wp2_with fail
 refine wp_loop_rounds 2 ?_
 rw [rounds_succ]
 go_wp2_with fail
 refine (HG.out _).mono ?_
 rintro e w1 ⟨rfl,hb1⟩
 have B1:=Lib.hid (bthen (((Below.refl w.heap.size w).alloc (Nat.le_refl _) (.cells #[.int .i64 0,.int .i64 0,.int .i64 0,.int .u16 0] 94)).alloc (by simp) (.cells #[.int .u8 (byteN b 1:Nat)] 5)) hb1)
 have C1:=Lib.hid ((hb1.block w.heap.size (by simp;omega)).trans ((Below.heap_alloc _ _ _ (by simp)).trans (heap_alloc_new w (.cells #[.int .i64 0,.int .i64 0,.int .i64 0,.int .u16 0] 94))))
 clear hb1
 go_wp2_with fail
 refine (HH.out _).mono ?_
 rintro e w2 ⟨hv,rfl,hrd,hb2,hfv⟩
 obtain ⟨hA,hc',rfl,hcc⟩:=hrd.form
 rw [List.length_map] at *
 have RD2:=Lib.hid hrd
 have B2:=Lib.hid (bthen B1.out hb2)
 have C2:=Lib.hid ((hb2.block w.heap.size (lt_of_heap C1.out)).trans C1.out)
 have Z2:=lt_of_heap C2.out
 clear hrd hb2
 have k0:=cell_of_heap (i:=0) C2.out
 have k1:=cell_of_heap (i:=1) C2.out
 have k2:=cell_of_heap (i:=2) C2.out
 have k3:=cell_of_heap (i:=3) C2.out
 have f0:=frozen_of_heap (i:=0) C2.out
 have f1:=frozen_of_heap (i:=1) C2.out
 have f2:=frozen_of_heap (i:=2) C2.out
 have f3:=frozen_of_heap (i:=3) C2.out
 simp at k0 k1 k2 k3 f0 f1 f2 f3
 have HMN:=(show min (hb.length:Int) (b.length:Int)=(hb.length:Int) by omega)
 have BX:=Lib.hid (fun W (hW:Below w2.heap.size w2 W)=>B2.out.trans (hW.mono B2.out.size))
 have e4:((hb.length:Int) == 0)=false:=by rw [beq_eq_false_iff_ne];omega
 have EQ:=Lib.hid (fun W (hW:Below w2.heap.size w2 W)=>equal_by (hb.map UInt8.ofNat) (b.take hb.length) (.slice hA hb.length hc') (.slice (some ⟨g,o,none⟩) hb.length c) W ((RD2.out.below hW).more hW.size) ((RdB.take (HRR.out.below (BX.out W hW)) hb.length (by omega)).more (Nat.le_trans B2.out.size hW.size)) (by simp;omega) (by simp;omega))
 have BQ:=Lib.hid (fun n=>below_dn ((Below.refl w2.heap.size w2).alloc (Nat.le_refl _) (.cells #[.slice hA hb.length hc',.int .i64 (2:Int)] 132)) n)
 have z1:(0:Int) ≤ (hb.length:Int):=by omega
 have z2:(hb.length:Int) ≤ (hc':Int):=by have q:=hcc;simp at q;omega
 have z3:(hb.length:Int) ≤ (c:Int):=by omega
 rw [decide_eq_true hq] at EQ
 have HS:=Lib.hid (fun W=>size_x hA hb.length hc' 2 (by omega) (by omega) W)
 have hsz:((if 2=1 ∨ 2=3 then hb.length + 1 else if 2=2 then hb.length + 2 else hb.length:Nat))=size86 (hb,2):=rfl
 rw [hsz] at HS
 have HX:Hid ((hb.length=2∧∃ g' o',hA=some ⟨g',o',none⟩∧(∀ W,Below w2.heap.size w2 W → W.cell? ⟨g',o' + 1,none⟩=some (.int .u8 (byteN b 1:Nat)))) ∨ ((hb.length:Int) == 2)=false):=Lib.hid (by
  by_cases h22:hb.length=2
  ·left
   have RD3:RdB w2 w2.heap.size (.slice hA (hb.map UInt8.ofNat).length hc') (hb.map UInt8.ofNat):=by rw [List.length_map];exact RD2.out
   obtain ⟨g',o',hA',hg',hc'⟩:=RD3.get 1 (by rw [List.length_map];omega)
   refine ⟨h22,g',o',hA',fun W hW=>?_⟩
   have h4:=hc' 1 (by rw [List.length_map];omega)
   have h3:=second_same hb b h22 hq
   rw [hW.cell (p:=⟨g',o' + 1,none⟩) hg',h4,← h3]
   congr 3
   unfold byteN
   rw [List.getD_eq_getElem?_getD,List.getD_eq_getElem?_getD,List.getElem?_map]
   obtain ⟨y,hy⟩:∃ y,hb[1]? = some y:=⟨hb[1],List.getElem?_eq_getElem (by omega)⟩
   rw [hy]
   rfl
  ·right;rw [beq_eq_false_iff_ne];omega)
 rw [← hSZ] at HS
 have hsz2:decide ((b.length:Int) < (SZ:Int))=false:=by simp;omega
 have hsz4:(hb.length:Int) ≤ (SZ:Int):=by omega
 have hsz5:(SZ:Int) ≤ (c:Int):=by omega
 have HSV:=Lib.hid hsz6
 clear h0 hq hl1 hsz hSZ hsz6
 rcases HX.out with ⟨h22,g',o',rfl,hC1⟩ | e5
 have e5:((hb.length:Int) == 2)=true:=by rw [beq_iff_eq];omega
 have e7:(1:Int) < (hb.length:Int):=by omega
 have e6:=hC1 (w2.alloc (.cells #[.slice (some ⟨g',o',none⟩) hb.length hc',.int .i64 (2:Int)] 132)) ((Below.refl _ _).alloc (Nat.le_refl _) _)
 clear hC1 h22
 rotate_left
 all_goals (
  clear HX
  go_wp2_with fail
  go_quiet ((go_at_call 105;exact Calls.quiet_of (EQ.out _ (BQ.out _))))
  go_wp2_with fail
  try generalize (some (⟨g',o',none⟩:Addr))=hA at *
  refine (HS.out _).mono ?_
  rintro e w3 ⟨rfl,hb3⟩
  have B23:=Lib.hid (bthen (BQ.out nq) hb3)
  have BX3:=Lib.hid (BX.out w3 B23.out)
  have C3:=Lib.hid ((B23.out.block w.heap.size Z2).trans C2.out)
  have H3:=Lib.hid ((hb3.block w2.heap.size (by simp)).trans (heap_alloc_new w2 _))
  have R3:=Lib.hid (HRR.out.below BX3.out)
  have Z3:=lt_of_heap C3.out
  have Y3:=lt_of_heap H3.out
  clear hb3 k0 k1 k2 k3 f0 f1 f2 f3
  have k0:=cell_of_heap (i:=0) C3.out
  have k1:=cell_of_heap (i:=1) C3.out
  have k2:=cell_of_heap (i:=2) C3.out
  have k3:=cell_of_heap (i:=3) C3.out
  have f0:=frozen_of_heap (i:=0) C3.out
  have f1:=frozen_of_heap (i:=1) C3.out
  have f2:=frozen_of_heap (i:=2) C3.out
  have f3:=frozen_of_heap (i:=3) C3.out
  have j0:=cell_of_heap (i:=0) H3.out
  have j1:=cell_of_heap (i:=1) H3.out
  simp at k0 k1 k2 k3 f0 f1 f2 f3 j0 j1
  go_wp2_with fail
  have B4:=Lib.hid (BX3.out.alloc BX3.out.size (.cells #[.int .i64 (op:Int),.int .i64 (d:Int),.int .i64 (s:Int),.int .u16 0] 94))
  have C4:=Lib.hid ((Below.heap_alloc w3 (.cells #[.int .i64 (op:Int),.int .i64 (d:Int),.int .i64 (s:Int),.int .u16 0] 94) w.heap.size Z3).trans C3.out)
  have H4:=Lib.hid ((Below.heap_alloc w3 (.cells #[.int .i64 (op:Int),.int .i64 (d:Int),.int .i64 (s:Int),.int .u16 0] 94) w2.heap.size Y3).trans H3.out)
  have D4:=Lib.hid (heap_alloc_new w3 (.cells #[.int .i64 (op:Int),.int .i64 (d:Int),.int .i64 (s:Int),.int .u16 0] 94))
  have R4:=Lib.hid (HRR.out.below B4.out)
  have hI:w2.heap.size < w3.heap.size:=Y3
  have hI2:w3.heap.size < (w3.alloc (.cells #[.int .i64 (op:Int),.int .i64 (d:Int),.int .i64 (s:Int),.int .u16 0] 94)).heap.size:=by simp
  have hI3:w.heap.size < w2.heap.size:=Z2
  generalize w3.alloc (.cells #[.int .i64 (op:Int),.int .i64 (d:Int),.int .i64 (s:Int),.int .u16 0] 94)=w4 at *
  generalize w3.heap.size=I at *
  generalize w2.heap.size=J at *
  clear k0 k1 k2 k3 f0 f1 f2 f3 j0 j1 BX3 C3 H3 R3 Z3 Y3 B23 C2 Z2 RD2 B2 BX EQ BQ
  have j0:=cell_of_heap (i:=0) H4.out
  have j1:=cell_of_heap (i:=1) H4.out
  simp at j0 j1
  have HSB:Hid (∀ W,Below w4.heap.size w4 W → W.cell? ⟨J,0,none⟩=some (.slice hA hb.length hc') → W.cell? ⟨J,1,none⟩=some (.int .i64 (2:Int)) → Calls Tryz.prog 106 #[.agg #[.slice hA hb.length hc',.int .i64 (2:Int)]] W fun e w'=>e=.returned (.int .i64 (SZ:Int))∧Below W.heap.size W w'∧Below w4.heap.size w4 w'∧J < W.heap.size∧w'.cell? ⟨J,0,none⟩=some (.slice hA hb.length hc')∧w'.cell? ⟨J,1,none⟩=some (.int .i64 (2:Int))):=Lib.hid (fun W hW hz hz1=>(HS.out W).mono fun _ _ h=>by
   have hlt:=World.block_lt_of_cell? _ _ hz
   exact ⟨h.1,h.2,bthen hW h.2,hlt,(h.2.cell (p:=⟨J,0,none⟩) hlt).trans hz,(h.2.cell (p:=⟨J,1,none⟩) hlt).trans hz1⟩)
  have hB0:Below w4.heap.size w4 w4.drew:=(Below.refl _ _).drew
  go_region_held3 (fun w'=>w'.cell? ⟨J,0,none⟩=some (.slice hA hb.length hc')∧w'.cell? ⟨J,1,none⟩=some (.int .i64 (2:Int))∧Below w4.heap.size w4 w')
   (first | (go_keep;done) | (refine ⟨?_,?_,?_⟩ <;> first | assumption | go_keep)) (first | (go_at_call 106;go_split_ands;(with_reducible refine (HSB.out _ ?_ ?_ ?_).mono ?_);(assumption);(assumption);(assumption);rintro e5 w5 ⟨rfl,hb5,hbw5,hz5,hj0,hj1⟩;obtain ⟨hcc,hff⟩:=bcell hb5;obtain ⟨hcw,hfw⟩:=bcell hbw5))
  have B5:=Lib.hid (B4.out.trans (hbw5.mono B4.out.size))
  have C5:=Lib.hid ((hbw5.block w.heap.size (by omega)).trans C4.out)
  have D5:=Lib.hid ((hbw5.block I (by omega)).trans D4.out)
  have H5:=Lib.hid ((hbw5.block J (by omega)).trans H4.out)
  have R5:=Lib.hid (HRR.out.below B5.out)
  have zI:I < w5.heap.size:=lt_of_heap D5.out
  clear hcc hff hcw hfw hb5 hbw5 hj0 hj1 hz5 j0 j1 HSB hB0 B4 C4 H4 D4 R4 hI2
  have j0:=cell_of_heap (i:=0) H5.out
  have j1:=cell_of_heap (i:=1) H5.out
  have i0:=cell_of_heap (i:=0) D5.out
  have i1:=cell_of_heap (i:=1) D5.out
  have i2:=cell_of_heap (i:=2) D5.out
  have i3:=cell_of_heap (i:=3) D5.out
  have ff3:=frozen_of_heap (i:=3) D5.out
  simp at j0 j1 i0 i1 i2 i3 ff3
  have hsv:=HSV.out
  rw [if_neg (show ¬ c=hb.length by omega),show SZ - hb.length=2 by omega]
  obtain ⟨g2,o2,hA2,hg2,hc2⟩:=(show RdB w5 w.heap.size (.slice (some ⟨g,o,none⟩) b.length c) b from R5.out).get hb.length (by omega)
  have tb:=hc2 hb.length (by omega)
  have tb1:=hc2 (hb.length + 1) (by omega)
  rw [← Nat.add_assoc] at tb1
  obtain ⟨rfl,rfl⟩:g2=g∧o2=o:=by injection hA2 with h;injection h with h1 h2;exact ⟨h1.symm,h2.symm⟩
  have lb:=byteN_lt b hb.length
  have lb1:=byteN_lt b (hb.length + 1)
  clear hsv hA2 hc2
  have HTL:Hid (((byteN b hb.length + 256 * byteN b (hb.length + 1):Nat):Int)=((tailN (hb,2) b:Nat):Int)):=Lib.hid (by simp [tailN])
  generalize byteN b hb.length=x at *
  generalize byteN b (hb.length + 1)=y at *
  have HO:bits .or .u16 (x:Int) ((y:Int) * 256)=(x:Int) + 256 * (y:Int):=u16_or_shl x y lb lb1
  go_wp2_with fail
  go_region
  go_wp2_with fail
  clear HO
  have B55:=Lib.hid (B5.out.setCell (p:=⟨I,3,none⟩) (by show w.heap.size ≤ I;omega) (.int .u16 ((x:Int) + 256 * (y:Int))) |>.drew)
  have C55:Hid (((w5.setCell ⟨I,3,none⟩ (.int .u16 ((x:Int) + 256 * (y:Int)))).drew).heap[w.heap.size]? = some (.cells #[.int .i64 0,.int .i64 0,.int .i64 0,.int .u16 0] 94 (0,0))):=Lib.hid ((Below.heap_setCell w5 ⟨I,3,none⟩ (.int .u16 ((x:Int) + 256 * (y:Int))) w.heap.size (by simp;omega)).trans C5.out)
  have H55:Hid (((w5.setCell ⟨I,3,none⟩ (.int .u16 ((x:Int) + 256 * (y:Int)))).drew).heap[J]? = some (.cells #[.slice hA hb.length hc',.int .i64 2] 132 (0,0))):=Lib.hid ((Below.heap_setCell w5 ⟨I,3,none⟩ (.int .u16 ((x:Int) + 256 * (y:Int))) J (by simp;omega)).trans H5.out)
  have D55:Hid (((w5.setCell ⟨I,3,none⟩ (.int .u16 ((x:Int) + 256 * (y:Int)))).drew).heap[I]? = some (.cells #[.int .i64 (op:Int),.int .i64 (d:Int),.int .i64 (s:Int),.int .u16 ((x:Int) + 256 * (y:Int))] 94 (0,0))):=Lib.hid (heap_set (i:=3) (.int .u16 ((x:Int) + 256 * (y:Int))) D5.out)
  clear B5 C5 D5 H5 i0 i1 i2 i3 ff3 j0 j1 zI R5
  generalize (w5.setCell ⟨I,3,none⟩ (.int .u16 ((x:Int) + 256 * (y:Int)))).drew=w7 at *
  obtain ⟨w5,hw5⟩:∃ w5,w5=w7:=⟨_,rfl⟩
  subst hw5
  have B5:=B55
  have C5:=C55
  have D5:=D55
  have H5:=H55
  clear B55 C55 D55 H55
  have j0:=cell_of_heap (i:=0) H5.out
  have j1:=cell_of_heap (i:=1) H5.out
  have i0:=cell_of_heap (i:=0) D5.out
  have i1:=cell_of_heap (i:=1) D5.out
  have i2:=cell_of_heap (i:=2) D5.out
  have i3:=cell_of_heap (i:=3) D5.out
  simp at j0 j1 i0 i1 i2 i3
  have zI5:I < w5.heap.size:=lt_of_heap D5.out
  have zR5:w.heap.size < w5.heap.size:=by omega
  go_region_law (go_simp;go_at_call 106;refine (HS.out _).mono ?_;rintro e w6 ⟨rfl,hb6⟩;have y0:=(hb6.cell (p:=⟨I,0,none⟩) zI5).trans i0;have y1:=(hb6.cell (p:=⟨I,1,none⟩) zI5).trans i1;have y2:=(hb6.cell (p:=⟨I,2,none⟩) zI5).trans i2;have y3:=(hb6.cell (p:=⟨I,3,none⟩) zI5).trans i3;have C6:=(hb6.block w.heap.size zR5).trans C5.out;have u0:=cell_of_heap (i:=0) C6;have u1:=cell_of_heap (i:=1) C6;have u2:=cell_of_heap (i:=2) C6;have u3:=cell_of_heap (i:=3) C6;have v0:=frozen_of_heap (i:=0) C6;have v1:=frozen_of_heap (i:=1) C6;have v2:=frozen_of_heap (i:=2) C6;have v3:=frozen_of_heap (i:=3) C6;simp at u0 u1 u2 u3 v0 v1 v2 v3)
  all_goals (
   have BW6:=Lib.hid (bthen B5.out.drew hb6)
   go_simp
   go_wp2_with fail
   obtain ⟨m0,m1,m2,m3⟩:=four_set (W:=w6) (.int .i64 (op:Int)) (.int .i64 (d:Int)) (.int .i64 (s:Int)) (.int .u16 ((x:Int) + 256 * (y:Int))) C6
   refine bodyPost_ret (v:=.tuple #[.agg #[.int .i64 (op:Int),.int .i64 (d:Int),.int .i64 (s:Int),.int .u16 ((x:Int) + 256 * (y:Int))],.int .i64 (SZ:Int),.int .i64 0]) (by simp [results,Tryz.results61,go_sem,m0,m1,m2,m3]) rfl ?_
   rw [HRE.out]
   refine ⟨(by rw [HSE.out,← HTL.out];rfl),?_⟩
   exact (((BW6.out.setCell (by simp) _).setCell (by simp) _).setCell (by simp) _).setCell (by simp) _))
end Go.Proofs.YtagplldaooipmaaGreatDoor
/- isa86: Read of two bytes or more: a form that is there (a byte of a jump). -/
namespace Go.Proofs.YtagplldaooipmaaGreatDoor
open Go.RowKit
set_option maxHeartbeats 8000000 in
set_option maxRecDepth 100000 in
theorem read86_hit3 (b:List UInt8) (v:Value) (w:World) (hr:RdB w w.heap.size v b) (hl:b.length ≤ 1000000) (h2:2 ≤ b.length) (op d s:Nat) (hG:guess86 (byteN b 0) (byteN b 1)=(op,d,s)) (hb:List Nat) (hH:heads86 op d s=(hb,3)) (hn:isHead hb b) (hs2:size86 (hb,3) ≤ b.length):Calls Tryz.prog 61 #[v] w (ReadP w ((op,d,s,tailN (hb,3) b),size86 (hb,3),0)):=by
 obtain ⟨h0,hq⟩:=hn
 obtain ⟨SZ,hSZ⟩:∃ SZ,SZ=size86 (hb,3):=⟨_,rfl⟩
 have HSE:=Lib.hid hSZ.symm
 have hsz6:SZ=hb.length + 1:=hSZ
 have hsz7:SZ ≤ b.length:=by rw [hSZ];exact hs2
 obtain ⟨RR,hRR⟩:∃ RR,RR=ReadP w ((op,d,s,tailN (hb,3) b),size86 (hb,3),0):=⟨_,rfl⟩
 have HRE:=Lib.hid hRR
 rw [← hRR]
 clear hs2 hRR
 obtain ⟨A,c,rfl,hc⟩:=hr.form
 obtain ⟨g,o,hA,hg,hcell⟩:=hr.get 0 (by omega)
 have c1:=hcell 1 (by omega)
 have c0:=hcell 0 (by omega)
 rw [Nat.add_zero] at c0
 subst hA
 have e0:((b.length:Int) == 0)=false:=by rw [beq_eq_false_iff_ne];omega
 have e1:(1:Int) < (b.length:Int):=by omega
 have l0:=byteN_lt b 0
 have l1:=byteN_lt b 1
 have HG:=Lib.hid (fun W=>guess_any (byteN b 0) (byteN b 1) l0 l1 W)
 have HRR:=Lib.hid hr
 have hgl:=guess_le (byteN b 0) (byteN b 1) l0
 rw [hG] at HG hgl
 simp only at HG
 obtain ⟨q1,q2,q3,q4⟩:=hgl
 simp only at q1 q2 q3 q4
 have HH:=Lib.hid (fun W=>heads_x op d s q1 q2 q3 q4 W)
 have HL:=heads_len op d s
 rw [hH] at HH HL
 have hl1:hb.length ≤ 2:=HL.1
 clear hcell hr q1 q2 q3 q4 hG hH HL
 go_enter Tryz.func61, Tryz.ntmps61
 go_wp2_with fail
 refine wp_loop_rounds 2 ?_
 rw [rounds_succ]
 go_wp2_with fail
 refine (HG.out _).mono ?_
 rintro e w1 ⟨rfl,hb1⟩
 have B1:=Lib.hid (bthen (((Below.refl w.heap.size w).alloc (Nat.le_refl _) (.cells #[.int .i64 0,.int .i64 0,.int .i64 0,.int .u16 0] 94)).alloc (by simp) (.cells #[.int .u8 (byteN b 1:Nat)] 5)) hb1)
 have C1:=Lib.hid ((hb1.block w.heap.size (by simp;omega)).trans ((Below.heap_alloc _ _ _ (by simp)).trans (heap_alloc_new w (.cells #[.int .i64 0,.int .i64 0,.int .i64 0,.int .u16 0] 94))))
 clear hb1
 go_wp2_with fail
 refine (HH.out _).mono ?_
 rintro e w2 ⟨hv,rfl,hrd,hb2,hfv⟩
 obtain ⟨hA,hc',rfl,hcc⟩:=hrd.form
 rw [List.length_map] at *
 have RD2:=Lib.hid hrd
 have B2:=Lib.hid (bthen B1.out hb2)
 have C2:=Lib.hid ((hb2.block w.heap.size (lt_of_heap C1.out)).trans C1.out)
 have Z2:=lt_of_heap C2.out
 clear hrd hb2
 have k0:=cell_of_heap (i:=0) C2.out
 have k1:=cell_of_heap (i:=1) C2.out
 have k2:=cell_of_heap (i:=2) C2.out
 have k3:=cell_of_heap (i:=3) C2.out
 have f0:=frozen_of_heap (i:=0) C2.out
 have f1:=frozen_of_heap (i:=1) C2.out
 have f2:=frozen_of_heap (i:=2) C2.out
 have f3:=frozen_of_heap (i:=3) C2.out
 simp at k0 k1 k2 k3 f0 f1 f2 f3
 have HMN:=(show min (hb.length:Int) (b.length:Int)=(hb.length:Int) by omega)
 have BX:=Lib.hid (fun W (hW:Below w2.heap.size w2 W)=>B2.out.trans (hW.mono B2.out.size))
 have e4:((hb.length:Int) == 0)=false:=by rw [beq_eq_false_iff_ne];omega
 have EQ:=Lib.hid (fun W (hW:Below w2.heap.size w2 W)=>equal_by (hb.map UInt8.ofNat) (b.take hb.length) (.slice hA hb.length hc') (.slice (some ⟨g,o,none⟩) hb.length c) W ((RD2.out.below hW).more hW.size) ((RdB.take (HRR.out.below (BX.out W hW)) hb.length (by omega)).more (Nat.le_trans B2.out.size hW.size)) (by simp;omega) (by simp;omega))
 have BQ:=Lib.hid (fun n=>below_dn ((Below.refl w2.heap.size w2).alloc (Nat.le_refl _) (.cells #[.slice hA hb.length hc',.int .i64 (3:Int)] 132)) n)
 have z1:(0:Int) ≤ (hb.length:Int):=by omega
 have z2:(hb.length:Int) ≤ (hc':Int):=by have q:=hcc;simp at q;omega
 have z3:(hb.length:Int) ≤ (c:Int):=by omega
 rw [decide_eq_true hq] at EQ
 have HS:=Lib.hid (fun W=>size_x hA hb.length hc' 3 (by omega) (by omega) W)
 have hsz:((if 3=1 ∨ 3=3 then hb.length + 1 else if 3=2 then hb.length + 2 else hb.length:Nat))=size86 (hb,3):=rfl
 rw [hsz] at HS
 have HX:Hid ((hb.length=2∧∃ g' o',hA=some ⟨g',o',none⟩∧(∀ W,Below w2.heap.size w2 W → W.cell? ⟨g',o' + 1,none⟩=some (.int .u8 (byteN b 1:Nat)))) ∨ ((hb.length:Int) == 2)=false):=Lib.hid (by
  by_cases h22:hb.length=2
  ·left
   have RD3:RdB w2 w2.heap.size (.slice hA (hb.map UInt8.ofNat).length hc') (hb.map UInt8.ofNat):=by rw [List.length_map];exact RD2.out
   obtain ⟨g',o',hA',hg',hc'⟩:=RD3.get 1 (by rw [List.length_map];omega)
   refine ⟨h22,g',o',hA',fun W hW=>?_⟩
   have h4:=hc' 1 (by rw [List.length_map];omega)
   have h3:=second_same hb b h22 hq
   rw [hW.cell (p:=⟨g',o' + 1,none⟩) hg',h4,← h3]
   congr 3
   unfold byteN
   rw [List.getD_eq_getElem?_getD,List.getD_eq_getElem?_getD,List.getElem?_map]
   obtain ⟨y,hy⟩:∃ y,hb[1]? = some y:=⟨hb[1],List.getElem?_eq_getElem (by omega)⟩
   rw [hy]
   rfl
  ·right;rw [beq_eq_false_iff_ne];omega)
 rw [← hSZ] at HS
 have hsz2:decide ((b.length:Int) < (SZ:Int))=false:=by simp;omega
 have hsz4:(hb.length:Int) ≤ (SZ:Int):=by omega
 have hsz5:(SZ:Int) ≤ (c:Int):=by omega
 have HSV:=Lib.hid hsz6
 clear h0 hq hl1 hsz hSZ hsz6
 rcases HX.out with ⟨h22,g',o',rfl,hC1⟩ | e5
 have e5:((hb.length:Int) == 2)=true:=by rw [beq_iff_eq];omega
 have e7:(1:Int) < (hb.length:Int):=by omega
 have e6:=hC1 (w2.alloc (.cells #[.slice (some ⟨g',o',none⟩) hb.length hc',.int .i64 (3:Int)] 132)) ((Below.refl _ _).alloc (Nat.le_refl _) _)
 clear hC1 h22
 rotate_left
 all_goals (
  clear HX
  go_wp2_with fail
  go_quiet ((go_at_call 105;exact Calls.quiet_of (EQ.out _ (BQ.out _))))
  go_wp2_with fail
  try generalize (some (⟨g',o',none⟩:Addr))=hA at *
  refine (HS.out _).mono ?_
  rintro e w3 ⟨rfl,hb3⟩
  have B23:=Lib.hid (bthen (BQ.out nq) hb3)
  have BX3:=Lib.hid (BX.out w3 B23.out)
  have C3:=Lib.hid ((B23.out.block w.heap.size Z2).trans C2.out)
  have H3:=Lib.hid ((hb3.block w2.heap.size (by simp)).trans (heap_alloc_new w2 _))
  have R3:=Lib.hid (HRR.out.below BX3.out)
  have Z3:=lt_of_heap C3.out
  have Y3:=lt_of_heap H3.out
  clear hb3 k0 k1 k2 k3 f0 f1 f2 f3
  have k0:=cell_of_heap (i:=0) C3.out
  have k1:=cell_of_heap (i:=1) C3.out
  have k2:=cell_of_heap (i:=2) C3.out
  have k3:=cell_of_heap (i:=3) C3.out
  have f0:=frozen_of_heap (i:=0) C3.out
  have f1:=frozen_of_heap (i:=1) C3.out
  have f2:=frozen_of_heap (i:=2) C3.out
  have f3:=frozen_of_heap (i:=3) C3.out
  have j0:=cell_of_heap (i:=0) H3.out
  have j1:=cell_of_heap (i:=1) H3.out
  simp at k0 k1 k2 k3 f0 f1 f2 f3 j0 j1
  go_wp2_with fail
  have B4:=Lib.hid (BX3.out.alloc BX3.out.size (.cells #[.int .i64 (op:Int),.int .i64 (d:Int),.int .i64 (s:Int),.int .u16 0] 94))
  have C4:=Lib.hid ((Below.heap_alloc w3 (.cells #[.int .i64 (op:Int),.int .i64 (d:Int),.int .i64 (s:Int),.int .u16 0] 94) w.heap.size Z3).trans C3.out)
  have H4:=Lib.hid ((Below.heap_alloc w3 (.cells #[.int .i64 (op:Int),.int .i64 (d:Int),.int .i64 (s:Int),.int .u16 0] 94) w2.heap.size Y3).trans H3.out)
  have D4:=Lib.hid (heap_alloc_new w3 (.cells #[.int .i64 (op:Int),.int .i64 (d:Int),.int .i64 (s:Int),.int .u16 0] 94))
  have R4:=Lib.hid (HRR.out.below B4.out)
  have hI:w2.heap.size < w3.heap.size:=Y3
  have hI2:w3.heap.size < (w3.alloc (.cells #[.int .i64 (op:Int),.int .i64 (d:Int),.int .i64 (s:Int),.int .u16 0] 94)).heap.size:=by simp
  have hI3:w.heap.size < w2.heap.size:=Z2
  generalize w3.alloc (.cells #[.int .i64 (op:Int),.int .i64 (d:Int),.int .i64 (s:Int),.int .u16 0] 94)=w4 at *
  generalize w3.heap.size=I at *
  generalize w2.heap.size=J at *
  clear k0 k1 k2 k3 f0 f1 f2 f3 j0 j1 BX3 C3 H3 R3 Z3 Y3 B23 C2 Z2 RD2 B2 BX EQ BQ
  have j0:=cell_of_heap (i:=0) H4.out
  have j1:=cell_of_heap (i:=1) H4.out
  simp at j0 j1
  have HSB:Hid (∀ W,Below w4.heap.size w4 W → W.cell? ⟨J,0,none⟩=some (.slice hA hb.length hc') → W.cell? ⟨J,1,none⟩=some (.int .i64 (3:Int)) → Calls Tryz.prog 106 #[.agg #[.slice hA hb.length hc',.int .i64 (3:Int)]] W fun e w'=>e=.returned (.int .i64 (SZ:Int))∧Below W.heap.size W w'∧Below w4.heap.size w4 w'∧J < W.heap.size∧w'.cell? ⟨J,0,none⟩=some (.slice hA hb.length hc')∧w'.cell? ⟨J,1,none⟩=some (.int .i64 (3:Int))):=Lib.hid (fun W hW hz hz1=>(HS.out W).mono fun _ _ h=>by
   have hlt:=World.block_lt_of_cell? _ _ hz
   exact ⟨h.1,h.2,bthen hW h.2,hlt,(h.2.cell (p:=⟨J,0,none⟩) hlt).trans hz,(h.2.cell (p:=⟨J,1,none⟩) hlt).trans hz1⟩)
  have hB0:Below w4.heap.size w4 w4.drew:=(Below.refl _ _).drew
  go_region_held3 (fun w'=>w'.cell? ⟨J,0,none⟩=some (.slice hA hb.length hc')∧w'.cell? ⟨J,1,none⟩=some (.int .i64 (3:Int))∧Below w4.heap.size w4 w')
   (first | (go_keep;done) | (refine ⟨?_,?_,?_⟩ <;> first | assumption | go_keep)) (first | (go_at_call 106;go_split_ands;(with_reducible refine (HSB.out _ ?_ ?_ ?_).mono ?_);(assumption);(assumption);(assumption);rintro e5 w5 ⟨rfl,hb5,hbw5,hz5,hj0,hj1⟩;obtain ⟨hcc,hff⟩:=bcell hb5;obtain ⟨hcw,hfw⟩:=bcell hbw5))
  have B5:=Lib.hid (B4.out.trans (hbw5.mono B4.out.size))
  have C5:=Lib.hid ((hbw5.block w.heap.size (by omega)).trans C4.out)
  have D5:=Lib.hid ((hbw5.block I (by omega)).trans D4.out)
  have H5:=Lib.hid ((hbw5.block J (by omega)).trans H4.out)
  have R5:=Lib.hid (HRR.out.below B5.out)
  have zI:I < w5.heap.size:=lt_of_heap D5.out
  clear hcc hff hcw hfw hb5 hbw5 hj0 hj1 hz5 j0 j1 HSB hB0 B4 C4 H4 D4 R4 hI2
  have j0:=cell_of_heap (i:=0) H5.out
  have j1:=cell_of_heap (i:=1) H5.out
  have i0:=cell_of_heap (i:=0) D5.out
  have i1:=cell_of_heap (i:=1) D5.out
  have i2:=cell_of_heap (i:=2) D5.out
  have i3:=cell_of_heap (i:=3) D5.out
  have ff3:=frozen_of_heap (i:=3) D5.out
  simp at j0 j1 i0 i1 i2 i3 ff3
  have hsv:=HSV.out
  rw [if_neg (show ¬ c=hb.length by omega),show SZ - hb.length=1 by omega]
  obtain ⟨g2,o2,hA2,hg2,hc2⟩:=(show RdB w5 w.heap.size (.slice (some ⟨g,o,none⟩) b.length c) b from R5.out).get hb.length (by omega)
  have tb:=hc2 hb.length (by omega)
  obtain ⟨rfl,rfl⟩:g2=g∧o2=o:=by injection hA2 with h;injection h with h1 h2;exact ⟨h1.symm,h2.symm⟩
  have lb:=byteN_lt b hb.length
  clear hsv hA2 hc2
  by_cases hx:byteN b hb.length < 128
  ·have HTL:Hid (((byteN b hb.length:Nat):Int)=((tailN (hb,3) b:Nat):Int)):=Lib.hid (by simp [tailN,hx])
   generalize byteN b hb.length=x at *
   have i8:IntKind.i8.wrap (x:Int)=(x:Int):=by simp [IntKind.wrap,IntKind.bits,IntKind.signed];omega
   have u16:IntKind.u16.wrap (x:Int)=(x:Int):=by simp [IntKind.wrap,IntKind.bits,IntKind.signed];omega
   go_wp2_with fail
   have B55:=Lib.hid (B5.out.setCell (p:=⟨I,3,none⟩) (by show w.heap.size ≤ I;omega) (.int .u16 (x:Int)))
   have C55:=Lib.hid ((Below.heap_setCell w5 ⟨I,3,none⟩ (.int .u16 (x:Int)) w.heap.size (by simp;omega)).trans C5.out)
   have H55:=Lib.hid ((Below.heap_setCell w5 ⟨I,3,none⟩ (.int .u16 (x:Int)) J (by simp;omega)).trans H5.out)
   have D55:Hid ((w5.setCell ⟨I,3,none⟩ (.int .u16 (x:Int))).heap[I]? = some (.cells #[.int .i64 (op:Int),.int .i64 (d:Int),.int .i64 (s:Int),.int .u16 (x:Int)] 94 (0,0))):=Lib.hid (heap_set (i:=3) (.int .u16 (x:Int)) D5.out)
   clear B5 C5 D5 H5 i0 i1 i2 i3 ff3 j0 j1 zI R5
   generalize w5.setCell ⟨I,3,none⟩ (.int .u16 (x:Int))=w7 at *
   obtain ⟨w5,hw5⟩:∃ w5,w5=w7:=⟨_,rfl⟩
   subst hw5
   have B5:=B55
   have C5:=C55
   have D5:=D55
   have H5:=H55
   clear B55 C55 D55 H55
   have j0:=cell_of_heap (i:=0) H5.out
   have j1:=cell_of_heap (i:=1) H5.out
   have i0:=cell_of_heap (i:=0) D5.out
   have i1:=cell_of_heap (i:=1) D5.out
   have i2:=cell_of_heap (i:=2) D5.out
   have i3:=cell_of_heap (i:=3) D5.out
   simp at j0 j1 i0 i1 i2 i3
   have zI5:I < w5.heap.size:=lt_of_heap D5.out
   have zR5:w.heap.size < w5.heap.size:=by omega
   go_region_law (go_simp;go_at_call 106;refine (HS.out _).mono ?_;rintro e w6 ⟨rfl,hb6⟩;have y0:=(hb6.cell (p:=⟨I,0,none⟩) zI5).trans i0;have y1:=(hb6.cell (p:=⟨I,1,none⟩) zI5).trans i1;have y2:=(hb6.cell (p:=⟨I,2,none⟩) zI5).trans i2;have y3:=(hb6.cell (p:=⟨I,3,none⟩) zI5).trans i3;have C6:=(hb6.block w.heap.size zR5).trans C5.out;have u0:=cell_of_heap (i:=0) C6;have u1:=cell_of_heap (i:=1) C6;have u2:=cell_of_heap (i:=2) C6;have u3:=cell_of_heap (i:=3) C6;have v0:=frozen_of_heap (i:=0) C6;have v1:=frozen_of_heap (i:=1) C6;have v2:=frozen_of_heap (i:=2) C6;have v3:=frozen_of_heap (i:=3) C6;simp at u0 u1 u2 u3 v0 v1 v2 v3)
   all_goals (
    have BW6:=Lib.hid (bthen B5.out.drew hb6)
    go_simp
    go_wp2_with fail
    obtain ⟨m0,m1,m2,m3⟩:=four_set (W:=w6) (.int .i64 (op:Int)) (.int .i64 (d:Int)) (.int .i64 (s:Int)) (.int .u16 (x:Int)) C6
    refine bodyPost_ret (v:=.tuple #[.agg #[.int .i64 (op:Int),.int .i64 (d:Int),.int .i64 (s:Int),.int .u16 (x:Int)],.int .i64 (SZ:Int),.int .i64 0]) (by simp [results,Tryz.results61,go_sem,m0,m1,m2,m3]) rfl ?_
    rw [HRE.out]
    refine ⟨(by rw [HSE.out,← HTL.out];rfl),?_⟩
    exact (((BW6.out.setCell (by simp) _).setCell (by simp) _).setCell (by simp) _).setCell (by simp) _)
  ·have HTL:Hid (((65280 + byteN b hb.length:Nat):Int)=((tailN (hb,3) b:Nat):Int)):=Lib.hid (by simp [tailN,hx])
   generalize byteN b hb.length=x at *
   have i8:IntKind.i8.wrap (x:Int)=(x:Int) - 256:=by simp [IntKind.wrap,IntKind.bits,IntKind.signed];omega
   have u16:IntKind.u16.wrap ((x:Int) - 256)=(65280 + x:Int):=by simp [IntKind.wrap,IntKind.bits,IntKind.signed];omega
   go_wp2_with fail
   have B55:=Lib.hid (B5.out.setCell (p:=⟨I,3,none⟩) (by show w.heap.size ≤ I;omega) (.int .u16 (65280 + x:Int)))
   have C55:=Lib.hid ((Below.heap_setCell w5 ⟨I,3,none⟩ (.int .u16 (65280 + x:Int)) w.heap.size (by simp;omega)).trans C5.out)
   have H55:=Lib.hid ((Below.heap_setCell w5 ⟨I,3,none⟩ (.int .u16 (65280 + x:Int)) J (by simp;omega)).trans H5.out)
   have D55:Hid ((w5.setCell ⟨I,3,none⟩ (.int .u16 (65280 + x:Int))).heap[I]? = some (.cells #[.int .i64 (op:Int),.int .i64 (d:Int),.int .i64 (s:Int),.int .u16 (65280 + x:Int)] 94 (0,0))):=Lib.hid (heap_set (i:=3) (.int .u16 (65280 + x:Int)) D5.out)
   clear B5 C5 D5 H5 i0 i1 i2 i3 ff3 j0 j1 zI R5
   generalize w5.setCell ⟨I,3,none⟩ (.int .u16 (65280 + x:Int))=w7 at *
   obtain ⟨w5,hw5⟩:∃ w5,w5=w7:=⟨_,rfl⟩
   subst hw5
   have B5:=B55
   have C5:=C55
   have D5:=D55
   have H5:=H55
   clear B55 C55 D55 H55
   have j0:=cell_of_heap (i:=0) H5.out
   have j1:=cell_of_heap (i:=1) H5.out
   have i0:=cell_of_heap (i:=0) D5.out
   have i1:=cell_of_heap (i:=1) D5.out
   have i2:=cell_of_heap (i:=2) D5.out
   have i3:=cell_of_heap (i:=3) D5.out
   simp at j0 j1 i0 i1 i2 i3
   have zI5:I < w5.heap.size:=lt_of_heap D5.out
   have zR5:w.heap.size < w5.heap.size:=by omega
   go_region_law (go_simp;go_at_call 106;refine (HS.out _).mono ?_;rintro e w6 ⟨rfl,hb6⟩;have y0:=(hb6.cell (p:=⟨I,0,none⟩) zI5).trans i0;have y1:=(hb6.cell (p:=⟨I,1,none⟩) zI5).trans i1;have y2:=(hb6.cell (p:=⟨I,2,none⟩) zI5).trans i2;have y3:=(hb6.cell (p:=⟨I,3,none⟩) zI5).trans i3;have C6:=(hb6.block w.heap.size zR5).trans C5.out;have u0:=cell_of_heap (i:=0) C6;have u1:=cell_of_heap (i:=1) C6;have u2:=cell_of_heap (i:=2) C6;have u3:=cell_of_heap (i:=3) C6;have v0:=frozen_of_heap (i:=0) C6;have v1:=frozen_of_heap (i:=1) C6;have v2:=frozen_of_heap (i:=2) C6;have v3:=frozen_of_heap (i:=3) C6;simp at u0 u1 u2 u3 v0 v1 v2 v3)
   all_goals (
    have BW6:=Lib.hid (bthen B5.out.drew hb6)
    go_simp
    go_wp2_with fail
    obtain ⟨m0,m1,m2,m3⟩:=four_set (W:=w6) (.int .i64 (op:Int)) (.int .i64 (d:Int)) (.int .i64 (s:Int)) (.int .u16 (65280 + x:Int)) C6
    refine bodyPost_ret (v:=.tuple #[.agg #[.int .i64 (op:Int),.int .i64 (d:Int),.int .i64 (s:Int),.int .u16 (65280 + x:Int)],.int .i64 (SZ:Int),.int .i64 0]) (by simp [results,Tryz.results61,go_sem,m0,m1,m2,m3]) rfl ?_
    rw [HRE.out]
    refine ⟨(by rw [HSE.out,← HTL.out];rfl),?_⟩
    exact (((BW6.out.setCell (by simp) _).setCell (by simp) _).setCell (by simp) _).setCell (by simp) _))
end Go.Proofs.YtagplldaooipmaaGreatDoor
