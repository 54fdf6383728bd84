/- Vm. -/
import Derived.Test.YtagplldaooipmaaGreatDoorVb
import Derived.Test.YtagplldaooipmaaGreatDoorI86i
import Derived.Test.YtagplldaooipmaaGreatDoorVa
import Derived.Test.YtagplldaooipmaaGreatDoorKa
import Derived.Test.YtagplldaooipmaaGreatDoorKn
import Derived.Deep.RegionHeld3
namespace Go.Proofs.YtagplldaooipmaaGreatDoor
open Go.RowKit
set_option maxHeartbeats 8000000 in
set_option maxRecDepth 100000 in
theorem read86_hit0 (b:List UInt8) (v:Value) (w:World) (hr:RdB w w.heap.size v b) (hl:b.length ≤ 1000000) (h2:2 ≤ b.length) (op d s:Nat) (hG:guess86 (byteN b 0) (byteN b 1)=(op,d,s)) (hb:List Nat) (hH:heads86 op d s=(hb,0)) (hn:isHead hb b) (hs2:size86 (hb,0) ≤ b.length):Calls Tryz.prog 61 #[v] w (ReadP w ((op,d,s,tailN (hb,0) b),size86 (hb,0),0)):=by
 obtain ⟨h0,hq⟩:=hn
 obtain ⟨SZ,hSZ⟩:∃ SZ,SZ=size86 (hb,0):=⟨_,rfl⟩
 have HSE:=Lib.hid hSZ.symm
 have hsz6:SZ=hb.length + 0:=hSZ
 have hsz7:SZ ≤ b.length:=by rw [hSZ];exact hs2
 obtain ⟨RR,hRR⟩:∃ RR,RR=ReadP w ((op,d,s,tailN (hb,0) b),size86 (hb,0),0):=⟨_,rfl⟩
 have HRE:=Lib.hid hRR
 rw [← hRR]
 clear hs2 hRR
 obtain ⟨A,c,rfl,hc⟩:=hr.form
 obtain ⟨g,o,hA,hg,hcell⟩:=hr.get 0 (by omega)
 have c1:=hcell 1 (by omega)
 have c0:=hcell 0 (by omega)
 rw [Nat.add_zero] at c0
 subst hA
 have e0:((b.length:Int) == 0)=false:=by rw [beq_eq_false_iff_ne];omega
 have e1:(1:Int) < (b.length:Int):=by omega
 have l0:=byteN_lt b 0
 have l1:=byteN_lt b 1
 have HG:=Lib.hid (fun W=>guess_any (byteN b 0) (byteN b 1) l0 l1 W)
 have HRR:=Lib.hid hr
 have hgl:=guess_le (byteN b 0) (byteN b 1) l0
 rw [hG] at HG hgl
 simp only at HG
 obtain ⟨q1,q2,q3,q4⟩:=hgl
 simp only at q1 q2 q3 q4
 have HH:=Lib.hid (fun W=>heads_x op d s q1 q2 q3 q4 W)
 have HL:=heads_len op d s
 rw [hH] at HH HL
 have hl1:hb.length ≤ 2:=HL.1
 clear hcell hr q1 q2 q3 q4 hG hH HL
 go_enter Tryz.func61, Tryz.ntmps61
 go_wp2_with fail
 refine wp_loop_rounds 2 ?_
 rw [rounds_succ]
 go_wp2_with fail
 refine (HG.out _).mono ?_
 rintro e w1 ⟨rfl,hb1⟩
 have B1:=Lib.hid (bthen (((Below.refl w.heap.size w).alloc (Nat.le_refl _) (.cells #[.int .i64 0,.int .i64 0,.int .i64 0,.int .u16 0] 94)).alloc (by simp) (.cells #[.int .u8 (byteN b 1:Nat)] 5)) hb1)
 have C1:=Lib.hid ((hb1.block w.heap.size (by simp;omega)).trans ((Below.heap_alloc _ _ _ (by simp)).trans (heap_alloc_new w (.cells #[.int .i64 0,.int .i64 0,.int .i64 0,.int .u16 0] 94))))
 clear hb1
 go_wp2_with fail
 refine (HH.out _).mono ?_
 rintro e w2 ⟨hv,rfl,hrd,hb2,hfv⟩
 obtain ⟨hA,hc',rfl,hcc⟩:=hrd.form
 rw [List.length_map] at *
 have RD2:=Lib.hid hrd
 have B2:=Lib.hid (bthen B1.out hb2)
 have C2:=Lib.hid ((hb2.block w.heap.size (lt_of_heap C1.out)).trans C1.out)
 have Z2:=lt_of_heap C2.out
 clear hrd hb2
 have k0:=cell_of_heap (i:=0) C2.out
 have k1:=cell_of_heap (i:=1) C2.out
 have k2:=cell_of_heap (i:=2) C2.out
 have k3:=cell_of_heap (i:=3) C2.out
 have f0:=frozen_of_heap (i:=0) C2.out
 have f1:=frozen_of_heap (i:=1) C2.out
 have f2:=frozen_of_heap (i:=2) C2.out
 have f3:=frozen_of_heap (i:=3) C2.out
 simp at k0 k1 k2 k3 f0 f1 f2 f3
 have HMN:=(show min (hb.length:Int) (b.length:Int)=(hb.length:Int) by omega)
 have BX:=Lib.hid (fun W (hW:Below w2.heap.size w2 W)=>B2.out.trans (hW.mono B2.out.size))
 have e4:((hb.length:Int) == 0)=false:=by rw [beq_eq_false_iff_ne];omega
 have EQ:=Lib.hid (fun W (hW:Below w2.heap.size w2 W)=>equal_by (hb.map UInt8.ofNat) (b.take hb.length) (.slice hA hb.length hc') (.slice (some ⟨g,o,none⟩) hb.length c) W ((RD2.out.below hW).more hW.size) ((RdB.take (HRR.out.below (BX.out W hW)) hb.length (by omega)).more (Nat.le_trans B2.out.size hW.size)) (by simp;omega) (by simp;omega))
 have BQ:=Lib.hid (fun n=>below_dn ((Below.refl w2.heap.size w2).alloc (Nat.le_refl _) (.cells #[.slice hA hb.length hc',.int .i64 (0:Int)] 132)) n)
 have z1:(0:Int) ≤ (hb.length:Int):=by omega
 have z2:(hb.length:Int) ≤ (hc':Int):=by have q:=hcc;simp at q;omega
 have z3:(hb.length:Int) ≤ (c:Int):=by omega
 rw [decide_eq_true hq] at EQ
 have HS:=Lib.hid (fun W=>size_x hA hb.length hc' 0 (by omega) (by omega) W)
 have hsz:((if 0=1 ∨ 0=3 then hb.length + 1 else if 0=2 then hb.length + 2 else hb.length:Nat))=size86 (hb,0):=rfl
 rw [hsz] at HS
 have HX:Hid ((hb.length=2∧∃ g' o',hA=some ⟨g',o',none⟩∧(∀ W,Below w2.heap.size w2 W → W.cell? ⟨g',o' + 1,none⟩=some (.int .u8 (byteN b 1:Nat)))) ∨ ((hb.length:Int) == 2)=false):=Lib.hid (by
  by_cases h22:hb.length=2
  ·left
   have RD3:RdB w2 w2.heap.size (.slice hA (hb.map UInt8.ofNat).length hc') (hb.map UInt8.ofNat):=by rw [List.length_map];exact RD2.out
   obtain ⟨g',o',hA',hg',hc'⟩:=RD3.get 1 (by rw [List.length_map];omega)
   refine ⟨h22,g',o',hA',fun W hW=>?_⟩
   have h4:=hc' 1 (by rw [List.length_map];omega)
   have h3:=second_same hb b h22 hq
   rw [hW.cell (p:=⟨g',o' + 1,none⟩) hg',h4,← h3]
   congr 3
   unfold byteN
   rw [List.getD_eq_getElem?_getD,List.getD_eq_getElem?_getD,List.getElem?_map]
   obtain ⟨y,hy⟩:∃ y,hb[1]? = some y:=⟨hb[1],List.getElem?_eq_getElem (by omega)⟩
   rw [hy]
   rfl
  ·right;rw [beq_eq_false_iff_ne];omega)
 rw [← hSZ] at HS
 have hsz2:decide ((b.length:Int) < (SZ:Int))=false:=by simp;omega
 have hsz4:(hb.length:Int) ≤ (SZ:Int):=by omega
 have hsz5:(SZ:Int) ≤ (c:Int):=by omega
 have HSV:=Lib.hid hsz6
 clear h0 hq hl1 hsz hSZ hsz6
 rcases HX.out with ⟨h22,g',o',rfl,hC1⟩ | e5
 have e5:((hb.length:Int) == 2)=true:=by rw [beq_iff_eq];omega
 have e7:(1:Int) < (hb.length:Int):=by omega
 have e6:=hC1 (w2.alloc (.cells #[.slice (some ⟨g',o',none⟩) hb.length hc',.int .i64 (0:Int)] 132)) ((Below.refl _ _).alloc (Nat.le_refl _) _)
 clear hC1 h22
 rotate_left
 all_goals (
  clear HX
  go_wp2_with fail
  go_quiet ((go_at_call 105;exact Calls.quiet_of (EQ.out _ (BQ.out _))))
  go_wp2_with fail
  try generalize (some (⟨g',o',none⟩:Addr))=hA at *
  refine (HS.out _).mono ?_
  rintro e w3 ⟨rfl,hb3⟩
  have B23:=Lib.hid (bthen (BQ.out nq) hb3)
  have BX3:=Lib.hid (BX.out w3 B23.out)
  have C3:=Lib.hid ((B23.out.block w.heap.size Z2).trans C2.out)
  have H3:=Lib.hid ((hb3.block w2.heap.size (by simp)).trans (heap_alloc_new w2 _))
  have R3:=Lib.hid (HRR.out.below BX3.out)
  have Z3:=lt_of_heap C3.out
  have Y3:=lt_of_heap H3.out
  clear hb3 k0 k1 k2 k3 f0 f1 f2 f3
  have k0:=cell_of_heap (i:=0) C3.out
  have k1:=cell_of_heap (i:=1) C3.out
  have k2:=cell_of_heap (i:=2) C3.out
  have k3:=cell_of_heap (i:=3) C3.out
  have f0:=frozen_of_heap (i:=0) C3.out
  have f1:=frozen_of_heap (i:=1) C3.out
  have f2:=frozen_of_heap (i:=2) C3.out
  have f3:=frozen_of_heap (i:=3) C3.out
  have j0:=cell_of_heap (i:=0) H3.out
  have j1:=cell_of_heap (i:=1) H3.out
  simp at k0 k1 k2 k3 f0 f1 f2 f3 j0 j1
  go_wp2_with fail
  have B4:=Lib.hid (BX3.out.alloc BX3.out.size (.cells #[.int .i64 (op:Int),.int .i64 (d:Int),.int .i64 (s:Int),.int .u16 0] 94))
  have C4:=Lib.hid ((Below.heap_alloc w3 (.cells #[.int .i64 (op:Int),.int .i64 (d:Int),.int .i64 (s:Int),.int .u16 0] 94) w.heap.size Z3).trans C3.out)
  have H4:=Lib.hid ((Below.heap_alloc w3 (.cells #[.int .i64 (op:Int),.int .i64 (d:Int),.int .i64 (s:Int),.int .u16 0] 94) w2.heap.size Y3).trans H3.out)
  have D4:=Lib.hid (heap_alloc_new w3 (.cells #[.int .i64 (op:Int),.int .i64 (d:Int),.int .i64 (s:Int),.int .u16 0] 94))
  have R4:=Lib.hid (HRR.out.below B4.out)
  have hI:w2.heap.size < w3.heap.size:=Y3
  have hI2:w3.heap.size < (w3.alloc (.cells #[.int .i64 (op:Int),.int .i64 (d:Int),.int .i64 (s:Int),.int .u16 0] 94)).heap.size:=by simp
  have hI3:w.heap.size < w2.heap.size:=Z2
  generalize w3.alloc (.cells #[.int .i64 (op:Int),.int .i64 (d:Int),.int .i64 (s:Int),.int .u16 0] 94)=w4 at *
  generalize w3.heap.size=I at *
  generalize w2.heap.size=J at *
  clear k0 k1 k2 k3 f0 f1 f2 f3 j0 j1 BX3 C3 H3 R3 Z3 Y3 B23 C2 Z2 RD2 B2 BX EQ BQ
  have j0:=cell_of_heap (i:=0) H4.out
  have j1:=cell_of_heap (i:=1) H4.out
  simp at j0 j1
  have HSB:Hid (∀ W,Below w4.heap.size w4 W → W.cell? ⟨J,0,none⟩=some (.slice hA hb.length hc') → W.cell? ⟨J,1,none⟩=some (.int .i64 (0:Int)) → Calls Tryz.prog 106 #[.agg #[.slice hA hb.length hc',.int .i64 (0:Int)]] W fun e w'=>e=.returned (.int .i64 (SZ:Int))∧Below W.heap.size W w'∧Below w4.heap.size w4 w'∧J < W.heap.size∧w'.cell? ⟨J,0,none⟩=some (.slice hA hb.length hc')∧w'.cell? ⟨J,1,none⟩=some (.int .i64 (0:Int))):=Lib.hid (fun W hW hz hz1=>(HS.out W).mono fun _ _ h=>by
   have hlt:=World.block_lt_of_cell? _ _ hz
   exact ⟨h.1,h.2,bthen hW h.2,hlt,(h.2.cell (p:=⟨J,0,none⟩) hlt).trans hz,(h.2.cell (p:=⟨J,1,none⟩) hlt).trans hz1⟩)
  have hB0:Below w4.heap.size w4 w4.drew:=(Below.refl _ _).drew
  go_region_held3 (fun w'=>w'.cell? ⟨J,0,none⟩=some (.slice hA hb.length hc')∧w'.cell? ⟨J,1,none⟩=some (.int .i64 (0:Int))∧Below w4.heap.size w4 w')
   (first | (go_keep;done) | (refine ⟨?_,?_,?_⟩ <;> first | assumption | go_keep)) (first | (go_at_call 106;go_split_ands;(with_reducible refine (HSB.out _ ?_ ?_ ?_).mono ?_);(assumption);(assumption);(assumption);rintro e5 w5 ⟨rfl,hb5,hbw5,hz5,hj0,hj1⟩;obtain ⟨hcc,hff⟩:=bcell hb5;obtain ⟨hcw,hfw⟩:=bcell hbw5))
  have B5:=Lib.hid (B4.out.trans (hbw5.mono B4.out.size))
  have C5:=Lib.hid ((hbw5.block w.heap.size (by omega)).trans C4.out)
  have D5:=Lib.hid ((hbw5.block I (by omega)).trans D4.out)
  have H5:=Lib.hid ((hbw5.block J (by omega)).trans H4.out)
  have R5:=Lib.hid (HRR.out.below B5.out)
  have zI:I < w5.heap.size:=lt_of_heap D5.out
  clear hcc hff hcw hfw hb5 hbw5 hj0 hj1 hz5 j0 j1 HSB hB0 B4 C4 H4 D4 R4 hI2
  have j0:=cell_of_heap (i:=0) H5.out
  have j1:=cell_of_heap (i:=1) H5.out
  have i0:=cell_of_heap (i:=0) D5.out
  have i1:=cell_of_heap (i:=1) D5.out
  have i2:=cell_of_heap (i:=2) D5.out
  have i3:=cell_of_heap (i:=3) D5.out
  have ff3:=frozen_of_heap (i:=3) D5.out
  simp at j0 j1 i0 i1 i2 i3 ff3
  generalize (if c=hb.length then (some (⟨g,o,none⟩:Addr)) else some ⟨g,o + hb.length,none⟩)=tA
  have HTL:Hid (((0:Nat):Int)=((tailN (hb,0) b:Nat):Int)):=Lib.hid (by simp [tailN])
  go_wp2_with fail
  have zI5:I < w5.heap.size:=lt_of_heap D5.out
  have zR5:w.heap.size < w5.heap.size:=by omega
  go_region_law (go_simp;go_at_call 106;refine (HS.out _).mono ?_;rintro e w6 ⟨rfl,hb6⟩;have y0:=(hb6.cell (p:=⟨I,0,none⟩) zI5).trans i0;have y1:=(hb6.cell (p:=⟨I,1,none⟩) zI5).trans i1;have y2:=(hb6.cell (p:=⟨I,2,none⟩) zI5).trans i2;have y3:=(hb6.cell (p:=⟨I,3,none⟩) zI5).trans i3;have C6:=(hb6.block w.heap.size zR5).trans C5.out;have u0:=cell_of_heap (i:=0) C6;have u1:=cell_of_heap (i:=1) C6;have u2:=cell_of_heap (i:=2) C6;have u3:=cell_of_heap (i:=3) C6;have v0:=frozen_of_heap (i:=0) C6;have v1:=frozen_of_heap (i:=1) C6;have v2:=frozen_of_heap (i:=2) C6;have v3:=frozen_of_heap (i:=3) C6;simp at u0 u1 u2 u3 v0 v1 v2 v3)
  all_goals (
   have BW6:=Lib.hid (bthen B5.out.drew hb6)
   go_simp
   go_wp2_with fail
   obtain ⟨m0,m1,m2,m3⟩:=four_set (W:=w6) (.int .i64 (op:Int)) (.int .i64 (d:Int)) (.int .i64 (s:Int)) (.int .u16 0) C6
   refine bodyPost_ret (v:=.tuple #[.agg #[.int .i64 (op:Int),.int .i64 (d:Int),.int .i64 (s:Int),.int .u16 0],.int .i64 (SZ:Int),.int .i64 0]) (by simp [results,Tryz.results61,go_sem,m0,m1,m2,m3]) rfl ?_
   rw [HRE.out]
   refine ⟨(by rw [HSE.out,← HTL.out];rfl),?_⟩
   exact (((BW6.out.setCell (by simp) _).setCell (by simp) _).setCell (by simp) _).setCell (by simp) _))
end Go.Proofs.YtagplldaooipmaaGreatDoor
/- isa86: Read of two bytes or more: a form that is there (a byte). -/
namespace Go.Proofs.YtagplldaooipmaaGreatDoor
open Go.RowKit
set_option maxHeartbeats 8000000 in
set_option maxRecDepth 100000 in
theorem read86_hit1 (b:List UInt8) (v:Value) (w:World) (hr:RdB w w.heap.size v b) (hl:b.length ≤ 1000000) (h2:2 ≤ b.length) (op d s:Nat) (hG:guess86 (byteN b 0) (byteN b 1)=(op,d,s)) (hb:List Nat) (hH:heads86 op d s=(hb,1)) (hn:isHead hb b) (hs2:size86 (hb,1) ≤ b.length):Calls Tryz.prog 61 #[v] w (ReadP w ((op,d,s,tailN (hb,1) b),size86 (hb,1),0)):=by
 obtain ⟨h0,hq⟩:=hn
 obtain ⟨SZ,hSZ⟩:∃ SZ,SZ=size86 (hb,1):=⟨_,rfl⟩
 have HSE:=Lib.hid hSZ.symm
 have hsz6:SZ=hb.length + 1:=hSZ
 have hsz7:SZ ≤ b.length:=by rw [hSZ];exact hs2
 obtain ⟨RR,hRR⟩:∃ RR,RR=ReadP w ((op,d,s,tailN (hb,1) b),size86 (hb,1),0):=⟨_,rfl⟩
 have HRE:=Lib.hid hRR
 rw [← hRR]
 clear hs2 hRR
 obtain ⟨A,c,rfl,hc⟩:=hr.form
 obtain ⟨g,o,hA,hg,hcell⟩:=hr.get 0 (by omega)
 have c1:=hcell 1 (by omega)
 have c0:=hcell 0 (by omega)
 rw [Nat.add_zero] at c0
 subst hA
 have e0:((b.length:Int) == 0)=false:=by rw [beq_eq_false_iff_ne];omega
 have e1:(1:Int) < (b.length:Int):=by omega
 have l0:=byteN_lt b 0
 have l1:=byteN_lt b 1
 have HG:=Lib.hid (fun W=>guess_any (byteN b 0) (byteN b 1) l0 l1 W)
 have HRR:=Lib.hid hr
 have hgl:=guess_le (byteN b 0) (byteN b 1) l0
 rw [hG] at HG hgl
 simp only at HG
 obtain ⟨q1,q2,q3,q4⟩:=hgl
 simp only at q1 q2 q3 q4
 have HH:=Lib.hid (fun W=>heads_x op d s q1 q2 q3 q4 W)
 have HL:=heads_len op d s
 rw [hH] at HH HL
 have hl1:hb.length ≤ 2:=HL.1
 clear hcell hr q1 q2 q3 q4 hG hH HL
 go_enter Tryz.func61, Tryz.ntmps61
 go_wp2_with fail
 refine wp_loop_rounds 2 ?_
 rw [rounds_succ]
 go_wp2_with fail
 refine (HG.out _).mono ?_
 rintro e w1 ⟨rfl,hb1⟩
 have B1:=Lib.hid (bthen (((Below.refl w.heap.size w).alloc (Nat.le_refl _) (.cells #[.int .i64 0,.int .i64 0,.int .i64 0,.int .u16 0] 94)).alloc (by simp) (.cells #[.int .u8 (byteN b 1:Nat)] 5)) hb1)
 have C1:=Lib.hid ((hb1.block w.heap.size (by simp;omega)).trans ((Below.heap_alloc _ _ _ (by simp)).trans (heap_alloc_new w (.cells #[.int .i64 0,.int .i64 0,.int .i64 0,.int .u16 0] 94))))
 clear hb1
 go_wp2_with fail
 refine (HH.out _).mono ?_
 rintro e w2 ⟨hv,rfl,hrd,hb2,hfv⟩
 obtain ⟨hA,hc',rfl,hcc⟩:=hrd.form
 rw [List.length_map] at *
 have RD2:=Lib.hid hrd
 have B2:=Lib.hid (bthen B1.out hb2)
 have C2:=Lib.hid ((hb2.block w.heap.size (lt_of_heap C1.out)).trans C1.out)
 have Z2:=lt_of_heap C2.out
 clear hrd hb2
 have k0:=cell_of_heap (i:=0) C2.out
 have k1:=cell_of_heap (i:=1) C2.out
 have k2:=cell_of_heap (i:=2) C2.out
 have k3:=cell_of_heap (i:=3) C2.out
 have f0:=frozen_of_heap (i:=0) C2.out
 have f1:=frozen_of_heap (i:=1) C2.out
 have f2:=frozen_of_heap (i:=2) C2.out
 have f3:=frozen_of_heap (i:=3) C2.out
 simp at k0 k1 k2 k3 f0 f1 f2 f3
 have HMN:=(show min (hb.length:Int) (b.length:Int)=(hb.length:Int) by omega)
 have BX:=Lib.hid (fun W (hW:Below w2.heap.size w2 W)=>B2.out.trans (hW.mono B2.out.size))
 have e4:((hb.length:Int) == 0)=false:=by rw [beq_eq_false_iff_ne];omega
 have EQ:=Lib.hid (fun W (hW:Below w2.heap.size w2 W)=>equal_by (hb.map UInt8.ofNat) (b.take hb.length) (.slice hA hb.length hc') (.slice (some ⟨g,o,none⟩) hb.length c) W ((RD2.out.below hW).more hW.size) ((RdB.take (HRR.out.below (BX.out W hW)) hb.length (by omega)).more (Nat.le_trans B2.out.size hW.size)) (by simp;omega) (by simp;omega))
 have BQ:=Lib.hid (fun n=>below_dn ((Below.refl w2.heap.size w2).alloc (Nat.le_refl _) (.cells #[.slice hA hb.length hc',.int .i64 (1:Int)] 132)) n)
 have z1:(0:Int) ≤ (hb.length:Int):=by omega
 have z2:(hb.length:Int) ≤ (hc':Int):=by have q:=hcc;simp at q;omega
 have z3:(hb.length:Int) ≤ (c:Int):=by omega
 rw [decide_eq_true hq] at EQ
 have HS:=Lib.hid (fun W=>size_x hA hb.length hc' 1 (by omega) (by omega) W)
 have hsz:((if 1=1 ∨ 1=3 then hb.length + 1 else if 1=2 then hb.length + 2 else hb.length:Nat))=size86 (hb,1):=rfl
 rw [hsz] at HS
 have HX:Hid ((hb.length=2∧∃ g' o',hA=some ⟨g',o',none⟩∧(∀ W,Below w2.heap.size w2 W → W.cell? ⟨g',o' + 1,none⟩=some (.int .u8 (byteN b 1:Nat)))) ∨ ((hb.length:Int) == 2)=false):=Lib.hid (by
  by_cases h22:hb.length=2
  ·left
   have RD3:RdB w2 w2.heap.size (.slice hA (hb.map UInt8.ofNat).length hc') (hb.map UInt8.ofNat):=by rw [List.length_map];exact RD2.out
   obtain ⟨g',o',hA',hg',hc'⟩:=RD3.get 1 (by rw [List.length_map];omega)
   refine ⟨h22,g',o',hA',fun W hW=>?_⟩
   have h4:=hc' 1 (by rw [List.length_map];omega)
   have h3:=second_same hb b h22 hq
   rw [hW.cell (p:=⟨g',o' + 1,none⟩) hg',h4,← h3]
   congr 3
   unfold byteN
   rw [List.getD_eq_getElem?_getD,List.getD_eq_getElem?_getD,List.getElem?_map]
   obtain ⟨y,hy⟩:∃ y,hb[1]? = some y:=⟨hb[1],List.getElem?_eq_getElem (by omega)⟩
   rw [hy]
   rfl
  ·right;rw [beq_eq_false_iff_ne];omega)
 rw [← hSZ] at HS
 have hsz2:decide ((b.length:Int) < (SZ:Int))=false:=by simp;omega
 have hsz4:(hb.length:Int) ≤ (SZ:Int):=by omega
 have hsz5:(SZ:Int) ≤ (c:Int):=by omega
 have HSV:=Lib.hid hsz6
 clear h0 hq hl1 hsz hSZ hsz6
 rcases HX.out with ⟨h22,g',o',rfl,hC1⟩ | e5
 have e5:((hb.length:Int) == 2)=true:=by rw [beq_iff_eq];omega
 have e7:(1:Int) < (hb.length:Int):=by omega
 have e6:=hC1 (w2.alloc (.cells #[.slice (some ⟨g',o',none⟩) hb.length hc',.int .i64 (1:Int)] 132)) ((Below.refl _ _).alloc (Nat.le_refl _) _)
 clear hC1 h22
 rotate_left
 all_goals (
  clear HX
  go_wp2_with fail
  go_quiet ((go_at_call 105;exact Calls.quiet_of (EQ.out _ (BQ.out _))))
  go_wp2_with fail
  try generalize (some (⟨g',o',none⟩:Addr))=hA at *
  refine (HS.out _).mono ?_
  rintro e w3 ⟨rfl,hb3⟩
  have B23:=Lib.hid (bthen (BQ.out nq) hb3)
  have BX3:=Lib.hid (BX.out w3 B23.out)
  have C3:=Lib.hid ((B23.out.block w.heap.size Z2).trans C2.out)
  have H3:=Lib.hid ((hb3.block w2.heap.size (by simp)).trans (heap_alloc_new w2 _))
  have R3:=Lib.hid (HRR.out.below BX3.out)
  have Z3:=lt_of_heap C3.out
  have Y3:=lt_of_heap H3.out
  clear hb3 k0 k1 k2 k3 f0 f1 f2 f3
  have k0:=cell_of_heap (i:=0) C3.out
  have k1:=cell_of_heap (i:=1) C3.out
  have k2:=cell_of_heap (i:=2) C3.out
  have k3:=cell_of_heap (i:=3) C3.out
  have f0:=frozen_of_heap (i:=0) C3.out
  have f1:=frozen_of_heap (i:=1) C3.out
  have f2:=frozen_of_heap (i:=2) C3.out
  have f3:=frozen_of_heap (i:=3) C3.out
  have j0:=cell_of_heap (i:=0) H3.out
  have j1:=cell_of_heap (i:=1) H3.out
  simp at k0 k1 k2 k3 f0 f1 f2 f3 j0 j1
  go_wp2_with fail
  have B4:=Lib.hid (BX3.out.alloc BX3.out.size (.cells #[.int .i64 (op:Int),.int .i64 (d:Int),.int .i64 (s:Int),.int .u16 0] 94))
  have C4:=Lib.hid ((Below.heap_alloc w3 (.cells #[.int .i64 (op:Int),.int .i64 (d:Int),.int .i64 (s:Int),.int .u16 0] 94) w.heap.size Z3).trans C3.out)
  have H4:=Lib.hid ((Below.heap_alloc w3 (.cells #[.int .i64 (op:Int),.int .i64 (d:Int),.int .i64 (s:Int),.int .u16 0] 94) w2.heap.size Y3).trans H3.out)
  have D4:=Lib.hid (heap_alloc_new w3 (.cells #[.int .i64 (op:Int),.int .i64 (d:Int),.int .i64 (s:Int),.int .u16 0] 94))
  have R4:=Lib.hid (HRR.out.below B4.out)
  have hI:w2.heap.size < w3.heap.size:=Y3
  have hI2:w3.heap.size < (w3.alloc (.cells #[.int .i64 (op:Int),.int .i64 (d:Int),.int .i64 (s:Int),.int .u16 0] 94)).heap.size:=by simp
  have hI3:w.heap.size < w2.heap.size:=Z2
  generalize w3.alloc (.cells #[.int .i64 (op:Int),.int .i64 (d:Int),.int .i64 (s:Int),.int .u16 0] 94)=w4 at *
  generalize w3.heap.size=I at *
  generalize w2.heap.size=J at *
  clear k0 k1 k2 k3 f0 f1 f2 f3 j0 j1 BX3 C3 H3 R3 Z3 Y3 B23 C2 Z2 RD2 B2 BX EQ BQ
  have j0:=cell_of_heap (i:=0) H4.out
  have j1:=cell_of_heap (i:=1) H4.out
  simp at j0 j1
  have HSB:Hid (∀ W,Below w4.heap.size w4 W → W.cell? ⟨J,0,none⟩=some (.slice hA hb.length hc') → W.cell? ⟨J,1,none⟩=some (.int .i64 (1:Int)) → Calls Tryz.prog 106 #[.agg #[.slice hA hb.length hc',.int .i64 (1:Int)]] W fun e w'=>e=.returned (.int .i64 (SZ:Int))∧Below W.heap.size W w'∧Below w4.heap.size w4 w'∧J < W.heap.size∧w'.cell? ⟨J,0,none⟩=some (.slice hA hb.length hc')∧w'.cell? ⟨J,1,none⟩=some (.int .i64 (1:Int))):=Lib.hid (fun W hW hz hz1=>(HS.out W).mono fun _ _ h=>by
   have hlt:=World.block_lt_of_cell? _ _ hz
   exact ⟨h.1,h.2,bthen hW h.2,hlt,(h.2.cell (p:=⟨J,0,none⟩) hlt).trans hz,(h.2.cell (p:=⟨J,1,none⟩) hlt).trans hz1⟩)
  have hB0:Below w4.heap.size w4 w4.drew:=(Below.refl _ _).drew
  go_region_held3 (fun w'=>w'.cell? ⟨J,0,none⟩=some (.slice hA hb.length hc')∧w'.cell? ⟨J,1,none⟩=some (.int .i64 (1:Int))∧Below w4.heap.size w4 w')
   (first | (go_keep;done) | (refine ⟨?_,?_,?_⟩ <;> first | assumption | go_keep)) (first | (go_at_call 106;go_split_ands;(with_reducible refine (HSB.out _ ?_ ?_ ?_).mono ?_);(assumption);(assumption);(assumption);rintro e5 w5 ⟨rfl,hb5,hbw5,hz5,hj0,hj1⟩;obtain ⟨hcc,hff⟩:=bcell hb5;obtain ⟨hcw,hfw⟩:=bcell hbw5))
  have B5:=Lib.hid (B4.out.trans (hbw5.mono B4.out.size))
  have C5:=Lib.hid ((hbw5.block w.heap.size (by omega)).trans C4.out)
  have D5:=Lib.hid ((hbw5.block I (by omega)).trans D4.out)
  have H5:=Lib.hid ((hbw5.block J (by omega)).trans H4.out)
  have R5:=Lib.hid (HRR.out.below B5.out)
  have zI:I < w5.heap.size:=lt_of_heap D5.out
  clear hcc hff hcw hfw hb5 hbw5 hj0 hj1 hz5 j0 j1 HSB hB0 B4 C4 H4 D4 R4 hI2
  have j0:=cell_of_heap (i:=0) H5.out
  have j1:=cell_of_heap (i:=1) H5.out
  have i0:=cell_of_heap (i:=0) D5.out
  have i1:=cell_of_heap (i:=1) D5.out
  have i2:=cell_of_heap (i:=2) D5.out
  have i3:=cell_of_heap (i:=3) D5.out
  have ff3:=frozen_of_heap (i:=3) D5.out
  simp at j0 j1 i0 i1 i2 i3 ff3
  have hsv:=HSV.out
  rw [if_neg (show ¬ c=hb.length by omega),show SZ - hb.length=1 by omega]
  obtain ⟨g2,o2,hA2,hg2,hc2⟩:=(show RdB w5 w.heap.size (.slice (some ⟨g,o,none⟩) b.length c) b from R5.out).get hb.length (by omega)
  have tb:=hc2 hb.length (by omega)
  obtain ⟨rfl,rfl⟩:g2=g∧o2=o:=by injection hA2 with h;injection h with h1 h2;exact ⟨h1.symm,h2.symm⟩
  have lb:=byteN_lt b hb.length
  clear hsv hA2 hc2
  have HTL:Hid (((byteN b hb.length:Nat):Int)=((tailN (hb,1) b:Nat):Int)):=Lib.hid (by simp [tailN])
  generalize byteN b hb.length=x at *
  go_wp2_with fail
  have B55:=Lib.hid (B5.out.setCell (p:=⟨I,3,none⟩) (by show w.heap.size ≤ I;omega) (.int .u16 (x:Int)))
  have C55:=Lib.hid ((Below.heap_setCell w5 ⟨I,3,none⟩ (.int .u16 (x:Int)) w.heap.size (by simp;omega)).trans C5.out)
  have H55:=Lib.hid ((Below.heap_setCell w5 ⟨I,3,none⟩ (.int .u16 (x:Int)) J (by simp;omega)).trans H5.out)
  have D55:Hid ((w5.setCell ⟨I,3,none⟩ (.int .u16 (x:Int))).heap[I]? = some (.cells #[.int .i64 (op:Int),.int .i64 (d:Int),.int .i64 (s:Int),.int .u16 (x:Int)] 94 (0,0))):=Lib.hid (heap_set (i:=3) (.int .u16 (x:Int)) D5.out)
  clear B5 C5 D5 H5 i0 i1 i2 i3 ff3 j0 j1 zI R5
  generalize w5.setCell ⟨I,3,none⟩ (.int .u16 (x:Int))=w7 at *
  obtain ⟨w5,hw5⟩:∃ w5,w5=w7:=⟨_,rfl⟩
  subst hw5
  have B5:=B55
  have C5:=C55
  have D5:=D55
  have H5:=H55
  clear B55 C55 D55 H55
  have j0:=cell_of_heap (i:=0) H5.out
  have j1:=cell_of_heap (i:=1) H5.out
  have i0:=cell_of_heap (i:=0) D5.out
  have i1:=cell_of_heap (i:=1) D5.out
  have i2:=cell_of_heap (i:=2) D5.out
  have i3:=cell_of_heap (i:=3) D5.out
  simp at j0 j1 i0 i1 i2 i3
  have zI5:I < w5.heap.size:=lt_of_heap D5.out
  have zR5:w.heap.size < w5.heap.size:=by omega
  go_region_law (go_simp;go_at_call 106;refine (HS.out _).mono ?_;rintro e w6 ⟨rfl,hb6⟩;have y0:=(hb6.cell (p:=⟨I,0,none⟩) zI5).trans i0;have y1:=(hb6.cell (p:=⟨I,1,none⟩) zI5).trans i1;have y2:=(hb6.cell (p:=⟨I,2,none⟩) zI5).trans i2;have y3:=(hb6.cell (p:=⟨I,3,none⟩) zI5).trans i3;have C6:=(hb6.block w.heap.size zR5).trans C5.out;have u0:=cell_of_heap (i:=0) C6;have u1:=cell_of_heap (i:=1) C6;have u2:=cell_of_heap (i:=2) C6;have u3:=cell_of_heap (i:=3) C6;have v0:=frozen_of_heap (i:=0) C6;have v1:=frozen_of_heap (i:=1) C6;have v2:=frozen_of_heap (i:=2) C6;have v3:=frozen_of_heap (i:=3) C6;simp at u0 u1 u2 u3 v0 v1 v2 v3)
  all_goals (
   have BW6:=Lib.hid (bthen B5.out.drew hb6)
   go_simp
   go_wp2_with fail
   obtain ⟨m0,m1,m2,m3⟩:=four_set (W:=w6) (.int .i64 (op:Int)) (.int .i64 (d:Int)) (.int .i64 (s:Int)) (.int .u16 (x:Int)) C6
   refine bodyPost_ret (v:=.tuple #[.agg #[.int .i64 (op:Int),.int .i64 (d:Int),.int .i64 (s:Int),.int .u16 (x:Int)],.int .i64 (SZ:Int),.int .i64 0]) (by simp [results,Tryz.results61,go_sem,m0,m1,m2,m3]) rfl ?_
   rw [HRE.out]
   refine ⟨(by rw [HSE.out,← HTL.out];rfl),?_⟩
   exact (((BW6.out.setCell (by simp) _).setCell (by simp) _).setCell (by simp) _).setCell (by simp) _))
end Go.Proofs.YtagplldaooipmaaGreatDoor
/- isa86: Read of one byte (whatever the second may be). -/
namespace Go.Proofs.YtagplldaooipmaaGreatDoor
open Go.RowKit
theorem own_lit1 (w:World) (u:Value) (T:TypeId):(w.alloc (.cells #[u] T)).ownsRow w.heap.size T 1 (.slice (some ⟨w.heap.size,0,none⟩) 1 1) 1 [u]:=
 ⟨by simp,.inr ⟨w.heap.size,1,_,rfl,Nat.le_refl _,heap_alloc_new _ _,by simp,by decide,rfl,rfl⟩⟩
theorem size_lo86 (h:H86):h.1.length ≤ size86 h:=by unfold size86;repeat' (first | omega | split)
theorem find_hit {α:Type} (f:Nat → Option α) (n k:Nat) (r:α) (h:∀ j,j < k → f j=none) (hk:k < n) (hr:f k=some r):(List.range n).findSome? f=some r:=by
 rw [show n=k + (n - k) by omega,List.range_add,List.findSome?_append,List.findSome?_eq_none_iff.2 (fun x hx=>h x (List.mem_range.1 hx)),Option.none_or,show n - k=(n - k - 1) + 1 by omega,List.range_succ_eq_map]
 simp [hr]
theorem find_none {α:Type} (f:Nat → Option α) (n:Nat) (h:∀ j,j < n → f j=none):(List.range n).findSome? f=none:=
 List.findSome?_eq_none_iff.2 (fun x hx=>h x (List.mem_range.1 hx))
def seconds (k:Nat):List Value:=(List.range k).map fun (j:Nat)=>Value.int .u8 (j:Int)
theorem seconds_snoc (k:Nat):seconds (k + 1)=seconds k ++ [.int .u8 (k:Int)]:=by unfold seconds;rw [List.range_succ,List.map_append];rfl
theorem seconds_get (k j:Nat) (h:j < k):(seconds k)[j]? = some (.int .u8 (j:Int)):=by unfold seconds;rw [List.getElem?_map,List.getElem?_range h];rfl
set_option maxHeartbeats 16000000 in
set_option maxRecDepth 100000 in
theorem read86_one (b:List UInt8) (v:Value) (w:World) (hr:RdB w w.heap.size v b) (h1:b.length=1):Calls Tryz.prog 61 #[v] w (ReadP w (((List.range 256).findSome? (try86 b)).getD ((0,0,0,0),0,12))):=by
 obtain ⟨A,c,rfl,hc⟩:=hr.form
 obtain ⟨g,o,hA,hg,hcell⟩:=hr.get 0 (by omega)
 have c0:=hcell 0 (by omega)
 rw [Nat.add_zero] at c0
 subst hA
 rw [h1] at hr hc ⊢
 have l0:=byteN_lt b 0
 have HRR:=Lib.hid hr
 have HG:=Lib.hid (fun m (hm:m < 256) W=>guess_any (byteN b 0) m l0 hm W)
 have HL1:=Lib.hid h1
 have HTE:=Lib.hid (fun m=>show try86 b m=tryH (guess86 (byteN b 0) m) (heads86 (guess86 (byteN b 0) m).1 (guess86 (byteN b 0) m).2.1 (guess86 (byteN b 0) m).2.2) b m from rfl)
 have HGL:=Lib.hid (fun m=>guess_le (byteN b 0) m l0)
 obtain ⟨T,hT⟩:∃ T,T=((List.range 256).findSome? (try86 b)).getD ((0,0,0,0),0,12):=⟨_,rfl⟩
 rw [← hT]
 have HTT:=Lib.hid hT
 clear hcell hr h1 hT
 go_enter Tryz.func61, Tryz.ntmps61
 go_wp2_with fail
 have B1:=Lib.hid ((Below.refl w.heap.size w).alloc (Nat.le_refl _) (.cells #[.int .i64 0,.int .i64 0,.int .i64 0,.int .u16 0] 94))
 have C1:=Lib.hid (heap_alloc_new w (.cells #[.int .i64 0,.int .i64 0,.int .i64 0,.int .u16 0] 94))
 have Z1:(w.alloc (.cells #[.int .i64 0,.int .i64 0,.int .i64 0,.int .u16 0] 94)).heap.size=w.heap.size + 1:=by simp
 have O1:=Lib.hid (own_lit1 (w.alloc (.cells #[.int .i64 0,.int .i64 0,.int .i64 0,.int .u16 0] 94)) (.int .u8 0) 5)
 rw [Z1] at O1
 have D1:=Lib.hid ((Below.heap_alloc (w.alloc (.cells #[.int .i64 0,.int .i64 0,.int .i64 0,.int .u16 0] 94)) (.cells #[.int .u8 0] 5) w.heap.size (by simp)).trans C1.out)
 have B2:=Lib.hid (B1.out.alloc B1.out.size (.cells #[.int .u8 0] 5))
 go_loopw [5,29] (fun v i wr=>∃ k:Nat,k ≤ 255∧i=.int .i64 k∧wr.ownsRow (w.heap.size + 1) 5 1 v (k + 1) (seconds (k + 1))∧wr.heap[w.heap.size]? = some (.cells #[.int .i64 0,.int .i64 0,.int .i64 0,.int .u16 0] 94 (0,0))∧Below w.heap.size w wr) (fun _ i _=>255 - (intOf i).toNat)
 case atStart=>exact ⟨0,Nat.zero_le _,rfl,O1.out,D1.out,B2.out⟩
 case round=>
  obtain ⟨k,hk,rfl,hown,hbox,hbw⟩:=hrel
  obtain ⟨vA,vc,rfl,hvc,hvm,_⟩:=own_slice hown (by omega)
  have OW:=Lib.hid hown
  have BX:=Lib.hid hbox
  have BW:=Lib.hid hbw
  have hz:=lt_of_heap hbox
  clear B1 C1 Z1 O1 D1 B2 hown hbox hbw
  by_cases hlt:k < 255
  ·have hk2:(k:Int) < 255:=by omega
   go_wp2_with (at_builtin;refine wpList_append_at wr wr.heap.size rfl rfl _ _ 22 rfl (w.heap.size + 1) 5 (.int .u8 0) 1 1 Tryz.underlying22 info_u8 rfl (by decide) OW.out rfl [.int .u8 ((k:Int) + 1)] 5 rfl rfl (by intro u hu;simp at hu;subst hu;rfl) (by omega) (by omega) (by omega) ?_;intro v5 w5 hown5 hb5)
   go_wp2_with fail
   go_roundw
   case rel=>exact ⟨k + 1,by omega,by go_num,by rw [seconds_snoc];exact hown5,(hb5.block w.heap.size (by omega)).trans BX.out,BW.out.trans (hb5.mono (by omega))⟩
   case measure=>simp [intOf];omega
  ·obtain rfl:k=255:=by omega
   simp only [Nat.reduceAdd] at *
   rw [show (((255:Nat)):Int)=(255:Int) from rfl]
   have RS:=Lib.hid (Rd.of_own OW.out)
   obtain ⟨wo,hwo⟩:∃ wo:World,wo=wr:=⟨_,rfl⟩
   subst hwo
   clear OW hlt hk
   go_wp2_with fail
   go_loopw [41] (fun i wr2=>∃ m:Nat,m ≤ 256∧i=.int .i64 m∧(∀ j,j < m → try86 b j=none)∧Below wo.heap.size wo wr2) (fun i _=>256 - (intOf i).toNat)
   case atStart=>exact ⟨0,Nat.zero_le _,rfl,fun j h=>absurd h (Nat.not_lt_zero _),Below.refl _ _⟩
   case round=>
    obtain ⟨m,hm,rfl,hno,hB⟩:=hrel
    have NO:=Lib.hid hno
    have LB:=Lib.hid hB
    have BW2:=Lib.hid (bthen BW.out hB)
    have CB:=Lib.hid ((hB.block w.heap.size hz).trans BX.out)
    have hzB:=hB.size
    have ZB:=lt_of_heap CB.out
    clear hno
    by_cases hmt:m < 256
    ·obtain ⟨A3,c3,hA3,_,hc3⟩:=RS.out
     injection hA3 with hA3 _ hA4
     subst hA3;subst hA4
     obtain ⟨g2,o2,rfl,hg2,hc2⟩:=hc3 (by omega)
     have cm:=(hB.cell (p:=⟨g2,o2 + m,none⟩) hg2).trans (hc2 m _ (seconds_get 256 m hmt))
     have c00:=(BW2.out.cell (p:=⟨g,o,none⟩) hg).trans c0
     have i1:(m:Int) < 256:=by omega
     have HGM:=Lib.hid (fun W=>HG.out m hmt W)
     have hgl:=HGL.out m
     have HTR:=Lib.hid (HTE.out m)
     generalize guess86 (byteN b 0) m=G at *
     obtain ⟨op,d,s⟩:=G
     simp only at HTR HGM
     obtain ⟨q1,q2,q3,q4⟩:=hgl
     simp only at q1 q2 q3 q4
     have HH:=Lib.hid (fun W=>heads_x op d s q1 q2 q3 q4 W)
     have HL:=Lib.hid (heads_len op d s)
     generalize heads86 op d s=H at *
     obtain ⟨hb,ht⟩:=H
     have HRR2:=Lib.hid (HRR.out.below BW2.out)
     clear hB q1 q2 q3 q4 hc3 hc2 HG HTE HGL RS c0
     go_wp2_with fail
     refine (HGM.out _).mono ?_
     rintro e w1 ⟨rfl,hb1⟩
     have B1:=Lib.hid hb1
     clear hb1 HGM
     go_wp2_with fail
     refine (HH.out _).mono ?_
     rintro e w2 ⟨hv,rfl,hrd,hb2,hfv⟩
     obtain ⟨hA,hc',rfl,hcc⟩:=hrd.form
     rw [List.length_map] at *
     have RD3:Hid (RdB w2 w2.heap.size (.slice hA (hb.map UInt8.ofNat).length hc') (hb.map UInt8.ofNat)):=Lib.hid (by rw [List.length_map];exact hrd)
     have B2:=Lib.hid (bthen B1.out hb2)
     have C2:=Lib.hid ((B2.out.block w.heap.size ZB).trans CB.out)
     have Z2:=lt_of_heap C2.out
     have Y2:=B2.out.size
     clear hrd hb2 hfv HH B1
     have k0:=cell_of_heap (i:=0) C2.out
     have k1:=cell_of_heap (i:=1) C2.out
     have k2:=cell_of_heap (i:=2) C2.out
     have k3:=cell_of_heap (i:=3) C2.out
     have f0:=frozen_of_heap (i:=0) C2.out
     have f1:=frozen_of_heap (i:=1) C2.out
     have f2:=frozen_of_heap (i:=2) C2.out
     have f3:=frozen_of_heap (i:=3) C2.out
     simp at k0 k1 k2 k3 f0 f1 f2 f3
     have hl1:hb.length ≤ 2:=HL.out.1
     have ht3:ht ≤ 3:=HL.out.2
     have BX2:=Lib.hid (fun W (hW:Below w2.heap.size w2 W)=>bthen B2.out hW)
     have BX:=Lib.hid (fun W (hW:Below w2.heap.size w2 W)=>bthen BW2.out (BX2.out W hW))
     have LX:=Lib.hid (fun W (hW:Below w2.heap.size w2 W)=>bthen LB.out (BX2.out W hW))
     have BA:=Lib.hid ((Below.refl w2.heap.size w2).alloc (Nat.le_refl _) (.cells #[.slice hA hb.length hc',.int .i64 (ht:Int)] 132))
     have BQ:=Lib.hid (fun n=>below_dn BA.out n)
     by_cases h0:hb.length=0
     ·have z0:(min (hb.length:Int) 1 == 0)=true:=by rw [beq_iff_eq];omega
      have HN:Hid (∀ j,j < m + 1 → try86 b j=none):=Lib.hid (fun j hj=>by
       by_cases hjm:j=m
       ·subst hjm;rw [HTR.out];unfold tryH hitB;rw [if_pos];simp [h0]
       ·exact NO.out j (by omega))
      have HMN:min (hb.length:Int) 1=0:=by omega
      clear h0 hl1 RD3 z0 HTR HL
      go_wp2_with fail
      go_quiet (fail)
      go_wp2_with fail
      go_roundw
      case rel=>exact ⟨m + 1,by omega,by go_num,HN.out,LX.out _ (BQ.out _)⟩
      case measure=>simp [intOf];omega
     ·have HMN:min (hb.length:Int) 1=1:=by omega
      have z1:(1:Int) ≤ (hc':Int):=by have q:=hcc;simp at q;omega
      have z2:(1:Int) ≤ (hb.length:Int):=by omega
      have hlt1:((hb.map UInt8.ofNat).take 1).length=1:=by simp;omega
      have HT1:RdB w2 w2.heap.size (.slice hA 1 hc') ((hb.map UInt8.ofNat).take 1):=RdB.take RD3.out 1 (by simp;omega)
      have EQ:=Lib.hid (fun W (hW:Below w2.heap.size w2 W)=>equal_by ((hb.map UInt8.ofNat).take 1) b (.slice hA 1 hc') (.slice (some ⟨g,o,none⟩) 1 c) W ((HT1.below hW).more hW.size) ((HRR2.out.below ((BX2.out W hW).mono BW2.out.size)).more (Nat.le_trans BW2.out.size (BX2.out W hW).size)) (by omega) (by rw [HL1.out];decide))
      have HC1:Hid (∀ y,y=(UInt8.ofNat (hb.getD 1 0)).toNat → hb.length=2 → ∃ g' o',hA=some ⟨g',o',none⟩∧g' < w2.heap.size∧∀ W,Below w2.heap.size w2 W → W.cell? ⟨g',o' + 1,none⟩=some (.int .u8 (y:Nat))):=Lib.hid (fun y hy h22=>by
       obtain ⟨g',o',hA',hg',hcel⟩:=RD3.out.get 1 (by rw [List.length_map];omega)
       have h4:=hcel 1 (by rw [List.length_map];omega)
       refine ⟨g',o',hA',hg',fun W hW=>?_⟩
       rw [hW.cell (p:=⟨g',o' + 1,none⟩) hg',h4,hy]
       congr 3
       unfold byteN
       rw [List.getD_eq_getElem?_getD,List.getD_eq_getElem?_getD,List.getElem?_map]
       obtain ⟨y,hy⟩:∃ y,hb[1]? = some y:=⟨hb[1],List.getElem?_eq_getElem (by omega)⟩
       rw [hy]
       rfl)
      have HHIT:Hid (hitB (hb,ht) b m=(decide ((hb.map UInt8.ofNat).take 1=b) && !(decide (hb.length=2) && decide ((UInt8.ofNat (hb.getD 1 0)).toNat ≠ m)))):=Lib.hid (by
       unfold hitB
       have e1:min hb.length b.length=1:=by rw [HL1.out];omega
       simp only [e1]
       rw [show b.take 1=b from List.take_of_length_le (by rw [HL1.out];exact Nat.le_refl _)]
       simp)
      clear HT1 hlt1 RD3 h0
      by_cases hq:(hb.map UInt8.ofNat).take 1=b
      ·rw [decide_eq_true hq] at EQ HHIT
       rw [Bool.true_and] at HHIT
       clear hq
       generalize hy:(UInt8.ofNat (hb.getD 1 0)).toNat=y at *
       by_cases h22:hb.length=2
       ·obtain ⟨g',o',rfl,hg',hcW⟩:=HC1.out y rfl h22
        have e5:((hb.length:Int) == 2)=true:=by rw [beq_iff_eq];omega
        have e7:(1:Int) < (hb.length:Int):=by omega
        have e6:=hcW _ BA.out
        clear hcW HC1 hy
        by_cases hym:y=m
        ·subst hym
         have e8:((y:Int) != (y:Int))=false:=by simp
         have HS:=Lib.hid (fun W=>size_x (some ⟨g',o',none⟩) hb.length hc' ht (by omega) ht3 W)
         have hsz:((if ht=1 ∨ ht=3 then hb.length + 1 else if ht=2 then hb.length + 2 else hb.length:Nat))=size86 (hb,ht):=rfl
         rw [hsz] at HS
         have h1s:1 < size86 (hb,ht):=by have:=size_lo86 (hb,ht);simp only at this;omega
         have HF:Hid (T=((0,0,0,0),0,2)):=Lib.hid (by
          rw [HTT.out,find_hit _ 256 y ((0,0,0,0),0,2) NO.out hmt (by rw [HTR.out];unfold tryH;rw [if_neg (by rw [HHIT.out];simp),if_pos (by rw [HL1.out];exact h1s)])]
          rfl)
         generalize size86 (hb,ht)=SZ at *
         clear HTR HL HHIT h22 hl1 hsz HTT NO
         go_wp2_with fail
         go_quiet ((go_at_call 105;exact Calls.quiet_of (EQ.out _ (BQ.out _))))
         go_wp2_with fail
         refine (HS.out _).mono ?_
         rintro e w3 ⟨rfl,hb3⟩
         have B23:=Lib.hid (bthen (BQ.out nq) hb3)
         have BX3:=Lib.hid (BX.out w3 B23.out)
         have C3:=Lib.hid ((B23.out.block w.heap.size Z2).trans C2.out)
         clear k0 k1 k2 k3 f0 f1 f2 f3
         have k0:=cell_of_heap (i:=0) C3.out
         have k1:=cell_of_heap (i:=1) C3.out
         have k2:=cell_of_heap (i:=2) C3.out
         have k3:=cell_of_heap (i:=3) C3.out
         have f0:=frozen_of_heap (i:=0) C3.out
         have f1:=frozen_of_heap (i:=1) C3.out
         have f2:=frozen_of_heap (i:=2) C3.out
         have f3:=frozen_of_heap (i:=3) C3.out
         simp at k0 k1 k2 k3 f0 f1 f2 f3
         go_wp2_with fail
         rw [HF.out]
         obtain ⟨m0,m1,m2,m3⟩:=four_set (W:=w3) (.int .i64 0) (.int .i64 0) (.int .i64 0) (.int .u16 0) C3.out
         refine bodyPost_ret (v:=.tuple #[.agg #[.int .i64 0,.int .i64 0,.int .i64 0,.int .u16 0],.int .i64 0,.int .i64 2]) (by simp [results,Tryz.results61,go_sem,m0,m1,m2,m3]) rfl ⟨rfl,?_⟩
         exact (((BX3.out.setCell (by simp) _).setCell (by simp) _).setCell (by simp) _).setCell (by simp) _
        ·have e8:((y:Int) != (m:Int))=true:=by rw [bne_iff_ne];omega
         have HN:Hid (∀ j,j < m + 1 → try86 b j=none):=Lib.hid (fun j hj=>by
          by_cases hjm:j=m
          ·subst hjm;rw [HTR.out];unfold tryH;rw [if_pos (by rw [HHIT.out];simp [h22,hym])]
          ·exact NO.out j (by omega))
         clear HTR HL HHIT h22 hl1 hym
         go_wp2_with fail
         go_quiet ((go_at_call 105;exact Calls.quiet_of (EQ.out _ (BQ.out _))))
         go_wp2_with fail
         go_roundw
         case rel=>exact ⟨m + 1,by omega,by go_num,HN.out,LX.out _ (BQ.out _)⟩
         case measure=>simp [intOf];omega
       ·have e5:((hb.length:Int) == 2)=false:=by rw [beq_eq_false_iff_ne];omega
        have h11:hb.length=1:=by omega
        have HS:=Lib.hid (fun W=>size_x hA hb.length hc' ht (by omega) ht3 W)
        have hsz:((if ht=1 ∨ ht=3 then hb.length + 1 else if ht=2 then hb.length + 2 else hb.length:Nat))=size86 (hb,ht):=rfl
        rw [hsz] at HS
        clear HC1 hy
        by_cases h1s:1 < size86 (hb,ht)
        ·have HF:Hid (T=((0,0,0,0),0,2)):=Lib.hid (by
          rw [HTT.out,find_hit _ 256 m ((0,0,0,0),0,2) NO.out hmt (by rw [HTR.out];unfold tryH;rw [if_neg (by rw [HHIT.out];simp [h22]),if_pos (by rw [HL1.out];exact h1s)])]
          rfl)
         generalize size86 (hb,ht)=SZ at *
         clear HTR HL HHIT h22 hl1 hsz HTT NO h11
         go_wp2_with fail
         go_quiet ((go_at_call 105;exact Calls.quiet_of (EQ.out _ (BQ.out _))))
         go_wp2_with fail
         refine (HS.out _).mono ?_
         rintro e w3 ⟨rfl,hb3⟩
         have B23:=Lib.hid (bthen (BQ.out nq) hb3)
         have BX3:=Lib.hid (BX.out w3 B23.out)
         have C3:=Lib.hid ((B23.out.block w.heap.size Z2).trans C2.out)
         clear k0 k1 k2 k3 f0 f1 f2 f3
         have k0:=cell_of_heap (i:=0) C3.out
         have k1:=cell_of_heap (i:=1) C3.out
         have k2:=cell_of_heap (i:=2) C3.out
         have k3:=cell_of_heap (i:=3) C3.out
         have f0:=frozen_of_heap (i:=0) C3.out
         have f1:=frozen_of_heap (i:=1) C3.out
         have f2:=frozen_of_heap (i:=2) C3.out
         have f3:=frozen_of_heap (i:=3) C3.out
         simp at k0 k1 k2 k3 f0 f1 f2 f3
         go_wp2_with fail
         rw [HF.out]
         obtain ⟨m0,m1,m2,m3⟩:=four_set (W:=w3) (.int .i64 0) (.int .i64 0) (.int .i64 0) (.int .u16 0) C3.out
         refine bodyPost_ret (v:=.tuple #[.agg #[.int .i64 0,.int .i64 0,.int .i64 0,.int .u16 0],.int .i64 0,.int .i64 2]) (by simp [results,Tryz.results61,go_sem,m0,m1,m2,m3]) rfl ⟨rfl,?_⟩
         exact (((BX3.out.setCell (by simp) _).setCell (by simp) _).setCell (by simp) _).setCell (by simp) _
        ·have ht4:ht=0 ∨ ht=1 ∨ ht=2 ∨ ht=3:=by omega
         have hS1:size86 (hb,ht)=1:=by have:=size_lo86 (hb,ht);simp only at this;omega
         have HT0:Hid (ht=0):=Lib.hid (by
          rcases ht4 with rfl | rfl | rfl | rfl
          ·rfl
          ·exfalso;simp [size86,h11] at hS1
          ·exfalso;simp [size86,h11] at hS1
          ·exfalso;simp [size86,h11] at hS1)
         have HT2:Hid (T=((op,d,s,tailN (hb,ht) b),size86 (hb,ht),0)):=Lib.hid (by
          rw [HTT.out,find_hit _ 256 m ((op,d,s,tailN (hb,ht) b),size86 (hb,ht),0) NO.out hmt (by rw [HTR.out];unfold tryH;rw [if_neg (by rw [HHIT.out];simp [h22]),if_neg (by rw [HL1.out];exact h1s)])]
          rfl)
         have hsz4:(hb.length:Int) ≤ (size86 (hb,ht):Int):=by have:=size_lo86 (hb,ht);simp only at this;omega
         have hsz5:(size86 (hb,ht):Int) ≤ (c:Int):=by omega
         have hsz2:decide ((1:Int) < (size86 (hb,ht):Int))=false:=by simp;omega
         clear HTR HL HHIT h22 hl1 hsz HTT NO hS1 h1s ht4 h11
         generalize size86 (hb,ht)=SZ at *
         go_wp2_with fail
         go_quiet ((go_at_call 105;exact Calls.quiet_of (EQ.out _ (BQ.out _))))
         go_wp2_with fail
         refine (HS.out _).mono ?_
         rintro e w3 ⟨rfl,hb3⟩
         have B23:=Lib.hid (bthen (BQ.out nq) hb3)
         have BX3:=Lib.hid (BX.out w3 B23.out)
         have C3:=Lib.hid ((B23.out.block w.heap.size Z2).trans C2.out)
         clear k0 k1 k2 k3 f0 f1 f2 f3
         have k0:=cell_of_heap (i:=0) C3.out
         have k1:=cell_of_heap (i:=1) C3.out
         have k2:=cell_of_heap (i:=2) C3.out
         have k3:=cell_of_heap (i:=3) C3.out
         have f0:=frozen_of_heap (i:=0) C3.out
         have f1:=frozen_of_heap (i:=1) C3.out
         have f2:=frozen_of_heap (i:=2) C3.out
         have f3:=frozen_of_heap (i:=3) C3.out
         simp at k0 k1 k2 k3 f0 f1 f2 f3
         have H3:=Lib.hid ((hb3.block w2.heap.size (by simp)).trans (heap_alloc_new w2 (.cells #[.slice hA hb.length hc',.int .i64 (ht:Int)] 132)))
         have R3:=Lib.hid (HRR.out.below BX3.out)
         have Z3:=lt_of_heap C3.out
         have Y3:=lt_of_heap H3.out
         have j0:=cell_of_heap (i:=0) H3.out
         have j1:=cell_of_heap (i:=1) H3.out
         simp at j0 j1
         clear hb3
         go_wp2_with fail
         have B4:=Lib.hid (BX3.out.alloc BX3.out.size (.cells #[.int .i64 (op:Int),.int .i64 (d:Int),.int .i64 (s:Int),.int .u16 0] 94))
         have C4:=Lib.hid ((Below.heap_alloc w3 (.cells #[.int .i64 (op:Int),.int .i64 (d:Int),.int .i64 (s:Int),.int .u16 0] 94) w.heap.size Z3).trans C3.out)
         have H4:=Lib.hid ((Below.heap_alloc w3 (.cells #[.int .i64 (op:Int),.int .i64 (d:Int),.int .i64 (s:Int),.int .u16 0] 94) w2.heap.size Y3).trans H3.out)
         have D4:=Lib.hid (heap_alloc_new w3 (.cells #[.int .i64 (op:Int),.int .i64 (d:Int),.int .i64 (s:Int),.int .u16 0] 94))
         have R4:=Lib.hid (HRR.out.below B4.out)
         have hI:w2.heap.size < w3.heap.size:=Y3
         have hI2:w3.heap.size < (w3.alloc (.cells #[.int .i64 (op:Int),.int .i64 (d:Int),.int .i64 (s:Int),.int .u16 0] 94)).heap.size:=by simp
         have hI3:w.heap.size < w2.heap.size:=Z2
         clear k0 k1 k2 k3 f0 f1 f2 f3 j0 j1
         generalize w3.alloc (.cells #[.int .i64 (op:Int),.int .i64 (d:Int),.int .i64 (s:Int),.int .u16 0] 94)=w4 at *
         generalize w3.heap.size=I at *
         generalize w2.heap.size=J at *
         clear BX3 C3 H3 R3 Z3 Y3 B23 C2 Z2 B2 BX LX BX2 EQ BQ BA Y2
         have j0:=cell_of_heap (i:=0) H4.out
         have j1:=cell_of_heap (i:=1) H4.out
         simp at j0 j1
         have HSB:Hid (∀ W,Below w4.heap.size w4 W → W.cell? ⟨J,0,none⟩=some (.slice hA hb.length hc') → W.cell? ⟨J,1,none⟩=some (.int .i64 (ht:Int)) → Calls Tryz.prog 106 #[.agg #[.slice hA hb.length hc',.int .i64 (ht:Int)]] W fun e w'=>e=.returned (.int .i64 (SZ:Int))∧Below W.heap.size W w'∧Below w4.heap.size w4 w'∧J < W.heap.size∧w'.cell? ⟨J,0,none⟩=some (.slice hA hb.length hc')∧w'.cell? ⟨J,1,none⟩=some (.int .i64 (ht:Int))):=Lib.hid (fun W hW hz hz1=>(HS.out W).mono fun _ _ h=>by
          have hlt:=World.block_lt_of_cell? _ _ hz
          exact ⟨h.1,h.2,bthen hW h.2,hlt,(h.2.cell (p:=⟨J,0,none⟩) hlt).trans hz,(h.2.cell (p:=⟨J,1,none⟩) hlt).trans hz1⟩)
         have hB0:Below w4.heap.size w4 w4.drew:=(Below.refl _ _).drew
         go_region_held3 (fun w'=>w'.cell? ⟨J,0,none⟩=some (.slice hA hb.length hc')∧w'.cell? ⟨J,1,none⟩=some (.int .i64 (ht:Int))∧Below w4.heap.size w4 w')
          (first | (go_keep;done) | (refine ⟨?_,?_,?_⟩ <;> first | assumption | go_keep)) (first | (go_at_call 106;go_split_ands;(with_reducible refine (HSB.out _ ?_ ?_ ?_).mono ?_);(assumption);(assumption);(assumption);rintro e5 w5 ⟨rfl,hb5,hbw5,hz5,hj0,hj1⟩;obtain ⟨hcc,hff⟩:=bcell hb5;obtain ⟨hcw,hfw⟩:=bcell hbw5))
         have B5:=Lib.hid (B4.out.trans (hbw5.mono B4.out.size))
         have C5:=Lib.hid ((hbw5.block w.heap.size (by omega)).trans C4.out)
         have D5:=Lib.hid ((hbw5.block I (by omega)).trans D4.out)
         have H5:=Lib.hid ((hbw5.block J (by omega)).trans H4.out)
         have R5:=Lib.hid (HRR.out.below B5.out)
         have zI:I < w5.heap.size:=lt_of_heap D5.out
         clear hcc hff hcw hfw hb5 hbw5 hj0 hj1 hz5 j0 j1 HSB hB0 B4 C4 H4 D4 R4 hI2
         have j0:=cell_of_heap (i:=0) H5.out
         have j1:=cell_of_heap (i:=1) H5.out
         have i0:=cell_of_heap (i:=0) D5.out
         have i1:=cell_of_heap (i:=1) D5.out
         have i2:=cell_of_heap (i:=2) D5.out
         have i3:=cell_of_heap (i:=3) D5.out
         have ff3:=frozen_of_heap (i:=3) D5.out
         simp at j0 j1 i0 i1 i2 i3 ff3
         obtain rfl:=HT0.out
         generalize (if c=hb.length then (some (⟨g,o,none⟩:Addr)) else some ⟨g,o + hb.length,none⟩)=tA
         have HTL:Hid (((0:Nat):Int)=((tailN (hb,0) b:Nat):Int)):=Lib.hid (by simp [tailN])
         go_wp2_with fail
         have zI5:I < w5.heap.size:=lt_of_heap D5.out
         have zR5:w.heap.size < w5.heap.size:=by omega
         go_region_law (go_simp;go_at_call 106;refine (HS.out _).mono ?_;rintro e w6 ⟨rfl,hb6⟩;have y0:=(hb6.cell (p:=⟨I,0,none⟩) zI5).trans i0;have y1:=(hb6.cell (p:=⟨I,1,none⟩) zI5).trans i1;have y2:=(hb6.cell (p:=⟨I,2,none⟩) zI5).trans i2;have y3:=(hb6.cell (p:=⟨I,3,none⟩) zI5).trans i3;have C6:=(hb6.block w.heap.size zR5).trans C5.out;have u0:=cell_of_heap (i:=0) C6;have u1:=cell_of_heap (i:=1) C6;have u2:=cell_of_heap (i:=2) C6;have u3:=cell_of_heap (i:=3) C6;have v0:=frozen_of_heap (i:=0) C6;have v1:=frozen_of_heap (i:=1) C6;have v2:=frozen_of_heap (i:=2) C6;have v3:=frozen_of_heap (i:=3) C6;simp at u0 u1 u2 u3 v0 v1 v2 v3)
         all_goals (
          have BW6:=Lib.hid (bthen B5.out.drew hb6)
          go_simp
          go_wp2_with fail
          rw [HT2.out]
          obtain ⟨m0,m1,m2,m3⟩:=four_set (W:=w6) (.int .i64 (op:Int)) (.int .i64 (d:Int)) (.int .i64 (s:Int)) (.int .u16 0) C6
          refine bodyPost_ret (v:=.tuple #[.agg #[.int .i64 (op:Int),.int .i64 (d:Int),.int .i64 (s:Int),.int .u16 0],.int .i64 (SZ:Int),.int .i64 0]) (by simp [results,Tryz.results61,go_sem,m0,m1,m2,m3]) rfl ⟨(by rw [← HTL.out];rfl),?_⟩
          exact (((BW6.out.setCell (by simp) _).setCell (by simp) _).setCell (by simp) _).setCell (by simp) _)
      ·rw [decide_eq_false hq] at EQ HHIT
       have HN:Hid (∀ j,j < m + 1 → try86 b j=none):=Lib.hid (fun j hj=>by
        by_cases hjm:j=m
        ·subst hjm;rw [HTR.out];unfold tryH;rw [if_pos (by rw [HHIT.out];rfl)]
        ·exact NO.out j (by omega))
       clear HTR HL HHIT hl1 hq HC1
       go_wp2_with fail
       go_quiet ((go_at_call 105;exact Calls.quiet_of (EQ.out _ (BQ.out _))))
       go_wp2_with fail
       go_roundw
       case rel=>exact ⟨m + 1,by omega,by go_num,HN.out,LX.out _ (BQ.out _)⟩
       case measure=>simp [intOf];omega
    ·obtain rfl:m=256:=by omega
     have HF:Hid (T=((0,0,0,0),0,12)):=Lib.hid (by rw [HTT.out,find_none _ 256 NO.out];rfl)
     clear HTT NO HG HTE HGL
     have k0:=cell_of_heap (i:=0) CB.out
     have k1:=cell_of_heap (i:=1) CB.out
     have k2:=cell_of_heap (i:=2) CB.out
     have k3:=cell_of_heap (i:=3) CB.out
     have f0:=frozen_of_heap (i:=0) CB.out
     have f1:=frozen_of_heap (i:=1) CB.out
     have f2:=frozen_of_heap (i:=2) CB.out
     have f3:=frozen_of_heap (i:=3) CB.out
     simp at k0 k1 k2 k3 f0 f1 f2 f3
     go_wp2_with fail
     rw [HF.out]
     obtain ⟨m0,m1,m2,m3⟩:=four_set (W:=wr) (.int .i64 0) (.int .i64 0) (.int .i64 0) (.int .u16 0) CB.out
     refine bodyPost_ret (v:=.tuple #[.agg #[.int .i64 0,.int .i64 0,.int .i64 0,.int .u16 0],.int .i64 0,.int .i64 12]) (by simp [results,Tryz.results61,go_sem,m0,m1,m2,m3]) rfl ⟨rfl,?_⟩
     exact (((BW2.out.setCell (by simp) _).setCell (by simp) _).setCell (by simp) _).setCell (by simp) _
end Go.Proofs.YtagplldaooipmaaGreatDoor
