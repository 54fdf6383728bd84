/- Xl10. -/
import Derived.Test.YtbdnbfacalfciaaGreatDoorXl9
import Derived.Test.YtbdnbfacalfciaaGreatDoorXp
import Derived.Test.YtbdnbfacalfciaaGreatDoorXg
import Derived.Test.YtbdnbfacalfciaaGreatDoorXm
import Derived.Test.YtbdnbfacalfciaaGreatDoorXl
import Derived.BigRegion
namespace Go.Proofs.YtbdnbfacalfciaaGreatDoor
open Go.RowKit
def leL:List UInt8->Nat
 | []=>0
 | x :: r=>x.toNat+256 * leL r
def ndL (l:Lin):Nd:=⟨l.pl,opL0 l,leL (l.b.drop 1)⟩
def nodesL (ls:List Lin):List Nd:=(ls.filter (·.kind == 1)).map ndL
def codeX (t:Tb) (has:List Nat):List (List UInt8):=(t.filter fun x=>x.2.2 == 1 && decide (x.2.1∈has)).map (·.1)
structure LnRd (l:Lin):Prop where
 b1:l.kind=1->0<l.b.length
 b3:l.b.length<=3
 p1:l.pl<=65535
theorem or_le (N x:Nat) (hN:N<256) (hx:x<256):bits BinOp.or IntKind.u16 (IntKind.u16.wrap ((N:Int) * 256)) (IntKind.u16.wrap (x:Int))=((x+256 * N:Nat):Int):=by
 have h:=u16_shl_or N x hN hx
 rw [IntKind.wrap_u16,IntKind.wrap_u16,show ((N:Int) * 256) % 65536=((N * 256:Nat):Int) by omega,show ((x:Int)) % 65536=(x:Int) by omega,h]
 congr 1
 omega
theorem leL_one (b:List UInt8) (h:b.length<=1):leL b<256:=by
 match b,h with
 | [],_=>simp [leL]
 | [x],_=>have:=UInt8.toNat_lt x;simp [leL];omega
theorem info_nd:(Tryz.prog.info? 58).map (fun i=>(i.zero,i.size,i.bytes))=some (some (.agg #[.int .u16 0,.int .u8 0,.int .u16 0]),3,6):=by kernel_rfl
theorem nodesL_take (ls:List Lin) (k:Nat) (hk:k<ls.length):nodesL (ls.take (k+1))=nodesL (ls.take k)++(if ls[k].kind=1 then [ndL ls[k]] else []):=by
 unfold nodesL
 rw [List.take_succ_eq_append_getElem hk,List.filter_append,List.map_append]
 congr 1
 by_cases h:ls[k].kind=1 <;> simp [h]
theorem nodesL_few (ls:List Lin):(nodesL ls).length<=ls.length:=by
 unfold nodesL
 rw [List.length_map]
 exact List.length_filter_le _ _
theorem codeX_take (ts:Tb) (has:List Nat) (k:Nat) (hk:k<ts.length):codeX (ts.take (k+1)) has=codeX (ts.take k) has++(if ts[k].2.2=1/\ts[k].2.1∈has then [ts[k].1] else []):=by
 unfold codeX
 rw [List.take_succ_eq_append_getElem hk,List.filter_append,List.map_append]
 congr 1
 by_cases h:ts[k].2.2=1 <;> by_cases h2:ts[k].2.1∈has <;> simp [h,h2]
theorem codeX_perm {a b:Tb} (h:a.Perm b) (has:List Nat):(codeX a has).Perm (codeX b has):=(h.filter _).map _
theorem codeX_few (a:Tb) (has:List Nat):(codeX a has).length<=a.length:=by
 unfold codeX
 rw [List.length_map]
 exact List.length_filter_le _ _
theorem symRow_get (l:Tb):∀ i (hi:i<l.length) j u,(symCells l[i])[j]? = some u->(l.flatMap symCells)[i * 3+j]? = some u:=by
 induction l with
 | nil=>intro i hi;simp at hi
 | cons a l ih=>
  intro i hi j u hu
  cases i with
  | zero=>
   have hj:j<(symCells a).length:=(List.getElem?_eq_some_iff.1 hu).1
   simp only [List.flatMap_cons,Nat.zero_mul,Nat.zero_add]
   rw [List.getElem?_append_left hj]
   exact hu
  | succ i=>
   have h1:=ih i (by simpa using hi) j u hu
   simp only [List.flatMap_cons] at h1 ⊢
   rw [List.getElem?_append_right (by show 3<=_;omega),show (i+1) * 3+j - (symCells a).length=i * 3+j by show (i+1) * 3+j - 3=_;omega]
   exact h1
theorem sym_get {w:World} {base:Nat} {A:Option Addr} {n c:Nat} {l:Tb} (h:w.ownsRow base 115 3 (.slice A n c) l.length (l.flatMap symCells)) (i:Nat) (hi:i<l.length) :
  ∃ g o,A=some ⟨g,o,none⟩/\g<w.heap.size/\w.cell? ⟨g,o+i * 3,none⟩=some (.string ⟨l[i].1.toArray⟩)/\w.cell? ⟨g,o+i * 3+1,none⟩=some (.int .u16 (l[i].2.1:Nat))/\w.cell? ⟨g,o+i * 3+2,none⟩=some (.int .i64 (l[i].2.2:Nat)):=by
 obtain ⟨A',c',h1,h2,h3⟩:=Rd.of_own h
 injection h1 with h1 _ _
 subst h1
 obtain ⟨g,o,g1,g2,g3⟩:=h3 (by omega)
 have G:=fun j u hu=>g3 _ _ (symRow_get l i hi j u hu)
 exact ⟨g,o,g1,g2,G 0 _ rfl,G 1 _ rfl,G 2 _ rfl⟩
set_option maxHeartbeats 4000000 in
set_option maxRecDepth 100000 in
theorem read_loop (pa:Option Addr) (entry:Nat) (sA:Option Addr) (sn sc:Nat) (lv:Value) (uA:Option Addr) (un uc:Nat) (rA:Option Addr) (rn rc:Nat) (ls:List Lin) (syms:Tb) (w:World)
  (hls:LnR w w.heap.size lv ls) (hsy:SyRow w 0 (.slice sA sn sc) syms) (hok:∀ l∈ls,LnRd l) (hl:ls.length<=12) (hr:Rise (nodesL ls)) (hst:syms.length<=1000/\∀ x∈syms,x.1.length<=1000/\x.2.1<=65535) :
  Calls Tryz.prog 10 #[.agg #[.pointer pa,.int .u16 (entry:Nat),.slice sA sn sc,lv,.slice uA un uc],.slice rA rn rc] w fun e w'=>∃ p hb cb nv,e=.returned (.pointer (some ⟨p,0,none⟩))/\PrgAt w' p (.pointer pa) entry (.slice sA sn sc) lv (.slice uA un uc) nv hb cb (.slice rA rn rc)/\NdR w' w'.heap.size nv (nodesL ls) /\
   SetU w' hb ((nodesL ls).map (·.pl))/\(∃ code,SetS w' cb code/\∀ s,s∈code ↔ s∈codeX syms ((nodesL ls).map (·.pl)))/\Below w.heap.size w w':=by
 obtain ⟨LA,lc,rfl,hlc⟩:=hls.form
 have HLS:=LH hls
 have HSY:=LH hsy
 have HOK:=LH hok
 have HR:=LH hr
 have HST:=LH hst
 have HL12:=LH hl
 have hmk:=@run_makeMap Tryz.prog
 clear hls hsy hok hr hst
 obtain ⟨q0,q1,q2,q3,hb4,hz4⟩:=new4 w (.cells #[.pointer pa,.int .u16 (entry:Nat),.slice sA sn sc,.slice LA ls.length lc,.slice uA un uc] 40) (.map #[] 0) (.map #[] 0) (.cells #[.pointer pa,.int .u16 (entry:Nat),.slice sA sn sc,.slice LA ls.length lc,.slice uA un uc,.slice none 0 0,.map (some (w.heap.size+1)),.map (some (w.heap.size+1+1)),.slice rA rn rc] 54)
 have Q0:=LH q0
 have Q3:=LH q3
 have B4:=LH hb4
 have Z4:=LH hz4
 have S1:Hid (SetU ((((w.alloc (.cells #[.pointer pa,.int .u16 (entry:Nat),.slice sA sn sc,.slice LA ls.length lc,.slice uA un uc] 40)).alloc (.map #[] 0)).alloc (.map #[] 0)).alloc (.cells #[.pointer pa,.int .u16 (entry:Nat),.slice sA sn sc,.slice LA ls.length lc,.slice uA un uc,.slice none 0 0,.map (some (w.heap.size+1)),.map (some (w.heap.size+1+1)),.slice rA rn rc] 54)) (w.heap.size+1) []):=LH (by
  have h1:=SetF.made (α:=Nat) litU 22 (w.alloc (.cells #[.pointer pa,.int .u16 (entry:Nat),.slice sA sn sc,.slice LA ls.length lc,.slice uA un uc] 40))
  rw [show (w.alloc (.cells #[.pointer pa,.int .u16 (entry:Nat),.slice sA sn sc,.slice LA ls.length lc,.slice uA un uc] 40)).heap.size=w.heap.size+1 by simp] at h1
  exact h1.keep ((Below.heap_alloc _ _ _ (by simp)).trans (Below.heap_alloc _ _ _ (by simp))))
 have S2:Hid (SetS ((((w.alloc (.cells #[.pointer pa,.int .u16 (entry:Nat),.slice sA sn sc,.slice LA ls.length lc,.slice uA un uc] 40)).alloc (.map #[] 0)).alloc (.map #[] 0)).alloc (.cells #[.pointer pa,.int .u16 (entry:Nat),.slice sA sn sc,.slice LA ls.length lc,.slice uA un uc,.slice none 0 0,.map (some (w.heap.size+1)),.map (some (w.heap.size+1+1)),.slice rA rn rc] 54)) (w.heap.size+1+1) []):=LH (by
  have h1:=SetF.made (α:=List UInt8) litS 9 ((w.alloc (.cells #[.pointer pa,.int .u16 (entry:Nat),.slice sA sn sc,.slice LA ls.length lc,.slice uA un uc] 40)).alloc (.map #[] 0))
  rw [show ((w.alloc (.cells #[.pointer pa,.int .u16 (entry:Nat),.slice sA sn sc,.slice LA ls.length lc,.slice uA un uc] 40)).alloc (.map #[] 0)).heap.size=w.heap.size+1+1 by simp] at h1
  exact h1.keep (Below.heap_alloc _ _ _ (by simp)))
 clear q0 q1 q2 q3 hb4 hz4
 go_enter Tryz.func10, Tryz.ntmps10
 go_wp2_with fail
 generalize hw4:(((w.alloc (.cells #[.pointer pa,.int .u16 (entry:Nat),.slice sA sn sc,.slice LA ls.length lc,.slice uA un uc] 40)).alloc (.map #[] 0)).alloc (.map #[] 0)).alloc (.cells #[.pointer pa,.int .u16 (entry:Nat),.slice sA sn sc,.slice LA ls.length lc,.slice uA un uc,.slice none 0 0,.map (some (w.heap.size+1)),.map (some (w.heap.size+1+1)),.slice rA rn rc] 54)=w4 at *
 clear hw4
 go_loopw [21] (fun i wr=>∃ (k:Nat) (nv:Value),k<=ls.length/\i=.int .i64 k/\Below w.heap.size w wr/\wr.heap[w.heap.size]? = some (.cells #[.pointer pa,.int .u16 (entry:Nat),.slice sA sn sc,.slice LA ls.length lc,.slice uA un uc] 40 (0,0)) /\
  PrgAt wr (w.heap.size+1+1+1) (.pointer pa) entry (.slice sA sn sc) (.slice LA ls.length lc) (.slice uA un uc) nv (w.heap.size+1) (w.heap.size+1+1) (.slice rA rn rc)/\wr.ownsRow (w.heap.size+4) 58 3 nv (nodesL (ls.take k)).length (rowN (nodesL (ls.take k))) /\
  SetU wr (w.heap.size+1) ((nodesL (ls.take k)).map (·.pl))/\SetS wr (w.heap.size+1+1) []) (fun i _=>ls.length - (intOf i).toNat)
 case atStart=>exact ⟨0,.slice none 0 0,Nat.zero_le _,rfl,B4.out,Q0.out,Q3.out,World.ownsRow_nil _ _ _ _,S1.out,S2.out⟩
 case round=>
  obtain ⟨k,nv,hk,rfl,hb,hq0,hprg,hown,hs1,hs2⟩:=hrel
  have HB:=LH hb
  have HQ0:=LH hq0
  have HPRG:=LH hprg
  have HOW:=LH hown
  have HS1:=LH hs1
  have HS2:=LH hs2
  have hsz:=hb.size
  have hplt:=loh hprg
  by_cases hlt:k<ls.length
  ·have i1:(k:Int)<(ls.length:Int):=by omega
   have HTK:=LH (nodesL_take ls k hlt)
   have hlo:=HOK.out _ (List.getElem_mem hlt)
   obtain ⟨g,o,bA,bc,tA,tc,rfl,hg,a0,a1,a2,a3,a4,a5,a6,a7,a8,hby⟩:=HLS.out.get k hlt
   have d0:=(hb.cell (p:=⟨g,o+k * 9,none⟩) hg).trans a0
   have d1:=(hb.cell (p:=⟨g,o+k * 9+1,none⟩) hg).trans a1
   have d2:=(hb.cell (p:=⟨g,o+k * 9+2,none⟩) hg).trans a2
   have d3:=(hb.cell (p:=⟨g,o+k * 9+3,none⟩) hg).trans a3
   have d4:=(hb.cell (p:=⟨g,o+k * 9+4,none⟩) hg).trans a4
   have d5:=(hb.cell (p:=⟨g,o+k * 9+5,none⟩) hg).trans a5
   have d6:=(hb.cell (p:=⟨g,o+k * 9+6,none⟩) hg).trans a6
   have d7:=(hb.cell (p:=⟨g,o+k * 9+7,none⟩) hg).trans a7
   have d8:=(hb.cell (p:=⟨g,o+k * 9+8,none⟩) hg).trans a8
   have HBY:=LH hby
   generalize ls[k]=x at *
   obtain ⟨n,pl,kind,b,v,e⟩:=x
   simp only at d0 d1 d2 d3 d4 d5 d6 d7 d8
   clear a0 a1 a2 a3 a4 a5 a6 a7 a8 hby hb hq0 hprg hown hs1 hs2
   by_cases hk1:kind=1
   ·obtain ⟨lb1,lb3,lp1⟩:=hlo
    simp only at hk1 lb1 lb3 lp1
    subst hk1
    have hbl:=lb1 rfl
    obtain ⟨gb,ob,rfl,e2,e3⟩:=HBY.out hbl
    simp only at e3
    have BL:=LH (HB.out.alloc hsz (.cells #[.int .i64 (n:Nat),.int .u16 (pl:Nat),.int .i64 1,.slice (some ⟨gb,ob,none⟩) b.length bc,.int .u16 (v:Nat),.string ⟨e.op.toArray⟩,.int .u16 (e.n:Nat),.string ⟨e.name.toArray⟩,.slice tA e.sub.length tc] 109))
    have BA:=LH ((Below.refl wr.heap.size wr).alloc (Nat.le_refl _) (.cells #[.int .i64 (n:Nat),.int .u16 (pl:Nat),.int .i64 1,.slice (some ⟨gb,ob,none⟩) b.length bc,.int .u16 (v:Nat),.string ⟨e.op.toArray⟩,.int .u16 (e.n:Nat),.string ⟨e.name.toArray⟩,.slice tA e.sub.length tc] 109))
    have NL:=LH (heap_alloc_new wr (.cells #[.int .i64 (n:Nat),.int .u16 (pl:Nat),.int .i64 1,.slice (some ⟨gb,ob,none⟩) b.length bc,.int .u16 (v:Nat),.string ⟨e.op.toArray⟩,.int .u16 (e.n:Nat),.string ⟨e.name.toArray⟩,.slice tA e.sub.length tc] 109))
    have HZ1:=LH (show (wr.alloc (.cells #[.int .i64 (n:Nat),.int .u16 (pl:Nat),.int .i64 1,.slice (some ⟨gb,ob,none⟩) b.length bc,.int .u16 (v:Nat),.string ⟨e.op.toArray⟩,.int .u16 (e.n:Nat),.string ⟨e.name.toArray⟩,.slice tA e.sub.length tc] 109)).heap.size=wr.heap.size+1 by simp)
    have E3:=LH (fun j (hj:j<b.length)=>(BL.out.cell (p:=⟨gb,ob+j,none⟩) e2).trans (e3 j hj))
    have HND:Hid (ndL ⟨n,pl,1,b,v,e⟩=⟨pl,(b.getD 0 0).toNat,leL (b.drop 1)⟩):=LH rfl
    generalize ndL ⟨n,pl,1,b,v,e⟩=nd at *
    go_wp2_with fail
    clear d0 d1 d2 d3 d4 d5 d6 d7 d8 e3 lb1 HBY
    generalize hw1:wr.alloc (.cells #[.int .i64 (n:Nat),.int .u16 (pl:Nat),.int .i64 1,.slice (some ⟨gb,ob,none⟩) b.length bc,.int .u16 (v:Nat),.string ⟨e.op.toArray⟩,.int .u16 (e.n:Nat),.string ⟨e.name.toArray⟩,.slice tA e.sub.length tc] 109)=w1 at *
    clear hw1
    have HQ1:=LH ((BA.out.block _ (loh HQ0.out)).trans HQ0.out)
    have HP1:=LH (HPRG.out.at BA.out)
    have HO1:=LH (row_keep HOW.out (fun q hq=>BA.out.block q (HOW.out.lt q hq).2))
    have HT1:=LH (SetF.bel HS1.out BA.out)
    have HT2:=LH (SetF.bel HS2.out BA.out)
    have hLB:w.heap.size+4<=wr.heap.size:=by omega
    have hgb:gb<wr.heap.size:=by omega
    clear HQ0 HPRG HOW HS1 HS2 HB BA hsz hplt
    generalize wr.heap.size=LB at *
    clear wr
    have m1:=coh (i:=1) NL.out
    have m3:=coh (i:=3) NL.out
    simp at m1 m3
    have i2:(0:Int)<(b.length:Int):=by omega
    have y0:=E3.out 0 hbl
    rw [Nat.add_zero] at y0
    unfold bv at y0
    have m1a:=fun o1=>new_keep (o:=o1) m1
    have m3a:=fun o1=>new_keep (o:=o1) m3
    have y0a:=fun o1=>new_keep (o:=o1) y0
    go_region
    clear m1a m3a y0a m1 m3 y0
    have BN:=LH (((Below.refl w1.heap.size w1).alloc (Nat.le_refl _) (.cells #[.int .u16 (pl:Nat),.int .u8 (b[0].toNat:Nat),.int .u16 0] 58)).drew)
    have N0:=LH (show ((w1.alloc (.cells #[.int .u16 (pl:Nat),.int .u8 (b[0].toNat:Nat),.int .u16 0] 58)).drew).heap[w1.heap.size]? = some (.cells #[.int .u16 (pl:Nat),.int .u8 (b[0].toNat:Nat),.int .u16 0] 58 (0,0)) from heap_alloc_new w1 _)
    generalize (w1.alloc (.cells #[.int .u16 (pl:Nat),.int .u8 (b[0].toNat:Nat),.int .u16 0] 58)).drew=w2 at *
    have m3:=coh (i:=3) ((BN.out.block LB (loh NL.out)).trans NL.out)
    simp at m3
    have i3:IntKind.i64.wrap ((b.length:Int) - 1)=((b.length - 1:Nat):Int):=by rw [IntWalk.i64_in _ (by omega)];omega
    go_wp2_with fail
    go_loopw [9] (fun iv ws=>∃ j:Nat,j<=b.length - 1/\iv=.int .i64 j/\Below w1.heap.size w1 ws/\ws.heap[w1.heap.size]? = some (.cells #[.int .u16 (pl:Nat),.int .u8 (b[0].toNat:Nat),.int .u16 (leL (b.drop (j+1)):Nat)] 58 (0,0))) (fun iv _=>(intOf iv).toNat)
    case atStart=>exact ⟨b.length - 1,Nat.le_refl _,rfl,BN.out,by rw [List.drop_of_length_le (by omega)];exact N0.out⟩
    case round=>
     obtain ⟨j,hj,rfl,hbs,hns⟩:=hrel
     have HBS:=LH hbs
     have HNS:=LH hns
     by_cases hj0:0<j
     ·have j1:(0:Int)<(j:Int):=by omega
      have j2:(j:Int)<(b.length:Int):=by omega
      have yj:=(hbs.cell (p:=⟨gb,ob+j,none⟩) (by have:=HZ1.out;show gb<w1.heap.size;omega)).trans (E3.out j (by omega))
      have mm3:=coh (i:=3) ((hbs.block LB (loh NL.out)).trans NL.out)
      have n2:=coh (i:=2) hns
      have f2:=foh (i:=2) hns
      simp at mm3 n2 f2
      unfold bv at yj
      go_wp2_with fail
      have HST2:Hid (bits BinOp.or IntKind.u16 (IntKind.u16.wrap (((leL (b.drop (j+1)):Nat):Int) * 256)) (IntKind.u16.wrap ((b[j].toNat:Nat):Int))=((leL (b.drop j):Nat):Int)):=LH (by
       have h1:b.drop j=b[j] :: b.drop (j+1):=List.drop_eq_getElem_cons (by omega)
       rw [h1,leL,or_le _ _ (leL_one _ (by rw [List.length_drop];omega)) (UInt8.toNat_lt _)])
      obtain ⟨j',rfl⟩:∃ j',j=j'+1:=⟨j - 1,by omega⟩
      go_region
      go_wp2_with fail
      go_roundw
      case rel=>
       refine ⟨j',by omega,by go_num,(HBS.out.setCell (Nat.le_refl _) _).drew,?_⟩
       rw [HST2.out]
       exact heap_set (i:=2) _ HNS.out
      case measure=>simp [intOf]
     ·obtain rfl:j=0:=by omega
      have hnd:nd=⟨pl,b[0].toNat,leL (b.drop (0+1))⟩:=by
       rw [HND.out,List.getD_eq_getElem?_getD,List.getElem?_eq_getElem hbl]
       rfl
      have HNS2:Hid (wr.heap[w1.heap.size]? = some (.cells (ndCells nd).toArray 58 (0,0))):=LH (by rw [hnd];exact HNS.out)
      have hp1:w.heap.size+1+1+1<w1.heap.size:=loh HP1.out
      have HP2:=LH (show PrgAt wr (w.heap.size+1+1+1) (.pointer pa) entry (.slice sA sn sc) (.slice (some ⟨g,o,none⟩) ls.length lc) (.slice uA un uc) nv (w.heap.size+1) (w.heap.size+1+1) (.slice rA rn rc) from (hbs.block _ hp1).trans HP1.out)
      have HO2:=LH (row_keep HO1.out (fun q hq=>hbs.block q (HO1.out.lt q hq).2))
      have HQ2:=LH ((hbs.block w.heap.size (loh HQ1.out)).trans HQ1.out)
      have HU1:=LH (SetF.bel HT1.out hbs)
      have HU2:=LH (SetF.bel HT2.out hbs)
      have BL2:=LH (BL.out.trans (hbs.mono (by have:=HZ1.out;omega)))
      obtain ⟨vA,vc,hnv,_⟩:=own_slice HO2.out (by decide)
      have hnf:=nodesL_few (ls.take k)
      rw [List.length_take] at hnf
      generalize nodesL (ls.take k)=nds at *
      subst hnv
      have HLN:=LH ((hbs.block LB (loh NL.out)).trans NL.out)
      have HNPL:Hid (nd.pl=pl):=LH (by rw [hnd])
      clear HNS HND hnd HP1 HO1 HQ1 HT1 HT2 N0 BN E3 m3 hbs hns HBS BL
      have p5:=coh (i:=5) HP2.out
      have g5:=foh (i:=5) HP2.out
      have n0:=coh (i:=0) HNS2.out
      have n1:=coh (i:=1) HNS2.out
      have n2:=coh (i:=2) HNS2.out
      simp [ndCells] at p5 g5 n0 n1 n2
      have p5a:=fun o=>new_keep (o:=o) p5
      have HONE:=LH (show ∀ u∈ndCells nd,u.oneCell'=true by intro u hu;simp [ndCells] at hu;rcases hu with rfl | rfl | rfl <;> rfl)
      have hbase:w.heap.size+4<=wr.heap.size:=by have:=loh HNS2.out;omega
      go_wp2_with fail
      go_region_law (refine step_append_to _ (by rfl) _ _ _ (by rfl) (w.heap.size+4) 58 _ 3 6 Tryz.underlying23 info_nd (by rfl) (by decide) (HO2.out.alloc _) (by rfl) (rd_new wr wr.heap.size rfl (ndCells nd) _) (by rfl) (by rfl) HONE.out (by omega) (by omega) (by simp;omega) ?_;intro v' w6 hown6 hg6 hv6;obtain ⟨xA,xc,rfl,_⟩:=own_slice hown6 (by decide);have c66:=(World.cell?_of_block (a:=⟨w.heap.size+1+1+1,5,none⟩) (hg6.block (w.heap.size+1+1+1) (by simp;omega) (fun e=>by have:=(HO2.out.lt _ e.symm).1;omega))).trans (p5a _);have f66:=(World.frozen?_of_block (a:=⟨w.heap.size+1+1+1,5,none⟩) ((hg6.block (w.heap.size+1+1+1) (by simp;omega) (fun e=>by have:=(HO2.out.lt _ e.symm).1;omega)).trans (Below.heap_alloc wr _ (w.heap.size+1+1+1) (by omega)))).trans g5)
      all_goals (
       go_simp
       have hw6:w1.heap.size<w6.heap.size:=by have:=hg6.size;have h2:=loh HNS2.out;simp at this;omega
       have hp6:w6.heap[w.heap.size+1+1+1]? = _:=((hg6.block (w.heap.size+1+1+1) (by simp;omega) (fun e=>by have:=(HO2.out.lt _ e.symm).1;omega)).trans (Below.heap_alloc wr _ (w.heap.size+1+1+1) (by omega))).trans HP2.out
       have hold:∀ q,q<w.heap.size+4->q<wr.heap.size->w6.heap[q]? = wr.heap[q]?:=fun q hq1 hq2=>(hg6.block q (by simp;omega) (fun e=>by have:=(HO2.out.lt _ e.symm).1;omega)).trans (Below.heap_alloc wr _ q hq2)
       have HP7:Hid (PrgAt (w6.setCell ⟨w.heap.size+1+1+1,5,none⟩ (.slice xA (nds.length+1) xc)) (w.heap.size+1+1+1) (.pointer pa) entry (.slice sA sn sc) (.slice (some ⟨g,o,none⟩) ls.length lc) (.slice uA un uc) (.slice xA (nds.length+1) xc) (w.heap.size+1) (w.heap.size+1+1) (.slice rA rn rc)):=LH (heap_set (i:=5) _ hp6)
       have HO7:=LH (row_keep hown6 (fun q hq=>set_block (w:=w6) (g:=w.heap.size+1+1+1) (i:=5) (u:=.slice xA (nds.length+1) xc) (by have:=(hown6.lt q hq).1;omega)))
       have HQ7:=LH ((set_block (w:=w6) (g:=w.heap.size+1+1+1) (i:=5) (u:=.slice xA (nds.length+1) xc) (show w.heap.size≠w.heap.size+1+1+1 by omega)).trans ((hold w.heap.size (by omega) (by omega)).trans HQ2.out))
       have HU7:=LH (HU1.out.keep ((set_block (w:=w6) (g:=w.heap.size+1+1+1) (i:=5) (u:=.slice xA (nds.length+1) xc) (show w.heap.size+1≠w.heap.size+1+1+1 by omega)).trans (hold (w.heap.size+1) (by omega) (by omega))))
       have HV7:=LH (HU2.out.keep ((set_block (w:=w6) (g:=w.heap.size+1+1+1) (i:=5) (u:=.slice xA (nds.length+1) xc) (show w.heap.size+1+1≠w.heap.size+1+1+1 by omega)).trans (hold (w.heap.size+1+1) (by omega) (by omega))))
       have hLBne:(Value.slice vA nds.length vc).ownBlock≠some LB:=fun e=>by
        rcases HO2.out.2 with ⟨h1,_⟩ | ⟨g',cap,cur,h1,_,h3,_⟩
        ·rw [h1] at e;cases e
        ·rw [h1] at e
         cases e
         have h4:=HLN.out
         rw [h3] at h4
         injection h4 with h4
         injection h4 with _ h5 _
         revert h5
         decide
       have hLBlt:=loh HLN.out
       have HL7:=LH ((set_block (w:=w6) (g:=w.heap.size+1+1+1) (i:=5) (u:=.slice xA (nds.length+1) xc) (show LB≠w.heap.size+1+1+1 by omega)).trans (((hg6.block LB (by simp;omega) (fun e=>hLBne e.symm)).trans (Below.heap_alloc wr _ LB hLBlt)).trans HLN.out))
       have bw6:Below w.heap.size w w6:=by
        first
         | exact (BL2.out.alloc BL2.out.size _).drew.grown hg6 (by have:=BL2.out.size;simp;omega) (fun q hq=>by have:=(HO2.out.lt q hq).1;omega)
         | exact (BL2.out.alloc BL2.out.size _).grown hg6 (by have:=BL2.out.size;simp;omega) (fun q hq=>by have:=(HO2.out.lt q hq).1;omega)
       have BW7:=LH (bw6.setCell (p:=⟨w.heap.size+1+1+1,5,none⟩) (show w.heap.size<=w.heap.size+1+1+1 by omega) (.slice xA (nds.length+1) xc))
       clear bw6 hp6 hold hLBne hown6 hg6 hv6 c66 f66 HO2 HP2 HQ2 HU1 HU2 HLN HNS2 BL2 p5 p5a g5 n0 n1 n2 hbase hw6
       go_wp2_with fail
       generalize w6.setCell ⟨w.heap.size+1+1+1,5,none⟩ (.slice xA (nds.length+1) xc)=w7 at *
       have k6:=cell_regrown (coh (i:=6) HP7.out)
       have l1:=cell_regrown (coh (i:=1) HL7.out)
       refine wp_region_quiet_tail 6 (by kernel_rfl) (by kernel_rfl) ?_
       repeat (quiet_step (fail))
       refine wpQuiet_nil ?_
       intro _ hw'
       obtain ⟨⟨dq,osq⟩,hw''⟩:=hw'
       subst hw''
       have BR:=LH (below_regrown w7 dq osq)
       clear k6 l1
       generalize Go.Sort.grow (redrawn w7 dq) osq=w8 at *
       have HP8:=LH (HP7.out.at BR.out)
       have HO8:=LH (row_keep HO7.out (fun q hq=>BR.out.block q (HO7.out.lt q hq).2))
       have HQ8:=LH ((BR.out.block w.heap.size (loh HQ7.out)).trans HQ7.out)
       have HU8:=LH (SetF.bel HU7.out BR.out)
       have HV8:=LH (SetF.bel HV7.out BR.out)
       have BW8:=LH (BW7.out.trans (BR.out.mono BW7.out.size))
       have hkey:=Maps.keyOf_int_mk Tryz.underlying22 (litU_wf pl lp1)
       clear HP7 HO7 HQ7 HU7 HV7 BW7 HL7 BR
       have hU8:w8.ownsMap Tryz.prog 22 (plainElem (H:=Unit) Tryz.prog 4) (w.heap.size+1) (nds.map Nd.pl).length (Maps.setOf (.lit (.bool true)) ((nds.map Nd.pl).map litU)):=HU8.out
       refine wpList_mapUpdate_own _ rfl _ _ _ 51 rfl 22 4 u16_key Tryz.underlying51 (plainElem (H:=Unit) Tryz.prog 4) (w.heap.size+1) (nds.map Nd.pl).length _ rfl hU8 (by unfold maxLen;simp;omega) (.int .u16 (pl:Int)) (.bool true) (litU pl) rfl rfl hkey (.lit (.bool true)) [] (plainElem_bool Tryz.underlying4 true) ?_
       intro w9 hown9 hgr9
       go_simp
       have S9:=LH (SetF.put (f:=litU) (xs:=nds.map Nd.pl) pl hown9)
       clear hU8
       have hplt8:=loh HP8.out
       have hold9:∀ q,q<w8.heap.size->q≠w.heap.size+1->w9.heap[q]? = w8.heap[q]?:=fun q hq1 hq2=>hgr9.block q hq1 (fun e=>hq2 (by injection e))
       have HP9:Hid (PrgAt w9 (w.heap.size+1+1+1) (.pointer pa) entry (.slice sA sn sc) (.slice (some ⟨g,o,none⟩) ls.length lc) (.slice uA un uc) (.slice xA (nds.length+1) xc) (w.heap.size+1) (w.heap.size+1+1) (.slice rA rn rc)):=LH ((hold9 _ hplt8 (by omega)).trans HP8.out)
       have HO9:=LH (row_keep HO8.out (fun q hq=>hold9 q (HO8.out.lt q hq).2 (by have:=(HO8.out.lt q hq).1;omega)))
       have HQ9:=LH ((hold9 w.heap.size (by omega) (by omega)).trans HQ8.out)
       have HV9:=LH (HV8.out.keep (hold9 (w.heap.size+1+1) (by omega) (by omega)))
       have BW9:=LH (BW8.out.grown hgr9 BW8.out.size (fun q hq=>by injection hq with hq;omega))
       clear HP8 HO8 HQ8 HU8 HV8 BW8 hown9 hgr9 hold9 hkey
       go_wp2_with fail
       go_roundw
       case rel=>
        have hT:nodesL (ls.take (k+1))=nds++[nd]:=by rw [HTK.out];simp
        refine ⟨k+1,.slice xA (nds.length+1) xc,by omega,by go_num,BW9.out,HQ9.out,HP9.out,?_,?_,HV9.out⟩
        ·rw [hT,rowN_snoc,List.length_append]
         exact HO9.out
        ·rw [hT,List.map_append,List.map_cons,List.map_nil,HNPL.out]
         exact S9.out
       case measure=>simp [intOf];omega)
   ·have e1:((kind:Int) != 1)=true:=by rw [bne_iff_ne];omega
    have HX:Hid (nodesL (ls.take (k+1))=nodesL (ls.take k)):=LH (by rw [HTK.out];simp [hk1])
    clear HTK
    go_wp2_with fail
    have B1:=LH (HB.out.alloc hsz (.cells #[.int .i64 (n:Nat),.int .u16 (pl:Nat),.int .i64 (kind:Nat),.slice bA b.length bc,.int .u16 (v:Nat),.string ⟨e.op.toArray⟩,.int .u16 (e.n:Nat),.string ⟨e.name.toArray⟩,.slice tA e.sub.length tc] 109))
    have BA:=LH ((Below.refl wr.heap.size wr).alloc (Nat.le_refl _) (.cells #[.int .i64 (n:Nat),.int .u16 (pl:Nat),.int .i64 (kind:Nat),.slice bA b.length bc,.int .u16 (v:Nat),.string ⟨e.op.toArray⟩,.int .u16 (e.n:Nat),.string ⟨e.name.toArray⟩,.slice tA e.sub.length tc] 109))
    go_roundw
    case rel=>exact ⟨k+1,nv,by omega,by go_num,B1.out,(BA.out.block _ (loh HQ0.out)).trans HQ0.out,HPRG.out.at BA.out,by rw [HX.out];exact row_keep HOW.out (fun q hq=>BA.out.block q (HOW.out.lt q hq).2),by rw [HX.out];exact SetF.bel HS1.out BA.out,SetF.bel HS2.out BA.out⟩
    case measure=>simp [intOf];omega
  ·obtain rfl:k=ls.length:=by omega
   rw [List.take_length] at hown hs1
   clear HOW HS1 hb hq0 hprg hs2
   have HSR:=LH (sortf_any (nodesL ls) nv wr (Rd.of_own hown) (Nat.le_trans (nodesL_few ls) HL12.out) HR.out)
   have HW1:=LH hown
   have HU1:=LH hs1
   have hpl:∀ m∈(nodesL ls).map (·.pl),True:=fun _ _=>trivial
   clear hown hs1 hpl
   obtain ⟨ts,hperm,hts⟩:=HSY.out
   have HTS:=LH hts
   have HPM:=LH hperm
   have hnv:∃ A m c,nv=.slice A m c:=row_slice HW1.out
   obtain ⟨vA,vn,vc,rfl⟩:=hnv
   have hsn:sn=ts.length:=by
    obtain ⟨_,h1 | ⟨g,cap,cur,h1,_⟩⟩:=hts
    ·obtain ⟨h1,h2⟩:=h1
     injection h1 with _ h1 _
     omega
    ·injection h1
   have hsl:ts.length<=1000:=by rw [hperm.length_eq];exact HST.out.1
   subst hsn
   clear hts hperm
   have p5:=coh (i:=5) HPRG.out
   have z2:=coh (i:=2) HQ0.out
   simp at p5 z2
   have i1:¬ ((ls.length:Int)<(ls.length:Int)):=by omega
   go_wp2_with fail
   refine (HSR.out).mono ?_
   rintro e w1 ⟨rfl,hb1⟩
   have B1:=LH hb1
   have HP1:=LH (HPRG.out.at hb1)
   have HQ1:=LH ((hb1.block w.heap.size (loh HQ0.out)).trans HQ0.out)
   have HO1:=LH (row_keep HW1.out (fun q hq=>hb1.block q (HW1.out.lt q hq).2))
   have HU2:=LH (SetF.bel HU1.out hb1)
   have HV2:=LH (SetF.bel HS2.out hb1)
   have BW1:=LH (HB.out.trans (hb1.mono HB.out.size))
   have hsz1:w.heap.size+4<=w1.heap.size:=by have:=hb1.size;omega
   clear hb1 B1 HPRG HQ0 HW1 HU1 HS2 HB p5 z2 i1 HSR
   generalize hwz:wr.heap.size=wz at *
   clear hwz
   clear wr
   have z2:=coh (i:=2) HQ1.out
   simp at z2
   go_wp2_with fail
   generalize hndl:(nodesL ls).map (·.pl)=hasl at *
   have HHL:=LH hndl
   clear hndl
   go_loopw [79] (fun i wr=>∃ (k:Nat),k<=ts.length/\i=.int .i64 k/\Below w.heap.size w wr/\wr.heap[w.heap.size]? = some (.cells #[.pointer pa,.int .u16 (entry:Nat),.slice sA ts.length sc,.slice LA ls.length lc,.slice uA un uc] 40 (0,0)) /\
    PrgAt wr (w.heap.size+1+1+1) (.pointer pa) entry (.slice sA ts.length sc) (.slice LA ls.length lc) (.slice uA un uc) (.slice vA vn vc) (w.heap.size+1) (w.heap.size+1+1) (.slice rA rn rc)/\wr.ownsRow (w.heap.size+4) 58 3 (.slice vA vn vc) (nodesL ls).length (rowN (nodesL ls)) /\
    SetU wr (w.heap.size+1) hasl/\SetS wr (w.heap.size+1+1) (codeX (ts.take k) hasl)/\w.heap.size+4<=wr.heap.size) (fun i _=>ts.length - (intOf i).toNat)
   case atStart=>exact ⟨0,Nat.zero_le _,rfl,BW1.out,HQ1.out,HP1.out,HO1.out,HU2.out,HV2.out,hsz1⟩
   case round=>
    clear HQ1 HP1 HO1 HU2 HV2 BW1 hsz1 z2
    obtain ⟨k,hk,rfl,hb,hq0,hprg,hown,hs1,hs2,hsz2⟩:=hrel
    have HB:=LH hb
    have HQ0:=LH hq0
    have HPRG:=LH hprg
    have HOW:=LH hown
    have HS1:=LH hs1
    have HS2:=LH hs2
    by_cases hlt:k<ts.length
    ·have i1:(k:Int)<(ts.length:Int):=by omega
     have hck:=codeX_take ts hasl k hlt
     have hx:=HST.out.2 ts[k] (HPM.out.mem_iff.1 (List.getElem_mem hlt))
     obtain ⟨g,o,rfl,hg,a0,a1,a2⟩:=sym_get HTS.out k hlt
     have d0:=(hb.cell (p:=⟨g,o+k * 3,none⟩) hg).trans a0
     have d1:=(hb.cell (p:=⟨g,o+k * 3+1,none⟩) hg).trans a1
     have d2:=(hb.cell (p:=⟨g,o+k * 3+2,none⟩) hg).trans a2
     have HCK:=LH hck
     generalize ts[k]=x at *
     obtain ⟨nm,ad,how⟩:=x
     simp only at d0 d1 d2 hx
     have HX:=LH hx
     clear a0 a1 a2 hck hx hb hq0 hprg hown hs1 hs2
     have B1:=LH (HB.out.alloc HB.out.size (.cells #[.string ⟨nm.toArray⟩,.int .u16 (ad:Nat),.int .i64 (how:Nat)] 115))
     have BA:=LH ((Below.refl wr.heap.size wr).alloc (Nat.le_refl _) (.cells #[.string ⟨nm.toArray⟩,.int .u16 (ad:Nat),.int .i64 (how:Nat)] 115))
     have NL:=LH (heap_alloc_new wr (.cells #[.string ⟨nm.toArray⟩,.int .u16 (ad:Nat),.int .i64 (how:Nat)] 115))
     have HZ1:=LH (show (wr.alloc (.cells #[.string ⟨nm.toArray⟩,.int .u16 (ad:Nat),.int .i64 (how:Nat)] 115)).heap.size=wr.heap.size+1 by simp)
     go_wp2_with fail
     generalize hw1:wr.alloc (.cells #[.string ⟨nm.toArray⟩,.int .u16 (ad:Nat),.int .i64 (how:Nat)] 115)=w1 at *
     clear hw1
     have HQ1:=LH ((BA.out.block _ (loh HQ0.out)).trans HQ0.out)
     have HP1:=LH (HPRG.out.at BA.out)
     have HO1:=LH (row_keep HOW.out (fun q hq=>BA.out.block q (HOW.out.lt q hq).2))
     have HT1:=LH (SetF.bel HS1.out BA.out)
     have HT2:=LH (SetF.bel HS2.out BA.out)
     have hne:w.heap.size+4<=wr.heap.size:=hsz2
     clear HQ0 HPRG HOW HS1 HS2 HB BA d0 d1 d2 hg hsz2
     generalize wr.heap.size=LB at *
     clear wr
     have l2:=coh (i:=2) NL.out
     simp at l2
     by_cases h1:how=1
     ·subst h1
      have l1:=coh (i:=1) NL.out
      have p6:=coh (i:=6) HP1.out
      simp at l1 p6
      have HLK:∀ n1,(Instr.lookup 51 (.map (some (w.heap.size+1))) (.int .u16 (ad:Int)) false).run Tryz.prog (w1.drewN n1)=.ok (.bool (decide (ad∈hasl))) _:=fun n1=>SetU.at (SetF.bel HT1.out (below_dn (Below.refl w1.heap.size w1) n1)) ad HX.out.2
      by_cases hin:ad∈hasl
      ·rw [decide_eq_true hin] at HLK
       have hcx:codeX (ts.take (k+1)) hasl=codeX (ts.take k) hasl++[nm]:=by rw [HCK.out];simp [hin]
       have HCX:=LH hcx
       clear HCK hin hcx
       go_quiet (fail)
       clear l1 l2 p6 HLK
       go_wp2_with fail
       have B7:=LH (below_dn B1.out nq)
       have BB:=LH (below_dn (Below.refl w1.heap.size w1) nq)
       have HQ7:=LH ((BB.out.block _ (loh HQ1.out)).trans HQ1.out)
       have HP7:=LH (HP1.out.at BB.out)
       have HO7:=LH (row_keep HO1.out (fun q hq=>BB.out.block q (HO1.out.lt q hq).2))
       have HU7:=LH (SetF.bel HT1.out BB.out)
       have HV7:=LH (SetF.bel HT2.out BB.out)
       have NL7:=LH ((BB.out.block _ (loh NL.out)).trans NL.out)
       have hz7:(w1.drewN nq).heap.size=LB+1:=HZ1.out
       clear B1 HQ1 HP1 HO1 HT1 HT2 NL BB HZ1
       generalize w1.drewN nq=w7 at *
       clear w1
       have p7:=cell_regrown (coh (i:=7) HP7.out)
       have l0:=cell_regrown (coh (i:=0) NL7.out)
       refine wp_region_quiet_tail 6 (by kernel_rfl) (by kernel_rfl) ?_
       repeat (quiet_step (fail))
       refine wpQuiet_nil ?_
       intro _ hw'
       obtain ⟨⟨dq,osq⟩,hw''⟩:=hw'
       subst hw''
       have BR:=LH (below_regrown w7 dq osq)
       clear p7 l0
       generalize Go.Sort.grow (redrawn w7 dq) osq=w8 at *
       have hz8:LB+1<=w8.heap.size:=by have:=BR.out.size;omega
       have HP8:=LH (HP7.out.at BR.out)
       have HO8:=LH (row_keep HO7.out (fun q hq=>BR.out.block q (HO7.out.lt q hq).2))
       have HQ8:=LH ((BR.out.block w.heap.size (loh HQ7.out)).trans HQ7.out)
       have HU8:=LH (SetF.bel HU7.out BR.out)
       have HV8:=LH (SetF.bel HV7.out BR.out)
       have BW8:=LH (B7.out.trans (BR.out.mono B7.out.size))
       have hkey:=key_str nm HX.out.1
       clear HP7 HO7 HQ7 HU7 HV7 B7 NL7 BR hz7
       have hV8:w8.ownsMap Tryz.prog 9 (plainElem (H:=Unit) Tryz.prog 4) (w.heap.size+1+1) (codeX (ts.take k) hasl).length (Maps.setOf (.lit (.bool true)) ((codeX (ts.take k) hasl).map litS)):=HV8.out
       have hcl:=codeX_few (ts.take k) hasl
       rw [List.length_take] at hcl
       generalize codeX (ts.take k) hasl=cs at *
       refine wpList_mapUpdate_own _ rfl _ _ _ 52 rfl 9 4 str_key Tryz.underlying52 (plainElem (H:=Unit) Tryz.prog 4) (w.heap.size+1+1) cs.length _ rfl hV8 (by unfold maxLen;omega) (.string ⟨nm.toArray⟩) (.bool true) (litS nm) rfl rfl hkey (.lit (.bool true)) [] (plainElem_bool Tryz.underlying4 true) ?_
       intro w9 hown9 hgr9
       go_simp
       have S9:=LH (SetF.put (f:=litS) (xs:=cs) nm hown9)
       clear hV8
       have hplt8:=loh HP8.out
       have hold9:∀ q,q<w8.heap.size->q≠w.heap.size+1+1->w9.heap[q]? = w8.heap[q]?:=fun q hq1 hq2=>hgr9.block q hq1 (fun e=>hq2 (by injection e))
       have HP9:Hid (PrgAt w9 (w.heap.size+1+1+1) (.pointer pa) entry (.slice (some ⟨g,o,none⟩) ts.length sc) (.slice LA ls.length lc) (.slice uA un uc) (.slice vA vn vc) (w.heap.size+1) (w.heap.size+1+1) (.slice rA rn rc)):=LH ((hold9 _ hplt8 (by omega)).trans HP8.out)
       have HO9:=LH (row_keep HO8.out (fun q hq=>hold9 q (HO8.out.lt q hq).2 (by have:=(HO8.out.lt q hq).1;omega)))
       have HQ9:=LH ((hold9 w.heap.size (by omega) (by omega)).trans HQ8.out)
       have HU9:=LH (HU8.out.keep (hold9 (w.heap.size+1) (by omega) (by omega)))
       have BW9:=LH (BW8.out.grown hgr9 BW8.out.size (fun q hq=>by injection hq with hq;omega))
       have hz9:w.heap.size+4<=w9.heap.size:=by have:=hgr9.size;omega
       clear HP8 HO8 HQ8 HU8 HV8 BW8 hown9 hgr9 hold9 hkey
       go_wp2_with fail
       go_roundw
       case rel=>exact ⟨k+1,by omega,by go_num,BW9.out,HQ9.out,HP9.out,HO9.out,HU9.out,by rw [HCX.out];exact S9.out,hz9⟩
       case measure=>simp [intOf];omega
      ·rw [decide_eq_false hin] at HLK
       have hcx:codeX (ts.take (k+1)) hasl=codeX (ts.take k) hasl:=by rw [HCK.out];simp [hin]
       have HCX:=LH hcx
       clear HCK hin hcx
       go_quiet (fail)
       clear l1 l2 p6 HLK
       go_wp2_with fail
       go_roundw
       case rel=>exact ⟨k+1,by omega,by go_num,below_dn B1.out _,HQ1.out,HP1.out,HO1.out,HT1.out,by rw [HCX.out];exact HT2.out,by show w.heap.size+4<=w1.heap.size;have:=HZ1.out;omega⟩
       case measure=>simp [intOf];omega
     ·have e1:((how:Int) == 1)=false:=by rw [beq_eq_false_iff_ne];omega
      have hcx:codeX (ts.take (k+1)) hasl=codeX (ts.take k) hasl:=by rw [HCK.out];simp [h1]
      have HCX:=LH hcx
      clear HCK hcx h1
      go_quiet (fail)
      clear l2
      go_wp2_with fail
      go_roundw
      case rel=>exact ⟨k+1,by omega,by go_num,below_dn B1.out _,HQ1.out,HP1.out,HO1.out,HT1.out,by rw [HCX.out];exact HT2.out,by show w.heap.size+4<=w1.heap.size;have:=HZ1.out;omega⟩
      case measure=>simp [intOf];omega
    ·obtain rfl:k=ts.length:=by omega
     rw [List.take_length] at hs2
     have i1:¬ ((ts.length:Int)<(ts.length:Int)):=by omega
     clear HQ0 HPRG HOW HS1 HS2 HB hlt hk
     go_wp2_with fail
     go_ret
     subst HHL
     exact ⟨w.heap.size+1+1+1,rfl,w.heap.size+1,w.heap.size+1+1,_,hprg,Rd.of_own hown,hs1,⟨_,hs2,fun s=>(codeX_perm HPM.out _).mem_iff⟩,hb⟩
end Go.Proofs.YtbdnbfacalfciaaGreatDoor
