/- Xi. -/
import Derived.Test.YtbdnbfacalfciaaGreatDoorXh
namespace Go.Proofs.YtbdnbfacalfciaaGreatDoor
set_option maxRecDepth 100000
set_option maxHeartbeats 16000000
open Go.RowKit
def OutAt (w:World) (bc base:Nat) (acc:List UInt8):Prop:=∃ u,w.heap[bc]? = some (.cells #[u] 75 (0,0))/\w.ownsRow base 5 1 u acc.length (acc.map bv)
theorem bv_one (l:List UInt8):∀ u∈l.map bv,u.oneCell'=true:=by
 intro u hu
 obtain ⟨x,_,rfl⟩:=List.mem_map.1 hu
 rfl
theorem data1_any (bc base:Nat) (hbc:bc<base) (acc l:List UInt8) (ha:acc.length<=1000000) (hl:l.length<=1000000) (y:Value) (w:World) (hb:base<=w.heap.size) (ho:OutAt w bc base acc) (hr:RdB w w.heap.size y l) :
  Calls Tryz.prog 250 #[y,.pointer (some ⟨bc,0,none⟩)] w fun e w'=>e=.returned (.tuple #[])/\OutAt w' bc base (acc++l)/\But base bc w w'/\Still w w':=by
 obtain ⟨u,hu,hown⟩:=ho
 obtain ⟨A,c,rfl,_⟩:=own_slice hown (by omega)
 have k0:=coh (i:=0) hu
 have f0:=foh (i:=0) hu
 simp at k0 f0
 have HU:=LH hu
 have HO:=LH hown
 have HR:=LH hr
 obtain ⟨yA,yc,rfl,_⟩:=hr.form
 clear hu hown hr
 have hbl:bc<w.heap.size:=by omega
 have HN:=LH (show some bc≠(Value.slice A acc.length c).ownBlock from fun e=>by
  have:=(HO.out.lt bc e.symm).1
  omega)
 have he:(l.map bv).length=l.length * 1:=by simp
 have HE:=LH he
 clear he
 go_enter Tryz.func250, Tryz.ntmps250
 go_wp2_with (at_builtin;refine wpList_append_to _ rfl (.tmp 3) (.tmp 4) 75 rfl base 5 _ 1 1 Tryz.underlying75 info_u8 rfl (by omega) HO.out rfl HR.out rfl HE.out (bv_one l) (by omega) (by omega) hb ?_;intro v9 w9 hown9 hbel9 hg9 hv9;obtain ⟨vA,vc,rfl,_⟩:=own_slice hown9 (by omega);have h9:=(hg9.block bc hbl HN.out).trans HU.out;have k9:=coh (i:=0) h9;have f9:=foh (i:=0) h9;simp at k9 f9)
 have HU9:=LH (heap_set (i:=0) (.slice vA (acc.length+l.length) vc) h9)
 have HO9:=LH (row_keep (w':=w9.setCell ⟨bc,0,none⟩ (.slice vA (acc.length+l.length) vc)) hown9 (fun k hk=>set_block (by have:=(hown9.lt k hk).1;omega)))
 have HB9:=LH (((But.refl base bc w).bel hbel9).set 0 (.slice vA (acc.length+l.length) vc))
 have HS9:=LH (show Still w (w9.setCell ⟨bc,0,none⟩ (.slice vA (acc.length+l.length) vc)) from (Still.grown hg9:Still w w9))
 go_end0
 refine ⟨rfl,⟨_,HU9.out,?_⟩,HB9.out,HS9.out⟩
 have:=HO9.out
 rw [List.length_append,List.map_append]
 exact this
theorem conv_out (s:List UInt8) (W:World):∃ A c W',(convert 9 75 (.string ⟨s.toArray⟩)).run Tryz.prog W=.ok (.slice A s.length c) W'/\RdB W' W'.heap.size (.slice A s.length c) s/\Below W.heap.size W W':=by
 have h:=run_bytes_of_string (P:=Tryz.prog) W 9 75 5 ⟨s.toArray⟩ Tryz.underlying9 Tryz.underlying75 Tryz.underlying5
 have hge:=grownCap_ge W s.length 0 5
 refine ⟨_,_,_,h,⟨_,_,rfl,hge,fun h0=>⟨_,_,rfl,by simp,fun j u hu=>?_⟩⟩,(Below.refl _ _).drew.alloc (Nat.le_refl _) _⟩
 have hj:j<s.length:=by have:=(List.getElem?_eq_some_iff.1 hu).1;simpa using this
 rw [Nat.zero_add]
 have h1:=bytesRow_at ⟨s.toArray⟩ (grownCap W (ByteArray.size ⟨s.toArray⟩) 0 5) j (by simpa [ByteArray.size] using hj)
 refine ((World.cell?_alloc_mark W.drew _ _ _ j).trans h1).trans ?_
 rw [← hu,List.getElem?_map,List.getElem?_eq_getElem hj]
 rfl
theorem dataL_step (sec:Bool) (ev:Ex->Nat × Nat) (op:List UInt8) (args:List Ar) (k:Nat) (hk:k<args.length) (acc:List UInt8):dataL sec ev op (args.drop k) acc=(
  if args[k].is then dataL sec ev op (args.drop (k+1)) (acc++args[k].t)
  else if (if sec then ev args[k].e else (0,0)).2≠0 then ([],(if sec then ev args[k].e else (0,0)).2)
  else if op=sDW then dataL sec ev op (args.drop (k+1)) (acc++[UInt8.ofNat ((if sec then ev args[k].e else (0,0)).1 % 256),UInt8.ofNat ((if sec then ev args[k].e else (0,0)).1 / 256)])
  else if (byteA (if sec then ev args[k].e else (0,0)).1).2≠0 then ([],5)
  else dataL sec ev op (args.drop (k+1)) (acc++[UInt8.ofNat (byteA (if sec then ev args[k].e else (0,0)).1).1])):=by
 rw [List.drop_eq_getElem_cons hk,dataL]
def DataR (w:World) (R:List UInt8 × Nat) (e:Ending) (w':World):Prop:=∃ u,e=.returned (.tuple #[u,.int .i64 (R.2:Nat)])/\(∃ A c,u=.slice A R.1.length c)/\BytS w' (fun g=>w.heap.size<=g/\g<w'.heap.size) u R.1/\Below w.heap.size w w'
theorem DataR.bad {w w':World} {R:List UInt8 × Nat} (k:Nat) (hR:R=([],k)) (hb:Below w.heap.size w w'):DataR w R (.returned (.tuple #[.slice none 0 0,.int .i64 (k:Nat)])) w':=by
 subst hR
 exact ⟨_,rfl,⟨none,0,rfl⟩,⟨none,0,rfl,Nat.le_refl _,fun h0=>absurd h0 (by simp)⟩,hb⟩
theorem OutAt.keep {w w':World} {bc base:Nat} {acc:List UInt8} (h:OutAt w bc base acc) (hb:Below w.heap.size w w'):OutAt w' bc base acc:=by
 obtain ⟨u,h1,h2⟩:=h
 exact ⟨u,(hb.block bc (loh h1)).trans h1,row_keep h2 (fun k hk=>hb.block k (h2.lt k hk).2)⟩
theorem OutAt.lt {w:World} {bc base:Nat} {acc:List UInt8} (h:OutAt w bc base acc):bc<w.heap.size:=by
 obtain ⟨u,h1,_⟩:=h
 exact loh h1
def DataI (w:World) (sbox:Obj) (sec:Bool) (ev:Ex->Nat × Nat) (op:List UInt8) (args:List Ar) (R:List UInt8 × Nat) (k:Nat) (wr:World):Prop:=
 ∃ acc,acc.length<=1000 * k/\dataL sec ev op (args.drop k) acc=R/\Below w.heap.size w wr/\wr.heap[w.heap.size]? = some sbox/\OutAt wr (w.heap.size+1) (w.heap.size+2) acc
theorem DataI.next {w wr w1 w2:World} {sbox:Obj} {sec:Bool} {ev:Ex->Nat × Nat} {op:List UInt8} {args:List Ar} {R:List UInt8 × Nat} {k:Nat} {acc l:List UInt8}
  (ha:acc.length<=1000 * k) (hl:l.length<=1000) (hR:dataL sec ev op (args.drop (k+1)) (acc++l)=R) (hb:Below w.heap.size w wr) (hs:wr.heap[w.heap.size]? = some sbox) (h1:Below wr.heap.size wr w1) (h2:OutAt w2 (w.heap.size+1) (w.heap.size+2) (acc++l)) (h3:But (w.heap.size+2) (w.heap.size+1) w1 w2) (hos:Still w1 w2) :
  DataI w sbox sec ev op args R (k+1) w2:=by
 have hz:=loh hs
 have hz1:=h1.size
 refine ⟨acc++l,by simp;omega,hR,?_,?_,h2⟩
 ·have hb1:=bthen hb h1
  exact ⟨hos.1.trans hb1.os,hos.2.1.trans hb1.tape,hos.2.2.trans hb1.output,Nat.le_trans hb1.size h3.1,fun j hj=>(h3.2 j (by omega) (by omega)).trans (hb1.block j hj)⟩
 ·exact ((h3.2 w.heap.size (by omega) (by omega)).trans (h1.block _ hz)).trans hs
theorem bv_nat (n:Nat) (h:n<256):bv (UInt8.ofNat n)=.int .u8 (n:Int):=by
 unfold bv
 rw [UInt8.toNat_ofNat']
 congr 1
 omega
theorem RdB.two (w:World) (n1 n2:Nat) (h1:n1<256) (h2:n2<256):RdB (w.alloc (.cells #[.int .u8 (n1:Int),.int .u8 (n2:Int)] 5)) (w.heap.size+1) (.slice (some ⟨w.heap.size,0,none⟩) 2 2) [UInt8.ofNat n1,UInt8.ofNat n2]:=by
 have:=RdB.lit w [UInt8.ofNat n1,UInt8.ofNat n2] (by simp)
 simp only [List.map_cons,List.map_nil,bv_nat n1 h1,bv_nat n2 h2] at this
 exact this
theorem RdB.one (w:World) (n1:Nat) (h1:n1<256):RdB (w.alloc (.cells #[.int .u8 (n1:Int)] 5)) (w.heap.size+1) (.slice (some ⟨w.heap.size,0,none⟩) 1 1) [UInt8.ofNat n1]:=by
 have:=RdB.lit w [UInt8.ofNat n1] (by simp)
 simp only [List.map_cons,List.map_nil,bv_nat n1 h1] at this
 exact this
theorem OutAt.res {w:World} {bc base:Nat} {acc:List UInt8} (h:OutAt w bc base acc):∃ u,(∃ A c,u=.slice A acc.length c)/\w.heap[bc]? = some (.cells #[u] 75 (0,0))/\BytS w (fun g=>base<=g/\g<w.heap.size) u acc:=by
 obtain ⟨u,h1,h2⟩:=h
 obtain ⟨A,c,rfl,hc,hm,hrow⟩:=own_slice h2 (by omega)
 refine ⟨_,⟨A,c,rfl⟩,h1,A,c,rfl,hc,fun h0=>?_⟩
 obtain ⟨g,rfl,g1,g2,_,g3⟩:=hrow h0
 exact ⟨g,0,rfl,⟨g1,g2⟩,fun j u hu=>by rw [Nat.zero_add];exact g3 j u hu⟩
theorem eg_data (E:EgA) (sec:Bool) (eg:Eg) (s:St) (v:Value) (w:World) (h:EgAt w E sec eg) (hok:okSt s) (hn:s.args.length<=32) (hs:ArAt w (· < w.heap.size) v s.args) :
  Calls Tryz.prog 236 #[.pointer (some ⟨E.g,0,none⟩),stV s v] w (DataR w (dataL sec (evA eg) s.op s.args [])):=by
 have k19:=h.cell.2.2.2.1
 have hg:=h.lt
 have HS:=LH hs
 have HOKT:=LH (fun j (hj:j<s.args.length)=>(hok.2 _ (List.getElem_mem hj)).1)
 have HEV:=LH (fun W (hW:Below w.heap.size w W) j (hj:j<s.args.length) v (hs:SubAt W (· < W.heap.size) v s.args[j].e.sub)=>evalue_any E sec eg s.args[j].e v W (h.bel hW) (hok.2 _ (List.getElem_mem hj)).2 hs)
 have HLE:=LH (fun j (hj:j<s.args.length)=>evA_le h s.args[j].e (hok.2 _ (List.getElem_mem hj)).2)
 obtain ⟨A,c,rfl,hc,hm⟩:=hs.form
 obtain ⟨lab,colon,op,args⟩:=s
 unfold stV
 simp only at *
 obtain ⟨sbox,hsbox⟩:∃ o:Obj,o=.cells #[.string ⟨lab.toArray⟩,.bool colon,.string ⟨op.toArray⟩,.slice A args.length c] 63:=⟨_,rfl⟩
 have HSB:=LH hsbox
 have B2:=LH (((Below.refl w.heap.size w).alloc (Nat.le_refl _) sbox).alloc (by simp) (.cells #[.slice none 0 0] 75))
 have O1:=LH ((Below.heap_alloc (w.alloc sbox) (.cells #[.slice none 0 0] 75) w.heap.size (by simp)).trans (heap_alloc_new w sbox))
 have O2:=LH (heap_alloc_new (w.alloc sbox) (.cells #[.slice none 0 0] 75))
 rw [show (w.alloc sbox).heap.size=w.heap.size+1 by simp] at O2
 have HR:Hid (dataL sec (evA eg) op (args.drop 0) []=dataL sec (evA eg) op args []):=LH rfl
 generalize hres:dataL sec (evA eg) op args []=R at *
 have heg:∀ args W,(callFunc 250 args).run Tryz.prog W=.ok (.enter 250 args) W:=fun args W=>enters_of Tryz.func250 (by kernel_rfl) rfl args W
 rw [hsbox] at B2 O1 O2
 clear h hok hs hc hm hres
 go_enter Tryz.func236, Tryz.ntmps236
 go_wp2_with fail
 go_loopw [16] (fun i wr=>∃ k:Nat,k<=args.length/\i=.int .i64 k/\DataI w sbox sec (evA eg) op args R k wr) (fun i _=>args.length - (intOf i).toNat)
 case atStart=>
  refine ⟨0,Nat.zero_le _,rfl,[],by simp,HR.out,B2.out,by rw [hsbox];exact O1.out,_,O2.out,World.ownsRow_nil _ _ _ _⟩
 case round=>
  obtain ⟨k,hk,rfl,acc,hac,hR,hb,hsb,hout⟩:=hrel
  have HAC:=LH hac
  have HB:=LH hb
  have HSBX:=LH hsb
  have HOUT:=LH hout
  have hwz:w.heap.size+1<wr.heap.size:=hout.lt
  have hacl:acc.length<=33000:=by omega
  have hgw:E.g<wr.heap.size:=by omega
  have hww:w.heap.size<wr.heap.size:=by omega
  have g19:=(hb.cell (p:=⟨E.g,19,none⟩) hg).trans k19
  have s2:wr.cell? ⟨w.heap.size,2,none⟩=some (.string ⟨op.toArray⟩):=by rw [hsbox] at hsb;exact (coh hsb).trans rfl
  by_cases hlt:k<args.length
  ·have i1:(k:Int)<(args.length:Int):=by omega
   have HST0:=LH (hR.symm.trans (dataL_step sec (evA eg) op args k hlt acc))
   obtain ⟨g,o,sv,rfl,hgl,c0,c1,c2,c3,c4,c5,c6,c7,hsub⟩:=HS.out.get k hlt
   have HVA:=LH (fun W (hW:Below w.heap.size w W)=>HEV.out W hW k hlt sv (hsub.at hW hW.size))
   have hle:=HLE.out k hlt
   have htl:=HOKT.out k hlt
   obtain ⟨vA,vc,rfl,_,_⟩:=hsub.form
   have d0:=(hb.cell (p:=⟨g,o+k * 8,none⟩) hgl).trans c0
   have d1:=(hb.cell (p:=⟨g,o+k * 8+1,none⟩) hgl).trans c1
   have d2:=(hb.cell (p:=⟨g,o+k * 8+2,none⟩) hgl).trans c2
   have d3:=(hb.cell (p:=⟨g,o+k * 8+3,none⟩) hgl).trans c3
   have d4:=(hb.cell (p:=⟨g,o+k * 8+4,none⟩) hgl).trans c4
   have d5:=(hb.cell (p:=⟨g,o+k * 8+5,none⟩) hgl).trans c5
   have d6:=(hb.cell (p:=⟨g,o+k * 8+6,none⟩) hgl).trans c6
   have d7:=(hb.cell (p:=⟨g,o+k * 8+7,none⟩) hgl).trans c7
   generalize args[k]=x at *
   unfold exV at HVA
   generalize evA eg x.e=ev at *
   obtain ⟨ev1,ev2⟩:=ev
   simp only at HST0 HVA hle
   have BA:=LH ((Below.refl wr.heap.size wr).alloc (Nat.le_refl _) (.cells #[.string ⟨x.w.toArray⟩,.string ⟨x.t.toArray⟩,.bool x.is,.bool x.mem,.string ⟨x.e.op.toArray⟩,.int .u16 x.e.n,.string ⟨x.e.name.toArray⟩,.slice vA x.e.sub.length vc] 72))
   clear hac hR hb hsb hout c0 c1 c2 c3 c4 c5 c6 c7 hsub HEV HLE HOKT
   cases his:x.is with
   | true=>
    rw [his] at BA d2
    have HT:=LH (HST0.out.trans (if_pos his))
    obtain ⟨yA,yc,w2,hrun,hrd,hb2⟩:=conv_out x.t (wr.alloc (.cells #[.string ⟨x.w.toArray⟩,.string ⟨x.t.toArray⟩,.bool true,.bool x.mem,.string ⟨x.e.op.toArray⟩,.int .u16 x.e.n,.string ⟨x.e.name.toArray⟩,.slice vA x.e.sub.length vc] 72))
    have B3:=LH (bthen BA.out hb2)
    have HD:=LH (data1_any (w.heap.size+1) (w.heap.size+2) (by omega) acc x.t (by omega) (by omega) _ w2 (by have:=B3.out.size;omega) (HOUT.out.keep B3.out) hrd)
    clear hrd hb2 HST0
    go_wp2_with fail
    refine HD.out.mono ?_
    rintro e w5 ⟨rfl,ho5,hb5,hst5⟩
    have HN:=LH (DataI.next (sbox:=sbox) HAC.out htl HT.out.symm HB.out HSBX.out B3.out ho5 hb5 hst5)
    clear ho5 hb5 hst5 HD
    go_wp2_with fail
    go_roundw
    case rel=>exact ⟨k+1,by omega,by go_num,HN.out⟩
    case measure=>simp [intOf];omega
   | false=>
    rw [his] at BA d2
    have HST1:=LH (HST0.out.trans (if_neg (by rw [his];simp)))
    clear HST0
    cases sec with
    | false=>
     have HST:=LH (HST1.out.trans (if_neg (by simp)))
     simp only [Bool.false_eq_true,if_false] at HST
     clear HST1 hle HVA
     by_cases hdw:op=sDW
     ·subst hdw
      have HT:=LH (HST.out.trans (if_pos rfl))
      have HD:=LH (data1_any (w.heap.size+1) (w.heap.size+2) (by omega) acc [UInt8.ofNat 0,UInt8.ofNat 0] (by omega) (by simp) _ ((wr.alloc (.cells #[.string ⟨x.w.toArray⟩,.string ⟨x.t.toArray⟩,.bool false,.bool x.mem,.string ⟨x.e.op.toArray⟩,.int .u16 x.e.n,.string ⟨x.e.name.toArray⟩,.slice vA x.e.sub.length vc] 72)).alloc (.cells #[.int .u8 0,.int .u8 0] 5)) (by have:=BA.out.size;simp;omega) (HOUT.out.keep (BA.out.alloc BA.out.size _)) ((RdB.two (wr.alloc (.cells #[.string ⟨x.w.toArray⟩,.string ⟨x.t.toArray⟩,.bool false,.bool x.mem,.string ⟨x.e.op.toArray⟩,.int .u16 x.e.n,.string ⟨x.e.name.toArray⟩,.slice vA x.e.sub.length vc] 72)) 0 0 (by omega) (by omega)).more (by simp)))
      rw [show (wr.alloc (.cells #[.string ⟨x.w.toArray⟩,.string ⟨x.t.toArray⟩,.bool false,.bool x.mem,.string ⟨x.e.op.toArray⟩,.int .u16 x.e.n,.string ⟨x.e.name.toArray⟩,.slice vA x.e.sub.length vc] 72)).heap.size=wr.heap.size+1 by simp] at HD
      have e6:IntKind.u8.wrap 0=0:=by decide
      have e7:(0:Int) / 256=0:=by decide
      clear HST
      go_wp2_with fail
      refine HD.out.mono ?_
      rintro e w5 ⟨rfl,ho5,hb5,hst5⟩
      have HN:=LH (DataI.next (sbox:=sbox) HAC.out (by simp) HT.out.symm HB.out HSBX.out (BA.out.alloc BA.out.size _) ho5 hb5 hst5)
      clear ho5 hb5 hst5 HD
      go_wp2_with fail
      go_roundw
      case rel=>exact ⟨k+1,by omega,by go_num,HN.out⟩
      case measure=>simp [intOf];omega
     ·have hdw1:(op == [68,87])=false:=str_ne hdw
      have HT:=LH ((HST.out.trans (if_neg hdw)).trans (if_neg (by decide)))
      have HBY:=LH (fun W=>byteA_any 0 (by omega) W)
      have HD:=LH (data1_any (w.heap.size+1) (w.heap.size+2) (by omega) acc [UInt8.ofNat 0] (by omega) (by simp) _ ((wr.alloc (.cells #[.string ⟨x.w.toArray⟩,.string ⟨x.t.toArray⟩,.bool false,.bool x.mem,.string ⟨x.e.op.toArray⟩,.int .u16 x.e.n,.string ⟨x.e.name.toArray⟩,.slice vA x.e.sub.length vc] 72)).alloc (.cells #[.int .u8 0] 5)) (by have:=BA.out.size;simp;omega) (HOUT.out.keep (BA.out.alloc BA.out.size _)) ((RdB.one (wr.alloc (.cells #[.string ⟨x.w.toArray⟩,.string ⟨x.t.toArray⟩,.bool false,.bool x.mem,.string ⟨x.e.op.toArray⟩,.int .u16 x.e.n,.string ⟨x.e.name.toArray⟩,.slice vA x.e.sub.length vc] 72)) 0 (by omega)).more (by simp)))
      rw [show (wr.alloc (.cells #[.string ⟨x.w.toArray⟩,.string ⟨x.t.toArray⟩,.bool false,.bool x.mem,.string ⟨x.e.op.toArray⟩,.int .u16 x.e.n,.string ⟨x.e.name.toArray⟩,.slice vA x.e.sub.length vc] 72)).heap.size=wr.heap.size+1 by simp] at HD
      clear HST hdw
      go_wp2_with fail
      refine (HBY.out _).mono ?_
      rintro e w4 ⟨rfl,rfl⟩
      go_wp2_with fail
      refine HD.out.mono ?_
      rintro e w5 ⟨rfl,ho5,hb5,hst5⟩
      have HN:=LH (DataI.next (sbox:=sbox) HAC.out (by simp) HT.out.symm HB.out HSBX.out (BA.out.alloc BA.out.size _) ho5 hb5 hst5)
      clear ho5 hb5 hst5 HD
      go_wp2_with fail
      go_roundw
      case rel=>exact ⟨k+1,by omega,by go_num,HN.out⟩
      case measure=>simp [intOf];omega
    | true=>
     simp only [if_true] at HST1
     have a4:=BA.out
     go_wp2_with fail
     refine (HVA.out _ (bthen HB.out BA.out)).mono ?_
     rintro e w2 ⟨rfl,hb2⟩
     have B3:=LH (bthen BA.out hb2)
     have S2:=LH ((hb2.block w.heap.size (by have:=BA.out.size;omega)).trans ((BA.out.block w.heap.size (by omega)).trans HSBX.out))
     clear hb2 HVA d0 d1 d2 d3 d4 d5 d6 d7
     by_cases hk0:ev2=0
     ·subst hk0
      have HST:=LH (HST1.out.trans (if_neg (by simp)))
      have hv:=hle
      clear HST1
      have s2b:w2.cell? ⟨w.heap.size,2,none⟩=some (.string ⟨op.toArray⟩):=by have h:=S2.out;rw [hsbox] at h;exact (coh h).trans rfl
      by_cases hdw:op=sDW
      ·subst hdw
       have HT:=LH (HST.out.trans (if_pos rfl))
       have hw1:IntKind.u8.wrap (ev1:Int)=((ev1 % 256:Nat):Int):=by rw [IntKind.wrap_u8];omega
       have hw2:IntKind.u8.wrap ((ev1:Int) / 256)=((ev1 / 256:Nat):Int):=by rw [IntKind.wrap_u8];omega
       have hn1:ev1 % 256<256:=by omega
       have hn2:ev1 / 256<256:=by omega
       generalize ev1 % 256=n1 at *
       generalize ev1 / 256=n2 at *
       have HD:=LH (data1_any (w.heap.size+1) (w.heap.size+2) (by omega) acc [UInt8.ofNat n1,UInt8.ofNat n2] (by omega) (by simp) _ (w2.alloc (.cells #[.int .u8 (n1:Int),.int .u8 (n2:Int)] 5)) (by have:=B3.out.size;simp;omega) (HOUT.out.keep (B3.out.alloc B3.out.size _)) ((RdB.two w2 n1 n2 hn1 hn2).more (by simp)))
       clear HST
       go_wp2_with fail
       refine HD.out.mono ?_
       rintro e w5 ⟨rfl,ho5,hb5,hst5⟩
       have HN:=LH (DataI.next (sbox:=sbox) HAC.out (by simp) HT.out.symm HB.out HSBX.out (B3.out.alloc B3.out.size _) ho5 hb5 hst5)
       clear ho5 hb5 hst5 HD
       go_wp2_with fail
       go_roundw
       case rel=>exact ⟨k+1,by omega,by go_num,HN.out⟩
       case measure=>simp [intOf];omega
      ·have hdw1:(op == [68,87])=false:=str_ne hdw
       have HT0:=LH (HST.out.trans (if_neg hdw))
       have HBY:=LH (fun W=>byteA_any ev1 hv W)
       have hb256:=byteA_le ev1
       have hbk:(byteA ev1).2=0∨(byteA ev1).2=5:=by unfold byteA;split <;> simp
       clear HST hdw
       generalize byteA ev1=bt at *
       obtain ⟨n1,bk⟩:=bt
       simp only at HT0 HBY hb256 hbk
       rcases hbk with rfl | rfl
       ·have HT:=LH (HT0.out.trans (if_neg (by simp)))
        have HD:=LH (data1_any (w.heap.size+1) (w.heap.size+2) (by omega) acc [UInt8.ofNat n1] (by omega) (by simp) _ (w2.alloc (.cells #[.int .u8 (n1:Int)] 5)) (by have:=B3.out.size;simp;omega) (HOUT.out.keep (B3.out.alloc B3.out.size _)) ((RdB.one w2 n1 hb256).more (by simp)))
        clear HT0
        go_wp2_with fail
        refine (HBY.out _).mono ?_
        rintro e w4 ⟨rfl,rfl⟩
        go_wp2_with fail
        refine HD.out.mono ?_
        rintro e w5 ⟨rfl,ho5,hb5,hst5⟩
        have HN:=LH (DataI.next (sbox:=sbox) HAC.out (by simp) HT.out.symm HB.out HSBX.out (B3.out.alloc B3.out.size _) ho5 hb5 hst5)
        clear ho5 hb5 hst5 HD
        go_wp2_with fail
        go_roundw
        case rel=>exact ⟨k+1,by omega,by go_num,HN.out⟩
        case measure=>simp [intOf];omega
       ·have HT:=LH (HT0.out.trans (if_pos (by simp)))
        clear HT0
        go_wp2_with fail
        refine (HBY.out _).mono ?_
        rintro e w4 ⟨rfl,rfl⟩
        have HWB:=LH (bthen HB.out B3.out)
        obtain ⟨u0,hu0,_⟩:=HOUT.out.keep B3.out
        have q0:=coh (i:=0) hu0
        have f0:=foh (i:=0) hu0
        simp at q0 f0
        clear hu0
        go_wp2_with fail
        refine bodyPost_ret (v:=.tuple #[.slice none 0 0,.int .i64 5]) (by simp [results,Tryz.results236,go_sem,q0]) rfl ?_
        exact DataR.bad 5 HT.out (HWB.out.setCell (by show w.heap.size<=w.heap.size+1;omega) _)
     ·have HT:=LH (HST1.out.trans (if_pos hk0))
      have e5:((ev2:Int) != 0)=true:=by rw [bne_iff_ne];omega
      have HWB:=LH (bthen HB.out B3.out)
      obtain ⟨u0,hu0,_⟩:=HOUT.out.keep B3.out
      have q0:=coh (i:=0) hu0
      have f0:=foh (i:=0) hu0
      simp at q0 f0
      clear hu0 HST1 hk0
      go_wp2_with fail
      refine bodyPost_ret (v:=.tuple #[.slice none 0 0,.int .i64 ev2]) (by simp [results,Tryz.results236,go_sem,q0]) rfl ?_
      exact DataR.bad ev2 HT.out (HWB.out.setCell (by show w.heap.size<=w.heap.size+1;omega) _)
  ·obtain rfl:k=args.length:=by omega
   rw [List.drop_length] at hR
   obtain rfl:R=(acc,0):=hR.symm
   obtain ⟨u,⟨uA,uc,rfl⟩,hu,hbs⟩:=hout.res
   have q0:=coh (i:=0) hu
   have f0:=foh (i:=0) hu
   simp at q0 f0
   have HBS:=LH hbs
   clear hac hb hsb hout hbs HEV HLE HOKT
   go_wp2_with fail
   refine bodyPost_ret (v:=.tuple #[.slice uA acc.length uc,.int .i64 0]) (by simp [results,Tryz.results236,go_sem,q0]) rfl ?_
   exact ⟨_,rfl,⟨_,_,rfl⟩,HBS.out.keep (fun p hp=>World.cell?_of_block (set_block (by have:=hp.1;omega))) (fun g hg=>⟨by omega,by simpa using hg.2⟩),HB.out.setCell (by show w.heap.size<=w.heap.size+1;omega) _⟩
theorem dataL_len (sec:Bool) (ev:Ex->Nat × Nat) (op:List UInt8) (args:List Ar) (h:∀ a∈args,a.t.length<=1000):∀ acc,(dataL sec ev op args acc).1.length<=acc.length+1000 * args.length:=by
 induction args with
 | nil=>intro acc;simp [dataL]
 | cons a r ih=>
  intro acc
  have h1:=h a (by simp)
  have h2:=ih (fun x hx=>h x (by simp [hx]))
  rw [dataL]
  have L:(a :: r).length=r.length+1:=rfl
  generalize (if sec=true then ev a.e else (0,0))=q
  split
  ·have:=h2 (acc++a.t)
   simp only [List.length_append] at this
   omega
  ·split
   ·simp
   ·split
    ·have:=h2 (acc++[UInt8.ofNat (q.1 % 256),UInt8.ofNat (q.1 / 256)])
     simp only [List.length_append,List.length_cons,List.length_nil] at this
     omega
    ·split
     ·simp
     ·have:=h2 (acc++[UInt8.ofNat (byteA q.1).1])
      simp only [List.length_append,List.length_cons,List.length_nil] at this
      omega
abbrev StS (w:World) (E:EgA) (v:Value) (args:List Ar):Prop:=ArAt w (fun k=>k<w.heap.size/\k∉E.own) v args
theorem StS.lt {w:World} {E:EgA} {v:Value} {args:List Ar} (h:StS w E v args):ArAt w (· < w.heap.size) v args:=h.keep (fun _ _=>rfl) (fun _ hk=>hk.1)
theorem eg_dir_nil (E:EgA) (sec:Bool) (eg:Eg) (lab:List UInt8) (colon:Bool) (args:List Ar) (v:Value) (i:Nat) (w:World) (h:EgAt w E sec eg) (hs:StS w E v args) :
  Calls Tryz.prog 205 #[.pointer (some ⟨E.g,0,none⟩),stV ⟨lab,colon,[],args⟩ v,.int .i64 i] w (EgR E sec w (directA sec ⟨lab,colon,[],args⟩ i eg)):=by
 have HV:Hid (directA sec ⟨lab,colon,[],args⟩ i eg=(eg,0)):=LH rfl
 obtain ⟨A,c,rfl,_⟩:=hs.form
 have H:=LH h
 have B1:=LH ((Below.refl w.heap.size w).alloc (Nat.le_refl _) (.cells #[.string ⟨lab.toArray⟩,.bool colon,.string ⟨#[]⟩,.slice A args.length c] 63))
 unfold stV
 clear h hs
 go_enter Tryz.func205, Tryz.ntmps205
 go_wp2_with fail
 go_ret
 rw [HV.out]
 exact ⟨rfl,E,E.like_refl,Turn.of_below B1.out,fun _=>H.out.bel B1.out⟩
theorem eg_dir_data (E:EgA) (sec:Bool) (eg:Eg) (lab:List UInt8) (colon:Bool) (op:List UInt8) (hop:op=sDB∨op=sDW) (args:List Ar) (v:Value) (i:Nat) (hi:i<=1000000) (w:World) (h:EgAt w E sec eg) (hok:okSt ⟨lab,colon,op,args⟩) (hn:args.length<=32) (hnl:eg.lines.length<=1000000) (hs:StS w E v args) :
  Calls Tryz.prog 205 #[.pointer (some ⟨E.g,0,none⟩),stV ⟨lab,colon,op,args⟩ v,.int .i64 i] w (EgR E sec w (directA sec ⟨lab,colon,op,args⟩ i eg)):=by
 have HV:Hid (directA sec ⟨lab,colon,op,args⟩ i eg=if (dataL sec (evA eg) op args []).2≠0 then (eg,(dataL sec (evA eg) op args []).2) else layA sec eg ⟨i+1,0,2,(dataL sec (evA eg) op args []).1,0,ex0⟩ (dataL sec (evA eg) op args []).1.length):=LH (by
  unfold directA
  rcases hop with rfl | rfl
  ·rw [if_neg (show ¬ (sDB:List UInt8) = [] by decide),if_pos (.inl rfl)]
  ·rw [if_neg (show ¬ (sDW:List UInt8) = [] by decide),if_pos (.inr rfl)])
 have HD:=LH (fun W (hW:Below w.heap.size w W)=>eg_data E sec eg ⟨lab,colon,op,args⟩ v W (h.bel hW) hok hn (hs.lt.at hW hW.size))
 have hlen:=dataL_len sec (evA eg) op args (fun a ha=>(hok.2 a ha).1) []
 simp only [List.length_nil] at hlen
 have HO:=LH h.owned
 obtain ⟨A,c,rfl,_⟩:=hs.form
 have H:=LH h
 simp only at HD
 generalize dataL sec (evA eg) op args []=R at *
 obtain ⟨rb,rk⟩:=R
 have B1:=LH ((Below.refl w.heap.size w).alloc (Nat.le_refl _) (.cells #[.string ⟨lab.toArray⟩,.bool colon,.string ⟨op.toArray⟩,.slice A args.length c] 63))
 have e3:IntKind.i64.wrap ((i:Int)+1)=(i:Int)+1:=by rw [IntWalk.i64_in _ (by omega)]
 generalize directA sec ⟨lab,colon,op,args⟩ i eg=res at *
 unfold stV at *
 simp only at *
 clear h hs hok
 rcases hop with rfl | rfl
 all_goals (
  go_enter Tryz.func205, Tryz.ntmps205
  go_wp2_with fail
  refine (HD.out _ B1.out).mono ?_
  rintro e w2 ⟨u,rfl,⟨uA,uc,rfl⟩,hbs,hb2⟩
  have HBS:=LH hbs
  have B2:=LH (bthen B1.out hb2)
  clear hbs hb2
  by_cases hk:rk=0
  ·subst hk
   have HX:=LH (HV.out.trans (if_neg (by simp)))
   have HLAY:Hid (Calls Tryz.prog 237 #[.pointer (some ⟨E.g,0,none⟩),.agg #[.int .i64 ((i:Int)+1),.int .u16 0,.int .i64 2,.slice uA rb.length uc,.int .u16 0,.string ⟨#[]⟩,.int .u16 0,.string ⟨#[]⟩,.slice none 0 0],.int .i64 rb.length] w2 (EgR E sec w2 (layA sec eg ⟨i+1,0,2,rb,0,ex0⟩ rb.length))):=LH (eg_lay E sec eg ⟨i+1,0,2,rb,0,ex0⟩ (.slice uA rb.length uc) (.slice none 0 0) rb.length (by omega) (by show rb.length<=1000000;omega) hnl w2 (H.out.bel B2.out) ⟨HBS.out.keep (fun _ _=>rfl) (fun k hk=>⟨⟨hk.2,fun hm=>by have h1:=HO.out k hm;have h2:=hk.1;have h3:=B1.out.size;omega⟩,by have h1:=HO.out E.g (mem_own.2 (.inl rfl));have h2:=hk.1;have h3:=B1.out.size;omega⟩),SubAt.nil _ _⟩)
   clear HBS HV
   go_wp2_with fail
   refine HLAY.out.mono ?_
   intro e w3 hr
   have HR:=LH (hr.bel B2.out)
   obtain rfl:=hr.1
   clear hr HLAY
   go_wp2_with fail
   go_ret
   rw [HX.out]
   exact HR.out
  ·have e5:((rk:Int) != 0)=true:=by rw [bne_iff_ne];omega
   have HX:=LH (HV.out.trans (if_pos hk))
   have hkk:=LH hk
   clear HV hk
   go_wp2_with fail
   go_ret
   rw [HX.out]
   exact EgR.bad rk hkk.out (Turn.of_below B2.out))
end Go.Proofs.YtbdnbfacalfciaaGreatDoor
