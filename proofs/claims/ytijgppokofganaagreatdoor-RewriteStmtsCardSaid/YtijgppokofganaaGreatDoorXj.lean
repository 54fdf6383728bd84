/- Xj. -/
import Derived.Test.YtijgppokofganaaGreatDoorXi
namespace Go.Proofs.YtijgppokofganaaGreatDoor
set_option maxRecDepth 100000
set_option maxHeartbeats 16000000
open Go.RowKit
theorem EgAt.end {w:World} {E:EgA} {sec:Bool} {eg:Eg} (h:EgAt w E sec eg):EgAt (w.setCell ⟨E.g,20,none⟩ (.bool true)) E sec { eg with done:=true }:=
 h.put 3 (Bt) sec { eg with done:=true } rfl rfl ⟨Nat.le_refl _,(List.take_length).symm⟩ rfl rfl rfl h.ent
theorem EgAt.enter {w:World} {E:EgA} {sec:Bool} {eg:Eg} (h:EgAt w E sec eg) (n:Nat) (hn:n<=65535):EgAt (w.setCell ⟨E.g,24,none⟩ (.int .u16 (n:Int))) E sec { eg with entry:=n }:=
 h.put 7 (.int .u16 (n:Int)) sec { eg with entry:=n } rfl rfl ⟨Nat.le_refl _,(List.take_length).symm⟩ rfl rfl rfl hn
def CodeS (w0 w1 w:World) (O:List Nat):Prop:=w1.heap.size<=w.heap.size/\∀ k,w0.heap.size<=k->k<w1.heap.size->w.heap[k]? = w1.heap[k]?/\k∉O
theorem CodeS.bel {w0 w1 w w':World} {O:List Nat} (h:CodeS w0 w1 w O) (hb:Below w.heap.size w w'):CodeS w0 w1 w' O:=
 ⟨Nat.le_trans h.1 hb.size,fun k h1 h2=>⟨(hb.block k (Nat.lt_of_lt_of_le h2 h.1)).trans (h.2 k h1 h2).1,(h.2 k h1 h2).2⟩⟩
theorem lin0 (w:World) (O:List Nat) (n:Nat):LinAt w O (.slice none 0 0) (.slice none 0 0) ⟨n,0,1,[],0,ex0⟩:=⟨⟨none,0,rfl,Nat.le_refl _,fun h0=>absurd h0 (by simp)⟩,SubAt.nil _ _⟩
theorem eg_ins1 (E:EgA) (eg:Eg) (cd:Cd) (hsz:cd.size<=1000) (f:Value) (hff:∃ K c,f=.func K #[] c) (s:St) (v:Value) (i:Nat) (hi:i<=1000000) (w:World) (h:EgAt w E false eg) (hnl:eg.lines.length<=1000000) (hs:ArAt w (· < w.heap.size) v s.args) :
  Calls Tryz.prog 214 #[.pointer (some ⟨E.g,0,none⟩),.agg #[.int .i64 (cd.size:Nat),.int .i64 (eI cd.e),f],stV s v,.int .i64 i] w (EgR E false w (instrA false cd s i eg)):=by
 have HV:Hid (instrA false cd s i eg=layA false eg ⟨i+1,0,1,[],0,ex0⟩ cd.size):=LH rfl
 obtain ⟨A,c,rfl,_⟩:=hs.form
 have H:=LH h
 have hg:=h.lt
 have k19:=h.cell.2.2.2.1
 obtain ⟨fK,fc,rfl⟩:=hff
 generalize instrA false cd s i eg=res at *
 generalize eI cd.e=ei at *
 generalize cd.size=sz at *
 obtain ⟨lab,colon,op,args⟩:=s
 unfold stV
 simp only at *
 have e3:IntKind.i64.wrap ((i:Int)+1)=(i:Int)+1:=by rw [IntWalk.i64_in _ (by omega)]
 have B3:=LH (((bra w (.cells #[.int .i64 sz,.int .i64 ei,.func fK #[] fc] 250)).alloc (by simp) (.cells #[Sx lab,.bool colon,Sx op,.slice A args.length c] 24)).alloc (by simp;omega) (.cells #[.int .i64 ((i:Int)+1),.int .u16 0,.int .i64 1,Zs,.int .u16 0,Sn,.int .u16 0,Sn,Zs] 144))
 have q19:=(B3.out.cell (p:=⟨E.g,19,none⟩) hg).trans k19
 have HLAY:Hid (∀ W,Below w.heap.size w W->Calls Tryz.prog 231 #[.pointer (some ⟨E.g,0,none⟩),.agg #[.int .i64 ((i:Int)+1),.int .u16 0,.int .i64 1,Zs,.int .u16 0,Sn,.int .u16 0,Sn,Zs],.int .i64 sz] W (EgR E false W (layA false eg ⟨i+1,0,1,[],0,ex0⟩ sz))):=
  LH (fun W hW=>eg_lay E false eg ⟨i+1,0,1,[],0,ex0⟩ (Zs) (Zs) sz (by omega) (by simp) hnl W (H.out.bel hW) (lin0 _ _ _))
 clear h hs k19
 go_enter Tryz.func214, Tryz.ntmps214
 go_wp2_with fail
 refine (HLAY.out _ B3.out).mono ?_
 intro e w3 hr
 have HR:=LH (hr.bel B3.out)
 obtain rfl:=hr.1
 clear hr HLAY
 go_wp2_with fail
 go_ret
 rw [HV.out]
 exact HR.out
theorem byt_of {w w':World} {v:Value} {b:List UInt8} (h:RdB w' w'.heap.size v b) (hn:NewB w v):BytS w' (fun g=>w.heap.size<=g/\g<w'.heap.size) v b:=by
 obtain ⟨A,c,rfl,h2,h3⟩:=h
 refine ⟨A,c,rfl,h2,fun h0=>?_⟩
 obtain ⟨g,o,rfl,h5,h6⟩:=h3 h0
 exact ⟨g,o,rfl,⟨hn g rfl,h5⟩,h6⟩
def CdOk (cd:Cd) (s:St):Prop:=cd.size<=1000/\(∀ k,cd.e=some k->k<s.args.length)/\∀ pl v t,cd.bytes pl v t=((cd.bytes pl v ([],false)).1,t)/\(cd.bytes pl v ([],false)).1.1.length<=1000
theorem eg_ins2n (E:EgA) (eg:Eg) (cd:Cd) (s:St) (hcd:CdOk cd s) (he:cd.e=none) (w0 w1:World) (u:Value) (hu:CodeAt w0 w1 cd u) (v:Value) (i:Nat) (hi:i<=1000000) (w:World) (hS:CodeS w0 w1 w E.own) (h:EgAt w E true eg) (hnl:eg.lines.length<=1000000) (hs:StS w E v s.args) :
  Calls Tryz.prog 214 #[.pointer (some ⟨E.g,0,none⟩),u,stV s v,.int .i64 i] w (EgR E true w (instrA true cd s i eg)):=by
 have HV:Hid (instrA true cd s i eg=if (cd.bytes eg.pl 0 ([],false)).1.2.2≠0 then (eg,(cd.bytes eg.pl 0 ([],false)).1.2.2) else layA true eg ⟨i+1,0,1,(cd.bytes eg.pl 0 ([],false)).1.1,(cd.bytes eg.pl 0 ([],false)).1.2.1,ex0⟩ cd.size):=LH (by
  unfold instrA
  rw [if_neg (by decide)]
  simp only [he,if_true,(hcd.2.2 eg.pl 0 eg.dl).1]
  rw [if_neg (by simp)]
  rfl)
 obtain ⟨A,c,rfl,_⟩:=hs.form
 have H:=LH h
 have hg:=h.lt
 have hpl:=h.place
 have k19:=h.cell.2.2.2.1
 obtain ⟨fK,caps,rfl,heg,hcall⟩:=hu
 have HB:=LH (fun W (hW:Below w.heap.size w W)=>hcall W eg.pl 0 (fun k h1 h2=>((hS.bel hW).2 k h1 h2).1) (hS.bel hW).1 (by omega))
 have hlen:=(hcd.2.2 eg.pl 0 ([],false)).2
 have hsz:=hcd.1
 generalize instrA true cd s i eg=res at *
 generalize (cd.bytes eg.pl 0 ([],false)).1=bt at *
 obtain ⟨bb,bv',bk⟩:=bt
 rw [he]
 generalize cd.size=sz at *
 obtain ⟨lab,colon,op,args⟩:=s
 unfold stV eI
 simp only at *
 have e3:IntKind.i64.wrap ((i:Int)+1)=(i:Int)+1:=by rw [IntWalk.i64_in _ (by omega)]
 have B3:=LH (((bra w (.cells #[.int .i64 sz,.int .i64 (-1),.func (.func fK) #[] caps] 250)).alloc (by simp) (.cells #[Sx lab,.bool colon,Sx op,.slice A args.length c] 24)).alloc (by simp;omega) (.cells #[.int .i64 ((i:Int)+1),.int .u16 0,.int .i64 1,Zs,.int .u16 0,Sn,.int .u16 0,Sn,Zs] 144))
 have q19:=(B3.out.cell (p:=⟨E.g,19,none⟩) hg).trans k19
 have q0:=(B3.out.cell (p:=⟨E.g,0,none⟩) hg).trans h.cell.1
 clear h hs k19 hS hcall hcd he
 have O0:=LH (show (((w.alloc (.cells #[.int .i64 sz,.int .i64 (-1),.func (.func fK) #[] caps] 250)).alloc (.cells #[Sx lab,.bool colon,Sx op,.slice A args.length c] 24)).alloc (.cells #[.int .i64 ((i:Int)+1),.int .u16 0,.int .i64 1,Zs,.int .u16 0,Sn,.int .u16 0,Sn,Zs] 144)).heap[w.heap.size]? = some (.cells #[.int .i64 sz,.int .i64 (-1),.func (.func fK) #[] caps] 250 (0,0)) by rw [hao _ _ _ (by simp;omega),hao _ _ _ (by simp)];exact heap_alloc_new w _)
 have O2:=LH (heap_alloc_new ((w.alloc (.cells #[.int .i64 sz,.int .i64 (-1),.func (.func fK) #[] caps] 250)).alloc (.cells #[Sx lab,.bool colon,Sx op,.slice A args.length c] 24)) (.cells #[.int .i64 ((i:Int)+1),.int .u16 0,.int .i64 1,Zs,.int .u16 0,Sn,.int .u16 0,Sn,Zs] 144))
 rw [show ((w.alloc (.cells #[.int .i64 sz,.int .i64 (-1),.func (.func fK) #[] caps] 250)).alloc (.cells #[Sx lab,.bool colon,Sx op,.slice A args.length c] 24)).heap.size=w.heap.size+1+1 by simp] at O2
 have hz3:(((w.alloc (.cells #[.int .i64 sz,.int .i64 (-1),.func (.func fK) #[] caps] 250)).alloc (.cells #[Sx lab,.bool colon,Sx op,.slice A args.length c] 24)).alloc (.cells #[.int .i64 ((i:Int)+1),.int .u16 0,.int .i64 1,Zs,.int .u16 0,Sn,.int .u16 0,Sn,Zs] 144)).heap.size=w.heap.size+1+1+1:=by simp
 go_enter Tryz.func214, Tryz.ntmps214
 go_wp2_with fail
 generalize (((w.alloc (.cells #[.int .i64 sz,.int .i64 (-1),.func (.func fK) #[] caps] 250)).alloc (.cells #[Sx lab,.bool colon,Sx op,.slice A args.length c] 24)).alloc (.cells #[.int .i64 ((i:Int)+1),.int .u16 0,.int .i64 1,Zs,.int .u16 0,Sn,.int .u16 0,Sn,Zs] 144))=w3 at *
 have u2:=coh (i:=2) O0.out
 simp at u2
 have HZ3:=LH hz3
 have hzz:w.heap.size+1+1<w3.heap.size:=by omega
 clear hz3
 go_cut [11,39,40,41,42,43,44,45,46,47,48,49,50,51,52,53] (fun k11 _ _ _ _ _ _ _ _ _ _ _ _ _ _ _ wx=>∃ bA bc,k11=.int .i64 bk/\Below w.heap.size w wx/\BytS wx (fun g=>w.heap.size<=g/\g<wx.heap.size) (.slice bA bb.length bc) bb /\
  wx.heap[w.heap.size]? = some (.cells #[.int .i64 sz,.int .i64 (-1),.func (.func fK) #[] caps] 250 (0,0))/\wx.heap[w.heap.size+1+1]? = some (.cells #[.int .i64 ((i:Int)+1),.int .u16 0,.int .i64 1,.slice bA bb.length bc,.int .u16 bv',Sn,.int .u16 0,Sn,Zs] 144 (0,0)))
 case first=>
  go_region_with (first | (refine (HB.out _ B3.out.drew).mono ?_;rintro e w4 ⟨yv,rfl,hrd,hnew,hb4⟩;obtain ⟨yA,yc,rfl,_⟩:=hrd.form;have O4:=(hb4.block (w.heap.size+1+1) hzz).trans O2.out;have y3:=coh (i:=3) O4;have y4:=coh (i:=4) O4;have f3:=foh (i:=3) O4;have f4:=foh (i:=4) O4;simp at y3 y4 f3 f4))
  all_goals (
   have HBY:=LH (byt_of hrd hnew)
   have B4:=LH (bthen B3.out.drew hb4)
   have O5:=LH (heap_set (i:=4) (.int .u16 bv') (heap_set (i:=3) (.slice yA bb.length yc) O4))
   have O6:=LH ((hb4.block w.heap.size (by show w.heap.size<w3.heap.size;omega)).trans O0.out)
   have hz4:w3.heap.size<=w4.heap.size:=hb4.size
   have HZ4:=LH hz4
   clear hb4 hrd hnew O4 hz4
   go_simp
   go_wp2_with fail
   go_meet
   refine ⟨yA,yc,rfl,?_,?_,?_,?_⟩
   ·exact ((B4.out.setCell (by show w.heap.size<=w.heap.size+1+1;omega) _).setCell (by show w.heap.size<=w.heap.size+1+1;omega) _)
   ·have h4:=HZ4.out
    exact HBY.out.keep (fun p hp=>(World.cell?_of_block (set_block (by have:=hp.1;have h5:w3.heap.size<=p.block:=this;omega))).trans (World.cell?_of_block (set_block (by have:=hp.1;have h5:w3.heap.size<=p.block:=this;omega)))) (fun g hg=>⟨by have:w3.heap.size<=g:=hg.1;omega,by simpa using hg.2⟩)
   ·exact ((set_block (by omega)).trans (set_block (by omega))).trans O6.out
   ·exact O5.out)
 case rest=>
  obtain ⟨bA,bc,rfl,hbx,hbs,hO,hL⟩:=hcut
  have BX:=LH hbx
  have HBS:=LH hbs
  have x0:=coh (i:=0) hO
  have y0:=coh (i:=0) hL
  have y1:=coh (i:=1) hL
  have y2:=coh (i:=2) hL
  have y3:=coh (i:=3) hL
  have y4:=coh (i:=4) hL
  have y5:=coh (i:=5) hL
  have y6:=coh (i:=6) hL
  have y7:=coh (i:=7) hL
  have y8:=coh (i:=8) hL
  simp at x0 y0 y1 y2 y3 y4 y5 y6 y7 y8
  clear hbx hbs hO hL u2 q0 q19
  by_cases hk:bk=0
  ·subst hk
   have HX:=LH (HV.out.trans (if_neg (by simp)))
   have HLAY:Hid (Calls Tryz.prog 231 #[.pointer (some ⟨E.g,0,none⟩),.agg #[.int .i64 ((i:Int)+1),.int .u16 0,.int .i64 1,.slice bA bb.length bc,.int .u16 bv',Sn,.int .u16 0,Sn,Zs],.int .i64 sz] wc (EgR E true wc (layA true eg ⟨i+1,0,1,bb,bv',ex0⟩ sz))):=
    LH (eg_lay E true eg ⟨i+1,0,1,bb,bv',ex0⟩ (.slice bA bb.length bc) (Zs) sz (by omega) (by show bb.length<=1000000;omega) hnl wc (H.out.bel BX.out) ⟨HBS.out.keep (fun _ _=>rfl) (fun k hk=>⟨hk.2,fun hm=>by have h1:=H.out.owned k hm;have h2:=hk.1;omega⟩),SubAt.nil _ _⟩)
   clear HV
   go_wp2_with fail
   refine HLAY.out.mono ?_
   intro e w5 hr
   have HR:=LH (hr.bel BX.out)
   obtain rfl:=hr.1
   clear hr HLAY
   go_wp2_with fail
   go_ret
   rw [HX.out]
   exact HR.out
  ·have e5:((bk:Int) != 0)=true:=by rw [bne_iff_ne];omega
   have HX:=LH (HV.out.trans (if_pos hk))
   have hkk:=LH hk
   clear HV hk
   go_wp2_with fail
   go_ret
   rw [HX.out]
   exact EgR.bad bk hkk.out (Turn.of_below BX.out)
end Go.Proofs.YtijgppokofganaaGreatDoor
