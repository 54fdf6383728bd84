/- Xj. -/
import Derived.Test.YtbdnbfacalfciaaGreatDoorXi
namespace Go.Proofs.YtbdnbfacalfciaaGreatDoor
set_option maxRecDepth 100000
set_option maxHeartbeats 16000000
open Go.RowKit
theorem arg0_at {s:St} (hn:0<s.args.length):arg0 s=s.args[0].e:=by unfold arg0;rw [List.getD_eq_getElem?_getD,List.getElem?_eq_getElem hn];rfl
theorem arg0_fit {s:St} (hok:okSt s) (hn:0<s.args.length):fitE (arg0 s)=true:=by rw [arg0_at hn];exact (hok.2 _ (List.getElem_mem hn)).2
theorem EgAt.end {w:World} {E:EgA} {sec:Bool} {eg:Eg} (h:EgAt w E sec eg):EgAt (w.setCell ⟨E.g,20,none⟩ (.bool true)) E sec { eg with done:=true }:=
 h.put 3 (.bool true) sec { eg with done:=true } rfl rfl ⟨Nat.le_refl _,(List.take_length).symm⟩ rfl rfl rfl h.ent
theorem EgAt.enter {w:World} {E:EgA} {sec:Bool} {eg:Eg} (h:EgAt w E sec eg) (n:Nat) (hn:n<=65535):EgAt (w.setCell ⟨E.g,24,none⟩ (.int .u16 (n:Int))) E sec { eg with entry:=n }:=
 h.put 7 (.int .u16 (n:Int)) sec { eg with entry:=n } rfl rfl ⟨Nat.le_refl _,(List.take_length).symm⟩ rfl rfl rfl hn
theorem eg_dir_org (E:EgA) (sec:Bool) (eg:Eg) (lab:List UInt8) (colon:Bool) (args:List Ar) (v:Value) (i:Nat) (_hi:i<=1000000) (w:World) (h:EgAt w E sec eg) (hok:okSt ⟨lab,colon,sORG,args⟩) (hn:0<args.length) (hs:StS w E v args) :
  Calls Tryz.prog 205 #[.pointer (some ⟨E.g,0,none⟩),stV ⟨lab,colon,sORG,args⟩ v,.int .i64 i] w (EgR E sec w (directA sec ⟨lab,colon,sORG,args⟩ i eg)):=by
 have HV:Hid (directA sec ⟨lab,colon,sORG,args⟩ i eg=if (evA eg (arg0 ⟨lab,colon,sORG,args⟩)).2≠0 then (eg,(evA eg (arg0 ⟨lab,colon,sORG,args⟩)).2) else ({ eg with pl:=(evA eg (arg0 ⟨lab,colon,sORG,args⟩)).1 },0)):=LH rfl
 have HFI:=LH (fun W (hW:Below w.heap.size w W)=>eg_first E sec eg ⟨lab,colon,sORG,args⟩ v W (h.bel hW) hn hok (hs.lt.at hW hW.size))
 have hle:=evA_le h (arg0 ⟨lab,colon,sORG,args⟩) (arg0_fit hok hn)
 obtain ⟨A,c,rfl,_⟩:=hs.form
 have H:=LH h
 have hg:=h.lt
 have B1:=LH ((Below.refl w.heap.size w).alloc (Nat.le_refl _) (.cells #[.string ⟨lab.toArray⟩,.bool colon,.string ⟨#[79,82,71]⟩,.slice A args.length c] 63))
 have O1:=LH (heap_alloc_new w (.cells #[.string ⟨lab.toArray⟩,.bool colon,.string ⟨#[79,82,71]⟩,.slice A args.length c] 63))
 generalize evA eg (arg0 ⟨lab,colon,sORG,args⟩)=ev at *
 obtain ⟨ev1,ev2⟩:=ev
 generalize directA sec ⟨lab,colon,sORG,args⟩ i eg=res at *
 unfold stV at *
 simp only at *
 clear h hs hok
 go_enter Tryz.func205, Tryz.ntmps205
 go_wp2_with fail
 refine (HFI.out _ B1.out).mono ?_
 rintro e w2 ⟨rfl,hb2⟩
 have B2:=LH (bthen B1.out hb2)
 have O2:=LH ((hb2.block w.heap.size (by simp)).trans O1.out)
 have x2:=coh (i:=2) O2.out
 simp at x2
 have q0:=((H.out.bel B2.out).cell).1
 have f0:=(H.out.bel B2.out).free 0
 have HM:=LH ((H.out.bel B2.out).move ev1 (by omega))
 have HT:=LH ((Turn.of_below (O:=E.own) B2.out).set E.g 0 (.int .i64 (ev1:Int)) (.inl (mem_own.2 (.inl rfl))))
 have e6:IntKind.i64.wrap (ev1:Int)=(ev1:Int):=by rw [IntWalk.i64_in _ (by omega)]
 clear hb2
 by_cases hk:ev2=0
 ·subst hk
  have HX:=LH (HV.out.trans (if_neg (by simp)))
  clear HV
  go_wp2_with fail
  go_ret
  rw [HX.out]
  exact ⟨rfl,E,E.like_refl,HT.out,fun _=>HM.out⟩
 ·have e5:((ev2:Int) != 0)=true:=by rw [bne_iff_ne];omega
  have HX:=LH (HV.out.trans (if_pos hk))
  have hkk:=LH hk
  clear HV hk
  go_wp2_with fail
  go_ret
  rw [HX.out]
  exact EgR.bad ev2 hkk.out (Turn.of_below B2.out)
theorem eg_dir_set (E:EgA) (sec:Bool) (eg:Eg) (lab:List UInt8) (colon:Bool) (args:List Ar) (v:Value) (i:Nat) (_hi:i<=1000000) (w:World) (h:EgAt w E sec eg) (hok:okSt ⟨lab,colon,sSET,args⟩) (hn:0<args.length) (hs:StS w E v args) :
  Calls Tryz.prog 205 #[.pointer (some ⟨E.g,0,none⟩),stV ⟨lab,colon,sSET,args⟩ v,.int .i64 i] w (EgR E sec w (directA sec ⟨lab,colon,sSET,args⟩ i eg)):=by
 have HV:Hid (directA sec ⟨lab,colon,sSET,args⟩ i eg=if (evA eg (arg0 ⟨lab,colon,sSET,args⟩)).2≠0 then (eg,(evA eg (arg0 ⟨lab,colon,sSET,args⟩)).2) else symA eg lab (evA eg (arg0 ⟨lab,colon,sSET,args⟩)).1 3):=LH rfl
 have HFI:=LH (fun W (hW:Below w.heap.size w W)=>eg_first E sec eg ⟨lab,colon,sSET,args⟩ v W (h.bel hW) hn hok (hs.lt.at hW hW.size))
 have hle:=evA_le h (arg0 ⟨lab,colon,sSET,args⟩) (arg0_fit hok hn)
 have HPS:=LH (fun W (hW:Below w.heap.size w W)=>symPut_any E.tb E.mb eg.syms lab hok.1 (evA eg (arg0 ⟨lab,colon,sSET,args⟩)).1 3 hle (by decide) (by decide) h.small W (h.bel hW).tab)
 obtain ⟨A,c,rfl,_⟩:=hs.form
 have H:=LH h
 have hg:=h.lt
 have B1:=LH ((Below.refl w.heap.size w).alloc (Nat.le_refl _) (.cells #[.string ⟨lab.toArray⟩,.bool colon,.string ⟨#[83,69,84]⟩,.slice A args.length c] 63))
 have O1:=LH (heap_alloc_new w (.cells #[.string ⟨lab.toArray⟩,.bool colon,.string ⟨#[83,69,84]⟩,.slice A args.length c] 63))
 generalize evA eg (arg0 ⟨lab,colon,sSET,args⟩)=ev at *
 obtain ⟨ev1,ev2⟩:=ev
 generalize directA sec ⟨lab,colon,sSET,args⟩ i eg=res at *
 unfold stV at *
 simp only at *
 clear h hs hok
 go_enter Tryz.func205, Tryz.ntmps205
 go_wp2_with fail
 refine (HFI.out _ B1.out).mono ?_
 rintro e w2 ⟨rfl,hb2⟩
 have B2:=LH (bthen B1.out hb2)
 have O2:=LH ((hb2.block w.heap.size (by simp)).trans O1.out)
 have x2:=coh (i:=2) O2.out
 have x0:=coh (i:=0) O2.out
 simp at x2 x0
 have HC:=(H.out.bel B2.out).cell
 have q19:=HC.2.2.2.1
 have q22:=HC.2.2.2.2.2.2.1
 clear hb2 HC
 by_cases hk:ev2=0
 ·subst hk
  have HX:=LH (HV.out.trans (if_neg (by simp)))
  clear HV
  have j22:=cell_regrown q22
  have j0:=cell_regrown x0
  clear q22 x0
  go_wp2_with fail
  refine wp_region_quiet_tail 7 (by kernel_rfl) (by kernel_rfl) ?_
  repeat (quiet_step (fail))
  refine wpQuiet_nil ?_
  intro _ hw'
  obtain ⟨⟨dq,osq⟩,hw''⟩:=hw'
  subst hw''
  have BB:=LH (bthen B2.out (below_regrown w2 dq osq))
  go_wp2_with fail
  refine (HPS.out _ BB.out).mono ?_
  intro e w3 hp
  have HR:=LH (((H.out.bel BB.out).sym hp).bel BB.out)
  obtain rfl:=hp.1
  clear hp
  generalize putK eg.syms lab 3=pk at *
  go_wp2_with fail
  go_ret
  rw [HX.out]
  exact HR.out
 ·have e5:((ev2:Int) != 0)=true:=by rw [bne_iff_ne];omega
  have HX:=LH (HV.out.trans (if_pos hk))
  have hkk:=LH hk
  clear HV hk
  go_wp2_with fail
  go_ret
  rw [HX.out]
  exact EgR.bad ev2 hkk.out (Turn.of_below B2.out)
theorem eg_dir_equ (E:EgA) (sec:Bool) (eg:Eg) (lab:List UInt8) (colon:Bool) (args:List Ar) (v:Value) (i:Nat) (_hi:i<=1000000) (w:World) (h:EgAt w E sec eg) (hok:okSt ⟨lab,colon,sEQU,args⟩) (hn:0<args.length) (hs:StS w E v args) :
  Calls Tryz.prog 205 #[.pointer (some ⟨E.g,0,none⟩),stV ⟨lab,colon,sEQU,args⟩ v,.int .i64 i] w (EgR E sec w (directA sec ⟨lab,colon,sEQU,args⟩ i eg)):=by
 have HV:Hid (directA sec ⟨lab,colon,sEQU,args⟩ i eg=if (evA eg (arg0 ⟨lab,colon,sEQU,args⟩)).2≠0 then (eg,(evA eg (arg0 ⟨lab,colon,sEQU,args⟩)).2) else if sec=false then symA eg lab (evA eg (arg0 ⟨lab,colon,sEQU,args⟩)).1 2 else (eg,0)):=LH rfl
 have HFI:=LH (fun W (hW:Below w.heap.size w W)=>eg_first E sec eg ⟨lab,colon,sEQU,args⟩ v W (h.bel hW) hn hok (hs.lt.at hW hW.size))
 have hle:=evA_le h (arg0 ⟨lab,colon,sEQU,args⟩) (arg0_fit hok hn)
 have HPS:=LH (fun W (hW:Below w.heap.size w W)=>symPut_any E.tb E.mb eg.syms lab hok.1 (evA eg (arg0 ⟨lab,colon,sEQU,args⟩)).1 2 hle (by decide) (by decide) h.small W (h.bel hW).tab)
 obtain ⟨A,c,rfl,_⟩:=hs.form
 have H:=LH h
 have hg:=h.lt
 have B1:=LH ((Below.refl w.heap.size w).alloc (Nat.le_refl _) (.cells #[.string ⟨lab.toArray⟩,.bool colon,.string ⟨#[69,81,85]⟩,.slice A args.length c] 63))
 have O1:=LH (heap_alloc_new w (.cells #[.string ⟨lab.toArray⟩,.bool colon,.string ⟨#[69,81,85]⟩,.slice A args.length c] 63))
 generalize evA eg (arg0 ⟨lab,colon,sEQU,args⟩)=ev at *
 obtain ⟨ev1,ev2⟩:=ev
 generalize directA sec ⟨lab,colon,sEQU,args⟩ i eg=res at *
 unfold stV at *
 simp only at *
 clear h hs hok
 go_enter Tryz.func205, Tryz.ntmps205
 go_wp2_with fail
 refine (HFI.out _ B1.out).mono ?_
 rintro e w2 ⟨rfl,hb2⟩
 have B2:=LH (bthen B1.out hb2)
 have O2:=LH ((hb2.block w.heap.size (by simp)).trans O1.out)
 have x2:=coh (i:=2) O2.out
 have x0:=coh (i:=0) O2.out
 simp at x2 x0
 have HC:=(H.out.bel B2.out).cell
 have q19:=HC.2.2.2.1
 have q22:=HC.2.2.2.2.2.2.1
 clear hb2 HC
 by_cases hk:ev2=0
 ·subst hk
  have HX:=LH (HV.out.trans (if_neg (by simp)))
  clear HV
  cases sec with
  | true=>
   have HX2:=LH (HX.out.trans (if_neg (by simp)))
   clear HX
   go_wp2_with fail
   go_ret
   rw [HX2.out]
   exact ⟨rfl,E,E.like_refl,Turn.of_below B2.out,fun _=>H.out.bel B2.out⟩
  | false=>
   have HX2:=LH (HX.out.trans (if_pos rfl))
   clear HX
   have j22:=cell_regrown q22
   have j0:=cell_regrown x0
   clear q22 x0
   go_wp2_with fail
   refine wp_region_quiet_tail 7 (by kernel_rfl) (by kernel_rfl) ?_
   repeat (quiet_step (fail))
   refine wpQuiet_nil ?_
   intro _ hw'
   obtain ⟨⟨dq,osq⟩,hw''⟩:=hw'
   subst hw''
   have BB:=LH (bthen B2.out (below_regrown w2 dq osq))
   go_wp2_with fail
   refine (HPS.out _ BB.out).mono ?_
   intro e w3 hp
   have HR:=LH (((H.out.bel BB.out).sym hp).bel BB.out)
   obtain rfl:=hp.1
   clear hp
   generalize putK eg.syms lab 2=pk at *
   go_wp2_with fail
   go_ret
   rw [HX2.out]
   exact HR.out
 ·have e5:((ev2:Int) != 0)=true:=by rw [bne_iff_ne];omega
  have HX:=LH (HV.out.trans (if_pos hk))
  have hkk:=LH hk
  clear HV hk
  go_wp2_with fail
  go_ret
  rw [HX.out]
  exact EgR.bad ev2 hkk.out (Turn.of_below B2.out)
theorem eg_dir_ds (E:EgA) (sec:Bool) (eg:Eg) (lab:List UInt8) (colon:Bool) (args:List Ar) (v:Value) (i:Nat) (hi:i<=1000000) (w:World) (h:EgAt w E sec eg) (hok:okSt ⟨lab,colon,sDS,args⟩) (hn:0<args.length) (hnl:eg.lines.length<=1000000) (hs:StS w E v args) :
  Calls Tryz.prog 205 #[.pointer (some ⟨E.g,0,none⟩),stV ⟨lab,colon,sDS,args⟩ v,.int .i64 i] w (EgR E sec w (directA sec ⟨lab,colon,sDS,args⟩ i eg)):=by
 have HV:Hid (directA sec ⟨lab,colon,sDS,args⟩ i eg=if (evA eg (arg0 ⟨lab,colon,sDS,args⟩)).2≠0 then (eg,(evA eg (arg0 ⟨lab,colon,sDS,args⟩)).2) else layA sec eg ⟨i+1,0,3,[],(evA eg (arg0 ⟨lab,colon,sDS,args⟩)).1,arg0 ⟨lab,colon,sDS,args⟩⟩ (evA eg (arg0 ⟨lab,colon,sDS,args⟩)).1):=LH rfl
 have HFI:=LH (fun W (hW:Below w.heap.size w W)=>eg_first E sec eg ⟨lab,colon,sDS,args⟩ v W (h.bel hW) hn hok (hs.lt.at hW hW.size))
 have hle:=evA_le h (arg0 ⟨lab,colon,sDS,args⟩) (arg0_fit hok hn)
 obtain ⟨A,c,rfl,_⟩:=hs.form
 have H:=LH h
 have hg:=h.lt
 have B1:=LH ((Below.refl w.heap.size w).alloc (Nat.le_refl _) (.cells #[.string ⟨lab.toArray⟩,.bool colon,.string ⟨#[68,83]⟩,.slice A args.length c] 63))
 have O1:=LH (heap_alloc_new w (.cells #[.string ⟨lab.toArray⟩,.bool colon,.string ⟨#[68,83]⟩,.slice A args.length c] 63))
 have he:arg0 ⟨lab,colon,sDS,args⟩=args[0].e:=arg0_at (s:=⟨lab,colon,sDS,args⟩) hn
 obtain ⟨g,o,sv,rfl,hgl,c0,c1,c2,c3,c4,c5,c6,c7,hsub⟩:=hs.get 0 hn
 rw [he] at HV HFI hle
 have HSU:=LH hsub
 obtain ⟨vA,vc,rfl,_,_⟩:=hsub.form
 have i1:(0:Int)<(args.length:Int):=by omega
 simp only [Nat.zero_mul,Nat.add_zero] at c4 c5 c6 c7
 generalize args[0]=x at *
 generalize evA eg x.e=ev at *
 obtain ⟨ev1,ev2⟩:=ev
 generalize directA sec ⟨lab,colon,sDS,args⟩ i eg=res at *
 unfold stV at *
 simp only at *
 clear h hs hok hsub c0 c1 c2 c3 he hn
 go_enter Tryz.func205, Tryz.ntmps205
 go_wp2_with fail
 refine (HFI.out _ B1.out).mono ?_
 rintro e w2 ⟨rfl,hb2⟩
 have B2:=LH (bthen B1.out hb2)
 have O2:=LH ((hb2.block w.heap.size (by simp)).trans O1.out)
 have x2:=coh (i:=2) O2.out
 have x3:=coh (i:=3) O2.out
 simp at x2 x3
 have e6:IntKind.i64.wrap (ev1:Int)=(ev1:Int):=by rw [IntWalk.i64_in _ (by omega)]
 have e3:IntKind.i64.wrap ((i:Int)+1)=(i:Int)+1:=by rw [IntWalk.i64_in _ (by omega)]
 clear hb2
 by_cases hk:ev2=0
 ·subst hk
  have HX:=LH (HV.out.trans (if_neg (by simp)))
  have d4:=(B2.out.cell (p:=⟨g,o+4,none⟩) hgl.1).trans c4
  have d5:=(B2.out.cell (p:=⟨g,o+5,none⟩) hgl.1).trans c5
  have d6:=(B2.out.cell (p:=⟨g,o+6,none⟩) hgl.1).trans c6
  have d7:=(B2.out.cell (p:=⟨g,o+7,none⟩) hgl.1).trans c7
  have HLAY:Hid (Calls Tryz.prog 237 #[.pointer (some ⟨E.g,0,none⟩),.agg #[.int .i64 ((i:Int)+1),.int .u16 0,.int .i64 3,.slice none 0 0,.int .u16 ev1,.string ⟨x.e.op.toArray⟩,.int .u16 x.e.n,.string ⟨x.e.name.toArray⟩,.slice vA x.e.sub.length vc],.int .i64 ev1] w2 (EgR E sec w2 (layA sec eg ⟨i+1,0,3,[],ev1,x.e⟩ ev1))):=
   LH (eg_lay E sec eg ⟨i+1,0,3,[],ev1,x.e⟩ (.slice none 0 0) (.slice vA x.e.sub.length vc) ev1 (by omega) (by simp) hnl w2 (H.out.bel B2.out) ⟨⟨none,0,rfl,Nat.le_refl _,fun h0=>absurd h0 (by simp)⟩,HSU.out.keep (fun p hp=>B2.out.cell hp.1) (fun k hk=>⟨Nat.lt_of_lt_of_le hk.1 B2.out.size,hk.2⟩)⟩)
  clear HV c4 c5 c6 c7 HSU
  go_wp2_with fail
  refine HLAY.out.mono ?_
  intro e w3 hr
  have HR:=LH (hr.bel B2.out)
  obtain rfl:=hr.1
  clear hr HLAY
  go_wp2_with fail
  go_ret
  rw [HX.out]
  exact HR.out
 ·have e5:((ev2:Int) != 0)=true:=by rw [bne_iff_ne];omega
  have HX:=LH (HV.out.trans (if_pos hk))
  have hkk:=LH hk
  clear HV hk
  go_wp2_with fail
  go_ret
  rw [HX.out]
  exact EgR.bad ev2 hkk.out (Turn.of_below B2.out)
theorem eg_dir_end (E:EgA) (sec:Bool) (eg:Eg) (lab:List UInt8) (colon:Bool) (args:List Ar) (v:Value) (i:Nat) (w:World) (h:EgAt w E sec eg) (hok:okSt ⟨lab,colon,sEND,args⟩) (hs:StS w E v args) :
  Calls Tryz.prog 205 #[.pointer (some ⟨E.g,0,none⟩),stV ⟨lab,colon,sEND,args⟩ v,.int .i64 i] w (EgR E sec w (directA sec ⟨lab,colon,sEND,args⟩ i eg)):=by
 have HV:Hid (directA sec ⟨lab,colon,sEND,args⟩ i eg=if args = []∨sec=false∨eg.op≠[] then ({ eg with done:=true },0) else ({ eg with done:=true,entry:=(evA eg (arg0 ⟨lab,colon,sEND,args⟩)).1 },(evA eg (arg0 ⟨lab,colon,sEND,args⟩)).2)):=LH rfl
 have HE:=LH h.end
 have HT0:=LH ((Turn.refl E.own w).set E.g 20 (.bool true) (.inl (mem_own.2 (.inl rfl))))
 have hsz:(w.setCell ⟨E.g,20,none⟩ (.bool true)).heap.size=w.heap.size:=by simp
 have HSS:Hid (StS (w.setCell ⟨E.g,20,none⟩ (.bool true)) E v args):=LH (hs.keep (fun p hp=>World.cell?_of_block (set_block (fun e=>hp.2 (mem_own.2 (.inl e))))) (fun k hk=>⟨by rw [hsz];exact hk.1,hk.2⟩))
 have HFI:=LH (fun W (hW:Below (w.setCell ⟨E.g,20,none⟩ (.bool true)).heap.size (w.setCell ⟨E.g,20,none⟩ (.bool true)) W) (hn:0<args.length)=>eg_first E sec { eg with done:=true } ⟨lab,colon,sEND,args⟩ v W (HE.out.bel hW) hn hok (HSS.out.lt.at hW hW.size))
 have hev:evA { eg with done:=true } (arg0 ⟨lab,colon,sEND,args⟩)=evA eg (arg0 ⟨lab,colon,sEND,args⟩):=rfl
 rw [hev] at HFI
 have HLE:Hid (0<args.length->(evA eg (arg0 ⟨lab,colon,sEND,args⟩)).1<=65535):=LH (fun hn=>evA_le h (arg0 ⟨lab,colon,sEND,args⟩) (arg0_fit hok hn))
 obtain ⟨A,c,rfl,_⟩:=hs.form
 have H:=LH h
 have hg:=h.lt
 obtain ⟨_,k17,_,k19,k20,_⟩:=h.cell
 have f20:=h.free 20
 have B1:=LH ((Below.refl (w.setCell ⟨E.g,20,none⟩ (.bool true)).heap.size (w.setCell ⟨E.g,20,none⟩ (.bool true))).alloc (Nat.le_refl _) (.cells #[.string ⟨lab.toArray⟩,.bool colon,.string ⟨#[69,78,68]⟩,.slice A args.length c] 63))
 generalize evA eg (arg0 ⟨lab,colon,sEND,args⟩)=ev at *
 obtain ⟨ev1,ev2⟩:=ev
 generalize directA sec ⟨lab,colon,sEND,args⟩ i eg=res at *
 unfold stV at *
 simp only at *
 have HT1:=LH (HT0.out.bel B1.out)
 have HE1:=LH (HE.out.bel B1.out)
 clear h hs hok hev hsz
 by_cases h0:args = []
 ·subst h0
  have HX:=LH (HV.out.trans (if_pos (.inl rfl)))
  clear HV
  go_enter Tryz.func205, Tryz.ntmps205
  go_wp2_with fail
  go_ret
  rw [HX.out]
  exact ⟨rfl,E,E.like_refl,HT1.out,fun _=>HE1.out⟩
 have hn:0<args.length:=List.length_pos_iff.2 h0
 have e1:((args.length:Int) == 0)=false:=by rw [beq_eq_false_iff_ne];omega
 cases sec with
 | false=>
  have HX:=LH (HV.out.trans (if_pos (.inr (.inl rfl))))
  clear HV h0
  go_enter Tryz.func205, Tryz.ntmps205
  go_wp2_with fail
  go_ret
  rw [HX.out]
  exact ⟨rfl,E,E.like_refl,HT1.out,fun _=>HE1.out⟩
 | true=>
  by_cases hop:eg.op = []
  ·have hol:eg.op.length=0:=by rw [hop];rfl
   have HX:=LH (HV.out.trans (if_neg (by simp [h0,hop])))
   rw [hol] at k17
   have HL2:=HLE.out hn
   clear HV h0 hop hol
   go_enter Tryz.func205, Tryz.ntmps205
   go_wp2_with fail
   refine (HFI.out _ B1.out hn).mono ?_
   rintro e w2 ⟨rfl,hb2⟩
   have B2:=LH (bthen B1.out hb2)
   have q24:=(HE.out.bel B2.out).cell.2.2.2.2.2.2.2.2.1
   have f24:=(HE.out.bel B2.out).free 24
   have HR:=LH ((HE.out.bel B2.out).enter ev1 HL2)
   have HT2:=LH ((HT0.out.bel B2.out).set E.g 24 (.int .u16 (ev1:Int)) (.inl (mem_own.2 (.inl rfl))))
   clear hb2
   go_wp2_with fail
   go_ret
   rw [HX.out]
   exact ⟨rfl,E,E.like_refl,HT2.out,fun _=>HR.out⟩
  ·have hol:0<eg.op.length:=List.length_pos_iff.2 hop
   have e2:(0:Int)<(eg.op.length:Int):=by omega
   have HX:=LH (HV.out.trans (if_pos (.inr (.inr hop))))
   clear HV h0 hop
   go_enter Tryz.func205, Tryz.ntmps205
   go_wp2_with fail
   go_ret
   rw [HX.out]
   exact ⟨rfl,E,E.like_refl,HT1.out,fun _=>HE1.out⟩
def CodeS (w0 w1 w:World) (O:List Nat):Prop:=w1.heap.size<=w.heap.size/\∀ k,w0.heap.size<=k->k<w1.heap.size->w.heap[k]? = w1.heap[k]?/\k∉O
theorem CodeS.bel {w0 w1 w w':World} {O:List Nat} (h:CodeS w0 w1 w O) (hb:Below w.heap.size w w'):CodeS w0 w1 w' O:=
 ⟨Nat.le_trans h.1 hb.size,fun k h1 h2=>⟨(hb.block k (Nat.lt_of_lt_of_le h2 h.1)).trans (h.2 k h1 h2).1,(h.2 k h1 h2).2⟩⟩
theorem lin0 (w:World) (O:List Nat) (g n:Nat):LinAt w O g (.slice none 0 0) (.slice none 0 0) ⟨n,0,1,[],0,ex0⟩:=⟨⟨none,0,rfl,Nat.le_refl _,fun h0=>absurd h0 (by simp)⟩,SubAt.nil _ _⟩
theorem eg_ins1 (E:EgA) (eg:Eg) (cd:Cd) (hsz:cd.size<=1000) (f:Value) (hff:∃ K c,f=.func K #[] c) (s:St) (v:Value) (i:Nat) (hi:i<=1000000) (w:World) (h:EgAt w E false eg) (hnl:eg.lines.length<=1000000) (hs:ArAt w (· < w.heap.size) v s.args) :
  Calls Tryz.prog 206 #[.pointer (some ⟨E.g,0,none⟩),.agg #[.int .i64 (cd.size:Nat),.int .i64 (eI cd.e),f],stV s v,.int .i64 i] w (EgR E false w (instrA false cd s i eg)):=by
 have HV:Hid (instrA false cd s i eg=layA false eg ⟨i+1,0,1,[],0,ex0⟩ cd.size):=LH rfl
 obtain ⟨A,c,rfl,_⟩:=hs.form
 have H:=LH h
 have hg:=h.lt
 have k19:=h.cell.2.2.2.1
 obtain ⟨fK,fc,rfl⟩:=hff
 generalize instrA false cd s i eg=res at *
 generalize eI cd.e=ei at *
 generalize cd.size=sz at *
 obtain ⟨lab,colon,op,args⟩:=s
 unfold stV
 simp only at *
 have e3:IntKind.i64.wrap ((i:Int)+1)=(i:Int)+1:=by rw [IntWalk.i64_in _ (by omega)]
 have B3:=LH ((((Below.refl w.heap.size w).alloc (Nat.le_refl _) (.cells #[.int .i64 sz,.int .i64 ei,.func fK #[] fc] 288)).alloc (by simp) (.cells #[.string ⟨lab.toArray⟩,.bool colon,.string ⟨op.toArray⟩,.slice A args.length c] 63)).alloc (by simp;omega) (.cells #[.int .i64 ((i:Int)+1),.int .u16 0,.int .i64 1,.slice none 0 0,.int .u16 0,.string ⟨#[]⟩,.int .u16 0,.string ⟨#[]⟩,.slice none 0 0] 140))
 have q19:=(B3.out.cell (p:=⟨E.g,19,none⟩) hg).trans k19
 have HLAY:Hid (∀ W,Below w.heap.size w W->Calls Tryz.prog 237 #[.pointer (some ⟨E.g,0,none⟩),.agg #[.int .i64 ((i:Int)+1),.int .u16 0,.int .i64 1,.slice none 0 0,.int .u16 0,.string ⟨#[]⟩,.int .u16 0,.string ⟨#[]⟩,.slice none 0 0],.int .i64 sz] W (EgR E false W (layA false eg ⟨i+1,0,1,[],0,ex0⟩ sz))):=
  LH (fun W hW=>eg_lay E false eg ⟨i+1,0,1,[],0,ex0⟩ (.slice none 0 0) (.slice none 0 0) sz (by omega) (by simp) hnl W (H.out.bel hW) (lin0 _ _ _ _))
 clear h hs k19
 go_enter Tryz.func206, Tryz.ntmps206
 go_wp2_with fail
 refine (HLAY.out _ B3.out).mono ?_
 intro e w3 hr
 have HR:=LH (hr.bel B3.out)
 obtain rfl:=hr.1
 clear hr HLAY
 go_wp2_with fail
 go_ret
 rw [HV.out]
 exact HR.out
theorem byt_of {w w':World} {v:Value} {b:List UInt8} (h:RdB w' w'.heap.size v b) (hn:NewB w v):BytS w' (fun g=>w.heap.size<=g/\g<w'.heap.size) v b:=by
 obtain ⟨A,c,rfl,h2,h3⟩:=h
 refine ⟨A,c,rfl,h2,fun h0=>?_⟩
 obtain ⟨g,o,rfl,h5,h6⟩:=h3 h0
 exact ⟨g,o,rfl,⟨hn g rfl,h5⟩,h6⟩
def CdOk (cd:Cd) (s:St):Prop:=cd.size<=1000/\(∀ k,cd.e=some k->k<s.args.length)/\∀ pl v t,cd.bytes pl v t=((cd.bytes pl v ([],false)).1,t)/\(cd.bytes pl v ([],false)).1.1.length<=1000
theorem eg_ins2n (E:EgA) (eg:Eg) (cd:Cd) (s:St) (hcd:CdOk cd s) (he:cd.e=none) (w0 w1:World) (u:Value) (hu:CodeAt w0 w1 cd u) (v:Value) (i:Nat) (hi:i<=1000000) (w:World) (hS:CodeS w0 w1 w E.own) (h:EgAt w E true eg) (hnl:eg.lines.length<=1000000) (hs:StS w E v s.args) :
  Calls Tryz.prog 206 #[.pointer (some ⟨E.g,0,none⟩),u,stV s v,.int .i64 i] w (EgR E true w (instrA true cd s i eg)):=by
 have HV:Hid (instrA true cd s i eg=if (cd.bytes eg.pl 0 ([],false)).1.2.2≠0 then (eg,(cd.bytes eg.pl 0 ([],false)).1.2.2) else layA true eg ⟨i+1,0,1,(cd.bytes eg.pl 0 ([],false)).1.1,(cd.bytes eg.pl 0 ([],false)).1.2.1,ex0⟩ cd.size):=LH (by
  unfold instrA
  rw [if_neg (by decide)]
  simp only [he,if_true,(hcd.2.2 eg.pl 0 eg.dl).1]
  rw [if_neg (by simp)]
  rfl)
 obtain ⟨A,c,rfl,_⟩:=hs.form
 have H:=LH h
 have hg:=h.lt
 have hpl:=h.place
 have k19:=h.cell.2.2.2.1
 obtain ⟨fK,caps,rfl,heg,hcall⟩:=hu
 have HB:=LH (fun W (hW:Below w.heap.size w W)=>hcall W eg.pl 0 (fun k h1 h2=>((hS.bel hW).2 k h1 h2).1) (hS.bel hW).1 (by omega))
 have hlen:=(hcd.2.2 eg.pl 0 ([],false)).2
 have hsz:=hcd.1
 generalize instrA true cd s i eg=res at *
 generalize (cd.bytes eg.pl 0 ([],false)).1=bt at *
 obtain ⟨bb,bv',bk⟩:=bt
 rw [he]
 generalize cd.size=sz at *
 obtain ⟨lab,colon,op,args⟩:=s
 unfold stV eI
 simp only at *
 have e3:IntKind.i64.wrap ((i:Int)+1)=(i:Int)+1:=by rw [IntWalk.i64_in _ (by omega)]
 have B3:=LH ((((Below.refl w.heap.size w).alloc (Nat.le_refl _) (.cells #[.int .i64 sz,.int .i64 (-1),.func (.func fK) #[] caps] 288)).alloc (by simp) (.cells #[.string ⟨lab.toArray⟩,.bool colon,.string ⟨op.toArray⟩,.slice A args.length c] 63)).alloc (by simp;omega) (.cells #[.int .i64 ((i:Int)+1),.int .u16 0,.int .i64 1,.slice none 0 0,.int .u16 0,.string ⟨#[]⟩,.int .u16 0,.string ⟨#[]⟩,.slice none 0 0] 140))
 have q19:=(B3.out.cell (p:=⟨E.g,19,none⟩) hg).trans k19
 have q0:=(B3.out.cell (p:=⟨E.g,0,none⟩) hg).trans h.cell.1
 clear h hs k19 hS hcall hcd he
 have O0:=LH (show (((w.alloc (.cells #[.int .i64 sz,.int .i64 (-1),.func (.func fK) #[] caps] 288)).alloc (.cells #[.string ⟨lab.toArray⟩,.bool colon,.string ⟨op.toArray⟩,.slice A args.length c] 63)).alloc (.cells #[.int .i64 ((i:Int)+1),.int .u16 0,.int .i64 1,.slice none 0 0,.int .u16 0,.string ⟨#[]⟩,.int .u16 0,.string ⟨#[]⟩,.slice none 0 0] 140)).heap[w.heap.size]? = some (.cells #[.int .i64 sz,.int .i64 (-1),.func (.func fK) #[] caps] 288 (0,0)) by rw [hao _ _ _ (by simp;omega),hao _ _ _ (by simp)];exact heap_alloc_new w _)
 have O2:=LH (heap_alloc_new ((w.alloc (.cells #[.int .i64 sz,.int .i64 (-1),.func (.func fK) #[] caps] 288)).alloc (.cells #[.string ⟨lab.toArray⟩,.bool colon,.string ⟨op.toArray⟩,.slice A args.length c] 63)) (.cells #[.int .i64 ((i:Int)+1),.int .u16 0,.int .i64 1,.slice none 0 0,.int .u16 0,.string ⟨#[]⟩,.int .u16 0,.string ⟨#[]⟩,.slice none 0 0] 140))
 rw [show ((w.alloc (.cells #[.int .i64 sz,.int .i64 (-1),.func (.func fK) #[] caps] 288)).alloc (.cells #[.string ⟨lab.toArray⟩,.bool colon,.string ⟨op.toArray⟩,.slice A args.length c] 63)).heap.size=w.heap.size+1+1 by simp] at O2
 have hz3:(((w.alloc (.cells #[.int .i64 sz,.int .i64 (-1),.func (.func fK) #[] caps] 288)).alloc (.cells #[.string ⟨lab.toArray⟩,.bool colon,.string ⟨op.toArray⟩,.slice A args.length c] 63)).alloc (.cells #[.int .i64 ((i:Int)+1),.int .u16 0,.int .i64 1,.slice none 0 0,.int .u16 0,.string ⟨#[]⟩,.int .u16 0,.string ⟨#[]⟩,.slice none 0 0] 140)).heap.size=w.heap.size+1+1+1:=by simp
 go_enter Tryz.func206, Tryz.ntmps206
 go_wp2_with fail
 generalize (((w.alloc (.cells #[.int .i64 sz,.int .i64 (-1),.func (.func fK) #[] caps] 288)).alloc (.cells #[.string ⟨lab.toArray⟩,.bool colon,.string ⟨op.toArray⟩,.slice A args.length c] 63)).alloc (.cells #[.int .i64 ((i:Int)+1),.int .u16 0,.int .i64 1,.slice none 0 0,.int .u16 0,.string ⟨#[]⟩,.int .u16 0,.string ⟨#[]⟩,.slice none 0 0] 140))=w3 at *
 have u2:=coh (i:=2) O0.out
 simp at u2
 have HZ3:=LH hz3
 have hzz:w.heap.size+1+1<w3.heap.size:=by omega
 clear hz3
 go_cut [11,39,40,41,42,43,44,45,46,47,48,49,50,51,52,53] (fun k11 _ _ _ _ _ _ _ _ _ _ _ _ _ _ _ wx=>∃ bA bc,k11=.int .i64 bk/\Below w.heap.size w wx/\BytS wx (fun g=>w.heap.size<=g/\g<wx.heap.size) (.slice bA bb.length bc) bb /\
  wx.heap[w.heap.size]? = some (.cells #[.int .i64 sz,.int .i64 (-1),.func (.func fK) #[] caps] 288 (0,0))/\wx.heap[w.heap.size+1+1]? = some (.cells #[.int .i64 ((i:Int)+1),.int .u16 0,.int .i64 1,.slice bA bb.length bc,.int .u16 bv',.string ⟨#[]⟩,.int .u16 0,.string ⟨#[]⟩,.slice none 0 0] 140 (0,0)))
 case first=>
  go_region_with (first | (refine (HB.out _ B3.out.drew).mono ?_;rintro e w4 ⟨yv,rfl,hrd,hnew,hb4⟩;obtain ⟨yA,yc,rfl,_⟩:=hrd.form;have O4:=(hb4.block (w.heap.size+1+1) hzz).trans O2.out;have y3:=coh (i:=3) O4;have y4:=coh (i:=4) O4;have f3:=foh (i:=3) O4;have f4:=foh (i:=4) O4;simp at y3 y4 f3 f4))
  all_goals (
   have HBY:=LH (byt_of hrd hnew)
   have B4:=LH (bthen B3.out.drew hb4)
   have O5:=LH (heap_set (i:=4) (.int .u16 bv') (heap_set (i:=3) (.slice yA bb.length yc) O4))
   have O6:=LH ((hb4.block w.heap.size (by show w.heap.size<w3.heap.size;omega)).trans O0.out)
   have hz4:w3.heap.size<=w4.heap.size:=hb4.size
   have HZ4:=LH hz4
   clear hb4 hrd hnew O4 hz4
   go_simp
   go_wp2_with fail
   go_meet
   refine ⟨yA,yc,rfl,?_,?_,?_,?_⟩
   ·exact ((B4.out.setCell (by show w.heap.size<=w.heap.size+1+1;omega) _).setCell (by show w.heap.size<=w.heap.size+1+1;omega) _)
   ·have h4:=HZ4.out
    exact HBY.out.keep (fun p hp=>(World.cell?_of_block (set_block (by have:=hp.1;have h5:w3.heap.size<=p.block:=this;omega))).trans (World.cell?_of_block (set_block (by have:=hp.1;have h5:w3.heap.size<=p.block:=this;omega)))) (fun g hg=>⟨by have:w3.heap.size<=g:=hg.1;omega,by simpa using hg.2⟩)
   ·exact ((set_block (by omega)).trans (set_block (by omega))).trans O6.out
   ·exact O5.out)
 case rest=>
  obtain ⟨bA,bc,rfl,hbx,hbs,hO,hL⟩:=hcut
  have BX:=LH hbx
  have HBS:=LH hbs
  have x0:=coh (i:=0) hO
  have y0:=coh (i:=0) hL
  have y1:=coh (i:=1) hL
  have y2:=coh (i:=2) hL
  have y3:=coh (i:=3) hL
  have y4:=coh (i:=4) hL
  have y5:=coh (i:=5) hL
  have y6:=coh (i:=6) hL
  have y7:=coh (i:=7) hL
  have y8:=coh (i:=8) hL
  simp at x0 y0 y1 y2 y3 y4 y5 y6 y7 y8
  clear hbx hbs hO hL u2 q0 q19
  by_cases hk:bk=0
  ·subst hk
   have HX:=LH (HV.out.trans (if_neg (by simp)))
   have HLAY:Hid (Calls Tryz.prog 237 #[.pointer (some ⟨E.g,0,none⟩),.agg #[.int .i64 ((i:Int)+1),.int .u16 0,.int .i64 1,.slice bA bb.length bc,.int .u16 bv',.string ⟨#[]⟩,.int .u16 0,.string ⟨#[]⟩,.slice none 0 0],.int .i64 sz] wc (EgR E true wc (layA true eg ⟨i+1,0,1,bb,bv',ex0⟩ sz))):=
    LH (eg_lay E true eg ⟨i+1,0,1,bb,bv',ex0⟩ (.slice bA bb.length bc) (.slice none 0 0) sz (by omega) (by show bb.length<=1000000;omega) hnl wc (H.out.bel BX.out) ⟨HBS.out.keep (fun _ _=>rfl) (fun k hk=>⟨⟨hk.2,fun hm=>by have h1:=H.out.owned k hm;have h2:=hk.1;omega⟩,Nat.lt_of_lt_of_le H.out.lt hk.1⟩),SubAt.nil _ _⟩)
   clear HV
   go_wp2_with fail
   refine HLAY.out.mono ?_
   intro e w5 hr
   have HR:=LH (hr.bel BX.out)
   obtain rfl:=hr.1
   clear hr HLAY
   go_wp2_with fail
   go_ret
   rw [HX.out]
   exact HR.out
  ·have e5:((bk:Int) != 0)=true:=by rw [bne_iff_ne];omega
   have HX:=LH (HV.out.trans (if_pos hk))
   have hkk:=LH hk
   clear HV hk
   go_wp2_with fail
   go_ret
   rw [HX.out]
   exact EgR.bad bk hkk.out (Turn.of_below BX.out)
end Go.Proofs.YtbdnbfacalfciaaGreatDoor
